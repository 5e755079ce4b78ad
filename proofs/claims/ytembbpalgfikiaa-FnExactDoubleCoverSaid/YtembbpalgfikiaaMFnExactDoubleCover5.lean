/- The statement FnExactDoubleCoverSaid, proved: part 5 of 6 (texts of this session and of the kit's print, put together and cut to what is used by a program of it). -/
import Derived.Test.YtembbpalgfikiaaMFnExactDoubleCover4
import Derived.Deep.Slices
import Derived.ChangeSame
import Derived.ChangeArms
import Derived.WideShapes
import Derived.Lib.SmallJoins
import Derived.ChangeShapes
namespace Go.Proofs.Ytembbpalgfikiaa.P
open Go.RowKit Go.Proofs.YtembbpalgfikiaaW.PrintWords Go.Proofs.YtembbpalgfikiaaW.PrintLast Go.Proofs.YtembbpalgfikiaaW.PrintMore
attribute [local go_sem] max2_int min2_int max_two min_two max_three min_three max_four min_four   -- for this text's walks alone
set_option linter.unusedVariables false
set_option linter.unusedSimpArgs false
/-! ### spec_DoubleCover: function 41 -/
mutual
def spec_DoubleCover.l0 : Nat → Int → Int → List (List (SFace)) → List (List (SFace)) → Option ((List (List (SFace))) × Int)
 | 0, _, _, _, _ => none
 | k + 1, x4, x6, x102000, x106000 => if x6 < (wrap64 (2 * x4)) then ((spec_l07Free.f).bind fun t106 => (spec_DoubleCover.l1 k x4 x6 t106 0 x102000 x106000)) else (some (x106000, 0))
def spec_DoubleCover.l1 : Nat → Int → Int → List (SFace) → Int → List (List (SFace)) → List (List (SFace)) → Option ((List (List (SFace))) × Int)
 | 0, _, _, _, _, _, _ => none
 | k + 1, x4, x6, x7, x8, x102000, x106000 => if x8 < 4 then (if x4 = 0 then (none) else (if 0 ≤ (Int.tmod x6 x4) then (if (Int.tmod x6 x4) < (x102000.length : Int) then (if 0 ≤ x8 then (if x8 < ((rd_LFace x102000 (Int.tmod x6 x4)).length : Int) then (if ((rd_Face (rd_LFace x102000 (Int.tmod x6 x4)) x8).f0) < 0 then (spec_DoubleCover.l1 k x4 x6 x7 (wrap64 (x8 + 1)) x102000 x106000) else ((spec_SignPerm4.f k ((rd_Face (rd_LFace x102000 (Int.tmod x6 x4)) x8).f1)).bind fun t115 => (if t115 = 1 then (if x8 < (x7.length : Int) then (spec_DoubleCover.l1 k x4 x6 (x7.set (x8 : Int).toNat (⟨wrap64 (((rd_Face (rd_LFace x102000 (Int.tmod x6 x4)) x8).f0) + (wrap64 (x4 * (wrap64 (1 - (wrap64 (Int.tdiv x6 x4))))))), (rd_Face (rd_LFace x102000 (Int.tmod x6 x4)) x8).f1⟩ : SFace)) (wrap64 (x8 + 1)) x102000 x106000) else (none)) else (if x8 < (x7.length : Int) then (spec_DoubleCover.l1 k x4 x6 (x7.set (x8 : Int).toNat (⟨wrap64 (((rd_Face (rd_LFace x102000 (Int.tmod x6 x4)) x8).f0) + (wrap64 (x4 * (wrap64 (Int.tdiv x6 x4))))), (rd_Face (rd_LFace x102000 (Int.tmod x6 x4)) x8).f1⟩ : SFace)) (wrap64 (x8 + 1)) x102000 x106000) else (none))))) else (none)) else (none)) else (none)) else (none))) else (if x106000.length < 5864062014805 then (spec_DoubleCover.l0 k x4 (wrap64 (x6 + 1)) x102000 (x106000 ++ [x7])) else (none))
end
def spec_DoubleCover.f (k : Nat) (l0_0 : List (List (SFace))) : Option ((List (List (SFace))) × Int) := (spec_IsTriangulation.f k l0_0).bind fun t103 => (if t103 = true then ((spec_l07Tets.f l0_0).bind fun t104 => (if (wrap64 (2 * t104)) > 8 then (some (([] : List (List (SFace))), 3)) else (spec_DoubleCover.l0 k t104 0 l0_0 ([] : List (List (SFace)))))) else (some (([] : List (List (SFace))), 1)))
def spec_DoubleCover.T14 : Bool × List (List Nat × List Nat) := (true, [([], []), ([0], [0]), ([], []), ([], []), ([2, 3], [2, 3]), ([1, 4], [1, 4]), ([5], [5]), ([], []), ([6, 7], [6, 7]), ([8], [8]), ([], []), ([10, 9, 0, 1, 2, 3, 4, 5, 6, 7, 8, 9, 10], [9, 10])])
def spec_DoubleCover.B14 : List Nat := [0, 1, 0, 0, 12, 31, 63, 0, 255, 511, 0, 2047]
theorem spec_DoubleCover.tab14 : rtab .any (opsOf Try.f41 14) = spec_DoubleCover.T14 := by kernel_rfl
theorem spec_DoubleCover.bits14 : waitsOk spec_DoubleCover.T14.2 spec_DoubleCover.B14 = true := by kernel_rfl
set_option maxHeartbeats 8000000 in
set_option maxRecDepth 100000 in
theorem spec_DoubleCover.calls (k : Nat) (A0_0 : Option Addr) (c0_0 : Nat) (l0_0 : List (List (SFace))) (r1 : List (List (SFace))) (r2 : Int) (w : World) (hr0_0 : Kd.C (Kd.slice 75 kFace) w A0_0 l0_0.length l0_0) (hc0_0 : l0_0.length ≤ c0_0) (h : spec_DoubleCover.f k l0_0 = some (r1, r2)) :
 Calls Try.prog 41 #[.agg #[.slice A0_0 l0_0.length c0_0]] w fun e w' => ∃ v0_ : Value, e = .returned (.tuple #[.agg #[v0_], .int .i64 r2]) ∧ Kd.S (Kd.slice 75 kFace) 76 w' w.heap.size (fun _ => True) v0_ r1 ∧ Below w.heap.size w w' := by
 have hu35 := Try.underlying35
 have hu75 := Try.underlying75
 have HR0_0 := Aside0.mk hr0_0
 have HC0_0 := Aside0.mk hc0_0
 clear hr0_0 hc0_0
 have HB := Aside0.mk (Below.refl w.heap.size w)
 have H : ((spec_IsTriangulation.f k l0_0).bind fun t103 => (if t103 = true then ((spec_l07Tets.f l0_0).bind fun t104 => (if (wrap64 (2 * t104)) > 8 then (some (([] : List (List (SFace))), 3)) else (spec_DoubleCover.l0 k t104 0 l0_0 ([] : List (List (SFace)))))) else (some (([] : List (List (SFace))), 1)))) = some (r1, r2) := h
 clear h
 replace H := ydy.mp H
 obtain ⟨t103, A20, H⟩ := H
 replace H : (if t103 = true then ((spec_l07Tets.f l0_0).bind fun t104 => (if (wrap64 (2 * t104)) > 8 then (some (([] : List (List (SFace))), 3)) else (spec_DoubleCover.l0 k t104 0 l0_0 ([] : List (List (SFace)))))) else (some (([] : List (List (SFace))), 1))) = some (r1, r2) := H
 have A2 := Aside0.mk A20
 clear A20
 by_cases c3 : t103 = true
 rotate_left
 next =>
  replace c3 := Bool.eq_false_iff.mpr c3
  subst c3
  have H1 : (some (([] : List (List (SFace))), 1)) = some (r1, r2) := by rw [if_neg (show ¬ (false = true) by decide)] at H; exact H
  clear H
  have H := H1
  clear H1
  simp only [Option.some.injEq, Prod.mk.injEq] at H
  obtain ⟨rfl, rfl⟩ := H
  go_enter Try.func41, Try.ntmps41
  go_wp2_with (first | ((with_reducible refine gate_dst (N := 1) rfl ?_); refine box_event ?hg (N := 1) ?hd (cs := #[.slice A0_0 l0_0.length c0_0]) (t := 35) ?hr ?_; (case hd => rfl); (case hg => rfl); (case hr => first | (go_simp; done) | (go_simp; rfl)); intro gb101 hg w88 hbox hb; have n0_ := Aside0.mk (below_step (by repeat (first | (with_reducible first | exact HB.out | apply below_alloc | apply pw_below_drewN | apply below_drew1) | exact HB.out)) hb); have n1_ := Aside0.mk (hbox); have n2_ := Aside0.mk ((by rw [hg]; exact (below_size (by repeat (first | (with_reducible first | exact HB.out | apply below_alloc | apply pw_below_drewN | apply below_drew1) | exact HB.out))) : w.heap.size ≤ gb101)); have n3_ := Aside0.mk ((by rw [hg]; exact (below_size (by repeat (first | (with_reducible first | exact HB.out | apply below_alloc | apply pw_below_drewN | apply below_drew1) | exact HB.out))) : w.heap.size ≤ gb101)); clear HB; have HB := n0_; have BK101 := n1_; have GW101 := n2_; have GE101 := n3_; clear n0_ n1_ n2_ n3_; clear hb hbox hg) | ((with_reducible refine gate_dst (N := 2) rfl ?_); refine box_event ?hg (N := 2) ?hd (cs := #[.slice none 0 0]) (t := 35) ?hr ?_; (case hd => rfl); (case hg => rfl); (case hr => first | (go_simp; done) | (go_simp; rfl)); intro gb102 hg w89 hbox hb; have n0_ := Aside0.mk (blk_below (g := gb101) (o := .cells #[.slice A0_0 l0_0.length c0_0] 35 (0, 0)) (by (with_reducible repeat (first | refine blk_drewN ?_ _ | refine blk_drew ?_ | refine blk_alloc ?_ _)); exact BK101.out) hb); have n1_ := Aside0.mk (below_step (by repeat (first | (with_reducible first | exact HB.out | apply below_alloc | apply pw_below_drewN | apply below_drew1 | refine below_set ?_ GE101.out) | exact HB.out)) hb); have n2_ := Aside0.mk (hbox); have n3_ := Aside0.mk ((by rw [hg]; exact (below_size (by repeat (first | (with_reducible first | exact HB.out | apply below_alloc | apply pw_below_drewN | apply below_drew1 | refine below_set ?_ GE101.out) | exact HB.out))) : w.heap.size ≤ gb102)); have n4_ := Aside0.mk ((by rw [hg]; exact (below_size (by repeat (first | (with_reducible first | exact HB.out | apply below_alloc | apply pw_below_drewN | apply below_drew1 | refine below_set ?_ GE101.out) | exact HB.out))) : w.heap.size ≤ gb102)); have n5_ := Aside0.mk ((by rw [hg]; exact Nat.ne_of_lt (blk_lt (g := gb101) (o := .cells #[.slice A0_0 l0_0.length c0_0] 35 (0, 0)) (by (with_reducible repeat (first | refine blk_drewN ?_ _ | refine blk_drew ?_ | refine blk_alloc ?_ _)); exact BK101.out)) : gb101 ≠ gb102)); have n6_ := Aside0.mk ((by rw [hg]; exact Nat.ne_of_gt (blk_lt (g := gb101) (o := .cells #[.slice A0_0 l0_0.length c0_0] 35 (0, 0)) (by (with_reducible repeat (first | refine blk_drewN ?_ _ | refine blk_drew ?_ | refine blk_alloc ?_ _)); exact BK101.out)) : gb102 ≠ gb101)); clear BK101; clear HB; have BK101 := n0_; have HB := n1_; have BK102 := n2_; have GW102 := n3_; have GE102 := n4_; have NB101_102 := n5_; have NB102_101 := n6_; clear n0_ n1_ n2_ n3_ n4_ n5_ n6_; clear hb hbox hg; have hnb90 := NB101_102.out; have hnc90 := NB102_101.out; have hcz91_0 : w89.cell? ⟨gb101, 0, none⟩ = some (.slice A0_0 l0_0.length c0_0) := (blk_cell BK101.out 0).trans rfl; have hfz91_0 := blk_frozen BK101.out 0) | ((with_reducible refine gate_callee (f := 47) rfl ?_); refine goesL_ (some 12) rfl rfl Try.func47 (by kernel_rfl) rfl #[.agg #[.slice A0_0 l0_0.length c0_0]] rfl (by (try simp only [yiy, yjy, yky]); first | done | rfl | (simp only [yly, ymy]; rfl)) ?_; (with_reducible refine (spec_IsTriangulation.calls k _ _ l0_0 false _ ?side1 ?side2 A2.out).mono ?_); (case side1 => repeat (first | exact (Kd.C_below HR0_0.out HB.out) | (with_reducible refine Kd.C_alloc ?_ _) | (with_reducible refine Kd.C_drewN ?_ _) | (with_reducible refine Kd.C_drew ?_))); (case side2 => exact HC0_0.out); rintro e w92 ⟨rfl, hb⟩; refine ⟨_, rfl, ?_⟩; have n0_ := Aside0.mk (blk_below (g := gb101) (o := .cells #[.slice A0_0 l0_0.length c0_0] 35 (0, 0)) (by (with_reducible repeat (first | refine blk_drewN ?_ _ | refine blk_drew ?_ | refine blk_alloc ?_ _)); exact BK101.out) hb); have n1_ := Aside0.mk (blk_below (g := gb102) (o := .cells #[.slice none 0 0] 35 (0, 0)) (by (with_reducible repeat (first | refine blk_drewN ?_ _ | refine blk_drew ?_ | refine blk_alloc ?_ _)); exact BK102.out) hb); have n2_ := Aside0.mk (below_step (by repeat (first | (with_reducible first | exact HB.out | apply below_alloc | apply pw_below_drewN | apply below_drew1 | refine below_set ?_ GE101.out | refine below_set ?_ GE102.out) | exact HB.out)) hb); clear BK101; clear BK102; clear HB; have BK101 := n0_; have BK102 := n1_; have HB := n2_; clear n0_ n1_ n2_; (try clear hb); (try clear hb2); (try clear hk); (try clear hi); have hcz93_0 : w92.cell? ⟨gb102, 0, none⟩ = some (.slice none 0 0) := (blk_cell BK102.out 0).trans rfl; have hfz93_0 := blk_frozen BK102.out 0))
  refine bodyPost_ret (results_ct rfl _ _ gb102 35 #[.slice none 0 0] (0, 0) _ rfl (by (with_reducible repeat (first | refine blk_drewN ?_ _ | refine blk_drew ?_ | refine blk_alloc ?_ _)); refine blk_put (cs := #[.slice none 0 0]) ?_ 0 _ rfl; (with_reducible repeat (first | refine blk_drewN ?_ _ | refine blk_drew ?_ | refine blk_alloc ?_ _)); exact BK102.out) Try.underlying35 rfl (by kernel_rfl)) rfl ?_
  exact ⟨_, by first | rfl | (simp [errW_none, errW_some] <;> rfl) | (simp [*, errW_none, errW_some] <;> rfl), by first | exact Kd.S_nil _ _ _ _ _ | exact Kd.N_nil _ _ _ _ _ | exact Kd.V_nil _ _ _ _ _ | exact Kd.Q_nil _ _ _ _ _ | exact Kd.R_nil _ _ _ _ _, by repeat (first | (with_reducible first | exact HB.out | apply below_alloc | apply pw_below_drewN | apply below_drew1 | refine below_set ?_ GE101.out | refine below_set ?_ GE102.out) | exact HB.out)⟩
 subst c3
 have H1 : ((spec_l07Tets.f l0_0).bind fun t104 => (if (wrap64 (2 * t104)) > 8 then (some (([] : List (List (SFace))), 3)) else (spec_DoubleCover.l0 k t104 0 l0_0 ([] : List (List (SFace)))))) = some (r1, r2) := by rw [if_pos rfl] at H; exact H
 clear H
 have H := H1
 clear H1
 replace H := ydy.mp H
 obtain ⟨t104, A40, H⟩ := H
 replace H : (if (wrap64 (2 * t104)) > 8 then (some (([] : List (List (SFace))), 3)) else (spec_DoubleCover.l0 k t104 0 l0_0 ([] : List (List (SFace))))) = some (r1, r2) := H
 have A4 := Aside0.mk A40
 clear A40
 by_cases c5 : (wrap64 (2 * t104)) > 8
 next =>
  rw [if_pos c5] at H
  have c5b0 : decide (8 < (wrap64 (2 * t104))) = true := ygy c5
  clear c5
  simp only [Option.some.injEq, Prod.mk.injEq] at H
  obtain ⟨rfl, rfl⟩ := H
  go_enter Try.func41, Try.ntmps41
  go_wp2_with (first | ((with_reducible refine gate_dst (N := 1) rfl ?_); refine box_event ?hg (N := 1) ?hd (cs := #[.slice A0_0 l0_0.length c0_0]) (t := 35) ?hr ?_; (case hd => rfl); (case hg => rfl); (case hr => first | (go_simp; done) | (go_simp; rfl)); intro gb101 hg w6 hbox hb; have n0_ := Aside0.mk (below_step (by repeat (first | (with_reducible first | exact HB.out | apply below_alloc | apply pw_below_drewN | apply below_drew1) | exact HB.out)) hb); have n1_ := Aside0.mk (hbox); have n2_ := Aside0.mk ((by rw [hg]; exact (below_size (by repeat (first | (with_reducible first | exact HB.out | apply below_alloc | apply pw_below_drewN | apply below_drew1) | exact HB.out))) : w.heap.size ≤ gb101)); have n3_ := Aside0.mk ((by rw [hg]; exact (below_size (by repeat (first | (with_reducible first | exact HB.out | apply below_alloc | apply pw_below_drewN | apply below_drew1) | exact HB.out))) : w.heap.size ≤ gb101)); clear HB; have HB := n0_; have BK101 := n1_; have GW101 := n2_; have GE101 := n3_; clear n0_ n1_ n2_ n3_; clear hb hbox hg) | ((with_reducible refine gate_dst (N := 2) rfl ?_); refine box_event ?hg (N := 2) ?hd (cs := #[.slice none 0 0]) (t := 35) ?hr ?_; (case hd => rfl); (case hg => rfl); (case hr => first | (go_simp; done) | (go_simp; rfl)); intro gb102 hg w7 hbox hb; have n0_ := Aside0.mk (blk_below (g := gb101) (o := .cells #[.slice A0_0 l0_0.length c0_0] 35 (0, 0)) (by (with_reducible repeat (first | refine blk_drewN ?_ _ | refine blk_drew ?_ | refine blk_alloc ?_ _)); exact BK101.out) hb); have n1_ := Aside0.mk (below_step (by repeat (first | (with_reducible first | exact HB.out | apply below_alloc | apply pw_below_drewN | apply below_drew1 | refine below_set ?_ GE101.out) | exact HB.out)) hb); have n2_ := Aside0.mk (hbox); have n3_ := Aside0.mk ((by rw [hg]; exact (below_size (by repeat (first | (with_reducible first | exact HB.out | apply below_alloc | apply pw_below_drewN | apply below_drew1 | refine below_set ?_ GE101.out) | exact HB.out))) : w.heap.size ≤ gb102)); have n4_ := Aside0.mk ((by rw [hg]; exact (below_size (by repeat (first | (with_reducible first | exact HB.out | apply below_alloc | apply pw_below_drewN | apply below_drew1 | refine below_set ?_ GE101.out) | exact HB.out))) : w.heap.size ≤ gb102)); have n5_ := Aside0.mk ((by rw [hg]; exact Nat.ne_of_lt (blk_lt (g := gb101) (o := .cells #[.slice A0_0 l0_0.length c0_0] 35 (0, 0)) (by (with_reducible repeat (first | refine blk_drewN ?_ _ | refine blk_drew ?_ | refine blk_alloc ?_ _)); exact BK101.out)) : gb101 ≠ gb102)); have n6_ := Aside0.mk ((by rw [hg]; exact Nat.ne_of_gt (blk_lt (g := gb101) (o := .cells #[.slice A0_0 l0_0.length c0_0] 35 (0, 0)) (by (with_reducible repeat (first | refine blk_drewN ?_ _ | refine blk_drew ?_ | refine blk_alloc ?_ _)); exact BK101.out)) : gb102 ≠ gb101)); clear BK101; clear HB; have BK101 := n0_; have HB := n1_; have BK102 := n2_; have GW102 := n3_; have GE102 := n4_; have NB101_102 := n5_; have NB102_101 := n6_; clear n0_ n1_ n2_ n3_ n4_ n5_ n6_; clear hb hbox hg; have hnb8 := NB101_102.out; have hnc8 := NB102_101.out; have hcz9_0 : w7.cell? ⟨gb101, 0, none⟩ = some (.slice A0_0 l0_0.length c0_0) := (blk_cell BK101.out 0).trans rfl; have hfz9_0 := blk_frozen BK101.out 0) | ((with_reducible refine gate_callee (f := 47) rfl ?_); refine goesL_ (some 12) rfl rfl Try.func47 (by kernel_rfl) rfl #[.agg #[.slice A0_0 l0_0.length c0_0]] rfl (by (try simp only [yiy, yjy, yky]); first | done | rfl | (simp only [yly, ymy]; rfl)) ?_; (with_reducible refine (spec_IsTriangulation.calls k _ _ l0_0 true _ ?side1 ?side2 A2.out).mono ?_); (case side1 => repeat (first | exact (Kd.C_below HR0_0.out HB.out) | (with_reducible refine Kd.C_alloc ?_ _) | (with_reducible refine Kd.C_drewN ?_ _) | (with_reducible refine Kd.C_drew ?_))); (case side2 => exact HC0_0.out); rintro e w10 ⟨rfl, hb⟩; refine ⟨_, rfl, ?_⟩; have n0_ := Aside0.mk (blk_below (g := gb101) (o := .cells #[.slice A0_0 l0_0.length c0_0] 35 (0, 0)) (by (with_reducible repeat (first | refine blk_drewN ?_ _ | refine blk_drew ?_ | refine blk_alloc ?_ _)); exact BK101.out) hb); have n1_ := Aside0.mk (blk_below (g := gb102) (o := .cells #[.slice none 0 0] 35 (0, 0)) (by (with_reducible repeat (first | refine blk_drewN ?_ _ | refine blk_drew ?_ | refine blk_alloc ?_ _)); exact BK102.out) hb); have n2_ := Aside0.mk (below_step (by repeat (first | (with_reducible first | exact HB.out | apply below_alloc | apply pw_below_drewN | apply below_drew1 | refine below_set ?_ GE101.out | refine below_set ?_ GE102.out) | exact HB.out)) hb); clear BK101; clear BK102; clear HB; have BK101 := n0_; have BK102 := n1_; have HB := n2_; clear n0_ n1_ n2_; (try clear hb); (try clear hb2); (try clear hk); (try clear hi); have hcz11_0 : w10.cell? ⟨gb101, 0, none⟩ = some (.slice A0_0 l0_0.length c0_0) := (blk_cell BK101.out 0).trans rfl; have hfz11_0 := blk_frozen BK101.out 0) | ((with_reducible refine gate_callee (f := 66) rfl ?_); refine goesL_ (some 16) rfl rfl Try.func66 (by kernel_rfl) rfl #[.agg #[.slice A0_0 l0_0.length c0_0]] rfl (by (try simp only [yiy, yjy, yky]); first | done | rfl | (simp only [yly, ymy]; rfl)) ?_; (with_reducible refine (spec_l07Tets.calls _ _ l0_0 t104 _ ?side1 ?side2 A4.out).mono ?_); (case side1 => repeat (first | exact (Kd.C_below HR0_0.out HB.out) | (with_reducible refine Kd.C_alloc ?_ _) | (with_reducible refine Kd.C_drewN ?_ _) | (with_reducible refine Kd.C_drew ?_))); (case side2 => exact HC0_0.out); rintro e w12 ⟨rfl, hb⟩; refine ⟨_, rfl, ?_⟩; have n0_ := Aside0.mk (blk_below (g := gb101) (o := .cells #[.slice A0_0 l0_0.length c0_0] 35 (0, 0)) (by (with_reducible repeat (first | refine blk_drewN ?_ _ | refine blk_drew ?_ | refine blk_alloc ?_ _)); exact BK101.out) hb); have n1_ := Aside0.mk (blk_below (g := gb102) (o := .cells #[.slice none 0 0] 35 (0, 0)) (by (with_reducible repeat (first | refine blk_drewN ?_ _ | refine blk_drew ?_ | refine blk_alloc ?_ _)); exact BK102.out) hb); have n2_ := Aside0.mk (below_step (by repeat (first | (with_reducible first | exact HB.out | apply below_alloc | apply pw_below_drewN | apply below_drew1 | refine below_set ?_ GE101.out | refine below_set ?_ GE102.out) | exact HB.out)) hb); clear BK101; clear BK102; clear HB; have BK101 := n0_; have BK102 := n1_; have HB := n2_; clear n0_ n1_ n2_; (try clear hb); (try clear hb2); (try clear hk); (try clear hi); have hcz13_0 : w12.cell? ⟨gb102, 0, none⟩ = some (.slice none 0 0) := (blk_cell BK102.out 0).trans rfl; have hfz13_0 := blk_frozen BK102.out 0))
  refine bodyPost_ret (results_ct rfl _ _ gb102 35 #[.slice none 0 0] (0, 0) _ rfl (by (with_reducible repeat (first | refine blk_drewN ?_ _ | refine blk_drew ?_ | refine blk_alloc ?_ _)); refine blk_put (cs := #[.slice none 0 0]) ?_ 0 _ rfl; (with_reducible repeat (first | refine blk_drewN ?_ _ | refine blk_drew ?_ | refine blk_alloc ?_ _)); exact BK102.out) Try.underlying35 rfl (by kernel_rfl)) rfl ?_
  exact ⟨_, by first | rfl | (simp [errW_none, errW_some] <;> rfl) | (simp [*, errW_none, errW_some] <;> rfl), by first | exact Kd.S_nil _ _ _ _ _ | exact Kd.N_nil _ _ _ _ _ | exact Kd.V_nil _ _ _ _ _ | exact Kd.Q_nil _ _ _ _ _ | exact Kd.R_nil _ _ _ _ _, by repeat (first | (with_reducible first | exact HB.out | apply below_alloc | apply pw_below_drewN | apply below_drew1 | refine below_set ?_ GE101.out | refine below_set ?_ GE102.out) | exact HB.out)⟩
 next =>
  rw [if_neg c5] at H
  have c5b0 : decide (8 < (wrap64 (2 * t104))) = false := yhy c5
  clear c5
  have H' := Aside0.mk H
  clear H
  go_enter Try.func41, Try.ntmps41
  go_wp2_with (first | ((with_reducible refine gate_dst (N := 1) rfl ?_); refine box_event ?hg (N := 1) ?hd (cs := #[.slice A0_0 l0_0.length c0_0]) (t := 35) ?hr ?_; (case hd => rfl); (case hg => rfl); (case hr => first | (go_simp; done) | (go_simp; rfl)); intro gb101 hg w14 hbox hb; have n0_ := Aside0.mk (below_step (by repeat (first | (with_reducible first | exact HB.out | apply below_alloc | apply pw_below_drewN | apply below_drew1) | exact HB.out)) hb); have n1_ := Aside0.mk (hbox); have n2_ := Aside0.mk ((by rw [hg]; exact (below_size (by repeat (first | (with_reducible first | exact HB.out | apply below_alloc | apply pw_below_drewN | apply below_drew1) | exact HB.out))) : w.heap.size ≤ gb101)); have n3_ := Aside0.mk ((by rw [hg]; exact (below_size (by repeat (first | (with_reducible first | exact HB.out | apply below_alloc | apply pw_below_drewN | apply below_drew1) | exact HB.out))) : w.heap.size ≤ gb101)); clear HB; have HB := n0_; have BK101 := n1_; have GW101 := n2_; have GE101 := n3_; clear n0_ n1_ n2_ n3_; clear hb hbox hg) | ((with_reducible refine gate_dst (N := 2) rfl ?_); refine box_event ?hg (N := 2) ?hd (cs := #[.slice none 0 0]) (t := 35) ?hr ?_; (case hd => rfl); (case hg => rfl); (case hr => first | (go_simp; done) | (go_simp; rfl)); intro gb102 hg w15 hbox hb; have n0_ := Aside0.mk (blk_below (g := gb101) (o := .cells #[.slice A0_0 l0_0.length c0_0] 35 (0, 0)) (by (with_reducible repeat (first | refine blk_drewN ?_ _ | refine blk_drew ?_ | refine blk_alloc ?_ _)); exact BK101.out) hb); have n1_ := Aside0.mk (below_step (by repeat (first | (with_reducible first | exact HB.out | apply below_alloc | apply pw_below_drewN | apply below_drew1 | refine below_set ?_ GE101.out) | exact HB.out)) hb); have n2_ := Aside0.mk (hbox); have n3_ := Aside0.mk ((by rw [hg]; exact (below_size (by repeat (first | (with_reducible first | exact HB.out | apply below_alloc | apply pw_below_drewN | apply below_drew1 | refine below_set ?_ GE101.out) | exact HB.out))) : w.heap.size ≤ gb102)); have n4_ := Aside0.mk ((by rw [hg]; exact (below_size (by repeat (first | (with_reducible first | exact HB.out | apply below_alloc | apply pw_below_drewN | apply below_drew1 | refine below_set ?_ GE101.out) | exact HB.out))) : w.heap.size ≤ gb102)); have n5_ := Aside0.mk ((by rw [hg]; exact Nat.ne_of_lt (blk_lt (g := gb101) (o := .cells #[.slice A0_0 l0_0.length c0_0] 35 (0, 0)) (by (with_reducible repeat (first | refine blk_drewN ?_ _ | refine blk_drew ?_ | refine blk_alloc ?_ _)); exact BK101.out)) : gb101 ≠ gb102)); have n6_ := Aside0.mk ((by rw [hg]; exact Nat.ne_of_gt (blk_lt (g := gb101) (o := .cells #[.slice A0_0 l0_0.length c0_0] 35 (0, 0)) (by (with_reducible repeat (first | refine blk_drewN ?_ _ | refine blk_drew ?_ | refine blk_alloc ?_ _)); exact BK101.out)) : gb102 ≠ gb101)); clear BK101; clear HB; have BK101 := n0_; have HB := n1_; have BK102 := n2_; have GW102 := n3_; have GE102 := n4_; have NB101_102 := n5_; have NB102_101 := n6_; clear n0_ n1_ n2_ n3_ n4_ n5_ n6_; clear hb hbox hg; have hnb16 := NB101_102.out; have hnc16 := NB102_101.out; have hcz17_0 : w15.cell? ⟨gb101, 0, none⟩ = some (.slice A0_0 l0_0.length c0_0) := (blk_cell BK101.out 0).trans rfl; have hfz17_0 := blk_frozen BK101.out 0) | ((with_reducible refine gate_callee (f := 47) rfl ?_); refine goesL_ (some 12) rfl rfl Try.func47 (by kernel_rfl) rfl #[.agg #[.slice A0_0 l0_0.length c0_0]] rfl (by (try simp only [yiy, yjy, yky]); first | done | rfl | (simp only [yly, ymy]; rfl)) ?_; (with_reducible refine (spec_IsTriangulation.calls k _ _ l0_0 true _ ?side1 ?side2 A2.out).mono ?_); (case side1 => repeat (first | exact (Kd.C_below HR0_0.out HB.out) | (with_reducible refine Kd.C_alloc ?_ _) | (with_reducible refine Kd.C_drewN ?_ _) | (with_reducible refine Kd.C_drew ?_))); (case side2 => exact HC0_0.out); rintro e w18 ⟨rfl, hb⟩; refine ⟨_, rfl, ?_⟩; have n0_ := Aside0.mk (blk_below (g := gb101) (o := .cells #[.slice A0_0 l0_0.length c0_0] 35 (0, 0)) (by (with_reducible repeat (first | refine blk_drewN ?_ _ | refine blk_drew ?_ | refine blk_alloc ?_ _)); exact BK101.out) hb); have n1_ := Aside0.mk (blk_below (g := gb102) (o := .cells #[.slice none 0 0] 35 (0, 0)) (by (with_reducible repeat (first | refine blk_drewN ?_ _ | refine blk_drew ?_ | refine blk_alloc ?_ _)); exact BK102.out) hb); have n2_ := Aside0.mk (below_step (by repeat (first | (with_reducible first | exact HB.out | apply below_alloc | apply pw_below_drewN | apply below_drew1 | refine below_set ?_ GE101.out | refine below_set ?_ GE102.out) | exact HB.out)) hb); clear BK101; clear BK102; clear HB; have BK101 := n0_; have BK102 := n1_; have HB := n2_; clear n0_ n1_ n2_; (try clear hb); (try clear hb2); (try clear hk); (try clear hi); have hcz19_0 : w18.cell? ⟨gb101, 0, none⟩ = some (.slice A0_0 l0_0.length c0_0) := (blk_cell BK101.out 0).trans rfl; have hfz19_0 := blk_frozen BK101.out 0) | ((with_reducible refine gate_callee (f := 66) rfl ?_); refine goesL_ (some 16) rfl rfl Try.func66 (by kernel_rfl) rfl #[.agg #[.slice A0_0 l0_0.length c0_0]] rfl (by (try simp only [yiy, yjy, yky]); first | done | rfl | (simp only [yly, ymy]; rfl)) ?_; (with_reducible refine (spec_l07Tets.calls _ _ l0_0 t104 _ ?side1 ?side2 A4.out).mono ?_); (case side1 => repeat (first | exact (Kd.C_below HR0_0.out HB.out) | (with_reducible refine Kd.C_alloc ?_ _) | (with_reducible refine Kd.C_drewN ?_ _) | (with_reducible refine Kd.C_drew ?_))); (case side2 => exact HC0_0.out); rintro e w20 ⟨rfl, hb⟩; refine ⟨_, rfl, ?_⟩; have n0_ := Aside0.mk (blk_below (g := gb101) (o := .cells #[.slice A0_0 l0_0.length c0_0] 35 (0, 0)) (by (with_reducible repeat (first | refine blk_drewN ?_ _ | refine blk_drew ?_ | refine blk_alloc ?_ _)); exact BK101.out) hb); have n1_ := Aside0.mk (blk_below (g := gb102) (o := .cells #[.slice none 0 0] 35 (0, 0)) (by (with_reducible repeat (first | refine blk_drewN ?_ _ | refine blk_drew ?_ | refine blk_alloc ?_ _)); exact BK102.out) hb); have n2_ := Aside0.mk (below_step (by repeat (first | (with_reducible first | exact HB.out | apply below_alloc | apply pw_below_drewN | apply below_drew1 | refine below_set ?_ GE101.out | refine below_set ?_ GE102.out) | exact HB.out)) hb); clear BK101; clear BK102; clear HB; have BK101 := n0_; have BK102 := n1_; have HB := n2_; clear n0_ n1_ n2_; (try clear hb); (try clear hb2); (try clear hk); (try clear hi)) | ((with_reducible refine gate_dst (N := 5) rfl ?_); refine box_event ?hg (N := 5) ?hd (cs := #[.slice none 0 0]) (t := 35) ?hr ?_; (case hd => rfl); (case hg => rfl); (case hr => first | (go_simp; done) | (go_simp; rfl)); intro gb105 hg w21 hbox hb; have n0_ := Aside0.mk (blk_below (g := gb101) (o := .cells #[.slice A0_0 l0_0.length c0_0] 35 (0, 0)) (by (with_reducible repeat (first | refine blk_drewN ?_ _ | refine blk_drew ?_ | refine blk_alloc ?_ _)); exact BK101.out) hb); have n1_ := Aside0.mk (blk_below (g := gb102) (o := .cells #[.slice none 0 0] 35 (0, 0)) (by (with_reducible repeat (first | refine blk_drewN ?_ _ | refine blk_drew ?_ | refine blk_alloc ?_ _)); exact BK102.out) hb); have n2_ := Aside0.mk (below_step (by repeat (first | (with_reducible first | exact HB.out | apply below_alloc | apply pw_below_drewN | apply below_drew1 | refine below_set ?_ GE101.out | refine below_set ?_ GE102.out) | exact HB.out)) hb); have n3_ := Aside0.mk (hbox); have n4_ := Aside0.mk ((by rw [hg]; exact (below_size (by repeat (first | (with_reducible first | exact HB.out | apply below_alloc | apply pw_below_drewN | apply below_drew1 | refine below_set ?_ GE101.out | refine below_set ?_ GE102.out) | exact HB.out))) : w.heap.size ≤ gb105)); have n5_ := Aside0.mk ((by rw [hg]; exact (below_size (by repeat (first | (with_reducible first | exact HB.out | apply below_alloc | apply pw_below_drewN | apply below_drew1 | refine below_set ?_ GE101.out | refine below_set ?_ GE102.out) | exact HB.out))) : w.heap.size ≤ gb105)); have n6_ := Aside0.mk ((by rw [hg]; exact Nat.ne_of_lt (blk_lt (g := gb101) (o := .cells #[.slice A0_0 l0_0.length c0_0] 35 (0, 0)) (by (with_reducible repeat (first | refine blk_drewN ?_ _ | refine blk_drew ?_ | refine blk_alloc ?_ _)); exact BK101.out)) : gb101 ≠ gb105)); have n7_ := Aside0.mk ((by rw [hg]; exact Nat.ne_of_gt (blk_lt (g := gb101) (o := .cells #[.slice A0_0 l0_0.length c0_0] 35 (0, 0)) (by (with_reducible repeat (first | refine blk_drewN ?_ _ | refine blk_drew ?_ | refine blk_alloc ?_ _)); exact BK101.out)) : gb105 ≠ gb101)); have n8_ := Aside0.mk ((by rw [hg]; exact Nat.ne_of_lt (blk_lt (g := gb102) (o := .cells #[.slice none 0 0] 35 (0, 0)) (by (with_reducible repeat (first | refine blk_drewN ?_ _ | refine blk_drew ?_ | refine blk_alloc ?_ _)); exact BK102.out)) : gb102 ≠ gb105)); have n9_ := Aside0.mk ((by rw [hg]; exact Nat.ne_of_gt (blk_lt (g := gb102) (o := .cells #[.slice none 0 0] 35 (0, 0)) (by (with_reducible repeat (first | refine blk_drewN ?_ _ | refine blk_drew ?_ | refine blk_alloc ?_ _)); exact BK102.out)) : gb105 ≠ gb102)); clear BK101; clear BK102; clear HB; have BK101 := n0_; have BK102 := n1_; have HB := n2_; have BK105 := n3_; have GW105 := n4_; have GE105 := n5_; have NB101_105 := n6_; have NB105_101 := n7_; have NB102_105 := n8_; have NB105_102 := n9_; clear n0_ n1_ n2_ n3_ n4_ n5_ n6_ n7_ n8_ n9_; clear hb hbox hg; have hnb22 := NB105_101.out; have hnc22 := NB101_105.out; have hnb23 := NB105_102.out; have hnc23 := NB102_105.out; have hcz24_0 : w21.cell? ⟨gb105, 0, none⟩ = some (.slice none 0 0) := (blk_cell BK105.out 0).trans rfl; have hfz24_0 := blk_frozen BK105.out 0))
  go_loopg [6] k (fun kq v6 w' => ∃ (x6_1 : Int) (x106000_1 : List (List (SFace))) (u106000 : Value), v6 = .int .i64 x6_1 ∧ Aside0 (spec_DoubleCover.l0 kq t104 x6_1 l0_0 x106000_1 = some (r1, r2)) ∧ Aside0 (kq ≤ k) ∧ Aside0 (Kd.S (Kd.slice 75 kFace) 76 w' w.heap.size (fun _ => True) u106000 x106000_1) ∧ Aside0 (w'.heap[gb101]? = some (.cells #[(.slice A0_0 l0_0.length c0_0)] 35 (0, 0))) ∧ Aside0 (w'.heap[gb102]? = some (.cells #[(.slice none 0 0)] 35 (0, 0))) ∧ Aside0 (w'.heap[gb105]? = some (.cells #[u106000] 35 (0, 0))) ∧ Aside0 (Below w.heap.size w w'))
  case atStart => exact ⟨(0), (([] : List (List (SFace)))), (.slice none 0 0), (by first | rfl | (simp; done) | (simp [*]; done)), H', ⟨yoy _⟩, ⟨by first | exact Kd.S_nil _ _ _ _ _ | exact Kd.N_nil _ _ _ _ _ | exact Kd.V_nil _ _ _ _ _ | exact Kd.Q_nil _ _ _ _ _ | exact Kd.R_nil _ _ _ _ _⟩, ⟨by (with_reducible repeat (first | refine blk_drewN ?_ _ | refine blk_drew ?_ | refine blk_alloc ?_ _)); refine blk_far ?_ NB101_105.out _; (with_reducible repeat (first | refine blk_drewN ?_ _ | refine blk_drew ?_ | refine blk_alloc ?_ _)); exact BK101.out⟩, ⟨by (with_reducible repeat (first | refine blk_drewN ?_ _ | refine blk_drew ?_ | refine blk_alloc ?_ _)); refine blk_far ?_ NB102_105.out _; (with_reducible repeat (first | refine blk_drewN ?_ _ | refine blk_drew ?_ | refine blk_alloc ?_ _)); exact BK102.out⟩, ⟨by (with_reducible repeat (first | refine blk_drewN ?_ _ | refine blk_drew ?_ | refine blk_alloc ?_ _)); refine blk_put (cs := #[.slice none 0 0]) ?_ 0 _ rfl; (with_reducible repeat (first | refine blk_drewN ?_ _ | refine blk_drew ?_ | refine blk_alloc ?_ _)); exact BK105.out⟩, ⟨by repeat (first | (with_reducible first | exact HB.out | apply below_alloc | apply pw_below_drewN | apply below_drew1 | refine below_set ?_ GE101.out | refine below_set ?_ GE102.out | refine below_set ?_ GE105.out) | exact HB.out)⟩⟩
  case round =>
   clear H'
   try clear c1
   try clear c2
   try clear p2
   try clear c3
   try clear c4
   try clear c5
   try clear c5b0
   try clear c6
   try clear p6
   try clear c8
   try clear c16
   try clear c22
   try clear c23
   try clear hcz11_0
   try clear hcz13_0
   try clear hcz17_0
   try clear hcz19_0
   try clear hcz24_0
   try clear hcz9_0
   try clear hfz11_0
   try clear hfz13_0
   try clear hfz17_0
   try clear hfz19_0
   try clear hfz24_0
   try clear hfz9_0
   obtain ⟨x6_1, x106000_1, u106000, rfl, HA, HK1, HO_106000, BK101, BK102, BK105, HB⟩ := hrel
   cases gk with
   | zero => exact absurd HA.out (by simp [spec_DoubleCover.l0])
   | succ k1 =>
    have H := HA.out
    clear HA
    simp only [spec_DoubleCover.l0] at H
    by_cases c25 : x6_1 < (wrap64 (2 * t104))
    rotate_left
    next =>
     rw [if_neg c25] at H
     have c25b0 : decide (x6_1 < (wrap64 (2 * t104))) = false := yhy c25
     clear c25
     simp only [Option.some.injEq, Prod.mk.injEq] at H
     obtain ⟨rfl, rfl⟩ := H
     have hnb82 := NB105_101.out
     have hnc82 := NB101_105.out
     have hnb83 := NB105_102.out
     have hnc83 := NB102_105.out
     have hcz84_0 : wr.cell? ⟨gb105, 0, none⟩ = some (u106000) := (blk_cell BK105.out 0).trans rfl
     have hfz84_0 := blk_frozen BK105.out 0
     obtain ⟨Ao85, co85, eo85⟩ := Kd.S_slice HO_106000.out
     subst eo85
     have hnb86 := NB102_101.out
     have hnc86 := NB101_102.out
     have hcz87_0 : wr.cell? ⟨gb102, 0, none⟩ = some (.slice none 0 0) := (blk_cell BK102.out 0).trans rfl
     have hfz87_0 := blk_frozen BK102.out 0
     go_wp2
     refine bodyPost_ret (results_ct rfl _ _ gb102 35 #[.slice Ao85 x106000_1.length co85] (0, 0) _ rfl (by (with_reducible repeat (first | refine blk_drewN ?_ _ | refine blk_drew ?_ | refine blk_alloc ?_ _)); refine blk_put (cs := #[.slice none 0 0]) ?_ 0 _ rfl; (with_reducible repeat (first | refine blk_drewN ?_ _ | refine blk_drew ?_ | refine blk_alloc ?_ _)); exact BK102.out) Try.underlying35 rfl (by kernel_rfl)) rfl ?_
     exact ⟨_, by first | rfl | (simp [errW_none, errW_some] <;> rfl) | (simp [*, errW_none, errW_some] <;> rfl), by (with_reducible repeat (first | apply Kd.S_alloc | apply Kd.S_drewN | apply Kd.S_drew)); exact Kd.S_mono (Kd.S_far (p := ⟨gb102, 0, none⟩) (Kd.S_types HO_106000.out BK102.out (by decide)) (fun _ hk => hk.2) (.slice Ao85 x106000_1.length co85)) (fun _ hk => trivial), by repeat (first | (with_reducible first | exact HB.out | apply below_alloc | apply pw_below_drewN | apply below_drew1 | refine below_set ?_ GE101.out | refine below_set ?_ GE102.out | refine below_set ?_ GE105.out) | exact HB.out)⟩
    rw [if_pos c25] at H
    have c25b0 : decide (x6_1 < (wrap64 (2 * t104))) = true := ygy c25
    clear c25
    replace H := ydy.mp H
    obtain ⟨t106, A260, H⟩ := H
    replace H : (spec_DoubleCover.l1 k1 t104 x6_1 t106 0 l0_0 x106000_1) = some (r1, r2) := H
    have A26 := Aside0.mk A260
    clear A260
    have H' := Aside0.mk H
    clear H
    go_wp2_with (first | ((with_reducible refine gate_callee (f := 74) rfl ?_); refine goesL_ (some 28) rfl rfl Try.func74 (by kernel_rfl) rfl #[] rfl (by (try simp only [yiy, yjy, yky]); first | done | rfl | (simp only [yly, ymy]; rfl)) ?_; (with_reducible refine (spec_l07Free.calls  t106 _ A26.out).mono ?_); rintro e w27 ⟨v107, rfl, ho0, hb⟩; refine ⟨_, rfl, ?_⟩; have n0_ := Aside0.mk (Kd.S_elder' (by (with_reducible repeat (first | apply Kd.S_alloc | apply Kd.S_drewN | apply Kd.S_drew)); exact HO_106000.out) (Kd.R_base ho0) hb); have n1_ := Aside0.mk (Kd.R_lower ho0 (below_size (by repeat (first | (with_reducible first | exact HB.out | apply below_alloc | apply pw_below_drewN | apply below_drew1 | refine below_set ?_ GE101.out | refine below_set ?_ GE102.out | refine below_set ?_ GE105.out) | exact HB.out)))); have n2_ := Aside0.mk (blk_below (g := gb101) (o := .cells #[.slice A0_0 l0_0.length c0_0] 35 (0, 0)) (by (with_reducible repeat (first | refine blk_drewN ?_ _ | refine blk_drew ?_ | refine blk_alloc ?_ _)); exact BK101.out) hb); have n3_ := Aside0.mk (blk_below (g := gb102) (o := .cells #[.slice none 0 0] 35 (0, 0)) (by (with_reducible repeat (first | refine blk_drewN ?_ _ | refine blk_drew ?_ | refine blk_alloc ?_ _)); exact BK102.out) hb); have n4_ := Aside0.mk (blk_below (g := gb105) (o := .cells #[u106000] 35 (0, 0)) (by (with_reducible repeat (first | refine blk_drewN ?_ _ | refine blk_drew ?_ | refine blk_alloc ?_ _)); exact BK105.out) hb); have n5_ := Aside0.mk (below_step (by repeat (first | (with_reducible first | exact HB.out | apply below_alloc | apply pw_below_drewN | apply below_drew1 | refine below_set ?_ GE101.out | refine below_set ?_ GE102.out | refine below_set ?_ GE105.out) | exact HB.out)) hb); clear HO_106000; clear BK101; clear BK102; clear BK105; clear HB; have HO_106000 := n0_; have HO108 := n1_; have BK101 := n2_; have BK102 := n3_; have BK105 := n4_; have HB := n5_; clear n0_ n1_ n2_ n3_ n4_ n5_; (try clear hb); (try clear hb2); (try clear hk); (try clear hi); (try clear ho0)))
    go_loopg [8] k1 (fun kq v8 w' => ∃ (x7_2 : List (SFace)) (x8_2 : Int), v8 = .int .i64 x8_2 ∧ Aside0 (spec_DoubleCover.l1 kq t104 x6_1 x7_2 x8_2 l0_0 x106000_1 = some (r1, r2)) ∧ Aside0 (kq ≤ k1) ∧ Aside0 (Kd.R kFace 75 w' w.heap.size (fun _ => True) v107 x7_2) ∧ Aside0 (Kd.S (Kd.slice 75 kFace) 76 w' w.heap.size (fun k_ => some k_ ≠ (v107 : Value).ownBlock) u106000 x106000_1) ∧ Aside0 (w'.heap[gb101]? = some (.cells #[(.slice A0_0 l0_0.length c0_0)] 35 (0, 0))) ∧ Aside0 (w'.heap[gb102]? = some (.cells #[(.slice none 0 0)] 35 (0, 0))) ∧ Aside0 (w'.heap[gb105]? = some (.cells #[u106000] 35 (0, 0))) ∧ Aside0 (Below w.heap.size w w'))
    case atStart => exact ⟨(t106), (0), (by first | rfl | (simp; done) | (simp [*]; done)), H', ⟨yoy _⟩, ⟨by (with_reducible repeat (first | apply Kd.R_alloc | apply Kd.R_drewN | apply Kd.R_drew)); exact HO108.out⟩, ⟨by (with_reducible repeat (first | apply Kd.S_alloc | apply Kd.S_drewN | apply Kd.S_drew)); exact Kd.S_mono HO_106000.out (fun _ hk => hk.2)⟩, ⟨by (with_reducible repeat (first | refine blk_drewN ?_ _ | refine blk_drew ?_ | refine blk_alloc ?_ _)); exact BK101.out⟩, ⟨by (with_reducible repeat (first | refine blk_drewN ?_ _ | refine blk_drew ?_ | refine blk_alloc ?_ _)); exact BK102.out⟩, ⟨by (with_reducible repeat (first | refine blk_drewN ?_ _ | refine blk_drew ?_ | refine blk_alloc ?_ _)); exact BK105.out⟩, ⟨by repeat (first | (with_reducible first | exact HB.out | apply below_alloc | apply pw_below_drewN | apply below_drew1 | refine below_set ?_ GE101.out | refine below_set ?_ GE102.out | refine below_set ?_ GE105.out) | exact HB.out)⟩⟩
    case round =>
     clear H'
     try clear c1
     try clear c2
     try clear p2
     try clear c3
     try clear c4
     try clear c5
     try clear c5b0
     try clear c6
     try clear p6
     try clear c7
     try clear c8
     try clear c16
     try clear c22
     try clear c23
     try clear c25
     try clear c25b0
     try clear hcz11_0
     try clear hcz13_0
     try clear hcz17_0
     try clear hcz19_0
     try clear hcz24_0
     try clear hcz9_0
     try clear hfz11_0
     try clear hfz13_0
     try clear hfz17_0
     try clear hfz19_0
     try clear hfz24_0
     try clear hfz9_0
     try clear p2
     try clear p6
     obtain ⟨x7_2, x8_2, rfl, HA, HK2, HO_7, HO_106000, BK101, BK102, BK105, HB⟩ := hrel
     cases gk with
     | zero => exact absurd HA.out (by simp [spec_DoubleCover.l1])
     | succ k2 =>
      have H := HA.out
      clear HA
      simp only [spec_DoubleCover.l1] at H
      by_cases c28 : x8_2 < 4
      rotate_left
      next =>
       rw [if_neg c28] at H
       have c28b0 : decide (x8_2 < 4) = false := yhy c28
       clear c28
       by_cases c74 : x106000_1.length < 5864062014805
       rotate_left
       next =>
        rw [if_neg c74] at H
        exact absurd H (by simp)
       rw [if_pos c74] at H
       have LMc74 := Aside0.mk c74
       clear c74
       obtain ⟨y109, hy109⟩ : ∃ y_ : List (List (SFace)), y_ = (x106000_1 ++ [x7_2]) := ⟨_, rfl⟩
       replace H : (spec_DoubleCover.l0 k2 t104 (wrap64 (x6_1 + 1)) l0_0 y109) = some (r1, r2) := by first | (rw [hy109]; with_reducible exact H) | (have H2_ := (yfy _ _).symm.trans H; rw [hy109]; with_reducible exact H2_) | (have H2_ := (yfy _ _).symm.trans H; with_reducible exact H2_) | with_reducible exact H | (rw [hy109]; exact H) | exact H
       have Ny109 := Aside0.mk hy109
       clear hy109
       have H' := Aside0.mk H
       clear H
       have hnb75 := NB105_101.out
       have hnc75 := NB101_105.out
       have hnb76 := NB105_102.out
       have hnc76 := NB102_105.out
       have hcz77_0 : wr.cell? ⟨gb105, 0, none⟩ = some (u106000) := (blk_cell BK105.out 0).trans rfl
       have hfz77_0 := blk_frozen BK105.out 0
       obtain ⟨Ao79, co79, eo79⟩ := Kd.R_slice HO_7.out
       subst eo79
       go_wp2_with (first | ((with_reducible refine gate_builtin (b := .append) (xs := #[.tmp 68, .tmp 70]) rfl ?_); at_builtin; refine Kd.S_append (Kd.slice 75 kFace) (w0 := w) w.heap.size rfl (.tmp 68) (.tmp 70) 33 76 (.slice none 0 0) 24 rfl Try.underlying33 info76 rfl (by decide) (by omega) u106000 x106000_1 x7_2 [.slice Ao79 x7_2.length co79] (fun _ => True) (fun k_ => some k_ = (.slice Ao79 x7_2.length co79 : Value).ownBlock) rfl rfl ?aP (fun k_ hk_ => ((Kd.R_mono (ok' := fun k_ => ((fun _ => True)) k_ ∧ some k_ ≠ (u106000 : Value).ownBlock) (Kd.R_apart' (HO_7.out) (Kd.S_typed HO_106000.out) (by decide)) (fun k_ hk => ⟨trivial, hk.2⟩))).1 k_ hk_.symm) ?aF ?aO ?aB ?aS ?aL ?_; (case aP => exact Kd.M_row (Kd.R_mono (Kd.R_tight rfl (Kd.R_mono (ok' := fun k_ => ((fun _ => True)) k_ ∧ some k_ ≠ (u106000 : Value).ownBlock) (Kd.R_apart' (HO_7.out) (Kd.S_typed HO_106000.out) (by decide)) (fun k_ hk => ⟨trivial, hk.2⟩))) (fun _ h_ => h_))); (case aB => exact (by repeat (first | (with_reducible first | exact HB.out | apply below_alloc | apply pw_below_drewN | apply below_drew1 | refine below_set ?_ GE101.out | refine below_set ?_ GE102.out | refine below_set ?_ GE105.out) | exact HB.out))); (case aF => exact (fun _ _ => trivial)); (case aO => exact (by (with_reducible repeat (first | apply Kd.S_alloc | apply Kd.S_drewN | apply Kd.S_drew)); exact Kd.S_mono HO_106000.out (fun k_ hk => ⟨trivial, fun e_ => hk e_⟩))); (case aS => exact (below_size (by repeat (first | (with_reducible first | exact HB.out | apply below_alloc | apply pw_below_drewN | apply below_drew1 | refine below_set ?_ GE101.out | refine below_set ?_ GE102.out | refine below_set ?_ GE105.out) | exact HB.out)))); (case aL => have := LMc74.out; omega); intro v110 w78 ho hb hg hat; rw [← Ny109.out] at ho; have n0_ := Aside0.mk (blk_grown (g := gb101) (o := .cells #[.slice A0_0 l0_0.length c0_0] 35 (0, 0)) (by (with_reducible repeat (first | refine blk_drewN ?_ _ | refine blk_drew ?_ | refine blk_alloc ?_ _)); exact BK101.out) hg (Kd.S_ne HO_106000.out BK101.out (by decide))); have n1_ := Aside0.mk (blk_grown (g := gb102) (o := .cells #[.slice none 0 0] 35 (0, 0)) (by (with_reducible repeat (first | refine blk_drewN ?_ _ | refine blk_drew ?_ | refine blk_alloc ?_ _)); exact BK102.out) hg (Kd.S_ne HO_106000.out BK102.out (by decide))); have n2_ := Aside0.mk (blk_grown (g := gb105) (o := .cells #[u106000] 35 (0, 0)) (by (with_reducible repeat (first | refine blk_drewN ?_ _ | refine blk_drew ?_ | refine blk_alloc ?_ _)); exact BK105.out) hg (Kd.S_ne HO_106000.out BK105.out (by decide))); have n3_ := Aside0.mk (hb); have n4_ := Aside0.mk (ho); clear BK101; clear BK102; clear BK105; clear HB; clear HO_106000; clear HO_7; have BK101 := n0_; have BK102 := n1_; have BK105 := n2_; have HB := n3_; have HO111 := n4_; clear n0_ n1_ n2_ n3_ n4_; clear ho hb hg hat; obtain ⟨Ao80, co80, eo80⟩ := Kd.S_slice HO111.out; subst eo80; have hcz81_0 : w78.cell? ⟨gb105, 0, none⟩ = some (u106000) := (blk_cell BK105.out 0).trans rfl; have hfz81_0 := blk_frozen BK105.out 0))
       go_roundg k2
       case measure => have := HK1.out; have := HK2.out; omega
       case rel => exact ⟨(wrap64 (x6_1 + 1)), (y109), (.slice Ao80 y109.length co80), (by first | rfl | (simp; done) | (simp [*]; done)), H', ⟨by have := HK1.out; have := HK2.out; omega⟩, ⟨by (with_reducible repeat (first | apply Kd.S_alloc | apply Kd.S_drewN | apply Kd.S_drew)); exact Kd.S_mono (Kd.S_far (p := ⟨gb105, 0, none⟩) (Kd.S_types HO111.out BK105.out (by decide)) (fun _ hk => hk.2) (.slice Ao80 y109.length co80)) (fun _ hk => trivial)⟩, ⟨by (with_reducible repeat (first | refine blk_drewN ?_ _ | refine blk_drew ?_ | refine blk_alloc ?_ _)); refine blk_far ?_ NB101_105.out _; (with_reducible repeat (first | refine blk_drewN ?_ _ | refine blk_drew ?_ | refine blk_alloc ?_ _)); exact BK101.out⟩, ⟨by (with_reducible repeat (first | refine blk_drewN ?_ _ | refine blk_drew ?_ | refine blk_alloc ?_ _)); refine blk_far ?_ NB102_105.out _; (with_reducible repeat (first | refine blk_drewN ?_ _ | refine blk_drew ?_ | refine blk_alloc ?_ _)); exact BK102.out⟩, ⟨by (with_reducible repeat (first | refine blk_drewN ?_ _ | refine blk_drew ?_ | refine blk_alloc ?_ _)); refine blk_put (cs := #[u106000]) ?_ 0 _ rfl; (with_reducible repeat (first | refine blk_drewN ?_ _ | refine blk_drew ?_ | refine blk_alloc ?_ _)); exact BK105.out⟩, ⟨by repeat (first | (with_reducible first | exact HB.out | apply below_alloc | apply pw_below_drewN | apply below_drew1 | refine below_set ?_ GE101.out | refine below_set ?_ GE102.out | refine below_set ?_ GE105.out) | exact HB.out)⟩⟩
      rw [if_pos c28] at H
      have c28b0 : decide (x8_2 < 4) = true := ygy c28
      clear c28
      by_cases c29 : t104 = 0
      next =>
       rw [if_pos c29] at H
       exact absurd H (by simp)
      next =>
       rw [if_neg c29] at H
       have c29b0 : (t104 == 0) = false := beq_eq_false_iff_ne.mpr c29
       have c29b1 : (t104 != 0) = true := bne_iff_ne.mpr c29
       obtain ⟨ji30, hji30⟩ : ∃ j_ : Int, (Int.tmod x6_1 t104) = j_ := ⟨_, rfl⟩
       replace H : (if 0 ≤ (ji30) then (if (ji30) < (l0_0.length : Int) then (if 0 ≤ x8_2 then (if x8_2 < ((rd_LFace l0_0 (ji30)).length : Int) then (if ((rd_Face (rd_LFace l0_0 (ji30)) x8_2).f0) < 0 then (spec_DoubleCover.l1 k2 t104 x6_1 x7_2 (wrap64 (x8_2 + 1)) l0_0 x106000_1) else ((spec_SignPerm4.f k2 ((rd_Face (rd_LFace l0_0 (ji30)) x8_2).f1)).bind fun t115 => (if t115 = 1 then (if x8_2 < (x7_2.length : Int) then (spec_DoubleCover.l1 k2 t104 x6_1 (x7_2.set (x8_2 : Int).toNat (⟨wrap64 (((rd_Face (rd_LFace l0_0 (ji30)) x8_2).f0) + (wrap64 (t104 * (wrap64 (1 - (wrap64 (Int.tdiv x6_1 t104))))))), (rd_Face (rd_LFace l0_0 (ji30)) x8_2).f1⟩ : SFace)) (wrap64 (x8_2 + 1)) l0_0 x106000_1) else (none)) else (if x8_2 < (x7_2.length : Int) then (spec_DoubleCover.l1 k2 t104 x6_1 (x7_2.set (x8_2 : Int).toNat (⟨wrap64 (((rd_Face (rd_LFace l0_0 (ji30)) x8_2).f0) + (wrap64 (t104 * (wrap64 (Int.tdiv x6_1 t104))))), (rd_Face (rd_LFace l0_0 (ji30)) x8_2).f1⟩ : SFace)) (wrap64 (x8_2 + 1)) l0_0 x106000_1) else (none))))) else (none)) else (none)) else (none)) else (none)) = some (r1, r2) := by first | (rw [hji30] at H; exact H) | (simp only [hji30] at H ⊢; exact H)
       by_cases c31 : 0 ≤ (ji30)
       rotate_left
       next =>
        rw [if_neg c31] at H
        exact absurd H (by simp)
       rw [if_pos c31] at H
       have c31b0 : decide (0 ≤ (ji30)) = true := ygy c31
       clear c31
       by_cases c32 : (ji30) < (l0_0.length : Int)
       rotate_left
       next =>
        rw [if_neg c32] at H
        exact absurd H (by simp)
       rw [if_pos c32] at H
       have c32b0 : decide ((ji30) < (l0_0.length : Int)) = true := ygy c32
       clear c32
       by_cases c33 : 0 ≤ x8_2
       rotate_left
       next =>
        rw [if_neg c33] at H
        exact absurd H (by simp)
       rw [if_pos c33] at H
       have c33b0 : decide (0 ≤ x8_2) = true := ygy c33
       clear c33
       by_cases c34 : x8_2 < ((rd_LFace l0_0 (ji30)).length : Int)
       rotate_left
       next =>
        rw [if_neg c34] at H
        exact absurd H (by simp)
       rw [if_pos c34] at H
       have c34b0 : decide (x8_2 < ((rd_LFace l0_0 (ji30)).length : Int)) = true := ygy c34
       clear c34
       by_cases c35 : ((rd_Face (rd_LFace l0_0 (ji30)) x8_2).f0) < 0
       next =>
        rw [if_pos c35] at H
        have c35b0 : decide (((rd_Face (rd_LFace l0_0 (ji30)) x8_2).f0) < 0) = true := ygy c35
        clear c35
        have H' := Aside0.mk H
        clear H
        try go_wp2
        have n0_ := Aside0.mk (Kd.R_drew HO_7.out)
        have n1_ := Aside0.mk (Kd.S_drew HO_106000.out)
        have n2_ := Aside0.mk (blk_drew BK101.out)
        have n3_ := Aside0.mk (blk_drew BK102.out)
        have n4_ := Aside0.mk (blk_drew BK105.out)
        have n5_ := Aside0.mk (below_drew1 HB.out)
        clear HO_7
        clear HO_106000
        clear BK101
        clear BK102
        clear BK105
        clear HB
        have HO_7 := n0_
        have HO_106000 := n1_
        have BK101 := n2_
        have BK102 := n3_
        have BK105 := n4_
        have HB := n5_
        clear n0_ n1_ n2_ n3_ n4_ n5_
        have p112 : 0 ≤ ((ji30) : Int) := of_decide_eq_true (by first | (with_reducible assumption) | assumption)
        have q112 : (ji30) < (l0_0.length : Int) := of_decide_eq_true (by first | (with_reducible assumption) | assumption)
        obtain ⟨ad112, A112_0, c112_0, e112, hx112_0, hl112_0, hi112_0⟩ := at_LFace HR0_0.out (ji30) p112 q112
        have hw112_0 := hx112_0
        cases e112
        replace hx112_0 := (HB.out.cell (yny w _ hx112_0)).trans hx112_0
        have HR112_0 := Aside0.mk hi112_0
        have HC112_0 := Aside0.mk hl112_0
        clear hi112_0 hl112_0
        replace p112 := eq_true p112
        replace q112 := eq_true q112
        have p113 : 0 ≤ (x8_2 : Int) := of_decide_eq_true (by first | (with_reducible assumption) | assumption)
        have q113 : x8_2 < ((rd_LFace l0_0 (ji30)).length : Int) := of_decide_eq_true (by first | (with_reducible assumption) | assumption)
        obtain ⟨ad113, e113, hx113_0, hx113_1⟩ := at_Face HR112_0.out x8_2 p113 q113
        have hw113_1 := hx113_1
        have hw113_0 := hx113_0
        cases e113
        replace hx113_0 := (HB.out.cell (yny w _ hx113_0)).trans hx113_0
        replace hx113_1 := (HB.out.cell (yny w _ hx113_1)).trans hx113_1
        replace p113 := eq_true p113
        replace q113 := eq_true q113
        refine start_ (n := 12) (S := fun w' => w'.cell? ⟨gb101, 0, none⟩ = some (.slice (some ad112) l0_0.length c0_0) ∧ w'.cell? (ad112.add ((ji30)).toNat) = some (.slice (some ad113) (rd_LFace l0_0 (ji30)).length c112_0) ∧ w'.cell? (ad113.add ((x8_2).toNat * 2)) = some (.int .i64 ((rd_Face (rd_LFace l0_0 (ji30)) x8_2).f0)) ∧ w'.cell? ⟨(ad113.add ((x8_2).toNat * 2)).block, (ad113.add ((x8_2).toNat * 2)).off + 1, none⟩ = some (.int .i64 ((rd_Face (rd_LFace l0_0 (ji30)) x8_2).f1))) (ds := []) #[false, false, false, false, false, false, false, false, false, false, false, false] (by kernel_rfl) rfl rfl ⟨(blk_cell BK101.out 0).trans rfl, ((HB.out.cell (yny w _ hw112_0)).trans hw112_0), ((HB.out.cell (yny w _ hw113_0)).trans hw113_0), ((HB.out.cell (yny w _ hw113_1)).trans hw113_1)⟩ (fun hHeld => ?_); refine with_tabW spec_DoubleCover.tab14 spec_DoubleCover.bits14 (fun HT_ HW_ => ?_)
        generalize wr.drew = w36 at HO_7 HO_106000 BK101 BK102 BK105 HB HR112_0 hx112_0 hx113_0 hx113_1 hHeld ⊢
        refine pure_ (i := 0) (N := some 33) (v := ?_) (a' := ?_) #[true, false, false, false, false, false, false, false, false, false, false, false] rfl rfl (any_of HT_.out (by kernel_rfl)) (fun _ _ _ h => h) (Or.inl ⟨by rfl, ?_⟩) ?_ ?_
        rotate_left
        next =>
         intro w'
         go_simp
         with_reducible rfl
        rotate_left
        next =>
         simp only [Act.put, yay, yby, ycy, i64_w, i32_w]
         rfl
        refine pure_ (i := 2) (N := some 35) (v := ?_) (a' := ?_) #[true, false, true, false, false, false, false, false, false, false, false, false] rfl rfl (any_of HT_.out (by kernel_rfl)) (fun _ _ _ h => h) (Or.inl ⟨by rfl, ?_⟩) ?_ ?_
        rotate_left
        next =>
         intro w'
         go_simp
         with_reducible rfl
        rotate_left
        next =>
         simp only [Act.put, yay, yby, ycy, i64_w, i32_w]
         rfl
        refine pure_ (i := 3) (N := some 36) (v := ?_) (a' := ?_) #[true, false, true, true, false, false, false, false, false, false, false, false] rfl rfl (any_of HT_.out (by kernel_rfl)) (fun _ _ _ h => h) (Or.inl ⟨by rfl, ?_⟩) ?_ ?_
        rotate_left
        next =>
         intro w'
         go_simp
         with_reducible rfl
        rotate_left
        next =>
         simp only [Act.put, yay, yby, ycy, i64_w, i32_w]
         rfl
        refine pure_ (i := 4) (N := some 37) (v := ?_) (a' := ?_) #[true, false, true, true, true, false, false, false, false, false, false, false] rfl rfl (any_of HT_.out (by kernel_rfl)) (fun _ _ _ h => h) (Or.inl ⟨by rfl, ?_⟩) ?_ ?_
        rotate_left
        next =>
         intro w'
         go_simp
         with_reducible rfl
        rotate_left
        next =>
         simp only [Act.put, yay, yby, ycy, i64_w, i32_w]
         rfl
        refine pure_ (i := 7) (N := some 40) (v := ?_) (a' := ?_) #[true, false, true, true, true, false, false, true, false, false, false, false] rfl rfl (any_of HT_.out (by kernel_rfl)) (fun _ _ _ h => h) (Or.inl ⟨by rfl, ?_⟩) ?_ ?_
        rotate_left
        next =>
         intro w'
         go_simp
         with_reducible rfl
        rotate_left
        next =>
         simp only [Act.put, yay, yby, ycy, i64_w, i32_w]
         rfl
        refine take_ (i := 1) (N := some 34) (v := ?_) (a' := ?_) #[true, true, true, true, true, false, false, true, false, false, false, false] rfl rfl (take_ofW HT_.out HW_.out (by kernel_rfl)) (fun _ _ _ h => h) (Or.inl ⟨by rfl, ?_⟩) hHeld ?_ ?_
        rotate_left
        next =>
         rintro w' ⟨s0, s1, s2, s3⟩
         go_simp
         with_reducible rfl
        rotate_left
        next =>
         simp only [Act.put, yay, yby, ycy, i64_w, i32_w]
         rfl
        refine pure_ (i := 5) (N := some 38) (v := ?_) (a' := ?_) #[true, true, true, true, true, true, false, true, false, false, false, false] rfl rfl (any_of HT_.out (by kernel_rfl)) (fun _ _ _ h => h) (Or.inl ⟨by rfl, ?_⟩) ?_ ?_
        rotate_left
        next =>
         intro w'
         go_simp
         with_reducible rfl
        rotate_left
        next =>
         simp only [Act.put, yay, yby, ycy, i64_w, i32_w]
         rfl
        refine take_ (i := 6) (N := some 39) (v := ?_) (a' := ?_) #[true, true, true, true, true, true, true, true, false, false, false, false] rfl rfl (take_ofW HT_.out HW_.out (by kernel_rfl)) (fun _ _ _ h => h) (Or.inl ⟨by rfl, ?_⟩) hHeld ?_ ?_
        rotate_left
        next =>
         rintro w' ⟨s0, s1, s2, s3⟩
         go_simp
         with_reducible rfl
        rotate_left
        next =>
         simp only [Act.put, yay, yby, ycy, i64_w, i32_w]
         rfl
        refine pure_ (i := 8) (N := some 41) (v := ?_) (a' := ?_) #[true, true, true, true, true, true, true, true, true, false, false, false] rfl rfl (any_of HT_.out (by kernel_rfl)) (fun _ _ _ h => h) (Or.inl ⟨by rfl, ?_⟩) ?_ ?_
        rotate_left
        next =>
         intro w'
         go_simp
         with_reducible rfl
        rotate_left
        next =>
         simp only [Act.put, yay, yby, ycy, i64_w, i32_w]
         rfl
        refine take_ (i := 9) (N := some 42) (v := ?_) (a' := ?_) #[true, true, true, true, true, true, true, true, true, true, false, false] rfl rfl (take_ofW HT_.out HW_.out (by kernel_rfl)) (fun _ _ _ h => h) (Or.inl ⟨by rfl, ?_⟩) hHeld ?_ ?_
        rotate_left
        next =>
         rintro w' ⟨s0, s1, s2, s3⟩
         go_simp
         with_reducible rfl
        rotate_left
        next =>
         simp only [Act.put, yay, yby, ycy, i64_w, i32_w]
         rfl
        refine one_ (i := 10) (N := some 9) #[true, true, true, true, true, true, true, true, true, true, true, false] rfl rfl (one_of HT_.out (by kernel_rfl)) (by decide) (fun K hK => ?_)
        refine box_step ?hg (N := 9) ?hd (cs := #[.int .i64 0, .int .i64 0]) (t := 75) ?hr ?_; (case hd => rfl); (case hg => rfl); (case hr => first | (go_simp; done) | (go_simp; rfl))
        intro gb114 hg w37 hbox hb
        have n0_ := Aside0.mk (Kd.R_below (Kd.R_elderB (by (with_reducible repeat (first | apply Kd.R_alloc | apply Kd.R_drewN | apply Kd.R_drew)); exact HO_7.out) gb114 (Nat.le_of_eq hg.symm)) hb)
        have n1_ := Aside0.mk (Kd.S_below (Kd.S_elderB (by (with_reducible repeat (first | apply Kd.S_alloc | apply Kd.S_drewN | apply Kd.S_drew)); exact HO_106000.out) gb114 (Nat.le_of_eq hg.symm)) hb)
        have n2_ := Aside0.mk (blk_below (g := gb101) (o := .cells #[.slice (some ad112) l0_0.length c0_0] 35 (0, 0)) (by (with_reducible repeat (first | refine blk_drewN ?_ _ | refine blk_drew ?_ | refine blk_alloc ?_ _)); exact BK101.out) hb)
        have n3_ := Aside0.mk (blk_below (g := gb102) (o := .cells #[.slice none 0 0] 35 (0, 0)) (by (with_reducible repeat (first | refine blk_drewN ?_ _ | refine blk_drew ?_ | refine blk_alloc ?_ _)); exact BK102.out) hb)
        have n4_ := Aside0.mk (blk_below (g := gb105) (o := .cells #[u106000] 35 (0, 0)) (by (with_reducible repeat (first | refine blk_drewN ?_ _ | refine blk_drew ?_ | refine blk_alloc ?_ _)); exact BK105.out) hb)
        have n5_ := Aside0.mk (below_step (by repeat (first | (with_reducible first | exact HB.out | apply below_alloc | apply pw_below_drewN | apply below_drew1 | refine below_set ?_ GE101.out | refine below_set ?_ GE102.out | refine below_set ?_ GE105.out) | exact HB.out)) hb)
        have n6_ := Aside0.mk (hbox)
        have n7_ := Aside0.mk ((by rw [hg]; exact (below_size (by repeat (first | (with_reducible first | exact HB.out | apply below_alloc | apply pw_below_drewN | apply below_drew1 | refine below_set ?_ GE101.out | refine below_set ?_ GE102.out | refine below_set ?_ GE105.out) | exact HB.out))) : w.heap.size ≤ gb114))
        have n8_ := Aside0.mk ((by rw [hg]; exact (below_size (by repeat (first | (with_reducible first | exact HB.out | apply below_alloc | apply pw_below_drewN | apply below_drew1 | refine below_set ?_ GE101.out | refine below_set ?_ GE102.out | refine below_set ?_ GE105.out) | exact HB.out))) : w.heap.size ≤ gb114))
        have n9_ := Aside0.mk ((by rw [hg]; exact Nat.ne_of_lt (blk_lt (g := gb101) (o := .cells #[.slice (some ad112) l0_0.length c0_0] 35 (0, 0)) (by (with_reducible repeat (first | refine blk_drewN ?_ _ | refine blk_drew ?_ | refine blk_alloc ?_ _)); exact BK101.out)) : gb101 ≠ gb114))
        have n10_ := Aside0.mk ((by rw [hg]; exact Nat.ne_of_gt (blk_lt (g := gb101) (o := .cells #[.slice (some ad112) l0_0.length c0_0] 35 (0, 0)) (by (with_reducible repeat (first | refine blk_drewN ?_ _ | refine blk_drew ?_ | refine blk_alloc ?_ _)); exact BK101.out)) : gb114 ≠ gb101))
        have n11_ := Aside0.mk ((by rw [hg]; exact Nat.ne_of_lt (blk_lt (g := gb102) (o := .cells #[.slice none 0 0] 35 (0, 0)) (by (with_reducible repeat (first | refine blk_drewN ?_ _ | refine blk_drew ?_ | refine blk_alloc ?_ _)); exact BK102.out)) : gb102 ≠ gb114))
        have n12_ := Aside0.mk ((by rw [hg]; exact Nat.ne_of_gt (blk_lt (g := gb102) (o := .cells #[.slice none 0 0] 35 (0, 0)) (by (with_reducible repeat (first | refine blk_drewN ?_ _ | refine blk_drew ?_ | refine blk_alloc ?_ _)); exact BK102.out)) : gb114 ≠ gb102))
        have n13_ := Aside0.mk ((by rw [hg]; exact Nat.ne_of_lt (blk_lt (g := gb105) (o := .cells #[u106000] 35 (0, 0)) (by (with_reducible repeat (first | refine blk_drewN ?_ _ | refine blk_drew ?_ | refine blk_alloc ?_ _)); exact BK105.out)) : gb105 ≠ gb114))
        have n14_ := Aside0.mk ((by rw [hg]; exact Nat.ne_of_gt (blk_lt (g := gb105) (o := .cells #[u106000] 35 (0, 0)) (by (with_reducible repeat (first | refine blk_drewN ?_ _ | refine blk_drew ?_ | refine blk_alloc ?_ _)); exact BK105.out)) : gb114 ≠ gb105))
        clear HO_7
        clear HO_106000
        clear BK101
        clear BK102
        clear BK105
        clear HB
        have HO_7 := n0_
        have HO_106000 := n1_
        have BK101 := n2_
        have BK102 := n3_
        have BK105 := n4_
        have HB := n5_
        have BK114 := n6_
        have GW114 := n7_
        have GE114 := n8_
        have NB101_114 := n9_
        have NB114_101 := n10_
        have NB102_114 := n11_
        have NB114_102 := n12_
        have NB105_114 := n13_
        have NB114_105 := n14_
        clear n0_ n1_ n2_ n3_ n4_ n5_ n6_ n7_ n8_ n9_ n10_ n11_ n12_ n13_ n14_
        clear hb hbox hg
        refine hK.out _ _ ⟨(blk_cell BK101.out 0).trans rfl, ((HB.out.cell (yny w _ hw112_0)).trans hw112_0), ((HB.out.cell (yny w _ hw113_0)).trans hw113_0), ((HB.out.cell (yny w _ hw113_1)).trans hw113_1)⟩ (fun hHeld => ?_)
        clear hK K
        refine norm_ (a' := ?_) ?_ ?_
        rotate_left
        next =>
         show Act.put _ (some 9) _ = _
         simp only [Act.put, yay, yby, ycy, i64_w, i32_w]
         rfl
        refine one_ (i := 11) (N := none) #[true, true, true, true, true, true, true, true, true, true, true, true] rfl rfl (one_of HT_.out (by kernel_rfl)) (by decide) (fun K hK => ?_)
        have hs38 : w37.cell? ⟨gb114, 0, none⟩ = some (.int .i64 0) := (blk_cell BK114.out 0).trans rfl
        have hfs38 := blk_frozen BK114.out 0
        have hns38_0 := NB101_114.out
        have hns38_1 := NB102_114.out
        have hns38_2 := NB105_114.out
        have hms38_0 := NB114_101.out
        have hms38_1 := NB114_102.out
        have hms38_2 := NB114_105.out
        have hs39 : w37.cell? ⟨gb114, 1, none⟩ = some (.int .i64 0) := (blk_cell BK114.out 1).trans rfl
        have hfs39 := blk_frozen BK114.out 1
        have hns39_0 := NB101_114.out
        have hns39_1 := NB102_114.out
        have hns39_2 := NB105_114.out
        have hms39_0 := NB114_101.out
        have hms39_1 := NB114_102.out
        have hms39_2 := NB114_105.out
        refine skip_ (w1 := ?_) (by rfl) rfl ?_ ?_
        rotate_left
        next =>
         go_simp
         rfl
        refine hK.out _ _ ⟨((cell_far (p := ⟨gb114, _, none⟩) NB101_114.out _).trans (((cell_far (p := ⟨gb114, _, none⟩) NB101_114.out _).trans (hHeld.1)))), ((cell_far (p := ⟨gb114, _, none⟩) (by first | exact Nat.ne_of_lt (Nat.lt_of_lt_of_le (by have := yny _ _ hw112_0; first | rwa [add_block] at this | exact this) GW114.out) | (rw [add_block]; exact Nat.ne_of_lt (Nat.lt_of_lt_of_le (by have := yny _ _ hw112_0; first | rwa [add_block] at this | exact this) GW114.out)) | (show (Addr.add _ _).block ≠ _; rw [add_block]; exact Nat.ne_of_lt (Nat.lt_of_lt_of_le (by have := yny _ _ hw112_0; first | rwa [add_block] at this | exact this) GW114.out)) | (dsimp only; exact Nat.ne_of_lt (Nat.lt_of_lt_of_le (by have := yny _ _ hw112_0; first | rwa [add_block] at this | exact this) GW114.out))) _).trans (((cell_far (p := ⟨gb114, _, none⟩) (by first | exact Nat.ne_of_lt (Nat.lt_of_lt_of_le (by have := yny _ _ hw112_0; first | rwa [add_block] at this | exact this) GW114.out) | (rw [add_block]; exact Nat.ne_of_lt (Nat.lt_of_lt_of_le (by have := yny _ _ hw112_0; first | rwa [add_block] at this | exact this) GW114.out)) | (show (Addr.add _ _).block ≠ _; rw [add_block]; exact Nat.ne_of_lt (Nat.lt_of_lt_of_le (by have := yny _ _ hw112_0; first | rwa [add_block] at this | exact this) GW114.out)) | (dsimp only; exact Nat.ne_of_lt (Nat.lt_of_lt_of_le (by have := yny _ _ hw112_0; first | rwa [add_block] at this | exact this) GW114.out))) _).trans (hHeld.2.1)))), ((cell_far (p := ⟨gb114, _, none⟩) (by first | exact Nat.ne_of_lt (Nat.lt_of_lt_of_le (by have := yny _ _ hw113_0; first | rwa [add_block] at this | exact this) GW114.out) | (rw [add_block]; exact Nat.ne_of_lt (Nat.lt_of_lt_of_le (by have := yny _ _ hw113_0; first | rwa [add_block] at this | exact this) GW114.out)) | (show (Addr.add _ _).block ≠ _; rw [add_block]; exact Nat.ne_of_lt (Nat.lt_of_lt_of_le (by have := yny _ _ hw113_0; first | rwa [add_block] at this | exact this) GW114.out)) | (dsimp only; exact Nat.ne_of_lt (Nat.lt_of_lt_of_le (by have := yny _ _ hw113_0; first | rwa [add_block] at this | exact this) GW114.out))) _).trans (((cell_far (p := ⟨gb114, _, none⟩) (by first | exact Nat.ne_of_lt (Nat.lt_of_lt_of_le (by have := yny _ _ hw113_0; first | rwa [add_block] at this | exact this) GW114.out) | (rw [add_block]; exact Nat.ne_of_lt (Nat.lt_of_lt_of_le (by have := yny _ _ hw113_0; first | rwa [add_block] at this | exact this) GW114.out)) | (show (Addr.add _ _).block ≠ _; rw [add_block]; exact Nat.ne_of_lt (Nat.lt_of_lt_of_le (by have := yny _ _ hw113_0; first | rwa [add_block] at this | exact this) GW114.out)) | (dsimp only; exact Nat.ne_of_lt (Nat.lt_of_lt_of_le (by have := yny _ _ hw113_0; first | rwa [add_block] at this | exact this) GW114.out))) _).trans (hHeld.2.2.1)))), ((cell_far (p := ⟨gb114, _, none⟩) (by first | exact Nat.ne_of_lt (Nat.lt_of_lt_of_le (by have := yny _ _ hw113_1; first | rwa [add_block] at this | exact this) GW114.out) | (rw [add_block]; exact Nat.ne_of_lt (Nat.lt_of_lt_of_le (by have := yny _ _ hw113_1; first | rwa [add_block] at this | exact this) GW114.out)) | (show (Addr.add _ _).block ≠ _; rw [add_block]; exact Nat.ne_of_lt (Nat.lt_of_lt_of_le (by have := yny _ _ hw113_1; first | rwa [add_block] at this | exact this) GW114.out)) | (dsimp only; exact Nat.ne_of_lt (Nat.lt_of_lt_of_le (by have := yny _ _ hw113_1; first | rwa [add_block] at this | exact this) GW114.out))) _).trans (((cell_far (p := ⟨gb114, _, none⟩) (by first | exact Nat.ne_of_lt (Nat.lt_of_lt_of_le (by have := yny _ _ hw113_1; first | rwa [add_block] at this | exact this) GW114.out) | (rw [add_block]; exact Nat.ne_of_lt (Nat.lt_of_lt_of_le (by have := yny _ _ hw113_1; first | rwa [add_block] at this | exact this) GW114.out)) | (show (Addr.add _ _).block ≠ _; rw [add_block]; exact Nat.ne_of_lt (Nat.lt_of_lt_of_le (by have := yny _ _ hw113_1; first | rwa [add_block] at this | exact this) GW114.out)) | (dsimp only; exact Nat.ne_of_lt (Nat.lt_of_lt_of_le (by have := yny _ _ hw113_1; first | rwa [add_block] at this | exact this) GW114.out))) _).trans (hHeld.2.2.2))))⟩ (fun hHeld => ?_)
        clear hK K
        refine done_ (done_of HT_.out (by kernel_rfl)) ?_
        have hnb40 := NB114_101.out
        have hnc40 := NB101_114.out
        have hnb41 := NB114_102.out
        have hnc41 := NB102_114.out
        have hnb42 := NB114_105.out
        have hnc42 := NB105_114.out
        have hcz43_0 : w37.cell? ⟨gb114, 0, none⟩ = some (.int .i64 0) := (blk_cell BK114.out 0).trans rfl
        have hcz43_1 : w37.cell? ⟨gb114, 1, none⟩ = some (.int .i64 0) := (blk_cell BK114.out 1).trans rfl
        have hfz43_0 := blk_frozen BK114.out 0
        have hfz43_1 := blk_frozen BK114.out 1
        try go_wp2
        go_roundg k2
        case measure => have := HK1.out; have := HK2.out; omega
        case rel => exact ⟨(x7_2), (wrap64 (x8_2 + 1)), (by first | rfl | (simp; done) | (simp [*]; done)), H', ⟨by have := HK1.out; have := HK2.out; omega⟩, ⟨by (with_reducible repeat (first | apply Kd.R_alloc | apply Kd.R_drewN | apply Kd.R_drew)); exact Kd.R_mono (Kd.R_far (p := ⟨gb114, 1, none⟩) (Kd.R_far (p := ⟨gb114, 0, none⟩) (Kd.R_mono HO_7.out (fun k_ hk => (⟨hk, hk.2⟩ : _ ∧ k_ ≠ gb114))) (fun _ hk => hk.2) (.int .i64 ((rd_Face (rd_LFace l0_0 (ji30)) x8_2).f0))) (fun _ hk => hk.2) (.int .i64 ((rd_Face (rd_LFace l0_0 (ji30)) x8_2).f1))) (fun _ hk => trivial)⟩, ⟨by (with_reducible repeat (first | apply Kd.S_alloc | apply Kd.S_drewN | apply Kd.S_drew)); exact Kd.S_mono (Kd.S_far (p := ⟨gb114, 1, none⟩) (Kd.S_far (p := ⟨gb114, 0, none⟩) (Kd.S_mono HO_106000.out (fun k_ hk => (⟨hk, hk.2⟩ : _ ∧ k_ ≠ gb114))) (fun _ hk => hk.2) (.int .i64 ((rd_Face (rd_LFace l0_0 (ji30)) x8_2).f0))) (fun _ hk => hk.2) (.int .i64 ((rd_Face (rd_LFace l0_0 (ji30)) x8_2).f1))) (fun _ hk => hk.1.1)⟩, ⟨by (with_reducible repeat (first | refine blk_drewN ?_ _ | refine blk_drew ?_ | refine blk_alloc ?_ _)); refine blk_far ?_ NB101_114.out _; (with_reducible repeat (first | refine blk_drewN ?_ _ | refine blk_drew ?_ | refine blk_alloc ?_ _)); refine blk_far ?_ NB101_114.out _; (with_reducible repeat (first | refine blk_drewN ?_ _ | refine blk_drew ?_ | refine blk_alloc ?_ _)); exact BK101.out⟩, ⟨by (with_reducible repeat (first | refine blk_drewN ?_ _ | refine blk_drew ?_ | refine blk_alloc ?_ _)); refine blk_far ?_ NB102_114.out _; (with_reducible repeat (first | refine blk_drewN ?_ _ | refine blk_drew ?_ | refine blk_alloc ?_ _)); refine blk_far ?_ NB102_114.out _; (with_reducible repeat (first | refine blk_drewN ?_ _ | refine blk_drew ?_ | refine blk_alloc ?_ _)); exact BK102.out⟩, ⟨by (with_reducible repeat (first | refine blk_drewN ?_ _ | refine blk_drew ?_ | refine blk_alloc ?_ _)); refine blk_far ?_ NB105_114.out _; (with_reducible repeat (first | refine blk_drewN ?_ _ | refine blk_drew ?_ | refine blk_alloc ?_ _)); refine blk_far ?_ NB105_114.out _; (with_reducible repeat (first | refine blk_drewN ?_ _ | refine blk_drew ?_ | refine blk_alloc ?_ _)); exact BK105.out⟩, ⟨by repeat (first | (with_reducible first | exact HB.out | apply below_alloc | apply pw_below_drewN | apply below_drew1 | refine below_set ?_ GE101.out | refine below_set ?_ GE102.out | refine below_set ?_ GE105.out | refine below_set ?_ GE114.out) | exact HB.out)⟩⟩
       next =>
        rw [if_neg c35] at H
        have c35b0 : decide (((rd_Face (rd_LFace l0_0 (ji30)) x8_2).f0) < 0) = false := yhy c35
        clear c35
        replace H := ydy.mp H
        obtain ⟨t115, A440, H⟩ := H
        replace H : (if t115 = 1 then (if x8_2 < (x7_2.length : Int) then (spec_DoubleCover.l1 k2 t104 x6_1 (x7_2.set (x8_2 : Int).toNat (⟨wrap64 (((rd_Face (rd_LFace l0_0 (ji30)) x8_2).f0) + (wrap64 (t104 * (wrap64 (1 - (wrap64 (Int.tdiv x6_1 t104))))))), (rd_Face (rd_LFace l0_0 (ji30)) x8_2).f1⟩ : SFace)) (wrap64 (x8_2 + 1)) l0_0 x106000_1) else (none)) else (if x8_2 < (x7_2.length : Int) then (spec_DoubleCover.l1 k2 t104 x6_1 (x7_2.set (x8_2 : Int).toNat (⟨wrap64 (((rd_Face (rd_LFace l0_0 (ji30)) x8_2).f0) + (wrap64 (t104 * (wrap64 (Int.tdiv x6_1 t104))))), (rd_Face (rd_LFace l0_0 (ji30)) x8_2).f1⟩ : SFace)) (wrap64 (x8_2 + 1)) l0_0 x106000_1) else (none))) = some (r1, r2) := H
        have A44 := Aside0.mk A440
        clear A440
        by_cases c45 : t115 = 1
        rotate_left
        next =>
         rw [if_neg c45] at H
         have c45b0 : (t115 == 1) = false := beq_eq_false_iff_ne.mpr c45
         have c45b1 : (t115 != 1) = true := bne_iff_ne.mpr c45
         by_cases c60 : x8_2 < (x7_2.length : Int)
         rotate_left
         next =>
          rw [if_neg c60] at H
          exact absurd H (by simp)
         rw [if_pos c60] at H
         have c60b0 : decide (x8_2 < (x7_2.length : Int)) = true := ygy c60
         clear c60
         obtain ⟨y117, hy117⟩ : ∃ y_ : List (SFace), y_ = (x7_2.set (x8_2 : Int).toNat (⟨wrap64 (((rd_Face (rd_LFace l0_0 (ji30)) x8_2).f0) + (wrap64 (t104 * (wrap64 (Int.tdiv x6_1 t104))))), (rd_Face (rd_LFace l0_0 (ji30)) x8_2).f1⟩ : SFace)) := ⟨_, rfl⟩
         replace H : (spec_DoubleCover.l1 k2 t104 x6_1 y117 (wrap64 (x8_2 + 1)) l0_0 x106000_1) = some (r1, r2) := by first | (rw [hy117]; with_reducible exact H) | (have H2_ := (yfy _ _).symm.trans H; rw [hy117]; with_reducible exact H2_) | (have H2_ := (yfy _ _).symm.trans H; with_reducible exact H2_) | with_reducible exact H | (rw [hy117]; exact H) | exact H
         have Ny117 := Aside0.mk hy117
         clear hy117
         have H' := Aside0.mk H
         clear H
         try go_wp2
         have n0_ := Aside0.mk (Kd.R_drew HO_7.out)
         have n1_ := Aside0.mk (Kd.S_drew HO_106000.out)
         have n2_ := Aside0.mk (blk_drew BK101.out)
         have n3_ := Aside0.mk (blk_drew BK102.out)
         have n4_ := Aside0.mk (blk_drew BK105.out)
         have n5_ := Aside0.mk (below_drew1 HB.out)
         clear HO_7
         clear HO_106000
         clear BK101
         clear BK102
         clear BK105
         clear HB
         have HO_7 := n0_
         have HO_106000 := n1_
         have BK101 := n2_
         have BK102 := n3_
         have BK105 := n4_
         have HB := n5_
         clear n0_ n1_ n2_ n3_ n4_ n5_
         have p112 : 0 ≤ ((ji30) : Int) := of_decide_eq_true (by first | (with_reducible assumption) | assumption)
         have q112 : (ji30) < (l0_0.length : Int) := of_decide_eq_true (by first | (with_reducible assumption) | assumption)
         obtain ⟨ad112, A112_0, c112_0, e112, hx112_0, hl112_0, hi112_0⟩ := at_LFace HR0_0.out (ji30) p112 q112
         have hw112_0 := hx112_0
         cases e112
         replace hx112_0 := (HB.out.cell (yny w _ hx112_0)).trans hx112_0
         have HR112_0 := Aside0.mk hi112_0
         have HC112_0 := Aside0.mk hl112_0
         clear hi112_0 hl112_0
         replace p112 := eq_true p112
         replace q112 := eq_true q112
         have p113 : 0 ≤ (x8_2 : Int) := of_decide_eq_true (by first | (with_reducible assumption) | assumption)
         have q113 : x8_2 < ((rd_LFace l0_0 (ji30)).length : Int) := of_decide_eq_true (by first | (with_reducible assumption) | assumption)
         obtain ⟨ad113, e113, hx113_0, hx113_1⟩ := at_Face HR112_0.out x8_2 p113 q113
         have hw113_1 := hx113_1
         have hw113_0 := hx113_0
         cases e113
         replace hx113_0 := (HB.out.cell (yny w _ hx113_0)).trans hx113_0
         replace hx113_1 := (HB.out.cell (yny w _ hx113_1)).trans hx113_1
         replace p113 := eq_true p113
         replace q113 := eq_true q113
         refine start_ (n := 12) (S := fun w' => w'.cell? ⟨gb101, 0, none⟩ = some (.slice (some ad112) l0_0.length c0_0) ∧ w'.cell? (ad112.add ((ji30)).toNat) = some (.slice (some ad113) (rd_LFace l0_0 (ji30)).length c112_0) ∧ w'.cell? (ad113.add ((x8_2).toNat * 2)) = some (.int .i64 ((rd_Face (rd_LFace l0_0 (ji30)) x8_2).f0)) ∧ w'.cell? ⟨(ad113.add ((x8_2).toNat * 2)).block, (ad113.add ((x8_2).toNat * 2)).off + 1, none⟩ = some (.int .i64 ((rd_Face (rd_LFace l0_0 (ji30)) x8_2).f1))) (ds := []) #[false, false, false, false, false, false, false, false, false, false, false, false] (by kernel_rfl) rfl rfl ⟨(blk_cell BK101.out 0).trans rfl, ((HB.out.cell (yny w _ hw112_0)).trans hw112_0), ((HB.out.cell (yny w _ hw113_0)).trans hw113_0), ((HB.out.cell (yny w _ hw113_1)).trans hw113_1)⟩ (fun hHeld => ?_); refine with_tabW spec_DoubleCover.tab14 spec_DoubleCover.bits14 (fun HT_ HW_ => ?_)
         generalize wr.drew = w62 at HO_7 HO_106000 BK101 BK102 BK105 HB HR112_0 hx112_0 hx113_0 hx113_1 hHeld ⊢
         refine pure_ (i := 0) (N := some 33) (v := ?_) (a' := ?_) #[true, false, false, false, false, false, false, false, false, false, false, false] rfl rfl (any_of HT_.out (by kernel_rfl)) (fun _ _ _ h => h) (Or.inl ⟨by rfl, ?_⟩) ?_ ?_
         rotate_left
         next =>
          intro w'
          go_simp
          with_reducible rfl
         rotate_left
         next =>
          simp only [Act.put, yay, yby, ycy, i64_w, i32_w]
          rfl
         refine pure_ (i := 2) (N := some 35) (v := ?_) (a' := ?_) #[true, false, true, false, false, false, false, false, false, false, false, false] rfl rfl (any_of HT_.out (by kernel_rfl)) (fun _ _ _ h => h) (Or.inl ⟨by rfl, ?_⟩) ?_ ?_
         rotate_left
         next =>
          intro w'
          go_simp
          with_reducible rfl
         rotate_left
         next =>
          simp only [Act.put, yay, yby, ycy, i64_w, i32_w]
          rfl
         refine pure_ (i := 3) (N := some 36) (v := ?_) (a' := ?_) #[true, false, true, true, false, false, false, false, false, false, false, false] rfl rfl (any_of HT_.out (by kernel_rfl)) (fun _ _ _ h => h) (Or.inl ⟨by rfl, ?_⟩) ?_ ?_
         rotate_left
         next =>
          intro w'
          go_simp
          with_reducible rfl
         rotate_left
         next =>
          simp only [Act.put, yay, yby, ycy, i64_w, i32_w]
          rfl
         refine pure_ (i := 4) (N := some 37) (v := ?_) (a' := ?_) #[true, false, true, true, true, false, false, false, false, false, false, false] rfl rfl (any_of HT_.out (by kernel_rfl)) (fun _ _ _ h => h) (Or.inl ⟨by rfl, ?_⟩) ?_ ?_
         rotate_left
         next =>
          intro w'
          go_simp
          with_reducible rfl
         rotate_left
         next =>
          simp only [Act.put, yay, yby, ycy, i64_w, i32_w]
          rfl
         refine pure_ (i := 7) (N := some 40) (v := ?_) (a' := ?_) #[true, false, true, true, true, false, false, true, false, false, false, false] rfl rfl (any_of HT_.out (by kernel_rfl)) (fun _ _ _ h => h) (Or.inl ⟨by rfl, ?_⟩) ?_ ?_
         rotate_left
         next =>
          intro w'
          go_simp
          with_reducible rfl
         rotate_left
         next =>
          simp only [Act.put, yay, yby, ycy, i64_w, i32_w]
          rfl
         refine take_ (i := 1) (N := some 34) (v := ?_) (a' := ?_) #[true, true, true, true, true, false, false, true, false, false, false, false] rfl rfl (take_ofW HT_.out HW_.out (by kernel_rfl)) (fun _ _ _ h => h) (Or.inl ⟨by rfl, ?_⟩) hHeld ?_ ?_
         rotate_left
         next =>
          rintro w' ⟨s0, s1, s2, s3⟩
          go_simp
          with_reducible rfl
         rotate_left
         next =>
          simp only [Act.put, yay, yby, ycy, i64_w, i32_w]
          rfl
         refine pure_ (i := 5) (N := some 38) (v := ?_) (a' := ?_) #[true, true, true, true, true, true, false, true, false, false, false, false] rfl rfl (any_of HT_.out (by kernel_rfl)) (fun _ _ _ h => h) (Or.inl ⟨by rfl, ?_⟩) ?_ ?_
         rotate_left
         next =>
          intro w'
          go_simp
          with_reducible rfl
         rotate_left
         next =>
          simp only [Act.put, yay, yby, ycy, i64_w, i32_w]
          rfl
         refine take_ (i := 6) (N := some 39) (v := ?_) (a' := ?_) #[true, true, true, true, true, true, true, true, false, false, false, false] rfl rfl (take_ofW HT_.out HW_.out (by kernel_rfl)) (fun _ _ _ h => h) (Or.inl ⟨by rfl, ?_⟩) hHeld ?_ ?_
         rotate_left
         next =>
          rintro w' ⟨s0, s1, s2, s3⟩
          go_simp
          with_reducible rfl
         rotate_left
         next =>
          simp only [Act.put, yay, yby, ycy, i64_w, i32_w]
          rfl
         refine pure_ (i := 8) (N := some 41) (v := ?_) (a' := ?_) #[true, true, true, true, true, true, true, true, true, false, false, false] rfl rfl (any_of HT_.out (by kernel_rfl)) (fun _ _ _ h => h) (Or.inl ⟨by rfl, ?_⟩) ?_ ?_
         rotate_left
         next =>
          intro w'
          go_simp
          with_reducible rfl
         rotate_left
         next =>
          simp only [Act.put, yay, yby, ycy, i64_w, i32_w]
          rfl
         refine take_ (i := 9) (N := some 42) (v := ?_) (a' := ?_) #[true, true, true, true, true, true, true, true, true, true, false, false] rfl rfl (take_ofW HT_.out HW_.out (by kernel_rfl)) (fun _ _ _ h => h) (Or.inl ⟨by rfl, ?_⟩) hHeld ?_ ?_
         rotate_left
         next =>
          rintro w' ⟨s0, s1, s2, s3⟩
          go_simp
          with_reducible rfl
         rotate_left
         next =>
          simp only [Act.put, yay, yby, ycy, i64_w, i32_w]
          rfl
         refine one_ (i := 10) (N := some 9) #[true, true, true, true, true, true, true, true, true, true, true, false] rfl rfl (one_of HT_.out (by kernel_rfl)) (by decide) (fun K hK => ?_)
         refine box_step ?hg (N := 9) ?hd (cs := #[.int .i64 0, .int .i64 0]) (t := 75) ?hr ?_; (case hd => rfl); (case hg => rfl); (case hr => first | (go_simp; done) | (go_simp; rfl))
         intro gb114 hg w63 hbox hb
         have n0_ := Aside0.mk (Kd.R_below (Kd.R_elderB (by (with_reducible repeat (first | apply Kd.R_alloc | apply Kd.R_drewN | apply Kd.R_drew)); exact HO_7.out) gb114 (Nat.le_of_eq hg.symm)) hb)
         have n1_ := Aside0.mk (Kd.S_below (Kd.S_elderB (by (with_reducible repeat (first | apply Kd.S_alloc | apply Kd.S_drewN | apply Kd.S_drew)); exact HO_106000.out) gb114 (Nat.le_of_eq hg.symm)) hb)
         have n2_ := Aside0.mk (blk_below (g := gb101) (o := .cells #[.slice (some ad112) l0_0.length c0_0] 35 (0, 0)) (by (with_reducible repeat (first | refine blk_drewN ?_ _ | refine blk_drew ?_ | refine blk_alloc ?_ _)); exact BK101.out) hb)
         have n3_ := Aside0.mk (blk_below (g := gb102) (o := .cells #[.slice none 0 0] 35 (0, 0)) (by (with_reducible repeat (first | refine blk_drewN ?_ _ | refine blk_drew ?_ | refine blk_alloc ?_ _)); exact BK102.out) hb)
         have n4_ := Aside0.mk (blk_below (g := gb105) (o := .cells #[u106000] 35 (0, 0)) (by (with_reducible repeat (first | refine blk_drewN ?_ _ | refine blk_drew ?_ | refine blk_alloc ?_ _)); exact BK105.out) hb)
         have n5_ := Aside0.mk (below_step (by repeat (first | (with_reducible first | exact HB.out | apply below_alloc | apply pw_below_drewN | apply below_drew1 | refine below_set ?_ GE101.out | refine below_set ?_ GE102.out | refine below_set ?_ GE105.out) | exact HB.out)) hb)
         have n6_ := Aside0.mk (hbox)
         have n7_ := Aside0.mk ((by rw [hg]; exact (below_size (by repeat (first | (with_reducible first | exact HB.out | apply below_alloc | apply pw_below_drewN | apply below_drew1 | refine below_set ?_ GE101.out | refine below_set ?_ GE102.out | refine below_set ?_ GE105.out) | exact HB.out))) : w.heap.size ≤ gb114))
         have n8_ := Aside0.mk ((by rw [hg]; exact (below_size (by repeat (first | (with_reducible first | exact HB.out | apply below_alloc | apply pw_below_drewN | apply below_drew1 | refine below_set ?_ GE101.out | refine below_set ?_ GE102.out | refine below_set ?_ GE105.out) | exact HB.out))) : w.heap.size ≤ gb114))
         have n9_ := Aside0.mk ((by rw [hg]; exact Nat.ne_of_lt (blk_lt (g := gb101) (o := .cells #[.slice (some ad112) l0_0.length c0_0] 35 (0, 0)) (by (with_reducible repeat (first | refine blk_drewN ?_ _ | refine blk_drew ?_ | refine blk_alloc ?_ _)); exact BK101.out)) : gb101 ≠ gb114))
         have n10_ := Aside0.mk ((by rw [hg]; exact Nat.ne_of_gt (blk_lt (g := gb101) (o := .cells #[.slice (some ad112) l0_0.length c0_0] 35 (0, 0)) (by (with_reducible repeat (first | refine blk_drewN ?_ _ | refine blk_drew ?_ | refine blk_alloc ?_ _)); exact BK101.out)) : gb114 ≠ gb101))
         have n11_ := Aside0.mk ((by rw [hg]; exact Nat.ne_of_lt (blk_lt (g := gb102) (o := .cells #[.slice none 0 0] 35 (0, 0)) (by (with_reducible repeat (first | refine blk_drewN ?_ _ | refine blk_drew ?_ | refine blk_alloc ?_ _)); exact BK102.out)) : gb102 ≠ gb114))
         have n12_ := Aside0.mk ((by rw [hg]; exact Nat.ne_of_gt (blk_lt (g := gb102) (o := .cells #[.slice none 0 0] 35 (0, 0)) (by (with_reducible repeat (first | refine blk_drewN ?_ _ | refine blk_drew ?_ | refine blk_alloc ?_ _)); exact BK102.out)) : gb114 ≠ gb102))
         have n13_ := Aside0.mk ((by rw [hg]; exact Nat.ne_of_lt (blk_lt (g := gb105) (o := .cells #[u106000] 35 (0, 0)) (by (with_reducible repeat (first | refine blk_drewN ?_ _ | refine blk_drew ?_ | refine blk_alloc ?_ _)); exact BK105.out)) : gb105 ≠ gb114))
         have n14_ := Aside0.mk ((by rw [hg]; exact Nat.ne_of_gt (blk_lt (g := gb105) (o := .cells #[u106000] 35 (0, 0)) (by (with_reducible repeat (first | refine blk_drewN ?_ _ | refine blk_drew ?_ | refine blk_alloc ?_ _)); exact BK105.out)) : gb114 ≠ gb105))
         clear HO_7
         clear HO_106000
         clear BK101
         clear BK102
         clear BK105
         clear HB
         have HO_7 := n0_
         have HO_106000 := n1_
         have BK101 := n2_
         have BK102 := n3_
         have BK105 := n4_
         have HB := n5_
         have BK114 := n6_
         have GW114 := n7_
         have GE114 := n8_
         have NB101_114 := n9_
         have NB114_101 := n10_
         have NB102_114 := n11_
         have NB114_102 := n12_
         have NB105_114 := n13_
         have NB114_105 := n14_
         clear n0_ n1_ n2_ n3_ n4_ n5_ n6_ n7_ n8_ n9_ n10_ n11_ n12_ n13_ n14_
         clear hb hbox hg
         refine hK.out _ _ ⟨(blk_cell BK101.out 0).trans rfl, ((HB.out.cell (yny w _ hw112_0)).trans hw112_0), ((HB.out.cell (yny w _ hw113_0)).trans hw113_0), ((HB.out.cell (yny w _ hw113_1)).trans hw113_1)⟩ (fun hHeld => ?_)
         clear hK K
         refine norm_ (a' := ?_) ?_ ?_
         rotate_left
         next =>
          show Act.put _ (some 9) _ = _
          simp only [Act.put, yay, yby, ycy, i64_w, i32_w]
          rfl
         refine one_ (i := 11) (N := none) #[true, true, true, true, true, true, true, true, true, true, true, true] rfl rfl (one_of HT_.out (by kernel_rfl)) (by decide) (fun K hK => ?_)
         have hs64 : w63.cell? ⟨gb114, 0, none⟩ = some (.int .i64 0) := (blk_cell BK114.out 0).trans rfl
         have hfs64 := blk_frozen BK114.out 0
         have hns64_0 := NB101_114.out
         have hns64_1 := NB102_114.out
         have hns64_2 := NB105_114.out
         have hms64_0 := NB114_101.out
         have hms64_1 := NB114_102.out
         have hms64_2 := NB114_105.out
         have hs65 : w63.cell? ⟨gb114, 1, none⟩ = some (.int .i64 0) := (blk_cell BK114.out 1).trans rfl
         have hfs65 := blk_frozen BK114.out 1
         have hns65_0 := NB101_114.out
         have hns65_1 := NB102_114.out
         have hns65_2 := NB105_114.out
         have hms65_0 := NB114_101.out
         have hms65_1 := NB114_102.out
         have hms65_2 := NB114_105.out
         refine skip_ (w1 := ?_) (by rfl) rfl ?_ ?_
         rotate_left
         next =>
          go_simp
          rfl
         refine hK.out _ _ ⟨((cell_far (p := ⟨gb114, _, none⟩) NB101_114.out _).trans (((cell_far (p := ⟨gb114, _, none⟩) NB101_114.out _).trans (hHeld.1)))), ((cell_far (p := ⟨gb114, _, none⟩) (by first | exact Nat.ne_of_lt (Nat.lt_of_lt_of_le (by have := yny _ _ hw112_0; first | rwa [add_block] at this | exact this) GW114.out) | (rw [add_block]; exact Nat.ne_of_lt (Nat.lt_of_lt_of_le (by have := yny _ _ hw112_0; first | rwa [add_block] at this | exact this) GW114.out)) | (show (Addr.add _ _).block ≠ _; rw [add_block]; exact Nat.ne_of_lt (Nat.lt_of_lt_of_le (by have := yny _ _ hw112_0; first | rwa [add_block] at this | exact this) GW114.out)) | (dsimp only; exact Nat.ne_of_lt (Nat.lt_of_lt_of_le (by have := yny _ _ hw112_0; first | rwa [add_block] at this | exact this) GW114.out))) _).trans (((cell_far (p := ⟨gb114, _, none⟩) (by first | exact Nat.ne_of_lt (Nat.lt_of_lt_of_le (by have := yny _ _ hw112_0; first | rwa [add_block] at this | exact this) GW114.out) | (rw [add_block]; exact Nat.ne_of_lt (Nat.lt_of_lt_of_le (by have := yny _ _ hw112_0; first | rwa [add_block] at this | exact this) GW114.out)) | (show (Addr.add _ _).block ≠ _; rw [add_block]; exact Nat.ne_of_lt (Nat.lt_of_lt_of_le (by have := yny _ _ hw112_0; first | rwa [add_block] at this | exact this) GW114.out)) | (dsimp only; exact Nat.ne_of_lt (Nat.lt_of_lt_of_le (by have := yny _ _ hw112_0; first | rwa [add_block] at this | exact this) GW114.out))) _).trans (hHeld.2.1)))), ((cell_far (p := ⟨gb114, _, none⟩) (by first | exact Nat.ne_of_lt (Nat.lt_of_lt_of_le (by have := yny _ _ hw113_0; first | rwa [add_block] at this | exact this) GW114.out) | (rw [add_block]; exact Nat.ne_of_lt (Nat.lt_of_lt_of_le (by have := yny _ _ hw113_0; first | rwa [add_block] at this | exact this) GW114.out)) | (show (Addr.add _ _).block ≠ _; rw [add_block]; exact Nat.ne_of_lt (Nat.lt_of_lt_of_le (by have := yny _ _ hw113_0; first | rwa [add_block] at this | exact this) GW114.out)) | (dsimp only; exact Nat.ne_of_lt (Nat.lt_of_lt_of_le (by have := yny _ _ hw113_0; first | rwa [add_block] at this | exact this) GW114.out))) _).trans (((cell_far (p := ⟨gb114, _, none⟩) (by first | exact Nat.ne_of_lt (Nat.lt_of_lt_of_le (by have := yny _ _ hw113_0; first | rwa [add_block] at this | exact this) GW114.out) | (rw [add_block]; exact Nat.ne_of_lt (Nat.lt_of_lt_of_le (by have := yny _ _ hw113_0; first | rwa [add_block] at this | exact this) GW114.out)) | (show (Addr.add _ _).block ≠ _; rw [add_block]; exact Nat.ne_of_lt (Nat.lt_of_lt_of_le (by have := yny _ _ hw113_0; first | rwa [add_block] at this | exact this) GW114.out)) | (dsimp only; exact Nat.ne_of_lt (Nat.lt_of_lt_of_le (by have := yny _ _ hw113_0; first | rwa [add_block] at this | exact this) GW114.out))) _).trans (hHeld.2.2.1)))), ((cell_far (p := ⟨gb114, _, none⟩) (by first | exact Nat.ne_of_lt (Nat.lt_of_lt_of_le (by have := yny _ _ hw113_1; first | rwa [add_block] at this | exact this) GW114.out) | (rw [add_block]; exact Nat.ne_of_lt (Nat.lt_of_lt_of_le (by have := yny _ _ hw113_1; first | rwa [add_block] at this | exact this) GW114.out)) | (show (Addr.add _ _).block ≠ _; rw [add_block]; exact Nat.ne_of_lt (Nat.lt_of_lt_of_le (by have := yny _ _ hw113_1; first | rwa [add_block] at this | exact this) GW114.out)) | (dsimp only; exact Nat.ne_of_lt (Nat.lt_of_lt_of_le (by have := yny _ _ hw113_1; first | rwa [add_block] at this | exact this) GW114.out))) _).trans (((cell_far (p := ⟨gb114, _, none⟩) (by first | exact Nat.ne_of_lt (Nat.lt_of_lt_of_le (by have := yny _ _ hw113_1; first | rwa [add_block] at this | exact this) GW114.out) | (rw [add_block]; exact Nat.ne_of_lt (Nat.lt_of_lt_of_le (by have := yny _ _ hw113_1; first | rwa [add_block] at this | exact this) GW114.out)) | (show (Addr.add _ _).block ≠ _; rw [add_block]; exact Nat.ne_of_lt (Nat.lt_of_lt_of_le (by have := yny _ _ hw113_1; first | rwa [add_block] at this | exact this) GW114.out)) | (dsimp only; exact Nat.ne_of_lt (Nat.lt_of_lt_of_le (by have := yny _ _ hw113_1; first | rwa [add_block] at this | exact this) GW114.out))) _).trans (hHeld.2.2.2))))⟩ (fun hHeld => ?_)
         clear hK K
         refine done_ (done_of HT_.out (by kernel_rfl)) ?_
         have hnb66 := NB114_101.out
         have hnc66 := NB101_114.out
         have hnb67 := NB114_102.out
         have hnc67 := NB102_114.out
         have hnb68 := NB114_105.out
         have hnc68 := NB105_114.out
         have hcz69_0 : w63.cell? ⟨gb114, 0, none⟩ = some (.int .i64 0) := (blk_cell BK114.out 0).trans rfl
         have hcz69_1 : w63.cell? ⟨gb114, 1, none⟩ = some (.int .i64 0) := (blk_cell BK114.out 1).trans rfl
         have hfz69_0 := blk_frozen BK114.out 0
         have hfz69_1 := blk_frozen BK114.out 1
         try go_wp2_with (first | ((with_reducible refine gate_callee (f := 67) rfl ?_); refine goesL_ (some 51) rfl rfl Try.func67 (by kernel_rfl) rfl #[.int .i64 ((rd_Face (rd_LFace l0_0 (ji30)) x8_2).f1)] rfl (by (try simp only [yiy, yjy, yky]); first | done | (simp only [hji30]; rfl) | rfl | (simp only [yly, ymy]; rfl)) ?_; (with_reducible refine (spec_SignPerm4.calls k2 ((rd_Face (rd_LFace l0_0 (ji30)) x8_2).f1) t115 _ A44.out).mono ?_); rintro e w70 ⟨rfl, hb⟩; refine ⟨_, rfl, ?_⟩; have n0_ := Aside0.mk (Kd.R_below (by (with_reducible repeat (first | apply Kd.R_alloc | apply Kd.R_drewN | apply Kd.R_drew)); exact (Kd.R_mono (Kd.R_far (p := ⟨gb114, 1, none⟩) (Kd.R_far (p := ⟨gb114, 0, none⟩) (Kd.R_mono HO_7.out (fun k_ hk => (⟨hk, hk.2⟩ : _ ∧ k_ ≠ gb114))) (fun _ hk => hk.2) (.int .i64 ((rd_Face (rd_LFace l0_0 (ji30)) x8_2).f0))) (fun _ hk => hk.2) (.int .i64 ((rd_Face (rd_LFace l0_0 (ji30)) x8_2).f1))) (fun _ h_ => h_.1))) hb); have n1_ := Aside0.mk (Kd.S_below (by (with_reducible repeat (first | apply Kd.S_alloc | apply Kd.S_drewN | apply Kd.S_drew)); exact (Kd.S_mono (Kd.S_far (p := ⟨gb114, 1, none⟩) (Kd.S_far (p := ⟨gb114, 0, none⟩) (Kd.S_mono HO_106000.out (fun k_ hk => (⟨hk, hk.2⟩ : _ ∧ k_ ≠ gb114))) (fun _ hk => hk.2) (.int .i64 ((rd_Face (rd_LFace l0_0 (ji30)) x8_2).f0))) (fun _ hk => hk.2) (.int .i64 ((rd_Face (rd_LFace l0_0 (ji30)) x8_2).f1))) (fun _ h_ => h_.1))) hb); have n2_ := Aside0.mk (blk_below (g := gb101) (o := .cells #[.slice (some ad112) l0_0.length c0_0] 35 (0, 0)) (by (with_reducible repeat (first | refine blk_drewN ?_ _ | refine blk_drew ?_ | refine blk_alloc ?_ _)); refine blk_far ?_ NB101_114.out _; (with_reducible repeat (first | refine blk_drewN ?_ _ | refine blk_drew ?_ | refine blk_alloc ?_ _)); refine blk_far ?_ NB101_114.out _; (with_reducible repeat (first | refine blk_drewN ?_ _ | refine blk_drew ?_ | refine blk_alloc ?_ _)); exact BK101.out) hb); have n3_ := Aside0.mk (blk_below (g := gb102) (o := .cells #[.slice none 0 0] 35 (0, 0)) (by (with_reducible repeat (first | refine blk_drewN ?_ _ | refine blk_drew ?_ | refine blk_alloc ?_ _)); refine blk_far ?_ NB102_114.out _; (with_reducible repeat (first | refine blk_drewN ?_ _ | refine blk_drew ?_ | refine blk_alloc ?_ _)); refine blk_far ?_ NB102_114.out _; (with_reducible repeat (first | refine blk_drewN ?_ _ | refine blk_drew ?_ | refine blk_alloc ?_ _)); exact BK102.out) hb); have n4_ := Aside0.mk (blk_below (g := gb105) (o := .cells #[u106000] 35 (0, 0)) (by (with_reducible repeat (first | refine blk_drewN ?_ _ | refine blk_drew ?_ | refine blk_alloc ?_ _)); refine blk_far ?_ NB105_114.out _; (with_reducible repeat (first | refine blk_drewN ?_ _ | refine blk_drew ?_ | refine blk_alloc ?_ _)); refine blk_far ?_ NB105_114.out _; (with_reducible repeat (first | refine blk_drewN ?_ _ | refine blk_drew ?_ | refine blk_alloc ?_ _)); exact BK105.out) hb); have n5_ := Aside0.mk (blk_below (g := gb114) (o := .cells #[.int .i64 ((rd_Face (rd_LFace l0_0 (ji30)) x8_2).f0), .int .i64 ((rd_Face (rd_LFace l0_0 (ji30)) x8_2).f1)] 75 (0, 0)) (by (with_reducible repeat (first | refine blk_drewN ?_ _ | refine blk_drew ?_ | refine blk_alloc ?_ _)); refine blk_put (cs := #[.int .i64 ((rd_Face (rd_LFace l0_0 (ji30)) x8_2).f0), .int .i64 0]) ?_ 1 _ rfl; (with_reducible repeat (first | refine blk_drewN ?_ _ | refine blk_drew ?_ | refine blk_alloc ?_ _)); refine blk_put (cs := #[.int .i64 0, .int .i64 0]) ?_ 0 _ rfl; (with_reducible repeat (first | refine blk_drewN ?_ _ | refine blk_drew ?_ | refine blk_alloc ?_ _)); exact BK114.out) hb); have n6_ := Aside0.mk (below_step (by repeat (first | (with_reducible first | exact HB.out | apply below_alloc | apply pw_below_drewN | apply below_drew1 | refine below_set ?_ GE101.out | refine below_set ?_ GE102.out | refine below_set ?_ GE105.out | refine below_set ?_ GE114.out) | exact HB.out)) hb); clear HO_7; clear HO_106000; clear BK101; clear BK102; clear BK105; clear BK114; clear HB; have HO_7 := n0_; have HO_106000 := n1_; have BK101 := n2_; have BK102 := n3_; have BK105 := n4_; have BK114 := n5_; have HB := n6_; clear n0_ n1_ n2_ n3_ n4_ n5_ n6_; (try clear hb); (try clear hb2); (try clear hk); (try clear hi); have hcz71_0 : w70.cell? ⟨gb114, 0, none⟩ = some (.int .i64 ((rd_Face (rd_LFace l0_0 (ji30)) x8_2).f0)) := (blk_cell BK114.out 0).trans rfl; have hcz71_1 : w70.cell? ⟨gb114, 1, none⟩ = some (.int .i64 ((rd_Face (rd_LFace l0_0 (ji30)) x8_2).f1)) := (blk_cell BK114.out 1).trans rfl; have hfz71_0 := blk_frozen BK114.out 0; have hfz71_1 := blk_frozen BK114.out 1; have p61 : 0 ≤ (x8_2 : Int) := of_decide_eq_true (by first | (with_reducible assumption) | assumption); have q61 : (x8_2 : Int) < ((x7_2.length : Int) : Int) := of_decide_eq_true (by first | (with_reducible assumption) | assumption); obtain ⟨go61, co61, eo61, gb61, gl61, cl61, HG61⟩ := Kd.R_form HO_7.out (by omega); (first | cases eo61 | (injection eo61 with ea_ en_ ec_; (first | subst ea_ | (injection ea_ with ea_; subst ea_)); subst ec_; clear en_)); have GB61 := Aside0.mk gb61; have GG61 := Aside0.mk HG61; clear gb61 gl61 HG61; obtain ⟨ce61, hcl61, hM61, hcc61, hfr61⟩ := Kd.R_elem HO_7.out zFace (x8_2 : Int) p61 q61; obtain rfl := kFace_openM hM61; have hx61_0 : w70.cell? ⟨go61, (x8_2 : Int).toNat * 2, none⟩ = some (.int .i64 ((rd_Face x7_2 x8_2).f0)) := hcc61 0 _ rfl; have hx61_1 : w70.cell? ⟨go61, (x8_2 : Int).toNat * 2 + 1, none⟩ = some (.int .i64 ((rd_Face x7_2 x8_2).f1)) := hcc61 1 _ rfl; have hf61_0 : w70.frozen? ⟨go61, (x8_2 : Int).toNat * 2, none⟩ = false := hfr61 0; have hf61_1 : w70.frozen? ⟨go61, (x8_2 : Int).toNat * 2 + 1, none⟩ = false := hfr61 1; clear hcl61 hcc61 hfr61; (try clear hM61); replace p61 := eq_true p61; replace q61 := eq_true q61; have n_ := Aside0.mk (Kd.R_mono (ok' := (fun k_ => k_ ≠ gb114)) HO_7.out (fun k_ hk => hk.2)); clear HO_7; have HO_7 := n_; clear n_; have HX72 := Aside0.mk (show Kd.R kFace 75 w70 w.heap.size (fun k_ => k_ ≠ gb114) (.slice (some ⟨go61, 0, none⟩) x7_2.length co61) x7_2 from (by (with_reducible repeat (first | apply Kd.R_alloc | apply Kd.R_drewN | apply Kd.R_drew)); exact HO_7.out)); obtain ⟨ce72, hcl72, hM72, hcc72, hfr72⟩ := Kd.R_elem HX72.out zFace (x8_2 : Int) (of_decide_eq_true (by first | (with_reducible assumption) | assumption)) (by have h_ : (x8_2 : Int) < ((x7_2.length : Int) : Int) := of_decide_eq_true (by first | (with_reducible assumption) | assumption); first | exact h_ | (have e_ := (Kd.R_reads' HO_7.out).1; omega) | simpa using h_); obtain rfl := kFace_openM hM72; have HP72 := Kd.R_seg HX72.out (x8_2 : Int) (of_decide_eq_true (by first | (with_reducible assumption) | assumption)) (by have h_ : (x8_2 : Int) < ((x7_2.length : Int) : Int) := of_decide_eq_true (by first | (with_reducible assumption) | assumption); first | exact h_ | (have e_ := (Kd.R_reads' HO_7.out).1; omega) | simpa using h_) (seg := [.int .i64 (wrap64 (((rd_Face (rd_LFace l0_0 (ji30)) x8_2).f0) + (wrap64 (t104 * (wrap64 (Int.tdiv x6_1 t104)))))), .int .i64 ((rd_Face (rd_LFace l0_0 (ji30)) x8_2).f1)]) (j := 0) hcl72 hcc72 (show 2 ≤ 2 from by decide) (x' := (⟨wrap64 (((rd_Face (rd_LFace l0_0 (ji30)) x8_2).f0) + (wrap64 (t104 * (wrap64 (Int.tdiv x6_1 t104))))), (rd_Face (rd_LFace l0_0 (ji30)) x8_2).f1⟩ : SFace)) (kFace_mkM _ _ _ (⟨wrap64 (((rd_Face (rd_LFace l0_0 (ji30)) x8_2).f0) + (wrap64 (t104 * (wrap64 (Int.tdiv x6_1 t104))))), (rd_Face (rd_LFace l0_0 (ji30)) x8_2).f1⟩ : SFace) ) (fun _ hk => hk); have hx72_0 := hcc72 0 _ rfl; (try simp only [show (kFace).sz = 2 from rfl, Nat.mul_one, Nat.add_zero] at hx72_0); have hf72_0 := hfr72 0; (try simp only [show (kFace).sz = 2 from rfl, Nat.mul_one, Nat.add_zero] at hf72_0); have hx72_1 := hcc72 1 _ rfl; (try simp only [show (kFace).sz = 2 from rfl, Nat.mul_one, Nat.add_zero] at hx72_1); have hf72_1 := hfr72 1; (try simp only [show (kFace).sz = 2 from rfl, Nat.mul_one, Nat.add_zero] at hf72_1); clear hcl72 hcc72 hfr72 hM72) | ((with_reducible refine gate_store (t := 75) (p := 66) rfl ?_); refine store_event (t := 75) (p := 66) (v := ?vo_w73) (w1 := ((w70.setCell ⟨go61, (x8_2 : Int).toNat * 2, none⟩ (.int .i64 (wrap64 (((rd_Face (rd_LFace l0_0 (ji30)) x8_2).f0) + (wrap64 (t104 * (wrap64 (Int.tdiv x6_1 t104)))))))).setCell ⟨go61, (x8_2 : Int).toNat * 2 + 1, none⟩ (.int .i64 ((rd_Face (rd_LFace l0_0 (ji30)) x8_2).f1)))) ?hg ?ho ?hn ?hr ?_; (case ho => rfl); (case hg => rfl); (case hn => rfl); (case hr => first | (go_simp; done) | (go_simp; rfl)); intro w73 hw; have hg : w70.grownBy w73 (some go61) := (by rw [hw]; exact HP72.2); have hp_ : Kd.R kFace 75 w73 w.heap.size (fun k_ => k_ ≠ gb114) (.slice (some ⟨go61, 0, none⟩) x7_2.length co61) y117 := (by rw [hw, Ny117.out]; exact HP72.1); clear HP72; have n0_ := Aside0.mk (hp_); have n1_ := Aside0.mk (Kd.S_after (v := (.slice (some ⟨go61, 0, none⟩) x7_2.length co61)) (v1 := (.slice (some ⟨go61, 0, none⟩) x7_2.length co61)) (ok := (fun k_ => k_ ≠ gb114)) (by (with_reducible repeat (first | apply Kd.S_alloc | apply Kd.S_drewN | apply Kd.S_drew)); exact Kd.S_mono HO_106000.out (fun _ hk => ⟨hk.2, hk.1⟩)) hg (.inl rfl)); have n2_ := Aside0.mk (blk_grown (g := gb101) (o := .cells #[.slice (some ad112) l0_0.length c0_0] 35 (0, 0)) (by (with_reducible repeat (first | refine blk_drewN ?_ _ | refine blk_drew ?_ | refine blk_alloc ?_ _)); exact BK101.out) hg (Kd.R_ne HO_7.out BK101.out (by decide))); have n3_ := Aside0.mk (blk_grown (g := gb102) (o := .cells #[.slice none 0 0] 35 (0, 0)) (by (with_reducible repeat (first | refine blk_drewN ?_ _ | refine blk_drew ?_ | refine blk_alloc ?_ _)); exact BK102.out) hg (Kd.R_ne HO_7.out BK102.out (by decide))); have n4_ := Aside0.mk (blk_grown (g := gb105) (o := .cells #[u106000] 35 (0, 0)) (by (with_reducible repeat (first | refine blk_drewN ?_ _ | refine blk_drew ?_ | refine blk_alloc ?_ _)); exact BK105.out) hg (Kd.R_ne HO_7.out BK105.out (by decide))); have n5_ := Aside0.mk (blk_grown (g := gb114) (o := .cells #[.int .i64 ((rd_Face (rd_LFace l0_0 (ji30)) x8_2).f0), .int .i64 ((rd_Face (rd_LFace l0_0 (ji30)) x8_2).f1)] 75 (0, 0)) (by (with_reducible repeat (first | refine blk_drewN ?_ _ | refine blk_drew ?_ | refine blk_alloc ?_ _)); exact BK114.out) hg (Kd.R_away HO_7.out (fun _ hk => hk))); have n6_ := Aside0.mk ((by rw [hw]; exact below_set (below_set (HB.out) GB61.out) GB61.out : Below w.heap.size w w73)); clear HO_7; clear HO_106000; clear BK101; clear BK102; clear BK105; clear BK114; clear HB; have HO_7 := n0_; have HO_106000 := n1_; have BK101 := n2_; have BK102 := n3_; have BK105 := n4_; have BK114 := n5_; have HB := n6_; clear n0_ n1_ n2_ n3_ n4_ n5_ n6_; clear hg hw hp_))
         go_roundg k2
         case measure => have := HK1.out; have := HK2.out; omega
         case rel => exact ⟨(y117), (wrap64 (x8_2 + 1)), (by first | rfl | (simp; done) | (simp [*]; done)), H', ⟨by have := HK1.out; have := HK2.out; omega⟩, ⟨by (with_reducible repeat (first | apply Kd.R_alloc | apply Kd.R_drewN | apply Kd.R_drew)); exact Kd.R_mono HO_7.out (fun _ hk => trivial)⟩, ⟨by (with_reducible repeat (first | apply Kd.S_alloc | apply Kd.S_drewN | apply Kd.S_drew)); exact Kd.S_mono HO_106000.out (fun _ hk => hk.2)⟩, ⟨by (with_reducible repeat (first | refine blk_drewN ?_ _ | refine blk_drew ?_ | refine blk_alloc ?_ _)); exact BK101.out⟩, ⟨by (with_reducible repeat (first | refine blk_drewN ?_ _ | refine blk_drew ?_ | refine blk_alloc ?_ _)); exact BK102.out⟩, ⟨by (with_reducible repeat (first | refine blk_drewN ?_ _ | refine blk_drew ?_ | refine blk_alloc ?_ _)); exact BK105.out⟩, ⟨by repeat (first | (with_reducible first | exact HB.out | apply below_alloc | apply pw_below_drewN | apply below_drew1 | refine below_set ?_ GE101.out | refine below_set ?_ GE102.out | refine below_set ?_ GE105.out | refine below_set ?_ GE114.out) | exact HB.out)⟩⟩
        rw [if_pos c45] at H
        have c45b0 : (t115 == 1) = true := beq_iff_eq.mpr c45
        have c45b1 : (t115 != 1) = false := bne_eq_false_iff_eq.mpr c45
        clear c45
        by_cases c46 : x8_2 < (x7_2.length : Int)
        rotate_left
        next =>
         rw [if_neg c46] at H
         exact absurd H (by simp)
        rw [if_pos c46] at H
        have c46b0 : decide (x8_2 < (x7_2.length : Int)) = true := ygy c46
        clear c46
        obtain ⟨y116, hy116⟩ : ∃ y_ : List (SFace), y_ = (x7_2.set (x8_2 : Int).toNat (⟨wrap64 (((rd_Face (rd_LFace l0_0 (ji30)) x8_2).f0) + (wrap64 (t104 * (wrap64 (1 - (wrap64 (Int.tdiv x6_1 t104))))))), (rd_Face (rd_LFace l0_0 (ji30)) x8_2).f1⟩ : SFace)) := ⟨_, rfl⟩
        replace H : (spec_DoubleCover.l1 k2 t104 x6_1 y116 (wrap64 (x8_2 + 1)) l0_0 x106000_1) = some (r1, r2) := by first | (rw [hy116]; with_reducible exact H) | (have H2_ := (yfy _ _).symm.trans H; rw [hy116]; with_reducible exact H2_) | (have H2_ := (yfy _ _).symm.trans H; with_reducible exact H2_) | with_reducible exact H | (rw [hy116]; exact H) | exact H
        have Ny116 := Aside0.mk hy116
        clear hy116
        have H' := Aside0.mk H
        clear H
        try go_wp2
        have n0_ := Aside0.mk (Kd.R_drew HO_7.out)
        have n1_ := Aside0.mk (Kd.S_drew HO_106000.out)
        have n2_ := Aside0.mk (blk_drew BK101.out)
        have n3_ := Aside0.mk (blk_drew BK102.out)
        have n4_ := Aside0.mk (blk_drew BK105.out)
        have n5_ := Aside0.mk (below_drew1 HB.out)
        clear HO_7
        clear HO_106000
        clear BK101
        clear BK102
        clear BK105
        clear HB
        have HO_7 := n0_
        have HO_106000 := n1_
        have BK101 := n2_
        have BK102 := n3_
        have BK105 := n4_
        have HB := n5_
        clear n0_ n1_ n2_ n3_ n4_ n5_
        have p112 : 0 ≤ ((ji30) : Int) := of_decide_eq_true (by first | (with_reducible assumption) | assumption)
        have q112 : (ji30) < (l0_0.length : Int) := of_decide_eq_true (by first | (with_reducible assumption) | assumption)
        obtain ⟨ad112, A112_0, c112_0, e112, hx112_0, hl112_0, hi112_0⟩ := at_LFace HR0_0.out (ji30) p112 q112
        have hw112_0 := hx112_0
        cases e112
        replace hx112_0 := (HB.out.cell (yny w _ hx112_0)).trans hx112_0
        have HR112_0 := Aside0.mk hi112_0
        have HC112_0 := Aside0.mk hl112_0
        clear hi112_0 hl112_0
        replace p112 := eq_true p112
        replace q112 := eq_true q112
        have p113 : 0 ≤ (x8_2 : Int) := of_decide_eq_true (by first | (with_reducible assumption) | assumption)
        have q113 : x8_2 < ((rd_LFace l0_0 (ji30)).length : Int) := of_decide_eq_true (by first | (with_reducible assumption) | assumption)
        obtain ⟨ad113, e113, hx113_0, hx113_1⟩ := at_Face HR112_0.out x8_2 p113 q113
        have hw113_1 := hx113_1
        have hw113_0 := hx113_0
        cases e113
        replace hx113_0 := (HB.out.cell (yny w _ hx113_0)).trans hx113_0
        replace hx113_1 := (HB.out.cell (yny w _ hx113_1)).trans hx113_1
        replace p113 := eq_true p113
        replace q113 := eq_true q113
        refine start_ (n := 12) (S := fun w' => w'.cell? ⟨gb101, 0, none⟩ = some (.slice (some ad112) l0_0.length c0_0) ∧ w'.cell? (ad112.add ((ji30)).toNat) = some (.slice (some ad113) (rd_LFace l0_0 (ji30)).length c112_0) ∧ w'.cell? (ad113.add ((x8_2).toNat * 2)) = some (.int .i64 ((rd_Face (rd_LFace l0_0 (ji30)) x8_2).f0)) ∧ w'.cell? ⟨(ad113.add ((x8_2).toNat * 2)).block, (ad113.add ((x8_2).toNat * 2)).off + 1, none⟩ = some (.int .i64 ((rd_Face (rd_LFace l0_0 (ji30)) x8_2).f1))) (ds := []) #[false, false, false, false, false, false, false, false, false, false, false, false] (by kernel_rfl) rfl rfl ⟨(blk_cell BK101.out 0).trans rfl, ((HB.out.cell (yny w _ hw112_0)).trans hw112_0), ((HB.out.cell (yny w _ hw113_0)).trans hw113_0), ((HB.out.cell (yny w _ hw113_1)).trans hw113_1)⟩ (fun hHeld => ?_); refine with_tabW spec_DoubleCover.tab14 spec_DoubleCover.bits14 (fun HT_ HW_ => ?_)
        generalize wr.drew = w48 at HO_7 HO_106000 BK101 BK102 BK105 HB HR112_0 hx112_0 hx113_0 hx113_1 hHeld ⊢
        refine pure_ (i := 0) (N := some 33) (v := ?_) (a' := ?_) #[true, false, false, false, false, false, false, false, false, false, false, false] rfl rfl (any_of HT_.out (by kernel_rfl)) (fun _ _ _ h => h) (Or.inl ⟨by rfl, ?_⟩) ?_ ?_
        rotate_left
        next =>
         intro w'
         go_simp
         with_reducible rfl
        rotate_left
        next =>
         simp only [Act.put, yay, yby, ycy, i64_w, i32_w]
         rfl
        refine pure_ (i := 2) (N := some 35) (v := ?_) (a' := ?_) #[true, false, true, false, false, false, false, false, false, false, false, false] rfl rfl (any_of HT_.out (by kernel_rfl)) (fun _ _ _ h => h) (Or.inl ⟨by rfl, ?_⟩) ?_ ?_
        rotate_left
        next =>
         intro w'
         go_simp
         with_reducible rfl
        rotate_left
        next =>
         simp only [Act.put, yay, yby, ycy, i64_w, i32_w]
         rfl
        refine pure_ (i := 3) (N := some 36) (v := ?_) (a' := ?_) #[true, false, true, true, false, false, false, false, false, false, false, false] rfl rfl (any_of HT_.out (by kernel_rfl)) (fun _ _ _ h => h) (Or.inl ⟨by rfl, ?_⟩) ?_ ?_
        rotate_left
        next =>
         intro w'
         go_simp
         with_reducible rfl
        rotate_left
        next =>
         simp only [Act.put, yay, yby, ycy, i64_w, i32_w]
         rfl
        refine pure_ (i := 4) (N := some 37) (v := ?_) (a' := ?_) #[true, false, true, true, true, false, false, false, false, false, false, false] rfl rfl (any_of HT_.out (by kernel_rfl)) (fun _ _ _ h => h) (Or.inl ⟨by rfl, ?_⟩) ?_ ?_
        rotate_left
        next =>
         intro w'
         go_simp
         with_reducible rfl
        rotate_left
        next =>
         simp only [Act.put, yay, yby, ycy, i64_w, i32_w]
         rfl
        refine pure_ (i := 7) (N := some 40) (v := ?_) (a' := ?_) #[true, false, true, true, true, false, false, true, false, false, false, false] rfl rfl (any_of HT_.out (by kernel_rfl)) (fun _ _ _ h => h) (Or.inl ⟨by rfl, ?_⟩) ?_ ?_
        rotate_left
        next =>
         intro w'
         go_simp
         with_reducible rfl
        rotate_left
        next =>
         simp only [Act.put, yay, yby, ycy, i64_w, i32_w]
         rfl
        refine take_ (i := 1) (N := some 34) (v := ?_) (a' := ?_) #[true, true, true, true, true, false, false, true, false, false, false, false] rfl rfl (take_ofW HT_.out HW_.out (by kernel_rfl)) (fun _ _ _ h => h) (Or.inl ⟨by rfl, ?_⟩) hHeld ?_ ?_
        rotate_left
        next =>
         rintro w' ⟨s0, s1, s2, s3⟩
         go_simp
         with_reducible rfl
        rotate_left
        next =>
         simp only [Act.put, yay, yby, ycy, i64_w, i32_w]
         rfl
        refine pure_ (i := 5) (N := some 38) (v := ?_) (a' := ?_) #[true, true, true, true, true, true, false, true, false, false, false, false] rfl rfl (any_of HT_.out (by kernel_rfl)) (fun _ _ _ h => h) (Or.inl ⟨by rfl, ?_⟩) ?_ ?_
        rotate_left
        next =>
         intro w'
         go_simp
         with_reducible rfl
        rotate_left
        next =>
         simp only [Act.put, yay, yby, ycy, i64_w, i32_w]
         rfl
        refine take_ (i := 6) (N := some 39) (v := ?_) (a' := ?_) #[true, true, true, true, true, true, true, true, false, false, false, false] rfl rfl (take_ofW HT_.out HW_.out (by kernel_rfl)) (fun _ _ _ h => h) (Or.inl ⟨by rfl, ?_⟩) hHeld ?_ ?_
        rotate_left
        next =>
         rintro w' ⟨s0, s1, s2, s3⟩
         go_simp
         with_reducible rfl
        rotate_left
        next =>
         simp only [Act.put, yay, yby, ycy, i64_w, i32_w]
         rfl
        refine pure_ (i := 8) (N := some 41) (v := ?_) (a' := ?_) #[true, true, true, true, true, true, true, true, true, false, false, false] rfl rfl (any_of HT_.out (by kernel_rfl)) (fun _ _ _ h => h) (Or.inl ⟨by rfl, ?_⟩) ?_ ?_
        rotate_left
        next =>
         intro w'
         go_simp
         with_reducible rfl
        rotate_left
        next =>
         simp only [Act.put, yay, yby, ycy, i64_w, i32_w]
         rfl
        refine take_ (i := 9) (N := some 42) (v := ?_) (a' := ?_) #[true, true, true, true, true, true, true, true, true, true, false, false] rfl rfl (take_ofW HT_.out HW_.out (by kernel_rfl)) (fun _ _ _ h => h) (Or.inl ⟨by rfl, ?_⟩) hHeld ?_ ?_
        rotate_left
        next =>
         rintro w' ⟨s0, s1, s2, s3⟩
         go_simp
         with_reducible rfl
        rotate_left
        next =>
         simp only [Act.put, yay, yby, ycy, i64_w, i32_w]
         rfl
        refine one_ (i := 10) (N := some 9) #[true, true, true, true, true, true, true, true, true, true, true, false] rfl rfl (one_of HT_.out (by kernel_rfl)) (by decide) (fun K hK => ?_)
        refine box_step ?hg (N := 9) ?hd (cs := #[.int .i64 0, .int .i64 0]) (t := 75) ?hr ?_; (case hd => rfl); (case hg => rfl); (case hr => first | (go_simp; done) | (go_simp; rfl))
        intro gb114 hg w49 hbox hb
        have n0_ := Aside0.mk (Kd.R_below (Kd.R_elderB (by (with_reducible repeat (first | apply Kd.R_alloc | apply Kd.R_drewN | apply Kd.R_drew)); exact HO_7.out) gb114 (Nat.le_of_eq hg.symm)) hb)
        have n1_ := Aside0.mk (Kd.S_below (Kd.S_elderB (by (with_reducible repeat (first | apply Kd.S_alloc | apply Kd.S_drewN | apply Kd.S_drew)); exact HO_106000.out) gb114 (Nat.le_of_eq hg.symm)) hb)
        have n2_ := Aside0.mk (blk_below (g := gb101) (o := .cells #[.slice (some ad112) l0_0.length c0_0] 35 (0, 0)) (by (with_reducible repeat (first | refine blk_drewN ?_ _ | refine blk_drew ?_ | refine blk_alloc ?_ _)); exact BK101.out) hb)
        have n3_ := Aside0.mk (blk_below (g := gb102) (o := .cells #[.slice none 0 0] 35 (0, 0)) (by (with_reducible repeat (first | refine blk_drewN ?_ _ | refine blk_drew ?_ | refine blk_alloc ?_ _)); exact BK102.out) hb)
        have n4_ := Aside0.mk (blk_below (g := gb105) (o := .cells #[u106000] 35 (0, 0)) (by (with_reducible repeat (first | refine blk_drewN ?_ _ | refine blk_drew ?_ | refine blk_alloc ?_ _)); exact BK105.out) hb)
        have n5_ := Aside0.mk (below_step (by repeat (first | (with_reducible first | exact HB.out | apply below_alloc | apply pw_below_drewN | apply below_drew1 | refine below_set ?_ GE101.out | refine below_set ?_ GE102.out | refine below_set ?_ GE105.out) | exact HB.out)) hb)
        have n6_ := Aside0.mk (hbox)
        have n7_ := Aside0.mk ((by rw [hg]; exact (below_size (by repeat (first | (with_reducible first | exact HB.out | apply below_alloc | apply pw_below_drewN | apply below_drew1 | refine below_set ?_ GE101.out | refine below_set ?_ GE102.out | refine below_set ?_ GE105.out) | exact HB.out))) : w.heap.size ≤ gb114))
        have n8_ := Aside0.mk ((by rw [hg]; exact (below_size (by repeat (first | (with_reducible first | exact HB.out | apply below_alloc | apply pw_below_drewN | apply below_drew1 | refine below_set ?_ GE101.out | refine below_set ?_ GE102.out | refine below_set ?_ GE105.out) | exact HB.out))) : w.heap.size ≤ gb114))
        have n9_ := Aside0.mk ((by rw [hg]; exact Nat.ne_of_lt (blk_lt (g := gb101) (o := .cells #[.slice (some ad112) l0_0.length c0_0] 35 (0, 0)) (by (with_reducible repeat (first | refine blk_drewN ?_ _ | refine blk_drew ?_ | refine blk_alloc ?_ _)); exact BK101.out)) : gb101 ≠ gb114))
        have n10_ := Aside0.mk ((by rw [hg]; exact Nat.ne_of_gt (blk_lt (g := gb101) (o := .cells #[.slice (some ad112) l0_0.length c0_0] 35 (0, 0)) (by (with_reducible repeat (first | refine blk_drewN ?_ _ | refine blk_drew ?_ | refine blk_alloc ?_ _)); exact BK101.out)) : gb114 ≠ gb101))
        have n11_ := Aside0.mk ((by rw [hg]; exact Nat.ne_of_lt (blk_lt (g := gb102) (o := .cells #[.slice none 0 0] 35 (0, 0)) (by (with_reducible repeat (first | refine blk_drewN ?_ _ | refine blk_drew ?_ | refine blk_alloc ?_ _)); exact BK102.out)) : gb102 ≠ gb114))
        have n12_ := Aside0.mk ((by rw [hg]; exact Nat.ne_of_gt (blk_lt (g := gb102) (o := .cells #[.slice none 0 0] 35 (0, 0)) (by (with_reducible repeat (first | refine blk_drewN ?_ _ | refine blk_drew ?_ | refine blk_alloc ?_ _)); exact BK102.out)) : gb114 ≠ gb102))
        have n13_ := Aside0.mk ((by rw [hg]; exact Nat.ne_of_lt (blk_lt (g := gb105) (o := .cells #[u106000] 35 (0, 0)) (by (with_reducible repeat (first | refine blk_drewN ?_ _ | refine blk_drew ?_ | refine blk_alloc ?_ _)); exact BK105.out)) : gb105 ≠ gb114))
        have n14_ := Aside0.mk ((by rw [hg]; exact Nat.ne_of_gt (blk_lt (g := gb105) (o := .cells #[u106000] 35 (0, 0)) (by (with_reducible repeat (first | refine blk_drewN ?_ _ | refine blk_drew ?_ | refine blk_alloc ?_ _)); exact BK105.out)) : gb114 ≠ gb105))
        clear HO_7
        clear HO_106000
        clear BK101
        clear BK102
        clear BK105
        clear HB
        have HO_7 := n0_
        have HO_106000 := n1_
        have BK101 := n2_
        have BK102 := n3_
        have BK105 := n4_
        have HB := n5_
        have BK114 := n6_
        have GW114 := n7_
        have GE114 := n8_
        have NB101_114 := n9_
        have NB114_101 := n10_
        have NB102_114 := n11_
        have NB114_102 := n12_
        have NB105_114 := n13_
        have NB114_105 := n14_
        clear n0_ n1_ n2_ n3_ n4_ n5_ n6_ n7_ n8_ n9_ n10_ n11_ n12_ n13_ n14_
        clear hb hbox hg
        refine hK.out _ _ ⟨(blk_cell BK101.out 0).trans rfl, ((HB.out.cell (yny w _ hw112_0)).trans hw112_0), ((HB.out.cell (yny w _ hw113_0)).trans hw113_0), ((HB.out.cell (yny w _ hw113_1)).trans hw113_1)⟩ (fun hHeld => ?_)
        clear hK K
        refine norm_ (a' := ?_) ?_ ?_
        rotate_left
        next =>
         show Act.put _ (some 9) _ = _
         simp only [Act.put, yay, yby, ycy, i64_w, i32_w]
         rfl
        refine one_ (i := 11) (N := none) #[true, true, true, true, true, true, true, true, true, true, true, true] rfl rfl (one_of HT_.out (by kernel_rfl)) (by decide) (fun K hK => ?_)
        have hs50 : w49.cell? ⟨gb114, 0, none⟩ = some (.int .i64 0) := (blk_cell BK114.out 0).trans rfl
        have hfs50 := blk_frozen BK114.out 0
        have hns50_0 := NB101_114.out
        have hns50_1 := NB102_114.out
        have hns50_2 := NB105_114.out
        have hms50_0 := NB114_101.out
        have hms50_1 := NB114_102.out
        have hms50_2 := NB114_105.out
        have hs51 : w49.cell? ⟨gb114, 1, none⟩ = some (.int .i64 0) := (blk_cell BK114.out 1).trans rfl
        have hfs51 := blk_frozen BK114.out 1
        have hns51_0 := NB101_114.out
        have hns51_1 := NB102_114.out
        have hns51_2 := NB105_114.out
        have hms51_0 := NB114_101.out
        have hms51_1 := NB114_102.out
        have hms51_2 := NB114_105.out
        refine skip_ (w1 := ?_) (by rfl) rfl ?_ ?_
        rotate_left
        next =>
         go_simp
         rfl
        refine hK.out _ _ ⟨((cell_far (p := ⟨gb114, _, none⟩) NB101_114.out _).trans (((cell_far (p := ⟨gb114, _, none⟩) NB101_114.out _).trans (hHeld.1)))), ((cell_far (p := ⟨gb114, _, none⟩) (by first | exact Nat.ne_of_lt (Nat.lt_of_lt_of_le (by have := yny _ _ hw112_0; first | rwa [add_block] at this | exact this) GW114.out) | (rw [add_block]; exact Nat.ne_of_lt (Nat.lt_of_lt_of_le (by have := yny _ _ hw112_0; first | rwa [add_block] at this | exact this) GW114.out)) | (show (Addr.add _ _).block ≠ _; rw [add_block]; exact Nat.ne_of_lt (Nat.lt_of_lt_of_le (by have := yny _ _ hw112_0; first | rwa [add_block] at this | exact this) GW114.out)) | (dsimp only; exact Nat.ne_of_lt (Nat.lt_of_lt_of_le (by have := yny _ _ hw112_0; first | rwa [add_block] at this | exact this) GW114.out))) _).trans (((cell_far (p := ⟨gb114, _, none⟩) (by first | exact Nat.ne_of_lt (Nat.lt_of_lt_of_le (by have := yny _ _ hw112_0; first | rwa [add_block] at this | exact this) GW114.out) | (rw [add_block]; exact Nat.ne_of_lt (Nat.lt_of_lt_of_le (by have := yny _ _ hw112_0; first | rwa [add_block] at this | exact this) GW114.out)) | (show (Addr.add _ _).block ≠ _; rw [add_block]; exact Nat.ne_of_lt (Nat.lt_of_lt_of_le (by have := yny _ _ hw112_0; first | rwa [add_block] at this | exact this) GW114.out)) | (dsimp only; exact Nat.ne_of_lt (Nat.lt_of_lt_of_le (by have := yny _ _ hw112_0; first | rwa [add_block] at this | exact this) GW114.out))) _).trans (hHeld.2.1)))), ((cell_far (p := ⟨gb114, _, none⟩) (by first | exact Nat.ne_of_lt (Nat.lt_of_lt_of_le (by have := yny _ _ hw113_0; first | rwa [add_block] at this | exact this) GW114.out) | (rw [add_block]; exact Nat.ne_of_lt (Nat.lt_of_lt_of_le (by have := yny _ _ hw113_0; first | rwa [add_block] at this | exact this) GW114.out)) | (show (Addr.add _ _).block ≠ _; rw [add_block]; exact Nat.ne_of_lt (Nat.lt_of_lt_of_le (by have := yny _ _ hw113_0; first | rwa [add_block] at this | exact this) GW114.out)) | (dsimp only; exact Nat.ne_of_lt (Nat.lt_of_lt_of_le (by have := yny _ _ hw113_0; first | rwa [add_block] at this | exact this) GW114.out))) _).trans (((cell_far (p := ⟨gb114, _, none⟩) (by first | exact Nat.ne_of_lt (Nat.lt_of_lt_of_le (by have := yny _ _ hw113_0; first | rwa [add_block] at this | exact this) GW114.out) | (rw [add_block]; exact Nat.ne_of_lt (Nat.lt_of_lt_of_le (by have := yny _ _ hw113_0; first | rwa [add_block] at this | exact this) GW114.out)) | (show (Addr.add _ _).block ≠ _; rw [add_block]; exact Nat.ne_of_lt (Nat.lt_of_lt_of_le (by have := yny _ _ hw113_0; first | rwa [add_block] at this | exact this) GW114.out)) | (dsimp only; exact Nat.ne_of_lt (Nat.lt_of_lt_of_le (by have := yny _ _ hw113_0; first | rwa [add_block] at this | exact this) GW114.out))) _).trans (hHeld.2.2.1)))), ((cell_far (p := ⟨gb114, _, none⟩) (by first | exact Nat.ne_of_lt (Nat.lt_of_lt_of_le (by have := yny _ _ hw113_1; first | rwa [add_block] at this | exact this) GW114.out) | (rw [add_block]; exact Nat.ne_of_lt (Nat.lt_of_lt_of_le (by have := yny _ _ hw113_1; first | rwa [add_block] at this | exact this) GW114.out)) | (show (Addr.add _ _).block ≠ _; rw [add_block]; exact Nat.ne_of_lt (Nat.lt_of_lt_of_le (by have := yny _ _ hw113_1; first | rwa [add_block] at this | exact this) GW114.out)) | (dsimp only; exact Nat.ne_of_lt (Nat.lt_of_lt_of_le (by have := yny _ _ hw113_1; first | rwa [add_block] at this | exact this) GW114.out))) _).trans (((cell_far (p := ⟨gb114, _, none⟩) (by first | exact Nat.ne_of_lt (Nat.lt_of_lt_of_le (by have := yny _ _ hw113_1; first | rwa [add_block] at this | exact this) GW114.out) | (rw [add_block]; exact Nat.ne_of_lt (Nat.lt_of_lt_of_le (by have := yny _ _ hw113_1; first | rwa [add_block] at this | exact this) GW114.out)) | (show (Addr.add _ _).block ≠ _; rw [add_block]; exact Nat.ne_of_lt (Nat.lt_of_lt_of_le (by have := yny _ _ hw113_1; first | rwa [add_block] at this | exact this) GW114.out)) | (dsimp only; exact Nat.ne_of_lt (Nat.lt_of_lt_of_le (by have := yny _ _ hw113_1; first | rwa [add_block] at this | exact this) GW114.out))) _).trans (hHeld.2.2.2))))⟩ (fun hHeld => ?_)
        clear hK K
        refine done_ (done_of HT_.out (by kernel_rfl)) ?_
        have hnb52 := NB114_101.out
        have hnc52 := NB101_114.out
        have hnb53 := NB114_102.out
        have hnc53 := NB102_114.out
        have hnb54 := NB114_105.out
        have hnc54 := NB105_114.out
        have hcz55_0 : w49.cell? ⟨gb114, 0, none⟩ = some (.int .i64 0) := (blk_cell BK114.out 0).trans rfl
        have hcz55_1 : w49.cell? ⟨gb114, 1, none⟩ = some (.int .i64 0) := (blk_cell BK114.out 1).trans rfl
        have hfz55_0 := blk_frozen BK114.out 0
        have hfz55_1 := blk_frozen BK114.out 1
        try go_wp2_with (first | ((with_reducible refine gate_callee (f := 67) rfl ?_); refine goesL_ (some 51) rfl rfl Try.func67 (by kernel_rfl) rfl #[.int .i64 ((rd_Face (rd_LFace l0_0 (ji30)) x8_2).f1)] rfl (by (try simp only [yiy, yjy, yky]); first | done | (simp only [hji30]; rfl) | rfl | (simp only [yly, ymy]; rfl)) ?_; (with_reducible refine (spec_SignPerm4.calls k2 ((rd_Face (rd_LFace l0_0 (ji30)) x8_2).f1) t115 _ A44.out).mono ?_); rintro e w56 ⟨rfl, hb⟩; refine ⟨_, rfl, ?_⟩; have n0_ := Aside0.mk (Kd.R_below (by (with_reducible repeat (first | apply Kd.R_alloc | apply Kd.R_drewN | apply Kd.R_drew)); exact (Kd.R_mono (Kd.R_far (p := ⟨gb114, 1, none⟩) (Kd.R_far (p := ⟨gb114, 0, none⟩) (Kd.R_mono HO_7.out (fun k_ hk => (⟨hk, hk.2⟩ : _ ∧ k_ ≠ gb114))) (fun _ hk => hk.2) (.int .i64 ((rd_Face (rd_LFace l0_0 (ji30)) x8_2).f0))) (fun _ hk => hk.2) (.int .i64 ((rd_Face (rd_LFace l0_0 (ji30)) x8_2).f1))) (fun _ h_ => h_.1))) hb); have n1_ := Aside0.mk (Kd.S_below (by (with_reducible repeat (first | apply Kd.S_alloc | apply Kd.S_drewN | apply Kd.S_drew)); exact (Kd.S_mono (Kd.S_far (p := ⟨gb114, 1, none⟩) (Kd.S_far (p := ⟨gb114, 0, none⟩) (Kd.S_mono HO_106000.out (fun k_ hk => (⟨hk, hk.2⟩ : _ ∧ k_ ≠ gb114))) (fun _ hk => hk.2) (.int .i64 ((rd_Face (rd_LFace l0_0 (ji30)) x8_2).f0))) (fun _ hk => hk.2) (.int .i64 ((rd_Face (rd_LFace l0_0 (ji30)) x8_2).f1))) (fun _ h_ => h_.1))) hb); have n2_ := Aside0.mk (blk_below (g := gb101) (o := .cells #[.slice (some ad112) l0_0.length c0_0] 35 (0, 0)) (by (with_reducible repeat (first | refine blk_drewN ?_ _ | refine blk_drew ?_ | refine blk_alloc ?_ _)); refine blk_far ?_ NB101_114.out _; (with_reducible repeat (first | refine blk_drewN ?_ _ | refine blk_drew ?_ | refine blk_alloc ?_ _)); refine blk_far ?_ NB101_114.out _; (with_reducible repeat (first | refine blk_drewN ?_ _ | refine blk_drew ?_ | refine blk_alloc ?_ _)); exact BK101.out) hb); have n3_ := Aside0.mk (blk_below (g := gb102) (o := .cells #[.slice none 0 0] 35 (0, 0)) (by (with_reducible repeat (first | refine blk_drewN ?_ _ | refine blk_drew ?_ | refine blk_alloc ?_ _)); refine blk_far ?_ NB102_114.out _; (with_reducible repeat (first | refine blk_drewN ?_ _ | refine blk_drew ?_ | refine blk_alloc ?_ _)); refine blk_far ?_ NB102_114.out _; (with_reducible repeat (first | refine blk_drewN ?_ _ | refine blk_drew ?_ | refine blk_alloc ?_ _)); exact BK102.out) hb); have n4_ := Aside0.mk (blk_below (g := gb105) (o := .cells #[u106000] 35 (0, 0)) (by (with_reducible repeat (first | refine blk_drewN ?_ _ | refine blk_drew ?_ | refine blk_alloc ?_ _)); refine blk_far ?_ NB105_114.out _; (with_reducible repeat (first | refine blk_drewN ?_ _ | refine blk_drew ?_ | refine blk_alloc ?_ _)); refine blk_far ?_ NB105_114.out _; (with_reducible repeat (first | refine blk_drewN ?_ _ | refine blk_drew ?_ | refine blk_alloc ?_ _)); exact BK105.out) hb); have n5_ := Aside0.mk (blk_below (g := gb114) (o := .cells #[.int .i64 ((rd_Face (rd_LFace l0_0 (ji30)) x8_2).f0), .int .i64 ((rd_Face (rd_LFace l0_0 (ji30)) x8_2).f1)] 75 (0, 0)) (by (with_reducible repeat (first | refine blk_drewN ?_ _ | refine blk_drew ?_ | refine blk_alloc ?_ _)); refine blk_put (cs := #[.int .i64 ((rd_Face (rd_LFace l0_0 (ji30)) x8_2).f0), .int .i64 0]) ?_ 1 _ rfl; (with_reducible repeat (first | refine blk_drewN ?_ _ | refine blk_drew ?_ | refine blk_alloc ?_ _)); refine blk_put (cs := #[.int .i64 0, .int .i64 0]) ?_ 0 _ rfl; (with_reducible repeat (first | refine blk_drewN ?_ _ | refine blk_drew ?_ | refine blk_alloc ?_ _)); exact BK114.out) hb); have n6_ := Aside0.mk (below_step (by repeat (first | (with_reducible first | exact HB.out | apply below_alloc | apply pw_below_drewN | apply below_drew1 | refine below_set ?_ GE101.out | refine below_set ?_ GE102.out | refine below_set ?_ GE105.out | refine below_set ?_ GE114.out) | exact HB.out)) hb); clear HO_7; clear HO_106000; clear BK101; clear BK102; clear BK105; clear BK114; clear HB; have HO_7 := n0_; have HO_106000 := n1_; have BK101 := n2_; have BK102 := n3_; have BK105 := n4_; have BK114 := n5_; have HB := n6_; clear n0_ n1_ n2_ n3_ n4_ n5_ n6_; (try clear hb); (try clear hb2); (try clear hk); (try clear hi); have hcz57_0 : w56.cell? ⟨gb114, 0, none⟩ = some (.int .i64 ((rd_Face (rd_LFace l0_0 (ji30)) x8_2).f0)) := (blk_cell BK114.out 0).trans rfl; have hcz57_1 : w56.cell? ⟨gb114, 1, none⟩ = some (.int .i64 ((rd_Face (rd_LFace l0_0 (ji30)) x8_2).f1)) := (blk_cell BK114.out 1).trans rfl; have hfz57_0 := blk_frozen BK114.out 0; have hfz57_1 := blk_frozen BK114.out 1; have p47 : 0 ≤ (x8_2 : Int) := of_decide_eq_true (by first | (with_reducible assumption) | assumption); have q47 : (x8_2 : Int) < ((x7_2.length : Int) : Int) := of_decide_eq_true (by first | (with_reducible assumption) | assumption); obtain ⟨go47, co47, eo47, gb47, gl47, cl47, HG47⟩ := Kd.R_form HO_7.out (by omega); (first | cases eo47 | (injection eo47 with ea_ en_ ec_; (first | subst ea_ | (injection ea_ with ea_; subst ea_)); subst ec_; clear en_)); have GB47 := Aside0.mk gb47; have GG47 := Aside0.mk HG47; clear gb47 gl47 HG47; obtain ⟨ce47, hcl47, hM47, hcc47, hfr47⟩ := Kd.R_elem HO_7.out zFace (x8_2 : Int) p47 q47; obtain rfl := kFace_openM hM47; have hx47_0 : w56.cell? ⟨go47, (x8_2 : Int).toNat * 2, none⟩ = some (.int .i64 ((rd_Face x7_2 x8_2).f0)) := hcc47 0 _ rfl; have hx47_1 : w56.cell? ⟨go47, (x8_2 : Int).toNat * 2 + 1, none⟩ = some (.int .i64 ((rd_Face x7_2 x8_2).f1)) := hcc47 1 _ rfl; have hf47_0 : w56.frozen? ⟨go47, (x8_2 : Int).toNat * 2, none⟩ = false := hfr47 0; have hf47_1 : w56.frozen? ⟨go47, (x8_2 : Int).toNat * 2 + 1, none⟩ = false := hfr47 1; clear hcl47 hcc47 hfr47; (try clear hM47); replace p47 := eq_true p47; replace q47 := eq_true q47; have n_ := Aside0.mk (Kd.R_mono (ok' := (fun k_ => k_ ≠ gb114)) HO_7.out (fun k_ hk => hk.2)); clear HO_7; have HO_7 := n_; clear n_; have HX58 := Aside0.mk (show Kd.R kFace 75 w56 w.heap.size (fun k_ => k_ ≠ gb114) (.slice (some ⟨go47, 0, none⟩) x7_2.length co47) x7_2 from (by (with_reducible repeat (first | apply Kd.R_alloc | apply Kd.R_drewN | apply Kd.R_drew)); exact HO_7.out)); obtain ⟨ce58, hcl58, hM58, hcc58, hfr58⟩ := Kd.R_elem HX58.out zFace (x8_2 : Int) (of_decide_eq_true (by first | (with_reducible assumption) | assumption)) (by have h_ : (x8_2 : Int) < ((x7_2.length : Int) : Int) := of_decide_eq_true (by first | (with_reducible assumption) | assumption); first | exact h_ | (have e_ := (Kd.R_reads' HO_7.out).1; omega) | simpa using h_); obtain rfl := kFace_openM hM58; have HP58 := Kd.R_seg HX58.out (x8_2 : Int) (of_decide_eq_true (by first | (with_reducible assumption) | assumption)) (by have h_ : (x8_2 : Int) < ((x7_2.length : Int) : Int) := of_decide_eq_true (by first | (with_reducible assumption) | assumption); first | exact h_ | (have e_ := (Kd.R_reads' HO_7.out).1; omega) | simpa using h_) (seg := [.int .i64 (wrap64 (((rd_Face (rd_LFace l0_0 (ji30)) x8_2).f0) + (wrap64 (t104 * (wrap64 (1 - (wrap64 (Int.tdiv x6_1 t104)))))))), .int .i64 ((rd_Face (rd_LFace l0_0 (ji30)) x8_2).f1)]) (j := 0) hcl58 hcc58 (show 2 ≤ 2 from by decide) (x' := (⟨wrap64 (((rd_Face (rd_LFace l0_0 (ji30)) x8_2).f0) + (wrap64 (t104 * (wrap64 (1 - (wrap64 (Int.tdiv x6_1 t104))))))), (rd_Face (rd_LFace l0_0 (ji30)) x8_2).f1⟩ : SFace)) (kFace_mkM _ _ _ (⟨wrap64 (((rd_Face (rd_LFace l0_0 (ji30)) x8_2).f0) + (wrap64 (t104 * (wrap64 (1 - (wrap64 (Int.tdiv x6_1 t104))))))), (rd_Face (rd_LFace l0_0 (ji30)) x8_2).f1⟩ : SFace) ) (fun _ hk => hk); have hx58_0 := hcc58 0 _ rfl; (try simp only [show (kFace).sz = 2 from rfl, Nat.mul_one, Nat.add_zero] at hx58_0); have hf58_0 := hfr58 0; (try simp only [show (kFace).sz = 2 from rfl, Nat.mul_one, Nat.add_zero] at hf58_0); have hx58_1 := hcc58 1 _ rfl; (try simp only [show (kFace).sz = 2 from rfl, Nat.mul_one, Nat.add_zero] at hx58_1); have hf58_1 := hfr58 1; (try simp only [show (kFace).sz = 2 from rfl, Nat.mul_one, Nat.add_zero] at hf58_1); clear hcl58 hcc58 hfr58 hM58) | ((with_reducible refine gate_store (t := 75) (p := 66) rfl ?_); refine store_event (t := 75) (p := 66) (v := ?vo_w59) (w1 := ((w56.setCell ⟨go47, (x8_2 : Int).toNat * 2, none⟩ (.int .i64 (wrap64 (((rd_Face (rd_LFace l0_0 (ji30)) x8_2).f0) + (wrap64 (t104 * (wrap64 (1 - (wrap64 (Int.tdiv x6_1 t104)))))))))).setCell ⟨go47, (x8_2 : Int).toNat * 2 + 1, none⟩ (.int .i64 ((rd_Face (rd_LFace l0_0 (ji30)) x8_2).f1)))) ?hg ?ho ?hn ?hr ?_; (case ho => rfl); (case hg => rfl); (case hn => rfl); (case hr => first | (go_simp; done) | (go_simp; rfl)); intro w59 hw; have hg : w56.grownBy w59 (some go47) := (by rw [hw]; exact HP58.2); have hp_ : Kd.R kFace 75 w59 w.heap.size (fun k_ => k_ ≠ gb114) (.slice (some ⟨go47, 0, none⟩) x7_2.length co47) y116 := (by rw [hw, Ny116.out]; exact HP58.1); clear HP58; have n0_ := Aside0.mk (hp_); have n1_ := Aside0.mk (Kd.S_after (v := (.slice (some ⟨go47, 0, none⟩) x7_2.length co47)) (v1 := (.slice (some ⟨go47, 0, none⟩) x7_2.length co47)) (ok := (fun k_ => k_ ≠ gb114)) (by (with_reducible repeat (first | apply Kd.S_alloc | apply Kd.S_drewN | apply Kd.S_drew)); exact Kd.S_mono HO_106000.out (fun _ hk => ⟨hk.2, hk.1⟩)) hg (.inl rfl)); have n2_ := Aside0.mk (blk_grown (g := gb101) (o := .cells #[.slice (some ad112) l0_0.length c0_0] 35 (0, 0)) (by (with_reducible repeat (first | refine blk_drewN ?_ _ | refine blk_drew ?_ | refine blk_alloc ?_ _)); exact BK101.out) hg (Kd.R_ne HO_7.out BK101.out (by decide))); have n3_ := Aside0.mk (blk_grown (g := gb102) (o := .cells #[.slice none 0 0] 35 (0, 0)) (by (with_reducible repeat (first | refine blk_drewN ?_ _ | refine blk_drew ?_ | refine blk_alloc ?_ _)); exact BK102.out) hg (Kd.R_ne HO_7.out BK102.out (by decide))); have n4_ := Aside0.mk (blk_grown (g := gb105) (o := .cells #[u106000] 35 (0, 0)) (by (with_reducible repeat (first | refine blk_drewN ?_ _ | refine blk_drew ?_ | refine blk_alloc ?_ _)); exact BK105.out) hg (Kd.R_ne HO_7.out BK105.out (by decide))); have n5_ := Aside0.mk (blk_grown (g := gb114) (o := .cells #[.int .i64 ((rd_Face (rd_LFace l0_0 (ji30)) x8_2).f0), .int .i64 ((rd_Face (rd_LFace l0_0 (ji30)) x8_2).f1)] 75 (0, 0)) (by (with_reducible repeat (first | refine blk_drewN ?_ _ | refine blk_drew ?_ | refine blk_alloc ?_ _)); exact BK114.out) hg (Kd.R_away HO_7.out (fun _ hk => hk))); have n6_ := Aside0.mk ((by rw [hw]; exact below_set (below_set (HB.out) GB47.out) GB47.out : Below w.heap.size w w59)); clear HO_7; clear HO_106000; clear BK101; clear BK102; clear BK105; clear BK114; clear HB; have HO_7 := n0_; have HO_106000 := n1_; have BK101 := n2_; have BK102 := n3_; have BK105 := n4_; have BK114 := n5_; have HB := n6_; clear n0_ n1_ n2_ n3_ n4_ n5_ n6_; clear hg hw hp_))
        go_roundg k2
        case measure => have := HK1.out; have := HK2.out; omega
        case rel => exact ⟨(y116), (wrap64 (x8_2 + 1)), (by first | rfl | (simp; done) | (simp [*]; done)), H', ⟨by have := HK1.out; have := HK2.out; omega⟩, ⟨by (with_reducible repeat (first | apply Kd.R_alloc | apply Kd.R_drewN | apply Kd.R_drew)); exact Kd.R_mono HO_7.out (fun _ hk => trivial)⟩, ⟨by (with_reducible repeat (first | apply Kd.S_alloc | apply Kd.S_drewN | apply Kd.S_drew)); exact Kd.S_mono HO_106000.out (fun _ hk => hk.2)⟩, ⟨by (with_reducible repeat (first | refine blk_drewN ?_ _ | refine blk_drew ?_ | refine blk_alloc ?_ _)); exact BK101.out⟩, ⟨by (with_reducible repeat (first | refine blk_drewN ?_ _ | refine blk_drew ?_ | refine blk_alloc ?_ _)); exact BK102.out⟩, ⟨by (with_reducible repeat (first | refine blk_drewN ?_ _ | refine blk_drew ?_ | refine blk_alloc ?_ _)); exact BK105.out⟩, ⟨by repeat (first | (with_reducible first | exact HB.out | apply below_alloc | apply pw_below_drewN | apply below_drew1 | refine below_set ?_ GE101.out | refine below_set ?_ GE102.out | refine below_set ?_ GE105.out | refine below_set ?_ GE114.out) | exact HB.out)⟩⟩
end Go.Proofs.Ytembbpalgfikiaa.P
namespace Go.Proofs.Ytembbpalgfikiaa.Lib
open Go.RowKit Go.Proofs.YtembbpalgfikiaaW.PrintWords
set_option linter.unusedVariables false
section
variable {α : Type} {d : Kd α} {e b lo hi lo2 hi2 T : Nat} {w w' W : World} {v : Value} {xs ys : List α}
/-- A row of rows of the walk's own (all of it made from b on), its blocks from lo on and before hi. -/
def ObS (d : Kd α) (e b : Nat) (w : World) (lo hi : Nat) (v : Value) (xs : List α) : Prop := hi ≤ w.heap.size ∧ Kd.S d e w b (fun k => lo ≤ k ∧ k < hi) v xs
theorem size_set (w : World) (g i : Nat) (u : Value) : w.heap.size ≤ (w.setCell ⟨g, i, none⟩ u).heap.size := ((Below.refl 0 w).setCell (Nat.zero_le _) u).size
theorem ObS.made (ho : Kd.S d e w' W.heap.size (fun _ => True) v xs) (hb : Below W.heap.size W w') (hT : T ≤ W.heap.size) (hB : b ≤ W.heap.size) : ∃ lo hi, (T ≤ lo ∧ lo ≤ hi) ∧ hi ≤ w'.heap.size ∧ ObS d e b w' lo hi v xs :=
  ⟨W.heap.size, w'.heap.size, ⟨hT, hb.size⟩, yoy _, yoy _, Kd.S_lower (Kd.S_mono (Kd.S_bound ho) (fun k hk => ⟨hk.2.1, hk.2.2.1⟩)) hB⟩
theorem ObS.below (h : ObS d e b w lo hi v xs) (hb : Below w.heap.size w w') : ObS d e b w' lo hi v xs := ⟨Nat.le_trans h.1 hb.size, Kd.S_below h.2 hb⟩
theorem ObS.drew (h : ObS d e b w lo hi v xs) : ObS d e b w.drew lo hi v xs := ⟨h.1, Kd.S_drew h.2⟩
theorem ObS.far {g i : Nat} (h : ObS d e b w lo hi v xs) (hg : g < lo ∨ hi ≤ g) (u : Value) : ObS d e b (w.setCell ⟨g, i, none⟩ u) lo hi v xs :=
  ⟨Nat.le_trans h.1 (size_set _ _ _ _), Kd.S_far h.2 (fun k hk => by show k ≠ g; have := hk.1; have := hk.2; omega) u⟩
theorem ObS.kept (h : ObS d e b w lo hi v xs) (hk : Kept w w' (fun k => lo2 ≤ k ∧ k < hi2)) (hd : hi ≤ lo2 ∨ hi2 ≤ lo) : ObS d e b w' lo hi v xs :=
  ⟨Nat.le_trans h.1 hk.1, Kd.S_kept h.2 hk (fun k h1 h2 => by have := h1.1; have := h1.2; have := h2.1; have := h2.2; omega)⟩
theorem ObS.slice (h : ObS d e b w lo hi v xs) : ∃ A c, v = .slice A xs.length c := Kd.S_slice h.2
theorem ObS.reads {A : Option Addr} {n c : Nat} (h : ObS d e b w lo hi (.slice A n c) xs) : n = xs.length ∧ n ≤ c ∧ d.C w A xs.length xs := Kd.S_reads' h.2
theorem ObS.room {A : Option Addr} {n c : Nat} (h : ObS d e b w lo hi (.slice A n c) xs) : xs.length ≤ c := by have := h.reads; omega
theorem ObS.marked (h : ObS d e b w lo hi v xs) (hy : Kd.S d e w' b (fun k => lo ≤ k ∧ k < hi) v ys) (hs : w.heap.size ≤ w'.heap.size) : ObS d e b w' lo hi v ys := ⟨Nat.le_trans h.1 hs, hy⟩
theorem ObS.row (h : ObS d e b w lo hi v xs) : Kd.S d e w b (fun k => lo ≤ k ∧ k < hi) v xs := h.2
theorem top_below (h : T ≤ w.heap.size) (hb : Below w.heap.size w w') : T ≤ w'.heap.size := Nat.le_trans h hb.size
theorem top_drew (h : T ≤ w.heap.size) : T ≤ w.drew.heap.size := h
theorem top_far {g i : Nat} {u : Value} (h : T ≤ w.heap.size) : T ≤ (w.setCell ⟨g, i, none⟩ u).heap.size := Nat.le_trans h (size_set _ _ _ _)
end
end Go.Proofs.Ytembbpalgfikiaa.Lib
namespace Go.Proofs.Ytembbpalgfikiaa.P
open Go.RowKit Go.Proofs.YtembbpalgfikiaaW.PrintWords Go.Proofs.YtembbpalgfikiaaW.PrintLast Go.Proofs.YtembbpalgfikiaaW.PrintMore
attribute [local go_sem] max2_int min2_int max_two min_two max_three min_three max_four min_four   -- for this text's walks alone
set_option linter.unusedVariables false
set_option linter.unusedSimpArgs false
open Go.Proofs.Ytembbpalgfikiaa.Lib
/-! ### laws_FnExactDoubleCover: function 11 -/
def laws_FnExactDoubleCover.f (k : Nat) (l0 : List (List (SLawFace))) : Option Bool := (laws_szTriangulation.f k l0 1048576).bind fun t2 => if t2 < 0 then some true else (laws_toTriangulation.f k l0).bind fun t5 => (spec_DoubleCover.f k t5).bind fun bt3 => (laws_toTriangulation.f k l0).bind fun t12 => (impl_DoubleCover.f k t12).bind fun bt5 => (laws_eqTriangulation.f k bt5.1 bt3.1).bind fun t19 => if t19 = true then if bt5.2 = bt3.2 then (laws_toTriangulation.f k l0).bind fun t22 => (laws_eqTriangulation.f k t12 t22).bind fun t25 => if t25 = true then (laws_markTriangulation.f k t12 1).bind fun bt12 => if bt12.1 < 0 then some false else (laws_eqTriangulation.f k bt5.1 bt3.1).bind fun t31 => if t31 = true then if bt5.2 = bt3.2 then (laws_markTriangulation.f k bt5.1 1).bind fun bt17 => (laws_heldTriangulation.f k bt17.2 1).bind fun t37 => if t37 < 0 then some false else if t37 = bt17.1 then (laws_toTriangulation.f k l0).bind fun t41 => (impl_DoubleCover.f k t41).bind fun bt22 => (laws_eqTriangulation.f k bt22.1 bt3.1).bind fun t48 => if t48 = true then if bt22.2 = bt3.2 then (laws_heldTriangulation.f k bt17.2 1).bind fun t51 => if t51 < 0 then some false else if t51 = bt17.1 then some true else some false else some false else some false else some false else some false else some false else some false else some false else some false
set_option maxHeartbeats 8000000 in
set_option maxRecDepth 100000 in
theorem laws_FnExactDoubleCover.calls (k : Nat) (A0 : Option Addr) (c0 : Nat) (l0 : List (List (SLawFace))) (w : World) (hr0 : Kd.C (Kd.slice 118 kLawFace) w A0 l0.length l0) (hc0 : l0.length ≤ c0) (h : laws_FnExactDoubleCover.f k l0 = some true) :
 Calls Try.prog 11 #[.agg #[.slice A0 l0.length c0]] w fun e w' => e = .returned (.bool true) ∧ Below w.heap.size w w' := by
 have hu28 := Try.underlying28
 have hu35 := Try.underlying35
 have HR0 := Aside0.mk hr0
 have HC0 := Aside0.mk hc0
 clear hr0 hc0
 have HB := Aside0.mk (Below.refl w.heap.size w)
 have HT := Aside0.mk (yoy w.heap.size)
 have H := h
 clear h
 unfold laws_FnExactDoubleCover.f at H
 obtain ⟨t2, H10, H⟩ := ydy.mp H
 have H1 := Aside0.mk H10
 clear H10
 by_cases cC3 : t2 < 0
 next =>
  have dC3 : decide (t2 < 0) = true := ygy cC3
  clear cC3 H
  go_enter Try.func11, Try.ntmps11
  try go_wp2_with (first | ((with_reducible refine gate_dst (N := 1) rfl ?_); refine box_event ?hg (N := 1) ?hd (cs := #[.slice A0 l0.length c0]) (t := 28) ?hr ?_; (case hd => rfl); (case hg => rfl); (case hr => first | (go_simp; done) | (go_simp; rfl)); intro g1 hg w1 hbox hb; have HNg1 := Aside0.mk (by rw [hg]; exact HT.out : w.heap.size ≤ g1); have HXg1 := Aside0.mk (show g1 + 1 ≤ w1.heap.size from blk_lt hbox); have nHB := Aside0.mk (below_step HB.out hb); have nHT := Aside0.mk (top_below HT.out hb); clear HB HT  ; have HB := nHB; have HT := nHT; clear nHB nHT  ; clear HT; have HT := HXg1; clear HXg1; have BKg1 := Aside0.mk hbox; clear hg hbox hb; have hczg1 : w1.cell? ⟨g1, 0, none⟩ = some (.slice A0 l0.length c0) := (blk_cell BKg1.out 0).trans rfl; have hfzg1 := blk_frozen BKg1.out 0) | ((with_reducible refine gate_callee (f := 16) rfl ?_); refine goesL_ (some 16) rfl rfl Try.func16 (by kernel_rfl) rfl #[.agg #[.slice A0 l0.length c0], .int .i64 1048576] rfl (by (try simp only [yiy, yjy, yky]); first | done | rfl | (simp only [yly, ymy]; rfl)) ?_; (with_reducible refine (laws_szTriangulation.calls k _ _ l0 1048576 t2 _ ?side1 ?side2 H1.out).mono ?_); (case side1 => exact Kd.C_below HR0.out HB.out); (case side2 => exact HC0.out); rintro e w2 ⟨rfl, hb⟩; refine ⟨_, rfl, ?_⟩; (try clear hczg1 hfzg1); have nBg1 := Aside0.mk (blk_below (g := g1) (o := .cells #[.slice A0 l0.length c0] 28 (0, 0)) BKg1.out hb); have nHB := Aside0.mk (below_step HB.out hb); have nHT := Aside0.mk (top_below HT.out hb); clear HB HT  BKg1; have BKg1 := nBg1; have HB := nHB; have HT := nHT; clear nHB nHT  nBg1; (try clear hb); (try clear hnd); have hczg1 : w2.cell? ⟨g1, 0, none⟩ = some (.slice A0 l0.length c0) := (blk_cell BKg1.out 0).trans rfl; have hfzg1 := blk_frozen BKg1.out 0))
  go_ret
  exact ⟨by first | rfl | (simp <;> rfl), HB.out⟩
 rw [if_neg cC3] at H
 have dC3 : decide (t2 < 0) = false := yhy cC3
 clear cC3
 obtain ⟨t5, H40, H⟩ := ydy.mp H
 have H4 := Aside0.mk H40
 clear H40
 obtain ⟨⟨t8, t10⟩, H70, H⟩ := ydy.mp H
 have H7 := Aside0.mk H70
 clear H70
 obtain ⟨t12, H110, H⟩ := ydy.mp H
 have H11 := Aside0.mk H110
 clear H110
 obtain ⟨⟨t15, t17⟩, H140, H⟩ := ydy.mp H
 have H14 := Aside0.mk H140
 clear H140
 obtain ⟨t19, H180, H⟩ := ydy.mp H
 obtain rfl : t19 = true := by cases t19 with | true => rfl | false => exact absurd H (by simp)
 replace H := H
 have H18 := Aside0.mk H180
 clear H180
 rw [if_pos rfl] at H
 have cC20 : t17 = t10 := by by_cases c_ : t17 = t10; exact c_; rw [if_neg c_] at H; cases H
 rw [if_pos cC20] at H
 have dC20 : (t17 != t10) = false := by rw [cC20]; exact bne_self_eq_false _
 clear cC20
 obtain ⟨t22, H210, H⟩ := ydy.mp H
 have H21 := Aside0.mk H210
 clear H210
 obtain ⟨t25, H240, H⟩ := ydy.mp H
 obtain rfl : t25 = true := by cases t25 with | true => rfl | false => exact absurd H (by simp)
 replace H := H
 have H24 := Aside0.mk H240
 clear H240
 rw [if_pos rfl] at H
 obtain ⟨⟨m27, y28⟩, H260, H⟩ := ydy.mp H
 have H26 := Aside0.mk H260
 clear H260
 dsimp only at H
 have cC29 : ¬ (m27 < 0) := fun c_ => by rw [if_pos c_] at H; cases H
 rw [if_neg cC29] at H
 have dC29 : decide (m27 < 0) = false := yhy cC29
 clear cC29
 obtain ⟨t31, H300, H⟩ := ydy.mp H
 obtain rfl : t31 = true := by cases t31 with | true => rfl | false => exact absurd H (by simp)
 replace H := H
 have H30 := Aside0.mk H300
 clear H300
 rw [if_pos rfl] at H
 have cC32 : t17 = t10 := by by_cases c_ : t17 = t10; exact c_; rw [if_neg c_] at H; cases H
 rw [if_pos cC32] at H
 have dC32 : (t17 != t10) = false := by rw [cC32]; exact bne_self_eq_false _
 clear cC32
 obtain ⟨⟨m34, y35⟩, H330, H⟩ := ydy.mp H
 have H33 := Aside0.mk H330
 clear H330
 dsimp only at H
 obtain ⟨t37, H360, H⟩ := ydy.mp H
 have H36 := Aside0.mk H360
 clear H360
 have cC38 : ¬ (t37 < 0) := fun c_ => by rw [if_pos c_] at H; cases H
 rw [if_neg cC38] at H
 have dC38 : decide (t37 < 0) = false := yhy cC38
 clear cC38
 have cC39 : t37 = m34 := by by_cases c_ : t37 = m34; exact c_; rw [if_neg c_] at H; cases H
 rw [if_pos cC39] at H
 have dC39 : (t37 != m34) = false := by rw [cC39]; exact bne_self_eq_false _
 clear cC39
 obtain ⟨t41, H400, H⟩ := ydy.mp H
 have H40 := Aside0.mk H400
 clear H400
 obtain ⟨⟨t44, t46⟩, H430, H⟩ := ydy.mp H
 have H43 := Aside0.mk H430
 clear H430
 obtain ⟨t48, H470, H⟩ := ydy.mp H
 obtain rfl : t48 = true := by cases t48 with | true => rfl | false => exact absurd H (by simp)
 replace H := H
 have H47 := Aside0.mk H470
 clear H470
 rw [if_pos rfl] at H
 have cC49 : t46 = t10 := by by_cases c_ : t46 = t10; exact c_; rw [if_neg c_] at H; cases H
 rw [if_pos cC49] at H
 have dC49 : (t46 != t10) = false := by rw [cC49]; exact bne_self_eq_false _
 clear cC49
 obtain ⟨t51, H500, H⟩ := ydy.mp H
 have H50 := Aside0.mk H500
 clear H500
 have cC52 : ¬ (t51 < 0) := fun c_ => by rw [if_pos c_] at H; cases H
 rw [if_neg cC52] at H
 have dC52 : decide (t51 < 0) = false := yhy cC52
 clear cC52
 have cC53 : t51 = m34 := by by_cases c_ : t51 = m34; exact c_; rw [if_neg c_] at H; cases H
 rw [if_pos cC53] at H
 have dC53 : (t51 != m34) = false := by rw [cC53]; exact bne_self_eq_false _
 clear cC53
 clear H
 go_enter Try.func11, Try.ntmps11
 try go_wp2_with (first | ((with_reducible refine gate_dst (N := 1) rfl ?_); refine box_event ?hg (N := 1) ?hd (cs := #[.slice A0 l0.length c0]) (t := 28) ?hr ?_; (case hd => rfl); (case hg => rfl); (case hr => first | (go_simp; done) | (go_simp; rfl)); intro g1 hg w1 hbox hb; have HNg1 := Aside0.mk (by rw [hg]; exact HT.out : w.heap.size ≤ g1); have HXg1 := Aside0.mk (show g1 + 1 ≤ w1.heap.size from blk_lt hbox); have nHB := Aside0.mk (below_step HB.out hb); have nHT := Aside0.mk (top_below HT.out hb); clear HB HT  ; have HB := nHB; have HT := nHT; clear nHB nHT  ; clear HT; have HT := HXg1; clear HXg1; have BKg1 := Aside0.mk hbox; clear hg hbox hb; have hczg1 : w1.cell? ⟨g1, 0, none⟩ = some (.slice A0 l0.length c0) := (blk_cell BKg1.out 0).trans rfl; have hfzg1 := blk_frozen BKg1.out 0) | ((with_reducible refine gate_callee (f := 16) rfl ?_); refine goesL_ (some 16) rfl rfl Try.func16 (by kernel_rfl) rfl #[.agg #[.slice A0 l0.length c0], .int .i64 1048576] rfl (by (try simp only [yiy, yjy, yky]); first | done | rfl | (simp only [yly, ymy]; rfl)) ?_; (with_reducible refine (laws_szTriangulation.calls k _ _ l0 1048576 t2 _ ?side1 ?side2 H1.out).mono ?_); (case side1 => exact Kd.C_below HR0.out HB.out); (case side2 => exact HC0.out); rintro e w2 ⟨rfl, hb⟩; refine ⟨_, rfl, ?_⟩; (try clear hczg1 hfzg1); have nBg1 := Aside0.mk (blk_below (g := g1) (o := .cells #[.slice A0 l0.length c0] 28 (0, 0)) BKg1.out hb); have nHB := Aside0.mk (below_step HB.out hb); have nHT := Aside0.mk (top_below HT.out hb); clear HB HT  BKg1; have BKg1 := nBg1; have HB := nHB; have HT := nHT; clear nHB nHT  nBg1; (try clear hb); (try clear hnd); have hczg1 : w2.cell? ⟨g1, 0, none⟩ = some (.slice A0 l0.length c0) := (blk_cell BKg1.out 0).trans rfl; have hfzg1 := blk_frozen BKg1.out 0) | ((with_reducible refine gate_callee (f := 18) rfl ?_); refine goesL_ (some 21) rfl rfl Try.func18 (by kernel_rfl) rfl #[.agg #[.slice A0 l0.length c0]] rfl (by (try simp only [yiy, yjy, yky]); first | done | rfl | (simp only [yly, ymy]; rfl)) ?_; (with_reducible refine (laws_toTriangulation.calls k _ _ l0 t5 _ ?side1 ?side2 H4.out).mono ?_); (case side1 => exact Kd.C_below HR0.out HB.out); (case side2 => exact HC0.out); rintro e w3 ⟨vo6, rfl, ho0, hb⟩; refine ⟨_, rfl, ?_⟩; (try clear hczg1 hfzg1); obtain ⟨loo6, hio6, hno6⟩ := ObS.made ho0 hb HT.out (below_size HB.out); have nBg1 := Aside0.mk (blk_below (g := g1) (o := .cells #[.slice A0 l0.length c0] 28 (0, 0)) BKg1.out hb); have nHB := Aside0.mk (below_step HB.out hb); have nHT := Aside0.mk (top_below HT.out hb); clear HB HT  BKg1; have BKg1 := nBg1; have HB := nHB; have HT := nHT; clear nHB nHT  nBg1; have HNo6 := Aside0.mk hno6.1; clear HT; have HT := Aside0.mk hno6.2.1; have HOo6 := Aside0.mk hno6.2.2; clear hno6 ho0; obtain ⟨Ao6, co6, eeo6⟩ := HOo6.out.slice; subst eeo6; (try clear hb); (try clear hnd); have hczg1 : w3.cell? ⟨g1, 0, none⟩ = some (.slice A0 l0.length c0) := (blk_cell BKg1.out 0).trans rfl; have hfzg1 := blk_frozen BKg1.out 0) | ((with_reducible refine gate_callee (f := 41) rfl ?_); refine goesL_ (some 22) rfl rfl Try.func41 (by kernel_rfl) rfl #[.agg #[.slice Ao6 t5.length co6]] rfl (by (try simp only [yiy, yjy, yky]); first | done | rfl | (simp only [yly, ymy]; rfl)) ?_; (with_reducible refine (spec_DoubleCover.calls k _ _ t5 t8 t10 _ ?side1 ?side2 H7.out).mono ?_); (case side1 => exact (ObS.reads HOo6.out).2.2); (case side2 => exact ObS.room HOo6.out); rintro e w4 ⟨vo9, rfl, ho0, hb⟩; refine ⟨_, rfl, ?_⟩; (try clear hczg1 hfzg1); obtain ⟨loo9, hio9, hno9⟩ := ObS.made ho0 hb HT.out (below_size HB.out); have nOo6 := Aside0.mk (ObS.below HOo6.out hb); have nBg1 := Aside0.mk (blk_below (g := g1) (o := .cells #[.slice A0 l0.length c0] 28 (0, 0)) BKg1.out hb); have nHB := Aside0.mk (below_step HB.out hb); have nHT := Aside0.mk (top_below HT.out hb); clear HB HT HOo6 BKg1; have HOo6 := nOo6; have BKg1 := nBg1; have HB := nHB; have HT := nHT; clear nHB nHT nOo6 nBg1; have HNo9 := Aside0.mk hno9.1; clear HT; have HT := Aside0.mk hno9.2.1; have HOo9 := Aside0.mk hno9.2.2; clear hno9 ho0; obtain ⟨Ao9, co9, eeo9⟩ := HOo9.out.slice; subst eeo9; (try clear hb); (try clear hnd); have hczg1 : w4.cell? ⟨g1, 0, none⟩ = some (.slice A0 l0.length c0) := (blk_cell BKg1.out 0).trans rfl; have hfzg1 := blk_frozen BKg1.out 0) | ((with_reducible refine gate_dst (N := 4) rfl ?_); refine box_event ?hg (N := 4) ?hd (cs := #[.slice none 0 0]) (t := 35) ?hr ?_; (case hd => rfl); (case hg => rfl); (case hr => first | (go_simp; done) | (go_simp; rfl)); intro g4 hg w5 hbox hb; (try clear hczg1 hfzg1); have HNg4 := Aside0.mk (by rw [hg]; exact HT.out : hio9 ≤ g4); have HXg4 := Aside0.mk (show g4 + 1 ≤ w5.heap.size from blk_lt hbox); have nOo6 := Aside0.mk (ObS.below HOo6.out hb); have nOo9 := Aside0.mk (ObS.below HOo9.out hb); have nBg1 := Aside0.mk (blk_below (g := g1) (o := .cells #[.slice A0 l0.length c0] 28 (0, 0)) BKg1.out hb); have nHB := Aside0.mk (below_step HB.out hb); have nHT := Aside0.mk (top_below HT.out hb); clear HB HT HOo6 HOo9 BKg1; have HOo6 := nOo6; have HOo9 := nOo9; have BKg1 := nBg1; have HB := nHB; have HT := nHT; clear nHB nHT nOo6 nOo9 nBg1; clear HT; have HT := HXg4; clear HXg4; have BKg4 := Aside0.mk hbox; clear hg hbox hb; have hnbg4_g1 : g4 ≠ g1 := (by have := HNg1.out; have := HNo6.out; have := HNo9.out; have := HNg4.out; omega); have hnbg1_g4 : g1 ≠ g4 := (by have := HNg1.out; have := HNo6.out; have := HNo9.out; have := HNg4.out; omega); have hczg1 : w5.cell? ⟨g1, 0, none⟩ = some (.slice A0 l0.length c0) := (blk_cell BKg1.out 0).trans rfl; have hfzg1 := blk_frozen BKg1.out 0; have hczg4 : w5.cell? ⟨g4, 0, none⟩ = some (.slice none 0 0) := (blk_cell BKg4.out 0).trans rfl; have hfzg4 := blk_frozen BKg4.out 0) | ((with_reducible refine gate_callee (f := 18) rfl ?_); refine goesL_ (some 26) rfl rfl Try.func18 (by kernel_rfl) rfl #[.agg #[.slice A0 l0.length c0]] rfl (by (try simp only [yiy, yjy, yky]); first | done | rfl | (simp only [yly, ymy]; rfl)) ?_; (with_reducible refine (laws_toTriangulation.calls k _ _ l0 t12 _ ?side1 ?side2 H11.out).mono ?_); (case side1 => exact Kd.C_below HR0.out (below_set HB.out (show w.heap.size ≤ g4 from (by have := HNg1.out; have := HNo6.out; have := HNo9.out; have := HNg4.out; omega)))); (case side2 => exact HC0.out); rintro e w6 ⟨vo13, rfl, ho0, hb⟩; refine ⟨_, rfl, ?_⟩; (try clear hczg1 hfzg1 hczg4 hfzg4); obtain ⟨loo13, hio13, hno13⟩ := ObS.made ho0 hb (top_far HT.out) (below_size (below_set HB.out (show w.heap.size ≤ g4 from (by have := HNg1.out; have := HNo6.out; have := HNo9.out; have := HNg4.out; omega)))); have nOo6 := Aside0.mk (ObS.below (ObS.far (g := g4) (i := 0) HOo6.out (by have := HNg1.out; have := HNo6.out; have := HNo9.out; have := HNg4.out; omega) _) hb); have nOo9 := Aside0.mk (ObS.below (ObS.far (g := g4) (i := 0) HOo9.out (by have := HNg1.out; have := HNo6.out; have := HNo9.out; have := HNg4.out; omega) _) hb); have nBg1 := Aside0.mk (blk_below (g := g1) (o := .cells #[.slice A0 l0.length c0] 28 (0, 0)) (blk_far (p := ⟨g4, 0, none⟩) BKg1.out (show g1 ≠ g4 from (by have := HNg1.out; have := HNo6.out; have := HNo9.out; have := HNg4.out; omega)) _) hb); have nBg4 := Aside0.mk (blk_below (g := g4) (o := .cells #[.slice Ao9 t8.length co9] 35 (0, 0)) (blk_put (cs := #[.slice none 0 0]) BKg4.out 0 _ rfl) hb); have nHB := Aside0.mk (below_step (below_set HB.out (show w.heap.size ≤ g4 from (by have := HNg1.out; have := HNo6.out; have := HNo9.out; have := HNg4.out; omega))) hb); have nHT := Aside0.mk (top_below (top_far HT.out) hb); clear HB HT HOo6 HOo9 BKg1 BKg4; have HOo6 := nOo6; have HOo9 := nOo9; have BKg1 := nBg1; have BKg4 := nBg4; have HB := nHB; have HT := nHT; clear nHB nHT nOo6 nOo9 nBg1 nBg4; have HNo13 := Aside0.mk hno13.1; clear HT; have HT := Aside0.mk hno13.2.1; have HOo13 := Aside0.mk hno13.2.2; clear hno13 ho0; obtain ⟨Ao13, co13, eeo13⟩ := HOo13.out.slice; subst eeo13; (try clear hb); (try clear hnd); have hczg1 : w6.cell? ⟨g1, 0, none⟩ = some (.slice A0 l0.length c0) := (blk_cell BKg1.out 0).trans rfl; have hfzg1 := blk_frozen BKg1.out 0; have hczg4 : w6.cell? ⟨g4, 0, none⟩ = some (.slice Ao9 t8.length co9) := (blk_cell BKg4.out 0).trans rfl; have hfzg4 := blk_frozen BKg4.out 0) | ((with_reducible refine gate_dst (N := 6) rfl ?_); refine box_event ?hg (N := 6) ?hd (cs := #[.slice none 0 0]) (t := 35) ?hr ?_; (case hd => rfl); (case hg => rfl); (case hr => first | (go_simp; done) | (go_simp; rfl)); intro g6 hg w7 hbox hb; (try clear hczg1 hfzg1 hczg4 hfzg4); have HNg6 := Aside0.mk (by rw [hg]; exact HT.out : hio13 ≤ g6); have HXg6 := Aside0.mk (show g6 + 1 ≤ w7.heap.size from blk_lt hbox); have nOo6 := Aside0.mk (ObS.below HOo6.out hb); have nOo9 := Aside0.mk (ObS.below HOo9.out hb); have nOo13 := Aside0.mk (ObS.below HOo13.out hb); have nBg1 := Aside0.mk (blk_below (g := g1) (o := .cells #[.slice A0 l0.length c0] 28 (0, 0)) BKg1.out hb); have nBg4 := Aside0.mk (blk_below (g := g4) (o := .cells #[.slice Ao9 t8.length co9] 35 (0, 0)) BKg4.out hb); have nHB := Aside0.mk (below_step HB.out hb); have nHT := Aside0.mk (top_below HT.out hb); clear HB HT HOo6 HOo9 HOo13 BKg1 BKg4; have HOo6 := nOo6; have HOo9 := nOo9; have HOo13 := nOo13; have BKg1 := nBg1; have BKg4 := nBg4; have HB := nHB; have HT := nHT; clear nHB nHT nOo6 nOo9 nOo13 nBg1 nBg4; clear HT; have HT := HXg6; clear HXg6; have BKg6 := Aside0.mk hbox; clear hg hbox hb; have hnbg6_g1 : g6 ≠ g1 := (by have := HNg1.out; have := HNo6.out; have := HNo9.out; have := HNg4.out; have := HNo13.out; have := HNg6.out; omega); have hnbg1_g6 : g1 ≠ g6 := (by have := HNg1.out; have := HNo6.out; have := HNo9.out; have := HNg4.out; have := HNo13.out; have := HNg6.out; omega); have hnbg6_g4 : g6 ≠ g4 := (by have := HNg1.out; have := HNo6.out; have := HNo9.out; have := HNg4.out; have := HNo13.out; have := HNg6.out; omega); have hnbg4_g6 : g4 ≠ g6 := (by have := HNg1.out; have := HNo6.out; have := HNo9.out; have := HNg4.out; have := HNo13.out; have := HNg6.out; omega); have hczg1 : w7.cell? ⟨g1, 0, none⟩ = some (.slice A0 l0.length c0) := (blk_cell BKg1.out 0).trans rfl; have hfzg1 := blk_frozen BKg1.out 0; have hczg4 : w7.cell? ⟨g4, 0, none⟩ = some (.slice Ao9 t8.length co9) := (blk_cell BKg4.out 0).trans rfl; have hfzg4 := blk_frozen BKg4.out 0; have hczg6 : w7.cell? ⟨g6, 0, none⟩ = some (.slice none 0 0) := (blk_cell BKg6.out 0).trans rfl; have hfzg6 := blk_frozen BKg6.out 0) | ((with_reducible refine gate_callee (f := 42) rfl ?_); refine goesL_ (some 29) rfl rfl Try.func42 (by kernel_rfl) rfl #[.agg #[.slice Ao13 t12.length co13]] rfl (by (try simp only [yiy, yjy, yky]); first | done | rfl | (simp only [yly, ymy]; rfl)) ?_; (with_reducible refine (impl_DoubleCover.calls k _ _ t12 t15 t17 _ ?side1 ?side2 H14.out).mono ?_); (case side1 => exact (ObS.reads (ObS.far (g := g6) (i := 0) HOo13.out (by have := HNg1.out; have := HNo6.out; have := HNo9.out; have := HNg4.out; have := HNo13.out; have := HNg6.out; omega) _)).2.2); (case side2 => exact ObS.room HOo13.out); rintro e w8 ⟨vo16, rfl, ho0, hb⟩; refine ⟨_, rfl, ?_⟩; (try clear hczg1 hfzg1 hczg4 hfzg4 hczg6 hfzg6); obtain ⟨loo16, hio16, hno16⟩ := ObS.made ho0 hb (top_far HT.out) (below_size (below_set HB.out (show w.heap.size ≤ g6 from (by have := HNg1.out; have := HNo6.out; have := HNo9.out; have := HNg4.out; have := HNo13.out; have := HNg6.out; omega)))); have nOo6 := Aside0.mk (ObS.below (ObS.far (g := g6) (i := 0) HOo6.out (by have := HNg1.out; have := HNo6.out; have := HNo9.out; have := HNg4.out; have := HNo13.out; have := HNg6.out; omega) _) hb); have nOo9 := Aside0.mk (ObS.below (ObS.far (g := g6) (i := 0) HOo9.out (by have := HNg1.out; have := HNo6.out; have := HNo9.out; have := HNg4.out; have := HNo13.out; have := HNg6.out; omega) _) hb); have nOo13 := Aside0.mk (ObS.below (ObS.far (g := g6) (i := 0) HOo13.out (by have := HNg1.out; have := HNo6.out; have := HNo9.out; have := HNg4.out; have := HNo13.out; have := HNg6.out; omega) _) hb); have nBg1 := Aside0.mk (blk_below (g := g1) (o := .cells #[.slice A0 l0.length c0] 28 (0, 0)) (blk_far (p := ⟨g6, 0, none⟩) BKg1.out (show g1 ≠ g6 from (by have := HNg1.out; have := HNo6.out; have := HNo9.out; have := HNg4.out; have := HNo13.out; have := HNg6.out; omega)) _) hb); have nBg4 := Aside0.mk (blk_below (g := g4) (o := .cells #[.slice Ao9 t8.length co9] 35 (0, 0)) (blk_far (p := ⟨g6, 0, none⟩) BKg4.out (show g4 ≠ g6 from (by have := HNg1.out; have := HNo6.out; have := HNo9.out; have := HNg4.out; have := HNo13.out; have := HNg6.out; omega)) _) hb); have nBg6 := Aside0.mk (blk_below (g := g6) (o := .cells #[.slice Ao13 t12.length co13] 35 (0, 0)) (blk_put (cs := #[.slice none 0 0]) BKg6.out 0 _ rfl) hb); have nHB := Aside0.mk (below_step (below_set HB.out (show w.heap.size ≤ g6 from (by have := HNg1.out; have := HNo6.out; have := HNo9.out; have := HNg4.out; have := HNo13.out; have := HNg6.out; omega))) hb); have nHT := Aside0.mk (top_below (top_far HT.out) hb); clear HB HT HOo6 HOo9 HOo13 BKg1 BKg4 BKg6; have HOo6 := nOo6; have HOo9 := nOo9; have HOo13 := nOo13; have BKg1 := nBg1; have BKg4 := nBg4; have BKg6 := nBg6; have HB := nHB; have HT := nHT; clear nHB nHT nOo6 nOo9 nOo13 nBg1 nBg4 nBg6; have HNo16 := Aside0.mk hno16.1; clear HT; have HT := Aside0.mk hno16.2.1; have HOo16 := Aside0.mk hno16.2.2; clear hno16 ho0; obtain ⟨Ao16, co16, eeo16⟩ := HOo16.out.slice; subst eeo16; (try clear hb); (try clear hnd); have hczg1 : w8.cell? ⟨g1, 0, none⟩ = some (.slice A0 l0.length c0) := (blk_cell BKg1.out 0).trans rfl; have hfzg1 := blk_frozen BKg1.out 0; have hczg4 : w8.cell? ⟨g4, 0, none⟩ = some (.slice Ao9 t8.length co9) := (blk_cell BKg4.out 0).trans rfl; have hfzg4 := blk_frozen BKg4.out 0; have hczg6 : w8.cell? ⟨g6, 0, none⟩ = some (.slice Ao13 t12.length co13) := (blk_cell BKg6.out 0).trans rfl; have hfzg6 := blk_frozen BKg6.out 0) | ((with_reducible refine gate_dst (N := 7) rfl ?_); refine box_event ?hg (N := 7) ?hd (cs := #[.slice none 0 0]) (t := 35) ?hr ?_; (case hd => rfl); (case hg => rfl); (case hr => first | (go_simp; done) | (go_simp; rfl)); intro g7 hg w9 hbox hb; (try clear hczg1 hfzg1 hczg4 hfzg4 hczg6 hfzg6); have HNg7 := Aside0.mk (by rw [hg]; exact HT.out : hio16 ≤ g7); have HXg7 := Aside0.mk (show g7 + 1 ≤ w9.heap.size from blk_lt hbox); have nOo6 := Aside0.mk (ObS.below HOo6.out hb); have nOo9 := Aside0.mk (ObS.below HOo9.out hb); have nOo13 := Aside0.mk (ObS.below HOo13.out hb); have nOo16 := Aside0.mk (ObS.below HOo16.out hb); have nBg1 := Aside0.mk (blk_below (g := g1) (o := .cells #[.slice A0 l0.length c0] 28 (0, 0)) BKg1.out hb); have nBg4 := Aside0.mk (blk_below (g := g4) (o := .cells #[.slice Ao9 t8.length co9] 35 (0, 0)) BKg4.out hb); have nBg6 := Aside0.mk (blk_below (g := g6) (o := .cells #[.slice Ao13 t12.length co13] 35 (0, 0)) BKg6.out hb); have nHB := Aside0.mk (below_step HB.out hb); have nHT := Aside0.mk (top_below HT.out hb); clear HB HT HOo6 HOo9 HOo13 HOo16 BKg1 BKg4 BKg6; have HOo6 := nOo6; have HOo9 := nOo9; have HOo13 := nOo13; have HOo16 := nOo16; have BKg1 := nBg1; have BKg4 := nBg4; have BKg6 := nBg6; have HB := nHB; have HT := nHT; clear nHB nHT nOo6 nOo9 nOo13 nOo16 nBg1 nBg4 nBg6; clear HT; have HT := HXg7; clear HXg7; have BKg7 := Aside0.mk hbox; clear hg hbox hb; have hnbg7_g1 : g7 ≠ g1 := (by have := HNg1.out; have := HNo6.out; have := HNo9.out; have := HNg4.out; have := HNo13.out; have := HNg6.out; have := HNo16.out; have := HNg7.out; omega); have hnbg1_g7 : g1 ≠ g7 := (by have := HNg1.out; have := HNo6.out; have := HNo9.out; have := HNg4.out; have := HNo13.out; have := HNg6.out; have := HNo16.out; have := HNg7.out; omega); have hnbg7_g4 : g7 ≠ g4 := (by have := HNg1.out; have := HNo6.out; have := HNo9.out; have := HNg4.out; have := HNo13.out; have := HNg6.out; have := HNo16.out; have := HNg7.out; omega); have hnbg4_g7 : g4 ≠ g7 := (by have := HNg1.out; have := HNo6.out; have := HNo9.out; have := HNg4.out; have := HNo13.out; have := HNg6.out; have := HNo16.out; have := HNg7.out; omega); have hnbg7_g6 : g7 ≠ g6 := (by have := HNg1.out; have := HNo6.out; have := HNo9.out; have := HNg4.out; have := HNo13.out; have := HNg6.out; have := HNo16.out; have := HNg7.out; omega); have hnbg6_g7 : g6 ≠ g7 := (by have := HNg1.out; have := HNo6.out; have := HNo9.out; have := HNg4.out; have := HNo13.out; have := HNg6.out; have := HNo16.out; have := HNg7.out; omega); have hczg1 : w9.cell? ⟨g1, 0, none⟩ = some (.slice A0 l0.length c0) := (blk_cell BKg1.out 0).trans rfl; have hfzg1 := blk_frozen BKg1.out 0; have hczg4 : w9.cell? ⟨g4, 0, none⟩ = some (.slice Ao9 t8.length co9) := (blk_cell BKg4.out 0).trans rfl; have hfzg4 := blk_frozen BKg4.out 0; have hczg6 : w9.cell? ⟨g6, 0, none⟩ = some (.slice Ao13 t12.length co13) := (blk_cell BKg6.out 0).trans rfl; have hfzg6 := blk_frozen BKg6.out 0; have hczg7 : w9.cell? ⟨g7, 0, none⟩ = some (.slice none 0 0) := (blk_cell BKg7.out 0).trans rfl; have hfzg7 := blk_frozen BKg7.out 0) | ((with_reducible refine gate_callee (f := 21) rfl ?_); refine goesL_ (some 34) rfl rfl Try.func21 (by kernel_rfl) rfl #[.agg #[.slice Ao16 t15.length co16], .agg #[.slice Ao9 t8.length co9]] rfl (by (try simp only [yiy, yjy, yky]); first | done | rfl | (simp only [yly, ymy]; rfl)) ?_; (with_reducible refine (laws_eqTriangulation.calls k _ _ t15 _ _ t8 true _ ?side1 ?side2 ?side3 ?side4 H18.out).mono ?_); (case side1 => exact (ObS.reads (ObS.far (g := g7) (i := 0) HOo16.out (by have := HNg1.out; have := HNo6.out; have := HNo9.out; have := HNg4.out; have := HNo13.out; have := HNg6.out; have := HNo16.out; have := HNg7.out; omega) _)).2.2); (case side2 => exact ObS.room HOo16.out); (case side3 => exact (ObS.reads (ObS.far (g := g7) (i := 0) HOo9.out (by have := HNg1.out; have := HNo6.out; have := HNo9.out; have := HNg4.out; have := HNo13.out; have := HNg6.out; have := HNo16.out; have := HNg7.out; omega) _)).2.2); (case side4 => exact ObS.room HOo9.out); rintro e w10 ⟨rfl, hb⟩; refine ⟨_, rfl, ?_⟩; (try clear hczg1 hfzg1 hczg4 hfzg4 hczg6 hfzg6 hczg7 hfzg7); have nOo6 := Aside0.mk (ObS.below (ObS.far (g := g7) (i := 0) HOo6.out (by have := HNg1.out; have := HNo6.out; have := HNo9.out; have := HNg4.out; have := HNo13.out; have := HNg6.out; have := HNo16.out; have := HNg7.out; omega) _) hb); have nOo9 := Aside0.mk (ObS.below (ObS.far (g := g7) (i := 0) HOo9.out (by have := HNg1.out; have := HNo6.out; have := HNo9.out; have := HNg4.out; have := HNo13.out; have := HNg6.out; have := HNo16.out; have := HNg7.out; omega) _) hb); have nOo13 := Aside0.mk (ObS.below (ObS.far (g := g7) (i := 0) HOo13.out (by have := HNg1.out; have := HNo6.out; have := HNo9.out; have := HNg4.out; have := HNo13.out; have := HNg6.out; have := HNo16.out; have := HNg7.out; omega) _) hb); have nOo16 := Aside0.mk (ObS.below (ObS.far (g := g7) (i := 0) HOo16.out (by have := HNg1.out; have := HNo6.out; have := HNo9.out; have := HNg4.out; have := HNo13.out; have := HNg6.out; have := HNo16.out; have := HNg7.out; omega) _) hb); have nBg1 := Aside0.mk (blk_below (g := g1) (o := .cells #[.slice A0 l0.length c0] 28 (0, 0)) (blk_far (p := ⟨g7, 0, none⟩) BKg1.out (show g1 ≠ g7 from (by have := HNg1.out; have := HNo6.out; have := HNo9.out; have := HNg4.out; have := HNo13.out; have := HNg6.out; have := HNo16.out; have := HNg7.out; omega)) _) hb); have nBg4 := Aside0.mk (blk_below (g := g4) (o := .cells #[.slice Ao9 t8.length co9] 35 (0, 0)) (blk_far (p := ⟨g7, 0, none⟩) BKg4.out (show g4 ≠ g7 from (by have := HNg1.out; have := HNo6.out; have := HNo9.out; have := HNg4.out; have := HNo13.out; have := HNg6.out; have := HNo16.out; have := HNg7.out; omega)) _) hb); have nBg6 := Aside0.mk (blk_below (g := g6) (o := .cells #[.slice Ao13 t12.length co13] 35 (0, 0)) (blk_far (p := ⟨g7, 0, none⟩) BKg6.out (show g6 ≠ g7 from (by have := HNg1.out; have := HNo6.out; have := HNo9.out; have := HNg4.out; have := HNo13.out; have := HNg6.out; have := HNo16.out; have := HNg7.out; omega)) _) hb); have nBg7 := Aside0.mk (blk_below (g := g7) (o := .cells #[.slice Ao16 t15.length co16] 35 (0, 0)) (blk_put (cs := #[.slice none 0 0]) BKg7.out 0 _ rfl) hb); have nHB := Aside0.mk (below_step (below_set HB.out (show w.heap.size ≤ g7 from (by have := HNg1.out; have := HNo6.out; have := HNo9.out; have := HNg4.out; have := HNo13.out; have := HNg6.out; have := HNo16.out; have := HNg7.out; omega))) hb); have nHT := Aside0.mk (top_below (top_far HT.out) hb); clear HB HT HOo6 HOo9 HOo13 HOo16 BKg1 BKg4 BKg6 BKg7; have HOo6 := nOo6; have HOo9 := nOo9; have HOo13 := nOo13; have HOo16 := nOo16; have BKg1 := nBg1; have BKg4 := nBg4; have BKg6 := nBg6; have BKg7 := nBg7; have HB := nHB; have HT := nHT; clear nHB nHT nOo6 nOo9 nOo13 nOo16 nBg1 nBg4 nBg6 nBg7; (try clear hb); (try clear hnd); have hczg1 : w10.cell? ⟨g1, 0, none⟩ = some (.slice A0 l0.length c0) := (blk_cell BKg1.out 0).trans rfl; have hfzg1 := blk_frozen BKg1.out 0; have hczg4 : w10.cell? ⟨g4, 0, none⟩ = some (.slice Ao9 t8.length co9) := (blk_cell BKg4.out 0).trans rfl; have hfzg4 := blk_frozen BKg4.out 0; have hczg6 : w10.cell? ⟨g6, 0, none⟩ = some (.slice Ao13 t12.length co13) := (blk_cell BKg6.out 0).trans rfl; have hfzg6 := blk_frozen BKg6.out 0; have hczg7 : w10.cell? ⟨g7, 0, none⟩ = some (.slice Ao16 t15.length co16) := (blk_cell BKg7.out 0).trans rfl; have hfzg7 := blk_frozen BKg7.out 0))
 (try clear hczg1 hfzg1 hczg4 hfzg4 hczg6 hfzg6 hczg7 hfzg7)
 have nOo6 := Aside0.mk (ObS.drew HOo6.out)
 have nOo9 := Aside0.mk (ObS.drew HOo9.out)
 have nOo13 := Aside0.mk (ObS.drew HOo13.out)
 have nOo16 := Aside0.mk (ObS.drew HOo16.out)
 have nBg1 := Aside0.mk (blk_drew BKg1.out)
 have nBg4 := Aside0.mk (blk_drew BKg4.out)
 have nBg6 := Aside0.mk (blk_drew BKg6.out)
 have nBg7 := Aside0.mk (blk_drew BKg7.out)
 have nHB := Aside0.mk (below_drew1 HB.out)
 have nHT := Aside0.mk (top_drew HT.out)
 clear HB HT HOo6 HOo9 HOo13 HOo16 BKg1 BKg4 BKg6 BKg7
 have HOo6 := nOo6
 have HOo9 := nOo9
 have HOo13 := nOo13
 have HOo16 := nOo16
 have BKg1 := nBg1
 have BKg4 := nBg4
 have BKg6 := nBg6
 have BKg7 := nBg7
 have HB := nHB
 have HT := nHT
 clear nHB nHT nOo6 nOo9 nOo13 nOo16 nBg1 nBg4 nBg6 nBg7
 refine start_ (n := 5) (S := fun w' => w'.cell? ⟨g6, 0, none⟩ = some (.slice Ao13 t12.length co13) ∧ w'.cell? ⟨g1, 0, none⟩ = some (.slice A0 l0.length c0)) (ds := []) #[false, false, false, false, false] (by kernel_rfl) rfl rfl ⟨(blk_cell BKg6.out 0).trans rfl, (blk_cell BKg1.out 0).trans rfl⟩ (fun hHeld => ?_)
 generalize hdr_ : World.drew _ = w11 at HOo6 HOo9 HOo13 HOo16 BKg1 BKg4 BKg6 BKg7 HB HT hHeld ⊢
 (try clear hdr_)
 refine take_ (i := 0) (N := some 41) (v := ?_) (a' := ?_) #[true, false, false, false, false] rfl rfl (by kernel_rfl) (fun _ _ _ h => h) (Or.inl ⟨by rfl, ?_⟩) hHeld ?_ ?_
 rotate_left
 next =>
  rintro w' ⟨s0, s1⟩
  go_simp
  with_reducible rfl
 rotate_left
 next =>
  simp only [Act.put, yay, yby, ycy, i64_w, i32_w]
  rfl
 refine take_ (i := 1) (N := some 42) (v := ?_) (a' := ?_) #[true, true, false, false, false] rfl rfl (by kernel_rfl) (fun _ _ _ h => h) (Or.inl ⟨by rfl, ?_⟩) hHeld ?_ ?_
 rotate_left
 next =>
  rintro w' ⟨s0, s1⟩
  go_simp
  with_reducible rfl
 rotate_left
 next =>
  simp only [Act.put, yay, yby, ycy, i64_w, i32_w]
  rfl
 refine one_ (i := 2) (N := some 43) #[true, true, true, false, false] rfl rfl (by kernel_rfl) (by decide) (fun K hK => ?_)
 refine goes_ Try.func18 (by kernel_rfl) rfl #[.agg #[.slice A0 l0.length c0]] (by rfl) rfl rfl (by (try simp only [yiy, yjy, yky]); first | done | rfl | (simp only [yly, ymy]; rfl)) ?_
 with_reducible refine (laws_toTriangulation.calls k _ _ l0 t22 _ ?side1 ?side2 H21.out).mono ?_
 (case side1 => exact Kd.C_below HR0.out HB.out)
 (case side2 => exact HC0.out)
 rintro e w12 ⟨vo23, rfl, ho0, hb⟩
 refine ⟨_, rfl, ?_⟩
 (try clear hczg1 hfzg1 hczg4 hfzg4 hczg6 hfzg6 hczg7 hfzg7)
 obtain ⟨loo23, hio23, hno23⟩ := ObS.made ho0 hb HT.out (below_size HB.out)
 have nOo6 := Aside0.mk (ObS.below HOo6.out hb)
 have nOo9 := Aside0.mk (ObS.below HOo9.out hb)
 have nOo13 := Aside0.mk (ObS.below HOo13.out hb)
 have nOo16 := Aside0.mk (ObS.below HOo16.out hb)
 have nBg1 := Aside0.mk (blk_below (g := g1) (o := .cells #[.slice A0 l0.length c0] 28 (0, 0)) BKg1.out hb)
 have nBg4 := Aside0.mk (blk_below (g := g4) (o := .cells #[.slice Ao9 t8.length co9] 35 (0, 0)) BKg4.out hb)
 have nBg6 := Aside0.mk (blk_below (g := g6) (o := .cells #[.slice Ao13 t12.length co13] 35 (0, 0)) BKg6.out hb)
 have nBg7 := Aside0.mk (blk_below (g := g7) (o := .cells #[.slice Ao16 t15.length co16] 35 (0, 0)) BKg7.out hb)
 have nHB := Aside0.mk (below_step HB.out hb)
 have nHT := Aside0.mk (top_below HT.out hb)
 clear HB HT HOo6 HOo9 HOo13 HOo16 BKg1 BKg4 BKg6 BKg7
 have HOo6 := nOo6
 have HOo9 := nOo9
 have HOo13 := nOo13
 have HOo16 := nOo16
 have BKg1 := nBg1
 have BKg4 := nBg4
 have BKg6 := nBg6
 have BKg7 := nBg7
 have HB := nHB
 have HT := nHT
 clear nHB nHT nOo6 nOo9 nOo13 nOo16 nBg1 nBg4 nBg6 nBg7
 have HNo23 := Aside0.mk hno23.1
 clear HT
 have HT := Aside0.mk hno23.2.1
 have HOo23 := Aside0.mk hno23.2.2
 clear hno23 ho0
 obtain ⟨Ao23, co23, eeo23⟩ := HOo23.out.slice
 subst eeo23
 (try clear hb)
 (try clear hnd)
 refine hK.out _ _ ⟨(blk_cell BKg6.out 0).trans rfl, (blk_cell BKg1.out 0).trans rfl⟩ (fun hHeld => ?_)
 clear hK K
 refine norm_ (a' := ?_) ?_ ?_
 rotate_left
 next =>
  show Act.put _ (some 43) _ = _
  simp only [Act.put, yay, yby, ycy, i64_w, i32_w]
  rfl
 refine one_ (i := 3) (N := some 44) #[true, true, true, true, false] rfl rfl (by kernel_rfl) (by decide) (fun K hK => ?_)
 refine goes_ Try.func21 (by kernel_rfl) rfl #[.agg #[.slice Ao13 t12.length co13], .agg #[.slice Ao23 t22.length co23]] (by rfl) rfl rfl (by (try simp only [yiy, yjy, yky]); first | done | rfl | (simp only [yly, ymy]; rfl)) ?_
 with_reducible refine (laws_eqTriangulation.calls k _ _ t12 _ _ t22 true _ ?side1 ?side2 ?side3 ?side4 H24.out).mono ?_
 (case side1 => exact (ObS.reads HOo13.out).2.2)
 (case side2 => exact ObS.room HOo13.out)
 (case side3 => exact (ObS.reads HOo23.out).2.2)
 (case side4 => exact ObS.room HOo23.out)
 rintro e w13 ⟨rfl, hb⟩
 refine ⟨_, rfl, ?_⟩
 (try clear hczg1 hfzg1 hczg4 hfzg4 hczg6 hfzg6 hczg7 hfzg7)
 have nOo6 := Aside0.mk (ObS.below HOo6.out hb)
 have nOo9 := Aside0.mk (ObS.below HOo9.out hb)
 have nOo13 := Aside0.mk (ObS.below HOo13.out hb)
 have nOo16 := Aside0.mk (ObS.below HOo16.out hb)
 have nOo23 := Aside0.mk (ObS.below HOo23.out hb)
 have nBg1 := Aside0.mk (blk_below (g := g1) (o := .cells #[.slice A0 l0.length c0] 28 (0, 0)) BKg1.out hb)
 have nBg4 := Aside0.mk (blk_below (g := g4) (o := .cells #[.slice Ao9 t8.length co9] 35 (0, 0)) BKg4.out hb)
 have nBg6 := Aside0.mk (blk_below (g := g6) (o := .cells #[.slice Ao13 t12.length co13] 35 (0, 0)) BKg6.out hb)
 have nBg7 := Aside0.mk (blk_below (g := g7) (o := .cells #[.slice Ao16 t15.length co16] 35 (0, 0)) BKg7.out hb)
 have nHB := Aside0.mk (below_step HB.out hb)
 have nHT := Aside0.mk (top_below HT.out hb)
 clear HB HT HOo6 HOo9 HOo13 HOo16 HOo23 BKg1 BKg4 BKg6 BKg7
 have HOo6 := nOo6
 have HOo9 := nOo9
 have HOo13 := nOo13
 have HOo16 := nOo16
 have HOo23 := nOo23
 have BKg1 := nBg1
 have BKg4 := nBg4
 have BKg6 := nBg6
 have BKg7 := nBg7
 have HB := nHB
 have HT := nHT
 clear nHB nHT nOo6 nOo9 nOo13 nOo16 nOo23 nBg1 nBg4 nBg6 nBg7
 (try clear hb)
 (try clear hnd)
 refine hK.out _ _ ⟨(blk_cell BKg6.out 0).trans rfl, (blk_cell BKg1.out 0).trans rfl⟩ (fun hHeld => ?_)
 clear hK K
 refine norm_ (a' := ?_) ?_ ?_
 rotate_left
 next =>
  show Act.put _ (some 44) _ = _
  simp only [Act.put, yay, yby, ycy, i64_w, i32_w]
  rfl
 refine pure_ (i := 4) (N := some 45) (v := ?_) (a' := ?_) #[true, true, true, true, true] rfl rfl (by kernel_rfl) (fun _ _ _ h => h) (Or.inl ⟨by rfl, ?_⟩) ?_ ?_
 rotate_left
 next =>
  intro w'
  go_simp
  with_reducible rfl
 rotate_left
 next =>
  simp only [Act.put, yay, yby, ycy, i64_w, i32_w]
  rfl
 refine done_ (by kernel_rfl) ?_
 have hczg1 : w13.cell? ⟨g1, 0, none⟩ = some (.slice A0 l0.length c0) := (blk_cell BKg1.out 0).trans rfl
 have hfzg1 := blk_frozen BKg1.out 0
 have hczg4 : w13.cell? ⟨g4, 0, none⟩ = some (.slice Ao9 t8.length co9) := (blk_cell BKg4.out 0).trans rfl
 have hfzg4 := blk_frozen BKg4.out 0
 have hczg6 : w13.cell? ⟨g6, 0, none⟩ = some (.slice Ao13 t12.length co13) := (blk_cell BKg6.out 0).trans rfl
 have hfzg6 := blk_frozen BKg6.out 0
 have hczg7 : w13.cell? ⟨g7, 0, none⟩ = some (.slice Ao16 t15.length co16) := (blk_cell BKg7.out 0).trans rfl
 have hfzg7 := blk_frozen BKg7.out 0
 try go_wp2_with (first | ((with_reducible refine gate_callee (f := 22) rfl ?_); refine goesL_ (some 48) rfl rfl Try.func22 (by kernel_rfl) rfl #[.agg #[.slice Ao13 t12.length co13], .int .i64 1] rfl (by (try simp only [yiy, yjy, yky]); first | done | rfl | (simp only [yly, ymy]; rfl)) ?_; (with_reducible refine (laws_markTriangulation.calls k (fun k_ => loo13 ≤ k_ ∧ k_ < hio13) (.slice Ao13 t12.length co13) t12 1 m27 y28 w _ HB.out (ObS.row HOo13.out) H26.out).mono ?_); rintro e w14 ⟨rfl, hy, hb, hk0⟩; refine ⟨_, rfl, ?_⟩; have hk := hk0; have nM := Aside0.mk (ObS.marked HOo13.out hy hk.1); (try clear hczg1 hfzg1 hczg4 hfzg4 hczg6 hfzg6 hczg7 hfzg7); have nOo6 := Aside0.mk (ObS.kept HOo6.out hk (by have := HNg1.out; have := HNo6.out; have := HNo9.out; have := HNg4.out; have := HNo13.out; have := HNg6.out; have := HNo16.out; have := HNg7.out; have := HNo23.out; omega)); have nOo9 := Aside0.mk (ObS.kept HOo9.out hk (by have := HNg1.out; have := HNo6.out; have := HNo9.out; have := HNg4.out; have := HNo13.out; have := HNg6.out; have := HNo16.out; have := HNg7.out; have := HNo23.out; omega)); have nOo16 := Aside0.mk (ObS.kept HOo16.out hk (by have := HNg1.out; have := HNo6.out; have := HNo9.out; have := HNg4.out; have := HNo13.out; have := HNg6.out; have := HNo16.out; have := HNg7.out; have := HNo23.out; omega)); have nOo23 := Aside0.mk (ObS.kept HOo23.out hk (by have := HNg1.out; have := HNo6.out; have := HNo9.out; have := HNg4.out; have := HNo13.out; have := HNg6.out; have := HNo16.out; have := HNg7.out; have := HNo23.out; omega)); have nBg1 := Aside0.mk (blk_kept (g := g1) (o := .cells #[.slice A0 l0.length c0] 28 (0, 0)) BKg1.out hk (fun h_ => by have h1_ := h_.1; have h2_ := h_.2; have := HNg1.out; have := HNo6.out; have := HNo9.out; have := HNg4.out; have := HNo13.out; have := HNg6.out; have := HNo16.out; have := HNg7.out; have := HNo23.out; omega)); have nBg4 := Aside0.mk (blk_kept (g := g4) (o := .cells #[.slice Ao9 t8.length co9] 35 (0, 0)) BKg4.out hk (fun h_ => by have h1_ := h_.1; have h2_ := h_.2; have := HNg1.out; have := HNo6.out; have := HNo9.out; have := HNg4.out; have := HNo13.out; have := HNg6.out; have := HNo16.out; have := HNg7.out; have := HNo23.out; omega)); have nBg6 := Aside0.mk (blk_kept (g := g6) (o := .cells #[.slice Ao13 t12.length co13] 35 (0, 0)) BKg6.out hk (fun h_ => by have h1_ := h_.1; have h2_ := h_.2; have := HNg1.out; have := HNo6.out; have := HNo9.out; have := HNg4.out; have := HNo13.out; have := HNg6.out; have := HNo16.out; have := HNg7.out; have := HNo23.out; omega)); have nBg7 := Aside0.mk (blk_kept (g := g7) (o := .cells #[.slice Ao16 t15.length co16] 35 (0, 0)) BKg7.out hk (fun h_ => by have h1_ := h_.1; have h2_ := h_.2; have := HNg1.out; have := HNo6.out; have := HNo9.out; have := HNg4.out; have := HNo13.out; have := HNg6.out; have := HNo16.out; have := HNg7.out; have := HNo23.out; omega)); have nHT := Aside0.mk (Nat.le_trans HT.out hk.1); clear HB HT HOo6 HOo9 HOo13 HOo16 HOo23 BKg1 BKg4 BKg6 BKg7; have HOo6 := nOo6; have HOo9 := nOo9; have HOo13 := nM; have HOo16 := nOo16; have HOo23 := nOo23; have BKg1 := nBg1; have BKg4 := nBg4; have BKg6 := nBg6; have BKg7 := nBg7; have HB := Aside0.mk hb; have HT := nHT; (try clear hy); clear hb hk0 hk nM nHT nOo6 nOo9 nOo16 nOo23 nBg1 nBg4 nBg6 nBg7; have hczg1 : w14.cell? ⟨g1, 0, none⟩ = some (.slice A0 l0.length c0) := (blk_cell BKg1.out 0).trans rfl; have hfzg1 := blk_frozen BKg1.out 0; have hczg4 : w14.cell? ⟨g4, 0, none⟩ = some (.slice Ao9 t8.length co9) := (blk_cell BKg4.out 0).trans rfl; have hfzg4 := blk_frozen BKg4.out 0; have hczg6 : w14.cell? ⟨g6, 0, none⟩ = some (.slice Ao13 t12.length co13) := (blk_cell BKg6.out 0).trans rfl; have hfzg6 := blk_frozen BKg6.out 0; have hczg7 : w14.cell? ⟨g7, 0, none⟩ = some (.slice Ao16 t15.length co16) := (blk_cell BKg7.out 0).trans rfl; have hfzg7 := blk_frozen BKg7.out 0))
 try go_wp2_with (first | (go_at_call 21; (with_reducible refine (laws_eqTriangulation.calls k _ _ t15 _ _ t8 true _ ?side1 ?side2 ?side3 ?side4 H30.out).mono ?_); (case side1 => exact (ObS.reads HOo16.out).2.2); (case side2 => exact ObS.room HOo16.out); (case side3 => exact (ObS.reads HOo9.out).2.2); (case side4 => exact ObS.room HOo9.out); rintro e w15 ⟨rfl, hb⟩; (try clear hczg1 hfzg1 hczg4 hfzg4 hczg6 hfzg6 hczg7 hfzg7); have nOo6 := Aside0.mk (ObS.below HOo6.out hb); have nOo9 := Aside0.mk (ObS.below HOo9.out hb); have nOo13 := Aside0.mk (ObS.below HOo13.out hb); have nOo16 := Aside0.mk (ObS.below HOo16.out hb); have nOo23 := Aside0.mk (ObS.below HOo23.out hb); have nBg1 := Aside0.mk (blk_below (g := g1) (o := .cells #[.slice A0 l0.length c0] 28 (0, 0)) BKg1.out hb); have nBg4 := Aside0.mk (blk_below (g := g4) (o := .cells #[.slice Ao9 t8.length co9] 35 (0, 0)) BKg4.out hb); have nBg6 := Aside0.mk (blk_below (g := g6) (o := .cells #[.slice Ao13 t12.length co13] 35 (0, 0)) BKg6.out hb); have nBg7 := Aside0.mk (blk_below (g := g7) (o := .cells #[.slice Ao16 t15.length co16] 35 (0, 0)) BKg7.out hb); have nHB := Aside0.mk (below_step HB.out hb); have nHT := Aside0.mk (top_below HT.out hb); clear HB HT HOo6 HOo9 HOo13 HOo16 HOo23 BKg1 BKg4 BKg6 BKg7; have HOo6 := nOo6; have HOo9 := nOo9; have HOo13 := nOo13; have HOo16 := nOo16; have HOo23 := nOo23; have BKg1 := nBg1; have BKg4 := nBg4; have BKg6 := nBg6; have BKg7 := nBg7; have HB := nHB; have HT := nHT; clear nHB nHT nOo6 nOo9 nOo13 nOo16 nOo23 nBg1 nBg4 nBg6 nBg7; (try clear hb); (try clear hnd); have hczg1 : w15.cell? ⟨g1, 0, none⟩ = some (.slice A0 l0.length c0) := (blk_cell BKg1.out 0).trans rfl; have hfzg1 := blk_frozen BKg1.out 0; have hczg4 : w15.cell? ⟨g4, 0, none⟩ = some (.slice Ao9 t8.length co9) := (blk_cell BKg4.out 0).trans rfl; have hfzg4 := blk_frozen BKg4.out 0; have hczg6 : w15.cell? ⟨g6, 0, none⟩ = some (.slice Ao13 t12.length co13) := (blk_cell BKg6.out 0).trans rfl; have hfzg6 := blk_frozen BKg6.out 0; have hczg7 : w15.cell? ⟨g7, 0, none⟩ = some (.slice Ao16 t15.length co16) := (blk_cell BKg7.out 0).trans rfl; have hfzg7 := blk_frozen BKg7.out 0) | ((with_reducible refine gate_callee (f := 22) rfl ?_); refine goesL_ (some 64) rfl rfl Try.func22 (by kernel_rfl) rfl #[.agg #[.slice Ao16 t15.length co16], .int .i64 1] rfl (by (try simp only [yiy, yjy, yky]); first | done | rfl | (simp only [yly, ymy]; rfl)) ?_; (with_reducible refine (laws_markTriangulation.calls k (fun k_ => loo16 ≤ k_ ∧ k_ < hio16) (.slice Ao16 t15.length co16) t15 1 m34 y35 w _ HB.out (ObS.row HOo16.out) H33.out).mono ?_); rintro e w16 ⟨rfl, hy, hb, hk0⟩; refine ⟨_, rfl, ?_⟩; have hk := hk0; have nM := Aside0.mk (ObS.marked HOo16.out hy hk.1); (try clear hczg1 hfzg1 hczg4 hfzg4 hczg6 hfzg6 hczg7 hfzg7); have nOo6 := Aside0.mk (ObS.kept HOo6.out hk (by have := HNg1.out; have := HNo6.out; have := HNo9.out; have := HNg4.out; have := HNo13.out; have := HNg6.out; have := HNo16.out; have := HNg7.out; have := HNo23.out; omega)); have nOo9 := Aside0.mk (ObS.kept HOo9.out hk (by have := HNg1.out; have := HNo6.out; have := HNo9.out; have := HNg4.out; have := HNo13.out; have := HNg6.out; have := HNo16.out; have := HNg7.out; have := HNo23.out; omega)); have nOo13 := Aside0.mk (ObS.kept HOo13.out hk (by have := HNg1.out; have := HNo6.out; have := HNo9.out; have := HNg4.out; have := HNo13.out; have := HNg6.out; have := HNo16.out; have := HNg7.out; have := HNo23.out; omega)); have nOo23 := Aside0.mk (ObS.kept HOo23.out hk (by have := HNg1.out; have := HNo6.out; have := HNo9.out; have := HNg4.out; have := HNo13.out; have := HNg6.out; have := HNo16.out; have := HNg7.out; have := HNo23.out; omega)); have nBg1 := Aside0.mk (blk_kept (g := g1) (o := .cells #[.slice A0 l0.length c0] 28 (0, 0)) BKg1.out hk (fun h_ => by have h1_ := h_.1; have h2_ := h_.2; have := HNg1.out; have := HNo6.out; have := HNo9.out; have := HNg4.out; have := HNo13.out; have := HNg6.out; have := HNo16.out; have := HNg7.out; have := HNo23.out; omega)); have nBg4 := Aside0.mk (blk_kept (g := g4) (o := .cells #[.slice Ao9 t8.length co9] 35 (0, 0)) BKg4.out hk (fun h_ => by have h1_ := h_.1; have h2_ := h_.2; have := HNg1.out; have := HNo6.out; have := HNo9.out; have := HNg4.out; have := HNo13.out; have := HNg6.out; have := HNo16.out; have := HNg7.out; have := HNo23.out; omega)); have nBg6 := Aside0.mk (blk_kept (g := g6) (o := .cells #[.slice Ao13 t12.length co13] 35 (0, 0)) BKg6.out hk (fun h_ => by have h1_ := h_.1; have h2_ := h_.2; have := HNg1.out; have := HNo6.out; have := HNo9.out; have := HNg4.out; have := HNo13.out; have := HNg6.out; have := HNo16.out; have := HNg7.out; have := HNo23.out; omega)); have nBg7 := Aside0.mk (blk_kept (g := g7) (o := .cells #[.slice Ao16 t15.length co16] 35 (0, 0)) BKg7.out hk (fun h_ => by have h1_ := h_.1; have h2_ := h_.2; have := HNg1.out; have := HNo6.out; have := HNo9.out; have := HNg4.out; have := HNo13.out; have := HNg6.out; have := HNo16.out; have := HNg7.out; have := HNo23.out; omega)); have nHT := Aside0.mk (Nat.le_trans HT.out hk.1); clear HB HT HOo6 HOo9 HOo13 HOo16 HOo23 BKg1 BKg4 BKg6 BKg7; have HOo6 := nOo6; have HOo9 := nOo9; have HOo13 := nOo13; have HOo16 := nM; have HOo23 := nOo23; have BKg1 := nBg1; have BKg4 := nBg4; have BKg6 := nBg6; have BKg7 := nBg7; have HB := Aside0.mk hb; have HT := nHT; (try clear hy); clear hb hk0 hk nM nHT nOo6 nOo9 nOo13 nOo23 nBg1 nBg4 nBg6 nBg7; have hczg1 : w16.cell? ⟨g1, 0, none⟩ = some (.slice A0 l0.length c0) := (blk_cell BKg1.out 0).trans rfl; have hfzg1 := blk_frozen BKg1.out 0; have hczg4 : w16.cell? ⟨g4, 0, none⟩ = some (.slice Ao9 t8.length co9) := (blk_cell BKg4.out 0).trans rfl; have hfzg4 := blk_frozen BKg4.out 0; have hczg6 : w16.cell? ⟨g6, 0, none⟩ = some (.slice Ao13 t12.length co13) := (blk_cell BKg6.out 0).trans rfl; have hfzg6 := blk_frozen BKg6.out 0; have hczg7 : w16.cell? ⟨g7, 0, none⟩ = some (.slice Ao16 t15.length co16) := (blk_cell BKg7.out 0).trans rfl; have hfzg7 := blk_frozen BKg7.out 0) | ((with_reducible refine gate_callee (f := 43) rfl ?_); refine goesL_ (some 67) rfl rfl Try.func43 (by kernel_rfl) rfl #[.agg #[.slice Ao16 y35.length co16], .int .i64 1] rfl (by (try simp only [yiy, yjy, yky]); first | done | (rw [show y35.length = t15.length from (ObS.reads HOo16.out).1.symm] <;> rfl) | rfl | (simp only [yly, ymy]; rfl)) ?_; (with_reducible refine (laws_heldTriangulation.calls k _ _ y35 1 t37 _ ?side1 ?side2 H36.out).mono ?_); (case side1 => exact (ObS.reads HOo16.out).2.2); (case side2 => exact ObS.room HOo16.out); rintro e w17 ⟨rfl, hb⟩; refine ⟨_, rfl, ?_⟩; (try clear hczg1 hfzg1 hczg4 hfzg4 hczg6 hfzg6 hczg7 hfzg7); have nOo6 := Aside0.mk (ObS.below HOo6.out hb); have nOo9 := Aside0.mk (ObS.below HOo9.out hb); have nOo13 := Aside0.mk (ObS.below HOo13.out hb); have nOo16 := Aside0.mk (ObS.below HOo16.out hb); have nOo23 := Aside0.mk (ObS.below HOo23.out hb); have nBg1 := Aside0.mk (blk_below (g := g1) (o := .cells #[.slice A0 l0.length c0] 28 (0, 0)) BKg1.out hb); have nBg4 := Aside0.mk (blk_below (g := g4) (o := .cells #[.slice Ao9 t8.length co9] 35 (0, 0)) BKg4.out hb); have nBg6 := Aside0.mk (blk_below (g := g6) (o := .cells #[.slice Ao13 t12.length co13] 35 (0, 0)) BKg6.out hb); have nBg7 := Aside0.mk (blk_below (g := g7) (o := .cells #[.slice Ao16 t15.length co16] 35 (0, 0)) BKg7.out hb); have nHB := Aside0.mk (below_step HB.out hb); have nHT := Aside0.mk (top_below HT.out hb); clear HB HT HOo6 HOo9 HOo13 HOo16 HOo23 BKg1 BKg4 BKg6 BKg7; have HOo6 := nOo6; have HOo9 := nOo9; have HOo13 := nOo13; have HOo16 := nOo16; have HOo23 := nOo23; have BKg1 := nBg1; have BKg4 := nBg4; have BKg6 := nBg6; have BKg7 := nBg7; have HB := nHB; have HT := nHT; clear nHB nHT nOo6 nOo9 nOo13 nOo16 nOo23 nBg1 nBg4 nBg6 nBg7; (try clear hb); (try clear hnd); have hczg1 : w17.cell? ⟨g1, 0, none⟩ = some (.slice A0 l0.length c0) := (blk_cell BKg1.out 0).trans rfl; have hfzg1 := blk_frozen BKg1.out 0; have hczg4 : w17.cell? ⟨g4, 0, none⟩ = some (.slice Ao9 t8.length co9) := (blk_cell BKg4.out 0).trans rfl; have hfzg4 := blk_frozen BKg4.out 0; have hczg6 : w17.cell? ⟨g6, 0, none⟩ = some (.slice Ao13 t12.length co13) := (blk_cell BKg6.out 0).trans rfl; have hfzg6 := blk_frozen BKg6.out 0; have hczg7 : w17.cell? ⟨g7, 0, none⟩ = some (.slice Ao16 t15.length co16) := (blk_cell BKg7.out 0).trans rfl; have hfzg7 := blk_frozen BKg7.out 0) | ((with_reducible refine gate_callee (f := 18) rfl ?_); refine goesL_ (some 75) rfl rfl Try.func18 (by kernel_rfl) rfl #[.agg #[.slice A0 l0.length c0]] rfl (by (try simp only [yiy, yjy, yky]); first | done | rfl | (simp only [yly, ymy]; rfl)) ?_; (with_reducible refine (laws_toTriangulation.calls k _ _ l0 t41 _ ?side1 ?side2 H40.out).mono ?_); (case side1 => exact Kd.C_below HR0.out HB.out); (case side2 => exact HC0.out); rintro e w18 ⟨vo42, rfl, ho0, hb⟩; refine ⟨_, rfl, ?_⟩; (try clear hczg1 hfzg1 hczg4 hfzg4 hczg6 hfzg6 hczg7 hfzg7); obtain ⟨loo42, hio42, hno42⟩ := ObS.made ho0 hb HT.out (below_size HB.out); have nOo6 := Aside0.mk (ObS.below HOo6.out hb); have nOo9 := Aside0.mk (ObS.below HOo9.out hb); have nOo13 := Aside0.mk (ObS.below HOo13.out hb); have nOo16 := Aside0.mk (ObS.below HOo16.out hb); have nOo23 := Aside0.mk (ObS.below HOo23.out hb); have nBg1 := Aside0.mk (blk_below (g := g1) (o := .cells #[.slice A0 l0.length c0] 28 (0, 0)) BKg1.out hb); have nBg4 := Aside0.mk (blk_below (g := g4) (o := .cells #[.slice Ao9 t8.length co9] 35 (0, 0)) BKg4.out hb); have nBg6 := Aside0.mk (blk_below (g := g6) (o := .cells #[.slice Ao13 t12.length co13] 35 (0, 0)) BKg6.out hb); have nBg7 := Aside0.mk (blk_below (g := g7) (o := .cells #[.slice Ao16 t15.length co16] 35 (0, 0)) BKg7.out hb); have nHB := Aside0.mk (below_step HB.out hb); have nHT := Aside0.mk (top_below HT.out hb); clear HB HT HOo6 HOo9 HOo13 HOo16 HOo23 BKg1 BKg4 BKg6 BKg7; have HOo6 := nOo6; have HOo9 := nOo9; have HOo13 := nOo13; have HOo16 := nOo16; have HOo23 := nOo23; have BKg1 := nBg1; have BKg4 := nBg4; have BKg6 := nBg6; have BKg7 := nBg7; have HB := nHB; have HT := nHT; clear nHB nHT nOo6 nOo9 nOo13 nOo16 nOo23 nBg1 nBg4 nBg6 nBg7; have HNo42 := Aside0.mk hno42.1; clear HT; have HT := Aside0.mk hno42.2.1; have HOo42 := Aside0.mk hno42.2.2; clear hno42 ho0; obtain ⟨Ao42, co42, eeo42⟩ := HOo42.out.slice; subst eeo42; (try clear hb); (try clear hnd); have hczg1 : w18.cell? ⟨g1, 0, none⟩ = some (.slice A0 l0.length c0) := (blk_cell BKg1.out 0).trans rfl; have hfzg1 := blk_frozen BKg1.out 0; have hczg4 : w18.cell? ⟨g4, 0, none⟩ = some (.slice Ao9 t8.length co9) := (blk_cell BKg4.out 0).trans rfl; have hfzg4 := blk_frozen BKg4.out 0; have hczg6 : w18.cell? ⟨g6, 0, none⟩ = some (.slice Ao13 t12.length co13) := (blk_cell BKg6.out 0).trans rfl; have hfzg6 := blk_frozen BKg6.out 0; have hczg7 : w18.cell? ⟨g7, 0, none⟩ = some (.slice Ao16 t15.length co16) := (blk_cell BKg7.out 0).trans rfl; have hfzg7 := blk_frozen BKg7.out 0) | ((with_reducible refine gate_callee (f := 42) rfl ?_); refine goesL_ (some 76) rfl rfl Try.func42 (by kernel_rfl) rfl #[.agg #[.slice Ao42 t41.length co42]] rfl (by (try simp only [yiy, yjy, yky]); first | done | rfl | (simp only [yly, ymy]; rfl)) ?_; (with_reducible refine (impl_DoubleCover.calls k _ _ t41 t44 t46 _ ?side1 ?side2 H43.out).mono ?_); (case side1 => exact (ObS.reads HOo42.out).2.2); (case side2 => exact ObS.room HOo42.out); rintro e w19 ⟨vo45, rfl, ho0, hb⟩; refine ⟨_, rfl, ?_⟩; (try clear hczg1 hfzg1 hczg4 hfzg4 hczg6 hfzg6 hczg7 hfzg7); obtain ⟨loo45, hio45, hno45⟩ := ObS.made ho0 hb HT.out (below_size HB.out); have nOo6 := Aside0.mk (ObS.below HOo6.out hb); have nOo9 := Aside0.mk (ObS.below HOo9.out hb); have nOo13 := Aside0.mk (ObS.below HOo13.out hb); have nOo16 := Aside0.mk (ObS.below HOo16.out hb); have nOo23 := Aside0.mk (ObS.below HOo23.out hb); have nOo42 := Aside0.mk (ObS.below HOo42.out hb); have nBg1 := Aside0.mk (blk_below (g := g1) (o := .cells #[.slice A0 l0.length c0] 28 (0, 0)) BKg1.out hb); have nBg4 := Aside0.mk (blk_below (g := g4) (o := .cells #[.slice Ao9 t8.length co9] 35 (0, 0)) BKg4.out hb); have nBg6 := Aside0.mk (blk_below (g := g6) (o := .cells #[.slice Ao13 t12.length co13] 35 (0, 0)) BKg6.out hb); have nBg7 := Aside0.mk (blk_below (g := g7) (o := .cells #[.slice Ao16 t15.length co16] 35 (0, 0)) BKg7.out hb); have nHB := Aside0.mk (below_step HB.out hb); have nHT := Aside0.mk (top_below HT.out hb); clear HB HT HOo6 HOo9 HOo13 HOo16 HOo23 HOo42 BKg1 BKg4 BKg6 BKg7; have HOo6 := nOo6; have HOo9 := nOo9; have HOo13 := nOo13; have HOo16 := nOo16; have HOo23 := nOo23; have HOo42 := nOo42; have BKg1 := nBg1; have BKg4 := nBg4; have BKg6 := nBg6; have BKg7 := nBg7; have HB := nHB; have HT := nHT; clear nHB nHT nOo6 nOo9 nOo13 nOo16 nOo23 nOo42 nBg1 nBg4 nBg6 nBg7; have HNo45 := Aside0.mk hno45.1; clear HT; have HT := Aside0.mk hno45.2.1; have HOo45 := Aside0.mk hno45.2.2; clear hno45 ho0; obtain ⟨Ao45, co45, eeo45⟩ := HOo45.out.slice; subst eeo45; (try clear hb); (try clear hnd); have hczg1 : w19.cell? ⟨g1, 0, none⟩ = some (.slice A0 l0.length c0) := (blk_cell BKg1.out 0).trans rfl; have hfzg1 := blk_frozen BKg1.out 0; have hczg4 : w19.cell? ⟨g4, 0, none⟩ = some (.slice Ao9 t8.length co9) := (blk_cell BKg4.out 0).trans rfl; have hfzg4 := blk_frozen BKg4.out 0; have hczg6 : w19.cell? ⟨g6, 0, none⟩ = some (.slice Ao13 t12.length co13) := (blk_cell BKg6.out 0).trans rfl; have hfzg6 := blk_frozen BKg6.out 0; have hczg7 : w19.cell? ⟨g7, 0, none⟩ = some (.slice Ao16 t15.length co16) := (blk_cell BKg7.out 0).trans rfl; have hfzg7 := blk_frozen BKg7.out 0) | ((with_reducible refine gate_dst (N := 12) rfl ?_); refine box_event ?hg (N := 12) ?hd (cs := #[.slice none 0 0]) (t := 35) ?hr ?_; (case hd => rfl); (case hg => rfl); (case hr => first | (go_simp; done) | (go_simp; rfl)); intro g12 hg w20 hbox hb; (try clear hczg1 hfzg1 hczg4 hfzg4 hczg6 hfzg6 hczg7 hfzg7); have HNg12 := Aside0.mk (by rw [hg]; exact HT.out : hio45 ≤ g12); have HXg12 := Aside0.mk (show g12 + 1 ≤ w20.heap.size from blk_lt hbox); have nOo6 := Aside0.mk (ObS.below HOo6.out hb); have nOo9 := Aside0.mk (ObS.below HOo9.out hb); have nOo13 := Aside0.mk (ObS.below HOo13.out hb); have nOo16 := Aside0.mk (ObS.below HOo16.out hb); have nOo23 := Aside0.mk (ObS.below HOo23.out hb); have nOo42 := Aside0.mk (ObS.below HOo42.out hb); have nOo45 := Aside0.mk (ObS.below HOo45.out hb); have nBg1 := Aside0.mk (blk_below (g := g1) (o := .cells #[.slice A0 l0.length c0] 28 (0, 0)) BKg1.out hb); have nBg4 := Aside0.mk (blk_below (g := g4) (o := .cells #[.slice Ao9 t8.length co9] 35 (0, 0)) BKg4.out hb); have nBg6 := Aside0.mk (blk_below (g := g6) (o := .cells #[.slice Ao13 t12.length co13] 35 (0, 0)) BKg6.out hb); have nBg7 := Aside0.mk (blk_below (g := g7) (o := .cells #[.slice Ao16 t15.length co16] 35 (0, 0)) BKg7.out hb); have nHB := Aside0.mk (below_step HB.out hb); have nHT := Aside0.mk (top_below HT.out hb); clear HB HT HOo6 HOo9 HOo13 HOo16 HOo23 HOo42 HOo45 BKg1 BKg4 BKg6 BKg7; have HOo6 := nOo6; have HOo9 := nOo9; have HOo13 := nOo13; have HOo16 := nOo16; have HOo23 := nOo23; have HOo42 := nOo42; have HOo45 := nOo45; have BKg1 := nBg1; have BKg4 := nBg4; have BKg6 := nBg6; have BKg7 := nBg7; have HB := nHB; have HT := nHT; clear nHB nHT nOo6 nOo9 nOo13 nOo16 nOo23 nOo42 nOo45 nBg1 nBg4 nBg6 nBg7; clear HT; have HT := HXg12; clear HXg12; have BKg12 := Aside0.mk hbox; clear hg hbox hb; have hnbg12_g1 : g12 ≠ g1 := (by have := HNg1.out; have := HNo6.out; have := HNo9.out; have := HNg4.out; have := HNo13.out; have := HNg6.out; have := HNo16.out; have := HNg7.out; have := HNo23.out; have := HNo42.out; have := HNo45.out; have := HNg12.out; omega); have hnbg1_g12 : g1 ≠ g12 := (by have := HNg1.out; have := HNo6.out; have := HNo9.out; have := HNg4.out; have := HNo13.out; have := HNg6.out; have := HNo16.out; have := HNg7.out; have := HNo23.out; have := HNo42.out; have := HNo45.out; have := HNg12.out; omega); have hnbg12_g4 : g12 ≠ g4 := (by have := HNg1.out; have := HNo6.out; have := HNo9.out; have := HNg4.out; have := HNo13.out; have := HNg6.out; have := HNo16.out; have := HNg7.out; have := HNo23.out; have := HNo42.out; have := HNo45.out; have := HNg12.out; omega); have hnbg4_g12 : g4 ≠ g12 := (by have := HNg1.out; have := HNo6.out; have := HNo9.out; have := HNg4.out; have := HNo13.out; have := HNg6.out; have := HNo16.out; have := HNg7.out; have := HNo23.out; have := HNo42.out; have := HNo45.out; have := HNg12.out; omega); have hnbg12_g6 : g12 ≠ g6 := (by have := HNg1.out; have := HNo6.out; have := HNo9.out; have := HNg4.out; have := HNo13.out; have := HNg6.out; have := HNo16.out; have := HNg7.out; have := HNo23.out; have := HNo42.out; have := HNo45.out; have := HNg12.out; omega); have hnbg6_g12 : g6 ≠ g12 := (by have := HNg1.out; have := HNo6.out; have := HNo9.out; have := HNg4.out; have := HNo13.out; have := HNg6.out; have := HNo16.out; have := HNg7.out; have := HNo23.out; have := HNo42.out; have := HNo45.out; have := HNg12.out; omega); have hnbg12_g7 : g12 ≠ g7 := (by have := HNg1.out; have := HNo6.out; have := HNo9.out; have := HNg4.out; have := HNo13.out; have := HNg6.out; have := HNo16.out; have := HNg7.out; have := HNo23.out; have := HNo42.out; have := HNo45.out; have := HNg12.out; omega); have hnbg7_g12 : g7 ≠ g12 := (by have := HNg1.out; have := HNo6.out; have := HNo9.out; have := HNg4.out; have := HNo13.out; have := HNg6.out; have := HNo16.out; have := HNg7.out; have := HNo23.out; have := HNo42.out; have := HNo45.out; have := HNg12.out; omega); have hczg1 : w20.cell? ⟨g1, 0, none⟩ = some (.slice A0 l0.length c0) := (blk_cell BKg1.out 0).trans rfl; have hfzg1 := blk_frozen BKg1.out 0; have hczg4 : w20.cell? ⟨g4, 0, none⟩ = some (.slice Ao9 t8.length co9) := (blk_cell BKg4.out 0).trans rfl; have hfzg4 := blk_frozen BKg4.out 0; have hczg6 : w20.cell? ⟨g6, 0, none⟩ = some (.slice Ao13 t12.length co13) := (blk_cell BKg6.out 0).trans rfl; have hfzg6 := blk_frozen BKg6.out 0; have hczg7 : w20.cell? ⟨g7, 0, none⟩ = some (.slice Ao16 t15.length co16) := (blk_cell BKg7.out 0).trans rfl; have hfzg7 := blk_frozen BKg7.out 0; have hczg12 : w20.cell? ⟨g12, 0, none⟩ = some (.slice none 0 0) := (blk_cell BKg12.out 0).trans rfl; have hfzg12 := blk_frozen BKg12.out 0) | ((with_reducible refine gate_callee (f := 21) rfl ?_); refine goesL_ (some 81) rfl rfl Try.func21 (by kernel_rfl) rfl #[.agg #[.slice Ao45 t44.length co45], .agg #[.slice Ao9 t8.length co9]] rfl (by (try simp only [yiy, yjy, yky]); first | done | rfl | (simp only [yly, ymy]; rfl)) ?_; (with_reducible refine (laws_eqTriangulation.calls k _ _ t44 _ _ t8 true _ ?side1 ?side2 ?side3 ?side4 H47.out).mono ?_); (case side1 => exact (ObS.reads (ObS.far (g := g12) (i := 0) HOo45.out (by have := HNg1.out; have := HNo6.out; have := HNo9.out; have := HNg4.out; have := HNo13.out; have := HNg6.out; have := HNo16.out; have := HNg7.out; have := HNo23.out; have := HNo42.out; have := HNo45.out; have := HNg12.out; omega) _)).2.2); (case side2 => exact ObS.room HOo45.out); (case side3 => exact (ObS.reads (ObS.far (g := g12) (i := 0) HOo9.out (by have := HNg1.out; have := HNo6.out; have := HNo9.out; have := HNg4.out; have := HNo13.out; have := HNg6.out; have := HNo16.out; have := HNg7.out; have := HNo23.out; have := HNo42.out; have := HNo45.out; have := HNg12.out; omega) _)).2.2); (case side4 => exact ObS.room HOo9.out); rintro e w21 ⟨rfl, hb⟩; refine ⟨_, rfl, ?_⟩; (try clear hczg1 hfzg1 hczg4 hfzg4 hczg6 hfzg6 hczg7 hfzg7 hczg12 hfzg12); have nOo6 := Aside0.mk (ObS.below (ObS.far (g := g12) (i := 0) HOo6.out (by have := HNg1.out; have := HNo6.out; have := HNo9.out; have := HNg4.out; have := HNo13.out; have := HNg6.out; have := HNo16.out; have := HNg7.out; have := HNo23.out; have := HNo42.out; have := HNo45.out; have := HNg12.out; omega) _) hb); have nOo9 := Aside0.mk (ObS.below (ObS.far (g := g12) (i := 0) HOo9.out (by have := HNg1.out; have := HNo6.out; have := HNo9.out; have := HNg4.out; have := HNo13.out; have := HNg6.out; have := HNo16.out; have := HNg7.out; have := HNo23.out; have := HNo42.out; have := HNo45.out; have := HNg12.out; omega) _) hb); have nOo13 := Aside0.mk (ObS.below (ObS.far (g := g12) (i := 0) HOo13.out (by have := HNg1.out; have := HNo6.out; have := HNo9.out; have := HNg4.out; have := HNo13.out; have := HNg6.out; have := HNo16.out; have := HNg7.out; have := HNo23.out; have := HNo42.out; have := HNo45.out; have := HNg12.out; omega) _) hb); have nOo16 := Aside0.mk (ObS.below (ObS.far (g := g12) (i := 0) HOo16.out (by have := HNg1.out; have := HNo6.out; have := HNo9.out; have := HNg4.out; have := HNo13.out; have := HNg6.out; have := HNo16.out; have := HNg7.out; have := HNo23.out; have := HNo42.out; have := HNo45.out; have := HNg12.out; omega) _) hb); have nOo23 := Aside0.mk (ObS.below (ObS.far (g := g12) (i := 0) HOo23.out (by have := HNg1.out; have := HNo6.out; have := HNo9.out; have := HNg4.out; have := HNo13.out; have := HNg6.out; have := HNo16.out; have := HNg7.out; have := HNo23.out; have := HNo42.out; have := HNo45.out; have := HNg12.out; omega) _) hb); have nOo42 := Aside0.mk (ObS.below (ObS.far (g := g12) (i := 0) HOo42.out (by have := HNg1.out; have := HNo6.out; have := HNo9.out; have := HNg4.out; have := HNo13.out; have := HNg6.out; have := HNo16.out; have := HNg7.out; have := HNo23.out; have := HNo42.out; have := HNo45.out; have := HNg12.out; omega) _) hb); have nOo45 := Aside0.mk (ObS.below (ObS.far (g := g12) (i := 0) HOo45.out (by have := HNg1.out; have := HNo6.out; have := HNo9.out; have := HNg4.out; have := HNo13.out; have := HNg6.out; have := HNo16.out; have := HNg7.out; have := HNo23.out; have := HNo42.out; have := HNo45.out; have := HNg12.out; omega) _) hb); have nBg1 := Aside0.mk (blk_below (g := g1) (o := .cells #[.slice A0 l0.length c0] 28 (0, 0)) (blk_far (p := ⟨g12, 0, none⟩) BKg1.out (show g1 ≠ g12 from (by have := HNg1.out; have := HNo6.out; have := HNo9.out; have := HNg4.out; have := HNo13.out; have := HNg6.out; have := HNo16.out; have := HNg7.out; have := HNo23.out; have := HNo42.out; have := HNo45.out; have := HNg12.out; omega)) _) hb); have nBg4 := Aside0.mk (blk_below (g := g4) (o := .cells #[.slice Ao9 t8.length co9] 35 (0, 0)) (blk_far (p := ⟨g12, 0, none⟩) BKg4.out (show g4 ≠ g12 from (by have := HNg1.out; have := HNo6.out; have := HNo9.out; have := HNg4.out; have := HNo13.out; have := HNg6.out; have := HNo16.out; have := HNg7.out; have := HNo23.out; have := HNo42.out; have := HNo45.out; have := HNg12.out; omega)) _) hb); have nBg6 := Aside0.mk (blk_below (g := g6) (o := .cells #[.slice Ao13 t12.length co13] 35 (0, 0)) (blk_far (p := ⟨g12, 0, none⟩) BKg6.out (show g6 ≠ g12 from (by have := HNg1.out; have := HNo6.out; have := HNo9.out; have := HNg4.out; have := HNo13.out; have := HNg6.out; have := HNo16.out; have := HNg7.out; have := HNo23.out; have := HNo42.out; have := HNo45.out; have := HNg12.out; omega)) _) hb); have nBg7 := Aside0.mk (blk_below (g := g7) (o := .cells #[.slice Ao16 t15.length co16] 35 (0, 0)) (blk_far (p := ⟨g12, 0, none⟩) BKg7.out (show g7 ≠ g12 from (by have := HNg1.out; have := HNo6.out; have := HNo9.out; have := HNg4.out; have := HNo13.out; have := HNg6.out; have := HNo16.out; have := HNg7.out; have := HNo23.out; have := HNo42.out; have := HNo45.out; have := HNg12.out; omega)) _) hb); have nBg12 := Aside0.mk (blk_below (g := g12) (o := .cells #[.slice Ao45 t44.length co45] 35 (0, 0)) (blk_put (cs := #[.slice none 0 0]) BKg12.out 0 _ rfl) hb); have nHB := Aside0.mk (below_step (below_set HB.out (show w.heap.size ≤ g12 from (by have := HNg1.out; have := HNo6.out; have := HNo9.out; have := HNg4.out; have := HNo13.out; have := HNg6.out; have := HNo16.out; have := HNg7.out; have := HNo23.out; have := HNo42.out; have := HNo45.out; have := HNg12.out; omega))) hb); have nHT := Aside0.mk (top_below (top_far HT.out) hb); clear HB HT HOo6 HOo9 HOo13 HOo16 HOo23 HOo42 HOo45 BKg1 BKg4 BKg6 BKg7 BKg12; have HOo6 := nOo6; have HOo9 := nOo9; have HOo13 := nOo13; have HOo16 := nOo16; have HOo23 := nOo23; have HOo42 := nOo42; have HOo45 := nOo45; have BKg1 := nBg1; have BKg4 := nBg4; have BKg6 := nBg6; have BKg7 := nBg7; have BKg12 := nBg12; have HB := nHB; have HT := nHT; clear nHB nHT nOo6 nOo9 nOo13 nOo16 nOo23 nOo42 nOo45 nBg1 nBg4 nBg6 nBg7 nBg12; (try clear hb); (try clear hnd); have hczg1 : w21.cell? ⟨g1, 0, none⟩ = some (.slice A0 l0.length c0) := (blk_cell BKg1.out 0).trans rfl; have hfzg1 := blk_frozen BKg1.out 0; have hczg4 : w21.cell? ⟨g4, 0, none⟩ = some (.slice Ao9 t8.length co9) := (blk_cell BKg4.out 0).trans rfl; have hfzg4 := blk_frozen BKg4.out 0; have hczg6 : w21.cell? ⟨g6, 0, none⟩ = some (.slice Ao13 t12.length co13) := (blk_cell BKg6.out 0).trans rfl; have hfzg6 := blk_frozen BKg6.out 0; have hczg7 : w21.cell? ⟨g7, 0, none⟩ = some (.slice Ao16 t15.length co16) := (blk_cell BKg7.out 0).trans rfl; have hfzg7 := blk_frozen BKg7.out 0; have hczg12 : w21.cell? ⟨g12, 0, none⟩ = some (.slice Ao45 t44.length co45) := (blk_cell BKg12.out 0).trans rfl; have hfzg12 := blk_frozen BKg12.out 0) | ((with_reducible refine gate_callee (f := 43) rfl ?_); refine goesL_ (some 90) rfl rfl Try.func43 (by kernel_rfl) rfl #[.agg #[.slice Ao16 y35.length co16], .int .i64 1] rfl (by (try simp only [yiy, yjy, yky]); first | done | (rw [show y35.length = t15.length from (ObS.reads HOo16.out).1.symm] <;> rfl) | rfl | (simp only [yly, ymy]; rfl)) ?_; (with_reducible refine (laws_heldTriangulation.calls k _ _ y35 1 t51 _ ?side1 ?side2 H50.out).mono ?_); (case side1 => exact (ObS.reads HOo16.out).2.2); (case side2 => exact ObS.room HOo16.out); rintro e w22 ⟨rfl, hb⟩; refine ⟨_, rfl, ?_⟩; (try clear hczg1 hfzg1 hczg4 hfzg4 hczg6 hfzg6 hczg7 hfzg7 hczg12 hfzg12); have nOo6 := Aside0.mk (ObS.below HOo6.out hb); have nOo9 := Aside0.mk (ObS.below HOo9.out hb); have nOo13 := Aside0.mk (ObS.below HOo13.out hb); have nOo16 := Aside0.mk (ObS.below HOo16.out hb); have nOo23 := Aside0.mk (ObS.below HOo23.out hb); have nOo42 := Aside0.mk (ObS.below HOo42.out hb); have nOo45 := Aside0.mk (ObS.below HOo45.out hb); have nBg1 := Aside0.mk (blk_below (g := g1) (o := .cells #[.slice A0 l0.length c0] 28 (0, 0)) BKg1.out hb); have nBg4 := Aside0.mk (blk_below (g := g4) (o := .cells #[.slice Ao9 t8.length co9] 35 (0, 0)) BKg4.out hb); have nBg6 := Aside0.mk (blk_below (g := g6) (o := .cells #[.slice Ao13 t12.length co13] 35 (0, 0)) BKg6.out hb); have nBg7 := Aside0.mk (blk_below (g := g7) (o := .cells #[.slice Ao16 t15.length co16] 35 (0, 0)) BKg7.out hb); have nBg12 := Aside0.mk (blk_below (g := g12) (o := .cells #[.slice Ao45 t44.length co45] 35 (0, 0)) BKg12.out hb); have nHB := Aside0.mk (below_step HB.out hb); have nHT := Aside0.mk (top_below HT.out hb); clear HB HT HOo6 HOo9 HOo13 HOo16 HOo23 HOo42 HOo45 BKg1 BKg4 BKg6 BKg7 BKg12; have HOo6 := nOo6; have HOo9 := nOo9; have HOo13 := nOo13; have HOo16 := nOo16; have HOo23 := nOo23; have HOo42 := nOo42; have HOo45 := nOo45; have BKg1 := nBg1; have BKg4 := nBg4; have BKg6 := nBg6; have BKg7 := nBg7; have BKg12 := nBg12; have HB := nHB; have HT := nHT; clear nHB nHT nOo6 nOo9 nOo13 nOo16 nOo23 nOo42 nOo45 nBg1 nBg4 nBg6 nBg7 nBg12; (try clear hb); (try clear hnd); have hczg1 : w22.cell? ⟨g1, 0, none⟩ = some (.slice A0 l0.length c0) := (blk_cell BKg1.out 0).trans rfl; have hfzg1 := blk_frozen BKg1.out 0; have hczg4 : w22.cell? ⟨g4, 0, none⟩ = some (.slice Ao9 t8.length co9) := (blk_cell BKg4.out 0).trans rfl; have hfzg4 := blk_frozen BKg4.out 0; have hczg6 : w22.cell? ⟨g6, 0, none⟩ = some (.slice Ao13 t12.length co13) := (blk_cell BKg6.out 0).trans rfl; have hfzg6 := blk_frozen BKg6.out 0; have hczg7 : w22.cell? ⟨g7, 0, none⟩ = some (.slice Ao16 t15.length co16) := (blk_cell BKg7.out 0).trans rfl; have hfzg7 := blk_frozen BKg7.out 0; have hczg12 : w22.cell? ⟨g12, 0, none⟩ = some (.slice Ao45 t44.length co45) := (blk_cell BKg12.out 0).trans rfl; have hfzg12 := blk_frozen BKg12.out 0))
 go_ret
 exact ⟨by first | rfl | (simp <;> rfl), HB.out⟩
end Go.Proofs.Ytembbpalgfikiaa.P
namespace Go.Proofs.Ytembbpalgfikiaa.Lib
set_option linter.unusedVariables false
open Go.RowKit Go.Proofs.YtembbpalgfikiaaW.PrintWords
/-- A loop comes to g of its first state: at each state it ends with g, or goes on at a smaller state of the same g. -/
theorem ev_loop {σ ρ : Type} (L : Nat → σ → Option ρ) (I : σ → Prop) (m : σ → Nat) (g : σ → ρ)
    (h : ∀ s, I s → (∃ K, ∀ k, K ≤ k → L (k + 1) s = some (g s)) ∨ (∃ s' K, I s' ∧ m s' < m s ∧ g s' = g s ∧ ∀ k, K ≤ k → L (k + 1) s = L k s')) :
    ∀ s, I s → Ev (fun k => L k s) (g s) := by
  have key : ∀ (n : Nat) (s : σ), m s < n → I s → Ev (fun k => L k s) (g s) := by
    intro n
    induction n with
    | zero => intro s hs; omega
    | succ n ih =>
      intro s hs hi
      rcases h s hi with ⟨K, hK⟩ | ⟨s', K, hi', hm, hg, hK⟩
      · refine ⟨K + 1, fun k hk => ?_⟩
        obtain ⟨j, rfl⟩ : ∃ j, k = j + 1 := ⟨k - 1, by omega⟩
        exact hK j (by omega)
      · obtain ⟨K', hK'⟩ := ih s' (by omega) hi'
        refine ⟨max K K' + 1, fun k hk => ?_⟩
        obtain ⟨j, rfl⟩ : ∃ j, k = j + 1 := ⟨k - 1, by omega⟩
        show L (j + 1) s = some (g s)
        rw [hK j (by omega), ← hg]
        exact hK' j (by omega)
  intro s hi
  exact key (m s + 1) s (by omega) hi
/-- The same, where a round asks for no number of rounds. -/
theorem ev_loop0 {σ ρ : Type} (L : Nat → σ → Option ρ) (I : σ → Prop) (m : σ → Nat) (g : σ → ρ)
    (h : ∀ s, I s → (∀ k, L (k + 1) s = some (g s)) ∨ (∃ s', I s' ∧ m s' < m s ∧ g s' = g s ∧ ∀ k, L (k + 1) s = L k s')) :
    ∀ s, I s → Ev (fun k => L k s) (g s) :=
  ev_loop L I m g fun s hi => by
    rcases h s hi with h1 | ⟨s', h1, h2, h3, h4⟩
    · exact .inl ⟨0, fun k _ => h1 k⟩
    · exact .inr ⟨s', 0, h1, h2, h3, fun k _ => h4 k⟩
theorem wrap_id {x : Int} (h0 : -9223372036854775808 ≤ x) (h1 : x ≤ 9223372036854775807) : wrap64 x = x := by
  unfold wrap64; omega
theorem wrap_succ {n : Nat} (h : n ≤ 4611686018427387904) : wrap64 ((n : Int) + 1) = ((n + 1 : Nat) : Int) := by
  rw [wrap_id (by omega) (by omega)]; rfl
theorem ev_neg {α : Type} {c : Prop} [Decidable c] {f g : Nat → Option α} {r : α} (h : ¬ c) (k : Ev g r) : Ev (fun n => if c then f n else g n) r := Ev.congr (fun _ => if_neg h) k
theorem ev_pos {α : Type} {c : Prop} [Decidable c] {f g : Nat → Option α} {r : α} (h : c) (k : Ev f r) : Ev (fun n => if c then f n else g n) r := Ev.congr (fun _ => if_pos h) k
theorem ev_some {α : Type} {r r' : α} (h : r = r') : Ev (fun _ => some r) r' := h ▸ Ev.now r
theorem ev_const {α : Type} {o : Option α} {r : α} (h : o = some r) : Ev (fun _ => o) r := ⟨0, fun _ _ => h⟩
theorem ev_const' {α : Type} {g : Nat → Option α} {r : α} (h : ∀ k, g k = some r) : Ev g r := ⟨0, fun k _ => h k⟩
/-- A function whose first step takes one round. -/
theorem ev_step {α : Type} {g f : Nat → Option α} {r : α} (h : ∀ k, g (k + 1) = f k) (k : Ev f r) : Ev g r := Ev.step h k
theorem idxO_any {α : Type} {f : α → Option Bool} {p : α → Bool} : ∀ (i : Nat) (l : List α), (∀ x ∈ l, f x = some (p x)) → ∃ r, idxO f i l = some r ∧ decide (0 ≤ r) = l.any p
  | i, [], _ => ⟨-1, rfl, rfl⟩
  | i, x :: xs, h => by
    rw [idxO_cons, h x (List.mem_cons_self ..), yfy]
    cases hp : p x with
    | true => exact ⟨i, by rw [if_pos rfl], by simp [hp]⟩
    | false =>
      obtain ⟨r, h1, h2⟩ := idxO_any (i + 1) xs (fun y hy => h y (List.mem_cons_of_mem _ hy))
      exact ⟨r, by rw [if_neg (by simp)]; exact h1, by rw [h2]; simp [hp]⟩
theorem contO {α : Type} {f : α → Option Bool} {p : α → Bool} (l : List α) (h : ∀ x ∈ l, f x = some (p x)) : (idxO f 0 l).bind (fun i => some (decide (0 ≤ i))) = some (l.any p) := by
  obtain ⟨r, h1, h2⟩ := idxO_any 0 l h
  rw [h1, yfy, h2]
end Go.Proofs.Ytembbpalgfikiaa.Lib
namespace Go.Proofs.Ytembbpalgfikiaa.P
open Go.RowKit Go.Proofs.YtembbpalgfikiaaW.PrintWords Go.Proofs.Ytembbpalgfikiaa.Lib
set_option linter.unusedVariables false
theorem inRange_eq (a b c : Int) : impl_inRange.f a b c = some (decide (b ≤ a) && decide (a ≤ c)) := by
  unfold impl_inRange.f
  by_cases h : b ≤ a <;> simp [h]
theorem l07In_eq (a b c : Int) : spec_l07In.f a b c = some (decide (b ≤ a) && decide (a ≤ c)) := by
  unfold spec_l07In.f
  by_cases h : b ≤ a <;> simp [h]
theorem l06Valid_eq (a : Int) : spec_l06Valid.f a = some (decide (0 ≤ a) && decide (a ≤ 23)) := by
  unfold spec_l06Valid.f
  by_cases h : 0 ≤ a
  · rw [if_pos h]; simp [h]; omega
  · rw [if_neg h]; simp [h]
theorem isPerm_eq (a : Int) : impl_isPerm.f a = some (decide (0 ≤ a) && decide (a ≤ 23)) := by
  unfold impl_isPerm.f; rw [inRange_eq]; rfl
/-- A number that is the index of a permutation. -/
theorem fin_of {p : Int} (h0 : 0 ≤ p) (h1 : p ≤ 23) : ∃ m : Fin 24, p = (m.val : Int) := ⟨⟨p.toNat, by omega⟩, by simp; omega⟩
theorem l06Images_ev {p : Int} (h0 : 0 ≤ p) (h1 : p ≤ 23) : Ev (fun k => spec_l06Images.f k p) (permL p) := by
  obtain ⟨m, rfl⟩ := fin_of h0 h1
  have key : ∀ m : Fin 24, spec_l06Images.f 5 (m.val : Int) = some (permL (m.val : Int)) := by decide +kernel
  exact Ev.of (fun k => spec_l06Images.mono _ k) (key m)
theorem permL_len (p : Int) : (permL p).length = 4 := rfl
theorem permL_sm {p f : Int} (h0 : 0 ≤ p) (h1 : p ≤ 23) (hf0 : 0 ≤ f) (hf1 : f ≤ 3) : 0 ≤ rd (permL p) f ∧ rd (permL p) f ≤ 3 := by
  obtain ⟨a, b, c, d⟩ := permAt_sm p h0 h1
  exact rd_four_sm a b c d f hf0 hf1
theorem l06At_ev {p f : Int} (h0 : 0 ≤ p) (h1 : p ≤ 23) (hf0 : 0 ≤ f) (hf1 : f ≤ 3) : Ev (fun k => spec_l06At.f k p f) (rd (permL p) f) := by
  refine Ev.bind (l06Images_ev h0 h1) ?_
  exact ev_pos hf0 (ev_pos (by rw [permL_len]; omega) (Ev.now _))
theorem l06Back_ev {p : Int} (h0 : 0 ≤ p) (h1 : p ≤ 23) : Ev (fun k => spec_l06Back.f k p) (invP p) := by
  obtain ⟨m, rfl⟩ := fin_of h0 h1
  have key : ∀ m : Fin 24, spec_l06Back.f 40 (m.val : Int) = some (invP (m.val : Int)) := by decide +kernel
  exact Ev.of (fun k => spec_l06Back.mono _ k) (key m)
theorem target_eq {q p f : Int} (h0 : 0 ≤ p) (h1 : p ≤ 23) (hf0 : 0 ≤ f) (hf1 : f ≤ 3) : impl_Face_target.f q p f = some (rd (permL p) f) := if_pos ⟨h0, h1, hf0, hf1⟩
theorem partner_eq {q p a : Int} (h0 : 0 ≤ p) (h1 : p ≤ 23) : impl_Face_partner.f q p a = some (a, invP p) := by
  unfold impl_Face_partner.f impl_invert.f
  rw [if_pos ⟨h0, h1⟩]; rfl
abbrev Tri := List (List SFace)
/-- No list of t is longer than a million. -/
def Small (t : Tri) : Prop := t.length ≤ 1048576 ∧ ∀ r ∈ t, r.length ≤ 1048576
def SmallL (t : List (List SLawFace)) : Prop := t.length ≤ 1048576 ∧ ∀ r ∈ t, r.length ≤ 1048576
def Fits (t : List (List SLawFace)) : Prop := t.length ≤ 9223372036854775807 ∧ ∀ r ∈ t, r.length ≤ 9223372036854775807
theorem rd_LLawFace_lt (t : List (List SLawFace)) (n : Nat) (h : n < t.length) : rd_LLawFace t (n : Int) = t[n] := by simp [rd_LLawFace, h]
theorem rd_LFace_lt (t : Tri) (n : Nat) (h : n < t.length) : rd_LFace t (n : Int) = t[n] := by simp [rd_LFace, h]
theorem rd_LawFace_lt (t : List SLawFace) (n : Nat) (h : n < t.length) : rd_LawFace t (n : Int) = t[n] := by simp [rd_LawFace, h]
theorem rd_Face_lt (t : List SFace) (n : Nat) (h : n < t.length) : rd_Face t (n : Int) = t[n] := by simp [rd_Face, h]
theorem szFaceS_eq (r : List SLawFace) (a : Int) (h0 : 0 ≤ a) (h1 : a ≤ 1048576) (h : r.length ≤ 9223372036854775807) : laws_szFaceS.f r a = some (if a - r.length < 0 then -1 else a - r.length) := by
  unfold laws_szFaceS.f
  rw [wrap_id (by omega) (by omega)]
  split <;> rfl
theorem szFaceSS_ev (t : List (List SLawFace)) (h : Fits t) (hl : t.length ≤ 1048576) : ∃ r, Ev (fun k => laws_szFaceSS.l0 k t (1048576 - t.length) 0) r ∧ (0 ≤ r → ∀ x ∈ t, x.length ≤ 1048576) := by
  have key : ∀ d n : Nat, ∀ a : Int, n + d = t.length → 0 ≤ a → a ≤ 1048576 → ∃ r, Ev (fun k => laws_szFaceSS.l0 k t a (n : Int)) r ∧ (0 ≤ r → ∀ x ∈ t.drop n, x.length ≤ 1048576) := by
    intro d
    induction d with
    | zero =>
      intro n a hn h0 h1
      refine ⟨a, ev_step (f := fun _ => some a) (fun k => ?_) (Ev.now a), fun _ x hx => ?_⟩
      · simp only [laws_szFaceSS.l0]; rw [if_neg (by omega)]
      · rw [List.drop_eq_nil_of_le (by omega)] at hx; cases hx
    | succ d ih =>
      intro n a hn h0 h1
      have hlt : n < t.length := by omega
      have hf := h.2 t[n] (List.getElem_mem hlt)
      by_cases hc : a - t[n].length < 0
      · refine ⟨-1, ev_step (f := fun _ => some (-1)) (fun k => ?_) (Ev.now (-1)), fun h => by omega⟩
        simp only [laws_szFaceSS.l0]
        rw [if_pos (by omega), if_pos (by omega), rd_LLawFace_lt t n hlt, szFaceS_eq _ a h0 h1 hf, yfy, if_pos hc]
        rfl
      · obtain ⟨r, hr, hr2⟩ := ih (n + 1) (a - t[n].length) (by omega) (by omega) (by omega)
        refine ⟨r, ev_step (fun k => ?_) hr, fun h x hx => ?_⟩
        · simp only [laws_szFaceSS.l0]
          rw [if_pos (by omega), if_pos (by omega), rd_LLawFace_lt t n hlt, szFaceS_eq _ a h0 h1 hf, yfy, if_neg hc, if_neg (by omega), wrap_succ (by omega)]
        · rw [List.drop_eq_getElem_cons hlt] at hx
          rcases List.mem_cons.1 hx with rfl | hx
          · omega
          · exact hr2 h x hx
  obtain ⟨r, hr, hr2⟩ := key t.length 0 (1048576 - t.length) (by omega) (by omega) (by omega)
  exact ⟨r, hr, fun h => by have := hr2 h; rwa [List.drop_zero] at this⟩
theorem szTriangulation_ev (t : List (List SLawFace)) (h : Fits t) : ∃ r, Ev (fun k => laws_szTriangulation.f k t 1048576) r ∧ (¬ r < 0 → SmallL t) := by
  by_cases hl : (1048576 - (t.length : Int)) < 0
  · refine ⟨-1, ?_, fun h => by omega⟩
    refine Ev.bind (a := -1) (ev_const' (fun k => ?_)) (ev_pos (by omega) (Ev.now _))
    unfold laws_szFaceSS.f
    have := h.1
    rw [wrap_id (by omega) (by omega), if_pos hl]
  · obtain ⟨r, hr, hr2⟩ := szFaceSS_ev t h (by omega)
    have h2 : Ev (fun k => laws_szFaceSS.f k t 1048576) r := by
      refine Ev.congr (fun k => ?_) hr
      unfold laws_szFaceSS.f
      rw [wrap_id (by omega) (by omega), if_neg hl]
    by_cases hn : r < 0
    · exact ⟨-1, Ev.bind h2 (ev_pos hn (Ev.now _)), fun h => by omega⟩
    · exact ⟨r, Ev.bind h2 (ev_neg hn (Ev.now _)), fun _ => ⟨by omega, hr2 (by omega)⟩⟩
/-- The copies of the law's values. -/
def cvF (x : SLawFace) : SFace := ⟨x.f0, x.f1⟩
def cvR (r : List SLawFace) : List SFace := r.map cvF
def cvT (t : List (List SLawFace)) : Tri := t.map cvR
theorem cvT_small {t : List (List SLawFace)} (h : SmallL t) : Small (cvT t) := by
  refine ⟨by simp [cvT]; exact h.1, fun r hr => ?_⟩
  obtain ⟨s, hs, rfl⟩ := List.mem_map.1 hr
  simp [cvR]; exact h.2 s hs
theorem map_take_set {α β : Type} (f : α → β) (l : List α) (z : β) (n : Nat) (h : n < l.length) :
    ((l.take n).map f ++ List.replicate (l.length - n) z).set n (f l[n]) = (l.take (n + 1)).map f ++ List.replicate (l.length - (n + 1)) z := by
  have e : l.length - n = (l.length - (n + 1)) + 1 := by omega
  rw [e, List.replicate_succ, List.set_append_right _ _ (by simp; omega)]
  have : n - ((l.take n).map f).length = 0 := by simp; omega
  rw [this, yby, List.take_succ_eq_append_getElem h, List.map_append, List.append_assoc]
  rfl
theorem toFaceS_ev (l : List SLawFace) (h : l.length ≤ 1048576) : Ev (fun k => laws_toFaceS.f k l) (cvR l) := by
  have hl : Ev (fun k => laws_toFaceS.l0 k l (List.replicate l.length zFace) 0) (cvR l) := by
    refine ev_loop0 (fun k (s : List SFace × Int) => laws_toFaceS.l0 k l s.1 s.2) (fun s => ∃ n : Nat, n ≤ l.length ∧ s.2 = n ∧ s.1 = (l.take n).map cvF ++ List.replicate (l.length - n) zFace) (fun s => l.length - s.2.toNat) (fun _ => cvR l) ?_ (List.replicate l.length zFace, 0) ⟨0, by omega, rfl, by simp⟩
    rintro ⟨a, i⟩ ⟨n, hn, rfl, rfl⟩
    dsimp only
    by_cases hlt : n < l.length
    · refine .inr ⟨((l.take (n + 1)).map cvF ++ List.replicate (l.length - (n + 1)) zFace, ((n + 1 : Nat) : Int)), ⟨n + 1, by omega, rfl, rfl⟩, by simp; omega, rfl, fun k => ?_⟩
      simp only [laws_toFaceS.l0, laws_toFace.f, yfy]
      rw [if_pos (by omega), if_pos (by omega), if_pos (by simp; omega), wrap_succ (by omega), Int.toNat_natCast, rd_LawFace_lt l n hlt]
      have := map_take_set cvF l zFace n hlt
      rw [← this]
      rfl
    · obtain rfl : n = l.length := by omega
      refine .inl fun k => ?_
      simp only [laws_toFaceS.l0]
      rw [if_neg (by omega)]
      simp [cvR]
  refine Ev.congr (fun k => ?_) hl
  unfold laws_toFaceS.f
  rw [if_pos (by omega), if_pos (by simp; omega), Int.toNat_natCast]
theorem toFaceSS_ev (l : List (List SLawFace)) (h : SmallL l) : Ev (fun k => laws_toFaceSS.f k l) (cvT l) := by
  have hl : Ev (fun k => laws_toFaceSS.l0 k l (List.replicate l.length []) 0) (cvT l) := by
    refine ev_loop (fun k (s : Tri × Int) => laws_toFaceSS.l0 k l s.1 s.2) (fun s => ∃ n : Nat, n ≤ l.length ∧ s.2 = n ∧ s.1 = (l.take n).map cvR ++ List.replicate (l.length - n) []) (fun s => l.length - s.2.toNat) (fun _ => cvT l) ?_ (List.replicate l.length [], 0) ⟨0, by omega, rfl, by simp⟩
    rintro ⟨a, i⟩ ⟨n, hn, rfl, rfl⟩
    dsimp only
    by_cases hlt : n < l.length
    · obtain ⟨K, hK⟩ := toFaceS_ev l[n] (h.2 _ (List.getElem_mem hlt))
      refine .inr ⟨((l.take (n + 1)).map cvR ++ List.replicate (l.length - (n + 1)) [], ((n + 1 : Nat) : Int)), K, ⟨n + 1, by omega, rfl, rfl⟩, by simp; omega, rfl, fun k hk => ?_⟩
      have e : laws_toFaceS.f k l[n] = some _ := hK k hk
      have h1 := h.1
      simp only [laws_toFaceSS.l0]
      rw [if_pos (by omega), if_pos (by omega), rd_LLawFace_lt l n hlt, e, yfy, if_pos (by simp; omega), wrap_succ (by omega), Int.toNat_natCast, map_take_set cvR l [] n hlt]
    · obtain rfl : n = l.length := by omega
      refine .inl ⟨0, fun k _ => ?_⟩
      simp only [laws_toFaceSS.l0]
      rw [if_neg (by omega)]
      simp [cvT]
  have h1 := h.1
  refine Ev.congr (fun k => ?_) hl
  unfold laws_toFaceSS.f
  rw [if_pos (by omega), if_pos (by simp; omega), Int.toNat_natCast]
theorem toTriangulation_ev (l : List (List SLawFace)) (h : SmallL l) : Ev (fun k => laws_toTriangulation.f k l) (cvT l) := Ev.bind (toFaceSS_ev l h) (Ev.now _)
theorem eqFaceS_ev (l : List SFace) (h : l.length ≤ 1048576) : Ev (fun k => laws_eqFaceS.f k l l) true := by
  have hl : Ev (fun k => laws_eqFaceS.l0 k l l 0) true := by
    refine ev_loop0 (fun k (s : Int) => laws_eqFaceS.l0 k l l s) (fun s => ∃ n : Nat, n ≤ l.length ∧ s = n) (fun s => l.length - s.toNat) (fun _ => true) ?_ 0 ⟨0, by omega, rfl⟩
    rintro i ⟨n, hn, rfl⟩
    by_cases hlt : n < l.length
    · refine .inr ⟨((n + 1 : Nat) : Int), ⟨n + 1, by omega, rfl⟩, by simp; omega, rfl, fun k => ?_⟩
      simp only [laws_eqFaceS.l0, laws_eqFace.f]
      rw [if_pos (by omega), if_pos (by omega), if_pos (by omega), if_pos trivial, if_pos trivial, yfy, if_pos rfl, wrap_succ (by omega)]
    · refine .inl fun k => ?_
      simp only [laws_eqFaceS.l0]
      rw [if_neg (by omega)]
  refine Ev.congr (fun k => ?_) hl
  unfold laws_eqFaceS.f
  rw [if_pos rfl]
theorem eqTriangulation_ev (l : Tri) (h : Small l) : Ev (fun k => laws_eqTriangulation.f k l l) true := by
  have hl : Ev (fun k => laws_eqFaceSS.l0 k l l 0) true := by
    refine ev_loop (fun k (s : Int) => laws_eqFaceSS.l0 k l l s) (fun s => ∃ n : Nat, n ≤ l.length ∧ s = n) (fun s => l.length - s.toNat) (fun _ => true) ?_ 0 ⟨0, by omega, rfl⟩
    rintro i ⟨n, hn, rfl⟩
    by_cases hlt : n < l.length
    · obtain ⟨K, hK⟩ := eqFaceS_ev l[n] (h.2 _ (List.getElem_mem hlt))
      refine .inr ⟨((n + 1 : Nat) : Int), K, ⟨n + 1, by omega, rfl⟩, by simp; omega, rfl, fun k hk => ?_⟩
      have e : laws_eqFaceS.f k l[n] l[n] = some _ := hK k hk
      have h1 := h.1
      simp only [laws_eqFaceSS.l0]
      rw [if_pos (by omega), if_pos (by omega), if_pos (by omega), rd_LFace_lt l n hlt, e, yfy, if_pos rfl, wrap_succ (by omega)]
    · refine .inl ⟨0, fun k _ => ?_⟩
      simp only [laws_eqFaceSS.l0]
      rw [if_neg (by omega)]
  have h2 : Ev (fun k => laws_eqFaceSS.f k l l) true := by
    refine Ev.congr (fun k => ?_) hl
    unfold laws_eqFaceSS.f
    rw [if_pos rfl]
  exact Ev.bind h2 (ev_pos rfl (Ev.now _))
/-- The face f of the tetrahedron a. -/
abbrev fc (t : Tri) (a f : Int) : SFace := rd_Face (rd_LFace t a) f
/-- Is a face as in a valid triangulation? -/
def goodF (t : Tri) (a f : Int) : Bool :=
  if (fc t a f).f0 = -1 then (fc t a f).f1 == 0
  else if 0 ≤ (fc t a f).f0 ∧ (fc t a f).f0 < (t.length : Int) ∧ 0 ≤ (fc t a f).f1 ∧ (fc t a f).f1 ≤ 23 then
    ((fc t (fc t a f).f0 (rd (permL (fc t a f).f1) f)).f0 == a && (fc t (fc t a f).f0 (rd (permL (fc t a f).f1) f)).f1 == invP (fc t a f).f1) && !((fc t a f).f0 == a && rd (permL (fc t a f).f1) f == f)
  else false
/-- d faces of a from f on are good. -/
def goodFs (t : Tri) (a : Int) : Int → Nat → Bool
  | _, 0 => true
  | f, d + 1 => goodF t a f && goodFs t a (f + 1) d
/-- d tetrahedra from a on are good. -/
def goodTs (t : Tri) : Int → Nat → Bool
  | _, 0 => true
  | a, d + 1 => goodFs t a 0 4 && goodTs t (a + 1) d
/-- A valid triangulation. -/
def isTri (t : Tri) : Bool := decide (t.length ≤ 8) && (t.all (fun r => decide (r.length = 4)) && goodTs t 0 t.length)
section
variable {t : Tri}
theorem row4 (h4 : ∀ r ∈ t, r.length = 4) {a : Int} (h0 : 0 ≤ a) (h1 : a < t.length) : (rd_LFace t a).length = 4 := by
  obtain ⟨n, rfl⟩ := Int.eq_ofNat_of_zero_le h0
  rw [rd_LFace_lt t n (by omega)]
  exact h4 _ (List.getElem_mem _)
theorem impl_isGood_ev (h4 : ∀ r ∈ t, r.length = 4) (hn : t.length ≤ 8) {a f : Int} (h0 : 0 ≤ a) (h1 : a < t.length) (hf0 : 0 ≤ f) (hf1 : f ≤ 3) : Ev (fun k => impl_Triangulation_isGood.f k t a f) (goodF t a f) := by
  have hr := row4 h4 h0 h1
  refine Ev.congr (fun k => by unfold impl_Triangulation_isGood.f; rw [if_pos h0, if_pos h1, if_pos hf0, if_pos (by omega)]) ?_
  change Ev (fun k => if (fc t a f).f0 = -1 then some ((fc t a f).f1 == 0) else _) (goodF t a f)
  unfold goodF
  by_cases hb : (fc t a f).f0 = -1
  · rw [if_pos hb]; exact ev_pos hb (Ev.now _)
  · refine ev_neg hb ?_
    rw [if_neg hb]
    have hix : impl_hasIndex_Simpl_Face.f t (fc t a f).f0 = some (decide (0 ≤ (fc t a f).f0) && decide ((fc t a f).f0 ≤ (t.length : Int) - 1)) := by
      unfold impl_hasIndex_Simpl_Face.f impl_size_Simpl_Face.f
      rw [yfy, wrap_id (by omega) (by omega), inRange_eq]; rfl
    have hfalse : Ev (fun k => impl_Triangulation_isGood.j0 k a f true t (fc t a f).f0 (fc t a f).f1) false := ev_step (fun k => by rw [impl_Triangulation_isGood.j0, if_pos rfl]) (Ev.now false)
    refine Ev.bind (ev_const hix) ?_
    by_cases hi : 0 ≤ (fc t a f).f0 ∧ (fc t a f).f0 < (t.length : Int)
    · refine ev_pos (by simp; omega) ?_
      refine Ev.bind (ev_const (isPerm_eq _)) ?_
      by_cases hp : 0 ≤ (fc t a f).f1 ∧ (fc t a f).f1 ≤ 23
      · rw [if_pos ⟨hi.1, hi.2, hp.1, hp.2⟩]
        have e : (!(decide (0 ≤ (fc t a f).f1) && decide ((fc t a f).f1 ≤ 23))) = false := by simp [hp]
        rw [e]
        refine ev_step (fun k => by rw [impl_Triangulation_isGood.j0, if_neg (by simp), target_eq hp.1 hp.2 hf0 hf1, yfy]) ?_
        obtain ⟨hg0, hg1⟩ := permL_sm hp.1 hp.2 hf0 hf1
        have hr2 := row4 h4 hi.1 hi.2
        refine ev_pos hi.1 (ev_pos hi.2 (ev_pos hg0 (ev_pos (by rw [hr2]; omega) ?_)))
        refine Ev.bind (ev_const (partner_eq hp.1 hp.2)) ?_
        change Ev (fun k => if ((fc t (fc t a f).f0 (rd (permL (fc t a f).f1) f)).f0 == a && (fc t (fc t a f).f0 (rd (permL (fc t a f).f1) f)).f1 == invP (fc t a f).f1) = true then _ else _) _
        generalize ((fc t (fc t a f).f0 (rd (permL (fc t a f).f1) f)).f0 == a && (fc t (fc t a f).f0 (rd (permL (fc t a f).f1) f)).f1 == invP (fc t a f).f1) = b
        cases b with
        | false => refine ev_neg (by simp) ?_; rw [Bool.false_and]; exact Ev.now false
        | true =>
          refine ev_pos rfl ?_
          rw [Bool.true_and]
          by_cases ha : (fc t a f).f0 = a
          · refine ev_pos ha (ev_some ?_)
            rw [ha]; simp [bne]
          · refine ev_neg ha (ev_some ?_)
            simp [ha]
      · rw [if_neg (by omega)]
        have e : (!(decide (0 ≤ (fc t a f).f1) && decide ((fc t a f).f1 ≤ 23))) = true := by
          rw [Bool.not_eq_true', Bool.and_eq_false_iff, decide_eq_false_iff_not, decide_eq_false_iff_not]; omega
        rw [e]
        exact hfalse
    · rw [if_neg (by omega)]
      refine ev_neg ?_ hfalse
      rw [Bool.and_eq_true, decide_eq_true_eq, decide_eq_true_eq]; omega
theorem impl_l1_ev (h4 : ∀ r ∈ t, r.length = 4) (hn : t.length ≤ 8) {a : Int} (h0 : 0 ≤ a) (h1 : a < t.length) {R : Bool} (hR : Ev (fun k => impl_isTriangulation.l0 k (t.length : Int) (a + 1) t) R) :
    ∀ (d : Nat) (f : Int), 0 ≤ f → f + d = 4 → Ev (fun k => impl_isTriangulation.l1 k a (t.length : Int) a f t) (goodFs t a f d && R)
  | 0, f, hf, he => by
    refine ev_step (fun k => by rw [impl_isTriangulation.l1, if_neg (by omega), wrap_id (by omega) (by omega)]) ?_
    rw [goodFs, Bool.true_and]; exact hR
  | d + 1, f, hf, he => by
    refine ev_step (fun k => by rw [impl_isTriangulation.l1, if_pos (by omega)]) ?_
    refine Ev.bind (impl_isGood_ev h4 hn h0 h1 hf (by omega)) ?_
    rw [goodFs]
    cases hg : goodF t a f with
    | false => exact ev_neg (by simp) (by rw [Bool.false_and, Bool.false_and]; exact Ev.now false)
    | true =>
      refine ev_pos rfl ?_
      rw [Bool.true_and]
      exact Ev.congr (fun k => by rw [wrap_id (by omega) (by omega)]) (impl_l1_ev h4 hn h0 h1 hR d (f + 1) (by omega) (by omega))
theorem impl_l0_ev (h4 : ∀ r ∈ t, r.length = 4) (hn : t.length ≤ 8) : ∀ (d : Nat) (a : Int), 0 ≤ a → a + d = t.length → Ev (fun k => impl_isTriangulation.l0 k (t.length : Int) a t) (goodTs t a d)
  | 0, a, ha, he => by
    refine ev_step (fun k => by rw [impl_isTriangulation.l0, if_neg (by omega)]) ?_
    exact Ev.now true
  | d + 1, a, ha, he => by
    refine ev_step (fun k => by rw [impl_isTriangulation.l0, if_pos (by omega)]) ?_
    rw [goodTs]
    exact impl_l1_ev h4 hn ha (by omega) (impl_l0_ev h4 hn d (a + 1) (by omega) (by omega)) 4 0 (by omega) (by omega)
theorem all4_iff : t.all (fun r => decide (r.length = 4)) = true ↔ ∀ r ∈ t, r.length = 4 := by simp
theorem contains4 (h : Small t) : slices_ContainsFunc_SSimpl_Face_at_impl_isTriangulation_1.f t = some (!(t.all fun r => decide (r.length = 4))) := by
  unfold slices_ContainsFunc_SSimpl_Face_at_impl_isTriangulation_1.f slices_IndexFunc_SSimpl_Face_at_impl_isTriangulation_1.f
  rw [contO (p := fun r => !(decide (r.length = 4))) t (fun r _ => by
    show impl_isTriangulation_1.f r = _
    unfold impl_isTriangulation_1.f
    congr 1
    by_cases h : r.length = 4
    · simp [h]
    · have : ¬ ((r.length : Int) = 4) := by omega
      simp [h, this]), List.not_all_eq_any_not]
theorem impl_isTri_ev (h : Small t) : Ev (fun k => impl_isTriangulation.f k t) (isTri t) := by
  have hfalse : Ev (fun k => impl_isTriangulation.j0 k true t) false := ev_step (fun k => by rw [impl_isTriangulation.j0, if_pos rfl]) (Ev.now false)
  unfold isTri
  by_cases h8 : t.length ≤ 8
  · refine Ev.congr (fun k => by unfold impl_isTriangulation.f; rw [if_neg (by omega), contains4 h, yfy]) ?_
    rw [ygy h8, Bool.true_and]
    cases hall : t.all (fun r => decide (r.length = 4)) with
    | false => rw [Bool.false_and]; exact hfalse
    | true =>
      rw [Bool.true_and]
      refine ev_step (fun k => by rw [impl_isTriangulation.j0, if_neg (by simp)]) ?_
      exact impl_l0_ev (all4_iff.1 hall) h8 t.length 0 (by omega) (by omega)
  · refine Ev.congr (fun k => by unfold impl_isTriangulation.f; rw [if_pos (by omega)]) ?_
    rw [yhy h8, Bool.false_and]; exact hfalse
theorem spec_l2_ev (h4 : ∀ r ∈ t, r.length = 4) (hn : t.length ≤ 8) {a : Int} (h0 : 0 ≤ a) (h1 : a < t.length) {R : Bool} (hR : Ev (fun k => spec_IsTriangulation.l1 k (a + 1) t) R) :
    ∀ (d : Nat) (f : Int), 0 ≤ f → f + d = 4 → Ev (fun k => spec_IsTriangulation.l2 k a f t) (goodFs t a f d && R)
  | 0, f, hf, he => by
    refine ev_step (fun k => by rw [spec_IsTriangulation.l2, if_neg (by omega), wrap_id (by omega) (by omega)]) ?_
    rw [goodFs, Bool.true_and]; exact hR
  | d + 1, f, hf, he => by
    have hr := row4 h4 h0 h1
    have ih : Ev (fun k => spec_IsTriangulation.l2 k a (wrap64 (f + 1)) t) (goodFs t a (f + 1) d && R) := Ev.congr (fun k => by rw [wrap_id (by omega) (by omega)]) (spec_l2_ev h4 hn h0 h1 hR d (f + 1) (by omega) (by omega))
    refine ev_step (fun k => by rw [spec_IsTriangulation.l2, if_pos (by omega), if_pos h0, if_pos h1, if_pos hf, if_pos (by omega)]) ?_
    change Ev (fun k => if (fc t a f).f0 = -1 then spec_IsTriangulation.j3 k a f ((fc t a f).f1 == 0) t (fc t a f).f0 (fc t a f).f1 else spec_IsTriangulation.j3 k a f false t (fc t a f).f0 (fc t a f).f1) _
    rw [goodFs]
    have hstop : ∀ b, Ev (fun k => spec_IsTriangulation.j4 k a f true t (fc t a f).f0 (fc t a f).f1) (false && b) := fun b => by
      rw [Bool.false_and]; exact ev_step (fun k => by rw [spec_IsTriangulation.j4, if_pos rfl]) (Ev.now false)
    have hgo : Ev (fun k => spec_IsTriangulation.j3 k a f true t (fc t a f).f0 (fc t a f).f1) (goodFs t a (f + 1) d && R) := ev_step (fun k => by rw [spec_IsTriangulation.j3, if_pos rfl]) ih
    have hrest : (¬ ((fc t a f).f0 = -1 ∧ (fc t a f).f1 = 0)) → Ev (fun k => spec_IsTriangulation.j3 k a f false t (fc t a f).f0 (fc t a f).f1) (goodF t a f && goodFs t a (f + 1) d && R) := by
      intro hnb
      refine ev_step (fun k => by rw [spec_IsTriangulation.j3, spec_l07Tets.f, if_neg (by simp), yfy, l07In_eq, yfy, wrap_id (by omega) (by omega)]) ?_
      unfold goodF
      by_cases hi : 0 ≤ (fc t a f).f0 ∧ (fc t a f).f0 < (t.length : Int)
      · refine ev_pos (by simp; omega) ?_
        refine Ev.bind (ev_const (l06Valid_eq _)) ?_
        rw [if_neg (by omega)]
        by_cases hp : 0 ≤ (fc t a f).f1 ∧ (fc t a f).f1 ≤ 23
        · rw [if_pos ⟨hi.1, hi.2, hp.1, hp.2⟩]
          have e : (!(decide (0 ≤ (fc t a f).f1) && decide ((fc t a f).f1 ≤ 23))) = false := by simp [hp]
          rw [e]
          obtain ⟨hg0, hg1⟩ := permL_sm hp.1 hp.2 hf (by omega)
          have hr2 := row4 h4 hi.1 hi.2
          refine ev_step (fun k => by rw [spec_IsTriangulation.j4, if_neg (by simp)]) ?_
          refine Ev.bind (l06At_ev hp.1 hp.2 hf (by omega)) ?_
          refine Ev.bind (l06Back_ev hp.1 hp.2) ?_
          refine ev_pos hi.1 (ev_pos hi.2 (ev_pos hg0 (ev_pos (by rw [hr2]; omega) ?_)))
          change Ev (fun k => if (!((fc t (fc t a f).f0 (rd (permL (fc t a f).f1) f)).f0 == a) || !((fc t (fc t a f).f0 (rd (permL (fc t a f).f1) f)).f1 == invP (fc t a f).f1)) = true then _ else _) _
          generalize ((fc t (fc t a f).f0 (rd (permL (fc t a f).f1) f)).f0 == a) = b1
          generalize ((fc t (fc t a f).f0 (rd (permL (fc t a f).f1) f)).f1 == invP (fc t a f).f1) = b2
          cases b1 with
          | false => exact ev_pos rfl (by rw [Bool.false_and, Bool.false_and, Bool.false_and, Bool.false_and]; exact Ev.now false)
          | true =>
            cases b2 with
            | false => exact ev_pos rfl (by rw [Bool.true_and, Bool.false_and, Bool.false_and, Bool.false_and]; exact Ev.now false)
            | true =>
              refine ev_neg (by simp) ?_
              rw [Bool.true_and, Bool.true_and]
              by_cases ha : (fc t a f).f0 = a
              · refine ev_pos ha ?_
                by_cases hg : rd (permL (fc t a f).f1) f = f
                · refine ev_pos hg ?_
                  rw [ha, hg]
                  simp
                  exact Ev.now false
                · refine ev_neg hg ?_
                  have : (rd (permL (fc t a f).f1) f == f) = false := by simp [hg]
                  rw [this, Bool.and_false, Bool.not_false, Bool.true_and]
                  exact ih
              · refine ev_neg ha ?_
                have : ((fc t a f).f0 == a) = false := by simp [ha]
                rw [this, Bool.false_and, Bool.not_false, Bool.true_and]
                exact ih
        · rw [if_neg (by omega)]
          have e : (!(decide (0 ≤ (fc t a f).f1) && decide ((fc t a f).f1 ≤ 23))) = true := by
            rw [Bool.not_eq_true', Bool.and_eq_false_iff, decide_eq_false_iff_not, decide_eq_false_iff_not]; omega
          rw [e, Bool.false_and]
          exact hstop R
      · have hg : (if (fc t a f).f0 = -1 then ((fc t a f).f1 == 0) else if 0 ≤ (fc t a f).f0 ∧ (fc t a f).f0 < (t.length : Int) ∧ 0 ≤ (fc t a f).f1 ∧ (fc t a f).f1 ≤ 23 then
            ((fc t (fc t a f).f0 (rd (permL (fc t a f).f1) f)).f0 == a && (fc t (fc t a f).f0 (rd (permL (fc t a f).f1) f)).f1 == invP (fc t a f).f1) && !((fc t a f).f0 == a && rd (permL (fc t a f).f1) f == f) else false) = false := by
          by_cases hb : (fc t a f).f0 = -1
          · rw [if_pos hb]; simp; intro h; exact hnb ⟨hb, h⟩
          · rw [if_neg hb, if_neg (by omega)]
        rw [hg, Bool.false_and]
        refine ev_neg ?_ (hstop R)
        rw [Bool.and_eq_true, decide_eq_true_eq, decide_eq_true_eq]; omega
    by_cases hb : (fc t a f).f0 = -1
    · refine ev_pos hb ?_
      by_cases h0' : (fc t a f).f1 = 0
      · have e : goodF t a f = true := by unfold goodF; rw [if_pos hb]; simp [h0']
        rw [e, Bool.true_and]
        have e2 : ((fc t a f).f1 == 0) = true := by simp [h0']
        rw [e2]; exact hgo
      · have e2 : ((fc t a f).f1 == 0) = false := by simp [h0']
        rw [e2]; exact hrest (fun h => h0' h.2)
    · exact ev_neg hb (hrest (fun h => hb h.1))
theorem spec_l1_ev (h4 : ∀ r ∈ t, r.length = 4) (hn : t.length ≤ 8) : ∀ (d : Nat) (a : Int), 0 ≤ a → a + d = t.length → Ev (fun k => spec_IsTriangulation.l1 k a t) (goodTs t a d)
  | 0, a, ha, he => by
    refine ev_step (fun k => by rw [spec_IsTriangulation.l1, spec_l07Tets.f, yfy, if_neg (by omega)]) ?_
    exact Ev.now true
  | d + 1, a, ha, he => by
    refine ev_step (fun k => by rw [spec_IsTriangulation.l1, spec_l07Tets.f, yfy, if_pos (by omega)]) ?_
    rw [goodTs]
    exact spec_l2_ev h4 hn ha (by omega) (spec_l1_ev h4 hn d (a + 1) (by omega) (by omega)) 4 0 (by omega) (by omega)
theorem spec_l0_ev (h8 : t.length ≤ 8) (d : Nat) : ∀ n : Nat, n + d = t.length → (t.all (fun r => decide (r.length = 4)) = (t.drop n).all (fun r => decide (r.length = 4))) → Ev (fun k => spec_IsTriangulation.l0 k (n : Int) t) (t.all (fun r => decide (r.length = 4)) && goodTs t 0 t.length) := by
  induction d with
  | zero =>
    intro n hn ha
    refine ev_step (fun k => by rw [spec_IsTriangulation.l0, if_neg (by omega)]) ?_
    have hall : t.all (fun r => decide (r.length = 4)) = true := by rw [ha, List.drop_eq_nil_of_le (by omega)]; rfl
    rw [hall, Bool.true_and]
    exact spec_l1_ev (all4_iff.1 hall) h8 t.length 0 (by omega) (by omega)
  | succ d ih =>
    intro n hn ha
    have hlt : n < t.length := by omega
    refine ev_step (fun k => by rw [spec_IsTriangulation.l0, if_pos (by omega), if_pos (by omega), rd_LFace_lt t n hlt]) ?_
    rw [List.drop_eq_getElem_cons hlt, List.all_cons] at ha
    by_cases h : t[n].length = 4
    · refine ev_pos (by omega) ?_
      refine Ev.congr (fun k => by rw [wrap_succ (by omega)]) (ih (n + 1) (by omega) ?_)
      rw [ha, ygy h, Bool.true_and]
    · refine ev_neg (by omega) ?_
      rw [ha, yhy h, Bool.false_and, Bool.false_and]
      exact Ev.now false
theorem spec_isTri_ev (t : Tri) : Ev (fun k => spec_IsTriangulation.f k t) (isTri t) := by
  refine Ev.congr (fun k => by unfold spec_IsTriangulation.f spec_l07Tets.f; rw [yfy]) ?_
  unfold isTri
  by_cases h8 : t.length ≤ 8
  · refine ev_neg (by omega) ?_
    rw [ygy h8, Bool.true_and]
    exact spec_l0_ev h8 t.length 0 (by omega) (by rw [List.drop_zero])
  · refine ev_pos (by omega) ?_
    rw [yhy h8, Bool.false_and]
    exact Ev.now false
end
theorem isTri_good {t : Tri} (h : isTri t = true) : t.length ≤ 8 ∧ (∀ r ∈ t, r.length = 4) ∧ goodTs t 0 t.length = true := by
  unfold isTri at h
  rw [Bool.and_eq_true, Bool.and_eq_true, decide_eq_true_eq] at h
  exact ⟨h.1, all4_iff.1 h.2.1, h.2.2⟩
theorem goodFs_at (t : Tri) (a : Int) (d : Nat) : ∀ f, goodFs t a f d = true → ∀ g, f ≤ g → g < f + d → goodF t a g = true := by
  induction d with
  | zero => intro f _ g h1 h2; omega
  | succ d ih =>
    intro f h g h1 h2
    rw [goodFs, Bool.and_eq_true] at h
    by_cases e : g = f
    · rw [e]; exact h.1
    · exact ih (f + 1) h.2 g (by omega) (by omega)
theorem goodTs_at (t : Tri) (d : Nat) : ∀ a, goodTs t a d = true → ∀ b, a ≤ b → b < a + d → ∀ g, 0 ≤ g → g ≤ 3 → goodF t b g = true := by
  induction d with
  | zero => intro a _ b h1 h2; omega
  | succ d ih =>
    intro a h b h1 h2 g hg0 hg1
    rw [goodTs, Bool.and_eq_true] at h
    by_cases e : b = a
    · rw [e]; exact goodFs_at t a 4 0 h.1 g hg0 (by omega)
    · exact ih (a + 1) h.2 b (by omega) (by omega) g hg0 hg1
/-- A face of a valid triangulation: the boundary, or glued to a face that is glued back. -/
theorem face_good {t : Tri} (h : isTri t = true) {a f : Int} (h0 : 0 ≤ a) (h1 : a < t.length) (hf0 : 0 ≤ f) (hf1 : f ≤ 3) :
    ((fc t a f).f0 = -1 ∧ (fc t a f).f1 = 0) ∨
    ((0 ≤ (fc t a f).f0 ∧ (fc t a f).f0 < (t.length : Int) ∧ 0 ≤ (fc t a f).f1 ∧ (fc t a f).f1 ≤ 23) ∧
      (fc t (fc t a f).f0 (rd (permL (fc t a f).f1) f)).f0 = a ∧ (fc t (fc t a f).f0 (rd (permL (fc t a f).f1) f)).f1 = invP (fc t a f).f1 ∧ ¬ ((fc t a f).f0 = a ∧ rd (permL (fc t a f).f1) f = f)) := by
  have hg := goodTs_at t t.length 0 (isTri_good h).2.2 a h0 (by omega) f hf0 hf1
  unfold goodF at hg
  by_cases hb : (fc t a f).f0 = -1
  · rw [if_pos hb] at hg
    exact .inl ⟨hb, by simpa using hg⟩
  · rw [if_neg hb] at hg
    by_cases hi : 0 ≤ (fc t a f).f0 ∧ (fc t a f).f0 < (t.length : Int) ∧ 0 ≤ (fc t a f).f1 ∧ (fc t a f).f1 ≤ 23
    · rw [if_pos hi, Bool.and_eq_true, Bool.and_eq_true, Bool.not_eq_true'] at hg
      refine .inr ⟨hi, eq_of_beq hg.1.1, eq_of_beq hg.1.2, fun hc => ?_⟩
      have := hg.2
      rw [Bool.and_eq_false_iff] at this
      rcases this with h2 | h2
      · exact absurd hc.1 (by simpa using h2)
      · exact absurd hc.2 (by simpa using h2)
    · rw [if_neg hi] at hg; cases hg
theorem isTri_small {t : Tri} (h : isTri t = true) : Small t := ⟨by have := (isTri_good h).1; omega, fun r hr => by have := (isTri_good h).2.1 r hr; omega⟩
theorem impl_copy_ev {t : Tri} (hs : Small t) : Ev (fun k => impl_copyTriangulation.f k t) t := by
  refine ev_loop0 (fun k (s : Int × Tri) => impl_copyTriangulation.l0 k t (t.length : Int) s.1 s.2) (fun s => ∃ n : Nat, n ≤ t.length ∧ s.1 = n ∧ s.2 = t.take n) (fun s => t.length - s.1.toNat) (fun _ => t) ?_ (0, []) ⟨0, by omega, rfl, by simp⟩
  rintro ⟨i, acc⟩ ⟨n, hn, rfl, rfl⟩
  dsimp only
  have hl := hs.1
  by_cases hlt : n < t.length
  · have hr := hs.2 t[n] (List.getElem_mem hlt)
    refine .inr ⟨(((n + 1 : Nat) : Int), t.take (n + 1)), ⟨n + 1, by omega, rfl, rfl⟩, by simp; omega, rfl, fun k => ?_⟩
    simp only [impl_copyTriangulation.l0]
    rw [if_pos (by omega), if_pos (by omega), if_pos (by omega), rd_LFace_lt t n hlt, slices_Clone_Simpl_Face.f, if_pos (by omega), yfy, if_pos (by simp; omega), wrap_succ (by omega), List.take_succ_eq_append_getElem hlt]
  · obtain rfl : n = t.length := by omega
    refine .inl fun k => ?_
    simp only [impl_copyTriangulation.l0]
    rw [if_neg (by omega), List.take_length]
theorem dc_sgn {p : Int} (h0 : 0 ≤ p) (h1 : p ≤ 23) : sgnP p = 1 ∨ sgnP p = -1 := by
  obtain ⟨m, rfl⟩ := fin_of h0 h1
  have key : ∀ m : Fin 24, sgnP (m.val : Int) = 1 ∨ sgnP (m.val : Int) = -1 := by decide +kernel
  exact key m
theorem dc_sign_ev {p : Int} (h0 : 0 ≤ p) (h1 : p ≤ 23) : Ev (fun k => spec_SignPerm4.f k p) (sgnP p) := by
  obtain ⟨m, rfl⟩ := fin_of h0 h1
  have key : ∀ m : Fin 24, spec_SignPerm4.f 40 (m.val : Int) = some (sgnP (m.val : Int)) := by decide +kernel
  exact Ev.of (fun k => spec_SignPerm4.mono _ k) (key m)
theorem dc_faces {t : Tri} (h : isTri t = true) : ∀ r ∈ t, ∀ x ∈ r, (x = ⟨-1, 0⟩) ∨ ((0 ≤ x.f0 ∧ x.f0 < (t.length : Int)) ∧ 0 ≤ x.f1 ∧ x.f1 ≤ 23) := by
  obtain ⟨h8, h4, _⟩ := isTri_good h
  intro r hr x hx
  obtain ⟨i, hi, rfl⟩ := List.getElem_of_mem hr
  obtain ⟨j, hj, rfl⟩ := List.getElem_of_mem hx
  have hj4 := h4 _ (List.getElem_mem hi)
  have e : fc t (i : Int) (j : Int) = t[i][j] := by show rd_Face (rd_LFace t (i : Int)) (j : Int) = _; rw [rd_LFace_lt t i hi, rd_Face_lt _ j hj]
  rcases face_good h (a := (i : Int)) (f := (j : Int)) (by omega) (by omega) (by omega) (by omega) with ⟨e1, e2⟩ | ⟨e1, _⟩
  · rw [e] at e1 e2
    refine .inl ?_
    cases hq : t[i][j] with
    | mk a b => rw [hq] at e1 e2; rw [show a = -1 from e1, show b = 0 from e2]
  · rw [e] at e1; exact .inr ⟨⟨e1.1, e1.2.1⟩, e1.2.2⟩
theorem dcOk_of {t : Tri} (h : isTri t = true) : dcOk t t = true := by
  obtain ⟨h8, h4, _⟩ := isTri_good h
  unfold dcOk
  simp only [Bool.and_eq_true, decide_eq_true_eq, List.all_eq_true]
  refine ⟨fun r hr => ⟨h4 r hr, fun x hx => ?_⟩, trivial⟩
  rcases dc_faces h r hr x hx with e | ⟨⟨e1, e2⟩, e3, e4⟩
  · subst e; decide
  · exact ⟨⟨⟨by omega, by omega⟩, e3⟩, e4⟩
def cover (t : Tri) : Tri × Int := if isTri t = true then (if 2 * (t.length : Int) > 8 then ([], 3) else (dcAcc t (t.length : Int) 2, 0)) else ([], 1)
theorem dcAcc_two (t : Tri) (n : Int) : dcAcc t n 2 = t.map (List.map (dcF n 0)) ++ t.map (List.map (dcF n 1)) := by
  show ([] ++ t.map (List.map (dcF n 0))) ++ t.map (List.map (dcF n 1)) = _
  rw [List.nil_append]
theorem cover_small (t : Tri) : Small (cover t).1 := by
  unfold cover
  by_cases h : isTri t = true
  · obtain ⟨h8, h4, _⟩ := isTri_good h
    rw [if_pos h]
    split
    · exact ⟨by simp, fun r hr => by cases hr⟩
    · refine ⟨by show (dcAcc t _ 2).length ≤ _; rw [dcAcc_two]; simp; omega, fun r hr => ?_⟩
      have hr2 : r ∈ dcAcc t (t.length : Int) 2 := hr
      rw [dcAcc_two] at hr2
      rcases List.mem_append.1 hr2 with h2 | h2 <;> (obtain ⟨q, hq, rfl⟩ := List.mem_map.1 h2; rw [List.length_map]; have := h4 q hq; omega)
  · rw [if_neg h]; exact ⟨by simp, fun r hr => by cases hr⟩
theorem impl_cover_ev {t : Tri} (hs : Small t) : Ev (fun k => impl_DoubleCover.f k t) (cover t) := by
  refine Ev.bind (impl_isTri_ev hs) ?_
  unfold cover
  cases h : isTri t with
  | false => exact ev_neg (by simp) (Ev.now _)
  | true =>
    obtain ⟨h8, h4, _⟩ := isTri_good h
    rw [if_pos rfl]
    refine ev_pos rfl (ev_pos (by omega) ?_)
    by_cases hb : 2 * (t.length : Int) > 8
    · rw [if_pos hb]; exact ev_pos hb (Ev.now _)
    · rw [if_neg hb]; exact ev_neg hb (Ev.bind (impl_copy_ev (isTri_small h)) (ev_pos (dcOk_of h) (Ev.now _)))
theorem tq {n a : Nat} (hn : n ≤ 4) (ha : a < 2 * n) : Int.tmod (a : Int) (n : Int) = ((if a < n then a else a - n : Nat) : Int) ∧ Int.tdiv (a : Int) (n : Int) = ((if a < n then 0 else 1 : Nat) : Int) := by
  have key : ∀ (m : Fin 5) (b : Fin 8), b.val < 2 * m.val → Int.tmod (b.val : Int) (m.val : Int) = ((if b.val < m.val then b.val else b.val - m.val : Nat) : Int) ∧ Int.tdiv (b.val : Int) (m.val : Int) = ((if b.val < m.val then 0 else 1 : Nat) : Int) := by decide +kernel
  exact key ⟨n, by omega⟩ ⟨a, by omega⟩ ha
/-- The reference's row after f faces. -/
def rowS (n : Int) (s : Nat) (r : List SFace) (f : Nat) : List SFace := (r.take f).map (dcF n s) ++ List.replicate (4 - f) ⟨-1, 0⟩
theorem rowS_length (n : Int) (s : Nat) (r : List SFace) (f : Nat) (hr : r.length = 4) (hf : f ≤ 4) : (rowS n s r f).length = 4 := by
  unfold rowS; simp; omega
theorem rowS_set (n : Int) (s : Nat) (r : List SFace) (f : Nat) (hr : r.length = 4) (hf : f < 4) : (rowS n s r f).set f (dcF n s (r[f]'(by omega))) = rowS n s r (f + 1) := by
  unfold rowS
  have e : f - ((r.take f).map (dcF n s)).length = 0 := by simp; omega
  rw [List.set_append_right _ _ (by simp; omega), e, show 4 - f = (4 - (f + 1)) + 1 by omega, List.replicate_succ, yby, List.take_succ_eq_append_getElem (by omega), List.map_append, List.append_assoc]
  rfl
theorem rowS_same (n : Int) (s : Nat) (r : List SFace) (f : Nat) (hr : r.length = 4) (hf : f < 4) (hx : r[f]'(by omega) = ⟨-1, 0⟩) : rowS n s r (f + 1) = rowS n s r f := by
  unfold rowS
  have e2 : dcF n s (⟨-1, 0⟩ : SFace) = ⟨-1, 0⟩ := by unfold dcF; rfl
  rw [show 4 - f = (4 - (f + 1)) + 1 by omega, List.replicate_succ, List.take_succ_eq_append_getElem (by omega), hx, List.map_append, List.append_assoc, yjy, e2]
  rfl
theorem dcF_up {n : Int} {s : Nat} {x : SFace} (h : ¬ x.f0 < 0) (hb : dcB s x = true) : dcF n s x = ⟨x.f0 + n, x.f1⟩ := by unfold dcF; rw [if_neg h, if_pos hb]
theorem dcF_id {n : Int} {s : Nat} {x : SFace} (h : ¬ x.f0 < 0) (hb : dcB s x = false) : dcF n s x = x := by unfold dcF; rw [if_neg h, if_neg (by rw [hb]; decide)]
theorem dcB_ev {s : Nat} {x : SFace} (hs : s ≤ 1) (h2 : 0 ≤ x.f1) (h3 : x.f1 ≤ 23) : (sgnP x.f1 = 1 ∧ dcB s x = decide (s = 0)) ∨ (sgnP x.f1 = -1 ∧ dcB s x = decide (s = 1)) := by
  rcases dc_sgn h2 h3 with sg | sg
  · refine .inl ⟨sg, ?_⟩; unfold dcB; rw [sg]
    rcases (show s = 0 ∨ s = 1 by omega) with rfl | rfl <;> decide
  · refine .inr ⟨sg, ?_⟩; unfold dcB; rw [sg]
    rcases (show s = 0 ∨ s = 1 by omega) with rfl | rfl <;> decide
theorem dc_w1 {n y : Int} (s : Nat) (hn0 : 0 ≤ n) (hn : n ≤ 4) (hs : s ≤ 1) (y0 : 0 ≤ y) (y1 : y < n) : wrap64 (y + wrap64 (n * wrap64 (1 - wrap64 (s : Int)))) = if s = 0 then y + n else y := by
  rcases (show s = 0 ∨ s = 1 by omega) with rfl | rfl
  · rw [if_pos rfl, show wrap64 (1 - wrap64 ((0 : Nat) : Int)) = 1 by decide +kernel, Int.mul_one, wrap_id (x := n) (by omega) (by omega), wrap_id (by omega) (by omega)]
  · rw [if_neg (by decide), show wrap64 (1 - wrap64 ((1 : Nat) : Int)) = 0 by decide +kernel, Int.mul_zero, wrap_id (x := 0) (by omega) (by omega), Int.add_zero, wrap_id (by omega) (by omega)]
theorem dc_w2 {n y : Int} (s : Nat) (hn0 : 0 ≤ n) (hn : n ≤ 4) (hs : s ≤ 1) (y0 : 0 ≤ y) (y1 : y < n) : wrap64 (y + wrap64 (n * wrap64 (s : Int))) = if s = 1 then y + n else y := by
  rcases (show s = 0 ∨ s = 1 by omega) with rfl | rfl
  · rw [if_neg (by decide), show wrap64 ((0 : Nat) : Int) = 0 by decide +kernel, Int.mul_zero, wrap_id (x := 0) (by omega) (by omega), Int.add_zero, wrap_id (by omega) (by omega)]
  · rw [if_pos rfl, show wrap64 ((1 : Nat) : Int) = 1 by decide +kernel, Int.mul_one, wrap_id (x := n) (by omega) (by omega), wrap_id (by omega) (by omega)]
theorem dc_step {t acc : Tri} {row : List SFace} {a i s f : Nat} {x : SFace} {R : Tri × Int} (hi : i < t.length) (hm : Int.tmod (a : Int) (t.length : Int) = (i : Int)) (hd : Int.tdiv (a : Int) (t.length : Int) = (s : Int)) (hn : t.length ≤ 4) (hs : s ≤ 1) (hr : t[i].length = 4) (hf : f < 4) (hxe : t[i][f] = x)
    (hx : (x = ⟨-1, 0⟩) ∨ ((0 ≤ x.f0 ∧ x.f0 < (t.length : Int)) ∧ 0 ≤ x.f1 ∧ x.f1 ≤ 23)) (hrow : row.length = 4)
    (hE : Ev (fun k => spec_DoubleCover.l1 k (t.length : Int) (a : Int) (if x.f0 < 0 then row else row.set f (dcF (t.length : Int) s x)) ((f + 1 : Nat) : Int) t acc) R) :
    Ev (fun k => spec_DoubleCover.l1 k (t.length : Int) (a : Int) row (f : Int) t acc) R := by
  have hlf : f < t[i].length := by omega
  have ef : rd_Face (rd_LFace t (i : Int)) (f : Int) = x := by rw [rd_LFace_lt t i hi, rd_Face_lt _ f hlf]; exact hxe
  have el : (rd_LFace t (i : Int)).length = 4 := by rw [rd_LFace_lt t i hi]; exact hr
  have c1 : (f : Int) < 4 := by omega
  have c2 : ¬ (t.length : Int) = 0 := by omega
  have c3 : (0 : Int) ≤ (i : Int) := by omega
  have c4 : (i : Int) < (t.length : Int) := by omega
  have c5 : (0 : Int) ≤ (f : Int) := by omega
  have c6 : (f : Int) < ((rd_LFace t (i : Int)).length : Int) := by rw [el]; exact c1
  have c7 : (f : Int) < (row.length : Int) := by rw [hrow]; exact c1
  have hw : wrap64 ((f : Int) + 1) = ((f + 1 : Nat) : Int) := wrap_succ (by omega)
  refine ev_step (fun k => by rw [spec_DoubleCover.l1, if_pos c1, if_neg c2, hm, hd, if_pos c3, if_pos c4, if_pos c5, if_pos c6, ef, hw]) ?_
  by_cases hx0 : x.f0 < 0
  · rw [if_pos hx0] at hE; exact ev_pos hx0 hE
  · rw [if_neg hx0] at hE
    rcases hx with e | ⟨⟨x0, x1⟩, x2, x3⟩
    · exact absurd (by rw [e]; decide) hx0
    · have hl0 : (0 : Int) ≤ (t.length : Int) := by omega
      have hl4 : (t.length : Int) ≤ 4 := by omega
      refine ev_neg hx0 (Ev.bind (dc_sign_ev x2 x3) ?_)
      rcases dcB_ev hs x2 x3 with ⟨sg, hb⟩ | ⟨sg, hb⟩
      · refine ev_pos sg (ev_pos c7 ?_)
        rw [Int.toNat_natCast, dc_w1 s hl0 hl4 hs x0 x1]
        by_cases h0 : s = 0
        · rw [if_pos h0]; rw [dcF_up hx0 (by rw [hb]; exact ygy h0)] at hE; exact hE
        · rw [if_neg h0]; rw [dcF_id hx0 (by rw [hb]; exact yhy h0)] at hE; exact hE
      · refine ev_neg (by rw [sg]; decide) (ev_pos c7 ?_)
        rw [Int.toNat_natCast, dc_w2 s hl0 hl4 hs x0 x1]
        by_cases h0 : s = 1
        · rw [if_pos h0]; rw [dcF_up hx0 (by rw [hb]; exact ygy h0)] at hE; exact hE
        · rw [if_neg h0]; rw [dcF_id hx0 (by rw [hb]; exact yhy h0)] at hE; exact hE
section
variable {t : Tri}
theorem spec_dc_l1 (h : isTri t = true) (hn : t.length ≤ 4) {a i s : Nat} (ha : a < 2 * t.length) (hi : i < t.length) (hm : Int.tmod (a : Int) (t.length : Int) = (i : Int)) (hd : Int.tdiv (a : Int) (t.length : Int) = (s : Int)) (hs : s ≤ 1) (acc : Tri) (R : Tri × Int)
    (hR : Ev (fun k => spec_DoubleCover.l1 k (t.length : Int) (a : Int) (rowS (t.length : Int) s t[i] 4) 4 t acc) R) :
    ∀ d f : Nat, f + d = 4 → Ev (fun k => spec_DoubleCover.l1 k (t.length : Int) (a : Int) (rowS (t.length : Int) s t[i] f) (f : Int) t acc) R := by
  obtain ⟨h8, h4, _⟩ := isTri_good h
  have hr := h4 t[i] (List.getElem_mem hi)
  intro d
  induction d with
  | zero => intro f hf; obtain rfl : f = 4 := by omega
            exact hR
  | succ d ih =>
    intro f hf
    have hlf : f < t[i].length := by omega
    obtain ⟨x, hxe⟩ : ∃ x, t[i][f] = x := ⟨_, rfl⟩
    have hx := dc_faces h t[i] (List.getElem_mem hi) t[i][f] (List.getElem_mem hlf)
    have ih' := ih (f + 1) (by omega)
    have hsame := rowS_same (t.length : Int) s t[i] f hr (by omega)
    have hset := rowS_set (t.length : Int) s t[i] f hr (by omega)
    rw [hxe] at hx hsame hset
    refine dc_step hi hm hd (by omega) hs hr (by omega) hxe hx (rowS_length (t.length : Int) s t[i] f hr (by omega)) ?_
    by_cases hx0 : x.f0 < 0
    · rcases hx with e | ⟨⟨x0, _⟩, _⟩
      · rw [if_pos hx0, ← hsame e]; exact ih'
      · omega
    · rw [if_neg hx0, hset]; exact ih'
theorem spec_dc_l0 (h : isTri t = true) (hn : t.length ≤ 4) : ∀ d a : Nat, a + d = 2 * t.length → Ev (fun k => spec_DoubleCover.l0 k (t.length : Int) (a : Int) t ((dcAcc t (t.length : Int) 2).take a)) (dcAcc t (t.length : Int) 2, 0) := by
  obtain ⟨h8, h4, _⟩ := isTri_good h
  have hL : (dcAcc t (t.length : Int) 2).length = 2 * t.length := by rw [dcAcc_two]; simp; omega
  have hw2 : wrap64 (2 * (t.length : Int)) = 2 * (t.length : Int) := wrap_id (by omega) (by omega)
  intro d
  induction d with
  | zero =>
    intro a ha
    rw [List.take_of_length_le (by omega)]
    exact ev_step (fun k => by rw [spec_DoubleCover.l0, hw2, if_neg (by omega)]) (Ev.now _)
  | succ d ih =>
    intro a ha
    have hlt : a < 2 * t.length := by omega
    obtain ⟨hm, hd⟩ := tq hn hlt
    have key : ∃ i s : Nat, ∃ hi : i < t.length, Int.tmod (a : Int) (t.length : Int) = (i : Int) ∧ Int.tdiv (a : Int) (t.length : Int) = (s : Int) ∧ s ≤ 1 ∧ (dcAcc t (t.length : Int) 2)[a]'(by omega) = (t[i]).map (dcF (t.length : Int) s) := by
      by_cases hc : a < t.length
      · rw [if_pos hc] at hm hd
        refine ⟨a, 0, hc, hm, hd, by omega, ?_⟩
        simp only [dcAcc_two]
        rw [List.getElem_append_left (by simpa using hc)]; simp
      · rw [if_neg hc] at hm hd
        refine ⟨a - t.length, 1, by omega, hm, hd, by omega, ?_⟩
        simp only [dcAcc_two]
        rw [List.getElem_append_right (by simp; omega)]; simp
    obtain ⟨i, s, hi, em, ed, hs, eg⟩ := key
    have hr := h4 t[i] (List.getElem_mem hi)
    have c1 : (a : Int) < 2 * (t.length : Int) := by omega
    refine ev_step (f := fun k => (spec_l07Free.f).bind fun t106 => spec_DoubleCover.l1 k (t.length : Int) (a : Int) t106 0 t ((dcAcc t (t.length : Int) 2).take a)) (fun k => by rw [spec_DoubleCover.l0, hw2, if_pos c1]) (Ev.bind (a := rowS (t.length : Int) s t[i] 0) (ev_const rfl) ?_)
    refine spec_dc_l1 h hn hlt hi em ed hs _ _ ?_ 4 0 (by omega)
    refine ev_step (fun k => by rw [spec_DoubleCover.l1, if_neg (by omega), if_pos (by simp; omega), wrap_succ (by omega)]) ?_
    have e4 : rowS (t.length : Int) s t[i] 4 = (t[i]).map (dcF (t.length : Int) s) := by
      unfold rowS
      rw [List.take_of_length_le (show (t[i]).length ≤ 4 by omega)]; simp
    have ih' := ih (a + 1) (by omega)
    rw [List.take_succ_eq_append_getElem (by omega), eg] at ih'
    rw [e4]; exact ih'
theorem spec_cover_ev (t : Tri) : Ev (fun k => spec_DoubleCover.f k t) (cover t) := by
  refine Ev.bind (spec_isTri_ev t) ?_
  unfold cover
  cases h : isTri t with
  | false => exact ev_neg (by simp) (Ev.now _)
  | true =>
    obtain ⟨h8, h4, _⟩ := isTri_good h
    rw [if_pos rfl]
    refine ev_pos rfl (Ev.bind (a := (t.length : Int)) (ev_const (by unfold spec_l07Tets.f; rfl)) ?_)
    rw [wrap_id (by omega) (by omega)]
    by_cases hb : 2 * (t.length : Int) > 8
    · rw [if_pos hb]; exact ev_pos hb (Ev.now _)
    · rw [if_neg hb]
      refine ev_neg hb ?_
      have := spec_dc_l0 h (by omega) (2 * t.length) 0 (by omega)
      rw [List.take_zero] at this
      exact this
end
/-- n marked faces from a on. -/
def mkR (a : Int) : Nat → List SFace
  | 0 => []
  | n + 1 => ⟨a, a + 1⟩ :: mkR (a + 2) n
theorem mkR_length (a : Int) (n : Nat) : (mkR a n).length = n := by
  induction n generalizing a with
  | zero => rfl
  | succ n ih => simp [mkR, ih]
theorem mkR_get (a : Int) (n i : Nat) (z : SFace) (h : i < n) : (mkR a n).getD i z = ⟨a + 2 * i, a + 2 * i + 1⟩ := by
  induction n generalizing a i with
  | zero => omega
  | succ n ih =>
    cases i with
    | zero => simp [mkR]
    | succ i => simp only [mkR, List.getD_cons_succ]; rw [ih (a + 2) i (by omega)]; congr 1 <;> omega
theorem mkR_snoc (a : Int) (n : Nat) : mkR a (n + 1) = mkR a n ++ [⟨a + 2 * n, a + 2 * n + 1⟩] := by
  induction n generalizing a with
  | zero => simp [mkR]
  | succ n ih =>
    rw [mkR, ih (a + 2)]
    have e : a + 2 + 2 * (n : Int) = a + 2 * ((n + 1 : Nat) : Int) := by omega
    rw [e]; rfl
theorem mk_set (l : List SFace) (a : Int) (n : Nat) (h : n < l.length) : (mkR a n ++ l.drop n).set n ⟨a + 2 * n, a + 2 * n + 1⟩ = mkR a (n + 1) ++ l.drop (n + 1) := by
  rw [List.set_append_right _ _ (by rw [mkR_length]; exact yoy _), mkR_length, Nat.sub_self, List.drop_eq_getElem_cons h, yby, mkR_snoc, List.append_assoc]
  rfl
theorem rd_Face_set (l : List SFace) (n : Nat) (v : SFace) (h : n < l.length) : rd_Face (l.set n v) (n : Int) = v := by
  rw [rd_Face_lt _ n (by rw [List.length_set]; exact h), List.getElem_set_self]
theorem markFaceS_ev (l : List SFace) (a : Int) (h : l.length ≤ 1099511627776) (h0 : 0 ≤ a) (h1 : a ≤ 4398046511104) : Ev (fun k => laws_markFaceS.f k l a) (a + 2 * l.length, mkR a l.length) := by
  have hl : Ev (fun k => laws_markFaceS.l0 k l a 0) (a + 2 * l.length, mkR a l.length) := by
    refine ev_loop0 (fun k (s : List SFace × Int × Int) => laws_markFaceS.l0 k s.1 s.2.1 s.2.2) (fun s => ∃ n : Nat, n ≤ l.length ∧ s.2.2 = n ∧ s.2.1 = a + 2 * n ∧ s.1 = mkR a n ++ l.drop n) (fun s => l.length - s.2.2.toNat) (fun _ => (a + 2 * l.length, mkR a l.length)) ?_ (l, a, 0) ⟨0, by omega, rfl, by simp, by simp [mkR]⟩
    rintro ⟨x, b, i⟩ ⟨n, hn, rfl, rfl, rfl⟩
    dsimp only
    have hlen : (mkR a n ++ l.drop n).length = l.length := by simp [mkR_length]; omega
    by_cases hlt : n < l.length
    · refine .inr ⟨(mkR a (n + 1) ++ l.drop (n + 1), a + 2 * ((n + 1 : Nat) : Int), ((n + 1 : Nat) : Int)), ⟨n + 1, by omega, rfl, rfl, rfl⟩, by simp; omega, rfl, fun k => ?_⟩
      simp only [laws_markFaceS.l0]
      rw [if_pos (by rw [hlen]; omega), if_pos (by omega), yfy, Int.toNat_natCast, rd_Face_set _ n _ (by rw [hlen]; exact hlt), List.set_set, wrap_id (x := a + 2 * (n : Int) + 1) (by omega) (by omega), mk_set l a n hlt, wrap_succ (by omega), wrap_id (by omega) (by omega)]
      congr 1; omega
    · obtain rfl : n = l.length := by omega
      refine .inl fun k => ?_
      simp only [laws_markFaceS.l0]
      rw [if_neg (by rw [hlen]; omega)]
      simp
  exact hl
/-- The marks of a triangulation, and their number. -/
def cntF : Tri → Nat
  | [] => 0
  | r :: rs => 2 * r.length + cntF rs
def mkT (a : Int) : Tri → Tri
  | [] => []
  | r :: rs => mkR a r.length :: mkT (a + 2 * r.length) rs
theorem cntF_le (t : Tri) (h : ∀ r ∈ t, r.length ≤ 1048576) : cntF t ≤ 2097152 * t.length := by
  induction t with
  | nil => simp [cntF]
  | cons r rs ih =>
    have h1 := h r (List.mem_cons_self ..)
    have h2 := ih (fun x hx => h x (List.mem_cons_of_mem _ hx))
    simp only [cntF, List.length_cons]; omega
theorem markGo_ev : ∀ (suf : Tri) (pre : Tri) (a : Int), (∀ r ∈ suf, r.length ≤ 1048576) → 0 ≤ a → a + cntF suf ≤ 4398046511104 → Ev (fun k => laws_markFaceSS.go k suf.length (pre ++ suf) a pre.length) (a + cntF suf, pre ++ mkT a suf)
  | [], pre, a, _, h0, h1 => ev_const' fun k => by simp [laws_markFaceSS.go, cntF, mkT]
  | r :: rs, pre, a, hr, h0, h1 => by
    simp only [cntF] at h1
    have hm := markFaceS_ev r a (by have := hr r (List.mem_cons_self ..); omega) h0 (by omega)
    have ih := markGo_ev rs (pre ++ [mkR a r.length]) (a + 2 * r.length) (fun x hx => hr x (List.mem_cons_of_mem _ hx)) (by omega) (by omega)
    simp only [List.length_cons, laws_markFaceSS.go]
    have e0 : List.getD (pre ++ r :: rs) pre.length [] = r := by simp
    rw [e0]
    refine Ev.bind hm ?_
    dsimp only
    have e1 : (pre ++ r :: rs).set pre.length (mkR a r.length) = pre ++ [mkR a r.length] ++ rs := by
      rw [List.set_append_right _ _ (yoy _), Nat.sub_self, yby]; simp
    rw [e1]
    have e2 : pre.length + 1 = (pre ++ [mkR a r.length]).length := by simp
    rw [e2]
    have e3 : (a + ((cntF (r :: rs) : Nat) : Int), pre ++ mkT a (r :: rs)) = (a + 2 * r.length + (cntF rs : Int), pre ++ [mkR a r.length] ++ mkT (a + 2 * r.length) rs) := by
      simp only [cntF, mkT, List.append_assoc, List.singleton_append]; congr 1; omega
    rw [e3]
    exact ih
theorem markTriangulation_ev (t : Tri) (a : Int) (hs : Small t) (h0 : 0 ≤ a) (h1 : a ≤ 1048576) : Ev (fun k => laws_markTriangulation.f k t a) (a + cntF t, mkT a t) := by
  have := markGo_ev t [] a hs.2 h0 (by have := cntF_le t hs.2; have := hs.1; omega)
  rw [List.nil_append, List.nil_append] at this
  exact this
theorem heldFaceS_ev (a : Int) (m : Nat) (h : m ≤ 1099511627776) (h0 : 0 ≤ a) (h1 : a ≤ 4398046511104) : Ev (fun k => laws_heldFaceS.f k (mkR a m) a) (a + 2 * m) := by
  have hl : Ev (fun k => laws_heldFaceS.l0 k (mkR a m) a 0) (a + 2 * m) := by
    refine ev_loop0 (fun k (s : Int × Int) => laws_heldFaceS.l0 k (mkR a m) s.1 s.2) (fun s => ∃ n : Nat, n ≤ m ∧ s.2 = n ∧ s.1 = a + 2 * n) (fun s => m - s.2.toNat) (fun _ => a + 2 * m) ?_ (a, 0) ⟨0, by omega, rfl, by simp⟩
    rintro ⟨b, i⟩ ⟨n, hn, rfl, rfl⟩
    dsimp only
    by_cases hlt : n < m
    · refine .inr ⟨(a + 2 * ((n + 1 : Nat) : Int), ((n + 1 : Nat) : Int)), ⟨n + 1, by omega, rfl, rfl⟩, by simp; omega, rfl, fun k => ?_⟩
      have e : rd_Face (mkR a m) (n : Int) = ⟨a + 2 * n, a + 2 * n + 1⟩ := by unfold rd_Face; rw [Int.toNat_natCast, mkR_get a m n _ hlt]
      simp only [laws_heldFaceS.l0]
      rw [if_pos (by rw [mkR_length]; omega), if_pos (by omega), e, if_pos rfl, wrap_id (x := a + 2 * (n : Int) + 1) (by omega) (by omega), if_pos rfl, wrap_succ (by omega), wrap_id (by omega) (by omega)]
      congr 1; omega
    · obtain rfl : n = m := by omega
      refine .inl fun k => ?_
      simp only [laws_heldFaceS.l0]
      rw [if_neg (by rw [mkR_length]; omega)]
  exact hl
theorem heldSS_ev : ∀ (suf : Tri) (pre : Tri) (a : Int), (∀ r ∈ suf, r.length ≤ 1048576) → pre.length + suf.length ≤ 1048576 → 0 ≤ a → a + cntF suf ≤ 4398046511104 → Ev (fun k => laws_heldFaceSS.l0 k (pre ++ mkT a suf) a (pre.length : Int)) (a + cntF suf)
  | [], pre, a, _, hn, h0, h1 => by
    refine ev_step (f := fun _ => some a) (fun k => ?_) (ev_some (by simp [cntF]))
    rw [laws_heldFaceSS.l0, if_neg (by simp [mkT])]
  | r :: rs, pre, a, hr, hn, h0, h1 => by
    simp only [cntF, List.length_cons] at h1 hn
    have hm := heldFaceS_ev a r.length (by have := hr r (List.mem_cons_self ..); omega) h0 (by omega)
    have ih := heldSS_ev rs (pre ++ [mkR a r.length]) (a + 2 * r.length) (fun x hx => hr x (List.mem_cons_of_mem _ hx)) (by simp; omega) (by omega) (by omega)
    have e1 : pre ++ mkT a (r :: rs) = pre ++ [mkR a r.length] ++ mkT (a + 2 * r.length) rs := by simp [mkT]
    have e4 : rd_LFace (pre ++ mkT a (r :: rs)) (pre.length : Int) = mkR a r.length := by
      rw [rd_LFace_lt _ _ (by simp [mkT])]; simp [mkT]
    refine ev_step (fun k => by rw [laws_heldFaceSS.l0, if_pos (by simp [mkT]; omega), if_pos (by omega), e4]) (Ev.bind hm ?_)
    refine ev_neg (by omega) ?_
    have e2 : wrap64 ((pre.length : Int) + 1) = ((pre ++ [mkR a r.length]).length : Int) := by rw [wrap_succ (by omega)]; simp
    have e3 : (a + ((cntF (r :: rs) : Nat) : Int)) = a + 2 * r.length + (cntF rs : Int) := by simp only [cntF]; omega
    rw [e1, e3]
    exact Ev.congr (fun k => by rw [e2]) ih
theorem heldTriangulation_ev (t : Tri) (a : Int) (hs : Small t) (h0 : 0 ≤ a) (h1 : a ≤ 1048576) : Ev (fun k => laws_heldTriangulation.f k (mkT a t) a) (a + cntF t) := by
  have := heldSS_ev t [] a hs.2 (by have := hs.1; simp; omega) h0 (by have := cntF_le t hs.2; have := hs.1; omega)
  rw [List.nil_append] at this
  refine Ev.bind (g := fun k => laws_heldFaceSS.f k (mkT a t) a) this ?_
  exact ev_neg (by omega) (Ev.now _)
end Go.Proofs.Ytembbpalgfikiaa.P
namespace Go.Proofs.Ytembbpalgfikiaa.Pure
open Go.RowKit Go.Proofs.Ytembbpalgfikiaa.P Go.Proofs.Ytembbpalgfikiaa.Lib Go.Proofs.YtembbpalgfikiaaW.PrintWords
set_option linter.unusedVariables false
theorem FnExactDoubleCover (l0 : List (List SLawFace)) (h0 : Fits l0) : ∃ k, laws_FnExactDoubleCover.f k l0 = some true := by
  refine Ev.rounds ?_
  obtain ⟨r0, hr0, hs0⟩ := szTriangulation_ev l0 h0
  refine Ev.bind hr0 ?_
  by_cases hn0 : r0 < 0
  · exact ev_pos hn0 (Ev.now true)
  have hsm0 := hs0 hn0
  refine ev_neg hn0 ?_
  have hto0 := toTriangulation_ev l0 hsm0
  have hS0 := cvT_small hsm0
  have hi := impl_cover_ev hS0
  have hL := cover_small (cvT l0)
  have heq := eqTriangulation_ev _ hL
  have hh := heldTriangulation_ev _ 1 hL (by omega) (by omega)
  refine Ev.bind hto0 ?_
  refine Ev.bind (spec_cover_ev (cvT l0)) ?_
  refine Ev.bind hto0 ?_
  refine Ev.bind hi ?_
  refine Ev.bind heq (ev_pos rfl (ev_pos rfl ?_))
  refine Ev.bind hto0 ?_
  refine Ev.bind (eqTriangulation_ev _ hS0) (ev_pos rfl ?_)
  refine Ev.bind (markTriangulation_ev _ 1 hS0 (by omega) (by omega)) ?_
  refine ev_neg (by dsimp only; omega) ?_
  refine Ev.bind heq (ev_pos rfl (ev_pos rfl ?_))
  refine Ev.bind (markTriangulation_ev _ 1 hL (by omega) (by omega)) ?_
  refine Ev.bind hh ?_
  refine ev_neg (by omega) (ev_pos rfl ?_)
  refine Ev.bind hto0 ?_
  refine Ev.bind hi ?_
  refine Ev.bind heq (ev_pos rfl (ev_pos rfl ?_))
  refine Ev.bind hh ?_
  exact ev_neg (by omega) (ev_pos rfl (Ev.now true))
end Go.Proofs.Ytembbpalgfikiaa.Pure
namespace Go.Proofs.Ytembbpalgfikiaa.Lib
open Go.RowKit Go.Proofs.YtembbpalgfikiaaW.PrintWords Go.Joins Go.Deep Go.WideShapes Go.ChangeShapes
set_option linter.unusedVariables false
/-- Whatever reads as data at type t reads as a value of the kind d. -/
def Opens (P : Program) (t : TypeId) {α : Type} (d : Kd α) : Prop := ∀ (H : Type) (enc : TypeId × Value → H) (w : World) (base : Nat) (spare : Nat → Bool) (held : Bool) (fuel : Nat) (cs : List Value) (x : DataW H × List MemPlace),
  DataW.trod enc P w base spare held fuel t cs = some x → ∃ y, d.K w y cs
theorem pick_list {α : Type} {R : Nat → α → Prop} : ∀ n, (∀ i, i < n → ∃ y, R i y) → ∃ ys : List α, ys.length = n ∧ ∀ j p, ys[j]? = some p → R j p
  | 0, _ => ⟨[], rfl, fun j p h => by simp at h⟩
  | n + 1, h => by
    obtain ⟨ys, hl, hr⟩ := pick_list n (fun i hi => h i (by omega))
    obtain ⟨y, hy⟩ := h n (by omega)
    refine ⟨ys ++ [y], by simp [hl], fun j p hj => ?_⟩
    by_cases hlt : j < n
    · rw [List.getElem?_append_left (by omega)] at hj
      exact hr j p hj
    · have hjn : j < (ys ++ [y]).length := (List.getElem?_eq_some_iff.1 hj).1
      have : j = n := by simp [hl] at hjn; omega
      subst this
      rw [List.getElem?_append_right (by omega), hl, Nat.sub_self] at hj
      injection hj with hj
      rw [← hj]
      exact hy
theorem opens_slice {P : Program} {t e : TypeId} {α : Type} {d : Kd α} (ht : P.underlying t = some (.slice e)) (hc : P.cellsOf e = d.sz) (h : Opens P e d) : Opens P t (Kd.slice e d) := by
  intro H enc w base spare held fuel cs x hx
  rcases open_slice ht hx with ⟨rfl, _⟩ | ⟨a, len, cap, m, n, D, Pl, rfl, hb, hl, hm, hmm, _, hi⟩
  · exact ⟨[], none, 0, rfl, yoy _, Kd.C_nil d w⟩
  · have each : ∀ i, i < len → ∃ y, ∃ cs', w.cells? base (a.add (i * d.sz)) d.sz = some cs' ∧ d.K w y cs' := by
      intro i hil
      have him : i < m := by rw [hmm]; split <;> omega
      obtain ⟨cs', h1, h2⟩ := hi i him
      obtain ⟨y, hy⟩ := h H enc w base spare held n cs' _ h2
      rw [hc] at h1
      exact ⟨y, cs', h1, hy⟩
    obtain ⟨ys, hlen, hys⟩ := pick_list len each
    refine ⟨ys, some a, cap, by rw [hlen], by omega, rfl, ?_, fun _ => ⟨a, rfl, fun j p hj => ?_⟩⟩
    · unfold maxLen at hm; omega
    · obtain ⟨cs', h1, h2⟩ := hys j p hj
      obtain ⟨_, h3, h4⟩ := World.cells?_some h1
      refine ⟨cs', h3, h2, fun i u hu => ?_⟩
      have hil : i < d.sz := by rw [← h3]; exact (List.getElem?_eq_some_iff.1 hu).1
      rw [← hu, ← h4 i hil, Go.Deep.add_add]
theorem opens_struct2 {P : Program} {t : TypeId} {f0 f1 : Field} {α : Type} (hs : P.underlying t = some (.struct #[f0, f1])) (hone : oneCellFields P #[f0, f1] = true) (hC : P.cellsOf t = 2)
    (h0 : P.underlying f0.type = some (.int .i64)) (h1 : P.underlying f1.type = some (.int .i64)) (d : Kd α) (mk : Int → Int → α) (hK : ∀ w a b, d.K w (mk a b) [.int .i64 a, .int .i64 b]) : Opens P t d := by
  intro H enc w base spare held fuel cs x h
  obtain ⟨y0, y1, n, hx, hl, g0, g1⟩ := trod_struct2 hs h
  obtain ⟨o0, k0⟩ := hone_of hone 0 f0 rfl
  obtain ⟨o1, k1⟩ := hone_of hone 1 f1 rfl
  rw [hC] at hl
  match cs, hl with
  | [c0, c1], _ =>
    rw [o0, k0] at g0
    rw [o1, k1] at g1
    obtain ⟨a, e0, _, _⟩ := DataW.trod_int h0 g0
    obtain ⟨b, e1, _, _⟩ := DataW.trod_int h1 g1
    simp at e0 e1
    subst e0 e1
    exact ⟨mk a b, hK w a b⟩
section
variable {H : Type} {enc : TypeId × Value → H} {P : Program} {w : World} {base : Nat} {spare : Nat → Bool} {held : Bool}
theorem array1 {α : Type} {cs : Array α} (h : cs.size = 1) : ∃ c0, cs = #[c0] := by
  obtain ⟨l⟩ := cs
  match l, h with
  | [c0], _ => exact ⟨c0, rfl⟩
/-- A struct that holds one slice, by value. -/
theorem open_agg1 {r : Reach} {b0 : Nat} {t e : TypeId} {f0 : Field} {α : Type} {d : Kd α} {v : Value} {D : DataW H} {p : List MemPlace} (hs : P.underlying t = some (.struct #[f0])) (hone : oneCellFields P #[f0] = true) (hC : P.cellsOf t = 1)
    (ho : Opens P f0.type (Kd.slice e d)) (hv : Value.okWide P w r b0 t v) (h : DataW.Trod enc P w base spare held t v D p) :
    ∃ (A : Option Addr) (c : Nat) (l : List α), v = .agg #[.slice A l.length c] ∧ l.length ≤ c ∧ d.C w A l.length l := by
  obtain ⟨cs, rfl, hsz⟩ := okWide_struct hs hv
  obtain ⟨c0, rfl⟩ := array1 (hsz.trans hC)
  obtain ⟨fuel, hf⟩ := h
  obtain ⟨y0, n, hx, _, h0⟩ := trod_struct1 hs hf
  obtain ⟨o0, k0⟩ := hone_of hone 0 f0 rfl
  have h0' : DataW.trod enc P w base spare held n f0.type [c0] = some y0 := by simpa [Value.cells, o0, k0] using h0
  obtain ⟨l, A, c, e1, hl, hCC⟩ := ho H enc w base spare held n _ _ h0'
  simp at e1
  subst e1
  exact ⟨A, c, l, rfl, hl, hCC⟩
end
theorem fits_of_C {e : Nat} {α : Type} {d : Kd α} {w : World} {A : Option Addr} {l : List (List α)} (h : (Kd.slice e d).C w A l.length l) : l.length ≤ 9223372036854775807 ∧ ∀ r ∈ l, r.length ≤ 9223372036854775807 := by
  refine ⟨h.2.1, fun r hr => ?_⟩
  obtain ⟨j, hj, rfl⟩ := List.mem_iff_getElem.1 hr
  obtain ⟨ad, _, hc⟩ := h.2.2 (by omega)
  obtain ⟨c, _, hK, _⟩ := hc j _ (List.getElem?_eq_getElem hj)
  obtain ⟨A', c', _, _, hC⟩ := hK
  exact hC.2.1
end Go.Proofs.Ytembbpalgfikiaa.Lib
