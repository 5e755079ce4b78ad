/- The statement FnExactUnglueFaceSaid, proved: part 6 of 6 (texts of this session and of the kit's print, put together and cut to what is used by a program of it). -/
import Derived.Test.YtojpoedeiedgdaaMFnExactUnglueFace5
import Derived.Deep.Slices
import Derived.ChangeSame
import Derived.ChangeArms
import Derived.WideShapes
import Derived.Lib.SmallJoins
import Derived.ChangeShapes
import Derived.Test.YtojpoedeiedgdaaRows
import Derived.WalkKit
import Derived.ProofKit
import Derived.OpenShut
import Derived.ShutString
import Derived.ChangeOld
import Derived.Below
import Derived.SizedLaws
import Derived.Carry
-- Printed by a program of this session (drv.py), by means of the kit's print.py.
namespace Go.Proofs.Ytojpoedeiedgdaa.P
open Go.RowKit Go.Proofs.YtojpoedeiedgdaaW.PrintWords Go.Proofs.YtojpoedeiedgdaaW.PrintLast Go.Proofs.YtojpoedeiedgdaaW.PrintMore
attribute [local go_sem] max2_int min2_int max_two min_two max_three min_three max_four min_four   -- for this text's walks alone
set_option linter.unusedVariables false
set_option linter.unusedSimpArgs false
/-! ### spec_UnglueFace: function 31 -/
def spec_UnglueFace.j0 : Nat → Int → Int → Bool → List (List (SFace)) → Option ((List (List (SFace))) × Int)
  | 0, _, _, _, _ => none
  | k + 1, x1, x2, x24, x102000 => if x24 = true then (some (([] : List (List (SFace))), 2)) else (if 0 ≤ x1 then (if x1 < (x102000.length : Int) then (if 0 ≤ x2 then (if x2 < ((rd_LFace x102000 x1).length : Int) then (if ((rd_Face (rd_LFace x102000 x1) x2).f0) < 0 then (some (([] : List (List (SFace))), 5)) else ((spec_l07Own.f k x102000).bind fun t110 => (if x1 < (t110.length : Int) then (if x2 < ((rd_LFace t110 x1).length : Int) then ((some (t110.set (x1 : Int).toNat ((rd_LFace t110 x1).set (x2 : Int).toNat (⟨(-1), 0⟩ : SFace)) : List (List (SFace)))).bind fun y117 => (if 0 ≤ ((rd_Face (rd_LFace x102000 x1) x2).f0) then (if ((rd_Face (rd_LFace x102000 x1) x2).f0) < (t110.length : Int) then ((spec_l06At.f k ((rd_Face (rd_LFace x102000 x1) x2).f1) x2).bind fun t119 => (if 0 ≤ t119 then (if t119 < ((rd_LFace y117 ((rd_Face (rd_LFace x102000 x1) x2).f0)).length : Int) then (some ((y117.set (((rd_Face (rd_LFace x102000 x1) x2).f0) : Int).toNat ((rd_LFace y117 ((rd_Face (rd_LFace x102000 x1) x2).f0)).set (t119 : Int).toNat (⟨(-1), 0⟩ : SFace))), 0)) else (none)) else (none))) else (none)) else (none))) else (none)) else (none)))) else (none)) else (none)) else (none)) else (none))
def spec_UnglueFace.f (k : Nat) (l0_0 : List (List (SFace))) (a1 : Int) (a2 : Int) : Option ((List (List (SFace))) × Int) := (spec_IsTriangulation.f k l0_0).bind fun t103 => (if t103 = true then ((spec_l07Tets.f l0_0).bind fun t104 => ((spec_l07In.f a1 0 (wrap64 (t104 - 1))).bind fun t105 => (if t105 = true then ((spec_l07In.f a2 0 3).bind fun t106 => (spec_UnglueFace.j0 k a1 a2 (!t106) l0_0)) else (spec_UnglueFace.j0 k a1 a2 true l0_0)))) else (some (([] : List (List (SFace))), 1)))
def spec_UnglueFace.T10 : Bool × List (List Nat × List Nat) := (true, [([], []), ([0], [0]), ([], []), ([2], [2]), ([1, 3], [1, 3]), ([4], [4]), ([], []), ([6], [6]), ([], []), ([7, 8], [7, 8]), ([], []), ([5, 9, 0, 1, 2, 3, 4, 5, 6, 7, 8, 9, 10], [5, 9]), ([11, 10, 9, 0, 1, 2, 3, 4, 5, 6, 7, 8, 9, 10], [10, 11])])
def spec_UnglueFace.B10 : List Nat := [0, 1, 0, 4, 15, 31, 0, 64, 0, 448, 0, 2047, 4095]
theorem spec_UnglueFace.tab10 : rtab .any (opsOf Try.f31 10) = spec_UnglueFace.T10 := by kernel_rfl
theorem spec_UnglueFace.bits10 : waitsOk spec_UnglueFace.T10.2 spec_UnglueFace.B10 = true := by kernel_rfl
set_option maxHeartbeats 8000000 in
set_option maxRecDepth 100000 in
theorem spec_UnglueFace.calls (k : Nat) (A0_0 : Option Addr) (c0_0 : Nat) (l0_0 : List (List (SFace))) (a1 : Int) (a2 : Int) (r1 : List (List (SFace))) (r2 : Int) (w : World) (hr0_0 : Kd.C (Kd.slice 61 kFace) w A0_0 l0_0.length l0_0) (hc0_0 : l0_0.length ≤ c0_0) (h : spec_UnglueFace.f k l0_0 a1 a2 = some (r1, r2)) :
    Calls Try.prog 31 #[.agg #[.slice A0_0 l0_0.length c0_0], .int .i64 a1, .int .i64 a2] w fun e w' => ∃ v0_ : Value, e = .returned (.tuple #[.agg #[v0_], .int .i64 r2]) ∧ Kd.S (Kd.slice 61 kFace) 59 w' w.heap.size (fun _ => True) v0_ r1 ∧ Below w.heap.size w w' := by
  have hu29 := Try.underlying29
  have hu61 := Try.underlying61
  have HR0_0 := Aside0.mk hr0_0
  have HC0_0 := Aside0.mk hc0_0
  clear hr0_0 hc0_0
  have HB := Aside0.mk (Below.refl w.heap.size w)
  have H : ((spec_IsTriangulation.f k l0_0).bind fun t103 => (if t103 = true then ((spec_l07Tets.f l0_0).bind fun t104 => ((spec_l07In.f a1 0 (wrap64 (t104 - 1))).bind fun t105 => (if t105 = true then ((spec_l07In.f a2 0 3).bind fun t106 => (spec_UnglueFace.j0 k a1 a2 (!t106) l0_0)) else (spec_UnglueFace.j0 k a1 a2 true l0_0)))) else (some (([] : List (List (SFace))), 1)))) = some (r1, r2) := h
  clear h
  replace H := Option.bind_eq_some_iff.mp H
  obtain ⟨t103, A40, H⟩ := H
  replace H : (if t103 = true then ((spec_l07Tets.f l0_0).bind fun t104 => ((spec_l07In.f a1 0 (wrap64 (t104 - 1))).bind fun t105 => (if t105 = true then ((spec_l07In.f a2 0 3).bind fun t106 => (spec_UnglueFace.j0 k a1 a2 (!t106) l0_0)) else (spec_UnglueFace.j0 k a1 a2 true l0_0)))) else (some (([] : List (List (SFace))), 1))) = some (r1, r2) := H
  have A4 := Aside0.mk A40
  clear A40
  by_cases c5 : t103 = true
  · subst c5
    have H1 : ((spec_l07Tets.f l0_0).bind fun t104 => ((spec_l07In.f a1 0 (wrap64 (t104 - 1))).bind fun t105 => (if t105 = true then ((spec_l07In.f a2 0 3).bind fun t106 => (spec_UnglueFace.j0 k a1 a2 (!t106) l0_0)) else (spec_UnglueFace.j0 k a1 a2 true l0_0)))) = some (r1, r2) := by rw [if_pos rfl] at H; exact H
    clear H
    have H := H1
    clear H1
    have HC6 := Aside0.mk H
    clear H
    go_enter Try.func31, Try.ntmps31
    go_upto_region 3 with (first | ((with_reducible refine gate_dst (N := 3) rfl ?_); refine box_event ?hg (N := 3) ?hd (cs := #[.slice A0_0 l0_0.length c0_0]) (t := 29) ?hr ?_; (case hd => rfl); (case hg => rfl); (case hr => first | (go_simp; done) | (go_simp; rfl)); intro gb101 hg w7 hbox hb; have n0_ := Aside0.mk (below_step (by repeat (first | (with_reducible first | exact HB.out | apply below_alloc | apply pw_below_drewN | apply below_drew1) | exact HB.out)) hb); have n1_ := Aside0.mk (hbox); have n2_ := Aside0.mk ((by rw [hg]; exact (below_size (by repeat (first | (with_reducible first | exact HB.out | apply below_alloc | apply pw_below_drewN | apply below_drew1) | exact HB.out))) : w.heap.size ≤ gb101)); have n3_ := Aside0.mk ((by rw [hg]; exact (below_size (by repeat (first | (with_reducible first | exact HB.out | apply below_alloc | apply pw_below_drewN | apply below_drew1) | exact HB.out))) : w.heap.size ≤ gb101)); clear HB; have HB := n0_; have BK101 := n1_; have GW101 := n2_; have GE101 := n3_; clear n0_ n1_ n2_ n3_; clear hb hbox hg) | ((with_reducible refine gate_dst (N := 6) rfl ?_); refine box_event ?hg (N := 6) ?hd (cs := #[.slice none 0 0]) (t := 29) ?hr ?_; (case hd => rfl); (case hg => rfl); (case hr => first | (go_simp; done) | (go_simp; rfl)); intro gb102 hg w8 hbox hb; have n0_ := Aside0.mk (blk_below (g := gb101) (o := .cells #[.slice A0_0 l0_0.length c0_0] 29 (0, 0)) (by (with_reducible repeat (first | refine blk_drewN ?_ _ | refine blk_drew ?_ | refine blk_alloc ?_ _)); exact BK101.out) hb); have n1_ := Aside0.mk (below_step (by repeat (first | (with_reducible first | exact HB.out | apply below_alloc | apply pw_below_drewN | apply below_drew1 | refine below_set ?_ GE101.out) | exact HB.out)) hb); have n2_ := Aside0.mk (hbox); have n3_ := Aside0.mk ((by rw [hg]; exact (below_size (by repeat (first | (with_reducible first | exact HB.out | apply below_alloc | apply pw_below_drewN | apply below_drew1 | refine below_set ?_ GE101.out) | exact HB.out))) : w.heap.size ≤ gb102)); have n4_ := Aside0.mk ((by rw [hg]; exact (below_size (by repeat (first | (with_reducible first | exact HB.out | apply below_alloc | apply pw_below_drewN | apply below_drew1 | refine below_set ?_ GE101.out) | exact HB.out))) : w.heap.size ≤ gb102)); have n5_ := Aside0.mk ((by rw [hg]; exact Nat.ne_of_lt (blk_lt (g := gb101) (o := .cells #[.slice A0_0 l0_0.length c0_0] 29 (0, 0)) (by (with_reducible repeat (first | refine blk_drewN ?_ _ | refine blk_drew ?_ | refine blk_alloc ?_ _)); exact BK101.out)) : gb101 ≠ gb102)); have n6_ := Aside0.mk ((by rw [hg]; exact Nat.ne_of_gt (blk_lt (g := gb101) (o := .cells #[.slice A0_0 l0_0.length c0_0] 29 (0, 0)) (by (with_reducible repeat (first | refine blk_drewN ?_ _ | refine blk_drew ?_ | refine blk_alloc ?_ _)); exact BK101.out)) : gb102 ≠ gb101)); clear BK101; clear HB; have BK101 := n0_; have HB := n1_; have BK102 := n2_; have GW102 := n3_; have GE102 := n4_; have NB101_102 := n5_; have NB102_101 := n6_; clear n0_ n1_ n2_ n3_ n4_ n5_ n6_; clear hb hbox hg; have hnb9 := NB101_102.out; have hnc9 := NB102_101.out; have hcz10_0 : w8.cell? ⟨gb101, 0, none⟩ = some (.slice A0_0 l0_0.length c0_0) := (blk_cell BK101.out 0).trans rfl; have hfz10_0 := blk_frozen BK101.out 0) | ((with_reducible refine gate_callee (f := 16) rfl ?_); refine goesL_ (some 11) rfl rfl Try.func16 (by kernel_rfl) rfl #[.agg #[.slice A0_0 l0_0.length c0_0]] rfl (by (try simp only [List.map_toArray, List.map_cons, List.map_nil]); first | done | rfl | (simp only [List.length_drop, List.length_take]; rfl)) ?_; (with_reducible refine (spec_IsTriangulation.calls k _ _ l0_0 true _ ?side1 ?side2 A4.out).mono ?_); (case side1 => repeat (first | exact (Kd.C_below HR0_0.out HB.out) | (with_reducible refine Kd.C_alloc ?_ _) | (with_reducible refine Kd.C_drewN ?_ _) | (with_reducible refine Kd.C_drew ?_))); (case side2 => exact HC0_0.out); rintro e w11 ⟨rfl, hb⟩; refine ⟨_, rfl, ?_⟩; have n0_ := Aside0.mk (blk_below (g := gb101) (o := .cells #[.slice A0_0 l0_0.length c0_0] 29 (0, 0)) (by (with_reducible repeat (first | refine blk_drewN ?_ _ | refine blk_drew ?_ | refine blk_alloc ?_ _)); exact BK101.out) hb); have n1_ := Aside0.mk (blk_below (g := gb102) (o := .cells #[.slice none 0 0] 29 (0, 0)) (by (with_reducible repeat (first | refine blk_drewN ?_ _ | refine blk_drew ?_ | refine blk_alloc ?_ _)); exact BK102.out) hb); have n2_ := Aside0.mk (below_step (by repeat (first | (with_reducible first | exact HB.out | apply below_alloc | apply pw_below_drewN | apply below_drew1 | refine below_set ?_ GE101.out | refine below_set ?_ GE102.out) | exact HB.out)) hb); clear BK101; clear BK102; clear HB; have BK101 := n0_; have BK102 := n1_; have HB := n2_; clear n0_ n1_ n2_; (try clear hb); (try clear hb2); (try clear hk); (try clear hi)))
    (try simp only [Act.put, List.setIfInBounds_toArray, List.set_cons_zero, List.set_cons_succ])
    go_cut [24] (fun v24 wc => ∃ (kq : Nat) (x24_5 : Bool), v24 = .bool x24_5 ∧ Aside0 (spec_UnglueFace.j0 kq a1 a2 x24_5 l0_0 = some (r1, r2)) ∧ Aside0 (kq ≤ k) ∧ Aside0 (wc.heap[gb101]? = some (.cells #[(.slice A0_0 l0_0.length c0_0)] 29 (0, 0))) ∧ Aside0 (wc.heap[gb102]? = some (.cells #[(.slice none 0 0)] 29 (0, 0))) ∧ Aside0 (Below w.heap.size w wc))
    case first =>
      have H := HC6.out
      clear HC6
      replace H := Option.bind_eq_some_iff.mp H
      obtain ⟨t104, A120, H⟩ := H
      replace H : ((spec_l07In.f a1 0 (wrap64 (t104 - 1))).bind fun t105 => (if t105 = true then ((spec_l07In.f a2 0 3).bind fun t106 => (spec_UnglueFace.j0 k a1 a2 (!t106) l0_0)) else (spec_UnglueFace.j0 k a1 a2 true l0_0))) = some (r1, r2) := H
      have A12 := Aside0.mk A120
      clear A120
      replace H := Option.bind_eq_some_iff.mp H
      obtain ⟨t105, A130, H⟩ := H
      replace H : (if t105 = true then ((spec_l07In.f a2 0 3).bind fun t106 => (spec_UnglueFace.j0 k a1 a2 (!t106) l0_0)) else (spec_UnglueFace.j0 k a1 a2 true l0_0)) = some (r1, r2) := H
      have A13 := Aside0.mk A130
      clear A130
      by_cases c14 : t105 = true
      · subst c14
        have H1 : ((spec_l07In.f a2 0 3).bind fun t106 => (spec_UnglueFace.j0 k a1 a2 (!t106) l0_0)) = some (r1, r2) := by rw [if_pos rfl] at H; exact H
        clear H
        have H := H1
        clear H1
        replace H := Option.bind_eq_some_iff.mp H
        obtain ⟨t106, A150, H⟩ := H
        replace H : (spec_UnglueFace.j0 k a1 a2 (!t106) l0_0) = some (r1, r2) := H
        have A15 := Aside0.mk A150
        clear A150
        have H' := Aside0.mk H
        clear H
        have hnb16 := NB101_102.out
        have hnc16 := NB102_101.out
        have hcz17_0 : w11.cell? ⟨gb101, 0, none⟩ = some (.slice A0_0 l0_0.length c0_0) := (blk_cell BK101.out 0).trans rfl
        have hfz17_0 := blk_frozen BK101.out 0
        go_wp2_with (first | ((with_reducible refine gate_callee (f := 52) rfl ?_); refine goesL_ (some 16) rfl rfl Try.func52 (by kernel_rfl) rfl #[.agg #[.slice A0_0 l0_0.length c0_0]] rfl (by (try simp only [List.map_toArray, List.map_cons, List.map_nil]); first | done | rfl | (simp only [List.length_drop, List.length_take]; rfl)) ?_; (with_reducible refine (spec_l07Tets.calls _ _ l0_0 t104 _ ?side1 ?side2 A12.out).mono ?_); (case side1 => repeat (first | exact (Kd.C_below HR0_0.out HB.out) | (with_reducible refine Kd.C_alloc ?_ _) | (with_reducible refine Kd.C_drewN ?_ _) | (with_reducible refine Kd.C_drew ?_))); (case side2 => exact HC0_0.out); rintro e w18 ⟨rfl, hb⟩; refine ⟨_, rfl, ?_⟩; have n0_ := Aside0.mk (blk_below (g := gb101) (o := .cells #[.slice A0_0 l0_0.length c0_0] 29 (0, 0)) (by (with_reducible repeat (first | refine blk_drewN ?_ _ | refine blk_drew ?_ | refine blk_alloc ?_ _)); exact BK101.out) hb); have n1_ := Aside0.mk (blk_below (g := gb102) (o := .cells #[.slice none 0 0] 29 (0, 0)) (by (with_reducible repeat (first | refine blk_drewN ?_ _ | refine blk_drew ?_ | refine blk_alloc ?_ _)); exact BK102.out) hb); have n2_ := Aside0.mk (below_step (by repeat (first | (with_reducible first | exact HB.out | apply below_alloc | apply pw_below_drewN | apply below_drew1 | refine below_set ?_ GE101.out | refine below_set ?_ GE102.out) | exact HB.out)) hb); clear BK101; clear BK102; clear HB; have BK101 := n0_; have BK102 := n1_; have HB := n2_; clear n0_ n1_ n2_; (try clear hb); (try clear hb2); (try clear hk); (try clear hi)) | ((with_reducible refine gate_callee (f := 53) rfl ?_); refine goesL_ (some 18) rfl rfl Try.func53 (by kernel_rfl) rfl #[.int .i64 a1, .int .i64 0, .int .i64 (wrap64 (t104 - 1))] rfl (by (try simp only [List.map_toArray, List.map_cons, List.map_nil]); first | done | rfl | (simp only [List.length_drop, List.length_take]; rfl)) ?_; (with_reducible refine (spec_l07In.calls a1 0 (wrap64 (t104 - 1)) true _ A13.out).mono ?_); rintro e w' ⟨rfl, ⟨nd, rfl⟩⟩; refine ⟨_, rfl, ?_⟩) | (go_at_call 53; (with_reducible refine (spec_l07In.calls a2 0 3 t106 _ A15.out).mono ?_); rintro e w' ⟨rfl, ⟨nd, rfl⟩⟩))
        go_meet
        case rel => exact ⟨_, (!t106), (by first | rfl | (simp; done) | (simp [*]; done)), H', ⟨by first | omega | exact Nat.le_refl _⟩, ⟨by (with_reducible repeat (first | refine blk_drewN ?_ _ | refine blk_drew ?_ | refine blk_alloc ?_ _)); exact BK101.out⟩, ⟨by (with_reducible repeat (first | refine blk_drewN ?_ _ | refine blk_drew ?_ | refine blk_alloc ?_ _)); exact BK102.out⟩, ⟨by repeat (first | (with_reducible first | exact HB.out | apply below_alloc | apply pw_below_drewN | apply below_drew1 | refine below_set ?_ GE101.out | refine below_set ?_ GE102.out) | exact HB.out)⟩⟩
      · replace c14 := Bool.eq_false_iff.mpr c14
        subst c14
        have H1 : (spec_UnglueFace.j0 k a1 a2 true l0_0) = some (r1, r2) := by rw [if_neg (show ¬ (false = true) by decide)] at H; exact H
        clear H
        have H := H1
        clear H1
        have H' := Aside0.mk H
        clear H
        have hnb19 := NB101_102.out
        have hnc19 := NB102_101.out
        have hcz20_0 : w11.cell? ⟨gb101, 0, none⟩ = some (.slice A0_0 l0_0.length c0_0) := (blk_cell BK101.out 0).trans rfl
        have hfz20_0 := blk_frozen BK101.out 0
        go_wp2_with (first | ((with_reducible refine gate_callee (f := 52) rfl ?_); refine goesL_ (some 16) rfl rfl Try.func52 (by kernel_rfl) rfl #[.agg #[.slice A0_0 l0_0.length c0_0]] rfl (by (try simp only [List.map_toArray, List.map_cons, List.map_nil]); first | done | rfl | (simp only [List.length_drop, List.length_take]; rfl)) ?_; (with_reducible refine (spec_l07Tets.calls _ _ l0_0 t104 _ ?side1 ?side2 A12.out).mono ?_); (case side1 => repeat (first | exact (Kd.C_below HR0_0.out HB.out) | (with_reducible refine Kd.C_alloc ?_ _) | (with_reducible refine Kd.C_drewN ?_ _) | (with_reducible refine Kd.C_drew ?_))); (case side2 => exact HC0_0.out); rintro e w21 ⟨rfl, hb⟩; refine ⟨_, rfl, ?_⟩; have n0_ := Aside0.mk (blk_below (g := gb101) (o := .cells #[.slice A0_0 l0_0.length c0_0] 29 (0, 0)) (by (with_reducible repeat (first | refine blk_drewN ?_ _ | refine blk_drew ?_ | refine blk_alloc ?_ _)); exact BK101.out) hb); have n1_ := Aside0.mk (blk_below (g := gb102) (o := .cells #[.slice none 0 0] 29 (0, 0)) (by (with_reducible repeat (first | refine blk_drewN ?_ _ | refine blk_drew ?_ | refine blk_alloc ?_ _)); exact BK102.out) hb); have n2_ := Aside0.mk (below_step (by repeat (first | (with_reducible first | exact HB.out | apply below_alloc | apply pw_below_drewN | apply below_drew1 | refine below_set ?_ GE101.out | refine below_set ?_ GE102.out) | exact HB.out)) hb); clear BK101; clear BK102; clear HB; have BK101 := n0_; have BK102 := n1_; have HB := n2_; clear n0_ n1_ n2_; (try clear hb); (try clear hb2); (try clear hk); (try clear hi)) | ((with_reducible refine gate_callee (f := 53) rfl ?_); refine goesL_ (some 18) rfl rfl Try.func53 (by kernel_rfl) rfl #[.int .i64 a1, .int .i64 0, .int .i64 (wrap64 (t104 - 1))] rfl (by (try simp only [List.map_toArray, List.map_cons, List.map_nil]); first | done | rfl | (simp only [List.length_drop, List.length_take]; rfl)) ?_; (with_reducible refine (spec_l07In.calls a1 0 (wrap64 (t104 - 1)) false _ A13.out).mono ?_); rintro e w' ⟨rfl, ⟨nd, rfl⟩⟩; refine ⟨_, rfl, ?_⟩))
        go_meet
        case rel => exact ⟨_, (true), (by first | rfl | (simp; done) | (simp [*]; done)), H', ⟨by first | omega | exact Nat.le_refl _⟩, ⟨by (with_reducible repeat (first | refine blk_drewN ?_ _ | refine blk_drew ?_ | refine blk_alloc ?_ _)); exact BK101.out⟩, ⟨by (with_reducible repeat (first | refine blk_drewN ?_ _ | refine blk_drew ?_ | refine blk_alloc ?_ _)); exact BK102.out⟩, ⟨by repeat (first | (with_reducible first | exact HB.out | apply below_alloc | apply pw_below_drewN | apply below_drew1 | refine below_set ?_ GE101.out | refine below_set ?_ GE102.out) | exact HB.out)⟩⟩
    case rest =>
      clear HC6
      try clear c1
      try clear p2
      try clear c3
      try clear c5
      try clear p6
      try clear c9
      try clear c14
      try clear c16
      try clear c19
      try clear hcz10_0
      try clear hcz17_0
      try clear hcz20_0
      try clear hfz10_0
      try clear hfz17_0
      try clear hfz20_0
      obtain ⟨kq, x24_5, rfl, HA, HJ5, BK101, BK102, HB⟩ := hcut
      cases kq with
      | zero => exact absurd HA.out (by simp [spec_UnglueFace.j0])
      | succ kj5 =>
        have H := HA.out
        clear HA
        simp only [spec_UnglueFace.j0] at H
        by_cases c22 : x24_5 = true
        · subst c22
          have H1 : (some (([] : List (List (SFace))), 2)) = some (r1, r2) := by rw [if_pos rfl] at H; exact H
          clear H
          have H := H1
          clear H1
          simp only [Option.some.injEq, Prod.mk.injEq] at H
          obtain ⟨rfl, rfl⟩ := H
          have hnb23 := NB102_101.out
          have hnc23 := NB101_102.out
          have hcz24_0 : wc.cell? ⟨gb102, 0, none⟩ = some (.slice none 0 0) := (blk_cell BK102.out 0).trans rfl
          have hfz24_0 := blk_frozen BK102.out 0
          go_wp2
          refine bodyPost_ret (results_ct rfl _ _ gb102 29 #[.slice none 0 0] (0, 0) _ rfl (by (with_reducible repeat (first | refine blk_drewN ?_ _ | refine blk_drew ?_ | refine blk_alloc ?_ _)); refine blk_put (cs := #[.slice none 0 0]) ?_ 0 _ rfl; (with_reducible repeat (first | refine blk_drewN ?_ _ | refine blk_drew ?_ | refine blk_alloc ?_ _)); exact BK102.out) Try.underlying29 rfl (by kernel_rfl)) rfl ?_
          exact ⟨_, by first | rfl | (simp [errW_none, errW_some] <;> rfl) | (simp [*, errW_none, errW_some] <;> rfl), by first | exact Kd.S_nil _ _ _ _ _ | exact Kd.N_nil _ _ _ _ _ | exact Kd.V_nil _ _ _ _ _ | exact Kd.Q_nil _ _ _ _ _ | exact Kd.R_nil _ _ _ _ _, by repeat (first | (with_reducible first | exact HB.out | apply below_alloc | apply pw_below_drewN | apply below_drew1 | refine below_set ?_ GE101.out | refine below_set ?_ GE102.out) | exact HB.out)⟩
        · replace c22 := Bool.eq_false_iff.mpr c22
          subst c22
          have H1 : (if 0 ≤ a1 then (if a1 < (l0_0.length : Int) then (if 0 ≤ a2 then (if a2 < ((rd_LFace l0_0 a1).length : Int) then (if ((rd_Face (rd_LFace l0_0 a1) a2).f0) < 0 then (some (([] : List (List (SFace))), 5)) else ((spec_l07Own.f kj5 l0_0).bind fun t110 => (if a1 < (t110.length : Int) then (if a2 < ((rd_LFace t110 a1).length : Int) then ((some (t110.set (a1 : Int).toNat ((rd_LFace t110 a1).set (a2 : Int).toNat (⟨(-1), 0⟩ : SFace)) : List (List (SFace)))).bind fun y117 => (if 0 ≤ ((rd_Face (rd_LFace l0_0 a1) a2).f0) then (if ((rd_Face (rd_LFace l0_0 a1) a2).f0) < (t110.length : Int) then ((spec_l06At.f kj5 ((rd_Face (rd_LFace l0_0 a1) a2).f1) a2).bind fun t119 => (if 0 ≤ t119 then (if t119 < ((rd_LFace y117 ((rd_Face (rd_LFace l0_0 a1) a2).f0)).length : Int) then (some ((y117.set (((rd_Face (rd_LFace l0_0 a1) a2).f0) : Int).toNat ((rd_LFace y117 ((rd_Face (rd_LFace l0_0 a1) a2).f0)).set (t119 : Int).toNat (⟨(-1), 0⟩ : SFace))), 0)) else (none)) else (none))) else (none)) else (none))) else (none)) else (none)))) else (none)) else (none)) else (none)) else (none)) = some (r1, r2) := by rw [if_neg (show ¬ (false = true) by decide)] at H; exact H
          clear H
          have H := H1
          clear H1
          by_cases c25 : 0 ≤ a1
          · rw [if_pos c25] at H
            have c25b0 : decide (0 ≤ a1) = true := decide_eq_true c25
            clear c25
            by_cases c26 : a1 < (l0_0.length : Int)
            · rw [if_pos c26] at H
              have c26b0 : decide (a1 < (l0_0.length : Int)) = true := decide_eq_true c26
              clear c26
              by_cases c27 : 0 ≤ a2
              · rw [if_pos c27] at H
                have c27b0 : decide (0 ≤ a2) = true := decide_eq_true c27
                clear c27
                by_cases c28 : a2 < ((rd_LFace l0_0 a1).length : Int)
                · rw [if_pos c28] at H
                  have c28b0 : decide (a2 < ((rd_LFace l0_0 a1).length : Int)) = true := decide_eq_true c28
                  clear c28
                  by_cases c29 : ((rd_Face (rd_LFace l0_0 a1) a2).f0) < 0
                  · rw [if_pos c29] at H
                    have c29b0 : decide (((rd_Face (rd_LFace l0_0 a1) a2).f0) < 0) = true := decide_eq_true c29
                    clear c29
                    simp only [Option.some.injEq, Prod.mk.injEq] at H
                    obtain ⟨rfl, rfl⟩ := H
                    have hnb30 := NB101_102.out
                    have hnc30 := NB102_101.out
                    have hcz31_0 : wc.cell? ⟨gb101, 0, none⟩ = some (.slice A0_0 l0_0.length c0_0) := (blk_cell BK101.out 0).trans rfl
                    have hfz31_0 := blk_frozen BK101.out 0
                    have p107 : 0 ≤ (a1 : Int) := of_decide_eq_true (by first | (with_reducible assumption) | assumption)
                    have q107 : a1 < (l0_0.length : Int) := of_decide_eq_true (by first | (with_reducible assumption) | assumption)
                    obtain ⟨ad107, A107_0, c107_0, e107, hx107_0, hl107_0, hi107_0⟩ := at_LFace HR0_0.out a1 p107 q107
                    cases e107
                    replace hx107_0 := (HB.out.cell (World.block_lt_of_cell? w _ hx107_0)).trans hx107_0
                    have HR107_0 := Aside0.mk hi107_0
                    have HC107_0 := Aside0.mk hl107_0
                    clear hi107_0 hl107_0
                    replace p107 := eq_true p107
                    replace q107 := eq_true q107
                    have p108 : 0 ≤ (a2 : Int) := of_decide_eq_true (by first | (with_reducible assumption) | assumption)
                    have q108 : a2 < ((rd_LFace l0_0 a1).length : Int) := of_decide_eq_true (by first | (with_reducible assumption) | assumption)
                    obtain ⟨ad108, e108, hx108_0, hx108_1⟩ := at_Face HR107_0.out a2 p108 q108
                    cases e108
                    replace hx108_0 := (HB.out.cell (World.block_lt_of_cell? w _ hx108_0)).trans hx108_0
                    replace hx108_1 := (HB.out.cell (World.block_lt_of_cell? w _ hx108_1)).trans hx108_1
                    replace p108 := eq_true p108
                    replace q108 := eq_true q108
                    go_wp2_with (first | ((with_reducible refine gate_dst (N := 8) rfl ?_); refine box_event ?hg (N := 8) ?hd (cs := #[.int .i64 0, .int .i64 0]) (t := 61) ?hr ?_; (case hd => rfl); (case hg => rfl); (case hr => first | (go_simp; done) | (go_simp; rfl)); intro gb109 hg w32 hbox hb; have n0_ := Aside0.mk (blk_below (g := gb101) (o := .cells #[.slice (some ad107) l0_0.length c0_0] 29 (0, 0)) (by (with_reducible repeat (first | refine blk_drewN ?_ _ | refine blk_drew ?_ | refine blk_alloc ?_ _)); exact BK101.out) hb); have n1_ := Aside0.mk (blk_below (g := gb102) (o := .cells #[.slice none 0 0] 29 (0, 0)) (by (with_reducible repeat (first | refine blk_drewN ?_ _ | refine blk_drew ?_ | refine blk_alloc ?_ _)); exact BK102.out) hb); have n2_ := Aside0.mk (below_step (by repeat (first | (with_reducible first | exact HB.out | apply below_alloc | apply pw_below_drewN | apply below_drew1 | refine below_set ?_ GE101.out | refine below_set ?_ GE102.out) | exact HB.out)) hb); have n3_ := Aside0.mk (hbox); have n4_ := Aside0.mk ((by rw [hg]; exact (below_size (by repeat (first | (with_reducible first | exact HB.out | apply below_alloc | apply pw_below_drewN | apply below_drew1 | refine below_set ?_ GE101.out | refine below_set ?_ GE102.out) | exact HB.out))) : w.heap.size ≤ gb109)); have n5_ := Aside0.mk ((by rw [hg]; exact (below_size (by repeat (first | (with_reducible first | exact HB.out | apply below_alloc | apply pw_below_drewN | apply below_drew1 | refine below_set ?_ GE101.out | refine below_set ?_ GE102.out) | exact HB.out))) : w.heap.size ≤ gb109)); have n6_ := Aside0.mk ((by rw [hg]; exact Nat.ne_of_lt (blk_lt (g := gb101) (o := .cells #[.slice (some ad107) l0_0.length c0_0] 29 (0, 0)) (by (with_reducible repeat (first | refine blk_drewN ?_ _ | refine blk_drew ?_ | refine blk_alloc ?_ _)); exact BK101.out)) : gb101 ≠ gb109)); have n7_ := Aside0.mk ((by rw [hg]; exact Nat.ne_of_gt (blk_lt (g := gb101) (o := .cells #[.slice (some ad107) l0_0.length c0_0] 29 (0, 0)) (by (with_reducible repeat (first | refine blk_drewN ?_ _ | refine blk_drew ?_ | refine blk_alloc ?_ _)); exact BK101.out)) : gb109 ≠ gb101)); have n8_ := Aside0.mk ((by rw [hg]; exact Nat.ne_of_lt (blk_lt (g := gb102) (o := .cells #[.slice none 0 0] 29 (0, 0)) (by (with_reducible repeat (first | refine blk_drewN ?_ _ | refine blk_drew ?_ | refine blk_alloc ?_ _)); exact BK102.out)) : gb102 ≠ gb109)); have n9_ := Aside0.mk ((by rw [hg]; exact Nat.ne_of_gt (blk_lt (g := gb102) (o := .cells #[.slice none 0 0] 29 (0, 0)) (by (with_reducible repeat (first | refine blk_drewN ?_ _ | refine blk_drew ?_ | refine blk_alloc ?_ _)); exact BK102.out)) : gb109 ≠ gb102)); clear BK101; clear BK102; clear HB; have BK101 := n0_; have BK102 := n1_; have HB := n2_; have BK109 := n3_; have GW109 := n4_; have GE109 := n5_; have NB101_109 := n6_; have NB109_101 := n7_; have NB102_109 := n8_; have NB109_102 := n9_; clear n0_ n1_ n2_ n3_ n4_ n5_ n6_ n7_ n8_ n9_; clear hb hbox hg; have hnb33 := NB109_101.out; have hnc33 := NB101_109.out; have hnb34 := NB109_102.out; have hnc34 := NB102_109.out; have hcz35_0 : w32.cell? ⟨gb109, 0, none⟩ = some (.int .i64 0) := (blk_cell BK109.out 0).trans rfl; have hcz35_1 : w32.cell? ⟨gb109, 1, none⟩ = some (.int .i64 0) := (blk_cell BK109.out 1).trans rfl; have hfz35_0 := blk_frozen BK109.out 0; have hfz35_1 := blk_frozen BK109.out 1; have hcz36_0 : w32.cell? ⟨gb102, 0, none⟩ = some (.slice none 0 0) := (blk_cell BK102.out 0).trans rfl; have hfz36_0 := blk_frozen BK102.out 0))
                    refine bodyPost_ret (results_ct rfl _ _ gb102 29 #[.slice none 0 0] (0, 0) _ rfl (by (with_reducible repeat (first | refine blk_drewN ?_ _ | refine blk_drew ?_ | refine blk_alloc ?_ _)); refine blk_put (cs := #[.slice none 0 0]) ?_ 0 _ rfl; (with_reducible repeat (first | refine blk_drewN ?_ _ | refine blk_drew ?_ | refine blk_alloc ?_ _)); refine blk_far ?_ NB102_109.out _; (with_reducible repeat (first | refine blk_drewN ?_ _ | refine blk_drew ?_ | refine blk_alloc ?_ _)); refine blk_far ?_ NB102_109.out _; (with_reducible repeat (first | refine blk_drewN ?_ _ | refine blk_drew ?_ | refine blk_alloc ?_ _)); exact BK102.out) Try.underlying29 rfl (by kernel_rfl)) rfl ?_
                    exact ⟨_, by first | rfl | (simp [errW_none, errW_some] <;> rfl) | (simp [*, errW_none, errW_some] <;> rfl), by first | exact Kd.S_nil _ _ _ _ _ | exact Kd.N_nil _ _ _ _ _ | exact Kd.V_nil _ _ _ _ _ | exact Kd.Q_nil _ _ _ _ _ | exact Kd.R_nil _ _ _ _ _, by repeat (first | (with_reducible first | exact HB.out | apply below_alloc | apply pw_below_drewN | apply below_drew1 | refine below_set ?_ GE101.out | refine below_set ?_ GE102.out | refine below_set ?_ GE109.out) | exact HB.out)⟩
                  · rw [if_neg c29] at H
                    have c29b0 : decide (((rd_Face (rd_LFace l0_0 a1) a2).f0) < 0) = false := decide_eq_false c29
                    clear c29
                    replace H := Option.bind_eq_some_iff.mp H
                    obtain ⟨t110, A370, H⟩ := H
                    replace H : (if a1 < (t110.length : Int) then (if a2 < ((rd_LFace t110 a1).length : Int) then ((some (t110.set (a1 : Int).toNat ((rd_LFace t110 a1).set (a2 : Int).toNat (⟨(-1), 0⟩ : SFace)) : List (List (SFace)))).bind fun y117 => (if 0 ≤ ((rd_Face (rd_LFace l0_0 a1) a2).f0) then (if ((rd_Face (rd_LFace l0_0 a1) a2).f0) < (t110.length : Int) then ((spec_l06At.f kj5 ((rd_Face (rd_LFace l0_0 a1) a2).f1) a2).bind fun t119 => (if 0 ≤ t119 then (if t119 < ((rd_LFace y117 ((rd_Face (rd_LFace l0_0 a1) a2).f0)).length : Int) then (some ((y117.set (((rd_Face (rd_LFace l0_0 a1) a2).f0) : Int).toNat ((rd_LFace y117 ((rd_Face (rd_LFace l0_0 a1) a2).f0)).set (t119 : Int).toNat (⟨(-1), 0⟩ : SFace))), 0)) else (none)) else (none))) else (none)) else (none))) else (none)) else (none)) = some (r1, r2) := H
                    have A37 := Aside0.mk A370
                    clear A370
                    by_cases c38 : a1 < (t110.length : Int)
                    · rw [if_pos c38] at H
                      have c38b0 : decide (a1 < (t110.length : Int)) = true := decide_eq_true c38
                      clear c38
                      by_cases c39 : a2 < ((rd_LFace t110 a1).length : Int)
                      · rw [if_pos c39] at H
                        have c39b0 : decide (a2 < ((rd_LFace t110 a1).length : Int)) = true := decide_eq_true c39
                        clear c39
                        obtain ⟨y115, hy115⟩ : ∃ y_ : List (SFace), y_ = ((rd_LFace t110 a1).set (a2 : Int).toNat (⟨(-1), 0⟩ : SFace)) := ⟨_, rfl⟩
                        replace H : ((some (t110.set (a1 : Int).toNat y115 : List (List (SFace)))).bind fun y117 => (if 0 ≤ ((rd_Face (rd_LFace l0_0 a1) a2).f0) then (if ((rd_Face (rd_LFace l0_0 a1) a2).f0) < (t110.length : Int) then ((spec_l06At.f kj5 ((rd_Face (rd_LFace l0_0 a1) a2).f1) a2).bind fun t119 => (if 0 ≤ t119 then (if t119 < ((rd_LFace y117 ((rd_Face (rd_LFace l0_0 a1) a2).f0)).length : Int) then (some ((y117.set (((rd_Face (rd_LFace l0_0 a1) a2).f0) : Int).toNat ((rd_LFace y117 ((rd_Face (rd_LFace l0_0 a1) a2).f0)).set (t119 : Int).toNat (⟨(-1), 0⟩ : SFace))), 0)) else (none)) else (none))) else (none)) else (none))) = some (r1, r2) := by first | (rw [hy115]; with_reducible exact H) | (have H2_ := (Option.bind_some _ _).symm.trans H; rw [hy115]; with_reducible exact H2_) | (have H2_ := (Option.bind_some _ _).symm.trans H; with_reducible exact H2_) | with_reducible exact H | (rw [hy115]; exact H) | exact H
                        have Ny115 := Aside0.mk hy115
                        clear hy115
                        obtain ⟨y117, hy117⟩ : ∃ y_ : List (List (SFace)), y_ = (t110.set (a1 : Int).toNat y115) := ⟨_, rfl⟩
                        replace H : (if 0 ≤ ((rd_Face (rd_LFace l0_0 a1) a2).f0) then (if ((rd_Face (rd_LFace l0_0 a1) a2).f0) < (t110.length : Int) then ((spec_l06At.f kj5 ((rd_Face (rd_LFace l0_0 a1) a2).f1) a2).bind fun t119 => (if 0 ≤ t119 then (if t119 < ((rd_LFace y117 ((rd_Face (rd_LFace l0_0 a1) a2).f0)).length : Int) then (some ((y117.set (((rd_Face (rd_LFace l0_0 a1) a2).f0) : Int).toNat ((rd_LFace y117 ((rd_Face (rd_LFace l0_0 a1) a2).f0)).set (t119 : Int).toNat (⟨(-1), 0⟩ : SFace))), 0)) else (none)) else (none))) else (none)) else (none)) = some (r1, r2) := by first | (rw [hy117]; with_reducible exact H) | (have H2_ := (Option.bind_some _ _).symm.trans H; rw [hy117]; with_reducible exact H2_) | (have H2_ := (Option.bind_some _ _).symm.trans H; with_reducible exact H2_) | with_reducible exact H | (rw [hy117]; exact H) | exact H
                        have Ny117 := Aside0.mk hy117
                        clear hy117
                        by_cases c41 : 0 ≤ ((rd_Face (rd_LFace l0_0 a1) a2).f0)
                        · rw [if_pos c41] at H
                          have c41b0 : decide (0 ≤ ((rd_Face (rd_LFace l0_0 a1) a2).f0)) = true := decide_eq_true c41
                          clear c41
                          by_cases c42 : ((rd_Face (rd_LFace l0_0 a1) a2).f0) < (t110.length : Int)
                          · rw [if_pos c42] at H
                            have c42b0 : decide (((rd_Face (rd_LFace l0_0 a1) a2).f0) < (t110.length : Int)) = true := decide_eq_true c42
                            clear c42
                            replace H := Option.bind_eq_some_iff.mp H
                            obtain ⟨t119, A430, H⟩ := H
                            replace H : (if 0 ≤ t119 then (if t119 < ((rd_LFace y117 ((rd_Face (rd_LFace l0_0 a1) a2).f0)).length : Int) then (some ((y117.set (((rd_Face (rd_LFace l0_0 a1) a2).f0) : Int).toNat ((rd_LFace y117 ((rd_Face (rd_LFace l0_0 a1) a2).f0)).set (t119 : Int).toNat (⟨(-1), 0⟩ : SFace))), 0)) else (none)) else (none)) = some (r1, r2) := H
                            have A43 := Aside0.mk A430
                            clear A430
                            by_cases c44 : 0 ≤ t119
                            · rw [if_pos c44] at H
                              have c44b0 : decide (0 ≤ t119) = true := decide_eq_true c44
                              clear c44
                              by_cases c45 : t119 < ((rd_LFace y117 ((rd_Face (rd_LFace l0_0 a1) a2).f0)).length : Int)
                              · rw [if_pos c45] at H
                                have c45b0 : decide (t119 < ((rd_LFace y117 ((rd_Face (rd_LFace l0_0 a1) a2).f0)).length : Int)) = true := decide_eq_true c45
                                clear c45
                                obtain ⟨y120, hy120⟩ : ∃ y_ : List (SFace), y_ = ((rd_LFace y117 ((rd_Face (rd_LFace l0_0 a1) a2).f0)).set (t119 : Int).toNat (⟨(-1), 0⟩ : SFace)) := ⟨_, rfl⟩
                                replace H : (some ((y117.set (((rd_Face (rd_LFace l0_0 a1) a2).f0) : Int).toNat y120), 0)) = some (r1, r2) := by first | (rw [hy120]; with_reducible exact H) | (have H2_ := (Option.bind_some _ _).symm.trans H; rw [hy120]; with_reducible exact H2_) | (have H2_ := (Option.bind_some _ _).symm.trans H; with_reducible exact H2_) | with_reducible exact H | (rw [hy120]; exact H) | exact H
                                have Ny120 := Aside0.mk hy120
                                clear hy120
                                obtain ⟨y122, hy122⟩ : ∃ y_ : List (List (SFace)), y_ = (y117.set (((rd_Face (rd_LFace l0_0 a1) a2).f0) : Int).toNat y120) := ⟨_, rfl⟩
                                replace H : (some (y122, 0)) = some (r1, r2) := by first | (rw [hy122]; with_reducible exact H) | (have H2_ := (Option.bind_some _ _).symm.trans H; rw [hy122]; with_reducible exact H2_) | (have H2_ := (Option.bind_some _ _).symm.trans H; with_reducible exact H2_) | with_reducible exact H | (rw [hy122]; exact H) | exact H
                                have Ny122 := Aside0.mk hy122
                                clear hy122
                                simp only [Option.some.injEq, Prod.mk.injEq] at H
                                obtain ⟨rfl, rfl⟩ := H
                                have hnb47 := NB101_102.out
                                have hnc47 := NB102_101.out
                                have hcz48_0 : wc.cell? ⟨gb101, 0, none⟩ = some (.slice A0_0 l0_0.length c0_0) := (blk_cell BK101.out 0).trans rfl
                                have hfz48_0 := blk_frozen BK101.out 0
                                have p107 : 0 ≤ (a1 : Int) := of_decide_eq_true (by first | (with_reducible assumption) | assumption)
                                have q107 : a1 < (l0_0.length : Int) := of_decide_eq_true (by first | (with_reducible assumption) | assumption)
                                obtain ⟨ad107, A107_0, c107_0, e107, hx107_0, hl107_0, hi107_0⟩ := at_LFace HR0_0.out a1 p107 q107
                                cases e107
                                replace hx107_0 := (HB.out.cell (World.block_lt_of_cell? w _ hx107_0)).trans hx107_0
                                have HR107_0 := Aside0.mk hi107_0
                                have HC107_0 := Aside0.mk hl107_0
                                clear hi107_0 hl107_0
                                replace p107 := eq_true p107
                                replace q107 := eq_true q107
                                have p108 : 0 ≤ (a2 : Int) := of_decide_eq_true (by first | (with_reducible assumption) | assumption)
                                have q108 : a2 < ((rd_LFace l0_0 a1).length : Int) := of_decide_eq_true (by first | (with_reducible assumption) | assumption)
                                obtain ⟨ad108, e108, hx108_0, hx108_1⟩ := at_Face HR107_0.out a2 p108 q108
                                cases e108
                                replace hx108_0 := (HB.out.cell (World.block_lt_of_cell? w _ hx108_0)).trans hx108_0
                                replace hx108_1 := (HB.out.cell (World.block_lt_of_cell? w _ hx108_1)).trans hx108_1
                                replace p108 := eq_true p108
                                replace q108 := eq_true q108
                                try go_wp2_with (first | ((with_reducible refine gate_dst (N := 8) rfl ?_); refine box_event ?hg (N := 8) ?hd (cs := #[.int .i64 0, .int .i64 0]) (t := 61) ?hr ?_; (case hd => rfl); (case hg => rfl); (case hr => first | (go_simp; done) | (go_simp; rfl)); intro gb109 hg w49 hbox hb; have n0_ := Aside0.mk (blk_below (g := gb101) (o := .cells #[.slice (some ad107) l0_0.length c0_0] 29 (0, 0)) (by (with_reducible repeat (first | refine blk_drewN ?_ _ | refine blk_drew ?_ | refine blk_alloc ?_ _)); exact BK101.out) hb); have n1_ := Aside0.mk (blk_below (g := gb102) (o := .cells #[.slice none 0 0] 29 (0, 0)) (by (with_reducible repeat (first | refine blk_drewN ?_ _ | refine blk_drew ?_ | refine blk_alloc ?_ _)); exact BK102.out) hb); have n2_ := Aside0.mk (below_step (by repeat (first | (with_reducible first | exact HB.out | apply below_alloc | apply pw_below_drewN | apply below_drew1 | refine below_set ?_ GE101.out | refine below_set ?_ GE102.out) | exact HB.out)) hb); have n3_ := Aside0.mk (hbox); have n4_ := Aside0.mk ((by rw [hg]; exact (below_size (by repeat (first | (with_reducible first | exact HB.out | apply below_alloc | apply pw_below_drewN | apply below_drew1 | refine below_set ?_ GE101.out | refine below_set ?_ GE102.out) | exact HB.out))) : w.heap.size ≤ gb109)); have n5_ := Aside0.mk ((by rw [hg]; exact (below_size (by repeat (first | (with_reducible first | exact HB.out | apply below_alloc | apply pw_below_drewN | apply below_drew1 | refine below_set ?_ GE101.out | refine below_set ?_ GE102.out) | exact HB.out))) : w.heap.size ≤ gb109)); have n6_ := Aside0.mk ((by rw [hg]; exact Nat.ne_of_lt (blk_lt (g := gb101) (o := .cells #[.slice (some ad107) l0_0.length c0_0] 29 (0, 0)) (by (with_reducible repeat (first | refine blk_drewN ?_ _ | refine blk_drew ?_ | refine blk_alloc ?_ _)); exact BK101.out)) : gb101 ≠ gb109)); have n7_ := Aside0.mk ((by rw [hg]; exact Nat.ne_of_gt (blk_lt (g := gb101) (o := .cells #[.slice (some ad107) l0_0.length c0_0] 29 (0, 0)) (by (with_reducible repeat (first | refine blk_drewN ?_ _ | refine blk_drew ?_ | refine blk_alloc ?_ _)); exact BK101.out)) : gb109 ≠ gb101)); have n8_ := Aside0.mk ((by rw [hg]; exact Nat.ne_of_lt (blk_lt (g := gb102) (o := .cells #[.slice none 0 0] 29 (0, 0)) (by (with_reducible repeat (first | refine blk_drewN ?_ _ | refine blk_drew ?_ | refine blk_alloc ?_ _)); exact BK102.out)) : gb102 ≠ gb109)); have n9_ := Aside0.mk ((by rw [hg]; exact Nat.ne_of_gt (blk_lt (g := gb102) (o := .cells #[.slice none 0 0] 29 (0, 0)) (by (with_reducible repeat (first | refine blk_drewN ?_ _ | refine blk_drew ?_ | refine blk_alloc ?_ _)); exact BK102.out)) : gb109 ≠ gb102)); clear BK101; clear BK102; clear HB; have BK101 := n0_; have BK102 := n1_; have HB := n2_; have BK109 := n3_; have GW109 := n4_; have GE109 := n5_; have NB101_109 := n6_; have NB109_101 := n7_; have NB102_109 := n8_; have NB109_102 := n9_; clear n0_ n1_ n2_ n3_ n4_ n5_ n6_ n7_ n8_ n9_; clear hb hbox hg; have hnb50 := NB109_101.out; have hnc50 := NB101_109.out; have hnb51 := NB109_102.out; have hnc51 := NB102_109.out; have hcz52_0 : w49.cell? ⟨gb109, 0, none⟩ = some (.int .i64 0) := (blk_cell BK109.out 0).trans rfl; have hcz52_1 : w49.cell? ⟨gb109, 1, none⟩ = some (.int .i64 0) := (blk_cell BK109.out 1).trans rfl; have hfz52_0 := blk_frozen BK109.out 0; have hfz52_1 := blk_frozen BK109.out 1; have hcz53_0 : w49.cell? ⟨gb101, 0, none⟩ = some (.slice (some ad107) l0_0.length c0_0) := (blk_cell BK101.out 0).trans rfl; have hfz53_0 := blk_frozen BK101.out 0) | ((with_reducible refine gate_callee (f := 69) rfl ?_); refine goesL_ (some 39) rfl rfl Try.func69 (by kernel_rfl) rfl #[.agg #[.slice (some ad107) l0_0.length c0_0]] rfl (by (try simp only [List.map_toArray, List.map_cons, List.map_nil]); first | done | rfl | (simp only [List.length_drop, List.length_take]; rfl)) ?_; (with_reducible refine (spec_l07Own.calls kj5 _ _ l0_0 t110 _ ?side1 ?side2 A37.out).mono ?_); (case side1 => exact Kd.C_below HR0_0.out (by repeat (first | (with_reducible first | exact HB.out | apply below_alloc | apply pw_below_drewN | apply below_drew1 | refine below_set ?_ GE101.out | refine below_set ?_ GE102.out | refine below_set ?_ GE109.out) | exact HB.out))); (case side2 => exact HC0_0.out); rintro e w54 ⟨v111, rfl, ho0, hb⟩; refine ⟨_, rfl, ?_⟩; have n0_ := Aside0.mk (Kd.S_lower (Kd.S_newB ho0 (g := gb109) (o := .cells #[.int .i64 ((rd_Face (rd_LFace l0_0 a1) a2).f0), .int .i64 ((rd_Face (rd_LFace l0_0 a1) a2).f1)] 61 (0, 0)) (by (with_reducible repeat (first | refine blk_drewN ?_ _ | refine blk_drew ?_ | refine blk_alloc ?_ _)); refine blk_put (cs := #[.int .i64 ((rd_Face (rd_LFace l0_0 a1) a2).f0), .int .i64 0]) ?_ 1 _ rfl; (with_reducible repeat (first | refine blk_drewN ?_ _ | refine blk_drew ?_ | refine blk_alloc ?_ _)); refine blk_put (cs := #[.int .i64 0, .int .i64 0]) ?_ 0 _ rfl; (with_reducible repeat (first | refine blk_drewN ?_ _ | refine blk_drew ?_ | refine blk_alloc ?_ _)); exact BK109.out)) (below_size (by repeat (first | (with_reducible first | exact HB.out | apply below_alloc | apply pw_below_drewN | apply below_drew1 | refine below_set ?_ GE101.out | refine below_set ?_ GE102.out | refine below_set ?_ GE109.out) | exact HB.out)))); have n1_ := Aside0.mk (blk_below (g := gb101) (o := .cells #[.slice (some ad107) l0_0.length c0_0] 29 (0, 0)) (by (with_reducible repeat (first | refine blk_drewN ?_ _ | refine blk_drew ?_ | refine blk_alloc ?_ _)); refine blk_far ?_ NB101_109.out _; (with_reducible repeat (first | refine blk_drewN ?_ _ | refine blk_drew ?_ | refine blk_alloc ?_ _)); refine blk_far ?_ NB101_109.out _; (with_reducible repeat (first | refine blk_drewN ?_ _ | refine blk_drew ?_ | refine blk_alloc ?_ _)); exact BK101.out) hb); have n2_ := Aside0.mk (blk_below (g := gb102) (o := .cells #[.slice none 0 0] 29 (0, 0)) (by (with_reducible repeat (first | refine blk_drewN ?_ _ | refine blk_drew ?_ | refine blk_alloc ?_ _)); refine blk_far ?_ NB102_109.out _; (with_reducible repeat (first | refine blk_drewN ?_ _ | refine blk_drew ?_ | refine blk_alloc ?_ _)); refine blk_far ?_ NB102_109.out _; (with_reducible repeat (first | refine blk_drewN ?_ _ | refine blk_drew ?_ | refine blk_alloc ?_ _)); exact BK102.out) hb); have n3_ := Aside0.mk (blk_below (g := gb109) (o := .cells #[.int .i64 ((rd_Face (rd_LFace l0_0 a1) a2).f0), .int .i64 ((rd_Face (rd_LFace l0_0 a1) a2).f1)] 61 (0, 0)) (by (with_reducible repeat (first | refine blk_drewN ?_ _ | refine blk_drew ?_ | refine blk_alloc ?_ _)); refine blk_put (cs := #[.int .i64 ((rd_Face (rd_LFace l0_0 a1) a2).f0), .int .i64 0]) ?_ 1 _ rfl; (with_reducible repeat (first | refine blk_drewN ?_ _ | refine blk_drew ?_ | refine blk_alloc ?_ _)); refine blk_put (cs := #[.int .i64 0, .int .i64 0]) ?_ 0 _ rfl; (with_reducible repeat (first | refine blk_drewN ?_ _ | refine blk_drew ?_ | refine blk_alloc ?_ _)); exact BK109.out) hb); have n4_ := Aside0.mk (below_step (by repeat (first | (with_reducible first | exact HB.out | apply below_alloc | apply pw_below_drewN | apply below_drew1 | refine below_set ?_ GE101.out | refine below_set ?_ GE102.out | refine below_set ?_ GE109.out) | exact HB.out)) hb); clear BK101; clear BK102; clear BK109; clear HB; have HO112 := n0_; have BK101 := n1_; have BK102 := n2_; have BK109 := n3_; have HB := n4_; clear n0_ n1_ n2_ n3_ n4_; (try clear hb); (try clear hb2); (try clear hk); (try clear hi); (try clear ho0)) | ((with_reducible refine gate_dst (N := 9) rfl ?_); refine box_event ?hg (N := 9) ?hd (cs := #[.slice none 0 0]) (t := 29) ?hr ?_; (case hd => rfl); (case hg => rfl); (case hr => first | (go_simp; done) | (go_simp; rfl)); intro gb113 hg w55 hbox hb; have n0_ := Aside0.mk (Kd.S_below (by (with_reducible repeat (first | apply Kd.S_alloc | apply Kd.S_drewN | apply Kd.S_drew)); exact HO112.out) hb); have n1_ := Aside0.mk (blk_below (g := gb101) (o := .cells #[.slice (some ad107) l0_0.length c0_0] 29 (0, 0)) (by (with_reducible repeat (first | refine blk_drewN ?_ _ | refine blk_drew ?_ | refine blk_alloc ?_ _)); exact BK101.out) hb); have n2_ := Aside0.mk (blk_below (g := gb102) (o := .cells #[.slice none 0 0] 29 (0, 0)) (by (with_reducible repeat (first | refine blk_drewN ?_ _ | refine blk_drew ?_ | refine blk_alloc ?_ _)); exact BK102.out) hb); have n3_ := Aside0.mk (blk_below (g := gb109) (o := .cells #[.int .i64 ((rd_Face (rd_LFace l0_0 a1) a2).f0), .int .i64 ((rd_Face (rd_LFace l0_0 a1) a2).f1)] 61 (0, 0)) (by (with_reducible repeat (first | refine blk_drewN ?_ _ | refine blk_drew ?_ | refine blk_alloc ?_ _)); exact BK109.out) hb); have n4_ := Aside0.mk (below_step (by repeat (first | (with_reducible first | exact HB.out | apply below_alloc | apply pw_below_drewN | apply below_drew1 | refine below_set ?_ GE101.out | refine below_set ?_ GE102.out | refine below_set ?_ GE109.out) | exact HB.out)) hb); have n5_ := Aside0.mk (hbox); have n6_ := Aside0.mk ((by rw [hg]; exact (below_size (by repeat (first | (with_reducible first | exact HB.out | apply below_alloc | apply pw_below_drewN | apply below_drew1 | refine below_set ?_ GE101.out | refine below_set ?_ GE102.out | refine below_set ?_ GE109.out) | exact HB.out))) : w.heap.size ≤ gb113)); have n7_ := Aside0.mk ((by rw [hg]; exact (below_size (by repeat (first | (with_reducible first | exact HB.out | apply below_alloc | apply pw_below_drewN | apply below_drew1 | refine below_set ?_ GE101.out | refine below_set ?_ GE102.out | refine below_set ?_ GE109.out) | exact HB.out))) : w.heap.size ≤ gb113)); have n8_ := Aside0.mk ((by rw [hg]; exact Nat.ne_of_lt (blk_lt (g := gb101) (o := .cells #[.slice (some ad107) l0_0.length c0_0] 29 (0, 0)) (by (with_reducible repeat (first | refine blk_drewN ?_ _ | refine blk_drew ?_ | refine blk_alloc ?_ _)); exact BK101.out)) : gb101 ≠ gb113)); have n9_ := Aside0.mk ((by rw [hg]; exact Nat.ne_of_gt (blk_lt (g := gb101) (o := .cells #[.slice (some ad107) l0_0.length c0_0] 29 (0, 0)) (by (with_reducible repeat (first | refine blk_drewN ?_ _ | refine blk_drew ?_ | refine blk_alloc ?_ _)); exact BK101.out)) : gb113 ≠ gb101)); have n10_ := Aside0.mk ((by rw [hg]; exact Nat.ne_of_lt (blk_lt (g := gb102) (o := .cells #[.slice none 0 0] 29 (0, 0)) (by (with_reducible repeat (first | refine blk_drewN ?_ _ | refine blk_drew ?_ | refine blk_alloc ?_ _)); exact BK102.out)) : gb102 ≠ gb113)); have n11_ := Aside0.mk ((by rw [hg]; exact Nat.ne_of_gt (blk_lt (g := gb102) (o := .cells #[.slice none 0 0] 29 (0, 0)) (by (with_reducible repeat (first | refine blk_drewN ?_ _ | refine blk_drew ?_ | refine blk_alloc ?_ _)); exact BK102.out)) : gb113 ≠ gb102)); have n12_ := Aside0.mk ((by rw [hg]; exact Nat.ne_of_lt (blk_lt (g := gb109) (o := .cells #[.int .i64 ((rd_Face (rd_LFace l0_0 a1) a2).f0), .int .i64 ((rd_Face (rd_LFace l0_0 a1) a2).f1)] 61 (0, 0)) (by (with_reducible repeat (first | refine blk_drewN ?_ _ | refine blk_drew ?_ | refine blk_alloc ?_ _)); exact BK109.out)) : gb109 ≠ gb113)); have n13_ := Aside0.mk ((by rw [hg]; exact Nat.ne_of_gt (blk_lt (g := gb109) (o := .cells #[.int .i64 ((rd_Face (rd_LFace l0_0 a1) a2).f0), .int .i64 ((rd_Face (rd_LFace l0_0 a1) a2).f1)] 61 (0, 0)) (by (with_reducible repeat (first | refine blk_drewN ?_ _ | refine blk_drew ?_ | refine blk_alloc ?_ _)); exact BK109.out)) : gb113 ≠ gb109)); clear HO112; clear BK101; clear BK102; clear BK109; clear HB; have HO112 := n0_; have BK101 := n1_; have BK102 := n2_; have BK109 := n3_; have HB := n4_; have BK113 := n5_; have GW113 := n6_; have GE113 := n7_; have NB101_113 := n8_; have NB113_101 := n9_; have NB102_113 := n10_; have NB113_102 := n11_; have NB109_113 := n12_; have NB113_109 := n13_; clear n0_ n1_ n2_ n3_ n4_ n5_ n6_ n7_ n8_ n9_ n10_ n11_ n12_ n13_; clear hb hbox hg; obtain ⟨Ao56, co56, eo56⟩ := Kd.S_slice HO112.out; subst eo56; have hnb57 := NB113_101.out; have hnc57 := NB101_113.out; have hnb58 := NB113_102.out; have hnc58 := NB102_113.out; have hnb59 := NB113_109.out; have hnc59 := NB109_113.out; have hcz60_0 : w55.cell? ⟨gb113, 0, none⟩ = some (.slice none 0 0) := (blk_cell BK113.out 0).trans rfl; have hfz60_0 := blk_frozen BK113.out 0) | ((with_reducible refine gate_store (t := 29) (p := 9) rfl ?_); refine store_event (t := 29) (p := 9) (v := ?vo_w61) (w1 := (w55.setCell ⟨gb113, 0, none⟩ (.slice Ao56 t110.length co56))) ?hg ?ho ?hn ?hr ?_; (case ho => rfl); (case hg => rfl); (case hn => rfl); (case hr => first | (go_simp; done) | (go_simp; rfl)); intro w61 hw; have n0_ : Aside0 (Kd.S (Kd.slice 61 kFace) 59 w61 w.heap.size (fun k_ => k_ ≠ gb109) (.slice Ao56 t110.length co56) t110) := ⟨(by rw [hw]; exact (by (with_reducible repeat (first | apply Kd.S_alloc | apply Kd.S_drewN | apply Kd.S_drew)); exact Kd.S_mono (Kd.S_far (p := ⟨gb113, 0, none⟩) (Kd.S_types HO112.out BK113.out (by decide)) (fun _ hk => hk.2) (.slice Ao56 t110.length co56)) (fun _ hk => hk.1.2)))⟩; have n1_ : Aside0 (w61.heap[gb101]? = some (.cells #[.slice (some ad107) l0_0.length c0_0] 29 (0, 0))) := ⟨(by rw [hw]; exact (by (with_reducible repeat (first | refine blk_drewN ?_ _ | refine blk_drew ?_ | refine blk_alloc ?_ _)); refine blk_far ?_ NB101_113.out _; (with_reducible repeat (first | refine blk_drewN ?_ _ | refine blk_drew ?_ | refine blk_alloc ?_ _)); exact BK101.out))⟩; have n2_ : Aside0 (w61.heap[gb102]? = some (.cells #[.slice none 0 0] 29 (0, 0))) := ⟨(by rw [hw]; exact (by (with_reducible repeat (first | refine blk_drewN ?_ _ | refine blk_drew ?_ | refine blk_alloc ?_ _)); refine blk_far ?_ NB102_113.out _; (with_reducible repeat (first | refine blk_drewN ?_ _ | refine blk_drew ?_ | refine blk_alloc ?_ _)); exact BK102.out))⟩; have n3_ : Aside0 (w61.heap[gb109]? = some (.cells #[.int .i64 ((rd_Face (rd_LFace l0_0 a1) a2).f0), .int .i64 ((rd_Face (rd_LFace l0_0 a1) a2).f1)] 61 (0, 0))) := ⟨(by rw [hw]; exact (by (with_reducible repeat (first | refine blk_drewN ?_ _ | refine blk_drew ?_ | refine blk_alloc ?_ _)); refine blk_far ?_ NB109_113.out _; (with_reducible repeat (first | refine blk_drewN ?_ _ | refine blk_drew ?_ | refine blk_alloc ?_ _)); exact BK109.out))⟩; have n4_ : Aside0 (w61.heap[gb113]? = some (.cells #[.slice Ao56 t110.length co56] 29 (0, 0))) := ⟨(by rw [hw]; exact (by (with_reducible repeat (first | refine blk_drewN ?_ _ | refine blk_drew ?_ | refine blk_alloc ?_ _)); refine blk_put (cs := #[.slice none 0 0]) ?_ 0 _ rfl; (with_reducible repeat (first | refine blk_drewN ?_ _ | refine blk_drew ?_ | refine blk_alloc ?_ _)); exact BK113.out))⟩; have n5_ : Aside0 (Below w.heap.size w w61) := ⟨(by rw [hw]; exact (by repeat (first | (with_reducible first | exact HB.out | apply below_alloc | apply pw_below_drewN | apply below_drew1 | refine below_set ?_ GE101.out | refine below_set ?_ GE102.out | refine below_set ?_ GE109.out | refine below_set ?_ GE113.out) | exact HB.out)))⟩; clear hw; clear HO112; clear BK101; clear BK102; clear BK109; clear BK113; clear HB; have HO112 := n0_; have BK101 := n1_; have BK102 := n2_; have BK109 := n3_; have BK113 := n4_; have HB := n5_; clear n0_ n1_ n2_ n3_ n4_ n5_; have hcz62_0 : w61.cell? ⟨gb113, 0, none⟩ = some (.slice Ao56 t110.length co56) := (blk_cell BK113.out 0).trans rfl; have hfz62_0 := blk_frozen BK113.out 0; have p114 : 0 ≤ (a1 : Int) := of_decide_eq_true (by first | (with_reducible assumption) | assumption); have q114 : a1 < (t110.length : Int) := of_decide_eq_true (by first | (with_reducible assumption) | assumption); obtain ⟨ad114, A114_0, c114_0, e114, hx114_0, hl114_0, hi114_0⟩ := at_LFace (Kd.S_reads' HO112.out).2.2 a1 p114 q114; cases e114; obtain ⟨ce114, hce114, hMe114, hcc114⟩ := Kd.S_get HO112.out [] a1 p114 (by first | exact q114 | exact of_decide_eq_true (by first | (with_reducible assumption) | assumption) | (have e_ := (Kd.S_reads' HO112.out).1; omega)); obtain ⟨ve114_0, rfl, ge114_0⟩ := hMe114; have hv114_0 := hcc114 0 _ rfl; rw [Nat.add_zero, show ((Kd.slice 61 kFace)).sz = 1 from rfl, Nat.mul_one] at hv114_0; replace hv114_0 := Option.some.inj (hv114_0.symm.trans hx114_0); rw [hv114_0] at ge114_0; have HL114_0 := Aside0.mk (show Kd.R kFace 61 _ _ _ _ (rd_LFace t110 a1) from ge114_0); clear hv114_0 ge114_0; have HX114_0 := Aside0.mk hx114_0; clear hcc114 hce114; have HR114_0 := Aside0.mk hi114_0; have HC114_0 := Aside0.mk hl114_0; clear hi114_0 hl114_0; replace p114 := eq_true p114; replace q114 := eq_true q114; have p40 : 0 ≤ (a2 : Int) := of_decide_eq_true (by first | (with_reducible assumption) | assumption); have q40 : (a2 : Int) < (((rd_LFace t110 a1).length : Int) : Int) := of_decide_eq_true (by first | (with_reducible assumption) | assumption); obtain ⟨go40, co40, eo40, gb40, gl40, cl40, HG40⟩ := Kd.R_form HL114_0.out (by omega); (first | cases eo40 | (injection eo40 with ea_ en_ ec_; (first | subst ea_ | (injection ea_ with ea_; subst ea_)); subst ec_; clear en_)); have GB40 := Aside0.mk gb40; have GG40 := Aside0.mk HG40; clear gb40 gl40 HG40; obtain ⟨ce40, hcl40, hM40, hcc40, hfr40⟩ := Kd.R_elem HL114_0.out zFace (a2 : Int) p40 q40; obtain rfl := kFace_openM hM40; have hx40_0 : w61.cell? ⟨go40, (a2 : Int).toNat * 2, none⟩ = some (.int .i64 ((rd_Face (rd_LFace t110 a1) a2).f0)) := hcc40 0 _ rfl; have hx40_1 : w61.cell? ⟨go40, (a2 : Int).toNat * 2 + 1, none⟩ = some (.int .i64 ((rd_Face (rd_LFace t110 a1) a2).f1)) := hcc40 1 _ rfl; have hf40_0 : w61.frozen? ⟨go40, (a2 : Int).toNat * 2, none⟩ = false := hfr40 0; have hf40_1 : w61.frozen? ⟨go40, (a2 : Int).toNat * 2 + 1, none⟩ = false := hfr40 1; clear hcl40 hcc40 hfr40; (try clear hM40); replace p40 := eq_true p40; replace q40 := eq_true q40; have hq63 : (a1 : Int) < (t110.length : Int) := (by have h_ : (a1 : Int) < ((t110.length : Int) : Int) := of_decide_eq_true (by first | (with_reducible assumption) | assumption); first | exact h_ | (have e_ := (Kd.S_reads' HO112.out).1; omega) | simpa only [List.length_set, List.length_set] using h_); obtain ⟨oki63, ce63, hcl63, hM63, hcc63, hok63, hbk63⟩ := Kd.S_borrow HO112.out [] (a1 : Int) (of_decide_eq_true (by first | (with_reducible assumption) | assumption)) hq63; obtain ⟨ve63_0, rfl, ge63_0⟩ := hM63; have hv63 := hcc63 0 _ rfl; rw [Nat.add_zero, show ((Kd.slice 61 kFace)).sz = 1 from rfl, Nat.mul_one] at hv63; replace hv63 := Option.some.inj (hv63.symm.trans HX114_0.out); subst hv63; clear hcc63 hcl63; replace ge63_0 := (show Kd.R kFace 61 _ _ _ _ (rd_LFace t110 a1) from ge63_0); obtain ⟨cf63, hcl63, hN63, hcc63, hfr63⟩ := Kd.R_elem ge63_0 zFace (a2 : Int) (of_decide_eq_true (by first | (with_reducible assumption) | assumption)) (by have h_ : (a2 : Int) < (((rd_LFace t110 a1).length : Int) : Int) := of_decide_eq_true (by first | (with_reducible assumption) | assumption); first | exact h_ | (have e_ := (Kd.R_reads' HR114_0.out).1; omega) | simpa using h_); obtain rfl := kFace_openM hN63; have HP63 := Kd.R_seg ge63_0 (a2 : Int) (of_decide_eq_true (by first | (with_reducible assumption) | assumption)) (by have h_ : (a2 : Int) < (((rd_LFace t110 a1).length : Int) : Int) := of_decide_eq_true (by first | (with_reducible assumption) | assumption); first | exact h_ | (have e_ := (Kd.R_reads' HR114_0.out).1; omega) | simpa using h_) (seg := [.int .i64 (-1), .int .i64 0]) (j := 0) hcl63 hcc63 (show 2 ≤ 2 from by decide) (x' := (⟨(-1), 0⟩ : SFace)) (kFace_mkM _ _ _ (⟨(-1), 0⟩ : SFace)) (fun _ hk => hk); clear hcl63 hcc63 hfr63 hN63) | ((with_reducible refine gate_store (t := 61) (p := 47) rfl ?_); refine store_event (t := 61) (p := 47) (v := ?vo_w64) (w1 := ((w61.setCell ⟨go40, (a2 : Int).toNat * 2, none⟩ (.int .i64 (-1))).setCell ⟨go40, (a2 : Int).toNat * 2 + 1, none⟩ (.int .i64 0))) ?hg ?ho ?hn ?hr ?_; (case ho => rfl); (case hg => rfl); (case hn => rfl); (case hr => first | (go_simp; done) | (go_simp; rfl)); intro w64 hw; have hg : w61.grownBy w64 (some go40) := (by rw [hw]; exact HP63.2); have hz_ : Kd.R kFace 61 w64 w.heap.size oki63 (.slice (some ⟨go40, 0, none⟩) (rd_LFace t110 a1).length c114_0) y115 := (by rw [hw, Ny115.out]; exact HP63.1); have hp_ : Kd.S (Kd.slice 61 kFace) 59 w64 w.heap.size (fun k_ => k_ ≠ gb109) (.slice (some ad114) t110.length co56) y117 := (by rw [Ny117.out]; exact hbk63 hg (fun k_ e_ => by injection e_ with e_; subst e_; exact ge63_0.1 _ rfl) (Kd.M_row hz_)); have hm_ := Kd.R_mono hz_ hok63; clear HP63 hbk63; have n0_ := Aside0.mk (blk_grown (g := gb101) (o := .cells #[.slice (some ad107) l0_0.length c0_0] 29 (0, 0)) (by (with_reducible repeat (first | refine blk_drewN ?_ _ | refine blk_drew ?_ | refine blk_alloc ?_ _)); exact BK101.out) hg (Kd.R_ne HL114_0.out BK101.out (by decide))); have n1_ := Aside0.mk (blk_grown (g := gb102) (o := .cells #[.slice none 0 0] 29 (0, 0)) (by (with_reducible repeat (first | refine blk_drewN ?_ _ | refine blk_drew ?_ | refine blk_alloc ?_ _)); exact BK102.out) hg (Kd.R_ne HL114_0.out BK102.out (by decide))); have n2_ := Aside0.mk (blk_grown (g := gb109) (o := .cells #[.int .i64 ((rd_Face (rd_LFace l0_0 a1) a2).f0), .int .i64 ((rd_Face (rd_LFace l0_0 a1) a2).f1)] 61 (0, 0)) (by (with_reducible repeat (first | refine blk_drewN ?_ _ | refine blk_drew ?_ | refine blk_alloc ?_ _)); exact BK109.out) hg (Kd.R_away HL114_0.out (fun _ hk => hk.1))); have n3_ := Aside0.mk (hp_); have n4_ := Aside0.mk (blk_grown (g := gb113) (o := .cells #[.slice (some ad114) t110.length co56] 29 (0, 0)) (by (with_reducible repeat (first | refine blk_drewN ?_ _ | refine blk_drew ?_ | refine blk_alloc ?_ _)); exact BK113.out) hg (Kd.R_ne HL114_0.out BK113.out (by decide))); have n5_ := Aside0.mk ((by rw [hw]; exact below_set (below_set (HB.out) GB40.out) GB40.out : Below w.heap.size w w64)); have n6_ := Aside0.mk (hm_); have n7_ := Aside0.mk ((Kd.R_reads' hm_).2.1); clear BK101; clear BK102; clear BK109; clear HO112; clear BK113; clear HB; clear HL114_0; have BK101 := n0_; have BK102 := n1_; have BK109 := n2_; have HO112 := n3_; have BK113 := n4_; have HB := n5_; have HL123 := n6_; have HC116 := n7_; clear n0_ n1_ n2_ n3_ n4_ n5_ n6_ n7_; clear hg hw hp_ hz_ hm_ hok63))
                                have n0_ := Aside0.mk (Kd.S_drew HO112.out)
                                have n1_ := Aside0.mk (Kd.R_drew HL123.out)
                                have n2_ := Aside0.mk (blk_drew BK101.out)
                                have n3_ := Aside0.mk (blk_drew BK102.out)
                                have n4_ := Aside0.mk (blk_drew BK109.out)
                                have n5_ := Aside0.mk (blk_drew BK113.out)
                                have n6_ := Aside0.mk (below_drew1 HB.out)
                                clear HO112
                                clear HL123
                                clear BK101
                                clear BK102
                                clear BK109
                                clear BK113
                                clear HB
                                have HO112 := n0_
                                have HL123 := n1_
                                have BK101 := n2_
                                have BK102 := n3_
                                have BK109 := n4_
                                have BK113 := n5_
                                have HB := n6_
                                clear n0_ n1_ n2_ n3_ n4_ n5_ n6_
                                have p118 : 0 ≤ (((rd_Face (rd_LFace l0_0 a1) a2).f0) : Int) := of_decide_eq_true (by first | (with_reducible assumption) | assumption)
                                have q118 : ((rd_Face (rd_LFace l0_0 a1) a2).f0) < (y117.length : Int) := (by have h_ : (((rd_Face (rd_LFace l0_0 a1) a2).f0) : Int) < ((t110.length : Int) : Int) := of_decide_eq_true (by first | (with_reducible assumption) | assumption); first | (have e_ := (Kd.S_reads' HO112.out).1; omega) | simpa only [Ny117.out, List.length_set] using h_)
                                have ql118 : ((((rd_Face (rd_LFace l0_0 a1) a2).f0) : Int) < ((t110.length : Int) : Int)) = True := eq_true (of_decide_eq_true (by first | (with_reducible assumption) | assumption))
                                obtain ⟨ad118, A118_0, c118_0, e118, hx118_0, hl118_0, hi118_0⟩ := at_LFace (Kd.S_reads' HO112.out).2.2 ((rd_Face (rd_LFace l0_0 a1) a2).f0) p118 q118
                                obtain rfl : ad114 = ad118 := (by injection e118)
                                obtain ⟨ce118, hce118, hMe118, hcc118⟩ := Kd.S_get HO112.out [] ((rd_Face (rd_LFace l0_0 a1) a2).f0) p118 (by first | exact q118 | exact of_decide_eq_true (by first | (with_reducible assumption) | assumption) | (have e_ := (Kd.S_reads' HO112.out).1; omega))
                                obtain ⟨ve118_0, rfl, ge118_0⟩ := hMe118
                                have hv118_0 := hcc118 0 _ rfl
                                rw [Nat.add_zero, show ((Kd.slice 61 kFace)).sz = 1 from rfl, Nat.mul_one] at hv118_0
                                replace hv118_0 := Option.some.inj (hv118_0.symm.trans hx118_0)
                                rw [hv118_0] at ge118_0
                                have HL118_0 := Aside0.mk (show Kd.R kFace 61 _ _ _ _ (rd_LFace y117 ((rd_Face (rd_LFace l0_0 a1) a2).f0)) from ge118_0)
                                clear hv118_0 ge118_0
                                have HX118_0 := Aside0.mk hx118_0
                                clear hcc118 hce118
                                have HR118_0 := Aside0.mk hi118_0
                                have HC118_0 := Aside0.mk hl118_0
                                clear hi118_0 hl118_0
                                replace p118 := eq_true p118
                                replace q118 := eq_true q118
                                refine start_ (n := 13) (S := fun w' => w'.cell? ⟨gb113, 0, none⟩ = some (.slice (some ad114) t110.length co56) ∧ w'.cell? ⟨gb109, 0, none⟩ = some (.int .i64 ((rd_Face (rd_LFace l0_0 a1) a2).f0)) ∧ w'.cell? ⟨gb109, 1, none⟩ = some (.int .i64 ((rd_Face (rd_LFace l0_0 a1) a2).f1)) ∧ w'.cell? (ad114.add (((rd_Face (rd_LFace l0_0 a1) a2).f0)).toNat) = some (.slice A118_0 (rd_LFace y117 ((rd_Face (rd_LFace l0_0 a1) a2).f0)).length c118_0)) (ds := [12]) #[false, false, false, false, false, false, false, false, false, false, false, false, false] (by kernel_rfl) rfl rfl ⟨(blk_cell BK113.out 0).trans rfl, (blk_cell BK109.out 0).trans rfl, (blk_cell BK109.out 1).trans rfl, hx118_0⟩ (fun hHeld => ?_); refine with_tabW spec_UnglueFace.tab10 spec_UnglueFace.bits10 (fun HT_ HW_ => ?_)
                                generalize w64.drew = w65 at HO112 HL123 BK101 BK102 BK109 BK113 HB HL118_0 HR118_0 HX118_0 hx118_0 hHeld ⊢
                                refine pure_ (i := 0) (N := some 48) (v := ?_) (a' := ?_) #[true, false, false, false, false, false, false, false, false, false, false, false, false] rfl rfl (any_of HT_.out (by kernel_rfl)) (fun _ _ _ h => h) (Or.inl ⟨by rfl, ?_⟩) ?_ ?_
                                rotate_left
                                · intro w'
                                  go_simp
                                  with_reducible rfl
                                rotate_left
                                · simp only [Act.put, List.setIfInBounds_toArray, List.set_cons_zero, List.set_cons_succ, i64_w, i32_w]
                                  rfl
                                refine pure_ (i := 2) (N := some 50) (v := ?_) (a' := ?_) #[true, false, true, false, false, false, false, false, false, false, false, false, false] rfl rfl (any_of HT_.out (by kernel_rfl)) (fun _ _ _ h => h) (Or.inl ⟨by rfl, ?_⟩) ?_ ?_
                                rotate_left
                                · intro w'
                                  go_simp
                                  with_reducible rfl
                                rotate_left
                                · simp only [Act.put, List.setIfInBounds_toArray, List.set_cons_zero, List.set_cons_succ, i64_w, i32_w]
                                  rfl
                                refine pure_ (i := 6) (N := some 54) (v := ?_) (a' := ?_) #[true, false, true, false, false, false, true, false, false, false, false, false, false] rfl rfl (any_of HT_.out (by kernel_rfl)) (fun _ _ _ h => h) (Or.inl ⟨by rfl, ?_⟩) ?_ ?_
                                rotate_left
                                · intro w'
                                  go_simp
                                  with_reducible rfl
                                rotate_left
                                · simp only [Act.put, List.setIfInBounds_toArray, List.set_cons_zero, List.set_cons_succ, i64_w, i32_w]
                                  rfl
                                refine pure_ (i := 8) (N := some 56) (v := ?_) (a' := ?_) #[true, false, true, false, false, false, true, false, true, false, false, false, false] rfl rfl (any_of HT_.out (by kernel_rfl)) (fun _ _ _ h => h) (Or.inl ⟨by rfl, ?_⟩) ?_ ?_
                                rotate_left
                                · intro w'
                                  go_simp
                                  with_reducible rfl
                                rotate_left
                                · simp only [Act.put, List.setIfInBounds_toArray, List.set_cons_zero, List.set_cons_succ, i64_w, i32_w]
                                  rfl
                                refine pure_ (i := 10) (N := some 58) (v := ?_) (a' := ?_) #[true, false, true, false, false, false, true, false, true, false, true, false, false] rfl rfl (any_of HT_.out (by kernel_rfl)) (fun _ _ _ h => h) (Or.inl ⟨by rfl, ?_⟩) ?_ ?_
                                rotate_left
                                · intro w'
                                  go_simp
                                  with_reducible rfl
                                rotate_left
                                · simp only [Act.put, List.setIfInBounds_toArray, List.set_cons_zero, List.set_cons_succ, i64_w, i32_w]
                                  rfl
                                refine take_ (i := 1) (N := some 49) (v := ?_) (a' := ?_) #[true, true, true, false, false, false, true, false, true, false, true, false, false] rfl rfl (take_ofW HT_.out HW_.out (by kernel_rfl)) (fun _ _ _ h => h) (Or.inl ⟨by rfl, ?_⟩) hHeld ?_ ?_
                                rotate_left
                                · rintro w' ⟨s0, s1, s2, s3⟩
                                  go_simp
                                  with_reducible rfl
                                rotate_left
                                · simp only [Act.put, List.setIfInBounds_toArray, List.set_cons_zero, List.set_cons_succ, i64_w, i32_w]
                                  rfl
                                refine take_ (i := 3) (N := some 51) (v := ?_) (a' := ?_) #[true, true, true, true, false, false, true, false, true, false, true, false, false] rfl rfl (take_ofW HT_.out HW_.out (by kernel_rfl)) (fun _ _ _ h => h) (Or.inl ⟨by rfl, ?_⟩) hHeld ?_ ?_
                                rotate_left
                                · rintro w' ⟨s0, s1, s2, s3⟩
                                  go_simp
                                  with_reducible rfl
                                rotate_left
                                · simp only [Act.put, List.setIfInBounds_toArray, List.set_cons_zero, List.set_cons_succ, i64_w, i32_w]
                                  rfl
                                refine pure_ (i := 4) (N := some 52) (v := ?_) (a' := ?_) #[true, true, true, true, true, false, true, false, true, false, true, false, false] rfl rfl (any_of HT_.out (by kernel_rfl)) (fun _ _ _ h => h) (Or.inl ⟨by rfl, ?_⟩) ?_ ?_
                                rotate_left
                                · intro w'
                                  go_simp
                                  with_reducible rfl
                                rotate_left
                                · simp only [Act.put, List.setIfInBounds_toArray, List.set_cons_zero, List.set_cons_succ, i64_w, i32_w]
                                  rfl
                                refine take_ (i := 5) (N := some 53) (v := ?_) (a' := ?_) #[true, true, true, true, true, true, true, false, true, false, true, false, false] rfl rfl (take_ofW HT_.out HW_.out (by kernel_rfl)) (fun _ _ _ h => h) (Or.inl ⟨by rfl, ?_⟩) hHeld ?_ ?_
                                rotate_left
                                · rintro w' ⟨s0, s1, s2, s3⟩
                                  go_simp
                                  with_reducible rfl
                                rotate_left
                                · simp only [Act.put, List.setIfInBounds_toArray, List.set_cons_zero, List.set_cons_succ, i64_w, i32_w]
                                  rfl
                                refine take_ (i := 7) (N := some 55) (v := ?_) (a' := ?_) #[true, true, true, true, true, true, true, true, true, false, true, false, false] rfl rfl (take_ofW HT_.out HW_.out (by kernel_rfl)) (fun _ _ _ h => h) (Or.inl ⟨by rfl, ?_⟩) hHeld ?_ ?_
                                rotate_left
                                · rintro w' ⟨s0, s1, s2, s3⟩
                                  go_simp
                                  with_reducible rfl
                                rotate_left
                                · simp only [Act.put, List.setIfInBounds_toArray, List.set_cons_zero, List.set_cons_succ, i64_w, i32_w]
                                  rfl
                                refine one_ (i := 9) (N := some 57) #[true, true, true, true, true, true, true, true, true, true, true, false, false] rfl rfl (one_of HT_.out (by kernel_rfl)) (by decide) (fun K hK => ?_)
                                refine goes_ Try.func55 (by kernel_rfl) rfl #[.int .i64 ((rd_Face (rd_LFace l0_0 a1) a2).f1), .int .i64 a2] (by rfl) rfl rfl (by (try simp only [List.map_toArray, List.map_cons, List.map_nil]); first | done | rfl | (simp only [List.length_drop, List.length_take]; rfl)) ?_
                                with_reducible refine (spec_l06At.calls kj5 ((rd_Face (rd_LFace l0_0 a1) a2).f1) a2 t119 _ A43.out).mono ?_
                                rintro e w66 ⟨rfl, hb⟩
                                have HS3_ := (hb.cell (World.block_lt_of_cell? _ _ (hHeld.2.2.2))).trans (hHeld.2.2.2)
                                refine ⟨_, rfl, ?_⟩
                                have n0_ := Aside0.mk (Kd.S_below (by (with_reducible repeat (first | apply Kd.S_alloc | apply Kd.S_drewN | apply Kd.S_drew)); exact HO112.out) hb)
                                have n1_ := Aside0.mk (Kd.R_below (by (with_reducible repeat (first | apply Kd.R_alloc | apply Kd.R_drewN | apply Kd.R_drew)); exact HL123.out) hb)
                                have n2_ := Aside0.mk (Kd.R_below (by (with_reducible repeat (first | apply Kd.R_alloc | apply Kd.R_drewN | apply Kd.R_drew)); exact HL118_0.out) hb)
                                have n3_ := Aside0.mk (blk_below (g := gb101) (o := .cells #[.slice (some ad107) l0_0.length c0_0] 29 (0, 0)) (by (with_reducible repeat (first | refine blk_drewN ?_ _ | refine blk_drew ?_ | refine blk_alloc ?_ _)); exact BK101.out) hb)
                                have n4_ := Aside0.mk (blk_below (g := gb102) (o := .cells #[.slice none 0 0] 29 (0, 0)) (by (with_reducible repeat (first | refine blk_drewN ?_ _ | refine blk_drew ?_ | refine blk_alloc ?_ _)); exact BK102.out) hb)
                                have n5_ := Aside0.mk (blk_below (g := gb109) (o := .cells #[.int .i64 ((rd_Face (rd_LFace l0_0 a1) a2).f0), .int .i64 ((rd_Face (rd_LFace l0_0 a1) a2).f1)] 61 (0, 0)) (by (with_reducible repeat (first | refine blk_drewN ?_ _ | refine blk_drew ?_ | refine blk_alloc ?_ _)); exact BK109.out) hb)
                                have n6_ := Aside0.mk (blk_below (g := gb113) (o := .cells #[.slice (some ad114) t110.length co56] 29 (0, 0)) (by (with_reducible repeat (first | refine blk_drewN ?_ _ | refine blk_drew ?_ | refine blk_alloc ?_ _)); exact BK113.out) hb)
                                have n7_ := Aside0.mk (Kd.C_below (by repeat (first | (with_reducible exact HR118_0.out) | (with_reducible refine Kd.C_alloc ?_ _) | (with_reducible refine Kd.C_drewN ?_ _) | (with_reducible refine Kd.C_drew ?_) | exact HR118_0.out)) hb)
                                have n8_ := Aside0.mk (pw_cell_below hb HX118_0.out)
                                have n9_ := Aside0.mk (below_step (by repeat (first | (with_reducible first | exact HB.out | apply below_alloc | apply pw_below_drewN | apply below_drew1 | refine below_set ?_ GE101.out | refine below_set ?_ GE102.out | refine below_set ?_ GE109.out | refine below_set ?_ GE113.out) | exact HB.out)) hb)
                                clear HO112
                                clear HL123
                                clear HL118_0
                                clear BK101
                                clear BK102
                                clear BK109
                                clear BK113
                                clear HR118_0
                                clear HX118_0
                                clear HB
                                have HO112 := n0_
                                have HL123 := n1_
                                have HL118_0 := n2_
                                have BK101 := n3_
                                have BK102 := n4_
                                have BK109 := n5_
                                have BK113 := n6_
                                have HR118_0 := n7_
                                have HX118_0 := n8_
                                have HB := n9_
                                clear n0_ n1_ n2_ n3_ n4_ n5_ n6_ n7_ n8_ n9_
                                (try clear hb)
                                (try clear hb2)
                                (try clear hk)
                                (try clear hi)
                                have p46 : 0 ≤ (t119 : Int) := of_decide_eq_true (by first | (with_reducible assumption) | assumption)
                                have q46 : (t119 : Int) < (((rd_LFace y117 ((rd_Face (rd_LFace l0_0 a1) a2).f0)).length : Int) : Int) := of_decide_eq_true (by first | (with_reducible assumption) | assumption)
                                obtain ⟨go46, co46, eo46, gb46, gl46, cl46, HG46⟩ := Kd.R_form HL118_0.out (by omega)
                                (first | cases eo46 | (injection eo46 with ea_ en_ ec_; (first | subst ea_ | (injection ea_ with ea_; subst ea_)); subst ec_; clear en_))
                                have GB46 := Aside0.mk gb46
                                have GG46 := Aside0.mk HG46
                                clear gb46 gl46 HG46
                                obtain ⟨ce46, hcl46, hM46, hcc46, hfr46⟩ := Kd.R_elem HL118_0.out zFace (t119 : Int) p46 q46
                                obtain rfl := kFace_openM hM46
                                have hx46_0 : World.cell? _ ⟨go46, (t119 : Int).toNat * 2, none⟩ = some (.int .i64 ((rd_Face (rd_LFace y117 ((rd_Face (rd_LFace l0_0 a1) a2).f0)) t119).f0)) := hcc46 0 _ rfl
                                have hx46_1 : World.cell? _ ⟨go46, (t119 : Int).toNat * 2 + 1, none⟩ = some (.int .i64 ((rd_Face (rd_LFace y117 ((rd_Face (rd_LFace l0_0 a1) a2).f0)) t119).f1)) := hcc46 1 _ rfl
                                have hf46_0 : World.frozen? _ ⟨go46, (t119 : Int).toNat * 2, none⟩ = false := hfr46 0
                                have hf46_1 : World.frozen? _ ⟨go46, (t119 : Int).toNat * 2 + 1, none⟩ = false := hfr46 1
                                clear hcl46 hcc46 hfr46 hM46
                                replace p46 := eq_true p46
                                replace q46 := eq_true q46
                                have hq67 : (((rd_Face (rd_LFace l0_0 a1) a2).f0) : Int) < (y117.length : Int) := (by have h_ : (((rd_Face (rd_LFace l0_0 a1) a2).f0) : Int) < ((t110.length : Int) : Int) := of_decide_eq_true (by first | (with_reducible assumption) | assumption); first | exact h_ | (have e_ := (Kd.S_reads' HO112.out).1; omega) | simpa only [Ny117.out, List.length_set] using h_)
                                obtain ⟨oki67, ce67, hcl67, hM67, hcc67, hok67, hbk67⟩ := Kd.S_borrow HO112.out [] (((rd_Face (rd_LFace l0_0 a1) a2).f0) : Int) (of_decide_eq_true (by first | (with_reducible assumption) | assumption)) (by first | exact hq67 | (have e_ := (Kd.S_reads' HO112.out).1; omega))
                                obtain ⟨ve67_0, rfl, ge67_0⟩ := hM67
                                have hv67 := hcc67 0 _ rfl
                                rw [Nat.add_zero, show ((Kd.slice 61 kFace)).sz = 1 from rfl, Nat.mul_one] at hv67
                                replace hv67 := Option.some.inj (hv67.symm.trans HX118_0.out)
                                subst hv67
                                clear hcc67 hcl67
                                replace ge67_0 := (show Kd.R kFace 61 _ _ _ _ (rd_LFace y117 ((rd_Face (rd_LFace l0_0 a1) a2).f0)) from ge67_0)
                                obtain ⟨cf67, hcl67, hN67, hcc67, hfr67⟩ := Kd.R_elem ge67_0 zFace (t119 : Int) (of_decide_eq_true (by first | (with_reducible assumption) | assumption)) (by have h_ : (t119 : Int) < (((rd_LFace y117 ((rd_Face (rd_LFace l0_0 a1) a2).f0)).length : Int) : Int) := of_decide_eq_true (by first | (with_reducible assumption) | assumption); first | exact h_ | (have e_ := (Kd.R_reads' HR118_0.out).1; omega) | simpa using h_)
                                obtain rfl := kFace_openM hN67
                                have HP67 := Kd.R_seg ge67_0 (t119 : Int) (of_decide_eq_true (by first | (with_reducible assumption) | assumption)) (by have h_ : (t119 : Int) < (((rd_LFace y117 ((rd_Face (rd_LFace l0_0 a1) a2).f0)).length : Int) : Int) := of_decide_eq_true (by first | (with_reducible assumption) | assumption); first | exact h_ | (have e_ := (Kd.R_reads' HR118_0.out).1; omega) | simpa using h_) (seg := [.int .i64 (-1), .int .i64 0]) (j := 0) hcl67 hcc67 (show 2 ≤ 2 from by decide) (x' := (⟨(-1), 0⟩ : SFace)) (kFace_mkM _ _ _ (⟨(-1), 0⟩ : SFace)) (fun _ hk => hk)
                                clear hcl67 hcc67 hfr67 hN67
                                rw [← Ny120.out] at HP67
                                have HS67 := hbk67 HP67.2 (fun k_ e_ => by injection e_ with e_; subst e_; exact ge67_0.1 _ rfl) (x' := y120) (Kd.M_row HP67.1)
                                rw [← Ny122.out] at HS67
                                have HQ67 := Aside0.mk HS67
                                clear HP67 HS67 hbk67 hok67
                                refine hK.out _ _ ⟨(blk_cell BK113.out 0).trans rfl, (blk_cell BK109.out 0).trans rfl, (blk_cell BK109.out 1).trans rfl, HS3_⟩ (fun hHeld => ?_)
                                clear hK K
                                refine norm_ (a' := ?_) ?_ ?_
                                rotate_left
                                · show Act.put _ (some 57) _ = _
                                  simp only [Act.put, List.setIfInBounds_toArray, List.set_cons_zero, List.set_cons_succ, i64_w, i32_w]
                                  rfl
                                refine pure_ (i := 11) (N := some 59) (v := ?_) (a' := ?_) #[true, true, true, true, true, true, true, true, true, true, true, true, false] rfl rfl (any_of HT_.out (by kernel_rfl)) (fun _ _ _ h => h) (Or.inl ⟨by rfl, ?_⟩) ?_ ?_
                                rotate_left
                                · intro w'
                                  go_simp
                                  with_reducible rfl
                                rotate_left
                                · simp only [Act.put, List.setIfInBounds_toArray, List.set_cons_zero, List.set_cons_succ, i64_w, i32_w]
                                  rfl
                                refine last_ (i := 12) (N := none) #[true, true, true, true, true, true, true, true, true, true, true, true, true] rfl rfl (one_of HT_.out (by kernel_rfl)) (by decide) (fun K hK => ?_)
                                refine skip_ (w1 := ?_) (by rfl) rfl ?_ ?_
                                rotate_left
                                · go_simp
                                  rfl
                                refine hK.out _ _ ?_
                                clear hK K
                                refine done_ (done_of HT_.out (by kernel_rfl)) ?_
                                have n0_ : Aside0 (Kd.S (Kd.slice 61 kFace) 59 ((w66.setCell ⟨go46, (t119 : Int).toNat * 2, none⟩ (.int .i64 (-1))).setCell ⟨go46, (t119 : Int).toNat * 2 + 1, none⟩ (.int .i64 0)) w.heap.size (fun k_ => k_ ≠ gb109) (.slice (some ad114) t110.length co56) y122) := ⟨by (with_reducible repeat (first | apply Kd.S_alloc | apply Kd.S_drewN | apply Kd.S_drew)); exact HQ67.out⟩
                                have n1_ : Aside0 (((w66.setCell ⟨go46, (t119 : Int).toNat * 2, none⟩ (.int .i64 (-1))).setCell ⟨go46, (t119 : Int).toNat * 2 + 1, none⟩ (.int .i64 0)).heap[gb101]? = some (.cells #[.slice (some ad107) l0_0.length c0_0] 29 (0, 0))) := ⟨by (with_reducible repeat (first | refine blk_drewN ?_ _ | refine blk_drew ?_ | refine blk_alloc ?_ _)); refine blk_far ?_ (by have h_ := Kd.R_ne HL118_0.out BK101.out (by decide); intro e_; exact h_ (by rw [e_]; rfl)) _; (with_reducible repeat (first | refine blk_drewN ?_ _ | refine blk_drew ?_ | refine blk_alloc ?_ _)); refine blk_far ?_ (by have h_ := Kd.R_ne HL118_0.out BK101.out (by decide); intro e_; exact h_ (by rw [e_]; rfl)) _; (with_reducible repeat (first | refine blk_drewN ?_ _ | refine blk_drew ?_ | refine blk_alloc ?_ _)); exact BK101.out⟩
                                have n2_ : Aside0 (((w66.setCell ⟨go46, (t119 : Int).toNat * 2, none⟩ (.int .i64 (-1))).setCell ⟨go46, (t119 : Int).toNat * 2 + 1, none⟩ (.int .i64 0)).heap[gb102]? = some (.cells #[.slice none 0 0] 29 (0, 0))) := ⟨by (with_reducible repeat (first | refine blk_drewN ?_ _ | refine blk_drew ?_ | refine blk_alloc ?_ _)); refine blk_far ?_ (by have h_ := Kd.R_ne HL118_0.out BK102.out (by decide); intro e_; exact h_ (by rw [e_]; rfl)) _; (with_reducible repeat (first | refine blk_drewN ?_ _ | refine blk_drew ?_ | refine blk_alloc ?_ _)); refine blk_far ?_ (by have h_ := Kd.R_ne HL118_0.out BK102.out (by decide); intro e_; exact h_ (by rw [e_]; rfl)) _; (with_reducible repeat (first | refine blk_drewN ?_ _ | refine blk_drew ?_ | refine blk_alloc ?_ _)); exact BK102.out⟩
                                have n3_ : Aside0 (((w66.setCell ⟨go46, (t119 : Int).toNat * 2, none⟩ (.int .i64 (-1))).setCell ⟨go46, (t119 : Int).toNat * 2 + 1, none⟩ (.int .i64 0)).heap[gb109]? = some (.cells #[.int .i64 ((rd_Face (rd_LFace l0_0 a1) a2).f0), .int .i64 ((rd_Face (rd_LFace l0_0 a1) a2).f1)] 61 (0, 0))) := ⟨by (with_reducible repeat (first | refine blk_drewN ?_ _ | refine blk_drew ?_ | refine blk_alloc ?_ _)); refine blk_far ?_ (by have h_ := Kd.R_away HL118_0.out (fun _ hk => hk.1); intro e_; exact h_ (by rw [e_]; rfl)) _; (with_reducible repeat (first | refine blk_drewN ?_ _ | refine blk_drew ?_ | refine blk_alloc ?_ _)); refine blk_far ?_ (by have h_ := Kd.R_away HL118_0.out (fun _ hk => hk.1); intro e_; exact h_ (by rw [e_]; rfl)) _; (with_reducible repeat (first | refine blk_drewN ?_ _ | refine blk_drew ?_ | refine blk_alloc ?_ _)); exact BK109.out⟩
                                have n4_ : Aside0 (((w66.setCell ⟨go46, (t119 : Int).toNat * 2, none⟩ (.int .i64 (-1))).setCell ⟨go46, (t119 : Int).toNat * 2 + 1, none⟩ (.int .i64 0)).heap[gb113]? = some (.cells #[.slice (some ad114) t110.length co56] 29 (0, 0))) := ⟨by (with_reducible repeat (first | refine blk_drewN ?_ _ | refine blk_drew ?_ | refine blk_alloc ?_ _)); refine blk_far ?_ (by have h_ := Kd.R_ne HL118_0.out BK113.out (by decide); intro e_; exact h_ (by rw [e_]; rfl)) _; (with_reducible repeat (first | refine blk_drewN ?_ _ | refine blk_drew ?_ | refine blk_alloc ?_ _)); refine blk_far ?_ (by have h_ := Kd.R_ne HL118_0.out BK113.out (by decide); intro e_; exact h_ (by rw [e_]; rfl)) _; (with_reducible repeat (first | refine blk_drewN ?_ _ | refine blk_drew ?_ | refine blk_alloc ?_ _)); exact BK113.out⟩
                                have n5_ : Aside0 (Below w.heap.size w ((w66.setCell ⟨go46, (t119 : Int).toNat * 2, none⟩ (.int .i64 (-1))).setCell ⟨go46, (t119 : Int).toNat * 2 + 1, none⟩ (.int .i64 0))) := ⟨by repeat (first | (with_reducible first | exact HB.out | apply below_alloc | apply pw_below_drewN | apply below_drew1 | refine below_set ?_ GB46.out | refine below_set ?_ GB46.out | refine below_set ?_ GE101.out | refine below_set ?_ GE102.out | refine below_set ?_ GE109.out | refine below_set ?_ GE113.out) | exact HB.out)⟩
                                (try clear HO112)
                                (try clear BK101)
                                (try clear BK102)
                                (try clear BK109)
                                (try clear BK113)
                                (try clear HB)
                                generalize ((w66.setCell ⟨go46, (t119 : Int).toNat * 2, none⟩ (.int .i64 (-1))).setCell ⟨go46, (t119 : Int).toNat * 2 + 1, none⟩ (.int .i64 0)) = w69 at n0_ n1_ n2_ n3_ n4_ n5_ ⊢
                                have HO112 := n0_
                                have BK101 := n1_
                                have BK102 := n2_
                                have BK109 := n3_
                                have BK113 := n4_
                                have HB := n5_
                                clear n0_ n1_ n2_ n3_ n4_ n5_
                                have hcz70_0 : w69.cell? ⟨gb113, 0, none⟩ = some (.slice (some ad114) t110.length co56) := (blk_cell BK113.out 0).trans rfl
                                have hfz70_0 := blk_frozen BK113.out 0
                                have hcz71_0 : w69.cell? ⟨gb102, 0, none⟩ = some (.slice none 0 0) := (blk_cell BK102.out 0).trans rfl
                                have hfz71_0 := blk_frozen BK102.out 0
                                try go_wp2
                                refine bodyPost_ret (results_ct rfl _ _ gb102 29 #[.slice (some ad114) t110.length co56] (0, 0) _ rfl (by (with_reducible repeat (first | refine blk_drewN ?_ _ | refine blk_drew ?_ | refine blk_alloc ?_ _)); refine blk_put (cs := #[.slice none 0 0]) ?_ 0 _ rfl; (with_reducible repeat (first | refine blk_drewN ?_ _ | refine blk_drew ?_ | refine blk_alloc ?_ _)); exact BK102.out) Try.underlying29 rfl (by kernel_rfl)) rfl ?_
                                exact ⟨_, by first | rfl | (simp [errW_none, errW_some] <;> rfl) | (simp [*, errW_none, errW_some] <;> rfl), by (with_reducible repeat (first | apply Kd.S_alloc | apply Kd.S_drewN | apply Kd.S_drew)); exact Kd.S_mono (Kd.S_far (p := ⟨gb102, 0, none⟩) (Kd.S_types HO112.out BK102.out (by decide)) (fun _ hk => hk.2) (.slice (some ad114) t110.length co56)) (fun _ hk => trivial), by repeat (first | (with_reducible first | exact HB.out | apply below_alloc | apply pw_below_drewN | apply below_drew1 | refine below_set ?_ GE101.out | refine below_set ?_ GE102.out | refine below_set ?_ GE109.out | refine below_set ?_ GE113.out) | exact HB.out)⟩
                              · rw [if_neg c45] at H
                                exact absurd H (by simp)
                            · rw [if_neg c44] at H
                              exact absurd H (by simp)
                          · rw [if_neg c42] at H
                            exact absurd H (by simp)
                        · rw [if_neg c41] at H
                          exact absurd H (by simp)
                      · rw [if_neg c39] at H
                        exact absurd H (by simp)
                    · rw [if_neg c38] at H
                      exact absurd H (by simp)
                · rw [if_neg c28] at H
                  exact absurd H (by simp)
              · rw [if_neg c27] at H
                exact absurd H (by simp)
            · rw [if_neg c26] at H
              exact absurd H (by simp)
          · rw [if_neg c25] at H
            exact absurd H (by simp)
  · replace c5 := Bool.eq_false_iff.mpr c5
    subst c5
    have H1 : (some (([] : List (List (SFace))), 1)) = some (r1, r2) := by rw [if_neg (show ¬ (false = true) by decide)] at H; exact H
    clear H
    have H := H1
    clear H1
    simp only [Option.some.injEq, Prod.mk.injEq] at H
    obtain ⟨rfl, rfl⟩ := H
    go_enter Try.func31, Try.ntmps31
    go_wp2_with (first | ((with_reducible refine gate_dst (N := 3) rfl ?_); refine box_event ?hg (N := 3) ?hd (cs := #[.slice A0_0 l0_0.length c0_0]) (t := 29) ?hr ?_; (case hd => rfl); (case hg => rfl); (case hr => first | (go_simp; done) | (go_simp; rfl)); intro gb101 hg w72 hbox hb; have n0_ := Aside0.mk (below_step (by repeat (first | (with_reducible first | exact HB.out | apply below_alloc | apply pw_below_drewN | apply below_drew1) | exact HB.out)) hb); have n1_ := Aside0.mk (hbox); have n2_ := Aside0.mk ((by rw [hg]; exact (below_size (by repeat (first | (with_reducible first | exact HB.out | apply below_alloc | apply pw_below_drewN | apply below_drew1) | exact HB.out))) : w.heap.size ≤ gb101)); have n3_ := Aside0.mk ((by rw [hg]; exact (below_size (by repeat (first | (with_reducible first | exact HB.out | apply below_alloc | apply pw_below_drewN | apply below_drew1) | exact HB.out))) : w.heap.size ≤ gb101)); clear HB; have HB := n0_; have BK101 := n1_; have GW101 := n2_; have GE101 := n3_; clear n0_ n1_ n2_ n3_; clear hb hbox hg) | ((with_reducible refine gate_dst (N := 6) rfl ?_); refine box_event ?hg (N := 6) ?hd (cs := #[.slice none 0 0]) (t := 29) ?hr ?_; (case hd => rfl); (case hg => rfl); (case hr => first | (go_simp; done) | (go_simp; rfl)); intro gb102 hg w73 hbox hb; have n0_ := Aside0.mk (blk_below (g := gb101) (o := .cells #[.slice A0_0 l0_0.length c0_0] 29 (0, 0)) (by (with_reducible repeat (first | refine blk_drewN ?_ _ | refine blk_drew ?_ | refine blk_alloc ?_ _)); exact BK101.out) hb); have n1_ := Aside0.mk (below_step (by repeat (first | (with_reducible first | exact HB.out | apply below_alloc | apply pw_below_drewN | apply below_drew1 | refine below_set ?_ GE101.out) | exact HB.out)) hb); have n2_ := Aside0.mk (hbox); have n3_ := Aside0.mk ((by rw [hg]; exact (below_size (by repeat (first | (with_reducible first | exact HB.out | apply below_alloc | apply pw_below_drewN | apply below_drew1 | refine below_set ?_ GE101.out) | exact HB.out))) : w.heap.size ≤ gb102)); have n4_ := Aside0.mk ((by rw [hg]; exact (below_size (by repeat (first | (with_reducible first | exact HB.out | apply below_alloc | apply pw_below_drewN | apply below_drew1 | refine below_set ?_ GE101.out) | exact HB.out))) : w.heap.size ≤ gb102)); have n5_ := Aside0.mk ((by rw [hg]; exact Nat.ne_of_lt (blk_lt (g := gb101) (o := .cells #[.slice A0_0 l0_0.length c0_0] 29 (0, 0)) (by (with_reducible repeat (first | refine blk_drewN ?_ _ | refine blk_drew ?_ | refine blk_alloc ?_ _)); exact BK101.out)) : gb101 ≠ gb102)); have n6_ := Aside0.mk ((by rw [hg]; exact Nat.ne_of_gt (blk_lt (g := gb101) (o := .cells #[.slice A0_0 l0_0.length c0_0] 29 (0, 0)) (by (with_reducible repeat (first | refine blk_drewN ?_ _ | refine blk_drew ?_ | refine blk_alloc ?_ _)); exact BK101.out)) : gb102 ≠ gb101)); clear BK101; clear HB; have BK101 := n0_; have HB := n1_; have BK102 := n2_; have GW102 := n3_; have GE102 := n4_; have NB101_102 := n5_; have NB102_101 := n6_; clear n0_ n1_ n2_ n3_ n4_ n5_ n6_; clear hb hbox hg; have hnb74 := NB101_102.out; have hnc74 := NB102_101.out; have hcz75_0 : w73.cell? ⟨gb101, 0, none⟩ = some (.slice A0_0 l0_0.length c0_0) := (blk_cell BK101.out 0).trans rfl; have hfz75_0 := blk_frozen BK101.out 0) | ((with_reducible refine gate_callee (f := 16) rfl ?_); refine goesL_ (some 11) rfl rfl Try.func16 (by kernel_rfl) rfl #[.agg #[.slice A0_0 l0_0.length c0_0]] rfl (by (try simp only [List.map_toArray, List.map_cons, List.map_nil]); first | done | rfl | (simp only [List.length_drop, List.length_take]; rfl)) ?_; (with_reducible refine (spec_IsTriangulation.calls k _ _ l0_0 false _ ?side1 ?side2 A4.out).mono ?_); (case side1 => repeat (first | exact (Kd.C_below HR0_0.out HB.out) | (with_reducible refine Kd.C_alloc ?_ _) | (with_reducible refine Kd.C_drewN ?_ _) | (with_reducible refine Kd.C_drew ?_))); (case side2 => exact HC0_0.out); rintro e w76 ⟨rfl, hb⟩; refine ⟨_, rfl, ?_⟩; have n0_ := Aside0.mk (blk_below (g := gb101) (o := .cells #[.slice A0_0 l0_0.length c0_0] 29 (0, 0)) (by (with_reducible repeat (first | refine blk_drewN ?_ _ | refine blk_drew ?_ | refine blk_alloc ?_ _)); exact BK101.out) hb); have n1_ := Aside0.mk (blk_below (g := gb102) (o := .cells #[.slice none 0 0] 29 (0, 0)) (by (with_reducible repeat (first | refine blk_drewN ?_ _ | refine blk_drew ?_ | refine blk_alloc ?_ _)); exact BK102.out) hb); have n2_ := Aside0.mk (below_step (by repeat (first | (with_reducible first | exact HB.out | apply below_alloc | apply pw_below_drewN | apply below_drew1 | refine below_set ?_ GE101.out | refine below_set ?_ GE102.out) | exact HB.out)) hb); clear BK101; clear BK102; clear HB; have BK101 := n0_; have BK102 := n1_; have HB := n2_; clear n0_ n1_ n2_; (try clear hb); (try clear hb2); (try clear hk); (try clear hi); have hcz77_0 : w76.cell? ⟨gb102, 0, none⟩ = some (.slice none 0 0) := (blk_cell BK102.out 0).trans rfl; have hfz77_0 := blk_frozen BK102.out 0))
    refine bodyPost_ret (results_ct rfl _ _ gb102 29 #[.slice none 0 0] (0, 0) _ rfl (by (with_reducible repeat (first | refine blk_drewN ?_ _ | refine blk_drew ?_ | refine blk_alloc ?_ _)); refine blk_put (cs := #[.slice none 0 0]) ?_ 0 _ rfl; (with_reducible repeat (first | refine blk_drewN ?_ _ | refine blk_drew ?_ | refine blk_alloc ?_ _)); exact BK102.out) Try.underlying29 rfl (by kernel_rfl)) rfl ?_
    exact ⟨_, by first | rfl | (simp [errW_none, errW_some] <;> rfl) | (simp [*, errW_none, errW_some] <;> rfl), by first | exact Kd.S_nil _ _ _ _ _ | exact Kd.N_nil _ _ _ _ _ | exact Kd.V_nil _ _ _ _ _ | exact Kd.Q_nil _ _ _ _ _ | exact Kd.R_nil _ _ _ _ _, by repeat (first | (with_reducible first | exact HB.out | apply below_alloc | apply pw_below_drewN | apply below_drew1 | refine below_set ?_ GE101.out | refine below_set ?_ GE102.out) | exact HB.out)⟩
end Go.Proofs.Ytojpoedeiedgdaa.P

/- What a walk through a law keeps: rows of the walk's own, each within a range of blocks. -/
namespace Go.Proofs.Ytojpoedeiedgdaa.Lib
open Go.RowKit Go.Proofs.YtojpoedeiedgdaaW.PrintWords
set_option linter.unusedVariables false
section
variable {α : Type} {d : Kd α} {e b lo hi lo2 hi2 T : Nat} {w w' W : World} {v : Value} {xs ys : List α}
/-- A row of rows of the walk's own (all of it made from b on), its blocks from lo on and before hi. -/
def ObS (d : Kd α) (e b : Nat) (w : World) (lo hi : Nat) (v : Value) (xs : List α) : Prop := hi ≤ w.heap.size ∧ Kd.S d e w b (fun k => lo ≤ k ∧ k < hi) v xs
/-- The same for a row of scalars. -/
def ObR (d : Kd α) (e b : Nat) (w : World) (lo hi : Nat) (v : Value) (xs : List α) : Prop := hi ≤ w.heap.size ∧ Kd.R d e w b (fun k => lo ≤ k ∧ k < hi) v xs
theorem size_set (w : World) (g i : Nat) (u : Value) : w.heap.size ≤ (w.setCell ⟨g, i, none⟩ u).heap.size := ((Below.refl 0 w).setCell (Nat.zero_le _) u).size
theorem ObS.made (ho : Kd.S d e w' W.heap.size (fun _ => True) v xs) (hb : Below W.heap.size W w') (hT : T ≤ W.heap.size) (hB : b ≤ W.heap.size) : ∃ lo hi, (T ≤ lo ∧ lo ≤ hi) ∧ hi ≤ w'.heap.size ∧ ObS d e b w' lo hi v xs :=
  ⟨W.heap.size, w'.heap.size, ⟨hT, hb.size⟩, Nat.le_refl _, Nat.le_refl _, Kd.S_lower (Kd.S_mono (Kd.S_bound ho) (fun k hk => ⟨hk.2.1, hk.2.2.1⟩)) hB⟩
theorem ObR.made (ho : Kd.R d e w' W.heap.size (fun _ => True) v xs) (hb : Below W.heap.size W w') (hT : T ≤ W.heap.size) (hB : b ≤ W.heap.size) : ∃ lo hi, (T ≤ lo ∧ lo ≤ hi) ∧ hi ≤ w'.heap.size ∧ ObR d e b w' lo hi v xs :=
  ⟨W.heap.size, w'.heap.size, ⟨hT, hb.size⟩, Nat.le_refl _, Nat.le_refl _, Kd.R_lower (Kd.R_mono (Kd.R_bound ho) (fun k hk => ⟨hk.2.1, hk.2.2.1⟩)) hB⟩
theorem ObS.below (h : ObS d e b w lo hi v xs) (hb : Below w.heap.size w w') : ObS d e b w' lo hi v xs := ⟨Nat.le_trans h.1 hb.size, Kd.S_below h.2 hb⟩
theorem ObR.below (h : ObR d e b w lo hi v xs) (hb : Below w.heap.size w w') : ObR d e b w' lo hi v xs := ⟨Nat.le_trans h.1 hb.size, Kd.R_below h.2 hb⟩
theorem ObS.drew (h : ObS d e b w lo hi v xs) : ObS d e b w.drew lo hi v xs := ⟨h.1, Kd.S_drew h.2⟩
theorem ObR.drew (h : ObR d e b w lo hi v xs) : ObR d e b w.drew lo hi v xs := ⟨h.1, Kd.R_drew h.2⟩
theorem ObS.far {g i : Nat} (h : ObS d e b w lo hi v xs) (hg : g < lo ∨ hi ≤ g) (u : Value) : ObS d e b (w.setCell ⟨g, i, none⟩ u) lo hi v xs :=
  ⟨Nat.le_trans h.1 (size_set _ _ _ _), Kd.S_far h.2 (fun k hk => by show k ≠ g; have := hk.1; have := hk.2; omega) u⟩
theorem ObR.far {g i : Nat} (h : ObR d e b w lo hi v xs) (hg : g < lo ∨ hi ≤ g) (u : Value) : ObR d e b (w.setCell ⟨g, i, none⟩ u) lo hi v xs :=
  ⟨Nat.le_trans h.1 (size_set _ _ _ _), Kd.R_far h.2 (fun k hk => by show k ≠ g; have := hk.1; have := hk.2; omega) u⟩
theorem ObS.kept (h : ObS d e b w lo hi v xs) (hk : Kept w w' (fun k => lo2 ≤ k ∧ k < hi2)) (hd : hi ≤ lo2 ∨ hi2 ≤ lo) : ObS d e b w' lo hi v xs :=
  ⟨Nat.le_trans h.1 hk.1, Kd.S_kept h.2 hk (fun k h1 h2 => by have := h1.1; have := h1.2; have := h2.1; have := h2.2; omega)⟩
theorem ObR.kept (h : ObR d e b w lo hi v xs) (hk : Kept w w' (fun k => lo2 ≤ k ∧ k < hi2)) (hd : hi ≤ lo2 ∨ hi2 ≤ lo) : ObR d e b w' lo hi v xs :=
  ⟨Nat.le_trans h.1 hk.1, Kd.R_kept h.2 hk (fun k h1 h2 => by have := h1.1; have := h1.2; have := h2.1; have := h2.2; omega)⟩
theorem ObS.slice (h : ObS d e b w lo hi v xs) : ∃ A c, v = .slice A xs.length c := Kd.S_slice h.2
theorem ObR.slice (h : ObR d e b w lo hi v xs) : ∃ A c, v = .slice A xs.length c := Kd.R_slice h.2
theorem ObS.reads {A : Option Addr} {n c : Nat} (h : ObS d e b w lo hi (.slice A n c) xs) : n = xs.length ∧ n ≤ c ∧ d.C w A xs.length xs := Kd.S_reads' h.2
theorem ObR.reads {A : Option Addr} {n c : Nat} (h : ObR d e b w lo hi (.slice A n c) xs) : n = xs.length ∧ n ≤ c ∧ d.C w A xs.length xs := Kd.R_reads' h.2
theorem ObS.room {A : Option Addr} {n c : Nat} (h : ObS d e b w lo hi (.slice A n c) xs) : xs.length ≤ c := by have := h.reads; omega
theorem ObR.room {A : Option Addr} {n c : Nat} (h : ObR d e b w lo hi (.slice A n c) xs) : xs.length ≤ c := by have := h.reads; omega
theorem ObR.marked {ok' : Nat → Prop} (h : ObR d e b w lo hi v xs) (hE : d.E = []) (hy : Kd.R d e w' b ok' v ys) (hs : w.heap.size ≤ w'.heap.size) : ObR d e b w' lo hi v ys :=
  ⟨Nat.le_trans h.1 hs, Kd.R_reok hE hy (fun k e => h.2.1 k e)⟩
theorem ObS.marked (h : ObS d e b w lo hi v xs) (hy : Kd.S d e w' b (fun k => lo ≤ k ∧ k < hi) v ys) (hs : w.heap.size ≤ w'.heap.size) : ObS d e b w' lo hi v ys := ⟨Nat.le_trans h.1 hs, hy⟩
theorem ObR.range (h : ObR d e b w lo hi v xs) (hk : Kept w w' (fun k_ => some k_ = v.ownBlock)) : Kept w w' (fun k => lo ≤ k ∧ k < hi) := hk.mono (fun k e => h.2.1 k e.symm)
theorem ObS.row (h : ObS d e b w lo hi v xs) : Kd.S d e w b (fun k => lo ≤ k ∧ k < hi) v xs := h.2
theorem ObR.row (h : ObR d e b w lo hi v xs) : Kd.R d e w b (fun k => lo ≤ k ∧ k < hi) v xs := h.2
theorem top_below (h : T ≤ w.heap.size) (hb : Below w.heap.size w w') : T ≤ w'.heap.size := Nat.le_trans h hb.size
theorem top_drew (h : T ≤ w.heap.size) : T ≤ w.drew.heap.size := h
theorem top_far {g i : Nat} {u : Value} (h : T ≤ w.heap.size) : T ≤ (w.setCell ⟨g, i, none⟩ u).heap.size := Nat.le_trans h (size_set _ _ _ _)
end
end Go.Proofs.Ytojpoedeiedgdaa.Lib

-- Printed by a program of this session (drv.py), by means of the kit's print.py.
namespace Go.Proofs.Ytojpoedeiedgdaa.P
open Go.RowKit Go.Proofs.YtojpoedeiedgdaaW.PrintWords Go.Proofs.YtojpoedeiedgdaaW.PrintLast Go.Proofs.YtojpoedeiedgdaaW.PrintMore
attribute [local go_sem] max2_int min2_int max_two min_two max_three min_three max_four min_four   -- for this text's walks alone
set_option linter.unusedVariables false
set_option linter.unusedSimpArgs false
open Go.Proofs.Ytojpoedeiedgdaa.Lib
/-! ### laws_FnExactUnglueFace: function 7 -/
def laws_FnExactUnglueFace.f (k : Nat) (l0 : List (List (SLawFace))) (a1 : Int) (a2 : Int) : Option Bool := (laws_szTriangulation.f k l0 1048576).bind fun t2 => if t2 < 0 then some true else (laws_toTriangulation.f k l0).bind fun t5 => (spec_UnglueFace.f k t5 a1 a2).bind fun bt3 => (laws_toTriangulation.f k l0).bind fun t12 => (impl_UnglueFace.f k t12 a1 a2).bind fun bt5 => (laws_eqTriangulation.f k bt5.1 bt3.1).bind fun t19 => if t19 = true then if bt5.2 = bt3.2 then (laws_toTriangulation.f k l0).bind fun t22 => (laws_eqTriangulation.f k t12 t22).bind fun t25 => if t25 = true then (laws_markTriangulation.f k t12 1).bind fun bt12 => if bt12.1 < 0 then some false else (laws_eqTriangulation.f k bt5.1 bt3.1).bind fun t31 => if t31 = true then if bt5.2 = bt3.2 then (laws_markTriangulation.f k bt5.1 1).bind fun bt17 => (laws_heldTriangulation.f k bt17.2 1).bind fun t37 => if t37 < 0 then some false else if t37 = bt17.1 then (laws_toTriangulation.f k l0).bind fun t41 => (impl_UnglueFace.f k t41 a1 a2).bind fun bt22 => (laws_eqTriangulation.f k bt22.1 bt3.1).bind fun t48 => if t48 = true then if bt22.2 = bt3.2 then (laws_heldTriangulation.f k bt17.2 1).bind fun t51 => if t51 < 0 then some false else if t51 = bt17.1 then some true else some false else some false else some false else some false else some false else some false else some false else some false else some false
set_option maxHeartbeats 8000000 in
set_option maxRecDepth 100000 in
theorem laws_FnExactUnglueFace.calls (k : Nat) (A0 : Option Addr) (c0 : Nat) (l0 : List (List (SLawFace))) (a1 : Int) (a2 : Int) (w : World) (hr0 : Kd.C (Kd.slice 106 kLawFace) w A0 l0.length l0) (hc0 : l0.length ≤ c0) (h : laws_FnExactUnglueFace.f k l0 a1 a2 = some true) :
    Calls Try.prog 7 #[.agg #[.slice A0 l0.length c0], .int .i64 a1, .int .i64 a2] w fun e w' => e = .returned (.bool true) ∧ Below w.heap.size w w' := by
  have hu24 := Try.underlying24
  have hu29 := Try.underlying29
  have HR0 := Aside0.mk hr0
  have HC0 := Aside0.mk hc0
  clear hr0 hc0
  have HB := Aside0.mk (Below.refl w.heap.size w)
  have HT := Aside0.mk (Nat.le_refl w.heap.size)
  have H := h
  clear h
  unfold laws_FnExactUnglueFace.f at H
  obtain ⟨t2, H10, H⟩ := Option.bind_eq_some_iff.mp H
  have H1 := Aside0.mk H10
  clear H10
  by_cases cC3 : t2 < 0
  · have dC3 : decide (t2 < 0) = true := decide_eq_true cC3
    clear cC3 H
    go_enter Try.func7, Try.ntmps7
    try go_wp2_with (first | ((with_reducible refine gate_dst (N := 3) rfl ?_); refine box_event ?hg (N := 3) ?hd (cs := #[.slice A0 l0.length c0]) (t := 24) ?hr ?_; (case hd => rfl); (case hg => rfl); (case hr => first | (go_simp; done) | (go_simp; rfl)); intro g3 hg w1 hbox hb; have HNg3 := Aside0.mk (by rw [hg]; exact HT.out : w.heap.size ≤ g3); have HXg3 := Aside0.mk (show g3 + 1 ≤ w1.heap.size from blk_lt hbox); have nHB := Aside0.mk (below_step HB.out hb); have nHT := Aside0.mk (top_below HT.out hb); clear HB HT  ; have HB := nHB; have HT := nHT; clear nHB nHT  ; clear HT; have HT := HXg3; clear HXg3; have BKg3 := Aside0.mk hbox; clear hg hbox hb; have hczg3 : w1.cell? ⟨g3, 0, none⟩ = some (.slice A0 l0.length c0) := (blk_cell BKg3.out 0).trans rfl; have hfzg3 := blk_frozen BKg3.out 0) | ((with_reducible refine gate_callee (f := 15) rfl ?_); refine goesL_ (some 20) rfl rfl Try.func15 (by kernel_rfl) rfl #[.agg #[.slice A0 l0.length c0], .int .i64 1048576] rfl (by (try simp only [List.map_toArray, List.map_cons, List.map_nil]); first | done | rfl | (simp only [List.length_drop, List.length_take]; rfl)) ?_; (with_reducible refine (laws_szTriangulation.calls k _ _ l0 1048576 t2 _ ?side1 ?side2 H1.out).mono ?_); (case side1 => exact Kd.C_below HR0.out HB.out); (case side2 => exact HC0.out); rintro e w2 ⟨rfl, hb⟩; refine ⟨_, rfl, ?_⟩; (try clear hczg3 hfzg3); have nBg3 := Aside0.mk (blk_below (g := g3) (o := .cells #[.slice A0 l0.length c0] 24 (0, 0)) BKg3.out hb); have nHB := Aside0.mk (below_step HB.out hb); have nHT := Aside0.mk (top_below HT.out hb); clear HB HT  BKg3; have BKg3 := nBg3; have HB := nHB; have HT := nHT; clear nHB nHT  nBg3; (try clear hb); (try clear hnd); have hczg3 : w2.cell? ⟨g3, 0, none⟩ = some (.slice A0 l0.length c0) := (blk_cell BKg3.out 0).trans rfl; have hfzg3 := blk_frozen BKg3.out 0))
    go_ret
    exact ⟨by first | rfl | (simp <;> rfl), HB.out⟩
  rw [if_neg cC3] at H
  have dC3 : decide (t2 < 0) = false := decide_eq_false cC3
  clear cC3
  obtain ⟨t5, H40, H⟩ := Option.bind_eq_some_iff.mp H
  have H4 := Aside0.mk H40
  clear H40
  obtain ⟨⟨t8, t10⟩, H70, H⟩ := Option.bind_eq_some_iff.mp H
  have H7 := Aside0.mk H70
  clear H70
  obtain ⟨t12, H110, H⟩ := Option.bind_eq_some_iff.mp H
  have H11 := Aside0.mk H110
  clear H110
  obtain ⟨⟨t15, t17⟩, H140, H⟩ := Option.bind_eq_some_iff.mp H
  have H14 := Aside0.mk H140
  clear H140
  obtain ⟨t19, H180, H⟩ := Option.bind_eq_some_iff.mp H
  obtain rfl : t19 = true := by cases t19 with | true => rfl | false => exact absurd H (by simp)
  replace H := H
  have H18 := Aside0.mk H180
  clear H180
  rw [if_pos rfl] at H
  have cC20 : t17 = t10 := by by_cases c_ : t17 = t10; exact c_; rw [if_neg c_] at H; cases H
  rw [if_pos cC20] at H
  have dC20 : (t17 != t10) = false := by rw [cC20]; exact bne_self_eq_false _
  clear cC20
  obtain ⟨t22, H210, H⟩ := Option.bind_eq_some_iff.mp H
  have H21 := Aside0.mk H210
  clear H210
  obtain ⟨t25, H240, H⟩ := Option.bind_eq_some_iff.mp H
  obtain rfl : t25 = true := by cases t25 with | true => rfl | false => exact absurd H (by simp)
  replace H := H
  have H24 := Aside0.mk H240
  clear H240
  rw [if_pos rfl] at H
  obtain ⟨⟨m27, y28⟩, H260, H⟩ := Option.bind_eq_some_iff.mp H
  have H26 := Aside0.mk H260
  clear H260
  dsimp only at H
  have cC29 : ¬ (m27 < 0) := fun c_ => by rw [if_pos c_] at H; cases H
  rw [if_neg cC29] at H
  have dC29 : decide (m27 < 0) = false := decide_eq_false cC29
  clear cC29
  obtain ⟨t31, H300, H⟩ := Option.bind_eq_some_iff.mp H
  obtain rfl : t31 = true := by cases t31 with | true => rfl | false => exact absurd H (by simp)
  replace H := H
  have H30 := Aside0.mk H300
  clear H300
  rw [if_pos rfl] at H
  have cC32 : t17 = t10 := by by_cases c_ : t17 = t10; exact c_; rw [if_neg c_] at H; cases H
  rw [if_pos cC32] at H
  have dC32 : (t17 != t10) = false := by rw [cC32]; exact bne_self_eq_false _
  clear cC32
  obtain ⟨⟨m34, y35⟩, H330, H⟩ := Option.bind_eq_some_iff.mp H
  have H33 := Aside0.mk H330
  clear H330
  dsimp only at H
  obtain ⟨t37, H360, H⟩ := Option.bind_eq_some_iff.mp H
  have H36 := Aside0.mk H360
  clear H360
  have cC38 : ¬ (t37 < 0) := fun c_ => by rw [if_pos c_] at H; cases H
  rw [if_neg cC38] at H
  have dC38 : decide (t37 < 0) = false := decide_eq_false cC38
  clear cC38
  have cC39 : t37 = m34 := by by_cases c_ : t37 = m34; exact c_; rw [if_neg c_] at H; cases H
  rw [if_pos cC39] at H
  have dC39 : (t37 != m34) = false := by rw [cC39]; exact bne_self_eq_false _
  clear cC39
  obtain ⟨t41, H400, H⟩ := Option.bind_eq_some_iff.mp H
  have H40 := Aside0.mk H400
  clear H400
  obtain ⟨⟨t44, t46⟩, H430, H⟩ := Option.bind_eq_some_iff.mp H
  have H43 := Aside0.mk H430
  clear H430
  obtain ⟨t48, H470, H⟩ := Option.bind_eq_some_iff.mp H
  obtain rfl : t48 = true := by cases t48 with | true => rfl | false => exact absurd H (by simp)
  replace H := H
  have H47 := Aside0.mk H470
  clear H470
  rw [if_pos rfl] at H
  have cC49 : t46 = t10 := by by_cases c_ : t46 = t10; exact c_; rw [if_neg c_] at H; cases H
  rw [if_pos cC49] at H
  have dC49 : (t46 != t10) = false := by rw [cC49]; exact bne_self_eq_false _
  clear cC49
  obtain ⟨t51, H500, H⟩ := Option.bind_eq_some_iff.mp H
  have H50 := Aside0.mk H500
  clear H500
  have cC52 : ¬ (t51 < 0) := fun c_ => by rw [if_pos c_] at H; cases H
  rw [if_neg cC52] at H
  have dC52 : decide (t51 < 0) = false := decide_eq_false cC52
  clear cC52
  have cC53 : t51 = m34 := by by_cases c_ : t51 = m34; exact c_; rw [if_neg c_] at H; cases H
  rw [if_pos cC53] at H
  have dC53 : (t51 != m34) = false := by rw [cC53]; exact bne_self_eq_false _
  clear cC53
  clear H
  go_enter Try.func7, Try.ntmps7
  try go_wp2_with (first | ((with_reducible refine gate_dst (N := 3) rfl ?_); refine box_event ?hg (N := 3) ?hd (cs := #[.slice A0 l0.length c0]) (t := 24) ?hr ?_; (case hd => rfl); (case hg => rfl); (case hr => first | (go_simp; done) | (go_simp; rfl)); intro g3 hg w1 hbox hb; have HNg3 := Aside0.mk (by rw [hg]; exact HT.out : w.heap.size ≤ g3); have HXg3 := Aside0.mk (show g3 + 1 ≤ w1.heap.size from blk_lt hbox); have nHB := Aside0.mk (below_step HB.out hb); have nHT := Aside0.mk (top_below HT.out hb); clear HB HT  ; have HB := nHB; have HT := nHT; clear nHB nHT  ; clear HT; have HT := HXg3; clear HXg3; have BKg3 := Aside0.mk hbox; clear hg hbox hb; have hczg3 : w1.cell? ⟨g3, 0, none⟩ = some (.slice A0 l0.length c0) := (blk_cell BKg3.out 0).trans rfl; have hfzg3 := blk_frozen BKg3.out 0) | ((with_reducible refine gate_callee (f := 15) rfl ?_); refine goesL_ (some 20) rfl rfl Try.func15 (by kernel_rfl) rfl #[.agg #[.slice A0 l0.length c0], .int .i64 1048576] rfl (by (try simp only [List.map_toArray, List.map_cons, List.map_nil]); first | done | rfl | (simp only [List.length_drop, List.length_take]; rfl)) ?_; (with_reducible refine (laws_szTriangulation.calls k _ _ l0 1048576 t2 _ ?side1 ?side2 H1.out).mono ?_); (case side1 => exact Kd.C_below HR0.out HB.out); (case side2 => exact HC0.out); rintro e w2 ⟨rfl, hb⟩; refine ⟨_, rfl, ?_⟩; (try clear hczg3 hfzg3); have nBg3 := Aside0.mk (blk_below (g := g3) (o := .cells #[.slice A0 l0.length c0] 24 (0, 0)) BKg3.out hb); have nHB := Aside0.mk (below_step HB.out hb); have nHT := Aside0.mk (top_below HT.out hb); clear HB HT  BKg3; have BKg3 := nBg3; have HB := nHB; have HT := nHT; clear nHB nHT  nBg3; (try clear hb); (try clear hnd); have hczg3 : w2.cell? ⟨g3, 0, none⟩ = some (.slice A0 l0.length c0) := (blk_cell BKg3.out 0).trans rfl; have hfzg3 := blk_frozen BKg3.out 0) | ((with_reducible refine gate_callee (f := 17) rfl ?_); refine goesL_ (some 25) rfl rfl Try.func17 (by kernel_rfl) rfl #[.agg #[.slice A0 l0.length c0]] rfl (by (try simp only [List.map_toArray, List.map_cons, List.map_nil]); first | done | rfl | (simp only [List.length_drop, List.length_take]; rfl)) ?_; (with_reducible refine (laws_toTriangulation.calls k _ _ l0 t5 _ ?side1 ?side2 H4.out).mono ?_); (case side1 => exact Kd.C_below HR0.out HB.out); (case side2 => exact HC0.out); rintro e w3 ⟨vo6, rfl, ho0, hb⟩; refine ⟨_, rfl, ?_⟩; (try clear hczg3 hfzg3); obtain ⟨loo6, hio6, hno6⟩ := ObS.made ho0 hb HT.out (below_size HB.out); have nBg3 := Aside0.mk (blk_below (g := g3) (o := .cells #[.slice A0 l0.length c0] 24 (0, 0)) BKg3.out hb); have nHB := Aside0.mk (below_step HB.out hb); have nHT := Aside0.mk (top_below HT.out hb); clear HB HT  BKg3; have BKg3 := nBg3; have HB := nHB; have HT := nHT; clear nHB nHT  nBg3; have HNo6 := Aside0.mk hno6.1; clear HT; have HT := Aside0.mk hno6.2.1; have HOo6 := Aside0.mk hno6.2.2; clear hno6 ho0; obtain ⟨Ao6, co6, eeo6⟩ := HOo6.out.slice; subst eeo6; (try clear hb); (try clear hnd); have hczg3 : w3.cell? ⟨g3, 0, none⟩ = some (.slice A0 l0.length c0) := (blk_cell BKg3.out 0).trans rfl; have hfzg3 := blk_frozen BKg3.out 0) | ((with_reducible refine gate_callee (f := 31) rfl ?_); refine goesL_ (some 28) rfl rfl Try.func31 (by kernel_rfl) rfl #[.agg #[.slice Ao6 t5.length co6], .int .i64 a1, .int .i64 a2] rfl (by (try simp only [List.map_toArray, List.map_cons, List.map_nil]); first | done | rfl | (simp only [List.length_drop, List.length_take]; rfl)) ?_; (with_reducible refine (spec_UnglueFace.calls k _ _ t5 a1 a2 t8 t10 _ ?side1 ?side2 H7.out).mono ?_); (case side1 => exact (ObS.reads HOo6.out).2.2); (case side2 => exact ObS.room HOo6.out); rintro e w4 ⟨vo9, rfl, ho0, hb⟩; refine ⟨_, rfl, ?_⟩; (try clear hczg3 hfzg3); obtain ⟨loo9, hio9, hno9⟩ := ObS.made ho0 hb HT.out (below_size HB.out); have nOo6 := Aside0.mk (ObS.below HOo6.out hb); have nBg3 := Aside0.mk (blk_below (g := g3) (o := .cells #[.slice A0 l0.length c0] 24 (0, 0)) BKg3.out hb); have nHB := Aside0.mk (below_step HB.out hb); have nHT := Aside0.mk (top_below HT.out hb); clear HB HT HOo6 BKg3; have HOo6 := nOo6; have BKg3 := nBg3; have HB := nHB; have HT := nHT; clear nHB nHT nOo6 nBg3; have HNo9 := Aside0.mk hno9.1; clear HT; have HT := Aside0.mk hno9.2.1; have HOo9 := Aside0.mk hno9.2.2; clear hno9 ho0; obtain ⟨Ao9, co9, eeo9⟩ := HOo9.out.slice; subst eeo9; (try clear hb); (try clear hnd); have hczg3 : w4.cell? ⟨g3, 0, none⟩ = some (.slice A0 l0.length c0) := (blk_cell BKg3.out 0).trans rfl; have hfzg3 := blk_frozen BKg3.out 0) | ((with_reducible refine gate_dst (N := 8) rfl ?_); refine box_event ?hg (N := 8) ?hd (cs := #[.slice none 0 0]) (t := 29) ?hr ?_; (case hd => rfl); (case hg => rfl); (case hr => first | (go_simp; done) | (go_simp; rfl)); intro g8 hg w5 hbox hb; (try clear hczg3 hfzg3); have HNg8 := Aside0.mk (by rw [hg]; exact HT.out : hio9 ≤ g8); have HXg8 := Aside0.mk (show g8 + 1 ≤ w5.heap.size from blk_lt hbox); have nOo6 := Aside0.mk (ObS.below HOo6.out hb); have nOo9 := Aside0.mk (ObS.below HOo9.out hb); have nBg3 := Aside0.mk (blk_below (g := g3) (o := .cells #[.slice A0 l0.length c0] 24 (0, 0)) BKg3.out hb); have nHB := Aside0.mk (below_step HB.out hb); have nHT := Aside0.mk (top_below HT.out hb); clear HB HT HOo6 HOo9 BKg3; have HOo6 := nOo6; have HOo9 := nOo9; have BKg3 := nBg3; have HB := nHB; have HT := nHT; clear nHB nHT nOo6 nOo9 nBg3; clear HT; have HT := HXg8; clear HXg8; have BKg8 := Aside0.mk hbox; clear hg hbox hb; have hnbg8_g3 : g8 ≠ g3 := (by have := HNg3.out; have := HNo6.out; have := HNo9.out; have := HNg8.out; omega); have hnbg3_g8 : g3 ≠ g8 := (by have := HNg3.out; have := HNo6.out; have := HNo9.out; have := HNg8.out; omega); have hczg3 : w5.cell? ⟨g3, 0, none⟩ = some (.slice A0 l0.length c0) := (blk_cell BKg3.out 0).trans rfl; have hfzg3 := blk_frozen BKg3.out 0; have hczg8 : w5.cell? ⟨g8, 0, none⟩ = some (.slice none 0 0) := (blk_cell BKg8.out 0).trans rfl; have hfzg8 := blk_frozen BKg8.out 0) | ((with_reducible refine gate_callee (f := 17) rfl ?_); refine goesL_ (some 32) rfl rfl Try.func17 (by kernel_rfl) rfl #[.agg #[.slice A0 l0.length c0]] rfl (by (try simp only [List.map_toArray, List.map_cons, List.map_nil]); first | done | rfl | (simp only [List.length_drop, List.length_take]; rfl)) ?_; (with_reducible refine (laws_toTriangulation.calls k _ _ l0 t12 _ ?side1 ?side2 H11.out).mono ?_); (case side1 => exact Kd.C_below HR0.out (below_set HB.out (show w.heap.size ≤ g8 from (by have := HNg3.out; have := HNo6.out; have := HNo9.out; have := HNg8.out; omega)))); (case side2 => exact HC0.out); rintro e w6 ⟨vo13, rfl, ho0, hb⟩; refine ⟨_, rfl, ?_⟩; (try clear hczg3 hfzg3 hczg8 hfzg8); obtain ⟨loo13, hio13, hno13⟩ := ObS.made ho0 hb (top_far HT.out) (below_size (below_set HB.out (show w.heap.size ≤ g8 from (by have := HNg3.out; have := HNo6.out; have := HNo9.out; have := HNg8.out; omega)))); have nOo6 := Aside0.mk (ObS.below (ObS.far (g := g8) (i := 0) HOo6.out (by have := HNg3.out; have := HNo6.out; have := HNo9.out; have := HNg8.out; omega) _) hb); have nOo9 := Aside0.mk (ObS.below (ObS.far (g := g8) (i := 0) HOo9.out (by have := HNg3.out; have := HNo6.out; have := HNo9.out; have := HNg8.out; omega) _) hb); have nBg3 := Aside0.mk (blk_below (g := g3) (o := .cells #[.slice A0 l0.length c0] 24 (0, 0)) (blk_far (p := ⟨g8, 0, none⟩) BKg3.out (show g3 ≠ g8 from (by have := HNg3.out; have := HNo6.out; have := HNo9.out; have := HNg8.out; omega)) _) hb); have nBg8 := Aside0.mk (blk_below (g := g8) (o := .cells #[.slice Ao9 t8.length co9] 29 (0, 0)) (blk_put (cs := #[.slice none 0 0]) BKg8.out 0 _ rfl) hb); have nHB := Aside0.mk (below_step (below_set HB.out (show w.heap.size ≤ g8 from (by have := HNg3.out; have := HNo6.out; have := HNo9.out; have := HNg8.out; omega))) hb); have nHT := Aside0.mk (top_below (top_far HT.out) hb); clear HB HT HOo6 HOo9 BKg3 BKg8; have HOo6 := nOo6; have HOo9 := nOo9; have BKg3 := nBg3; have BKg8 := nBg8; have HB := nHB; have HT := nHT; clear nHB nHT nOo6 nOo9 nBg3 nBg8; have HNo13 := Aside0.mk hno13.1; clear HT; have HT := Aside0.mk hno13.2.1; have HOo13 := Aside0.mk hno13.2.2; clear hno13 ho0; obtain ⟨Ao13, co13, eeo13⟩ := HOo13.out.slice; subst eeo13; (try clear hb); (try clear hnd); have hczg3 : w6.cell? ⟨g3, 0, none⟩ = some (.slice A0 l0.length c0) := (blk_cell BKg3.out 0).trans rfl; have hfzg3 := blk_frozen BKg3.out 0; have hczg8 : w6.cell? ⟨g8, 0, none⟩ = some (.slice Ao9 t8.length co9) := (blk_cell BKg8.out 0).trans rfl; have hfzg8 := blk_frozen BKg8.out 0) | ((with_reducible refine gate_dst (N := 10) rfl ?_); refine box_event ?hg (N := 10) ?hd (cs := #[.slice none 0 0]) (t := 29) ?hr ?_; (case hd => rfl); (case hg => rfl); (case hr => first | (go_simp; done) | (go_simp; rfl)); intro g10 hg w7 hbox hb; (try clear hczg3 hfzg3 hczg8 hfzg8); have HNg10 := Aside0.mk (by rw [hg]; exact HT.out : hio13 ≤ g10); have HXg10 := Aside0.mk (show g10 + 1 ≤ w7.heap.size from blk_lt hbox); have nOo6 := Aside0.mk (ObS.below HOo6.out hb); have nOo9 := Aside0.mk (ObS.below HOo9.out hb); have nOo13 := Aside0.mk (ObS.below HOo13.out hb); have nBg3 := Aside0.mk (blk_below (g := g3) (o := .cells #[.slice A0 l0.length c0] 24 (0, 0)) BKg3.out hb); have nBg8 := Aside0.mk (blk_below (g := g8) (o := .cells #[.slice Ao9 t8.length co9] 29 (0, 0)) BKg8.out hb); have nHB := Aside0.mk (below_step HB.out hb); have nHT := Aside0.mk (top_below HT.out hb); clear HB HT HOo6 HOo9 HOo13 BKg3 BKg8; have HOo6 := nOo6; have HOo9 := nOo9; have HOo13 := nOo13; have BKg3 := nBg3; have BKg8 := nBg8; have HB := nHB; have HT := nHT; clear nHB nHT nOo6 nOo9 nOo13 nBg3 nBg8; clear HT; have HT := HXg10; clear HXg10; have BKg10 := Aside0.mk hbox; clear hg hbox hb; have hnbg10_g3 : g10 ≠ g3 := (by have := HNg3.out; have := HNo6.out; have := HNo9.out; have := HNg8.out; have := HNo13.out; have := HNg10.out; omega); have hnbg3_g10 : g3 ≠ g10 := (by have := HNg3.out; have := HNo6.out; have := HNo9.out; have := HNg8.out; have := HNo13.out; have := HNg10.out; omega); have hnbg10_g8 : g10 ≠ g8 := (by have := HNg3.out; have := HNo6.out; have := HNo9.out; have := HNg8.out; have := HNo13.out; have := HNg10.out; omega); have hnbg8_g10 : g8 ≠ g10 := (by have := HNg3.out; have := HNo6.out; have := HNo9.out; have := HNg8.out; have := HNo13.out; have := HNg10.out; omega); have hczg3 : w7.cell? ⟨g3, 0, none⟩ = some (.slice A0 l0.length c0) := (blk_cell BKg3.out 0).trans rfl; have hfzg3 := blk_frozen BKg3.out 0; have hczg8 : w7.cell? ⟨g8, 0, none⟩ = some (.slice Ao9 t8.length co9) := (blk_cell BKg8.out 0).trans rfl; have hfzg8 := blk_frozen BKg8.out 0; have hczg10 : w7.cell? ⟨g10, 0, none⟩ = some (.slice none 0 0) := (blk_cell BKg10.out 0).trans rfl; have hfzg10 := blk_frozen BKg10.out 0) | ((with_reducible refine gate_callee (f := 32) rfl ?_); refine goesL_ (some 37) rfl rfl Try.func32 (by kernel_rfl) rfl #[.agg #[.slice Ao13 t12.length co13], .int .i64 a1, .int .i64 a2] rfl (by (try simp only [List.map_toArray, List.map_cons, List.map_nil]); first | done | rfl | (simp only [List.length_drop, List.length_take]; rfl)) ?_; (with_reducible refine (impl_UnglueFace.calls k _ _ t12 a1 a2 t15 t17 _ ?side1 ?side2 H14.out).mono ?_); (case side1 => exact (ObS.reads (ObS.far (g := g10) (i := 0) HOo13.out (by have := HNg3.out; have := HNo6.out; have := HNo9.out; have := HNg8.out; have := HNo13.out; have := HNg10.out; omega) _)).2.2); (case side2 => exact ObS.room HOo13.out); rintro e w8 ⟨vo16, rfl, ho0, hb⟩; refine ⟨_, rfl, ?_⟩; (try clear hczg3 hfzg3 hczg8 hfzg8 hczg10 hfzg10); obtain ⟨loo16, hio16, hno16⟩ := ObS.made ho0 hb (top_far HT.out) (below_size (below_set HB.out (show w.heap.size ≤ g10 from (by have := HNg3.out; have := HNo6.out; have := HNo9.out; have := HNg8.out; have := HNo13.out; have := HNg10.out; omega)))); have nOo6 := Aside0.mk (ObS.below (ObS.far (g := g10) (i := 0) HOo6.out (by have := HNg3.out; have := HNo6.out; have := HNo9.out; have := HNg8.out; have := HNo13.out; have := HNg10.out; omega) _) hb); have nOo9 := Aside0.mk (ObS.below (ObS.far (g := g10) (i := 0) HOo9.out (by have := HNg3.out; have := HNo6.out; have := HNo9.out; have := HNg8.out; have := HNo13.out; have := HNg10.out; omega) _) hb); have nOo13 := Aside0.mk (ObS.below (ObS.far (g := g10) (i := 0) HOo13.out (by have := HNg3.out; have := HNo6.out; have := HNo9.out; have := HNg8.out; have := HNo13.out; have := HNg10.out; omega) _) hb); have nBg3 := Aside0.mk (blk_below (g := g3) (o := .cells #[.slice A0 l0.length c0] 24 (0, 0)) (blk_far (p := ⟨g10, 0, none⟩) BKg3.out (show g3 ≠ g10 from (by have := HNg3.out; have := HNo6.out; have := HNo9.out; have := HNg8.out; have := HNo13.out; have := HNg10.out; omega)) _) hb); have nBg8 := Aside0.mk (blk_below (g := g8) (o := .cells #[.slice Ao9 t8.length co9] 29 (0, 0)) (blk_far (p := ⟨g10, 0, none⟩) BKg8.out (show g8 ≠ g10 from (by have := HNg3.out; have := HNo6.out; have := HNo9.out; have := HNg8.out; have := HNo13.out; have := HNg10.out; omega)) _) hb); have nBg10 := Aside0.mk (blk_below (g := g10) (o := .cells #[.slice Ao13 t12.length co13] 29 (0, 0)) (blk_put (cs := #[.slice none 0 0]) BKg10.out 0 _ rfl) hb); have nHB := Aside0.mk (below_step (below_set HB.out (show w.heap.size ≤ g10 from (by have := HNg3.out; have := HNo6.out; have := HNo9.out; have := HNg8.out; have := HNo13.out; have := HNg10.out; omega))) hb); have nHT := Aside0.mk (top_below (top_far HT.out) hb); clear HB HT HOo6 HOo9 HOo13 BKg3 BKg8 BKg10; have HOo6 := nOo6; have HOo9 := nOo9; have HOo13 := nOo13; have BKg3 := nBg3; have BKg8 := nBg8; have BKg10 := nBg10; have HB := nHB; have HT := nHT; clear nHB nHT nOo6 nOo9 nOo13 nBg3 nBg8 nBg10; have HNo16 := Aside0.mk hno16.1; clear HT; have HT := Aside0.mk hno16.2.1; have HOo16 := Aside0.mk hno16.2.2; clear hno16 ho0; obtain ⟨Ao16, co16, eeo16⟩ := HOo16.out.slice; subst eeo16; (try clear hb); (try clear hnd); have hczg3 : w8.cell? ⟨g3, 0, none⟩ = some (.slice A0 l0.length c0) := (blk_cell BKg3.out 0).trans rfl; have hfzg3 := blk_frozen BKg3.out 0; have hczg8 : w8.cell? ⟨g8, 0, none⟩ = some (.slice Ao9 t8.length co9) := (blk_cell BKg8.out 0).trans rfl; have hfzg8 := blk_frozen BKg8.out 0; have hczg10 : w8.cell? ⟨g10, 0, none⟩ = some (.slice Ao13 t12.length co13) := (blk_cell BKg10.out 0).trans rfl; have hfzg10 := blk_frozen BKg10.out 0) | ((with_reducible refine gate_dst (N := 11) rfl ?_); refine box_event ?hg (N := 11) ?hd (cs := #[.slice none 0 0]) (t := 29) ?hr ?_; (case hd => rfl); (case hg => rfl); (case hr => first | (go_simp; done) | (go_simp; rfl)); intro g11 hg w9 hbox hb; (try clear hczg3 hfzg3 hczg8 hfzg8 hczg10 hfzg10); have HNg11 := Aside0.mk (by rw [hg]; exact HT.out : hio16 ≤ g11); have HXg11 := Aside0.mk (show g11 + 1 ≤ w9.heap.size from blk_lt hbox); have nOo6 := Aside0.mk (ObS.below HOo6.out hb); have nOo9 := Aside0.mk (ObS.below HOo9.out hb); have nOo13 := Aside0.mk (ObS.below HOo13.out hb); have nOo16 := Aside0.mk (ObS.below HOo16.out hb); have nBg3 := Aside0.mk (blk_below (g := g3) (o := .cells #[.slice A0 l0.length c0] 24 (0, 0)) BKg3.out hb); have nBg8 := Aside0.mk (blk_below (g := g8) (o := .cells #[.slice Ao9 t8.length co9] 29 (0, 0)) BKg8.out hb); have nBg10 := Aside0.mk (blk_below (g := g10) (o := .cells #[.slice Ao13 t12.length co13] 29 (0, 0)) BKg10.out hb); have nHB := Aside0.mk (below_step HB.out hb); have nHT := Aside0.mk (top_below HT.out hb); clear HB HT HOo6 HOo9 HOo13 HOo16 BKg3 BKg8 BKg10; have HOo6 := nOo6; have HOo9 := nOo9; have HOo13 := nOo13; have HOo16 := nOo16; have BKg3 := nBg3; have BKg8 := nBg8; have BKg10 := nBg10; have HB := nHB; have HT := nHT; clear nHB nHT nOo6 nOo9 nOo13 nOo16 nBg3 nBg8 nBg10; clear HT; have HT := HXg11; clear HXg11; have BKg11 := Aside0.mk hbox; clear hg hbox hb; have hnbg11_g3 : g11 ≠ g3 := (by have := HNg3.out; have := HNo6.out; have := HNo9.out; have := HNg8.out; have := HNo13.out; have := HNg10.out; have := HNo16.out; have := HNg11.out; omega); have hnbg3_g11 : g3 ≠ g11 := (by have := HNg3.out; have := HNo6.out; have := HNo9.out; have := HNg8.out; have := HNo13.out; have := HNg10.out; have := HNo16.out; have := HNg11.out; omega); have hnbg11_g8 : g11 ≠ g8 := (by have := HNg3.out; have := HNo6.out; have := HNo9.out; have := HNg8.out; have := HNo13.out; have := HNg10.out; have := HNo16.out; have := HNg11.out; omega); have hnbg8_g11 : g8 ≠ g11 := (by have := HNg3.out; have := HNo6.out; have := HNo9.out; have := HNg8.out; have := HNo13.out; have := HNg10.out; have := HNo16.out; have := HNg11.out; omega); have hnbg11_g10 : g11 ≠ g10 := (by have := HNg3.out; have := HNo6.out; have := HNo9.out; have := HNg8.out; have := HNo13.out; have := HNg10.out; have := HNo16.out; have := HNg11.out; omega); have hnbg10_g11 : g10 ≠ g11 := (by have := HNg3.out; have := HNo6.out; have := HNo9.out; have := HNg8.out; have := HNo13.out; have := HNg10.out; have := HNo16.out; have := HNg11.out; omega); have hczg3 : w9.cell? ⟨g3, 0, none⟩ = some (.slice A0 l0.length c0) := (blk_cell BKg3.out 0).trans rfl; have hfzg3 := blk_frozen BKg3.out 0; have hczg8 : w9.cell? ⟨g8, 0, none⟩ = some (.slice Ao9 t8.length co9) := (blk_cell BKg8.out 0).trans rfl; have hfzg8 := blk_frozen BKg8.out 0; have hczg10 : w9.cell? ⟨g10, 0, none⟩ = some (.slice Ao13 t12.length co13) := (blk_cell BKg10.out 0).trans rfl; have hfzg10 := blk_frozen BKg10.out 0; have hczg11 : w9.cell? ⟨g11, 0, none⟩ = some (.slice none 0 0) := (blk_cell BKg11.out 0).trans rfl; have hfzg11 := blk_frozen BKg11.out 0) | ((with_reducible refine gate_callee (f := 19) rfl ?_); refine goesL_ (some 42) rfl rfl Try.func19 (by kernel_rfl) rfl #[.agg #[.slice Ao16 t15.length co16], .agg #[.slice Ao9 t8.length co9]] rfl (by (try simp only [List.map_toArray, List.map_cons, List.map_nil]); first | done | rfl | (simp only [List.length_drop, List.length_take]; rfl)) ?_; (with_reducible refine (laws_eqTriangulation.calls k _ _ t15 _ _ t8 true _ ?side1 ?side2 ?side3 ?side4 H18.out).mono ?_); (case side1 => exact (ObS.reads (ObS.far (g := g11) (i := 0) HOo16.out (by have := HNg3.out; have := HNo6.out; have := HNo9.out; have := HNg8.out; have := HNo13.out; have := HNg10.out; have := HNo16.out; have := HNg11.out; omega) _)).2.2); (case side2 => exact ObS.room HOo16.out); (case side3 => exact (ObS.reads (ObS.far (g := g11) (i := 0) HOo9.out (by have := HNg3.out; have := HNo6.out; have := HNo9.out; have := HNg8.out; have := HNo13.out; have := HNg10.out; have := HNo16.out; have := HNg11.out; omega) _)).2.2); (case side4 => exact ObS.room HOo9.out); rintro e w10 ⟨rfl, hb⟩; refine ⟨_, rfl, ?_⟩; (try clear hczg3 hfzg3 hczg8 hfzg8 hczg10 hfzg10 hczg11 hfzg11); have nOo6 := Aside0.mk (ObS.below (ObS.far (g := g11) (i := 0) HOo6.out (by have := HNg3.out; have := HNo6.out; have := HNo9.out; have := HNg8.out; have := HNo13.out; have := HNg10.out; have := HNo16.out; have := HNg11.out; omega) _) hb); have nOo9 := Aside0.mk (ObS.below (ObS.far (g := g11) (i := 0) HOo9.out (by have := HNg3.out; have := HNo6.out; have := HNo9.out; have := HNg8.out; have := HNo13.out; have := HNg10.out; have := HNo16.out; have := HNg11.out; omega) _) hb); have nOo13 := Aside0.mk (ObS.below (ObS.far (g := g11) (i := 0) HOo13.out (by have := HNg3.out; have := HNo6.out; have := HNo9.out; have := HNg8.out; have := HNo13.out; have := HNg10.out; have := HNo16.out; have := HNg11.out; omega) _) hb); have nOo16 := Aside0.mk (ObS.below (ObS.far (g := g11) (i := 0) HOo16.out (by have := HNg3.out; have := HNo6.out; have := HNo9.out; have := HNg8.out; have := HNo13.out; have := HNg10.out; have := HNo16.out; have := HNg11.out; omega) _) hb); have nBg3 := Aside0.mk (blk_below (g := g3) (o := .cells #[.slice A0 l0.length c0] 24 (0, 0)) (blk_far (p := ⟨g11, 0, none⟩) BKg3.out (show g3 ≠ g11 from (by have := HNg3.out; have := HNo6.out; have := HNo9.out; have := HNg8.out; have := HNo13.out; have := HNg10.out; have := HNo16.out; have := HNg11.out; omega)) _) hb); have nBg8 := Aside0.mk (blk_below (g := g8) (o := .cells #[.slice Ao9 t8.length co9] 29 (0, 0)) (blk_far (p := ⟨g11, 0, none⟩) BKg8.out (show g8 ≠ g11 from (by have := HNg3.out; have := HNo6.out; have := HNo9.out; have := HNg8.out; have := HNo13.out; have := HNg10.out; have := HNo16.out; have := HNg11.out; omega)) _) hb); have nBg10 := Aside0.mk (blk_below (g := g10) (o := .cells #[.slice Ao13 t12.length co13] 29 (0, 0)) (blk_far (p := ⟨g11, 0, none⟩) BKg10.out (show g10 ≠ g11 from (by have := HNg3.out; have := HNo6.out; have := HNo9.out; have := HNg8.out; have := HNo13.out; have := HNg10.out; have := HNo16.out; have := HNg11.out; omega)) _) hb); have nBg11 := Aside0.mk (blk_below (g := g11) (o := .cells #[.slice Ao16 t15.length co16] 29 (0, 0)) (blk_put (cs := #[.slice none 0 0]) BKg11.out 0 _ rfl) hb); have nHB := Aside0.mk (below_step (below_set HB.out (show w.heap.size ≤ g11 from (by have := HNg3.out; have := HNo6.out; have := HNo9.out; have := HNg8.out; have := HNo13.out; have := HNg10.out; have := HNo16.out; have := HNg11.out; omega))) hb); have nHT := Aside0.mk (top_below (top_far HT.out) hb); clear HB HT HOo6 HOo9 HOo13 HOo16 BKg3 BKg8 BKg10 BKg11; have HOo6 := nOo6; have HOo9 := nOo9; have HOo13 := nOo13; have HOo16 := nOo16; have BKg3 := nBg3; have BKg8 := nBg8; have BKg10 := nBg10; have BKg11 := nBg11; have HB := nHB; have HT := nHT; clear nHB nHT nOo6 nOo9 nOo13 nOo16 nBg3 nBg8 nBg10 nBg11; (try clear hb); (try clear hnd); have hczg3 : w10.cell? ⟨g3, 0, none⟩ = some (.slice A0 l0.length c0) := (blk_cell BKg3.out 0).trans rfl; have hfzg3 := blk_frozen BKg3.out 0; have hczg8 : w10.cell? ⟨g8, 0, none⟩ = some (.slice Ao9 t8.length co9) := (blk_cell BKg8.out 0).trans rfl; have hfzg8 := blk_frozen BKg8.out 0; have hczg10 : w10.cell? ⟨g10, 0, none⟩ = some (.slice Ao13 t12.length co13) := (blk_cell BKg10.out 0).trans rfl; have hfzg10 := blk_frozen BKg10.out 0; have hczg11 : w10.cell? ⟨g11, 0, none⟩ = some (.slice Ao16 t15.length co16) := (blk_cell BKg11.out 0).trans rfl; have hfzg11 := blk_frozen BKg11.out 0))
  (try clear hczg3 hfzg3 hczg8 hfzg8 hczg10 hfzg10 hczg11 hfzg11)
  have nOo6 := Aside0.mk (ObS.drew HOo6.out)
  have nOo9 := Aside0.mk (ObS.drew HOo9.out)
  have nOo13 := Aside0.mk (ObS.drew HOo13.out)
  have nOo16 := Aside0.mk (ObS.drew HOo16.out)
  have nBg3 := Aside0.mk (blk_drew BKg3.out)
  have nBg8 := Aside0.mk (blk_drew BKg8.out)
  have nBg10 := Aside0.mk (blk_drew BKg10.out)
  have nBg11 := Aside0.mk (blk_drew BKg11.out)
  have nHB := Aside0.mk (below_drew1 HB.out)
  have nHT := Aside0.mk (top_drew HT.out)
  clear HB HT HOo6 HOo9 HOo13 HOo16 BKg3 BKg8 BKg10 BKg11
  have HOo6 := nOo6
  have HOo9 := nOo9
  have HOo13 := nOo13
  have HOo16 := nOo16
  have BKg3 := nBg3
  have BKg8 := nBg8
  have BKg10 := nBg10
  have BKg11 := nBg11
  have HB := nHB
  have HT := nHT
  clear nHB nHT nOo6 nOo9 nOo13 nOo16 nBg3 nBg8 nBg10 nBg11
  refine start_ (n := 5) (S := fun w' => w'.cell? ⟨g10, 0, none⟩ = some (.slice Ao13 t12.length co13) ∧ w'.cell? ⟨g3, 0, none⟩ = some (.slice A0 l0.length c0)) (ds := []) #[false, false, false, false, false] (by kernel_rfl) rfl rfl ⟨(blk_cell BKg10.out 0).trans rfl, (blk_cell BKg3.out 0).trans rfl⟩ (fun hHeld => ?_)
  generalize hdr_ : World.drew _ = w11 at HOo6 HOo9 HOo13 HOo16 BKg3 BKg8 BKg10 BKg11 HB HT hHeld ⊢
  (try clear hdr_)
  refine take_ (i := 0) (N := some 49) (v := ?_) (a' := ?_) #[true, false, false, false, false] rfl rfl (by kernel_rfl) (fun _ _ _ h => h) (Or.inl ⟨by rfl, ?_⟩) hHeld ?_ ?_
  rotate_left
  · rintro w' ⟨s0, s1⟩
    go_simp
    with_reducible rfl
  rotate_left
  · simp only [Act.put, List.setIfInBounds_toArray, List.set_cons_zero, List.set_cons_succ, i64_w, i32_w]
    rfl
  refine take_ (i := 1) (N := some 50) (v := ?_) (a' := ?_) #[true, true, false, false, false] rfl rfl (by kernel_rfl) (fun _ _ _ h => h) (Or.inl ⟨by rfl, ?_⟩) hHeld ?_ ?_
  rotate_left
  · rintro w' ⟨s0, s1⟩
    go_simp
    with_reducible rfl
  rotate_left
  · simp only [Act.put, List.setIfInBounds_toArray, List.set_cons_zero, List.set_cons_succ, i64_w, i32_w]
    rfl
  refine one_ (i := 2) (N := some 51) #[true, true, true, false, false] rfl rfl (by kernel_rfl) (by decide) (fun K hK => ?_)
  refine goes_ Try.func17 (by kernel_rfl) rfl #[.agg #[.slice A0 l0.length c0]] (by rfl) rfl rfl (by (try simp only [List.map_toArray, List.map_cons, List.map_nil]); first | done | rfl | (simp only [List.length_drop, List.length_take]; rfl)) ?_
  with_reducible refine (laws_toTriangulation.calls k _ _ l0 t22 _ ?side1 ?side2 H21.out).mono ?_
  (case side1 => exact Kd.C_below HR0.out HB.out)
  (case side2 => exact HC0.out)
  rintro e w12 ⟨vo23, rfl, ho0, hb⟩
  refine ⟨_, rfl, ?_⟩
  (try clear hczg3 hfzg3 hczg8 hfzg8 hczg10 hfzg10 hczg11 hfzg11)
  obtain ⟨loo23, hio23, hno23⟩ := ObS.made ho0 hb HT.out (below_size HB.out)
  have nOo6 := Aside0.mk (ObS.below HOo6.out hb)
  have nOo9 := Aside0.mk (ObS.below HOo9.out hb)
  have nOo13 := Aside0.mk (ObS.below HOo13.out hb)
  have nOo16 := Aside0.mk (ObS.below HOo16.out hb)
  have nBg3 := Aside0.mk (blk_below (g := g3) (o := .cells #[.slice A0 l0.length c0] 24 (0, 0)) BKg3.out hb)
  have nBg8 := Aside0.mk (blk_below (g := g8) (o := .cells #[.slice Ao9 t8.length co9] 29 (0, 0)) BKg8.out hb)
  have nBg10 := Aside0.mk (blk_below (g := g10) (o := .cells #[.slice Ao13 t12.length co13] 29 (0, 0)) BKg10.out hb)
  have nBg11 := Aside0.mk (blk_below (g := g11) (o := .cells #[.slice Ao16 t15.length co16] 29 (0, 0)) BKg11.out hb)
  have nHB := Aside0.mk (below_step HB.out hb)
  have nHT := Aside0.mk (top_below HT.out hb)
  clear HB HT HOo6 HOo9 HOo13 HOo16 BKg3 BKg8 BKg10 BKg11
  have HOo6 := nOo6
  have HOo9 := nOo9
  have HOo13 := nOo13
  have HOo16 := nOo16
  have BKg3 := nBg3
  have BKg8 := nBg8
  have BKg10 := nBg10
  have BKg11 := nBg11
  have HB := nHB
  have HT := nHT
  clear nHB nHT nOo6 nOo9 nOo13 nOo16 nBg3 nBg8 nBg10 nBg11
  have HNo23 := Aside0.mk hno23.1
  clear HT
  have HT := Aside0.mk hno23.2.1
  have HOo23 := Aside0.mk hno23.2.2
  clear hno23 ho0
  obtain ⟨Ao23, co23, eeo23⟩ := HOo23.out.slice
  subst eeo23
  (try clear hb)
  (try clear hnd)
  refine hK.out _ _ ⟨(blk_cell BKg10.out 0).trans rfl, (blk_cell BKg3.out 0).trans rfl⟩ (fun hHeld => ?_)
  clear hK K
  refine norm_ (a' := ?_) ?_ ?_
  rotate_left
  · show Act.put _ (some 51) _ = _
    simp only [Act.put, List.setIfInBounds_toArray, List.set_cons_zero, List.set_cons_succ, i64_w, i32_w]
    rfl
  refine one_ (i := 3) (N := some 52) #[true, true, true, true, false] rfl rfl (by kernel_rfl) (by decide) (fun K hK => ?_)
  refine goes_ Try.func19 (by kernel_rfl) rfl #[.agg #[.slice Ao13 t12.length co13], .agg #[.slice Ao23 t22.length co23]] (by rfl) rfl rfl (by (try simp only [List.map_toArray, List.map_cons, List.map_nil]); first | done | rfl | (simp only [List.length_drop, List.length_take]; rfl)) ?_
  with_reducible refine (laws_eqTriangulation.calls k _ _ t12 _ _ t22 true _ ?side1 ?side2 ?side3 ?side4 H24.out).mono ?_
  (case side1 => exact (ObS.reads HOo13.out).2.2)
  (case side2 => exact ObS.room HOo13.out)
  (case side3 => exact (ObS.reads HOo23.out).2.2)
  (case side4 => exact ObS.room HOo23.out)
  rintro e w13 ⟨rfl, hb⟩
  refine ⟨_, rfl, ?_⟩
  (try clear hczg3 hfzg3 hczg8 hfzg8 hczg10 hfzg10 hczg11 hfzg11)
  have nOo6 := Aside0.mk (ObS.below HOo6.out hb)
  have nOo9 := Aside0.mk (ObS.below HOo9.out hb)
  have nOo13 := Aside0.mk (ObS.below HOo13.out hb)
  have nOo16 := Aside0.mk (ObS.below HOo16.out hb)
  have nOo23 := Aside0.mk (ObS.below HOo23.out hb)
  have nBg3 := Aside0.mk (blk_below (g := g3) (o := .cells #[.slice A0 l0.length c0] 24 (0, 0)) BKg3.out hb)
  have nBg8 := Aside0.mk (blk_below (g := g8) (o := .cells #[.slice Ao9 t8.length co9] 29 (0, 0)) BKg8.out hb)
  have nBg10 := Aside0.mk (blk_below (g := g10) (o := .cells #[.slice Ao13 t12.length co13] 29 (0, 0)) BKg10.out hb)
  have nBg11 := Aside0.mk (blk_below (g := g11) (o := .cells #[.slice Ao16 t15.length co16] 29 (0, 0)) BKg11.out hb)
  have nHB := Aside0.mk (below_step HB.out hb)
  have nHT := Aside0.mk (top_below HT.out hb)
  clear HB HT HOo6 HOo9 HOo13 HOo16 HOo23 BKg3 BKg8 BKg10 BKg11
  have HOo6 := nOo6
  have HOo9 := nOo9
  have HOo13 := nOo13
  have HOo16 := nOo16
  have HOo23 := nOo23
  have BKg3 := nBg3
  have BKg8 := nBg8
  have BKg10 := nBg10
  have BKg11 := nBg11
  have HB := nHB
  have HT := nHT
  clear nHB nHT nOo6 nOo9 nOo13 nOo16 nOo23 nBg3 nBg8 nBg10 nBg11
  (try clear hb)
  (try clear hnd)
  refine hK.out _ _ ⟨(blk_cell BKg10.out 0).trans rfl, (blk_cell BKg3.out 0).trans rfl⟩ (fun hHeld => ?_)
  clear hK K
  refine norm_ (a' := ?_) ?_ ?_
  rotate_left
  · show Act.put _ (some 52) _ = _
    simp only [Act.put, List.setIfInBounds_toArray, List.set_cons_zero, List.set_cons_succ, i64_w, i32_w]
    rfl
  refine pure_ (i := 4) (N := some 53) (v := ?_) (a' := ?_) #[true, true, true, true, true] rfl rfl (by kernel_rfl) (fun _ _ _ h => h) (Or.inl ⟨by rfl, ?_⟩) ?_ ?_
  rotate_left
  · intro w'
    go_simp
    with_reducible rfl
  rotate_left
  · simp only [Act.put, List.setIfInBounds_toArray, List.set_cons_zero, List.set_cons_succ, i64_w, i32_w]
    rfl
  refine done_ (by kernel_rfl) ?_
  have hczg3 : w13.cell? ⟨g3, 0, none⟩ = some (.slice A0 l0.length c0) := (blk_cell BKg3.out 0).trans rfl
  have hfzg3 := blk_frozen BKg3.out 0
  have hczg8 : w13.cell? ⟨g8, 0, none⟩ = some (.slice Ao9 t8.length co9) := (blk_cell BKg8.out 0).trans rfl
  have hfzg8 := blk_frozen BKg8.out 0
  have hczg10 : w13.cell? ⟨g10, 0, none⟩ = some (.slice Ao13 t12.length co13) := (blk_cell BKg10.out 0).trans rfl
  have hfzg10 := blk_frozen BKg10.out 0
  have hczg11 : w13.cell? ⟨g11, 0, none⟩ = some (.slice Ao16 t15.length co16) := (blk_cell BKg11.out 0).trans rfl
  have hfzg11 := blk_frozen BKg11.out 0
  try go_wp2_with (first | ((with_reducible refine gate_callee (f := 28) rfl ?_); refine goesL_ (some 56) rfl rfl Try.func28 (by kernel_rfl) rfl #[.agg #[.slice Ao13 t12.length co13], .int .i64 1] rfl (by (try simp only [List.map_toArray, List.map_cons, List.map_nil]); first | done | rfl | (simp only [List.length_drop, List.length_take]; rfl)) ?_; (with_reducible refine (laws_markTriangulation.calls k (fun k_ => loo13 ≤ k_ ∧ k_ < hio13) (.slice Ao13 t12.length co13) t12 1 m27 y28 w _ HB.out (ObS.row HOo13.out) H26.out).mono ?_); rintro e w14 ⟨rfl, hy, hb, hk0⟩; refine ⟨_, rfl, ?_⟩; have hk := hk0; have nM := Aside0.mk (ObS.marked HOo13.out hy hk.1); (try clear hczg3 hfzg3 hczg8 hfzg8 hczg10 hfzg10 hczg11 hfzg11); have nOo6 := Aside0.mk (ObS.kept HOo6.out hk (by have := HNg3.out; have := HNo6.out; have := HNo9.out; have := HNg8.out; have := HNo13.out; have := HNg10.out; have := HNo16.out; have := HNg11.out; have := HNo23.out; omega)); have nOo9 := Aside0.mk (ObS.kept HOo9.out hk (by have := HNg3.out; have := HNo6.out; have := HNo9.out; have := HNg8.out; have := HNo13.out; have := HNg10.out; have := HNo16.out; have := HNg11.out; have := HNo23.out; omega)); have nOo16 := Aside0.mk (ObS.kept HOo16.out hk (by have := HNg3.out; have := HNo6.out; have := HNo9.out; have := HNg8.out; have := HNo13.out; have := HNg10.out; have := HNo16.out; have := HNg11.out; have := HNo23.out; omega)); have nOo23 := Aside0.mk (ObS.kept HOo23.out hk (by have := HNg3.out; have := HNo6.out; have := HNo9.out; have := HNg8.out; have := HNo13.out; have := HNg10.out; have := HNo16.out; have := HNg11.out; have := HNo23.out; omega)); have nBg3 := Aside0.mk (blk_kept (g := g3) (o := .cells #[.slice A0 l0.length c0] 24 (0, 0)) BKg3.out hk (fun h_ => by have h1_ := h_.1; have h2_ := h_.2; have := HNg3.out; have := HNo6.out; have := HNo9.out; have := HNg8.out; have := HNo13.out; have := HNg10.out; have := HNo16.out; have := HNg11.out; have := HNo23.out; omega)); have nBg8 := Aside0.mk (blk_kept (g := g8) (o := .cells #[.slice Ao9 t8.length co9] 29 (0, 0)) BKg8.out hk (fun h_ => by have h1_ := h_.1; have h2_ := h_.2; have := HNg3.out; have := HNo6.out; have := HNo9.out; have := HNg8.out; have := HNo13.out; have := HNg10.out; have := HNo16.out; have := HNg11.out; have := HNo23.out; omega)); have nBg10 := Aside0.mk (blk_kept (g := g10) (o := .cells #[.slice Ao13 t12.length co13] 29 (0, 0)) BKg10.out hk (fun h_ => by have h1_ := h_.1; have h2_ := h_.2; have := HNg3.out; have := HNo6.out; have := HNo9.out; have := HNg8.out; have := HNo13.out; have := HNg10.out; have := HNo16.out; have := HNg11.out; have := HNo23.out; omega)); have nBg11 := Aside0.mk (blk_kept (g := g11) (o := .cells #[.slice Ao16 t15.length co16] 29 (0, 0)) BKg11.out hk (fun h_ => by have h1_ := h_.1; have h2_ := h_.2; have := HNg3.out; have := HNo6.out; have := HNo9.out; have := HNg8.out; have := HNo13.out; have := HNg10.out; have := HNo16.out; have := HNg11.out; have := HNo23.out; omega)); have nHT := Aside0.mk (Nat.le_trans HT.out hk.1); clear HB HT HOo6 HOo9 HOo13 HOo16 HOo23 BKg3 BKg8 BKg10 BKg11; have HOo6 := nOo6; have HOo9 := nOo9; have HOo13 := nM; have HOo16 := nOo16; have HOo23 := nOo23; have BKg3 := nBg3; have BKg8 := nBg8; have BKg10 := nBg10; have BKg11 := nBg11; have HB := Aside0.mk hb; have HT := nHT; (try clear hy); clear hb hk0 hk nM nHT nOo6 nOo9 nOo16 nOo23 nBg3 nBg8 nBg10 nBg11; have hczg3 : w14.cell? ⟨g3, 0, none⟩ = some (.slice A0 l0.length c0) := (blk_cell BKg3.out 0).trans rfl; have hfzg3 := blk_frozen BKg3.out 0; have hczg8 : w14.cell? ⟨g8, 0, none⟩ = some (.slice Ao9 t8.length co9) := (blk_cell BKg8.out 0).trans rfl; have hfzg8 := blk_frozen BKg8.out 0; have hczg10 : w14.cell? ⟨g10, 0, none⟩ = some (.slice Ao13 t12.length co13) := (blk_cell BKg10.out 0).trans rfl; have hfzg10 := blk_frozen BKg10.out 0; have hczg11 : w14.cell? ⟨g11, 0, none⟩ = some (.slice Ao16 t15.length co16) := (blk_cell BKg11.out 0).trans rfl; have hfzg11 := blk_frozen BKg11.out 0))
  try go_wp2_with (first | (go_at_call 19; (with_reducible refine (laws_eqTriangulation.calls k _ _ t15 _ _ t8 true _ ?side1 ?side2 ?side3 ?side4 H30.out).mono ?_); (case side1 => exact (ObS.reads HOo16.out).2.2); (case side2 => exact ObS.room HOo16.out); (case side3 => exact (ObS.reads HOo9.out).2.2); (case side4 => exact ObS.room HOo9.out); rintro e w15 ⟨rfl, hb⟩; (try clear hczg3 hfzg3 hczg8 hfzg8 hczg10 hfzg10 hczg11 hfzg11); have nOo6 := Aside0.mk (ObS.below HOo6.out hb); have nOo9 := Aside0.mk (ObS.below HOo9.out hb); have nOo13 := Aside0.mk (ObS.below HOo13.out hb); have nOo16 := Aside0.mk (ObS.below HOo16.out hb); have nOo23 := Aside0.mk (ObS.below HOo23.out hb); have nBg3 := Aside0.mk (blk_below (g := g3) (o := .cells #[.slice A0 l0.length c0] 24 (0, 0)) BKg3.out hb); have nBg8 := Aside0.mk (blk_below (g := g8) (o := .cells #[.slice Ao9 t8.length co9] 29 (0, 0)) BKg8.out hb); have nBg10 := Aside0.mk (blk_below (g := g10) (o := .cells #[.slice Ao13 t12.length co13] 29 (0, 0)) BKg10.out hb); have nBg11 := Aside0.mk (blk_below (g := g11) (o := .cells #[.slice Ao16 t15.length co16] 29 (0, 0)) BKg11.out hb); have nHB := Aside0.mk (below_step HB.out hb); have nHT := Aside0.mk (top_below HT.out hb); clear HB HT HOo6 HOo9 HOo13 HOo16 HOo23 BKg3 BKg8 BKg10 BKg11; have HOo6 := nOo6; have HOo9 := nOo9; have HOo13 := nOo13; have HOo16 := nOo16; have HOo23 := nOo23; have BKg3 := nBg3; have BKg8 := nBg8; have BKg10 := nBg10; have BKg11 := nBg11; have HB := nHB; have HT := nHT; clear nHB nHT nOo6 nOo9 nOo13 nOo16 nOo23 nBg3 nBg8 nBg10 nBg11; (try clear hb); (try clear hnd); have hczg3 : w15.cell? ⟨g3, 0, none⟩ = some (.slice A0 l0.length c0) := (blk_cell BKg3.out 0).trans rfl; have hfzg3 := blk_frozen BKg3.out 0; have hczg8 : w15.cell? ⟨g8, 0, none⟩ = some (.slice Ao9 t8.length co9) := (blk_cell BKg8.out 0).trans rfl; have hfzg8 := blk_frozen BKg8.out 0; have hczg10 : w15.cell? ⟨g10, 0, none⟩ = some (.slice Ao13 t12.length co13) := (blk_cell BKg10.out 0).trans rfl; have hfzg10 := blk_frozen BKg10.out 0; have hczg11 : w15.cell? ⟨g11, 0, none⟩ = some (.slice Ao16 t15.length co16) := (blk_cell BKg11.out 0).trans rfl; have hfzg11 := blk_frozen BKg11.out 0) | ((with_reducible refine gate_callee (f := 28) rfl ?_); refine goesL_ (some 72) rfl rfl Try.func28 (by kernel_rfl) rfl #[.agg #[.slice Ao16 t15.length co16], .int .i64 1] rfl (by (try simp only [List.map_toArray, List.map_cons, List.map_nil]); first | done | rfl | (simp only [List.length_drop, List.length_take]; rfl)) ?_; (with_reducible refine (laws_markTriangulation.calls k (fun k_ => loo16 ≤ k_ ∧ k_ < hio16) (.slice Ao16 t15.length co16) t15 1 m34 y35 w _ HB.out (ObS.row HOo16.out) H33.out).mono ?_); rintro e w16 ⟨rfl, hy, hb, hk0⟩; refine ⟨_, rfl, ?_⟩; have hk := hk0; have nM := Aside0.mk (ObS.marked HOo16.out hy hk.1); (try clear hczg3 hfzg3 hczg8 hfzg8 hczg10 hfzg10 hczg11 hfzg11); have nOo6 := Aside0.mk (ObS.kept HOo6.out hk (by have := HNg3.out; have := HNo6.out; have := HNo9.out; have := HNg8.out; have := HNo13.out; have := HNg10.out; have := HNo16.out; have := HNg11.out; have := HNo23.out; omega)); have nOo9 := Aside0.mk (ObS.kept HOo9.out hk (by have := HNg3.out; have := HNo6.out; have := HNo9.out; have := HNg8.out; have := HNo13.out; have := HNg10.out; have := HNo16.out; have := HNg11.out; have := HNo23.out; omega)); have nOo13 := Aside0.mk (ObS.kept HOo13.out hk (by have := HNg3.out; have := HNo6.out; have := HNo9.out; have := HNg8.out; have := HNo13.out; have := HNg10.out; have := HNo16.out; have := HNg11.out; have := HNo23.out; omega)); have nOo23 := Aside0.mk (ObS.kept HOo23.out hk (by have := HNg3.out; have := HNo6.out; have := HNo9.out; have := HNg8.out; have := HNo13.out; have := HNg10.out; have := HNo16.out; have := HNg11.out; have := HNo23.out; omega)); have nBg3 := Aside0.mk (blk_kept (g := g3) (o := .cells #[.slice A0 l0.length c0] 24 (0, 0)) BKg3.out hk (fun h_ => by have h1_ := h_.1; have h2_ := h_.2; have := HNg3.out; have := HNo6.out; have := HNo9.out; have := HNg8.out; have := HNo13.out; have := HNg10.out; have := HNo16.out; have := HNg11.out; have := HNo23.out; omega)); have nBg8 := Aside0.mk (blk_kept (g := g8) (o := .cells #[.slice Ao9 t8.length co9] 29 (0, 0)) BKg8.out hk (fun h_ => by have h1_ := h_.1; have h2_ := h_.2; have := HNg3.out; have := HNo6.out; have := HNo9.out; have := HNg8.out; have := HNo13.out; have := HNg10.out; have := HNo16.out; have := HNg11.out; have := HNo23.out; omega)); have nBg10 := Aside0.mk (blk_kept (g := g10) (o := .cells #[.slice Ao13 t12.length co13] 29 (0, 0)) BKg10.out hk (fun h_ => by have h1_ := h_.1; have h2_ := h_.2; have := HNg3.out; have := HNo6.out; have := HNo9.out; have := HNg8.out; have := HNo13.out; have := HNg10.out; have := HNo16.out; have := HNg11.out; have := HNo23.out; omega)); have nBg11 := Aside0.mk (blk_kept (g := g11) (o := .cells #[.slice Ao16 t15.length co16] 29 (0, 0)) BKg11.out hk (fun h_ => by have h1_ := h_.1; have h2_ := h_.2; have := HNg3.out; have := HNo6.out; have := HNo9.out; have := HNg8.out; have := HNo13.out; have := HNg10.out; have := HNo16.out; have := HNg11.out; have := HNo23.out; omega)); have nHT := Aside0.mk (Nat.le_trans HT.out hk.1); clear HB HT HOo6 HOo9 HOo13 HOo16 HOo23 BKg3 BKg8 BKg10 BKg11; have HOo6 := nOo6; have HOo9 := nOo9; have HOo13 := nOo13; have HOo16 := nM; have HOo23 := nOo23; have BKg3 := nBg3; have BKg8 := nBg8; have BKg10 := nBg10; have BKg11 := nBg11; have HB := Aside0.mk hb; have HT := nHT; (try clear hy); clear hb hk0 hk nM nHT nOo6 nOo9 nOo13 nOo23 nBg3 nBg8 nBg10 nBg11; have hczg3 : w16.cell? ⟨g3, 0, none⟩ = some (.slice A0 l0.length c0) := (blk_cell BKg3.out 0).trans rfl; have hfzg3 := blk_frozen BKg3.out 0; have hczg8 : w16.cell? ⟨g8, 0, none⟩ = some (.slice Ao9 t8.length co9) := (blk_cell BKg8.out 0).trans rfl; have hfzg8 := blk_frozen BKg8.out 0; have hczg10 : w16.cell? ⟨g10, 0, none⟩ = some (.slice Ao13 t12.length co13) := (blk_cell BKg10.out 0).trans rfl; have hfzg10 := blk_frozen BKg10.out 0; have hczg11 : w16.cell? ⟨g11, 0, none⟩ = some (.slice Ao16 t15.length co16) := (blk_cell BKg11.out 0).trans rfl; have hfzg11 := blk_frozen BKg11.out 0) | ((with_reducible refine gate_callee (f := 33) rfl ?_); refine goesL_ (some 75) rfl rfl Try.func33 (by kernel_rfl) rfl #[.agg #[.slice Ao16 y35.length co16], .int .i64 1] rfl (by (try simp only [List.map_toArray, List.map_cons, List.map_nil]); first | done | (rw [show y35.length = t15.length from (ObS.reads HOo16.out).1.symm] <;> rfl) | rfl | (simp only [List.length_drop, List.length_take]; rfl)) ?_; (with_reducible refine (laws_heldTriangulation.calls k _ _ y35 1 t37 _ ?side1 ?side2 H36.out).mono ?_); (case side1 => exact (ObS.reads HOo16.out).2.2); (case side2 => exact ObS.room HOo16.out); rintro e w17 ⟨rfl, hb⟩; refine ⟨_, rfl, ?_⟩; (try clear hczg3 hfzg3 hczg8 hfzg8 hczg10 hfzg10 hczg11 hfzg11); have nOo6 := Aside0.mk (ObS.below HOo6.out hb); have nOo9 := Aside0.mk (ObS.below HOo9.out hb); have nOo13 := Aside0.mk (ObS.below HOo13.out hb); have nOo16 := Aside0.mk (ObS.below HOo16.out hb); have nOo23 := Aside0.mk (ObS.below HOo23.out hb); have nBg3 := Aside0.mk (blk_below (g := g3) (o := .cells #[.slice A0 l0.length c0] 24 (0, 0)) BKg3.out hb); have nBg8 := Aside0.mk (blk_below (g := g8) (o := .cells #[.slice Ao9 t8.length co9] 29 (0, 0)) BKg8.out hb); have nBg10 := Aside0.mk (blk_below (g := g10) (o := .cells #[.slice Ao13 t12.length co13] 29 (0, 0)) BKg10.out hb); have nBg11 := Aside0.mk (blk_below (g := g11) (o := .cells #[.slice Ao16 t15.length co16] 29 (0, 0)) BKg11.out hb); have nHB := Aside0.mk (below_step HB.out hb); have nHT := Aside0.mk (top_below HT.out hb); clear HB HT HOo6 HOo9 HOo13 HOo16 HOo23 BKg3 BKg8 BKg10 BKg11; have HOo6 := nOo6; have HOo9 := nOo9; have HOo13 := nOo13; have HOo16 := nOo16; have HOo23 := nOo23; have BKg3 := nBg3; have BKg8 := nBg8; have BKg10 := nBg10; have BKg11 := nBg11; have HB := nHB; have HT := nHT; clear nHB nHT nOo6 nOo9 nOo13 nOo16 nOo23 nBg3 nBg8 nBg10 nBg11; (try clear hb); (try clear hnd); have hczg3 : w17.cell? ⟨g3, 0, none⟩ = some (.slice A0 l0.length c0) := (blk_cell BKg3.out 0).trans rfl; have hfzg3 := blk_frozen BKg3.out 0; have hczg8 : w17.cell? ⟨g8, 0, none⟩ = some (.slice Ao9 t8.length co9) := (blk_cell BKg8.out 0).trans rfl; have hfzg8 := blk_frozen BKg8.out 0; have hczg10 : w17.cell? ⟨g10, 0, none⟩ = some (.slice Ao13 t12.length co13) := (blk_cell BKg10.out 0).trans rfl; have hfzg10 := blk_frozen BKg10.out 0; have hczg11 : w17.cell? ⟨g11, 0, none⟩ = some (.slice Ao16 t15.length co16) := (blk_cell BKg11.out 0).trans rfl; have hfzg11 := blk_frozen BKg11.out 0) | ((with_reducible refine gate_callee (f := 17) rfl ?_); refine goesL_ (some 83) rfl rfl Try.func17 (by kernel_rfl) rfl #[.agg #[.slice A0 l0.length c0]] rfl (by (try simp only [List.map_toArray, List.map_cons, List.map_nil]); first | done | rfl | (simp only [List.length_drop, List.length_take]; rfl)) ?_; (with_reducible refine (laws_toTriangulation.calls k _ _ l0 t41 _ ?side1 ?side2 H40.out).mono ?_); (case side1 => exact Kd.C_below HR0.out HB.out); (case side2 => exact HC0.out); rintro e w18 ⟨vo42, rfl, ho0, hb⟩; refine ⟨_, rfl, ?_⟩; (try clear hczg3 hfzg3 hczg8 hfzg8 hczg10 hfzg10 hczg11 hfzg11); obtain ⟨loo42, hio42, hno42⟩ := ObS.made ho0 hb HT.out (below_size HB.out); have nOo6 := Aside0.mk (ObS.below HOo6.out hb); have nOo9 := Aside0.mk (ObS.below HOo9.out hb); have nOo13 := Aside0.mk (ObS.below HOo13.out hb); have nOo16 := Aside0.mk (ObS.below HOo16.out hb); have nOo23 := Aside0.mk (ObS.below HOo23.out hb); have nBg3 := Aside0.mk (blk_below (g := g3) (o := .cells #[.slice A0 l0.length c0] 24 (0, 0)) BKg3.out hb); have nBg8 := Aside0.mk (blk_below (g := g8) (o := .cells #[.slice Ao9 t8.length co9] 29 (0, 0)) BKg8.out hb); have nBg10 := Aside0.mk (blk_below (g := g10) (o := .cells #[.slice Ao13 t12.length co13] 29 (0, 0)) BKg10.out hb); have nBg11 := Aside0.mk (blk_below (g := g11) (o := .cells #[.slice Ao16 t15.length co16] 29 (0, 0)) BKg11.out hb); have nHB := Aside0.mk (below_step HB.out hb); have nHT := Aside0.mk (top_below HT.out hb); clear HB HT HOo6 HOo9 HOo13 HOo16 HOo23 BKg3 BKg8 BKg10 BKg11; have HOo6 := nOo6; have HOo9 := nOo9; have HOo13 := nOo13; have HOo16 := nOo16; have HOo23 := nOo23; have BKg3 := nBg3; have BKg8 := nBg8; have BKg10 := nBg10; have BKg11 := nBg11; have HB := nHB; have HT := nHT; clear nHB nHT nOo6 nOo9 nOo13 nOo16 nOo23 nBg3 nBg8 nBg10 nBg11; have HNo42 := Aside0.mk hno42.1; clear HT; have HT := Aside0.mk hno42.2.1; have HOo42 := Aside0.mk hno42.2.2; clear hno42 ho0; obtain ⟨Ao42, co42, eeo42⟩ := HOo42.out.slice; subst eeo42; (try clear hb); (try clear hnd); have hczg3 : w18.cell? ⟨g3, 0, none⟩ = some (.slice A0 l0.length c0) := (blk_cell BKg3.out 0).trans rfl; have hfzg3 := blk_frozen BKg3.out 0; have hczg8 : w18.cell? ⟨g8, 0, none⟩ = some (.slice Ao9 t8.length co9) := (blk_cell BKg8.out 0).trans rfl; have hfzg8 := blk_frozen BKg8.out 0; have hczg10 : w18.cell? ⟨g10, 0, none⟩ = some (.slice Ao13 t12.length co13) := (blk_cell BKg10.out 0).trans rfl; have hfzg10 := blk_frozen BKg10.out 0; have hczg11 : w18.cell? ⟨g11, 0, none⟩ = some (.slice Ao16 t15.length co16) := (blk_cell BKg11.out 0).trans rfl; have hfzg11 := blk_frozen BKg11.out 0) | ((with_reducible refine gate_callee (f := 32) rfl ?_); refine goesL_ (some 86) rfl rfl Try.func32 (by kernel_rfl) rfl #[.agg #[.slice Ao42 t41.length co42], .int .i64 a1, .int .i64 a2] rfl (by (try simp only [List.map_toArray, List.map_cons, List.map_nil]); first | done | rfl | (simp only [List.length_drop, List.length_take]; rfl)) ?_; (with_reducible refine (impl_UnglueFace.calls k _ _ t41 a1 a2 t44 t46 _ ?side1 ?side2 H43.out).mono ?_); (case side1 => exact (ObS.reads HOo42.out).2.2); (case side2 => exact ObS.room HOo42.out); rintro e w19 ⟨vo45, rfl, ho0, hb⟩; refine ⟨_, rfl, ?_⟩; (try clear hczg3 hfzg3 hczg8 hfzg8 hczg10 hfzg10 hczg11 hfzg11); obtain ⟨loo45, hio45, hno45⟩ := ObS.made ho0 hb HT.out (below_size HB.out); have nOo6 := Aside0.mk (ObS.below HOo6.out hb); have nOo9 := Aside0.mk (ObS.below HOo9.out hb); have nOo13 := Aside0.mk (ObS.below HOo13.out hb); have nOo16 := Aside0.mk (ObS.below HOo16.out hb); have nOo23 := Aside0.mk (ObS.below HOo23.out hb); have nOo42 := Aside0.mk (ObS.below HOo42.out hb); have nBg3 := Aside0.mk (blk_below (g := g3) (o := .cells #[.slice A0 l0.length c0] 24 (0, 0)) BKg3.out hb); have nBg8 := Aside0.mk (blk_below (g := g8) (o := .cells #[.slice Ao9 t8.length co9] 29 (0, 0)) BKg8.out hb); have nBg10 := Aside0.mk (blk_below (g := g10) (o := .cells #[.slice Ao13 t12.length co13] 29 (0, 0)) BKg10.out hb); have nBg11 := Aside0.mk (blk_below (g := g11) (o := .cells #[.slice Ao16 t15.length co16] 29 (0, 0)) BKg11.out hb); have nHB := Aside0.mk (below_step HB.out hb); have nHT := Aside0.mk (top_below HT.out hb); clear HB HT HOo6 HOo9 HOo13 HOo16 HOo23 HOo42 BKg3 BKg8 BKg10 BKg11; have HOo6 := nOo6; have HOo9 := nOo9; have HOo13 := nOo13; have HOo16 := nOo16; have HOo23 := nOo23; have HOo42 := nOo42; have BKg3 := nBg3; have BKg8 := nBg8; have BKg10 := nBg10; have BKg11 := nBg11; have HB := nHB; have HT := nHT; clear nHB nHT nOo6 nOo9 nOo13 nOo16 nOo23 nOo42 nBg3 nBg8 nBg10 nBg11; have HNo45 := Aside0.mk hno45.1; clear HT; have HT := Aside0.mk hno45.2.1; have HOo45 := Aside0.mk hno45.2.2; clear hno45 ho0; obtain ⟨Ao45, co45, eeo45⟩ := HOo45.out.slice; subst eeo45; (try clear hb); (try clear hnd); have hczg3 : w19.cell? ⟨g3, 0, none⟩ = some (.slice A0 l0.length c0) := (blk_cell BKg3.out 0).trans rfl; have hfzg3 := blk_frozen BKg3.out 0; have hczg8 : w19.cell? ⟨g8, 0, none⟩ = some (.slice Ao9 t8.length co9) := (blk_cell BKg8.out 0).trans rfl; have hfzg8 := blk_frozen BKg8.out 0; have hczg10 : w19.cell? ⟨g10, 0, none⟩ = some (.slice Ao13 t12.length co13) := (blk_cell BKg10.out 0).trans rfl; have hfzg10 := blk_frozen BKg10.out 0; have hczg11 : w19.cell? ⟨g11, 0, none⟩ = some (.slice Ao16 t15.length co16) := (blk_cell BKg11.out 0).trans rfl; have hfzg11 := blk_frozen BKg11.out 0) | ((with_reducible refine gate_dst (N := 16) rfl ?_); refine box_event ?hg (N := 16) ?hd (cs := #[.slice none 0 0]) (t := 29) ?hr ?_; (case hd => rfl); (case hg => rfl); (case hr => first | (go_simp; done) | (go_simp; rfl)); intro g16 hg w20 hbox hb; (try clear hczg3 hfzg3 hczg8 hfzg8 hczg10 hfzg10 hczg11 hfzg11); have HNg16 := Aside0.mk (by rw [hg]; exact HT.out : hio45 ≤ g16); have HXg16 := Aside0.mk (show g16 + 1 ≤ w20.heap.size from blk_lt hbox); have nOo6 := Aside0.mk (ObS.below HOo6.out hb); have nOo9 := Aside0.mk (ObS.below HOo9.out hb); have nOo13 := Aside0.mk (ObS.below HOo13.out hb); have nOo16 := Aside0.mk (ObS.below HOo16.out hb); have nOo23 := Aside0.mk (ObS.below HOo23.out hb); have nOo42 := Aside0.mk (ObS.below HOo42.out hb); have nOo45 := Aside0.mk (ObS.below HOo45.out hb); have nBg3 := Aside0.mk (blk_below (g := g3) (o := .cells #[.slice A0 l0.length c0] 24 (0, 0)) BKg3.out hb); have nBg8 := Aside0.mk (blk_below (g := g8) (o := .cells #[.slice Ao9 t8.length co9] 29 (0, 0)) BKg8.out hb); have nBg10 := Aside0.mk (blk_below (g := g10) (o := .cells #[.slice Ao13 t12.length co13] 29 (0, 0)) BKg10.out hb); have nBg11 := Aside0.mk (blk_below (g := g11) (o := .cells #[.slice Ao16 t15.length co16] 29 (0, 0)) BKg11.out hb); have nHB := Aside0.mk (below_step HB.out hb); have nHT := Aside0.mk (top_below HT.out hb); clear HB HT HOo6 HOo9 HOo13 HOo16 HOo23 HOo42 HOo45 BKg3 BKg8 BKg10 BKg11; have HOo6 := nOo6; have HOo9 := nOo9; have HOo13 := nOo13; have HOo16 := nOo16; have HOo23 := nOo23; have HOo42 := nOo42; have HOo45 := nOo45; have BKg3 := nBg3; have BKg8 := nBg8; have BKg10 := nBg10; have BKg11 := nBg11; have HB := nHB; have HT := nHT; clear nHB nHT nOo6 nOo9 nOo13 nOo16 nOo23 nOo42 nOo45 nBg3 nBg8 nBg10 nBg11; clear HT; have HT := HXg16; clear HXg16; have BKg16 := Aside0.mk hbox; clear hg hbox hb; have hnbg16_g3 : g16 ≠ g3 := (by have := HNg3.out; have := HNo6.out; have := HNo9.out; have := HNg8.out; have := HNo13.out; have := HNg10.out; have := HNo16.out; have := HNg11.out; have := HNo23.out; have := HNo42.out; have := HNo45.out; have := HNg16.out; omega); have hnbg3_g16 : g3 ≠ g16 := (by have := HNg3.out; have := HNo6.out; have := HNo9.out; have := HNg8.out; have := HNo13.out; have := HNg10.out; have := HNo16.out; have := HNg11.out; have := HNo23.out; have := HNo42.out; have := HNo45.out; have := HNg16.out; omega); have hnbg16_g8 : g16 ≠ g8 := (by have := HNg3.out; have := HNo6.out; have := HNo9.out; have := HNg8.out; have := HNo13.out; have := HNg10.out; have := HNo16.out; have := HNg11.out; have := HNo23.out; have := HNo42.out; have := HNo45.out; have := HNg16.out; omega); have hnbg8_g16 : g8 ≠ g16 := (by have := HNg3.out; have := HNo6.out; have := HNo9.out; have := HNg8.out; have := HNo13.out; have := HNg10.out; have := HNo16.out; have := HNg11.out; have := HNo23.out; have := HNo42.out; have := HNo45.out; have := HNg16.out; omega); have hnbg16_g10 : g16 ≠ g10 := (by have := HNg3.out; have := HNo6.out; have := HNo9.out; have := HNg8.out; have := HNo13.out; have := HNg10.out; have := HNo16.out; have := HNg11.out; have := HNo23.out; have := HNo42.out; have := HNo45.out; have := HNg16.out; omega); have hnbg10_g16 : g10 ≠ g16 := (by have := HNg3.out; have := HNo6.out; have := HNo9.out; have := HNg8.out; have := HNo13.out; have := HNg10.out; have := HNo16.out; have := HNg11.out; have := HNo23.out; have := HNo42.out; have := HNo45.out; have := HNg16.out; omega); have hnbg16_g11 : g16 ≠ g11 := (by have := HNg3.out; have := HNo6.out; have := HNo9.out; have := HNg8.out; have := HNo13.out; have := HNg10.out; have := HNo16.out; have := HNg11.out; have := HNo23.out; have := HNo42.out; have := HNo45.out; have := HNg16.out; omega); have hnbg11_g16 : g11 ≠ g16 := (by have := HNg3.out; have := HNo6.out; have := HNo9.out; have := HNg8.out; have := HNo13.out; have := HNg10.out; have := HNo16.out; have := HNg11.out; have := HNo23.out; have := HNo42.out; have := HNo45.out; have := HNg16.out; omega); have hczg3 : w20.cell? ⟨g3, 0, none⟩ = some (.slice A0 l0.length c0) := (blk_cell BKg3.out 0).trans rfl; have hfzg3 := blk_frozen BKg3.out 0; have hczg8 : w20.cell? ⟨g8, 0, none⟩ = some (.slice Ao9 t8.length co9) := (blk_cell BKg8.out 0).trans rfl; have hfzg8 := blk_frozen BKg8.out 0; have hczg10 : w20.cell? ⟨g10, 0, none⟩ = some (.slice Ao13 t12.length co13) := (blk_cell BKg10.out 0).trans rfl; have hfzg10 := blk_frozen BKg10.out 0; have hczg11 : w20.cell? ⟨g11, 0, none⟩ = some (.slice Ao16 t15.length co16) := (blk_cell BKg11.out 0).trans rfl; have hfzg11 := blk_frozen BKg11.out 0; have hczg16 : w20.cell? ⟨g16, 0, none⟩ = some (.slice none 0 0) := (blk_cell BKg16.out 0).trans rfl; have hfzg16 := blk_frozen BKg16.out 0) | ((with_reducible refine gate_callee (f := 19) rfl ?_); refine goesL_ (some 91) rfl rfl Try.func19 (by kernel_rfl) rfl #[.agg #[.slice Ao45 t44.length co45], .agg #[.slice Ao9 t8.length co9]] rfl (by (try simp only [List.map_toArray, List.map_cons, List.map_nil]); first | done | rfl | (simp only [List.length_drop, List.length_take]; rfl)) ?_; (with_reducible refine (laws_eqTriangulation.calls k _ _ t44 _ _ t8 true _ ?side1 ?side2 ?side3 ?side4 H47.out).mono ?_); (case side1 => exact (ObS.reads (ObS.far (g := g16) (i := 0) HOo45.out (by have := HNg3.out; have := HNo6.out; have := HNo9.out; have := HNg8.out; have := HNo13.out; have := HNg10.out; have := HNo16.out; have := HNg11.out; have := HNo23.out; have := HNo42.out; have := HNo45.out; have := HNg16.out; omega) _)).2.2); (case side2 => exact ObS.room HOo45.out); (case side3 => exact (ObS.reads (ObS.far (g := g16) (i := 0) HOo9.out (by have := HNg3.out; have := HNo6.out; have := HNo9.out; have := HNg8.out; have := HNo13.out; have := HNg10.out; have := HNo16.out; have := HNg11.out; have := HNo23.out; have := HNo42.out; have := HNo45.out; have := HNg16.out; omega) _)).2.2); (case side4 => exact ObS.room HOo9.out); rintro e w21 ⟨rfl, hb⟩; refine ⟨_, rfl, ?_⟩; (try clear hczg3 hfzg3 hczg8 hfzg8 hczg10 hfzg10 hczg11 hfzg11 hczg16 hfzg16); have nOo6 := Aside0.mk (ObS.below (ObS.far (g := g16) (i := 0) HOo6.out (by have := HNg3.out; have := HNo6.out; have := HNo9.out; have := HNg8.out; have := HNo13.out; have := HNg10.out; have := HNo16.out; have := HNg11.out; have := HNo23.out; have := HNo42.out; have := HNo45.out; have := HNg16.out; omega) _) hb); have nOo9 := Aside0.mk (ObS.below (ObS.far (g := g16) (i := 0) HOo9.out (by have := HNg3.out; have := HNo6.out; have := HNo9.out; have := HNg8.out; have := HNo13.out; have := HNg10.out; have := HNo16.out; have := HNg11.out; have := HNo23.out; have := HNo42.out; have := HNo45.out; have := HNg16.out; omega) _) hb); have nOo13 := Aside0.mk (ObS.below (ObS.far (g := g16) (i := 0) HOo13.out (by have := HNg3.out; have := HNo6.out; have := HNo9.out; have := HNg8.out; have := HNo13.out; have := HNg10.out; have := HNo16.out; have := HNg11.out; have := HNo23.out; have := HNo42.out; have := HNo45.out; have := HNg16.out; omega) _) hb); have nOo16 := Aside0.mk (ObS.below (ObS.far (g := g16) (i := 0) HOo16.out (by have := HNg3.out; have := HNo6.out; have := HNo9.out; have := HNg8.out; have := HNo13.out; have := HNg10.out; have := HNo16.out; have := HNg11.out; have := HNo23.out; have := HNo42.out; have := HNo45.out; have := HNg16.out; omega) _) hb); have nOo23 := Aside0.mk (ObS.below (ObS.far (g := g16) (i := 0) HOo23.out (by have := HNg3.out; have := HNo6.out; have := HNo9.out; have := HNg8.out; have := HNo13.out; have := HNg10.out; have := HNo16.out; have := HNg11.out; have := HNo23.out; have := HNo42.out; have := HNo45.out; have := HNg16.out; omega) _) hb); have nOo42 := Aside0.mk (ObS.below (ObS.far (g := g16) (i := 0) HOo42.out (by have := HNg3.out; have := HNo6.out; have := HNo9.out; have := HNg8.out; have := HNo13.out; have := HNg10.out; have := HNo16.out; have := HNg11.out; have := HNo23.out; have := HNo42.out; have := HNo45.out; have := HNg16.out; omega) _) hb); have nOo45 := Aside0.mk (ObS.below (ObS.far (g := g16) (i := 0) HOo45.out (by have := HNg3.out; have := HNo6.out; have := HNo9.out; have := HNg8.out; have := HNo13.out; have := HNg10.out; have := HNo16.out; have := HNg11.out; have := HNo23.out; have := HNo42.out; have := HNo45.out; have := HNg16.out; omega) _) hb); have nBg3 := Aside0.mk (blk_below (g := g3) (o := .cells #[.slice A0 l0.length c0] 24 (0, 0)) (blk_far (p := ⟨g16, 0, none⟩) BKg3.out (show g3 ≠ g16 from (by have := HNg3.out; have := HNo6.out; have := HNo9.out; have := HNg8.out; have := HNo13.out; have := HNg10.out; have := HNo16.out; have := HNg11.out; have := HNo23.out; have := HNo42.out; have := HNo45.out; have := HNg16.out; omega)) _) hb); have nBg8 := Aside0.mk (blk_below (g := g8) (o := .cells #[.slice Ao9 t8.length co9] 29 (0, 0)) (blk_far (p := ⟨g16, 0, none⟩) BKg8.out (show g8 ≠ g16 from (by have := HNg3.out; have := HNo6.out; have := HNo9.out; have := HNg8.out; have := HNo13.out; have := HNg10.out; have := HNo16.out; have := HNg11.out; have := HNo23.out; have := HNo42.out; have := HNo45.out; have := HNg16.out; omega)) _) hb); have nBg10 := Aside0.mk (blk_below (g := g10) (o := .cells #[.slice Ao13 t12.length co13] 29 (0, 0)) (blk_far (p := ⟨g16, 0, none⟩) BKg10.out (show g10 ≠ g16 from (by have := HNg3.out; have := HNo6.out; have := HNo9.out; have := HNg8.out; have := HNo13.out; have := HNg10.out; have := HNo16.out; have := HNg11.out; have := HNo23.out; have := HNo42.out; have := HNo45.out; have := HNg16.out; omega)) _) hb); have nBg11 := Aside0.mk (blk_below (g := g11) (o := .cells #[.slice Ao16 t15.length co16] 29 (0, 0)) (blk_far (p := ⟨g16, 0, none⟩) BKg11.out (show g11 ≠ g16 from (by have := HNg3.out; have := HNo6.out; have := HNo9.out; have := HNg8.out; have := HNo13.out; have := HNg10.out; have := HNo16.out; have := HNg11.out; have := HNo23.out; have := HNo42.out; have := HNo45.out; have := HNg16.out; omega)) _) hb); have nBg16 := Aside0.mk (blk_below (g := g16) (o := .cells #[.slice Ao45 t44.length co45] 29 (0, 0)) (blk_put (cs := #[.slice none 0 0]) BKg16.out 0 _ rfl) hb); have nHB := Aside0.mk (below_step (below_set HB.out (show w.heap.size ≤ g16 from (by have := HNg3.out; have := HNo6.out; have := HNo9.out; have := HNg8.out; have := HNo13.out; have := HNg10.out; have := HNo16.out; have := HNg11.out; have := HNo23.out; have := HNo42.out; have := HNo45.out; have := HNg16.out; omega))) hb); have nHT := Aside0.mk (top_below (top_far HT.out) hb); clear HB HT HOo6 HOo9 HOo13 HOo16 HOo23 HOo42 HOo45 BKg3 BKg8 BKg10 BKg11 BKg16; have HOo6 := nOo6; have HOo9 := nOo9; have HOo13 := nOo13; have HOo16 := nOo16; have HOo23 := nOo23; have HOo42 := nOo42; have HOo45 := nOo45; have BKg3 := nBg3; have BKg8 := nBg8; have BKg10 := nBg10; have BKg11 := nBg11; have BKg16 := nBg16; have HB := nHB; have HT := nHT; clear nHB nHT nOo6 nOo9 nOo13 nOo16 nOo23 nOo42 nOo45 nBg3 nBg8 nBg10 nBg11 nBg16; (try clear hb); (try clear hnd); have hczg3 : w21.cell? ⟨g3, 0, none⟩ = some (.slice A0 l0.length c0) := (blk_cell BKg3.out 0).trans rfl; have hfzg3 := blk_frozen BKg3.out 0; have hczg8 : w21.cell? ⟨g8, 0, none⟩ = some (.slice Ao9 t8.length co9) := (blk_cell BKg8.out 0).trans rfl; have hfzg8 := blk_frozen BKg8.out 0; have hczg10 : w21.cell? ⟨g10, 0, none⟩ = some (.slice Ao13 t12.length co13) := (blk_cell BKg10.out 0).trans rfl; have hfzg10 := blk_frozen BKg10.out 0; have hczg11 : w21.cell? ⟨g11, 0, none⟩ = some (.slice Ao16 t15.length co16) := (blk_cell BKg11.out 0).trans rfl; have hfzg11 := blk_frozen BKg11.out 0; have hczg16 : w21.cell? ⟨g16, 0, none⟩ = some (.slice Ao45 t44.length co45) := (blk_cell BKg16.out 0).trans rfl; have hfzg16 := blk_frozen BKg16.out 0) | ((with_reducible refine gate_callee (f := 33) rfl ?_); refine goesL_ (some 100) rfl rfl Try.func33 (by kernel_rfl) rfl #[.agg #[.slice Ao16 y35.length co16], .int .i64 1] rfl (by (try simp only [List.map_toArray, List.map_cons, List.map_nil]); first | done | (rw [show y35.length = t15.length from (ObS.reads HOo16.out).1.symm] <;> rfl) | rfl | (simp only [List.length_drop, List.length_take]; rfl)) ?_; (with_reducible refine (laws_heldTriangulation.calls k _ _ y35 1 t51 _ ?side1 ?side2 H50.out).mono ?_); (case side1 => exact (ObS.reads HOo16.out).2.2); (case side2 => exact ObS.room HOo16.out); rintro e w22 ⟨rfl, hb⟩; refine ⟨_, rfl, ?_⟩; (try clear hczg3 hfzg3 hczg8 hfzg8 hczg10 hfzg10 hczg11 hfzg11 hczg16 hfzg16); have nOo6 := Aside0.mk (ObS.below HOo6.out hb); have nOo9 := Aside0.mk (ObS.below HOo9.out hb); have nOo13 := Aside0.mk (ObS.below HOo13.out hb); have nOo16 := Aside0.mk (ObS.below HOo16.out hb); have nOo23 := Aside0.mk (ObS.below HOo23.out hb); have nOo42 := Aside0.mk (ObS.below HOo42.out hb); have nOo45 := Aside0.mk (ObS.below HOo45.out hb); have nBg3 := Aside0.mk (blk_below (g := g3) (o := .cells #[.slice A0 l0.length c0] 24 (0, 0)) BKg3.out hb); have nBg8 := Aside0.mk (blk_below (g := g8) (o := .cells #[.slice Ao9 t8.length co9] 29 (0, 0)) BKg8.out hb); have nBg10 := Aside0.mk (blk_below (g := g10) (o := .cells #[.slice Ao13 t12.length co13] 29 (0, 0)) BKg10.out hb); have nBg11 := Aside0.mk (blk_below (g := g11) (o := .cells #[.slice Ao16 t15.length co16] 29 (0, 0)) BKg11.out hb); have nBg16 := Aside0.mk (blk_below (g := g16) (o := .cells #[.slice Ao45 t44.length co45] 29 (0, 0)) BKg16.out hb); have nHB := Aside0.mk (below_step HB.out hb); have nHT := Aside0.mk (top_below HT.out hb); clear HB HT HOo6 HOo9 HOo13 HOo16 HOo23 HOo42 HOo45 BKg3 BKg8 BKg10 BKg11 BKg16; have HOo6 := nOo6; have HOo9 := nOo9; have HOo13 := nOo13; have HOo16 := nOo16; have HOo23 := nOo23; have HOo42 := nOo42; have HOo45 := nOo45; have BKg3 := nBg3; have BKg8 := nBg8; have BKg10 := nBg10; have BKg11 := nBg11; have BKg16 := nBg16; have HB := nHB; have HT := nHT; clear nHB nHT nOo6 nOo9 nOo13 nOo16 nOo23 nOo42 nOo45 nBg3 nBg8 nBg10 nBg11 nBg16; (try clear hb); (try clear hnd); have hczg3 : w22.cell? ⟨g3, 0, none⟩ = some (.slice A0 l0.length c0) := (blk_cell BKg3.out 0).trans rfl; have hfzg3 := blk_frozen BKg3.out 0; have hczg8 : w22.cell? ⟨g8, 0, none⟩ = some (.slice Ao9 t8.length co9) := (blk_cell BKg8.out 0).trans rfl; have hfzg8 := blk_frozen BKg8.out 0; have hczg10 : w22.cell? ⟨g10, 0, none⟩ = some (.slice Ao13 t12.length co13) := (blk_cell BKg10.out 0).trans rfl; have hfzg10 := blk_frozen BKg10.out 0; have hczg11 : w22.cell? ⟨g11, 0, none⟩ = some (.slice Ao16 t15.length co16) := (blk_cell BKg11.out 0).trans rfl; have hfzg11 := blk_frozen BKg11.out 0; have hczg16 : w22.cell? ⟨g16, 0, none⟩ = some (.slice Ao45 t44.length co45) := (blk_cell BKg16.out 0).trans rfl; have hfzg16 := blk_frozen BKg16.out 0))
  go_ret
  exact ⟨by first | rfl | (simp <;> rfl), HB.out⟩
end Go.Proofs.Ytojpoedeiedgdaa.P

/- Plain lemmas on loops that are counted by rounds, and on lists of whole numbers. -/
namespace Go.Proofs.Ytojpoedeiedgdaa.Lib
set_option linter.unusedVariables false
open Go.RowKit Go.Proofs.YtojpoedeiedgdaaW.PrintWords
/-- A loop comes to g of its first state: at each state it ends with g, or goes on at a smaller state of the same g. -/
theorem ev_loop {σ ρ : Type} (L : Nat → σ → Option ρ) (I : σ → Prop) (m : σ → Nat) (g : σ → ρ)
    (h : ∀ s, I s → (∃ K, ∀ k, K ≤ k → L (k + 1) s = some (g s)) ∨ (∃ s' K, I s' ∧ m s' < m s ∧ g s' = g s ∧ ∀ k, K ≤ k → L (k + 1) s = L k s')) :
    ∀ s, I s → Ev (fun k => L k s) (g s) := by
  have key : ∀ (n : Nat) (s : σ), m s < n → I s → Ev (fun k => L k s) (g s) := by
    intro n
    induction n with
    | zero => intro s hs; omega
    | succ n ih =>
      intro s hs hi
      rcases h s hi with ⟨K, hK⟩ | ⟨s', K, hi', hm, hg, hK⟩
      · refine ⟨K + 1, fun k hk => ?_⟩
        obtain ⟨j, rfl⟩ : ∃ j, k = j + 1 := ⟨k - 1, by omega⟩
        exact hK j (by omega)
      · obtain ⟨K', hK'⟩ := ih s' (by omega) hi'
        refine ⟨max K K' + 1, fun k hk => ?_⟩
        obtain ⟨j, rfl⟩ : ∃ j, k = j + 1 := ⟨k - 1, by omega⟩
        show L (j + 1) s = some (g s)
        rw [hK j (by omega), ← hg]
        exact hK' j (by omega)
  intro s hi
  exact key (m s + 1) s (by omega) hi
/-- The same, where a round asks for no number of rounds. -/
theorem ev_loop0 {σ ρ : Type} (L : Nat → σ → Option ρ) (I : σ → Prop) (m : σ → Nat) (g : σ → ρ)
    (h : ∀ s, I s → (∀ k, L (k + 1) s = some (g s)) ∨ (∃ s', I s' ∧ m s' < m s ∧ g s' = g s ∧ ∀ k, L (k + 1) s = L k s')) :
    ∀ s, I s → Ev (fun k => L k s) (g s) :=
  ev_loop L I m g fun s hi => by
    rcases h s hi with h1 | ⟨s', h1, h2, h3, h4⟩
    · exact .inl ⟨0, fun k _ => h1 k⟩
    · exact .inr ⟨s', 0, h1, h2, h3, fun k _ => h4 k⟩
theorem wrap_id {x : Int} (h0 : -9223372036854775808 ≤ x) (h1 : x ≤ 9223372036854775807) : wrap64 x = x := by
  unfold wrap64; omega
theorem wrap_succ {n : Nat} (h : n ≤ 4611686018427387904) : wrap64 ((n : Int) + 1) = ((n + 1 : Nat) : Int) := by
  rw [wrap_id (by omega) (by omega)]; rfl
theorem ev_neg {α : Type} {c : Prop} [Decidable c] {f g : Nat → Option α} {r : α} (h : ¬ c) (k : Ev g r) : Ev (fun n => if c then f n else g n) r := Ev.congr (fun _ => if_neg h) k
theorem ev_pos {α : Type} {c : Prop} [Decidable c] {f g : Nat → Option α} {r : α} (h : c) (k : Ev f r) : Ev (fun n => if c then f n else g n) r := Ev.congr (fun _ => if_pos h) k
theorem ev_some {α : Type} {r r' : α} (h : r = r') : Ev (fun _ => some r) r' := h ▸ Ev.now r
theorem ev_const {α : Type} {o : Option α} {r : α} (h : o = some r) : Ev (fun _ => o) r := ⟨0, fun _ _ => h⟩
theorem ev_const' {α : Type} {g : Nat → Option α} {r : α} (h : ∀ k, g k = some r) : Ev g r := ⟨0, fun k _ => h k⟩
/-- A function whose first step takes one round. -/
theorem ev_step {α : Type} {g f : Nat → Option α} {r : α} (h : ∀ k, g (k + 1) = f k) (k : Ev f r) : Ev g r := Ev.step h k
theorem idxO_any {α : Type} {f : α → Option Bool} {p : α → Bool} : ∀ (i : Nat) (l : List α), (∀ x ∈ l, f x = some (p x)) → ∃ r, idxO f i l = some r ∧ decide (0 ≤ r) = l.any p
  | i, [], _ => ⟨-1, rfl, rfl⟩
  | i, x :: xs, h => by
    rw [idxO_cons, h x (List.mem_cons_self ..), Option.bind_some]
    cases hp : p x with
    | true => exact ⟨i, by rw [if_pos rfl], by simp [hp]⟩
    | false =>
      obtain ⟨r, h1, h2⟩ := idxO_any (i + 1) xs (fun y hy => h y (List.mem_cons_of_mem _ hy))
      exact ⟨r, by rw [if_neg (by simp)]; exact h1, by rw [h2]; simp [hp]⟩
theorem contO {α : Type} {f : α → Option Bool} {p : α → Bool} (l : List α) (h : ∀ x ∈ l, f x = some (p x)) : (idxO f 0 l).bind (fun i => some (decide (0 ≤ i))) = some (l.any p) := by
  obtain ⟨r, h1, h2⟩ := idxO_any 0 l h
  rw [h1, Option.bind_some, h2]
end Go.Proofs.Ytojpoedeiedgdaa.Lib

/- Permutations of four vertices: what the reference's functions come to, in the words of the program's contracts. -/
namespace Go.Proofs.Ytojpoedeiedgdaa.P
open Go.RowKit Go.Proofs.YtojpoedeiedgdaaW.PrintWords Go.Proofs.Ytojpoedeiedgdaa.Lib
set_option linter.unusedVariables false
theorem inRange_eq (a b c : Int) : impl_inRange.f a b c = some (decide (b ≤ a) && decide (a ≤ c)) := by
  unfold impl_inRange.f
  by_cases h : b ≤ a <;> simp [h]
theorem l07In_eq (a b c : Int) : spec_l07In.f a b c = some (decide (b ≤ a) && decide (a ≤ c)) := by
  unfold spec_l07In.f
  by_cases h : b ≤ a <;> simp [h]
theorem l06Valid_eq (a : Int) : spec_l06Valid.f a = some (decide (0 ≤ a) && decide (a ≤ 23)) := by
  unfold spec_l06Valid.f
  by_cases h : 0 ≤ a
  · rw [if_pos h]; simp [h]; omega
  · rw [if_neg h]; simp [h]
theorem isPerm_eq (a : Int) : impl_isPerm.f a = some (decide (0 ≤ a) && decide (a ≤ 23)) := by
  unfold impl_isPerm.f; rw [inRange_eq]; rfl
/-- A number that is the index of a permutation. -/
theorem fin_of {p : Int} (h0 : 0 ≤ p) (h1 : p ≤ 23) : ∃ m : Fin 24, p = (m.val : Int) := ⟨⟨p.toNat, by omega⟩, by simp; omega⟩
theorem l06Images_ev {p : Int} (h0 : 0 ≤ p) (h1 : p ≤ 23) : Ev (fun k => spec_l06Images.f k p) (permL p) := by
  obtain ⟨m, rfl⟩ := fin_of h0 h1
  have key : ∀ m : Fin 24, spec_l06Images.f 5 (m.val : Int) = some (permL (m.val : Int)) := by decide +kernel
  exact Ev.of (fun k => spec_l06Images.mono _ k) (key m)
theorem permL_len (p : Int) : (permL p).length = 4 := rfl
theorem permL_sm {p f : Int} (h0 : 0 ≤ p) (h1 : p ≤ 23) (hf0 : 0 ≤ f) (hf1 : f ≤ 3) : 0 ≤ rd (permL p) f ∧ rd (permL p) f ≤ 3 := by
  obtain ⟨a, b, c, d⟩ := permAt_sm p h0 h1
  exact rd_four_sm a b c d f hf0 hf1
theorem l06At_ev {p f : Int} (h0 : 0 ≤ p) (h1 : p ≤ 23) (hf0 : 0 ≤ f) (hf1 : f ≤ 3) : Ev (fun k => spec_l06At.f k p f) (rd (permL p) f) := by
  refine Ev.bind (l06Images_ev h0 h1) ?_
  exact ev_pos hf0 (ev_pos (by rw [permL_len]; omega) (Ev.now _))
theorem l06Back_ev {p : Int} (h0 : 0 ≤ p) (h1 : p ≤ 23) : Ev (fun k => spec_l06Back.f k p) (invP p) := by
  obtain ⟨m, rfl⟩ := fin_of h0 h1
  have key : ∀ m : Fin 24, spec_l06Back.f 40 (m.val : Int) = some (invP (m.val : Int)) := by decide +kernel
  exact Ev.of (fun k => spec_l06Back.mono _ k) (key m)
theorem target_eq {q p f : Int} (h0 : 0 ≤ p) (h1 : p ≤ 23) (hf0 : 0 ≤ f) (hf1 : f ≤ 3) : impl_Face_target.f q p f = some (rd (permL p) f) := if_pos ⟨h0, h1, hf0, hf1⟩
theorem partner_eq {q p a : Int} (h0 : 0 ≤ p) (h1 : p ≤ 23) : impl_Face_partner.f q p a = some (a, invP p) := by
  unfold impl_Face_partner.f impl_invert.f
  rw [if_pos ⟨h0, h1⟩]; rfl
end Go.Proofs.Ytojpoedeiedgdaa.P

/- Valid triangulations: the laws' own functions on triangulations, and IsTriangulation of both sides. -/
namespace Go.Proofs.Ytojpoedeiedgdaa.P
open Go.RowKit Go.Proofs.YtojpoedeiedgdaaW.PrintWords Go.Proofs.Ytojpoedeiedgdaa.Lib
set_option linter.unusedVariables false
abbrev Tri := List (List SFace)
/-- No list of t is longer than a million. -/
def Small (t : Tri) : Prop := t.length ≤ 1048576 ∧ ∀ r ∈ t, r.length ≤ 1048576
def SmallL (t : List (List SLawFace)) : Prop := t.length ≤ 1048576 ∧ ∀ r ∈ t, r.length ≤ 1048576
def Fits (t : List (List SLawFace)) : Prop := t.length ≤ 9223372036854775807 ∧ ∀ r ∈ t, r.length ≤ 9223372036854775807
theorem rd_LLawFace_lt (t : List (List SLawFace)) (n : Nat) (h : n < t.length) : rd_LLawFace t (n : Int) = t[n] := by simp [rd_LLawFace, h]
theorem rd_LFace_lt (t : Tri) (n : Nat) (h : n < t.length) : rd_LFace t (n : Int) = t[n] := by simp [rd_LFace, h]
theorem rd_LawFace_lt (t : List SLawFace) (n : Nat) (h : n < t.length) : rd_LawFace t (n : Int) = t[n] := by simp [rd_LawFace, h]
theorem rd_Face_lt (t : List SFace) (n : Nat) (h : n < t.length) : rd_Face t (n : Int) = t[n] := by simp [rd_Face, h]
theorem szFaceS_eq (r : List SLawFace) (a : Int) (h0 : 0 ≤ a) (h1 : a ≤ 1048576) (h : r.length ≤ 9223372036854775807) : laws_szFaceS.f r a = some (if a - r.length < 0 then -1 else a - r.length) := by
  unfold laws_szFaceS.f
  rw [wrap_id (by omega) (by omega)]
  split <;> rfl
theorem szFaceSS_ev (t : List (List SLawFace)) (h : Fits t) (hl : t.length ≤ 1048576) : ∃ r, Ev (fun k => laws_szFaceSS.l0 k t (1048576 - t.length) 0) r ∧ (0 ≤ r → ∀ x ∈ t, x.length ≤ 1048576) := by
  have key : ∀ d n : Nat, ∀ a : Int, n + d = t.length → 0 ≤ a → a ≤ 1048576 → ∃ r, Ev (fun k => laws_szFaceSS.l0 k t a (n : Int)) r ∧ (0 ≤ r → ∀ x ∈ t.drop n, x.length ≤ 1048576) := by
    intro d
    induction d with
    | zero =>
      intro n a hn h0 h1
      refine ⟨a, ev_step (f := fun _ => some a) (fun k => ?_) (Ev.now a), fun _ x hx => ?_⟩
      · simp only [laws_szFaceSS.l0]; rw [if_neg (by omega)]
      · rw [List.drop_eq_nil_of_le (by omega)] at hx; cases hx
    | succ d ih =>
      intro n a hn h0 h1
      have hlt : n < t.length := by omega
      have hf := h.2 t[n] (List.getElem_mem hlt)
      by_cases hc : a - t[n].length < 0
      · refine ⟨-1, ev_step (f := fun _ => some (-1)) (fun k => ?_) (Ev.now (-1)), fun h => by omega⟩
        simp only [laws_szFaceSS.l0]
        rw [if_pos (by omega), if_pos (by omega), rd_LLawFace_lt t n hlt, szFaceS_eq _ a h0 h1 hf, Option.bind_some, if_pos hc]
        rfl
      · obtain ⟨r, hr, hr2⟩ := ih (n + 1) (a - t[n].length) (by omega) (by omega) (by omega)
        refine ⟨r, ev_step (fun k => ?_) hr, fun h x hx => ?_⟩
        · simp only [laws_szFaceSS.l0]
          rw [if_pos (by omega), if_pos (by omega), rd_LLawFace_lt t n hlt, szFaceS_eq _ a h0 h1 hf, Option.bind_some, if_neg hc, if_neg (by omega), wrap_succ (by omega)]
        · rw [List.drop_eq_getElem_cons hlt] at hx
          rcases List.mem_cons.1 hx with rfl | hx
          · omega
          · exact hr2 h x hx
  obtain ⟨r, hr, hr2⟩ := key t.length 0 (1048576 - t.length) (by omega) (by omega) (by omega)
  exact ⟨r, hr, fun h => by have := hr2 h; rwa [List.drop_zero] at this⟩
theorem szTriangulation_ev (t : List (List SLawFace)) (h : Fits t) : ∃ r, Ev (fun k => laws_szTriangulation.f k t 1048576) r ∧ (¬ r < 0 → SmallL t) := by
  by_cases hl : (1048576 - (t.length : Int)) < 0
  · refine ⟨-1, ?_, fun h => by omega⟩
    refine Ev.bind (a := -1) (ev_const' (fun k => ?_)) (ev_pos (by omega) (Ev.now _))
    unfold laws_szFaceSS.f
    have := h.1
    rw [wrap_id (by omega) (by omega), if_pos hl]
  · obtain ⟨r, hr, hr2⟩ := szFaceSS_ev t h (by omega)
    have h2 : Ev (fun k => laws_szFaceSS.f k t 1048576) r := by
      refine Ev.congr (fun k => ?_) hr
      unfold laws_szFaceSS.f
      rw [wrap_id (by omega) (by omega), if_neg hl]
    by_cases hn : r < 0
    · exact ⟨-1, Ev.bind h2 (ev_pos hn (Ev.now _)), fun h => by omega⟩
    · exact ⟨r, Ev.bind h2 (ev_neg hn (Ev.now _)), fun _ => ⟨by omega, hr2 (by omega)⟩⟩
/-- The copies of the law's values. -/
def cvF (x : SLawFace) : SFace := ⟨x.f0, x.f1⟩
def cvR (r : List SLawFace) : List SFace := r.map cvF
def cvT (t : List (List SLawFace)) : Tri := t.map cvR
theorem cvT_small {t : List (List SLawFace)} (h : SmallL t) : Small (cvT t) := by
  refine ⟨by simp [cvT]; exact h.1, fun r hr => ?_⟩
  obtain ⟨s, hs, rfl⟩ := List.mem_map.1 hr
  simp [cvR]; exact h.2 s hs
theorem map_take_set {α β : Type} (f : α → β) (l : List α) (z : β) (n : Nat) (h : n < l.length) :
    ((l.take n).map f ++ List.replicate (l.length - n) z).set n (f l[n]) = (l.take (n + 1)).map f ++ List.replicate (l.length - (n + 1)) z := by
  have e : l.length - n = (l.length - (n + 1)) + 1 := by omega
  rw [e, List.replicate_succ, List.set_append_right _ _ (by simp; omega)]
  have : n - ((l.take n).map f).length = 0 := by simp; omega
  rw [this, List.set_cons_zero, List.take_succ_eq_append_getElem h, List.map_append, List.append_assoc]
  rfl
theorem toFaceS_ev (l : List SLawFace) (h : l.length ≤ 1048576) : Ev (fun k => laws_toFaceS.f k l) (cvR l) := by
  have hl : Ev (fun k => laws_toFaceS.l0 k l (List.replicate l.length zFace) 0) (cvR l) := by
    refine ev_loop0 (fun k (s : List SFace × Int) => laws_toFaceS.l0 k l s.1 s.2) (fun s => ∃ n : Nat, n ≤ l.length ∧ s.2 = n ∧ s.1 = (l.take n).map cvF ++ List.replicate (l.length - n) zFace) (fun s => l.length - s.2.toNat) (fun _ => cvR l) ?_ (List.replicate l.length zFace, 0) ⟨0, by omega, rfl, by simp⟩
    rintro ⟨a, i⟩ ⟨n, hn, rfl, rfl⟩
    dsimp only
    by_cases hlt : n < l.length
    · refine .inr ⟨((l.take (n + 1)).map cvF ++ List.replicate (l.length - (n + 1)) zFace, ((n + 1 : Nat) : Int)), ⟨n + 1, by omega, rfl, rfl⟩, by simp; omega, rfl, fun k => ?_⟩
      simp only [laws_toFaceS.l0, laws_toFace.f, Option.bind_some]
      rw [if_pos (by omega), if_pos (by omega), if_pos (by simp; omega), wrap_succ (by omega), Int.toNat_natCast, rd_LawFace_lt l n hlt]
      have := map_take_set cvF l zFace n hlt
      rw [← this]
      rfl
    · obtain rfl : n = l.length := by omega
      refine .inl fun k => ?_
      simp only [laws_toFaceS.l0]
      rw [if_neg (by omega)]
      simp [cvR]
  refine Ev.congr (fun k => ?_) hl
  unfold laws_toFaceS.f
  rw [if_pos (by omega), if_pos (by simp; omega), Int.toNat_natCast]
theorem toFaceSS_ev (l : List (List SLawFace)) (h : SmallL l) : Ev (fun k => laws_toFaceSS.f k l) (cvT l) := by
  have hl : Ev (fun k => laws_toFaceSS.l0 k l (List.replicate l.length []) 0) (cvT l) := by
    refine ev_loop (fun k (s : Tri × Int) => laws_toFaceSS.l0 k l s.1 s.2) (fun s => ∃ n : Nat, n ≤ l.length ∧ s.2 = n ∧ s.1 = (l.take n).map cvR ++ List.replicate (l.length - n) []) (fun s => l.length - s.2.toNat) (fun _ => cvT l) ?_ (List.replicate l.length [], 0) ⟨0, by omega, rfl, by simp⟩
    rintro ⟨a, i⟩ ⟨n, hn, rfl, rfl⟩
    dsimp only
    by_cases hlt : n < l.length
    · obtain ⟨K, hK⟩ := toFaceS_ev l[n] (h.2 _ (List.getElem_mem hlt))
      refine .inr ⟨((l.take (n + 1)).map cvR ++ List.replicate (l.length - (n + 1)) [], ((n + 1 : Nat) : Int)), K, ⟨n + 1, by omega, rfl, rfl⟩, by simp; omega, rfl, fun k hk => ?_⟩
      have e : laws_toFaceS.f k l[n] = some _ := hK k hk
      have h1 := h.1
      simp only [laws_toFaceSS.l0]
      rw [if_pos (by omega), if_pos (by omega), rd_LLawFace_lt l n hlt, e, Option.bind_some, if_pos (by simp; omega), wrap_succ (by omega), Int.toNat_natCast, map_take_set cvR l [] n hlt]
    · obtain rfl : n = l.length := by omega
      refine .inl ⟨0, fun k _ => ?_⟩
      simp only [laws_toFaceSS.l0]
      rw [if_neg (by omega)]
      simp [cvT]
  have h1 := h.1
  refine Ev.congr (fun k => ?_) hl
  unfold laws_toFaceSS.f
  rw [if_pos (by omega), if_pos (by simp; omega), Int.toNat_natCast]
theorem toTriangulation_ev (l : List (List SLawFace)) (h : SmallL l) : Ev (fun k => laws_toTriangulation.f k l) (cvT l) := Ev.bind (toFaceSS_ev l h) (Ev.now _)
theorem eqFaceS_ev (l : List SFace) (h : l.length ≤ 1048576) : Ev (fun k => laws_eqFaceS.f k l l) true := by
  have hl : Ev (fun k => laws_eqFaceS.l0 k l l 0) true := by
    refine ev_loop0 (fun k (s : Int) => laws_eqFaceS.l0 k l l s) (fun s => ∃ n : Nat, n ≤ l.length ∧ s = n) (fun s => l.length - s.toNat) (fun _ => true) ?_ 0 ⟨0, by omega, rfl⟩
    rintro i ⟨n, hn, rfl⟩
    by_cases hlt : n < l.length
    · refine .inr ⟨((n + 1 : Nat) : Int), ⟨n + 1, by omega, rfl⟩, by simp; omega, rfl, fun k => ?_⟩
      simp only [laws_eqFaceS.l0, laws_eqFace.f]
      rw [if_pos (by omega), if_pos (by omega), if_pos (by omega), if_pos trivial, if_pos trivial, Option.bind_some, if_pos rfl, wrap_succ (by omega)]
    · refine .inl fun k => ?_
      simp only [laws_eqFaceS.l0]
      rw [if_neg (by omega)]
  refine Ev.congr (fun k => ?_) hl
  unfold laws_eqFaceS.f
  rw [if_pos rfl]
theorem eqTriangulation_ev (l : Tri) (h : Small l) : Ev (fun k => laws_eqTriangulation.f k l l) true := by
  have hl : Ev (fun k => laws_eqFaceSS.l0 k l l 0) true := by
    refine ev_loop (fun k (s : Int) => laws_eqFaceSS.l0 k l l s) (fun s => ∃ n : Nat, n ≤ l.length ∧ s = n) (fun s => l.length - s.toNat) (fun _ => true) ?_ 0 ⟨0, by omega, rfl⟩
    rintro i ⟨n, hn, rfl⟩
    by_cases hlt : n < l.length
    · obtain ⟨K, hK⟩ := eqFaceS_ev l[n] (h.2 _ (List.getElem_mem hlt))
      refine .inr ⟨((n + 1 : Nat) : Int), K, ⟨n + 1, by omega, rfl⟩, by simp; omega, rfl, fun k hk => ?_⟩
      have e : laws_eqFaceS.f k l[n] l[n] = some _ := hK k hk
      have h1 := h.1
      simp only [laws_eqFaceSS.l0]
      rw [if_pos (by omega), if_pos (by omega), if_pos (by omega), rd_LFace_lt l n hlt, e, Option.bind_some, if_pos rfl, wrap_succ (by omega)]
    · refine .inl ⟨0, fun k _ => ?_⟩
      simp only [laws_eqFaceSS.l0]
      rw [if_neg (by omega)]
  have h2 : Ev (fun k => laws_eqFaceSS.f k l l) true := by
    refine Ev.congr (fun k => ?_) hl
    unfold laws_eqFaceSS.f
    rw [if_pos rfl]
  exact Ev.bind h2 (ev_pos rfl (Ev.now _))
end Go.Proofs.Ytojpoedeiedgdaa.P

/- IsTriangulation of both sides comes to one plain test. -/
namespace Go.Proofs.Ytojpoedeiedgdaa.P
open Go.RowKit Go.Proofs.YtojpoedeiedgdaaW.PrintWords Go.Proofs.Ytojpoedeiedgdaa.Lib
set_option linter.unusedVariables false
/-- The face f of the tetrahedron a. -/
abbrev fc (t : Tri) (a f : Int) : SFace := rd_Face (rd_LFace t a) f
/-- Is a face as in a valid triangulation? -/
def goodF (t : Tri) (a f : Int) : Bool :=
  if (fc t a f).f0 = -1 then (fc t a f).f1 == 0
  else if 0 ≤ (fc t a f).f0 ∧ (fc t a f).f0 < (t.length : Int) ∧ 0 ≤ (fc t a f).f1 ∧ (fc t a f).f1 ≤ 23 then
    ((fc t (fc t a f).f0 (rd (permL (fc t a f).f1) f)).f0 == a && (fc t (fc t a f).f0 (rd (permL (fc t a f).f1) f)).f1 == invP (fc t a f).f1) && !((fc t a f).f0 == a && rd (permL (fc t a f).f1) f == f)
  else false
/-- d faces of a from f on are good. -/
def goodFs (t : Tri) (a : Int) : Int → Nat → Bool
  | _, 0 => true
  | f, d + 1 => goodF t a f && goodFs t a (f + 1) d
/-- d tetrahedra from a on are good. -/
def goodTs (t : Tri) : Int → Nat → Bool
  | _, 0 => true
  | a, d + 1 => goodFs t a 0 4 && goodTs t (a + 1) d
/-- A valid triangulation. -/
def isTri (t : Tri) : Bool := decide (t.length ≤ 8) && (t.all (fun r => decide (r.length = 4)) && goodTs t 0 t.length)
section
variable {t : Tri}
theorem row4 (h4 : ∀ r ∈ t, r.length = 4) {a : Int} (h0 : 0 ≤ a) (h1 : a < t.length) : (rd_LFace t a).length = 4 := by
  obtain ⟨n, rfl⟩ := Int.eq_ofNat_of_zero_le h0
  rw [rd_LFace_lt t n (by omega)]
  exact h4 _ (List.getElem_mem _)
theorem impl_isGood_ev (h4 : ∀ r ∈ t, r.length = 4) (hn : t.length ≤ 8) {a f : Int} (h0 : 0 ≤ a) (h1 : a < t.length) (hf0 : 0 ≤ f) (hf1 : f ≤ 3) : Ev (fun k => impl_Triangulation_isGood.f k t a f) (goodF t a f) := by
  have hr := row4 h4 h0 h1
  refine Ev.congr (fun k => by unfold impl_Triangulation_isGood.f; rw [if_pos h0, if_pos h1, if_pos hf0, if_pos (by omega)]) ?_
  change Ev (fun k => if (fc t a f).f0 = -1 then some ((fc t a f).f1 == 0) else _) (goodF t a f)
  unfold goodF
  by_cases hb : (fc t a f).f0 = -1
  · rw [if_pos hb]; exact ev_pos hb (Ev.now _)
  · refine ev_neg hb ?_
    rw [if_neg hb]
    have hix : impl_hasIndex_Simpl_Face.f t (fc t a f).f0 = some (decide (0 ≤ (fc t a f).f0) && decide ((fc t a f).f0 ≤ (t.length : Int) - 1)) := by
      unfold impl_hasIndex_Simpl_Face.f impl_size_Simpl_Face.f
      rw [Option.bind_some, wrap_id (by omega) (by omega), inRange_eq]; rfl
    have hfalse : Ev (fun k => impl_Triangulation_isGood.j0 k a f true t (fc t a f).f0 (fc t a f).f1) false := ev_step (fun k => by rw [impl_Triangulation_isGood.j0, if_pos rfl]) (Ev.now false)
    refine Ev.bind (ev_const hix) ?_
    by_cases hi : 0 ≤ (fc t a f).f0 ∧ (fc t a f).f0 < (t.length : Int)
    · refine ev_pos (by simp; omega) ?_
      refine Ev.bind (ev_const (isPerm_eq _)) ?_
      by_cases hp : 0 ≤ (fc t a f).f1 ∧ (fc t a f).f1 ≤ 23
      · rw [if_pos ⟨hi.1, hi.2, hp.1, hp.2⟩]
        have e : (!(decide (0 ≤ (fc t a f).f1) && decide ((fc t a f).f1 ≤ 23))) = false := by simp [hp]
        rw [e]
        refine ev_step (fun k => by rw [impl_Triangulation_isGood.j0, if_neg (by simp), target_eq hp.1 hp.2 hf0 hf1, Option.bind_some]) ?_
        obtain ⟨hg0, hg1⟩ := permL_sm hp.1 hp.2 hf0 hf1
        have hr2 := row4 h4 hi.1 hi.2
        refine ev_pos hi.1 (ev_pos hi.2 (ev_pos hg0 (ev_pos (by rw [hr2]; omega) ?_)))
        refine Ev.bind (ev_const (partner_eq hp.1 hp.2)) ?_
        change Ev (fun k => if ((fc t (fc t a f).f0 (rd (permL (fc t a f).f1) f)).f0 == a && (fc t (fc t a f).f0 (rd (permL (fc t a f).f1) f)).f1 == invP (fc t a f).f1) = true then _ else _) _
        generalize ((fc t (fc t a f).f0 (rd (permL (fc t a f).f1) f)).f0 == a && (fc t (fc t a f).f0 (rd (permL (fc t a f).f1) f)).f1 == invP (fc t a f).f1) = b
        cases b with
        | false => refine ev_neg (by simp) ?_; rw [Bool.false_and]; exact Ev.now false
        | true =>
          refine ev_pos rfl ?_
          rw [Bool.true_and]
          by_cases ha : (fc t a f).f0 = a
          · refine ev_pos ha (ev_some ?_)
            rw [ha]; simp [bne]
          · refine ev_neg ha (ev_some ?_)
            simp [ha]
      · rw [if_neg (by omega)]
        have e : (!(decide (0 ≤ (fc t a f).f1) && decide ((fc t a f).f1 ≤ 23))) = true := by
          rw [Bool.not_eq_true', Bool.and_eq_false_iff, decide_eq_false_iff_not, decide_eq_false_iff_not]; omega
        rw [e]
        exact hfalse
    · rw [if_neg (by omega)]
      refine ev_neg ?_ hfalse
      rw [Bool.and_eq_true, decide_eq_true_eq, decide_eq_true_eq]; omega
theorem impl_l1_ev (h4 : ∀ r ∈ t, r.length = 4) (hn : t.length ≤ 8) {a : Int} (h0 : 0 ≤ a) (h1 : a < t.length) {R : Bool} (hR : Ev (fun k => impl_isTriangulation.l0 k (t.length : Int) (a + 1) t) R) :
    ∀ (d : Nat) (f : Int), 0 ≤ f → f + d = 4 → Ev (fun k => impl_isTriangulation.l1 k a (t.length : Int) a f t) (goodFs t a f d && R)
  | 0, f, hf, he => by
    refine ev_step (fun k => by rw [impl_isTriangulation.l1, if_neg (by omega), wrap_id (by omega) (by omega)]) ?_
    rw [goodFs, Bool.true_and]; exact hR
  | d + 1, f, hf, he => by
    refine ev_step (fun k => by rw [impl_isTriangulation.l1, if_pos (by omega)]) ?_
    refine Ev.bind (impl_isGood_ev h4 hn h0 h1 hf (by omega)) ?_
    rw [goodFs]
    cases hg : goodF t a f with
    | false => exact ev_neg (by simp) (by rw [Bool.false_and, Bool.false_and]; exact Ev.now false)
    | true =>
      refine ev_pos rfl ?_
      rw [Bool.true_and]
      exact Ev.congr (fun k => by rw [wrap_id (by omega) (by omega)]) (impl_l1_ev h4 hn h0 h1 hR d (f + 1) (by omega) (by omega))
theorem impl_l0_ev (h4 : ∀ r ∈ t, r.length = 4) (hn : t.length ≤ 8) : ∀ (d : Nat) (a : Int), 0 ≤ a → a + d = t.length → Ev (fun k => impl_isTriangulation.l0 k (t.length : Int) a t) (goodTs t a d)
  | 0, a, ha, he => by
    refine ev_step (fun k => by rw [impl_isTriangulation.l0, if_neg (by omega)]) ?_
    exact Ev.now true
  | d + 1, a, ha, he => by
    refine ev_step (fun k => by rw [impl_isTriangulation.l0, if_pos (by omega)]) ?_
    rw [goodTs]
    exact impl_l1_ev h4 hn ha (by omega) (impl_l0_ev h4 hn d (a + 1) (by omega) (by omega)) 4 0 (by omega) (by omega)
theorem all4_iff : t.all (fun r => decide (r.length = 4)) = true ↔ ∀ r ∈ t, r.length = 4 := by simp
theorem contains4 (h : Small t) : slices_ContainsFunc_SSimpl_Face_at_impl_isTriangulation_1.f t = some (!(t.all fun r => decide (r.length = 4))) := by
  unfold slices_ContainsFunc_SSimpl_Face_at_impl_isTriangulation_1.f slices_IndexFunc_SSimpl_Face_at_impl_isTriangulation_1.f
  rw [contO (p := fun r => !(decide (r.length = 4))) t (fun r _ => by
    show impl_isTriangulation_1.f r = _
    unfold impl_isTriangulation_1.f
    congr 1
    by_cases h : r.length = 4
    · simp [h]
    · have : ¬ ((r.length : Int) = 4) := by omega
      simp [h, this]), List.not_all_eq_any_not]
theorem impl_isTri_ev (h : Small t) : Ev (fun k => impl_isTriangulation.f k t) (isTri t) := by
  have hfalse : Ev (fun k => impl_isTriangulation.j0 k true t) false := ev_step (fun k => by rw [impl_isTriangulation.j0, if_pos rfl]) (Ev.now false)
  unfold isTri
  by_cases h8 : t.length ≤ 8
  · refine Ev.congr (fun k => by unfold impl_isTriangulation.f; rw [if_neg (by omega), contains4 h, Option.bind_some]) ?_
    rw [decide_eq_true h8, Bool.true_and]
    cases hall : t.all (fun r => decide (r.length = 4)) with
    | false => rw [Bool.false_and]; exact hfalse
    | true =>
      rw [Bool.true_and]
      refine ev_step (fun k => by rw [impl_isTriangulation.j0, if_neg (by simp)]) ?_
      exact impl_l0_ev (all4_iff.1 hall) h8 t.length 0 (by omega) (by omega)
  · refine Ev.congr (fun k => by unfold impl_isTriangulation.f; rw [if_pos (by omega)]) ?_
    rw [decide_eq_false h8, Bool.false_and]; exact hfalse
theorem spec_l2_ev (h4 : ∀ r ∈ t, r.length = 4) (hn : t.length ≤ 8) {a : Int} (h0 : 0 ≤ a) (h1 : a < t.length) {R : Bool} (hR : Ev (fun k => spec_IsTriangulation.l1 k (a + 1) t) R) :
    ∀ (d : Nat) (f : Int), 0 ≤ f → f + d = 4 → Ev (fun k => spec_IsTriangulation.l2 k a f t) (goodFs t a f d && R)
  | 0, f, hf, he => by
    refine ev_step (fun k => by rw [spec_IsTriangulation.l2, if_neg (by omega), wrap_id (by omega) (by omega)]) ?_
    rw [goodFs, Bool.true_and]; exact hR
  | d + 1, f, hf, he => by
    have hr := row4 h4 h0 h1
    have ih : Ev (fun k => spec_IsTriangulation.l2 k a (wrap64 (f + 1)) t) (goodFs t a (f + 1) d && R) := Ev.congr (fun k => by rw [wrap_id (by omega) (by omega)]) (spec_l2_ev h4 hn h0 h1 hR d (f + 1) (by omega) (by omega))
    refine ev_step (fun k => by rw [spec_IsTriangulation.l2, if_pos (by omega), if_pos h0, if_pos h1, if_pos hf, if_pos (by omega)]) ?_
    change Ev (fun k => if (fc t a f).f0 = -1 then spec_IsTriangulation.j3 k a f ((fc t a f).f1 == 0) t (fc t a f).f0 (fc t a f).f1 else spec_IsTriangulation.j3 k a f false t (fc t a f).f0 (fc t a f).f1) _
    rw [goodFs]
    have hstop : ∀ b, Ev (fun k => spec_IsTriangulation.j4 k a f true t (fc t a f).f0 (fc t a f).f1) (false && b) := fun b => by
      rw [Bool.false_and]; exact ev_step (fun k => by rw [spec_IsTriangulation.j4, if_pos rfl]) (Ev.now false)
    have hgo : Ev (fun k => spec_IsTriangulation.j3 k a f true t (fc t a f).f0 (fc t a f).f1) (goodFs t a (f + 1) d && R) := ev_step (fun k => by rw [spec_IsTriangulation.j3, if_pos rfl]) ih
    have hrest : (¬ ((fc t a f).f0 = -1 ∧ (fc t a f).f1 = 0)) → Ev (fun k => spec_IsTriangulation.j3 k a f false t (fc t a f).f0 (fc t a f).f1) (goodF t a f && goodFs t a (f + 1) d && R) := by
      intro hnb
      refine ev_step (fun k => by rw [spec_IsTriangulation.j3, spec_l07Tets.f, if_neg (by simp), Option.bind_some, l07In_eq, Option.bind_some, wrap_id (by omega) (by omega)]) ?_
      unfold goodF
      by_cases hi : 0 ≤ (fc t a f).f0 ∧ (fc t a f).f0 < (t.length : Int)
      · refine ev_pos (by simp; omega) ?_
        refine Ev.bind (ev_const (l06Valid_eq _)) ?_
        rw [if_neg (by omega)]
        by_cases hp : 0 ≤ (fc t a f).f1 ∧ (fc t a f).f1 ≤ 23
        · rw [if_pos ⟨hi.1, hi.2, hp.1, hp.2⟩]
          have e : (!(decide (0 ≤ (fc t a f).f1) && decide ((fc t a f).f1 ≤ 23))) = false := by simp [hp]
          rw [e]
          obtain ⟨hg0, hg1⟩ := permL_sm hp.1 hp.2 hf (by omega)
          have hr2 := row4 h4 hi.1 hi.2
          refine ev_step (fun k => by rw [spec_IsTriangulation.j4, if_neg (by simp)]) ?_
          refine Ev.bind (l06At_ev hp.1 hp.2 hf (by omega)) ?_
          refine Ev.bind (l06Back_ev hp.1 hp.2) ?_
          refine ev_pos hi.1 (ev_pos hi.2 (ev_pos hg0 (ev_pos (by rw [hr2]; omega) ?_)))
          change Ev (fun k => if (!((fc t (fc t a f).f0 (rd (permL (fc t a f).f1) f)).f0 == a) || !((fc t (fc t a f).f0 (rd (permL (fc t a f).f1) f)).f1 == invP (fc t a f).f1)) = true then _ else _) _
          generalize ((fc t (fc t a f).f0 (rd (permL (fc t a f).f1) f)).f0 == a) = b1
          generalize ((fc t (fc t a f).f0 (rd (permL (fc t a f).f1) f)).f1 == invP (fc t a f).f1) = b2
          cases b1 with
          | false => exact ev_pos rfl (by rw [Bool.false_and, Bool.false_and, Bool.false_and, Bool.false_and]; exact Ev.now false)
          | true =>
            cases b2 with
            | false => exact ev_pos rfl (by rw [Bool.true_and, Bool.false_and, Bool.false_and, Bool.false_and]; exact Ev.now false)
            | true =>
              refine ev_neg (by simp) ?_
              rw [Bool.true_and, Bool.true_and]
              by_cases ha : (fc t a f).f0 = a
              · refine ev_pos ha ?_
                by_cases hg : rd (permL (fc t a f).f1) f = f
                · refine ev_pos hg ?_
                  rw [ha, hg]
                  simp
                  exact Ev.now false
                · refine ev_neg hg ?_
                  have : (rd (permL (fc t a f).f1) f == f) = false := by simp [hg]
                  rw [this, Bool.and_false, Bool.not_false, Bool.true_and]
                  exact ih
              · refine ev_neg ha ?_
                have : ((fc t a f).f0 == a) = false := by simp [ha]
                rw [this, Bool.false_and, Bool.not_false, Bool.true_and]
                exact ih
        · rw [if_neg (by omega)]
          have e : (!(decide (0 ≤ (fc t a f).f1) && decide ((fc t a f).f1 ≤ 23))) = true := by
            rw [Bool.not_eq_true', Bool.and_eq_false_iff, decide_eq_false_iff_not, decide_eq_false_iff_not]; omega
          rw [e, Bool.false_and]
          exact hstop R
      · have hg : (if (fc t a f).f0 = -1 then ((fc t a f).f1 == 0) else if 0 ≤ (fc t a f).f0 ∧ (fc t a f).f0 < (t.length : Int) ∧ 0 ≤ (fc t a f).f1 ∧ (fc t a f).f1 ≤ 23 then
            ((fc t (fc t a f).f0 (rd (permL (fc t a f).f1) f)).f0 == a && (fc t (fc t a f).f0 (rd (permL (fc t a f).f1) f)).f1 == invP (fc t a f).f1) && !((fc t a f).f0 == a && rd (permL (fc t a f).f1) f == f) else false) = false := by
          by_cases hb : (fc t a f).f0 = -1
          · rw [if_pos hb]; simp; intro h; exact hnb ⟨hb, h⟩
          · rw [if_neg hb, if_neg (by omega)]
        rw [hg, Bool.false_and]
        refine ev_neg ?_ (hstop R)
        rw [Bool.and_eq_true, decide_eq_true_eq, decide_eq_true_eq]; omega
    by_cases hb : (fc t a f).f0 = -1
    · refine ev_pos hb ?_
      by_cases h0' : (fc t a f).f1 = 0
      · have e : goodF t a f = true := by unfold goodF; rw [if_pos hb]; simp [h0']
        rw [e, Bool.true_and]
        have e2 : ((fc t a f).f1 == 0) = true := by simp [h0']
        rw [e2]; exact hgo
      · have e2 : ((fc t a f).f1 == 0) = false := by simp [h0']
        rw [e2]; exact hrest (fun h => h0' h.2)
    · exact ev_neg hb (hrest (fun h => hb h.1))
theorem spec_l1_ev (h4 : ∀ r ∈ t, r.length = 4) (hn : t.length ≤ 8) : ∀ (d : Nat) (a : Int), 0 ≤ a → a + d = t.length → Ev (fun k => spec_IsTriangulation.l1 k a t) (goodTs t a d)
  | 0, a, ha, he => by
    refine ev_step (fun k => by rw [spec_IsTriangulation.l1, spec_l07Tets.f, Option.bind_some, if_neg (by omega)]) ?_
    exact Ev.now true
  | d + 1, a, ha, he => by
    refine ev_step (fun k => by rw [spec_IsTriangulation.l1, spec_l07Tets.f, Option.bind_some, if_pos (by omega)]) ?_
    rw [goodTs]
    exact spec_l2_ev h4 hn ha (by omega) (spec_l1_ev h4 hn d (a + 1) (by omega) (by omega)) 4 0 (by omega) (by omega)
theorem spec_l0_ev (h8 : t.length ≤ 8) (d : Nat) : ∀ n : Nat, n + d = t.length → (t.all (fun r => decide (r.length = 4)) = (t.drop n).all (fun r => decide (r.length = 4))) → Ev (fun k => spec_IsTriangulation.l0 k (n : Int) t) (t.all (fun r => decide (r.length = 4)) && goodTs t 0 t.length) := by
  induction d with
  | zero =>
    intro n hn ha
    refine ev_step (fun k => by rw [spec_IsTriangulation.l0, if_neg (by omega)]) ?_
    have hall : t.all (fun r => decide (r.length = 4)) = true := by rw [ha, List.drop_eq_nil_of_le (by omega)]; rfl
    rw [hall, Bool.true_and]
    exact spec_l1_ev (all4_iff.1 hall) h8 t.length 0 (by omega) (by omega)
  | succ d ih =>
    intro n hn ha
    have hlt : n < t.length := by omega
    refine ev_step (fun k => by rw [spec_IsTriangulation.l0, if_pos (by omega), if_pos (by omega), rd_LFace_lt t n hlt]) ?_
    rw [List.drop_eq_getElem_cons hlt, List.all_cons] at ha
    by_cases h : t[n].length = 4
    · refine ev_pos (by omega) ?_
      refine Ev.congr (fun k => by rw [wrap_succ (by omega)]) (ih (n + 1) (by omega) ?_)
      rw [ha, decide_eq_true h, Bool.true_and]
    · refine ev_neg (by omega) ?_
      rw [ha, decide_eq_false h, Bool.false_and, Bool.false_and]
      exact Ev.now false
theorem spec_isTri_ev (t : Tri) : Ev (fun k => spec_IsTriangulation.f k t) (isTri t) := by
  refine Ev.congr (fun k => by unfold spec_IsTriangulation.f spec_l07Tets.f; rw [Option.bind_some]) ?_
  unfold isTri
  by_cases h8 : t.length ≤ 8
  · refine ev_neg (by omega) ?_
    rw [decide_eq_true h8, Bool.true_and]
    exact spec_l0_ev h8 t.length 0 (by omega) (by rw [List.drop_zero])
  · refine ev_pos (by omega) ?_
    rw [decide_eq_false h8, Bool.false_and]
    exact Ev.now false
end
end Go.Proofs.Ytojpoedeiedgdaa.P

/- Boundary faces and IsClosed of both sides. -/
namespace Go.Proofs.Ytojpoedeiedgdaa.P
open Go.RowKit Go.Proofs.YtojpoedeiedgdaaW.PrintWords Go.Proofs.Ytojpoedeiedgdaa.Lib
set_option linter.unusedVariables false
theorem isTri_good {t : Tri} (h : isTri t = true) : t.length ≤ 8 ∧ (∀ r ∈ t, r.length = 4) ∧ goodTs t 0 t.length = true := by
  unfold isTri at h
  rw [Bool.and_eq_true, Bool.and_eq_true, decide_eq_true_eq] at h
  exact ⟨h.1, all4_iff.1 h.2.1, h.2.2⟩
section
variable {t : Tri}
end
end Go.Proofs.Ytojpoedeiedgdaa.P

/- What holds of each face of a valid triangulation; copies of a triangulation. -/
namespace Go.Proofs.Ytojpoedeiedgdaa.P
open Go.RowKit Go.Proofs.YtojpoedeiedgdaaW.PrintWords Go.Proofs.Ytojpoedeiedgdaa.Lib
set_option linter.unusedVariables false
theorem goodFs_at (t : Tri) (a : Int) (d : Nat) : ∀ f, goodFs t a f d = true → ∀ g, f ≤ g → g < f + d → goodF t a g = true := by
  induction d with
  | zero => intro f _ g h1 h2; omega
  | succ d ih =>
    intro f h g h1 h2
    rw [goodFs, Bool.and_eq_true] at h
    by_cases e : g = f
    · rw [e]; exact h.1
    · exact ih (f + 1) h.2 g (by omega) (by omega)
theorem goodTs_at (t : Tri) (d : Nat) : ∀ a, goodTs t a d = true → ∀ b, a ≤ b → b < a + d → ∀ g, 0 ≤ g → g ≤ 3 → goodF t b g = true := by
  induction d with
  | zero => intro a _ b h1 h2; omega
  | succ d ih =>
    intro a h b h1 h2 g hg0 hg1
    rw [goodTs, Bool.and_eq_true] at h
    by_cases e : b = a
    · rw [e]; exact goodFs_at t a 4 0 h.1 g hg0 (by omega)
    · exact ih (a + 1) h.2 b (by omega) (by omega) g hg0 hg1
/-- A face of a valid triangulation: the boundary, or glued to a face that is glued back. -/
theorem face_good {t : Tri} (h : isTri t = true) {a f : Int} (h0 : 0 ≤ a) (h1 : a < t.length) (hf0 : 0 ≤ f) (hf1 : f ≤ 3) :
    ((fc t a f).f0 = -1 ∧ (fc t a f).f1 = 0) ∨
    ((0 ≤ (fc t a f).f0 ∧ (fc t a f).f0 < (t.length : Int) ∧ 0 ≤ (fc t a f).f1 ∧ (fc t a f).f1 ≤ 23) ∧
      (fc t (fc t a f).f0 (rd (permL (fc t a f).f1) f)).f0 = a ∧ (fc t (fc t a f).f0 (rd (permL (fc t a f).f1) f)).f1 = invP (fc t a f).f1 ∧ ¬ ((fc t a f).f0 = a ∧ rd (permL (fc t a f).f1) f = f)) := by
  have hg := goodTs_at t t.length 0 (isTri_good h).2.2 a h0 (by omega) f hf0 hf1
  unfold goodF at hg
  by_cases hb : (fc t a f).f0 = -1
  · rw [if_pos hb] at hg
    exact .inl ⟨hb, by simpa using hg⟩
  · rw [if_neg hb] at hg
    by_cases hi : 0 ≤ (fc t a f).f0 ∧ (fc t a f).f0 < (t.length : Int) ∧ 0 ≤ (fc t a f).f1 ∧ (fc t a f).f1 ≤ 23
    · rw [if_pos hi, Bool.and_eq_true, Bool.and_eq_true, Bool.not_eq_true'] at hg
      refine .inr ⟨hi, eq_of_beq hg.1.1, eq_of_beq hg.1.2, fun hc => ?_⟩
      have := hg.2
      rw [Bool.and_eq_false_iff] at this
      rcases this with h2 | h2
      · exact absurd hc.1 (by simpa using h2)
      · exact absurd hc.2 (by simpa using h2)
    · rw [if_neg hi] at hg; cases hg
theorem isTri_small {t : Tri} (h : isTri t = true) : Small t := ⟨by have := (isTri_good h).1; omega, fun r hr => by have := (isTri_good h).2.1 r hr; omega⟩
theorem rowlen {t : Tri} (h : isTri t = true) {a : Int} (h0 : 0 ≤ a) (h1 : a < t.length) : (rd_LFace t a).length = 4 := row4 (isTri_good h).2.1 h0 h1
/-- A face is stored. -/
def setF (t : Tri) (a f : Int) (x : SFace) : Tri := t.set a.toNat ((rd_LFace t a).set f.toNat x)
theorem setF_length (t : Tri) (a f : Int) (x : SFace) : (setF t a f x).length = t.length := by simp [setF]
theorem setF_rows {t : Tri} {n : Nat} (h : ∀ r ∈ t, r.length = n) {a : Int} (h0 : 0 ≤ a) (h1 : a < t.length) (f : Int) (x : SFace) : ∀ r ∈ setF t a f x, r.length = n := by
  intro r hr
  rcases List.mem_or_eq_of_mem_set hr with h2 | h2
  · exact h r h2
  · rw [h2, List.length_set]
    obtain ⟨m, rfl⟩ := Int.eq_ofNat_of_zero_le h0
    rw [rd_LFace_lt t m (by omega)]
    exact h _ (List.getElem_mem _)
end Go.Proofs.Ytojpoedeiedgdaa.P

/- Copies of a triangulation, of both sides. -/
namespace Go.Proofs.Ytojpoedeiedgdaa.P
open Go.RowKit Go.Proofs.YtojpoedeiedgdaaW.PrintWords Go.Proofs.Ytojpoedeiedgdaa.Lib
set_option linter.unusedVariables false
theorem spec_own_ev {t : Tri} (hs : Small t) : Ev (fun k => spec_l07Own.f k t) t := by
  refine ev_loop0 (fun k (s : Int × Tri) => spec_l07Own.l0 k s.1 t s.2) (fun s => ∃ n : Nat, n ≤ t.length ∧ s.1 = n ∧ s.2 = t.take n) (fun s => t.length - s.1.toNat) (fun _ => t) ?_ (0, []) ⟨0, by omega, rfl, by simp⟩
  rintro ⟨i, acc⟩ ⟨n, hn, rfl, rfl⟩
  dsimp only
  have hl := hs.1
  by_cases hlt : n < t.length
  · have hr := hs.2 t[n] (List.getElem_mem hlt)
    refine .inr ⟨(((n + 1 : Nat) : Int), t.take (n + 1)), ⟨n + 1, by omega, rfl, rfl⟩, by simp; omega, rfl, fun k => ?_⟩
    simp only [spec_l07Own.l0]
    rw [if_pos (by omega), Option.bind_some, if_pos (by omega), rd_LFace_lt t n hlt, if_pos (by simp; omega), if_pos (by simp; omega), wrap_succ (by omega), List.nil_append, List.take_succ_eq_append_getElem hlt]
  · obtain rfl : n = t.length := by omega
    refine .inl fun k => ?_
    simp only [spec_l07Own.l0]
    rw [if_neg (by omega), List.take_length]
theorem impl_copy_ev {t : Tri} (hs : Small t) : Ev (fun k => impl_copyTriangulation.f k t) t := by
  refine ev_loop0 (fun k (s : Int × Tri) => impl_copyTriangulation.l0 k t (t.length : Int) s.1 s.2) (fun s => ∃ n : Nat, n ≤ t.length ∧ s.1 = n ∧ s.2 = t.take n) (fun s => t.length - s.1.toNat) (fun _ => t) ?_ (0, []) ⟨0, by omega, rfl, by simp⟩
  rintro ⟨i, acc⟩ ⟨n, hn, rfl, rfl⟩
  dsimp only
  have hl := hs.1
  by_cases hlt : n < t.length
  · have hr := hs.2 t[n] (List.getElem_mem hlt)
    refine .inr ⟨(((n + 1 : Nat) : Int), t.take (n + 1)), ⟨n + 1, by omega, rfl, rfl⟩, by simp; omega, rfl, fun k => ?_⟩
    simp only [impl_copyTriangulation.l0]
    rw [if_pos (by omega), if_pos (by omega), if_pos (by omega), rd_LFace_lt t n hlt, slices_Clone_Simpl_Face.f, if_pos (by omega), Option.bind_some, if_pos (by simp; omega), wrap_succ (by omega), List.take_succ_eq_append_getElem hlt]
  · obtain rfl : n = t.length := by omega
    refine .inl fun k => ?_
    simp only [impl_copyTriangulation.l0]
    rw [if_neg (by omega), List.take_length]
end Go.Proofs.Ytojpoedeiedgdaa.P

/- UnglueFace of both sides. -/
namespace Go.Proofs.Ytojpoedeiedgdaa.P
open Go.RowKit Go.Proofs.YtojpoedeiedgdaaW.PrintWords Go.Proofs.Ytojpoedeiedgdaa.Lib
set_option linter.unusedVariables false
/-- The two faces of a gluing, taken apart. -/
def apart (t : Tri) (a f : Int) : Tri := setF (setF t a f ⟨-1, 0⟩) (fc t a f).f0 (rd (permL (fc t a f).f1) f) ⟨-1, 0⟩
def unglue (t : Tri) (a f : Int) : Tri × Int :=
  if isTri t = true then
    if (0 ≤ a ∧ a < t.length) ∧ (0 ≤ f ∧ f ≤ 3) then (if (fc t a f).f0 < 0 then ([], 5) else (apart t a f, 0)) else ([], 2)
  else ([], 1)
theorem Small_nil : Small [] := ⟨by simp, fun r hr => by cases hr⟩
theorem apart_small {t : Tri} (h : isTri t = true) {a f : Int} (h0 : 0 ≤ a) (h1 : a < t.length) (hf0 : 0 ≤ f) (hf1 : f ≤ 3) (hb : ¬ (fc t a f).f0 < 0) : Small (apart t a f) := by
  obtain ⟨h8, h4, _⟩ := isTri_good h
  have hg : (0 ≤ (fc t a f).f0 ∧ (fc t a f).f0 < (t.length : Int) ∧ 0 ≤ (fc t a f).f1 ∧ (fc t a f).f1 ≤ 23) := by
    rcases face_good h h0 h1 hf0 hf1 with ⟨e, _⟩ | ⟨e, _⟩
    · omega
    · exact e
  refine ⟨by unfold apart; rw [setF_length, setF_length]; omega, fun r hr => ?_⟩
  have := setF_rows (setF_rows h4 h0 h1 f ⟨-1, 0⟩) hg.1 (by rw [setF_length]; exact hg.2.1) (rd (permL (fc t a f).f1) f) ⟨-1, 0⟩ r hr
  omega
theorem unglue_small (t : Tri) (a f : Int) : Small (unglue t a f).1 := by
  unfold unglue
  by_cases h : isTri t = true
  · rw [if_pos h]
    by_cases hr : (0 ≤ a ∧ a < t.length) ∧ (0 ≤ f ∧ f ≤ 3)
    · rw [if_pos hr]
      by_cases hb : (fc t a f).f0 < 0
      · rw [if_pos hb]; exact Small_nil
      · rw [if_neg hb]; exact apart_small h hr.1.1 hr.1.2 hr.2.1 hr.2.2 hb
    · rw [if_neg hr]; exact Small_nil
  · rw [if_neg h]; exact Small_nil
section
variable {t : Tri}
theorem row4s {a b g : Int} {x : SFace} (h4 : ∀ r ∈ t, r.length = 4) (h0 : 0 ≤ a) (h1 : a < t.length) (hb0 : 0 ≤ b) (hb1 : b < t.length) : (rd_LFace (setF t a g x) b).length = 4 :=
  row4 (setF_rows h4 h0 h1 g x) hb0 (by rw [setF_length]; exact hb1)
theorem spec_unglue_j (h : isTri t = true) {a f : Int} (h0 : 0 ≤ a) (h1 : a < t.length) (hf0 : 0 ≤ f) (hf1 : f ≤ 3) :
    Ev (fun k => spec_UnglueFace.j0 k a f false t) (if (fc t a f).f0 < 0 then ([], 5) else (apart t a f, 0)) := by
  obtain ⟨h8, h4, _⟩ := isTri_good h
  have hr := rowlen h h0 h1
  refine ev_step (fun k => by rw [spec_UnglueFace.j0, if_neg (by simp), if_pos h0, if_pos h1, if_pos hf0, if_pos (by omega)]) ?_
  change Ev (fun k => if (fc t a f).f0 < 0 then _ else _) _
  by_cases hb : (fc t a f).f0 < 0
  · exact ev_pos hb (ev_some (if_pos hb).symm)
  · rw [if_neg hb]
    have hg : (0 ≤ (fc t a f).f0 ∧ (fc t a f).f0 < (t.length : Int) ∧ 0 ≤ (fc t a f).f1 ∧ (fc t a f).f1 ≤ 23) := by
      rcases face_good h h0 h1 hf0 hf1 with ⟨e, _⟩ | ⟨e, _⟩
      · omega
      · exact e
    obtain ⟨g0, g1, p0, p1⟩ := hg
    obtain ⟨q0, q1⟩ := permL_sm p0 p1 hf0 hf1
    have hr2 := row4s (g := f) (x := ⟨-1, 0⟩) h4 h0 h1 g0 g1
    refine ev_neg hb (Ev.bind (spec_own_ev (isTri_small h)) (ev_pos h1 (ev_pos (by omega) (Ev.bind (Ev.now _) (ev_pos g0 (ev_pos g1 (Ev.bind (l06At_ev p0 p1 hf0 hf1) (ev_pos q0 (ev_pos ?_ ?_)))))))))
    · change _ < ((rd_LFace (setF t a f ⟨-1, 0⟩) (fc t a f).f0).length : Int); rw [hr2]; exact Int.lt_of_le_of_lt q1 (by omega)
    · exact ev_some rfl
theorem impl_unglue_j (h : isTri t = true) {a f : Int} (h0 : 0 ≤ a) (h1 : a < t.length) (hf0 : 0 ≤ f) (hf1 : f ≤ 3) :
    Ev (fun k => impl_UnglueFace.j0 k a f false t) (if (fc t a f).f0 < 0 then ([], 5) else (apart t a f, 0)) := by
  obtain ⟨h8, h4, _⟩ := isTri_good h
  have hr := rowlen h h0 h1
  refine ev_step (fun k => by rw [impl_UnglueFace.j0, if_neg (by simp), if_pos h0, if_pos h1, if_pos hf0, if_pos (by omega), impl_Face_isBoundary.f, Option.bind_some]) ?_
  by_cases hb : (fc t a f).f0 < 0
  · exact ev_pos (by simpa using hb) (ev_some (if_pos hb).symm)
  · rw [if_neg hb]
    have hg : (0 ≤ (fc t a f).f0 ∧ (fc t a f).f0 < (t.length : Int) ∧ 0 ≤ (fc t a f).f1 ∧ (fc t a f).f1 ≤ 23) := by
      rcases face_good h h0 h1 hf0 hf1 with ⟨e, _⟩ | ⟨e, _⟩
      · omega
      · exact e
    obtain ⟨g0, g1, p0, p1⟩ := hg
    obtain ⟨q0, q1⟩ := permL_sm p0 p1 hf0 hf1
    have hr2 := row4s (g := f) (x := ⟨-1, 0⟩) h4 h0 h1 g0 g1
    refine ev_neg (by simpa using hb) (Ev.bind (impl_copy_ev (isTri_small h)) (ev_pos h1 (Ev.bind (Ev.now (-1, 0)) (ev_pos (by omega) (Ev.bind (Ev.now _) (ev_pos g0 (ev_pos g1 (Ev.bind (ev_const (target_eq p0 p1 hf0 hf1)) (Ev.bind (Ev.now (-1, 0)) (ev_pos q0 (ev_pos ?_ ?_)))))))))))
    · change _ < ((rd_LFace (setF t a f ⟨-1, 0⟩) (fc t a f).f0).length : Int); rw [hr2]; exact Int.lt_of_le_of_lt q1 (by omega)
    · exact ev_some rfl
theorem spec_unglue_ev (t : Tri) (a f : Int) : Ev (fun k => spec_UnglueFace.f k t a f) (unglue t a f) := by
  have htrue : Ev (fun k => spec_UnglueFace.j0 k a f true t) ([], 2) := ev_step (fun k => by rw [spec_UnglueFace.j0, if_pos rfl]) (Ev.now _)
  refine Ev.bind (spec_isTri_ev t) ?_
  unfold unglue
  cases h : isTri t with
  | false => exact ev_neg (by simp) (Ev.now _)
  | true =>
    obtain ⟨h8, h4, _⟩ := isTri_good h
    refine ev_pos rfl (Ev.bind (ev_const (by unfold spec_l07Tets.f; rfl)) ?_)
    refine Ev.bind (ev_const (by rw [wrap_id (by omega) (by omega)]; exact l07In_eq _ _ _)) ?_
    rw [if_pos rfl]
    by_cases ha : 0 ≤ a ∧ a < t.length
    · refine ev_pos (by simp; omega) (Ev.bind (ev_const (l07In_eq _ _ _)) ?_)
      by_cases hf : 0 ≤ f ∧ f ≤ 3
      · rw [if_pos ⟨ha, hf⟩]
        have e : (!(decide (0 ≤ f) && decide (f ≤ 3))) = false := by simp [hf]
        rw [e]
        exact spec_unglue_j h ha.1 ha.2 hf.1 hf.2
      · rw [if_neg (fun hc => hf hc.2)]
        have e : (!(decide (0 ≤ f) && decide (f ≤ 3))) = true := by
          rw [Bool.not_eq_true', Bool.and_eq_false_iff, decide_eq_false_iff_not, decide_eq_false_iff_not]; omega
        rw [e]
        exact htrue
    · rw [if_neg (fun hc => ha hc.1)]
      refine ev_neg ?_ htrue
      rw [Bool.and_eq_true, decide_eq_true_eq, decide_eq_true_eq]; omega
theorem hasIndex_eq (t : Tri) (h : t.length ≤ 1048576) (a : Int) : impl_hasIndex_Simpl_Face.f t a = some (decide (0 ≤ a) && decide (a ≤ (t.length : Int) - 1)) := by
  unfold impl_hasIndex_Simpl_Face.f impl_size_Simpl_Face.f
  rw [Option.bind_some, wrap_id (by omega) (by omega), inRange_eq]; rfl
theorem impl_unglue_ev {t : Tri} (hs : Small t) (a f : Int) : Ev (fun k => impl_UnglueFace.f k t a f) (unglue t a f) := by
  have htrue : Ev (fun k => impl_UnglueFace.j0 k a f true t) ([], 2) := ev_step (fun k => by rw [impl_UnglueFace.j0, if_pos rfl]) (Ev.now _)
  refine Ev.bind (impl_isTri_ev hs) ?_
  unfold unglue
  cases h : isTri t with
  | false => exact ev_neg (by simp) (Ev.now _)
  | true =>
    obtain ⟨h8, h4, _⟩ := isTri_good h
    refine ev_pos rfl (Ev.bind (ev_const (hasIndex_eq t hs.1 a)) ?_)
    rw [if_pos rfl]
    by_cases ha : 0 ≤ a ∧ a < t.length
    · refine ev_pos (by simp; omega) (Ev.bind (ev_const (by unfold impl_isVertex.f; rw [inRange_eq]; rfl)) ?_)
      by_cases hf : 0 ≤ f ∧ f ≤ 3
      · rw [if_pos ⟨ha, hf⟩]
        have e : (!(decide (0 ≤ f) && decide (f ≤ 3))) = false := by simp [hf]
        rw [e]
        exact impl_unglue_j h ha.1 ha.2 hf.1 hf.2
      · rw [if_neg (fun hc => hf hc.2)]
        have e : (!(decide (0 ≤ f) && decide (f ≤ 3))) = true := by
          rw [Bool.not_eq_true', Bool.and_eq_false_iff, decide_eq_false_iff_not, decide_eq_false_iff_not]; omega
        rw [e]
        exact htrue
    · rw [if_neg (fun hc => ha hc.1)]
      refine ev_neg ?_ htrue
      rw [Bool.and_eq_true, decide_eq_true_eq, decide_eq_true_eq]; omega
end
end Go.Proofs.Ytojpoedeiedgdaa.P

/- The marks that a law writes into a triangulation, and the law's reading of them. -/
namespace Go.Proofs.Ytojpoedeiedgdaa.P
open Go.RowKit Go.Proofs.YtojpoedeiedgdaaW.PrintWords Go.Proofs.Ytojpoedeiedgdaa.Lib
set_option linter.unusedVariables false
/-- n marked faces from a on. -/
def mkR (a : Int) : Nat → List SFace
  | 0 => []
  | n + 1 => ⟨a, a + 1⟩ :: mkR (a + 2) n
theorem mkR_length (a : Int) (n : Nat) : (mkR a n).length = n := by
  induction n generalizing a with
  | zero => rfl
  | succ n ih => simp [mkR, ih]
theorem mkR_get (a : Int) (n i : Nat) (z : SFace) (h : i < n) : (mkR a n).getD i z = ⟨a + 2 * i, a + 2 * i + 1⟩ := by
  induction n generalizing a i with
  | zero => omega
  | succ n ih =>
    cases i with
    | zero => simp [mkR]
    | succ i => simp only [mkR, List.getD_cons_succ]; rw [ih (a + 2) i (by omega)]; congr 1 <;> omega
theorem mkR_snoc (a : Int) (n : Nat) : mkR a (n + 1) = mkR a n ++ [⟨a + 2 * n, a + 2 * n + 1⟩] := by
  induction n generalizing a with
  | zero => simp [mkR]
  | succ n ih =>
    rw [mkR, ih (a + 2)]
    have e : a + 2 + 2 * (n : Int) = a + 2 * ((n + 1 : Nat) : Int) := by omega
    rw [e]; rfl
theorem mk_set (l : List SFace) (a : Int) (n : Nat) (h : n < l.length) : (mkR a n ++ l.drop n).set n ⟨a + 2 * n, a + 2 * n + 1⟩ = mkR a (n + 1) ++ l.drop (n + 1) := by
  rw [List.set_append_right _ _ (by rw [mkR_length]; exact Nat.le_refl _), mkR_length, Nat.sub_self, List.drop_eq_getElem_cons h, List.set_cons_zero, mkR_snoc, List.append_assoc]
  rfl
theorem rd_Face_set (l : List SFace) (n : Nat) (v : SFace) (h : n < l.length) : rd_Face (l.set n v) (n : Int) = v := by
  rw [rd_Face_lt _ n (by rw [List.length_set]; exact h), List.getElem_set_self]
theorem markFaceS_ev (l : List SFace) (a : Int) (h : l.length ≤ 1099511627776) (h0 : 0 ≤ a) (h1 : a ≤ 4398046511104) : Ev (fun k => laws_markFaceS.f k l a) (a + 2 * l.length, mkR a l.length) := by
  have hl : Ev (fun k => laws_markFaceS.l0 k l a 0) (a + 2 * l.length, mkR a l.length) := by
    refine ev_loop0 (fun k (s : List SFace × Int × Int) => laws_markFaceS.l0 k s.1 s.2.1 s.2.2) (fun s => ∃ n : Nat, n ≤ l.length ∧ s.2.2 = n ∧ s.2.1 = a + 2 * n ∧ s.1 = mkR a n ++ l.drop n) (fun s => l.length - s.2.2.toNat) (fun _ => (a + 2 * l.length, mkR a l.length)) ?_ (l, a, 0) ⟨0, by omega, rfl, by simp, by simp [mkR]⟩
    rintro ⟨x, b, i⟩ ⟨n, hn, rfl, rfl, rfl⟩
    dsimp only
    have hlen : (mkR a n ++ l.drop n).length = l.length := by simp [mkR_length]; omega
    by_cases hlt : n < l.length
    · refine .inr ⟨(mkR a (n + 1) ++ l.drop (n + 1), a + 2 * ((n + 1 : Nat) : Int), ((n + 1 : Nat) : Int)), ⟨n + 1, by omega, rfl, rfl, rfl⟩, by simp; omega, rfl, fun k => ?_⟩
      simp only [laws_markFaceS.l0]
      rw [if_pos (by rw [hlen]; omega), if_pos (by omega), Option.bind_some, Int.toNat_natCast, rd_Face_set _ n _ (by rw [hlen]; exact hlt), List.set_set, wrap_id (x := a + 2 * (n : Int) + 1) (by omega) (by omega), mk_set l a n hlt, wrap_succ (by omega), wrap_id (by omega) (by omega)]
      congr 1; omega
    · obtain rfl : n = l.length := by omega
      refine .inl fun k => ?_
      simp only [laws_markFaceS.l0]
      rw [if_neg (by rw [hlen]; omega)]
      simp
  exact hl
theorem heldFaceS_ev (a : Int) (m : Nat) (h : m ≤ 1099511627776) (h0 : 0 ≤ a) (h1 : a ≤ 4398046511104) : Ev (fun k => laws_heldFaceS.f k (mkR a m) a) (a + 2 * m) := by
  have hl : Ev (fun k => laws_heldFaceS.l0 k (mkR a m) a 0) (a + 2 * m) := by
    refine ev_loop0 (fun k (s : Int × Int) => laws_heldFaceS.l0 k (mkR a m) s.1 s.2) (fun s => ∃ n : Nat, n ≤ m ∧ s.2 = n ∧ s.1 = a + 2 * n) (fun s => m - s.2.toNat) (fun _ => a + 2 * m) ?_ (a, 0) ⟨0, by omega, rfl, by simp⟩
    rintro ⟨b, i⟩ ⟨n, hn, rfl, rfl⟩
    dsimp only
    by_cases hlt : n < m
    · refine .inr ⟨(a + 2 * ((n + 1 : Nat) : Int), ((n + 1 : Nat) : Int)), ⟨n + 1, by omega, rfl, rfl⟩, by simp; omega, rfl, fun k => ?_⟩
      have e : rd_Face (mkR a m) (n : Int) = ⟨a + 2 * n, a + 2 * n + 1⟩ := by unfold rd_Face; rw [Int.toNat_natCast, mkR_get a m n _ hlt]
      simp only [laws_heldFaceS.l0]
      rw [if_pos (by rw [mkR_length]; omega), if_pos (by omega), e, if_pos rfl, wrap_id (x := a + 2 * (n : Int) + 1) (by omega) (by omega), if_pos rfl, wrap_succ (by omega), wrap_id (by omega) (by omega)]
      congr 1; omega
    · obtain rfl : n = m := by omega
      refine .inl fun k => ?_
      simp only [laws_heldFaceS.l0]
      rw [if_neg (by rw [mkR_length]; omega)]
  exact hl
/-- The marks of a triangulation, and their number. -/
def cntF : Tri → Nat
  | [] => 0
  | r :: rs => 2 * r.length + cntF rs
def mkT (a : Int) : Tri → Tri
  | [] => []
  | r :: rs => mkR a r.length :: mkT (a + 2 * r.length) rs
theorem cntF_le (t : Tri) (h : ∀ r ∈ t, r.length ≤ 1048576) : cntF t ≤ 2097152 * t.length := by
  induction t with
  | nil => simp [cntF]
  | cons r rs ih =>
    have h1 := h r (List.mem_cons_self ..)
    have h2 := ih (fun x hx => h x (List.mem_cons_of_mem _ hx))
    simp only [cntF, List.length_cons]; omega
theorem markGo_ev : ∀ (suf : Tri) (pre : Tri) (a : Int), (∀ r ∈ suf, r.length ≤ 1048576) → 0 ≤ a → a + cntF suf ≤ 4398046511104 → Ev (fun k => laws_markFaceSS.go k suf.length (pre ++ suf) a pre.length) (a + cntF suf, pre ++ mkT a suf)
  | [], pre, a, _, h0, h1 => ev_const' fun k => by simp [laws_markFaceSS.go, cntF, mkT]
  | r :: rs, pre, a, hr, h0, h1 => by
    simp only [cntF] at h1
    have hm := markFaceS_ev r a (by have := hr r (List.mem_cons_self ..); omega) h0 (by omega)
    have ih := markGo_ev rs (pre ++ [mkR a r.length]) (a + 2 * r.length) (fun x hx => hr x (List.mem_cons_of_mem _ hx)) (by omega) (by omega)
    simp only [List.length_cons, laws_markFaceSS.go]
    have e0 : List.getD (pre ++ r :: rs) pre.length [] = r := by simp
    rw [e0]
    refine Ev.bind hm ?_
    dsimp only
    have e1 : (pre ++ r :: rs).set pre.length (mkR a r.length) = pre ++ [mkR a r.length] ++ rs := by
      rw [List.set_append_right _ _ (Nat.le_refl _), Nat.sub_self, List.set_cons_zero]; simp
    rw [e1]
    have e2 : pre.length + 1 = (pre ++ [mkR a r.length]).length := by simp
    rw [e2]
    have e3 : (a + ((cntF (r :: rs) : Nat) : Int), pre ++ mkT a (r :: rs)) = (a + 2 * r.length + (cntF rs : Int), pre ++ [mkR a r.length] ++ mkT (a + 2 * r.length) rs) := by
      simp only [cntF, mkT, List.append_assoc, List.singleton_append]; congr 1; omega
    rw [e3]
    exact ih
theorem markTriangulation_ev (t : Tri) (a : Int) (hs : Small t) (h0 : 0 ≤ a) (h1 : a ≤ 1048576) : Ev (fun k => laws_markTriangulation.f k t a) (a + cntF t, mkT a t) := by
  have := markGo_ev t [] a hs.2 h0 (by have := cntF_le t hs.2; have := hs.1; omega)
  rw [List.nil_append, List.nil_append] at this
  exact this
theorem heldSS_ev : ∀ (suf : Tri) (pre : Tri) (a : Int), (∀ r ∈ suf, r.length ≤ 1048576) → pre.length + suf.length ≤ 1048576 → 0 ≤ a → a + cntF suf ≤ 4398046511104 → Ev (fun k => laws_heldFaceSS.l0 k (pre ++ mkT a suf) a (pre.length : Int)) (a + cntF suf)
  | [], pre, a, _, hn, h0, h1 => by
    refine ev_step (f := fun _ => some a) (fun k => ?_) (ev_some (by simp [cntF]))
    rw [laws_heldFaceSS.l0, if_neg (by simp [mkT])]
  | r :: rs, pre, a, hr, hn, h0, h1 => by
    simp only [cntF, List.length_cons] at h1 hn
    have hm := heldFaceS_ev a r.length (by have := hr r (List.mem_cons_self ..); omega) h0 (by omega)
    have ih := heldSS_ev rs (pre ++ [mkR a r.length]) (a + 2 * r.length) (fun x hx => hr x (List.mem_cons_of_mem _ hx)) (by simp; omega) (by omega) (by omega)
    have e1 : pre ++ mkT a (r :: rs) = pre ++ [mkR a r.length] ++ mkT (a + 2 * r.length) rs := by simp [mkT]
    have e4 : rd_LFace (pre ++ mkT a (r :: rs)) (pre.length : Int) = mkR a r.length := by
      rw [rd_LFace_lt _ _ (by simp [mkT])]; simp [mkT]
    refine ev_step (fun k => by rw [laws_heldFaceSS.l0, if_pos (by simp [mkT]; omega), if_pos (by omega), e4]) (Ev.bind hm ?_)
    refine ev_neg (by omega) ?_
    have e2 : wrap64 ((pre.length : Int) + 1) = ((pre ++ [mkR a r.length]).length : Int) := by rw [wrap_succ (by omega)]; simp
    have e3 : (a + ((cntF (r :: rs) : Nat) : Int)) = a + 2 * r.length + (cntF rs : Int) := by simp only [cntF]; omega
    rw [e1, e3]
    exact Ev.congr (fun k => by rw [e2]) ih
theorem heldTriangulation_ev (t : Tri) (a : Int) (hs : Small t) (h0 : 0 ≤ a) (h1 : a ≤ 1048576) : Ev (fun k => laws_heldTriangulation.f k (mkT a t) a) (a + cntF t) := by
  have := heldSS_ev t [] a hs.2 (by have := hs.1; simp; omega) h0 (by have := cntF_le t hs.2; have := hs.1; omega)
  rw [List.nil_append] at this
  refine Ev.bind (g := fun k => laws_heldFaceSS.f k (mkT a t) a) this ?_
  exact ev_neg (by omega) (Ev.now _)
end Go.Proofs.Ytojpoedeiedgdaa.P

/- The pure statement of FnExactUnglueFace. -/
namespace Go.Proofs.Ytojpoedeiedgdaa.Pure
open Go.RowKit Go.Proofs.Ytojpoedeiedgdaa.P Go.Proofs.Ytojpoedeiedgdaa.Lib Go.Proofs.YtojpoedeiedgdaaW.PrintWords
theorem FnExactUnglueFace (l : List (List SLawFace)) (a f : Int) (h : Fits l) (_ : (Lit.int .i64 a).wf = true) (_ : (Lit.int .i64 f).wf = true) : ∃ k, laws_FnExactUnglueFace.f k l a f = some true := by
  refine Ev.rounds ?_
  obtain ⟨r, hr, hs⟩ := szTriangulation_ev l h
  refine Ev.bind hr ?_
  by_cases hn : r < 0
  · exact ev_pos hn (Ev.now true)
  have hsm := hs hn
  have hto := toTriangulation_ev l hsm
  have hS := cvT_small hsm
  have hi := impl_unglue_ev hS a f
  have hL := unglue_small (cvT l) a f
  have heq := eqTriangulation_ev _ hL
  have hh := heldTriangulation_ev _ 1 hL (by omega) (by omega)
  refine ev_neg hn ?_
  refine Ev.bind hto ?_
  refine Ev.bind (spec_unglue_ev _ a f) ?_
  refine Ev.bind hto ?_
  refine Ev.bind hi ?_
  refine Ev.bind heq (ev_pos rfl (ev_pos rfl ?_))
  refine Ev.bind hto ?_
  refine Ev.bind (eqTriangulation_ev _ hS) (ev_pos rfl ?_)
  refine Ev.bind (markTriangulation_ev _ 1 hS (by omega) (by omega)) ?_
  refine ev_neg (by dsimp only; omega) ?_
  refine Ev.bind heq (ev_pos rfl (ev_pos rfl ?_))
  refine Ev.bind (markTriangulation_ev _ 1 hL (by omega) (by omega)) ?_
  refine Ev.bind hh ?_
  refine ev_neg (by omega) (ev_pos rfl ?_)
  refine Ev.bind hto ?_
  refine Ev.bind hi ?_
  refine Ev.bind heq (ev_pos rfl (ev_pos rfl ?_))
  refine Ev.bind hh ?_
  exact ev_neg (by omega) (ev_pos rfl (Ev.now true))
end Go.Proofs.Ytojpoedeiedgdaa.Pure

/- How an argument that reads as data reads as a list: slices of slices of structs of whole numbers, and structs that hold one slice. -/
namespace Go.Proofs.Ytojpoedeiedgdaa.Lib
open Go.RowKit Go.Proofs.YtojpoedeiedgdaaW.PrintWords Go.Joins Go.Deep Go.WideShapes Go.ChangeShapes
set_option linter.unusedVariables false
/-- Whatever reads as data at type t reads as a value of the kind d. -/
def Opens (P : Program) (t : TypeId) {α : Type} (d : Kd α) : Prop := ∀ (H : Type) (enc : TypeId × Value → H) (w : World) (base : Nat) (spare : Nat → Bool) (held : Bool) (fuel : Nat) (cs : List Value) (x : DataW H × List MemPlace),
  DataW.trod enc P w base spare held fuel t cs = some x → ∃ y, d.K w y cs
theorem pick_list {α : Type} {R : Nat → α → Prop} : ∀ n, (∀ i, i < n → ∃ y, R i y) → ∃ ys : List α, ys.length = n ∧ ∀ j p, ys[j]? = some p → R j p
  | 0, _ => ⟨[], rfl, fun j p h => by simp at h⟩
  | n + 1, h => by
    obtain ⟨ys, hl, hr⟩ := pick_list n (fun i hi => h i (by omega))
    obtain ⟨y, hy⟩ := h n (by omega)
    refine ⟨ys ++ [y], by simp [hl], fun j p hj => ?_⟩
    by_cases hlt : j < n
    · rw [List.getElem?_append_left (by omega)] at hj
      exact hr j p hj
    · have hjn : j < (ys ++ [y]).length := (List.getElem?_eq_some_iff.1 hj).1
      have : j = n := by simp [hl] at hjn; omega
      subst this
      rw [List.getElem?_append_right (by omega), hl, Nat.sub_self] at hj
      injection hj with hj
      rw [← hj]
      exact hy
theorem opens_slice {P : Program} {t e : TypeId} {α : Type} {d : Kd α} (ht : P.underlying t = some (.slice e)) (hc : P.cellsOf e = d.sz) (h : Opens P e d) : Opens P t (Kd.slice e d) := by
  intro H enc w base spare held fuel cs x hx
  rcases open_slice ht hx with ⟨rfl, _⟩ | ⟨a, len, cap, m, n, D, Pl, rfl, hb, hl, hm, hmm, _, hi⟩
  · exact ⟨[], none, 0, rfl, Nat.le_refl _, Kd.C_nil d w⟩
  · have each : ∀ i, i < len → ∃ y, ∃ cs', w.cells? base (a.add (i * d.sz)) d.sz = some cs' ∧ d.K w y cs' := by
      intro i hil
      have him : i < m := by rw [hmm]; split <;> omega
      obtain ⟨cs', h1, h2⟩ := hi i him
      obtain ⟨y, hy⟩ := h H enc w base spare held n cs' _ h2
      rw [hc] at h1
      exact ⟨y, cs', h1, hy⟩
    obtain ⟨ys, hlen, hys⟩ := pick_list len each
    refine ⟨ys, some a, cap, by rw [hlen], by omega, rfl, ?_, fun _ => ⟨a, rfl, fun j p hj => ?_⟩⟩
    · unfold maxLen at hm; omega
    · obtain ⟨cs', h1, h2⟩ := hys j p hj
      obtain ⟨_, h3, h4⟩ := World.cells?_some h1
      refine ⟨cs', h3, h2, fun i u hu => ?_⟩
      have hil : i < d.sz := by rw [← h3]; exact (List.getElem?_eq_some_iff.1 hu).1
      rw [← hu, ← h4 i hil, Go.Deep.add_add]
theorem opens_struct2 {P : Program} {t : TypeId} {f0 f1 : Field} {α : Type} (hs : P.underlying t = some (.struct #[f0, f1])) (hone : oneCellFields P #[f0, f1] = true) (hC : P.cellsOf t = 2)
    (h0 : P.underlying f0.type = some (.int .i64)) (h1 : P.underlying f1.type = some (.int .i64)) (d : Kd α) (mk : Int → Int → α) (hK : ∀ w a b, d.K w (mk a b) [.int .i64 a, .int .i64 b]) : Opens P t d := by
  intro H enc w base spare held fuel cs x h
  obtain ⟨y0, y1, n, hx, hl, g0, g1⟩ := trod_struct2 hs h
  obtain ⟨o0, k0⟩ := hone_of hone 0 f0 rfl
  obtain ⟨o1, k1⟩ := hone_of hone 1 f1 rfl
  rw [hC] at hl
  match cs, hl with
  | [c0, c1], _ =>
    rw [o0, k0] at g0
    rw [o1, k1] at g1
    obtain ⟨a, e0, _, _⟩ := DataW.trod_int h0 g0
    obtain ⟨b, e1, _, _⟩ := DataW.trod_int h1 g1
    simp at e0 e1
    subst e0 e1
    exact ⟨mk a b, hK w a b⟩
section
variable {H : Type} {enc : TypeId × Value → H} {P : Program} {w : World} {base : Nat} {spare : Nat → Bool} {held : Bool}
theorem array1 {α : Type} {cs : Array α} (h : cs.size = 1) : ∃ c0, cs = #[c0] := by
  obtain ⟨l⟩ := cs
  match l, h with
  | [c0], _ => exact ⟨c0, rfl⟩
/-- A struct that holds one slice, by value. -/
theorem open_agg1 {r : Reach} {b0 : Nat} {t e : TypeId} {f0 : Field} {α : Type} {d : Kd α} {v : Value} {D : DataW H} {p : List MemPlace} (hs : P.underlying t = some (.struct #[f0])) (hone : oneCellFields P #[f0] = true) (hC : P.cellsOf t = 1)
    (ho : Opens P f0.type (Kd.slice e d)) (hv : Value.okWide P w r b0 t v) (h : DataW.Trod enc P w base spare held t v D p) :
    ∃ (A : Option Addr) (c : Nat) (l : List α), v = .agg #[.slice A l.length c] ∧ l.length ≤ c ∧ d.C w A l.length l := by
  obtain ⟨cs, rfl, hsz⟩ := okWide_struct hs hv
  obtain ⟨c0, rfl⟩ := array1 (hsz.trans hC)
  obtain ⟨fuel, hf⟩ := h
  obtain ⟨y0, n, hx, _, h0⟩ := trod_struct1 hs hf
  obtain ⟨o0, k0⟩ := hone_of hone 0 f0 rfl
  have h0' : DataW.trod enc P w base spare held n f0.type [c0] = some y0 := by simpa [Value.cells, o0, k0] using h0
  obtain ⟨l, A, c, e1, hl, hCC⟩ := ho H enc w base spare held n _ _ h0'
  simp at e1
  subst e1
  exact ⟨A, c, l, rfl, hl, hCC⟩
end
theorem fits_of_C {e : Nat} {α : Type} {d : Kd α} {w : World} {A : Option Addr} {l : List (List α)} (h : (Kd.slice e d).C w A l.length l) : l.length ≤ 9223372036854775807 ∧ ∀ r ∈ l, r.length ≤ 9223372036854775807 := by
  refine ⟨h.2.1, fun r hr => ?_⟩
  obtain ⟨j, hj, rfl⟩ := List.mem_iff_getElem.1 hr
  obtain ⟨ad, _, hc⟩ := h.2.2 (by omega)
  obtain ⟨c, _, hK, _⟩ := hc j _ (List.getElem?_eq_getElem hj)
  obtain ⟨A', c', _, _, hC⟩ := hK
  exact hC.2.1
end Go.Proofs.Ytojpoedeiedgdaa.Lib

-- Printed by a program of this session (drv.py), by means of the kit's print.py.
namespace Go.Proofs.Ytojpoedeiedgdaa.fnExactUnglueFace
open Go.ChangeShapes Go.WideShapes Go.ChangeAt Go.RowKit Go.Proofs.Ytojpoedeiedgdaa.Lib Go.Proofs.YtojpoedeiedgdaaW.PrintWords Go.Proofs.Ytojpoedeiedgdaa.P
open Go.ChangeMaps (open_string shut_string)
set_option linter.unusedVariables false
theorem own : ownKnob Try.prog.godebug = none := by kernel_rfl
theorem laidOut : laidOutB Try.prog = true := by kernel_rfl
set_option maxRecDepth 100000 in
theorem lifted (os : Os) (started : os.Started) (H : Type) (enc : TypeId × Value → H) :
    ReturnsInHanded {} Try.checked os 7 .any (Rows.fnExactUnglueFaceSpec.pre6 enc Try.prog Try.f7 Rows.fnExactUnglueFaceRow.domain false) (Rows.fnExactUnglueFaceSpec.post enc Try.prog Try.f7 false true false false) := by
  refine returnsInHanded_of_change_sized (C := Try.checked) own started (by kernel_rfl) Try.func7
    (ChangeSpec.witness6 (enc := enc) (C := Try.checked) false ⟨#[], #[.agg #[.slice none 0 0], .int .i64 0, .int .i64 0], []⟩ 8 (by kernel_rfl) (by kernel_rfl) (by kernel_rfl) (by kernel_rfl)) ?_
  intro W base args ds gs before hval0 hW hcnd hsz0 _
  have hval : ∀ (j : Nat) t v, Try.f7.params[j]? = some t → args[j]? = some v → Value.okWide Try.prog W .any base t v := hval0
  have hW' := hW
  obtain ⟨p, q, hA0, hV, rfl, hfz, hnd⟩ := hW
  have hA : DataW.TrodAll enc Try.prog W 0 (fun _ => true) true Try.f7.params.toList args.toList ds p := hA0
  rw [Try.params7] at hA hval
  obtain ⟨v0, vs0, d0, ds0, p0, q0, hargs, rfl, rfl, h0, r0⟩ := trodAll_cons hA
  obtain ⟨v1, vs1, d1, ds1, p1, q1, rfl, rfl, rfl, h1, r1⟩ := trodAll_cons r0
  obtain ⟨v2, vs2, d2, ds2, p2, q2, rfl, rfl, rfl, h2, r2⟩ := trodAll_cons r1
  obtain ⟨rfl, rfl, rfl⟩ := trodAll_nil r2
  obtain rfl : args = #[v0, v1, v2] := by cases args; simp_all
  obtain ⟨rfl, rfl⟩ := trodVars_none hV
  have k0 := h0
  have lt0 : ∀ x ∈ p0, x.block < W.heap.size := by obtain ⟨m, hm⟩ := k0; exact DataW.trod_lt m _ _ _ hm
  obtain ⟨A0, c0, l0, rfl, hl0, hC0⟩ := open_agg1 Try.underlying24 (by kernel_rfl) (by kernel_rfl) (opens_slice Try.underlying22 (by kernel_rfl) (opens_slice Try.underlying89 (by kernel_rfl) (opens_struct2 Try.underlying106 (by kernel_rfl) (by kernel_rfl) Try.underlying2 Try.underlying2 kLawFace (fun a b => (⟨a, b⟩ : SLawFace)) (fun w a b => kLawFace_mk w ⟨a, b⟩)))) (hval 0 24 v0 rfl rfl) h0
  obtain ⟨a1, rfl, rfl, rfl, w1⟩ := open_int Try.underlying2 (hval 1 2 v1 rfl rfl) h1
  obtain ⟨a2, rfl, rfl, rfl, w2⟩ := open_int Try.underlying2 (hval 2 2 v2 rfl rfl) h2
  obtain ⟨k, hk⟩ := Pure.FnExactUnglueFace l0 a1 a2 (fits_of_C hC0) w1 w2
  refine (laws_FnExactUnglueFace.calls k _ _ l0 a1 a2 W hC0 hl0 hk).mono fun e W' ⟨he, bel⟩ => ?_
  subst he
  exact ⟨_, rfl, _, _, _, [], _, [], hW', trodAll_mk1 (shut_bool Try.underlying4 _), (trodAll_cons_mk (Below.trod laidOut (by kernel_rfl) (of_decide_eq_true (by kernel_rfl)) k0 bel lt0) (trodAll_cons_mk (shut_int Try.underlying2 w1) (trodAll_cons_mk (shut_int Try.underlying2 w2) trodAll_mk0))), rfl, bel.frame _, fun h => by cases h⟩
theorem over : Rows.fnExactUnglueFaceRow.holds Try.pinned (OpenSpec.ofChange Rows.fnExactUnglueFaceSpec) :=
  OpenClaim.holds_of_wide 7 Try.f7 rfl rfl rfl rfl rfl rfl rfl ⟨rfl, rfl, rfl, rfl, rfl⟩ rfl rfl rfl rfl rfl (by kernel_rfl) Try.func7 (by kernel_rfl)
    (of_decide_eq_true (by kernel_rfl)) (by unfold Func.isWrapper; first | (rw [if_pos (by decide +kernel)]; kernel_rfl) | (rw [if_neg (by decide +kernel)]; exact ⟨rfl, rfl⟩))
    (fun os started H enc _ => lifted os started H enc)
theorem proved : Rows.FnExactUnglueFaceSaid := over
#print axioms proved
end Go.Proofs.Ytojpoedeiedgdaa.fnExactUnglueFace
namespace Go.Proofs.Ytojpoedeiedgdaa
/-- The row, under a short name, for the claim. -/
theorem fnExactUnglueFace_holds : Rows.FnExactUnglueFaceSaid := fnExactUnglueFace.proved
end Go.Proofs.Ytojpoedeiedgdaa
