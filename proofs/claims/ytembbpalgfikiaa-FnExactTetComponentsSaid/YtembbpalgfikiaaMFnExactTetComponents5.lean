/- The statement FnExactTetComponentsSaid, proved: part 5 of 5 (texts of this session and of the kit's print, put together and cut to what is used by a program of it). -/
import Derived.Test.YtembbpalgfikiaaMFnExactTetComponents4
import Derived.Deep.Slices
import Derived.ChangeSame
import Derived.ChangeArms
import Derived.WideShapes
import Derived.Lib.SmallJoins
import Derived.ChangeShapes
import Derived.Test.YtembbpalgfikiaaRows
import Derived.WalkKit
import Derived.ProofKit
import Derived.OpenShut
import Derived.ShutString
import Derived.ChangeOld
import Derived.Below
import Derived.SizedLaws
import Derived.Carry
namespace Go.Proofs.Ytembbpalgfikiaa.P
open Go.RowKit Go.Proofs.YtembbpalgfikiaaW.PrintWords Go.Proofs.YtembbpalgfikiaaW.PrintLast Go.Proofs.YtembbpalgfikiaaW.PrintMore
attribute [local go_sem] max2_int min2_int max_two min_two max_three min_three max_four min_four   -- for this text's walks alone
set_option linter.unusedVariables false
set_option linter.unusedSimpArgs false
/-! ### spec_l07Parts: function 61 -/
mutual
def spec_l07Parts.l0 : Nat → List Int → Int → List (List (SFace)) → Option (List Int)
 | 0, _, _, _ => none
 | k + 1, x3, x4, x102000 => if x4 < (x3.length : Int) then (if 0 ≤ x4 then (spec_l07Parts.l0 k (x3.set (x4 : Int).toNat (-1)) (wrap64 (x4 + 1)) x102000) else (none)) else (spec_l07Parts.l1 k x3 0 0 x102000)
def spec_l07Parts.l1 : Nat → List Int → Int → Int → List (List (SFace)) → Option (List Int)
 | 0, _, _, _, _ => none
 | k + 1, x3, x5, x6, x102000 => (spec_l07Tets.f x102000).bind fun t106 => (if x6 < t106 then (if 0 ≤ x6 then (if x6 < (x3.length : Int) then (if (rd x3 x6) ≥ 0 then (spec_l07Parts.l1 k x3 x5 (wrap64 (x6 + 1)) x102000) else (spec_l07Parts.l2 k (x3.set (x6 : Int).toNat x5) x5 x6 (([x6] : List Int)) 0 x102000)) else (none)) else (none)) else (some x3))
def spec_l07Parts.l2 : Nat → List Int → Int → Int → List Int → Int → List (List (SFace)) → Option (List Int)
 | 0, _, _, _, _, _, _ => none
 | k + 1, x3, x5, x6, x7, x8, x102000 => if x8 < (x7.length : Int) then (spec_l07Parts.l3 k x3 x5 x6 x7 x8 0 x102000) else (spec_l07Parts.l1 k x3 (wrap64 (x5 + 1)) (wrap64 (x6 + 1)) x102000)
def spec_l07Parts.l3 : Nat → List Int → Int → Int → List Int → Int → Int → List (List (SFace)) → Option (List Int)
 | 0, _, _, _, _, _, _, _ => none
 | k + 1, x3, x5, x6, x7, x8, x9, x102000 => if x9 < 4 then (if 0 ≤ x8 then (if x8 < (x7.length : Int) then (if 0 ≤ (rd x7 x8) then (if (rd x7 x8) < (x102000.length : Int) then (if 0 ≤ x9 then (if x9 < ((rd_LFace x102000 (rd x7 x8)).length : Int) then (if ((rd_Face (rd_LFace x102000 (rd x7 x8)) x9).f0) ≥ 0 then (if 0 ≤ ((rd_Face (rd_LFace x102000 (rd x7 x8)) x9).f0) then (if ((rd_Face (rd_LFace x102000 (rd x7 x8)) x9).f0) < (x3.length : Int) then (if (rd x3 ((rd_Face (rd_LFace x102000 (rd x7 x8)) x9).f0)) < 0 then (if x7.length < 17592186044416 then (spec_l07Parts.l3 k (x3.set (((rd_Face (rd_LFace x102000 (rd x7 x8)) x9).f0) : Int).toNat x5) x5 x6 (x7 ++ [(rd_Face (rd_LFace x102000 (rd x7 x8)) x9).f0]) x8 (wrap64 (x9 + 1)) x102000) else (none)) else (spec_l07Parts.l3 k x3 x5 x6 x7 x8 (wrap64 (x9 + 1)) x102000)) else (none)) else (none)) else (spec_l07Parts.l3 k x3 x5 x6 x7 x8 (wrap64 (x9 + 1)) x102000)) else (none)) else (none)) else (none)) else (none)) else (none)) else (none)) else (spec_l07Parts.l2 k x3 x5 x6 x7 (wrap64 (x8 + 1)) x102000)
end
def spec_l07Parts.f (k : Nat) (l0_0 : List (List (SFace))) : Option (List Int) := if 0 ≤ (l0_0.length : Int) then (if ((l0_0.length : Int) : Int).toNat ≤ 35184372088832 then (spec_l07Parts.l0 k (List.replicate ((l0_0.length : Int) : Int).toNat 0) 0 l0_0) else (none)) else (none)
set_option maxHeartbeats 8000000 in
set_option maxRecDepth 100000 in
theorem spec_l07Parts.calls (k : Nat) (A0_0 : Option Addr) (c0_0 : Nat) (l0_0 : List (List (SFace))) (r : List Int) (w : World) (hr0_0 : Kd.C (Kd.slice 75 kFace) w A0_0 l0_0.length l0_0) (hc0_0 : l0_0.length ≤ c0_0) (h : spec_l07Parts.f k l0_0 = some r) :
 Calls Try.prog 61 #[.agg #[.slice A0_0 l0_0.length c0_0]] w fun e w' => ∃ v0_ : Value, e = .returned (v0_) ∧ Kd.R (Kd.int .i64) 2 w' w.heap.size (fun _ => True) v0_ r ∧ Below w.heap.size w w' := by
 have hu35 := Try.underlying35
 have HR0_0 := Aside0.mk hr0_0
 have HC0_0 := Aside0.mk hc0_0
 clear hr0_0 hc0_0
 have HB := Aside0.mk (Below.refl w.heap.size w)
 have H : (if 0 ≤ (l0_0.length : Int) then (if ((l0_0.length : Int) : Int).toNat ≤ 35184372088832 then (spec_l07Parts.l0 k (List.replicate ((l0_0.length : Int) : Int).toNat 0) 0 l0_0) else (none)) else (none)) = some r := h
 clear h
 by_cases c2 : 0 ≤ (l0_0.length : Int)
 rotate_left
 next =>
  rw [if_neg c2] at H
  exact absurd H (by simp)
 rw [if_pos c2] at H
 have c2b0 := eq_true c2
 have c2b1 : decide (0 ≤ (l0_0.length : Int)) = true := ygy c2
 clear c2
 by_cases c3 : ((l0_0.length : Int) : Int).toNat ≤ 35184372088832
 rotate_left
 next =>
  rw [if_neg c3] at H
  exact absurd H (by simp)
 rw [if_pos c3] at H
 have c3b0 := eq_true c3
 have c3b1 : decide (((l0_0.length : Int) : Int).toNat ≤ 35184372088832) = true := ygy c3
 clear c3
 obtain ⟨y102, hy102⟩ : ∃ y_ : List Int, y_ = (List.replicate ((l0_0.length : Int) : Int).toNat 0) := ⟨_, rfl⟩
 replace H : (spec_l07Parts.l0 k y102 0 l0_0) = some r := by first | (rw [hy102]; with_reducible exact H) | (have H2_ := (yfy _ _).symm.trans H; rw [hy102]; with_reducible exact H2_) | (have H2_ := (yfy _ _).symm.trans H; with_reducible exact H2_) | with_reducible exact H | (rw [hy102]; exact H) | exact H
 have Ny102 := Aside0.mk hy102
 clear hy102
 have H' := Aside0.mk H
 clear H
 go_enter Try.func61, Try.ntmps61
 go_wp2_with (first | ((with_reducible refine gate_dst (N := 1) rfl ?_); refine box_event ?hg (N := 1) ?hd (cs := #[.slice A0_0 l0_0.length c0_0]) (t := 35) ?hr ?_; (case hd => rfl); (case hg => rfl); (case hr => first | (go_simp; done) | (go_simp; rfl)); intro gb101 hg w4 hbox hb; have n0_ := Aside0.mk (below_step (by repeat (first | (with_reducible first | exact HB.out | apply below_alloc | apply pw_below_drewN | apply below_drew1) | exact HB.out)) hb); have n1_ := Aside0.mk (hbox); have n2_ := Aside0.mk ((by rw [hg]; exact (below_size (by repeat (first | (with_reducible first | exact HB.out | apply below_alloc | apply pw_below_drewN | apply below_drew1) | exact HB.out))) : w.heap.size ≤ gb101)); have n3_ := Aside0.mk ((by rw [hg]; exact (below_size (by repeat (first | (with_reducible first | exact HB.out | apply below_alloc | apply pw_below_drewN | apply below_drew1) | exact HB.out))) : w.heap.size ≤ gb101)); clear HB; have HB := n0_; have BK101 := n1_; have GW101 := n2_; have GE101 := n3_; clear n0_ n1_ n2_ n3_; clear hb hbox hg; have hcz5_0 : w4.cell? ⟨gb101, 0, none⟩ = some (.slice A0_0 l0_0.length c0_0) := (blk_cell BK101.out 0).trans rfl; have hfz5_0 := blk_frozen BK101.out 0) | ((with_reducible refine gate_dst (N := 14) rfl ?_); refine Kd.R_make (Kd.int .i64) _ 2 rfl (N := 14) rfl 22 _ _ rfl (l0_0.length : Int) rfl rfl Try.underlying22 (.int .i64 0) 8 info2 rfl (by decide) (by omega) 0 (ok := fun _ => True) (okp := fun _ => True) rfl (fun _ hk => hk) trivial (of_decide_eq_true (by first | (with_reducible assumption) | assumption)) (Nat.le_trans (Nat.mul_le_mul_right _ (of_decide_eq_true (by first | (with_reducible assumption) | assumption) : (l0_0.length : Int).toNat ≤ 35184372088832)) (by omega)) (Below.refl _ _) (yoy _) ?_; intro v103 w6 ho7 hb hg_ hnew_; clear hg_ hnew_; (first | rw [← Ny102.out] at ho7 | (simp only [Int.reduceToNat] at ho7; rw [← Ny102.out] at ho7)); have n0_ := Aside0.mk (Kd.R_lower ho7 (below_size (by repeat (first | (with_reducible first | exact HB.out | apply below_alloc | apply pw_below_drewN | apply below_drew1 | refine below_set ?_ GE101.out) | exact HB.out)))); have n1_ := Aside0.mk (blk_below (g := gb101) (o := .cells #[.slice A0_0 l0_0.length c0_0] 35 (0, 0)) (by (with_reducible repeat (first | refine blk_drewN ?_ _ | refine blk_drew ?_ | refine blk_alloc ?_ _)); exact BK101.out) hb); have n2_ := Aside0.mk (below_step (by repeat (first | (with_reducible first | exact HB.out | apply below_alloc | apply pw_below_drewN | apply below_drew1 | refine below_set ?_ GE101.out) | exact HB.out)) hb); clear BK101; clear HB; have HO104 := n0_; have BK101 := n1_; have HB := n2_; clear n0_ n1_ n2_; clear hb ho7))
 repeat (go_quiet (first | ((with_reducible refine gate_dst (N := 1) rfl ?_); refine box_event ?hg (N := 1) ?hd (cs := #[.slice A0_0 l0_0.length c0_0]) (t := 35) ?hr ?_; (case hd => rfl); (case hg => rfl); (case hr => first | (go_simp; done) | (go_simp; rfl)); intro gb101 hg w4 hbox hb; have n0_ := Aside0.mk (below_step (by repeat (first | (with_reducible first | exact HB.out | apply below_alloc | apply pw_below_drewN | apply below_drew1) | exact HB.out)) hb); have n1_ := Aside0.mk (hbox); have n2_ := Aside0.mk ((by rw [hg]; exact (below_size (by repeat (first | (with_reducible first | exact HB.out | apply below_alloc | apply pw_below_drewN | apply below_drew1) | exact HB.out))) : w.heap.size ≤ gb101)); have n3_ := Aside0.mk ((by rw [hg]; exact (below_size (by repeat (first | (with_reducible first | exact HB.out | apply below_alloc | apply pw_below_drewN | apply below_drew1) | exact HB.out))) : w.heap.size ≤ gb101)); clear HB; have HB := n0_; have BK101 := n1_; have GW101 := n2_; have GE101 := n3_; clear n0_ n1_ n2_ n3_; clear hb hbox hg; have hcz5_0 : w4.cell? ⟨gb101, 0, none⟩ = some (.slice A0_0 l0_0.length c0_0) := (blk_cell BK101.out 0).trans rfl; have hfz5_0 := blk_frozen BK101.out 0) | ((with_reducible refine gate_dst (N := 14) rfl ?_); refine Kd.R_make (Kd.int .i64) _ 2 rfl (N := 14) rfl 22 _ _ rfl (l0_0.length : Int) rfl rfl Try.underlying22 (.int .i64 0) 8 info2 rfl (by decide) (by omega) 0 (ok := fun _ => True) (okp := fun _ => True) rfl (fun _ hk => hk) trivial (of_decide_eq_true (by first | (with_reducible assumption) | assumption)) (Nat.le_trans (Nat.mul_le_mul_right _ (of_decide_eq_true (by first | (with_reducible assumption) | assumption) : (l0_0.length : Int).toNat ≤ 35184372088832)) (by omega)) (Below.refl _ _) (yoy _) ?_; intro v103 w6 ho7 hb hg_ hnew_; clear hg_ hnew_; (first | rw [← Ny102.out] at ho7 | (simp only [Int.reduceToNat] at ho7; rw [← Ny102.out] at ho7)); have n0_ := Aside0.mk (Kd.R_lower ho7 (below_size (by repeat (first | (with_reducible first | exact HB.out | apply below_alloc | apply pw_below_drewN | apply below_drew1 | refine below_set ?_ GE101.out) | exact HB.out)))); have n1_ := Aside0.mk (blk_below (g := gb101) (o := .cells #[.slice A0_0 l0_0.length c0_0] 35 (0, 0)) (by (with_reducible repeat (first | refine blk_drewN ?_ _ | refine blk_drew ?_ | refine blk_alloc ?_ _)); exact BK101.out) hb); have n2_ := Aside0.mk (below_step (by repeat (first | (with_reducible first | exact HB.out | apply below_alloc | apply pw_below_drewN | apply below_drew1 | refine below_set ?_ GE101.out) | exact HB.out)) hb); clear BK101; clear HB; have HO104 := n0_; have BK101 := n1_; have HB := n2_; clear n0_ n1_ n2_; clear hb ho7)); try go_wp2_with (first | ((with_reducible refine gate_dst (N := 1) rfl ?_); refine box_event ?hg (N := 1) ?hd (cs := #[.slice A0_0 l0_0.length c0_0]) (t := 35) ?hr ?_; (case hd => rfl); (case hg => rfl); (case hr => first | (go_simp; done) | (go_simp; rfl)); intro gb101 hg w4 hbox hb; have n0_ := Aside0.mk (below_step (by repeat (first | (with_reducible first | exact HB.out | apply below_alloc | apply pw_below_drewN | apply below_drew1) | exact HB.out)) hb); have n1_ := Aside0.mk (hbox); have n2_ := Aside0.mk ((by rw [hg]; exact (below_size (by repeat (first | (with_reducible first | exact HB.out | apply below_alloc | apply pw_below_drewN | apply below_drew1) | exact HB.out))) : w.heap.size ≤ gb101)); have n3_ := Aside0.mk ((by rw [hg]; exact (below_size (by repeat (first | (with_reducible first | exact HB.out | apply below_alloc | apply pw_below_drewN | apply below_drew1) | exact HB.out))) : w.heap.size ≤ gb101)); clear HB; have HB := n0_; have BK101 := n1_; have GW101 := n2_; have GE101 := n3_; clear n0_ n1_ n2_ n3_; clear hb hbox hg; have hcz5_0 : w4.cell? ⟨gb101, 0, none⟩ = some (.slice A0_0 l0_0.length c0_0) := (blk_cell BK101.out 0).trans rfl; have hfz5_0 := blk_frozen BK101.out 0) | ((with_reducible refine gate_dst (N := 14) rfl ?_); refine Kd.R_make (Kd.int .i64) _ 2 rfl (N := 14) rfl 22 _ _ rfl (l0_0.length : Int) rfl rfl Try.underlying22 (.int .i64 0) 8 info2 rfl (by decide) (by omega) 0 (ok := fun _ => True) (okp := fun _ => True) rfl (fun _ hk => hk) trivial (of_decide_eq_true (by first | (with_reducible assumption) | assumption)) (Nat.le_trans (Nat.mul_le_mul_right _ (of_decide_eq_true (by first | (with_reducible assumption) | assumption) : (l0_0.length : Int).toNat ≤ 35184372088832)) (by omega)) (Below.refl _ _) (yoy _) ?_; intro v103 w6 ho7 hb hg_ hnew_; clear hg_ hnew_; (first | rw [← Ny102.out] at ho7 | (simp only [Int.reduceToNat] at ho7; rw [← Ny102.out] at ho7)); have n0_ := Aside0.mk (Kd.R_lower ho7 (below_size (by repeat (first | (with_reducible first | exact HB.out | apply below_alloc | apply pw_below_drewN | apply below_drew1 | refine below_set ?_ GE101.out) | exact HB.out)))); have n1_ := Aside0.mk (blk_below (g := gb101) (o := .cells #[.slice A0_0 l0_0.length c0_0] 35 (0, 0)) (by (with_reducible repeat (first | refine blk_drewN ?_ _ | refine blk_drew ?_ | refine blk_alloc ?_ _)); exact BK101.out) hb); have n2_ := Aside0.mk (below_step (by repeat (first | (with_reducible first | exact HB.out | apply below_alloc | apply pw_below_drewN | apply below_drew1 | refine below_set ?_ GE101.out) | exact HB.out)) hb); clear BK101; clear HB; have HO104 := n0_; have BK101 := n1_; have HB := n2_; clear n0_ n1_ n2_; clear hb ho7)))
 go_loopg [4] k (fun kq v4 w' => ∃ (x3_1 : List Int) (x4_1 : Int), v4 = .int .i64 x4_1 ∧ Aside0 (spec_l07Parts.l0 kq x3_1 x4_1 l0_0 = some r) ∧ Aside0 (kq ≤ k) ∧ Aside0 (Kd.R (Kd.int .i64) 2 w' w.heap.size (fun _ => True) v103 x3_1) ∧ Aside0 (w'.heap[gb101]? = some (.cells #[(.slice A0_0 l0_0.length c0_0)] 35 (0, 0))) ∧ Aside0 (Below w.heap.size w w'))
 case atStart => exact ⟨(y102), (0), (by first | rfl | (simp; done) | (simp [*]; done)), H', ⟨yoy _⟩, ⟨by (with_reducible repeat (first | apply Kd.R_alloc | apply Kd.R_drewN | apply Kd.R_drew)); exact HO104.out⟩, ⟨by (with_reducible repeat (first | refine blk_drewN ?_ _ | refine blk_drew ?_ | refine blk_alloc ?_ _)); exact BK101.out⟩, ⟨by repeat (first | (with_reducible first | exact HB.out | apply below_alloc | apply pw_below_drewN | apply below_drew1 | refine below_set ?_ GE101.out) | exact HB.out)⟩⟩
 case round =>
  clear H'
  try clear c2
  try clear c2b0
  try clear c2b1
  try clear p2
  try clear c3
  try clear c3b0
  try clear c3b1
  try clear c6
  try clear hcz5_0
  try clear hfz5_0
  obtain ⟨x3_1, x4_1, rfl, HA, HK1, HO_3, BK101, HB⟩ := hrel
  cases gk with
  | zero => exact absurd HA.out (by simp [spec_l07Parts.l0])
  | succ k1 =>
   have H := HA.out
   clear HA
   simp only [spec_l07Parts.l0] at H
   by_cases c8 : x4_1 < (x3_1.length : Int)
   next =>
    rw [if_pos c8] at H
    have c8b0 : decide (x4_1 < (x3_1.length : Int)) = true := ygy c8
    clear c8
    by_cases c9 : 0 ≤ x4_1
    rotate_left
    next =>
     rw [if_neg c9] at H
     exact absurd H (by simp)
    rw [if_pos c9] at H
    have c9b0 : decide (0 ≤ x4_1) = true := ygy c9
    clear c9
    obtain ⟨y105, hy105⟩ : ∃ y_ : List Int, y_ = (x3_1.set (x4_1 : Int).toNat (-1)) := ⟨_, rfl⟩
    replace H : (spec_l07Parts.l0 k1 y105 (wrap64 (x4_1 + 1)) l0_0) = some r := by first | (rw [hy105]; with_reducible exact H) | (have H2_ := (yfy _ _).symm.trans H; rw [hy105]; with_reducible exact H2_) | (have H2_ := (yfy _ _).symm.trans H; with_reducible exact H2_) | with_reducible exact H | (rw [hy105]; exact H) | exact H
    have Ny105 := Aside0.mk hy105
    clear hy105
    have H' := Aside0.mk H
    clear H
    obtain ⟨Ao11, co11, eo11⟩ := Kd.R_slice HO_3.out
    subst eo11
    have p10 : 0 ≤ (x4_1 : Int) := of_decide_eq_true (by first | (with_reducible assumption) | assumption)
    have q10 : (x4_1 : Int) < ((x3_1.length : Int) : Int) := of_decide_eq_true (by first | (with_reducible assumption) | assumption)
    obtain ⟨go10, co10, eo10, gb10, gl10, cl10, HG10⟩ := Kd.R_form HO_3.out (by omega)
    (first | cases eo10 | (injection eo10 with ea_ en_ ec_; (first | subst ea_ | (injection ea_ with ea_; subst ea_)); subst ec_; clear en_))
    have GB10 := Aside0.mk gb10
    have GG10 := Aside0.mk HG10
    clear gb10 gl10 HG10
    obtain ⟨hx10_0, hf10_0⟩ := Kd.R_celln 0 HO_3.out (x4_1 : Int) p10 q10
    replace p10 := eq_true p10
    replace q10 := eq_true q10
    have HP12 := Kd.R_putg HO_3.out (x4_1 : Int) (-1)
    go_wp2_with (first | ((with_reducible refine gate_store (t := 2) (p := 23) rfl ?_); (try (rw [drewN_self wr]; generalize hq_ : World.drewN wr _ = wr; have n0_ := Aside0.mk (Kd.R_at hq_ HO_3.out); have n1_ := Aside0.mk (blk_at hq_ BK101.out); have n2_ := Aside0.mk (below_at hq_ HB.out); clear hq_ HO_3 BK101 HB; have HO_3 := n0_; have BK101 := n1_; have HB := n2_; clear n0_ n1_ n2_; (try (have HP12 := Kd.R_putg HO_3.out (x4_1 : Int) (-1); have hc_ := Kd.R_celln 0 HO_3.out (x4_1 : Int) (of_eq_true p10) (of_eq_true q10); have hx10_0 := hc_.1; have hf10_0 := hc_.2; clear hc_)))); refine store_event (t := 2) (p := 23) (v := ?vo_w13) (w1 := (wr.setCell ⟨go10, (x4_1 : Int).toNat, none⟩ (.int .i64 (-1)))) ?hg ?ho ?hn ?hr ?_; (case ho => rfl); (case hg => rfl); (case hn => rfl); (case hr => first | (go_simp; done) | (go_simp; rfl)); intro w13 hw; have hg : wr.grownBy w13 (some go10) := (by rw [hw]; exact HP12.2); have hp_ : Kd.R (Kd.int .i64) 2 w13 w.heap.size (fun _ => True) (.slice (some ⟨go10, 0, none⟩) x3_1.length co11) y105 := (by rw [hw, Ny105.out]; exact HP12.1); clear HP12; have n0_ := Aside0.mk (hp_); have n1_ := Aside0.mk (blk_grown (g := gb101) (o := .cells #[.slice A0_0 l0_0.length c0_0] 35 (0, 0)) (by (with_reducible repeat (first | refine blk_drewN ?_ _ | refine blk_drew ?_ | refine blk_alloc ?_ _)); exact BK101.out) hg (Kd.R_ne HO_3.out BK101.out (by decide))); have n2_ := Aside0.mk ((by rw [hw]; exact below_set (HB.out) GB10.out : Below w.heap.size w w13)); clear HO_3; clear BK101; clear HB; have HO_3 := n0_; have BK101 := n1_; have HB := n2_; clear n0_ n1_ n2_; clear hg hw hp_))
    repeat (go_quiet (first | ((with_reducible refine gate_store (t := 2) (p := 23) rfl ?_); (try (rw [drewN_self wr]; generalize hq_ : World.drewN wr _ = wr; have n0_ := Aside0.mk (Kd.R_at hq_ HO_3.out); have n1_ := Aside0.mk (blk_at hq_ BK101.out); have n2_ := Aside0.mk (below_at hq_ HB.out); clear hq_ HO_3 BK101 HB; have HO_3 := n0_; have BK101 := n1_; have HB := n2_; clear n0_ n1_ n2_; (try (have HP12 := Kd.R_putg HO_3.out (x4_1 : Int) (-1); have hc_ := Kd.R_celln 0 HO_3.out (x4_1 : Int) (of_eq_true p10) (of_eq_true q10); have hx10_0 := hc_.1; have hf10_0 := hc_.2; clear hc_)))); refine store_event (t := 2) (p := 23) (v := ?vo_w13) (w1 := (wr.setCell ⟨go10, (x4_1 : Int).toNat, none⟩ (.int .i64 (-1)))) ?hg ?ho ?hn ?hr ?_; (case ho => rfl); (case hg => rfl); (case hn => rfl); (case hr => first | (go_simp; done) | (go_simp; rfl)); intro w13 hw; have hg : wr.grownBy w13 (some go10) := (by rw [hw]; exact HP12.2); have hp_ : Kd.R (Kd.int .i64) 2 w13 w.heap.size (fun _ => True) (.slice (some ⟨go10, 0, none⟩) x3_1.length co11) y105 := (by rw [hw, Ny105.out]; exact HP12.1); clear HP12; have n0_ := Aside0.mk (hp_); have n1_ := Aside0.mk (blk_grown (g := gb101) (o := .cells #[.slice A0_0 l0_0.length c0_0] 35 (0, 0)) (by (with_reducible repeat (first | refine blk_drewN ?_ _ | refine blk_drew ?_ | refine blk_alloc ?_ _)); exact BK101.out) hg (Kd.R_ne HO_3.out BK101.out (by decide))); have n2_ := Aside0.mk ((by rw [hw]; exact below_set (HB.out) GB10.out : Below w.heap.size w w13)); clear HO_3; clear BK101; clear HB; have HO_3 := n0_; have BK101 := n1_; have HB := n2_; clear n0_ n1_ n2_; clear hg hw hp_)); try go_wp2_with (first | ((with_reducible refine gate_store (t := 2) (p := 23) rfl ?_); (try (rw [drewN_self wr]; generalize hq_ : World.drewN wr _ = wr; have n0_ := Aside0.mk (Kd.R_at hq_ HO_3.out); have n1_ := Aside0.mk (blk_at hq_ BK101.out); have n2_ := Aside0.mk (below_at hq_ HB.out); clear hq_ HO_3 BK101 HB; have HO_3 := n0_; have BK101 := n1_; have HB := n2_; clear n0_ n1_ n2_; (try (have HP12 := Kd.R_putg HO_3.out (x4_1 : Int) (-1); have hc_ := Kd.R_celln 0 HO_3.out (x4_1 : Int) (of_eq_true p10) (of_eq_true q10); have hx10_0 := hc_.1; have hf10_0 := hc_.2; clear hc_)))); refine store_event (t := 2) (p := 23) (v := ?vo_w13) (w1 := (wr.setCell ⟨go10, (x4_1 : Int).toNat, none⟩ (.int .i64 (-1)))) ?hg ?ho ?hn ?hr ?_; (case ho => rfl); (case hg => rfl); (case hn => rfl); (case hr => first | (go_simp; done) | (go_simp; rfl)); intro w13 hw; have hg : wr.grownBy w13 (some go10) := (by rw [hw]; exact HP12.2); have hp_ : Kd.R (Kd.int .i64) 2 w13 w.heap.size (fun _ => True) (.slice (some ⟨go10, 0, none⟩) x3_1.length co11) y105 := (by rw [hw, Ny105.out]; exact HP12.1); clear HP12; have n0_ := Aside0.mk (hp_); have n1_ := Aside0.mk (blk_grown (g := gb101) (o := .cells #[.slice A0_0 l0_0.length c0_0] 35 (0, 0)) (by (with_reducible repeat (first | refine blk_drewN ?_ _ | refine blk_drew ?_ | refine blk_alloc ?_ _)); exact BK101.out) hg (Kd.R_ne HO_3.out BK101.out (by decide))); have n2_ := Aside0.mk ((by rw [hw]; exact below_set (HB.out) GB10.out : Below w.heap.size w w13)); clear HO_3; clear BK101; clear HB; have HO_3 := n0_; have BK101 := n1_; have HB := n2_; clear n0_ n1_ n2_; clear hg hw hp_)))
    go_roundg k1
    case measure => have := HK1.out; omega
    case rel => exact ⟨(y105), (wrap64 (x4_1 + 1)), (by first | rfl | (simp; done) | (simp [*]; done)), H', ⟨by have := HK1.out; omega⟩, ⟨by (with_reducible repeat (first | apply Kd.R_alloc | apply Kd.R_drewN | apply Kd.R_drew)); exact HO_3.out⟩, ⟨by (with_reducible repeat (first | refine blk_drewN ?_ _ | refine blk_drew ?_ | refine blk_alloc ?_ _)); exact BK101.out⟩, ⟨by repeat (first | (with_reducible first | exact HB.out | apply below_alloc | apply pw_below_drewN | apply below_drew1 | refine below_set ?_ GE101.out) | exact HB.out)⟩⟩
   next =>
    rw [if_neg c8] at H
    have c8b0 : decide (x4_1 < (x3_1.length : Int)) = false := yhy c8
    clear c8
    have H' := Aside0.mk H
    clear H
    obtain ⟨Ao14, co14, eo14⟩ := Kd.R_slice HO_3.out
    subst eo14
    go_wp2
    repeat (go_quiet (fail); try go_wp2)
    go_loopg [5, 6] k1 (fun kq v5 v6 w' => ∃ (x3_2 : List Int) (x5_2 : Int) (x6_2 : Int), v5 = .int .i64 x5_2 ∧ v6 = .int .i64 x6_2 ∧ Aside0 (spec_l07Parts.l1 kq x3_2 x5_2 x6_2 l0_0 = some r) ∧ Aside0 (kq ≤ k1) ∧ Aside0 (Kd.R (Kd.int .i64) 2 w' w.heap.size (fun _ => True) (.slice Ao14 x3_1.length co14) x3_2) ∧ Aside0 (w'.heap[gb101]? = some (.cells #[(.slice A0_0 l0_0.length c0_0)] 35 (0, 0))) ∧ Aside0 (Below w.heap.size w w'))
    case atStart => exact ⟨(x3_1), (0), (0), (by first | rfl | (simp; done) | (simp [*]; done)), (by first | rfl | (simp; done) | (simp [*]; done)), H', ⟨yoy _⟩, ⟨by (with_reducible repeat (first | apply Kd.R_alloc | apply Kd.R_drewN | apply Kd.R_drew)); exact HO_3.out⟩, ⟨by (with_reducible repeat (first | refine blk_drewN ?_ _ | refine blk_drew ?_ | refine blk_alloc ?_ _)); exact BK101.out⟩, ⟨by repeat (first | (with_reducible first | exact HB.out | apply below_alloc | apply pw_below_drewN | apply below_drew1 | refine below_set ?_ GE101.out) | exact HB.out)⟩⟩
    case round =>
     clear H'
     try clear p1
     try clear q1
     try clear hx1
     try clear hf1
     try clear c2
     try clear c2b0
     try clear c2b1
     try clear p2
     try clear c3
     try clear c3b0
     try clear c3b1
     try clear c6
     try clear p6
     try clear c8
     try clear c8b0
     try clear c9
     try clear c9b0
     try clear p10
     try clear q10
     try clear hx10
     try clear hf10
     try clear hcz5_0
     try clear hfz5_0
     try clear hx10_0
     try clear p10
     try clear p2
     try clear q10
     obtain ⟨x3_2, x5_2, x6_2, rfl, rfl, HA, HK2, HO_3, BK101, HB⟩ := hrel
     have hl3_2 := (Kd.R_reads' HO_3.out).1
     rw [hl3_2] at HO_3
     (try simp only [hl3_2])
     (try simp only [hl3_2] at BK101)
     cases gk with
     | zero => exact absurd HA.out (by simp [spec_l07Parts.l1])
     | succ k2 =>
      have H := HA.out
      clear HA
      simp only [spec_l07Parts.l1] at H
      replace H := ydy.mp H
      obtain ⟨t106, A150, H⟩ := H
      replace H : (if x6_2 < t106 then (if 0 ≤ x6_2 then (if x6_2 < (x3_2.length : Int) then (if (rd x3_2 x6_2) ≥ 0 then (spec_l07Parts.l1 k2 x3_2 x5_2 (wrap64 (x6_2 + 1)) l0_0) else (spec_l07Parts.l2 k2 (x3_2.set (x6_2 : Int).toNat x5_2) x5_2 x6_2 (([x6_2] : List Int)) 0 l0_0)) else (none)) else (none)) else (some x3_2)) = some r := H
      have A15 := Aside0.mk A150
      clear A150
      by_cases c16 : x6_2 < t106
      rotate_left
      next =>
       rw [if_neg c16] at H
       have c16b0 : decide (x6_2 < t106) = false := yhy c16
       (try simp only [hl3_2] at c16b0)
       clear c16
       obtain rfl := yey H
       have hcz54_0 : wr.cell? ⟨gb101, 0, none⟩ = some (.slice A0_0 l0_0.length c0_0) := (blk_cell BK101.out 0).trans rfl
       have hfz54_0 := blk_frozen BK101.out 0
       go_wp2_with (first | (go_at_call 66; (with_reducible refine (spec_l07Tets.calls _ _ l0_0 t106 _ ?side1 ?side2 A15.out).mono ?_); (case side1 => repeat (first | exact (Kd.C_below HR0_0.out HB.out) | (with_reducible refine Kd.C_alloc ?_ _) | (with_reducible refine Kd.C_drewN ?_ _) | (with_reducible refine Kd.C_drew ?_))); (case side2 => exact HC0_0.out); rintro e w55 ⟨rfl, hb⟩; have n0_ := Aside0.mk (Kd.R_below (by (with_reducible repeat (first | apply Kd.R_alloc | apply Kd.R_drewN | apply Kd.R_drew)); exact HO_3.out) hb); have n1_ := Aside0.mk (blk_below (g := gb101) (o := .cells #[.slice A0_0 l0_0.length c0_0] 35 (0, 0)) (by (with_reducible repeat (first | refine blk_drewN ?_ _ | refine blk_drew ?_ | refine blk_alloc ?_ _)); exact BK101.out) hb); have n2_ := Aside0.mk (below_step (by repeat (first | (with_reducible first | exact HB.out | apply below_alloc | apply pw_below_drewN | apply below_drew1 | refine below_set ?_ GE101.out) | exact HB.out)) hb); clear HO_3; clear BK101; clear HB; have HO_3 := n0_; have BK101 := n1_; have HB := n2_; clear n0_ n1_ n2_; (try clear hb); (try clear hb2); (try clear hk); (try clear hi)))
       repeat (go_quiet (first | (go_at_call 66; (with_reducible refine (spec_l07Tets.calls _ _ l0_0 t106 _ ?side1 ?side2 A15.out).mono ?_); (case side1 => repeat (first | exact (Kd.C_below HR0_0.out HB.out) | (with_reducible refine Kd.C_alloc ?_ _) | (with_reducible refine Kd.C_drewN ?_ _) | (with_reducible refine Kd.C_drew ?_))); (case side2 => exact HC0_0.out); rintro e w55 ⟨rfl, hb⟩; have n0_ := Aside0.mk (Kd.R_below (by (with_reducible repeat (first | apply Kd.R_alloc | apply Kd.R_drewN | apply Kd.R_drew)); exact HO_3.out) hb); have n1_ := Aside0.mk (blk_below (g := gb101) (o := .cells #[.slice A0_0 l0_0.length c0_0] 35 (0, 0)) (by (with_reducible repeat (first | refine blk_drewN ?_ _ | refine blk_drew ?_ | refine blk_alloc ?_ _)); exact BK101.out) hb); have n2_ := Aside0.mk (below_step (by repeat (first | (with_reducible first | exact HB.out | apply below_alloc | apply pw_below_drewN | apply below_drew1 | refine below_set ?_ GE101.out) | exact HB.out)) hb); clear HO_3; clear BK101; clear HB; have HO_3 := n0_; have BK101 := n1_; have HB := n2_; clear n0_ n1_ n2_; (try clear hb); (try clear hb2); (try clear hk); (try clear hi))); try go_wp2_with (first | (go_at_call 66; (with_reducible refine (spec_l07Tets.calls _ _ l0_0 t106 _ ?side1 ?side2 A15.out).mono ?_); (case side1 => repeat (first | exact (Kd.C_below HR0_0.out HB.out) | (with_reducible refine Kd.C_alloc ?_ _) | (with_reducible refine Kd.C_drewN ?_ _) | (with_reducible refine Kd.C_drew ?_))); (case side2 => exact HC0_0.out); rintro e w55 ⟨rfl, hb⟩; have n0_ := Aside0.mk (Kd.R_below (by (with_reducible repeat (first | apply Kd.R_alloc | apply Kd.R_drewN | apply Kd.R_drew)); exact HO_3.out) hb); have n1_ := Aside0.mk (blk_below (g := gb101) (o := .cells #[.slice A0_0 l0_0.length c0_0] 35 (0, 0)) (by (with_reducible repeat (first | refine blk_drewN ?_ _ | refine blk_drew ?_ | refine blk_alloc ?_ _)); exact BK101.out) hb); have n2_ := Aside0.mk (below_step (by repeat (first | (with_reducible first | exact HB.out | apply below_alloc | apply pw_below_drewN | apply below_drew1 | refine below_set ?_ GE101.out) | exact HB.out)) hb); clear HO_3; clear BK101; clear HB; have HO_3 := n0_; have BK101 := n1_; have HB := n2_; clear n0_ n1_ n2_; (try clear hb); (try clear hb2); (try clear hk); (try clear hi))))
       go_ret
       exact ⟨_, by first | rfl | (simp [errW_none, errW_some] <;> rfl) | (simp [*, errW_none, errW_some] <;> rfl), by (with_reducible repeat (first | apply Kd.R_alloc | apply Kd.R_drewN | apply Kd.R_drew)); exact HO_3.out, by repeat (first | (with_reducible first | exact HB.out | apply below_alloc | apply pw_below_drewN | apply below_drew1 | refine below_set ?_ GE101.out) | exact HB.out)⟩
      rw [if_pos c16] at H
      have c16b0 : decide (x6_2 < t106) = true := ygy c16
      clear c16
      by_cases c17 : 0 ≤ x6_2
      rotate_left
      next =>
       rw [if_neg c17] at H
       exact absurd H (by simp)
      rw [if_pos c17] at H
      have c17b0 : decide (0 ≤ x6_2) = true := ygy c17
      clear c17
      by_cases c18 : x6_2 < (x3_2.length : Int)
      rotate_left
      next =>
       rw [if_neg c18] at H
       exact absurd H (by simp)
      rw [if_pos c18] at H
      have c18b0 : decide (x6_2 < (x3_2.length : Int)) = true := ygy c18
      clear c18
      by_cases c19 : (rd x3_2 x6_2) ≥ 0
      next =>
       rw [if_pos c19] at H
       have c19b0 : decide (0 ≤ (rd x3_2 x6_2)) = true := ygy c19
       clear c19
       have H' := Aside0.mk H
       clear H
       have hcz20_0 : wr.cell? ⟨gb101, 0, none⟩ = some (.slice A0_0 l0_0.length c0_0) := (blk_cell BK101.out 0).trans rfl
       have hfz20_0 := blk_frozen BK101.out 0
       go_wp2_with (first | (go_at_call 66; (with_reducible refine (spec_l07Tets.calls _ _ l0_0 t106 _ ?side1 ?side2 A15.out).mono ?_); (case side1 => repeat (first | exact (Kd.C_below HR0_0.out HB.out) | (with_reducible refine Kd.C_alloc ?_ _) | (with_reducible refine Kd.C_drewN ?_ _) | (with_reducible refine Kd.C_drew ?_))); (case side2 => exact HC0_0.out); rintro e w21 ⟨rfl, hb⟩; have n0_ := Aside0.mk (Kd.R_below (by (with_reducible repeat (first | apply Kd.R_alloc | apply Kd.R_drewN | apply Kd.R_drew)); exact HO_3.out) hb); have n1_ := Aside0.mk (blk_below (g := gb101) (o := .cells #[.slice A0_0 l0_0.length c0_0] 35 (0, 0)) (by (with_reducible repeat (first | refine blk_drewN ?_ _ | refine blk_drew ?_ | refine blk_alloc ?_ _)); exact BK101.out) hb); have n2_ := Aside0.mk (below_step (by repeat (first | (with_reducible first | exact HB.out | apply below_alloc | apply pw_below_drewN | apply below_drew1 | refine below_set ?_ GE101.out) | exact HB.out)) hb); clear HO_3; clear BK101; clear HB; have HO_3 := n0_; have BK101 := n1_; have HB := n2_; clear n0_ n1_ n2_; (try clear hb); (try clear hb2); (try clear hk); (try clear hi); have p107 : 0 ≤ (x6_2 : Int) := of_decide_eq_true (by first | (with_reducible assumption) | assumption); have q107 : x6_2 < (x3_2.length : Int) := of_decide_eq_true (by first | (with_reducible assumption) | assumption); obtain ⟨ad107, e107, hx107_0⟩ := Kd.at_int (Kd.R_reads' HO_3.out).2.2 x6_2 p107 q107; cases e107; replace p107 := eq_true p107; replace q107 := eq_true q107))
       repeat (go_quiet (first | (go_at_call 66; (with_reducible refine (spec_l07Tets.calls _ _ l0_0 t106 _ ?side1 ?side2 A15.out).mono ?_); (case side1 => repeat (first | exact (Kd.C_below HR0_0.out HB.out) | (with_reducible refine Kd.C_alloc ?_ _) | (with_reducible refine Kd.C_drewN ?_ _) | (with_reducible refine Kd.C_drew ?_))); (case side2 => exact HC0_0.out); rintro e w21 ⟨rfl, hb⟩; have n0_ := Aside0.mk (Kd.R_below (by (with_reducible repeat (first | apply Kd.R_alloc | apply Kd.R_drewN | apply Kd.R_drew)); exact HO_3.out) hb); have n1_ := Aside0.mk (blk_below (g := gb101) (o := .cells #[.slice A0_0 l0_0.length c0_0] 35 (0, 0)) (by (with_reducible repeat (first | refine blk_drewN ?_ _ | refine blk_drew ?_ | refine blk_alloc ?_ _)); exact BK101.out) hb); have n2_ := Aside0.mk (below_step (by repeat (first | (with_reducible first | exact HB.out | apply below_alloc | apply pw_below_drewN | apply below_drew1 | refine below_set ?_ GE101.out) | exact HB.out)) hb); clear HO_3; clear BK101; clear HB; have HO_3 := n0_; have BK101 := n1_; have HB := n2_; clear n0_ n1_ n2_; (try clear hb); (try clear hb2); (try clear hk); (try clear hi); have p107 : 0 ≤ (x6_2 : Int) := of_decide_eq_true (by first | (with_reducible assumption) | assumption); have q107 : x6_2 < (x3_2.length : Int) := of_decide_eq_true (by first | (with_reducible assumption) | assumption); obtain ⟨ad107, e107, hx107_0⟩ := Kd.at_int (Kd.R_reads' HO_3.out).2.2 x6_2 p107 q107; cases e107; replace p107 := eq_true p107; replace q107 := eq_true q107)); try go_wp2_with (first | (go_at_call 66; (with_reducible refine (spec_l07Tets.calls _ _ l0_0 t106 _ ?side1 ?side2 A15.out).mono ?_); (case side1 => repeat (first | exact (Kd.C_below HR0_0.out HB.out) | (with_reducible refine Kd.C_alloc ?_ _) | (with_reducible refine Kd.C_drewN ?_ _) | (with_reducible refine Kd.C_drew ?_))); (case side2 => exact HC0_0.out); rintro e w21 ⟨rfl, hb⟩; have n0_ := Aside0.mk (Kd.R_below (by (with_reducible repeat (first | apply Kd.R_alloc | apply Kd.R_drewN | apply Kd.R_drew)); exact HO_3.out) hb); have n1_ := Aside0.mk (blk_below (g := gb101) (o := .cells #[.slice A0_0 l0_0.length c0_0] 35 (0, 0)) (by (with_reducible repeat (first | refine blk_drewN ?_ _ | refine blk_drew ?_ | refine blk_alloc ?_ _)); exact BK101.out) hb); have n2_ := Aside0.mk (below_step (by repeat (first | (with_reducible first | exact HB.out | apply below_alloc | apply pw_below_drewN | apply below_drew1 | refine below_set ?_ GE101.out) | exact HB.out)) hb); clear HO_3; clear BK101; clear HB; have HO_3 := n0_; have BK101 := n1_; have HB := n2_; clear n0_ n1_ n2_; (try clear hb); (try clear hb2); (try clear hk); (try clear hi); have p107 : 0 ≤ (x6_2 : Int) := of_decide_eq_true (by first | (with_reducible assumption) | assumption); have q107 : x6_2 < (x3_2.length : Int) := of_decide_eq_true (by first | (with_reducible assumption) | assumption); obtain ⟨ad107, e107, hx107_0⟩ := Kd.at_int (Kd.R_reads' HO_3.out).2.2 x6_2 p107 q107; cases e107; replace p107 := eq_true p107; replace q107 := eq_true q107)))
       (try simp only [← hl3_2])
       go_roundg k2
       case measure => have := HK1.out; have := HK2.out; omega
       case rel => exact ⟨(x3_2), (x5_2), (wrap64 (x6_2 + 1)), (by first | rfl | (simp; done) | (simp [*]; done)), (by first | rfl | (simp; done) | (simp [*]; done)), H', ⟨by have := HK1.out; have := HK2.out; omega⟩, ⟨by (try simp only [hl3_2]); (with_reducible repeat (first | apply Kd.R_alloc | apply Kd.R_drewN | apply Kd.R_drew)); exact HO_3.out⟩, ⟨by (try simp only [hl3_2]); (with_reducible repeat (first | refine blk_drewN ?_ _ | refine blk_drew ?_ | refine blk_alloc ?_ _)); exact BK101.out⟩, ⟨by repeat (first | (with_reducible first | exact HB.out | apply below_alloc | apply pw_below_drewN | apply below_drew1 | refine below_set ?_ GE101.out) | exact HB.out)⟩⟩
      next =>
       rw [if_neg c19] at H
       have c19b0 : decide (0 ≤ (rd x3_2 x6_2)) = false := yhy c19
       (try simp only [hl3_2] at c19b0)
       clear c19
       obtain ⟨y108, hy108⟩ : ∃ y_ : List Int, y_ = (x3_2.set (x6_2 : Int).toNat x5_2) := ⟨_, rfl⟩
       replace H : (spec_l07Parts.l2 k2 y108 x5_2 x6_2 (([x6_2] : List Int)) 0 l0_0) = some r := by first | (rw [hy108]; with_reducible exact H) | (have H2_ := (yfy _ _).symm.trans H; rw [hy108]; with_reducible exact H2_) | (have H2_ := (yfy _ _).symm.trans H; with_reducible exact H2_) | with_reducible exact H | (rw [hy108]; exact H) | exact H
       have Ny108 := Aside0.mk hy108
       clear hy108
       obtain ⟨y109, hy109⟩ : ∃ y_ : List Int, y_ = (([x6_2] : List Int)) := ⟨_, rfl⟩
       replace H : (spec_l07Parts.l2 k2 y108 x5_2 x6_2 y109 0 l0_0) = some r := by first | (rw [hy109]; with_reducible exact H) | (have H2_ := (yfy _ _).symm.trans H; rw [hy109]; with_reducible exact H2_) | (have H2_ := (yfy _ _).symm.trans H; with_reducible exact H2_) | with_reducible exact H | (rw [hy109]; exact H) | exact H
       have Ny109 := Aside0.mk hy109
       clear hy109
       have H' := Aside0.mk H
       clear H
       have hcz23_0 : wr.cell? ⟨gb101, 0, none⟩ = some (.slice A0_0 l0_0.length c0_0) := (blk_cell BK101.out 0).trans rfl
       have hfz23_0 := blk_frozen BK101.out 0
       go_wp2_with (first | (go_at_call 66; (with_reducible refine (spec_l07Tets.calls _ _ l0_0 t106 _ ?side1 ?side2 A15.out).mono ?_); (case side1 => repeat (first | exact (Kd.C_below HR0_0.out HB.out) | (with_reducible refine Kd.C_alloc ?_ _) | (with_reducible refine Kd.C_drewN ?_ _) | (with_reducible refine Kd.C_drew ?_))); (case side2 => exact HC0_0.out); rintro e w24 ⟨rfl, hb⟩; have n0_ := Aside0.mk (Kd.R_below (by (with_reducible repeat (first | apply Kd.R_alloc | apply Kd.R_drewN | apply Kd.R_drew)); exact HO_3.out) hb); have n1_ := Aside0.mk (blk_below (g := gb101) (o := .cells #[.slice A0_0 l0_0.length c0_0] 35 (0, 0)) (by (with_reducible repeat (first | refine blk_drewN ?_ _ | refine blk_drew ?_ | refine blk_alloc ?_ _)); exact BK101.out) hb); have n2_ := Aside0.mk (below_step (by repeat (first | (with_reducible first | exact HB.out | apply below_alloc | apply pw_below_drewN | apply below_drew1 | refine below_set ?_ GE101.out) | exact HB.out)) hb); clear HO_3; clear BK101; clear HB; have HO_3 := n0_; have BK101 := n1_; have HB := n2_; clear n0_ n1_ n2_; (try clear hb); (try clear hb2); (try clear hk); (try clear hi); have p107 : 0 ≤ (x6_2 : Int) := of_decide_eq_true (by first | (with_reducible assumption) | assumption); have q107 : x6_2 < (x3_2.length : Int) := of_decide_eq_true (by first | (with_reducible assumption) | assumption); obtain ⟨ad107, e107, hx107_0⟩ := Kd.at_int (Kd.R_reads' HO_3.out).2.2 x6_2 p107 q107; cases e107; replace p107 := eq_true p107; replace q107 := eq_true q107; have p22 : 0 ≤ (x6_2 : Int) := of_decide_eq_true (by first | (with_reducible assumption) | assumption); have q22 : (x6_2 : Int) < ((x3_2.length : Int) : Int) := of_decide_eq_true (by first | (with_reducible assumption) | assumption); obtain ⟨go22, co22, eo22, gb22, gl22, cl22, HG22⟩ := Kd.R_form HO_3.out (by omega); (first | cases eo22 | (injection eo22 with ea_ en_ ec_; (first | subst ea_ | (injection ea_ with ea_; subst ea_)); subst ec_; clear en_)); have GB22 := Aside0.mk gb22; have GG22 := Aside0.mk HG22; clear gb22 gl22 HG22; (first | simp only [add_plain] at hx107_0 | skip); obtain ⟨hx22_0, hf22_0⟩ := Kd.R_celln 0 HO_3.out (x6_2 : Int) p22 q22; replace p22 := eq_true p22; replace q22 := eq_true q22; obtain ⟨hy25_, hz25_⟩ := Kd.R_celln 0 HO_3.out (x6_2 : Int) (of_decide_eq_true (by first | (with_reducible assumption) | assumption)) (of_decide_eq_true (by first | (with_reducible assumption) | assumption)); have HP25 := Kd.R_putg HO_3.out (x6_2 : Int) x5_2) | ((with_reducible refine gate_store (t := 2) (p := 38) rfl ?_); (try (rw [drewN_self w24]; generalize hq_ : World.drewN w24 _ = w24; have n0_ := Aside0.mk (Kd.R_at hq_ HO_3.out); have n1_ := Aside0.mk (blk_at hq_ BK101.out); have n2_ := Aside0.mk (below_at hq_ HB.out); clear hq_ HO_3 BK101 HB; have HO_3 := n0_; have BK101 := n1_; have HB := n2_; clear n0_ n1_ n2_; (try (obtain ⟨hy25_, hz25_⟩ := Kd.R_celln 0 HO_3.out (x6_2 : Int) (of_decide_eq_true (by first | (with_reducible assumption) | assumption)) (of_decide_eq_true (by first | (with_reducible assumption) | assumption)))); (try (have HP25 := Kd.R_putg HO_3.out (x6_2 : Int) x5_2; have hc_ := Kd.R_celln 0 HO_3.out (x4_1 : Int) (of_eq_true p10) (of_eq_true q10); have hx10_0 := hc_.1; have hf10_0 := hc_.2; clear hc_)))); refine store_event (t := 2) (p := 38) (v := ?vo_w26) (w1 := (w24.setCell ⟨go22, (x6_2 : Int).toNat, none⟩ (.int .i64 x5_2))) ?hg ?ho ?hn ?hr ?_; (case ho => rfl); (case hg => rfl); (case hn => rfl); (case hr => first | (go_simp; done) | (go_simp; rfl)); intro w26 hw; have hg : w24.grownBy w26 (some go22) := (by rw [hw]; exact HP25.2); have hp_ : Kd.R (Kd.int .i64) 2 w26 w.heap.size (fun _ => True) (.slice (some ⟨go22, 0, none⟩) x3_2.length co14) y108 := (by rw [hw, Ny108.out]; exact HP25.1); clear HP25; have n0_ := Aside0.mk (hp_); have n1_ := Aside0.mk (blk_grown (g := gb101) (o := .cells #[.slice A0_0 l0_0.length c0_0] 35 (0, 0)) (by (with_reducible repeat (first | refine blk_drewN ?_ _ | refine blk_drew ?_ | refine blk_alloc ?_ _)); exact BK101.out) hg (Kd.R_ne HO_3.out BK101.out (by decide))); have n2_ := Aside0.mk ((by rw [hw]; exact below_set (HB.out) GB22.out : Below w.heap.size w w26)); clear HO_3; clear BK101; clear HB; have HO_3 := n0_; have BK101 := n1_; have HB := n2_; clear n0_ n1_ n2_; clear hg hw hp_) | ((with_reducible refine gate_dst (N := 40) rfl ?_); refine Kd.R_lit (Kd.int .i64) _ 2 ?hg (N := 40) ?hd (xs := ([x6_2] : List Int)) (inner := [.int .i64 x6_2]) (ok := fun _ => True) (okp := fun _ => True) ?hr ?hp (fun _ hk => hk) trivial (Below.refl _ _) (yoy _) (by simp) ?_; (case hd => rfl); (case hg => rfl); (case hr => first | (go_simp; done) | (go_simp; rfl)); (case hp => exact (Reps.one (show Kd.M (Kd.int .i64) _ _ _ x6_2 [.int .i64 x6_2] from rfl) (Reps.none _ _))); intro v110 w27 ho28 hb hg_ hnew_; clear hg_ hnew_; (first | rw [← Ny109.out] at ho28 | (simp only [Int.reduceToNat] at ho28; rw [← Ny109.out] at ho28)); have n0_ := Aside0.mk (Kd.R_elder' (by (with_reducible repeat (first | apply Kd.R_alloc | apply Kd.R_drewN | apply Kd.R_drew)); exact HO_3.out) (Kd.R_base ho28) hb); have n1_ := Aside0.mk (Kd.R_lower (Kd.R_new' ho28 (Kd.R_lt (by (with_reducible repeat (first | apply Kd.R_alloc | apply Kd.R_drewN | apply Kd.R_drew)); exact HO_3.out))) (below_size (by repeat (first | (with_reducible first | exact HB.out | apply below_alloc | apply pw_below_drewN | apply below_drew1 | refine below_set ?_ GE101.out) | exact HB.out)))); have n2_ := Aside0.mk (blk_below (g := gb101) (o := .cells #[.slice A0_0 l0_0.length c0_0] 35 (0, 0)) (by (with_reducible repeat (first | refine blk_drewN ?_ _ | refine blk_drew ?_ | refine blk_alloc ?_ _)); exact BK101.out) hb); have n3_ := Aside0.mk (below_step (by repeat (first | (with_reducible first | exact HB.out | apply below_alloc | apply pw_below_drewN | apply below_drew1 | refine below_set ?_ GE101.out) | exact HB.out)) hb); clear HO_3; clear BK101; clear HB; have HO_3 := n0_; have HO111 := n1_; have BK101 := n2_; have HB := n3_; clear n0_ n1_ n2_ n3_; clear hb ho28))
       repeat (go_quiet (first | (go_at_call 66; (with_reducible refine (spec_l07Tets.calls _ _ l0_0 t106 _ ?side1 ?side2 A15.out).mono ?_); (case side1 => repeat (first | exact (Kd.C_below HR0_0.out HB.out) | (with_reducible refine Kd.C_alloc ?_ _) | (with_reducible refine Kd.C_drewN ?_ _) | (with_reducible refine Kd.C_drew ?_))); (case side2 => exact HC0_0.out); rintro e w24 ⟨rfl, hb⟩; have n0_ := Aside0.mk (Kd.R_below (by (with_reducible repeat (first | apply Kd.R_alloc | apply Kd.R_drewN | apply Kd.R_drew)); exact HO_3.out) hb); have n1_ := Aside0.mk (blk_below (g := gb101) (o := .cells #[.slice A0_0 l0_0.length c0_0] 35 (0, 0)) (by (with_reducible repeat (first | refine blk_drewN ?_ _ | refine blk_drew ?_ | refine blk_alloc ?_ _)); exact BK101.out) hb); have n2_ := Aside0.mk (below_step (by repeat (first | (with_reducible first | exact HB.out | apply below_alloc | apply pw_below_drewN | apply below_drew1 | refine below_set ?_ GE101.out) | exact HB.out)) hb); clear HO_3; clear BK101; clear HB; have HO_3 := n0_; have BK101 := n1_; have HB := n2_; clear n0_ n1_ n2_; (try clear hb); (try clear hb2); (try clear hk); (try clear hi); have p107 : 0 ≤ (x6_2 : Int) := of_decide_eq_true (by first | (with_reducible assumption) | assumption); have q107 : x6_2 < (x3_2.length : Int) := of_decide_eq_true (by first | (with_reducible assumption) | assumption); obtain ⟨ad107, e107, hx107_0⟩ := Kd.at_int (Kd.R_reads' HO_3.out).2.2 x6_2 p107 q107; cases e107; replace p107 := eq_true p107; replace q107 := eq_true q107; have p22 : 0 ≤ (x6_2 : Int) := of_decide_eq_true (by first | (with_reducible assumption) | assumption); have q22 : (x6_2 : Int) < ((x3_2.length : Int) : Int) := of_decide_eq_true (by first | (with_reducible assumption) | assumption); obtain ⟨go22, co22, eo22, gb22, gl22, cl22, HG22⟩ := Kd.R_form HO_3.out (by omega); (first | cases eo22 | (injection eo22 with ea_ en_ ec_; (first | subst ea_ | (injection ea_ with ea_; subst ea_)); subst ec_; clear en_)); have GB22 := Aside0.mk gb22; have GG22 := Aside0.mk HG22; clear gb22 gl22 HG22; (first | simp only [add_plain] at hx107_0 | skip); obtain ⟨hx22_0, hf22_0⟩ := Kd.R_celln 0 HO_3.out (x6_2 : Int) p22 q22; replace p22 := eq_true p22; replace q22 := eq_true q22; obtain ⟨hy25_, hz25_⟩ := Kd.R_celln 0 HO_3.out (x6_2 : Int) (of_decide_eq_true (by first | (with_reducible assumption) | assumption)) (of_decide_eq_true (by first | (with_reducible assumption) | assumption)); have HP25 := Kd.R_putg HO_3.out (x6_2 : Int) x5_2) | ((with_reducible refine gate_store (t := 2) (p := 38) rfl ?_); (try (rw [drewN_self w24]; generalize hq_ : World.drewN w24 _ = w24; have n0_ := Aside0.mk (Kd.R_at hq_ HO_3.out); have n1_ := Aside0.mk (blk_at hq_ BK101.out); have n2_ := Aside0.mk (below_at hq_ HB.out); clear hq_ HO_3 BK101 HB; have HO_3 := n0_; have BK101 := n1_; have HB := n2_; clear n0_ n1_ n2_; (try (obtain ⟨hy25_, hz25_⟩ := Kd.R_celln 0 HO_3.out (x6_2 : Int) (of_decide_eq_true (by first | (with_reducible assumption) | assumption)) (of_decide_eq_true (by first | (with_reducible assumption) | assumption)))); (try (have HP25 := Kd.R_putg HO_3.out (x6_2 : Int) x5_2; have hc_ := Kd.R_celln 0 HO_3.out (x4_1 : Int) (of_eq_true p10) (of_eq_true q10); have hx10_0 := hc_.1; have hf10_0 := hc_.2; clear hc_)))); refine store_event (t := 2) (p := 38) (v := ?vo_w26) (w1 := (w24.setCell ⟨go22, (x6_2 : Int).toNat, none⟩ (.int .i64 x5_2))) ?hg ?ho ?hn ?hr ?_; (case ho => rfl); (case hg => rfl); (case hn => rfl); (case hr => first | (go_simp; done) | (go_simp; rfl)); intro w26 hw; have hg : w24.grownBy w26 (some go22) := (by rw [hw]; exact HP25.2); have hp_ : Kd.R (Kd.int .i64) 2 w26 w.heap.size (fun _ => True) (.slice (some ⟨go22, 0, none⟩) x3_2.length co14) y108 := (by rw [hw, Ny108.out]; exact HP25.1); clear HP25; have n0_ := Aside0.mk (hp_); have n1_ := Aside0.mk (blk_grown (g := gb101) (o := .cells #[.slice A0_0 l0_0.length c0_0] 35 (0, 0)) (by (with_reducible repeat (first | refine blk_drewN ?_ _ | refine blk_drew ?_ | refine blk_alloc ?_ _)); exact BK101.out) hg (Kd.R_ne HO_3.out BK101.out (by decide))); have n2_ := Aside0.mk ((by rw [hw]; exact below_set (HB.out) GB22.out : Below w.heap.size w w26)); clear HO_3; clear BK101; clear HB; have HO_3 := n0_; have BK101 := n1_; have HB := n2_; clear n0_ n1_ n2_; clear hg hw hp_) | ((with_reducible refine gate_dst (N := 40) rfl ?_); refine Kd.R_lit (Kd.int .i64) _ 2 ?hg (N := 40) ?hd (xs := ([x6_2] : List Int)) (inner := [.int .i64 x6_2]) (ok := fun _ => True) (okp := fun _ => True) ?hr ?hp (fun _ hk => hk) trivial (Below.refl _ _) (yoy _) (by simp) ?_; (case hd => rfl); (case hg => rfl); (case hr => first | (go_simp; done) | (go_simp; rfl)); (case hp => exact (Reps.one (show Kd.M (Kd.int .i64) _ _ _ x6_2 [.int .i64 x6_2] from rfl) (Reps.none _ _))); intro v110 w27 ho28 hb hg_ hnew_; clear hg_ hnew_; (first | rw [← Ny109.out] at ho28 | (simp only [Int.reduceToNat] at ho28; rw [← Ny109.out] at ho28)); have n0_ := Aside0.mk (Kd.R_elder' (by (with_reducible repeat (first | apply Kd.R_alloc | apply Kd.R_drewN | apply Kd.R_drew)); exact HO_3.out) (Kd.R_base ho28) hb); have n1_ := Aside0.mk (Kd.R_lower (Kd.R_new' ho28 (Kd.R_lt (by (with_reducible repeat (first | apply Kd.R_alloc | apply Kd.R_drewN | apply Kd.R_drew)); exact HO_3.out))) (below_size (by repeat (first | (with_reducible first | exact HB.out | apply below_alloc | apply pw_below_drewN | apply below_drew1 | refine below_set ?_ GE101.out) | exact HB.out)))); have n2_ := Aside0.mk (blk_below (g := gb101) (o := .cells #[.slice A0_0 l0_0.length c0_0] 35 (0, 0)) (by (with_reducible repeat (first | refine blk_drewN ?_ _ | refine blk_drew ?_ | refine blk_alloc ?_ _)); exact BK101.out) hb); have n3_ := Aside0.mk (below_step (by repeat (first | (with_reducible first | exact HB.out | apply below_alloc | apply pw_below_drewN | apply below_drew1 | refine below_set ?_ GE101.out) | exact HB.out)) hb); clear HO_3; clear BK101; clear HB; have HO_3 := n0_; have HO111 := n1_; have BK101 := n2_; have HB := n3_; clear n0_ n1_ n2_ n3_; clear hb ho28)); try go_wp2_with (first | (go_at_call 66; (with_reducible refine (spec_l07Tets.calls _ _ l0_0 t106 _ ?side1 ?side2 A15.out).mono ?_); (case side1 => repeat (first | exact (Kd.C_below HR0_0.out HB.out) | (with_reducible refine Kd.C_alloc ?_ _) | (with_reducible refine Kd.C_drewN ?_ _) | (with_reducible refine Kd.C_drew ?_))); (case side2 => exact HC0_0.out); rintro e w24 ⟨rfl, hb⟩; have n0_ := Aside0.mk (Kd.R_below (by (with_reducible repeat (first | apply Kd.R_alloc | apply Kd.R_drewN | apply Kd.R_drew)); exact HO_3.out) hb); have n1_ := Aside0.mk (blk_below (g := gb101) (o := .cells #[.slice A0_0 l0_0.length c0_0] 35 (0, 0)) (by (with_reducible repeat (first | refine blk_drewN ?_ _ | refine blk_drew ?_ | refine blk_alloc ?_ _)); exact BK101.out) hb); have n2_ := Aside0.mk (below_step (by repeat (first | (with_reducible first | exact HB.out | apply below_alloc | apply pw_below_drewN | apply below_drew1 | refine below_set ?_ GE101.out) | exact HB.out)) hb); clear HO_3; clear BK101; clear HB; have HO_3 := n0_; have BK101 := n1_; have HB := n2_; clear n0_ n1_ n2_; (try clear hb); (try clear hb2); (try clear hk); (try clear hi); have p107 : 0 ≤ (x6_2 : Int) := of_decide_eq_true (by first | (with_reducible assumption) | assumption); have q107 : x6_2 < (x3_2.length : Int) := of_decide_eq_true (by first | (with_reducible assumption) | assumption); obtain ⟨ad107, e107, hx107_0⟩ := Kd.at_int (Kd.R_reads' HO_3.out).2.2 x6_2 p107 q107; cases e107; replace p107 := eq_true p107; replace q107 := eq_true q107; have p22 : 0 ≤ (x6_2 : Int) := of_decide_eq_true (by first | (with_reducible assumption) | assumption); have q22 : (x6_2 : Int) < ((x3_2.length : Int) : Int) := of_decide_eq_true (by first | (with_reducible assumption) | assumption); obtain ⟨go22, co22, eo22, gb22, gl22, cl22, HG22⟩ := Kd.R_form HO_3.out (by omega); (first | cases eo22 | (injection eo22 with ea_ en_ ec_; (first | subst ea_ | (injection ea_ with ea_; subst ea_)); subst ec_; clear en_)); have GB22 := Aside0.mk gb22; have GG22 := Aside0.mk HG22; clear gb22 gl22 HG22; (first | simp only [add_plain] at hx107_0 | skip); obtain ⟨hx22_0, hf22_0⟩ := Kd.R_celln 0 HO_3.out (x6_2 : Int) p22 q22; replace p22 := eq_true p22; replace q22 := eq_true q22; obtain ⟨hy25_, hz25_⟩ := Kd.R_celln 0 HO_3.out (x6_2 : Int) (of_decide_eq_true (by first | (with_reducible assumption) | assumption)) (of_decide_eq_true (by first | (with_reducible assumption) | assumption)); have HP25 := Kd.R_putg HO_3.out (x6_2 : Int) x5_2) | ((with_reducible refine gate_store (t := 2) (p := 38) rfl ?_); (try (rw [drewN_self w24]; generalize hq_ : World.drewN w24 _ = w24; have n0_ := Aside0.mk (Kd.R_at hq_ HO_3.out); have n1_ := Aside0.mk (blk_at hq_ BK101.out); have n2_ := Aside0.mk (below_at hq_ HB.out); clear hq_ HO_3 BK101 HB; have HO_3 := n0_; have BK101 := n1_; have HB := n2_; clear n0_ n1_ n2_; (try (obtain ⟨hy25_, hz25_⟩ := Kd.R_celln 0 HO_3.out (x6_2 : Int) (of_decide_eq_true (by first | (with_reducible assumption) | assumption)) (of_decide_eq_true (by first | (with_reducible assumption) | assumption)))); (try (have HP25 := Kd.R_putg HO_3.out (x6_2 : Int) x5_2; have hc_ := Kd.R_celln 0 HO_3.out (x4_1 : Int) (of_eq_true p10) (of_eq_true q10); have hx10_0 := hc_.1; have hf10_0 := hc_.2; clear hc_)))); refine store_event (t := 2) (p := 38) (v := ?vo_w26) (w1 := (w24.setCell ⟨go22, (x6_2 : Int).toNat, none⟩ (.int .i64 x5_2))) ?hg ?ho ?hn ?hr ?_; (case ho => rfl); (case hg => rfl); (case hn => rfl); (case hr => first | (go_simp; done) | (go_simp; rfl)); intro w26 hw; have hg : w24.grownBy w26 (some go22) := (by rw [hw]; exact HP25.2); have hp_ : Kd.R (Kd.int .i64) 2 w26 w.heap.size (fun _ => True) (.slice (some ⟨go22, 0, none⟩) x3_2.length co14) y108 := (by rw [hw, Ny108.out]; exact HP25.1); clear HP25; have n0_ := Aside0.mk (hp_); have n1_ := Aside0.mk (blk_grown (g := gb101) (o := .cells #[.slice A0_0 l0_0.length c0_0] 35 (0, 0)) (by (with_reducible repeat (first | refine blk_drewN ?_ _ | refine blk_drew ?_ | refine blk_alloc ?_ _)); exact BK101.out) hg (Kd.R_ne HO_3.out BK101.out (by decide))); have n2_ := Aside0.mk ((by rw [hw]; exact below_set (HB.out) GB22.out : Below w.heap.size w w26)); clear HO_3; clear BK101; clear HB; have HO_3 := n0_; have BK101 := n1_; have HB := n2_; clear n0_ n1_ n2_; clear hg hw hp_) | ((with_reducible refine gate_dst (N := 40) rfl ?_); refine Kd.R_lit (Kd.int .i64) _ 2 ?hg (N := 40) ?hd (xs := ([x6_2] : List Int)) (inner := [.int .i64 x6_2]) (ok := fun _ => True) (okp := fun _ => True) ?hr ?hp (fun _ hk => hk) trivial (Below.refl _ _) (yoy _) (by simp) ?_; (case hd => rfl); (case hg => rfl); (case hr => first | (go_simp; done) | (go_simp; rfl)); (case hp => exact (Reps.one (show Kd.M (Kd.int .i64) _ _ _ x6_2 [.int .i64 x6_2] from rfl) (Reps.none _ _))); intro v110 w27 ho28 hb hg_ hnew_; clear hg_ hnew_; (first | rw [← Ny109.out] at ho28 | (simp only [Int.reduceToNat] at ho28; rw [← Ny109.out] at ho28)); have n0_ := Aside0.mk (Kd.R_elder' (by (with_reducible repeat (first | apply Kd.R_alloc | apply Kd.R_drewN | apply Kd.R_drew)); exact HO_3.out) (Kd.R_base ho28) hb); have n1_ := Aside0.mk (Kd.R_lower (Kd.R_new' ho28 (Kd.R_lt (by (with_reducible repeat (first | apply Kd.R_alloc | apply Kd.R_drewN | apply Kd.R_drew)); exact HO_3.out))) (below_size (by repeat (first | (with_reducible first | exact HB.out | apply below_alloc | apply pw_below_drewN | apply below_drew1 | refine below_set ?_ GE101.out) | exact HB.out)))); have n2_ := Aside0.mk (blk_below (g := gb101) (o := .cells #[.slice A0_0 l0_0.length c0_0] 35 (0, 0)) (by (with_reducible repeat (first | refine blk_drewN ?_ _ | refine blk_drew ?_ | refine blk_alloc ?_ _)); exact BK101.out) hb); have n3_ := Aside0.mk (below_step (by repeat (first | (with_reducible first | exact HB.out | apply below_alloc | apply pw_below_drewN | apply below_drew1 | refine below_set ?_ GE101.out) | exact HB.out)) hb); clear HO_3; clear BK101; clear HB; have HO_3 := n0_; have HO111 := n1_; have BK101 := n2_; have HB := n3_; clear n0_ n1_ n2_ n3_; clear hb ho28)))
       go_loopg [7, 8] k2 (fun kq v7 v8 w' => ∃ (x3_3 : List Int) (x7_3 : List Int) (x8_3 : Int), v8 = .int .i64 x8_3 ∧ Aside0 (spec_l07Parts.l2 kq x3_3 x5_2 x6_2 x7_3 x8_3 l0_0 = some r) ∧ Aside0 (kq ≤ k2) ∧ Aside0 (Kd.R (Kd.int .i64) 2 w' w.heap.size (fun k_ => some k_ ≠ (v7 : Value).ownBlock) (.slice (some ⟨go22, 0, none⟩) x3_2.length co14) x3_3) ∧ Aside0 (Kd.R (Kd.int .i64) 2 w' w.heap.size (fun k_ => some k_ ≠ ((.slice (some ⟨go22, 0, none⟩) x3_2.length co14) : Value).ownBlock) v7 x7_3) ∧ Aside0 (w'.heap[gb101]? = some (.cells #[(.slice A0_0 l0_0.length c0_0)] 35 (0, 0))) ∧ Aside0 (Below w.heap.size w w'))
       case atStart => exact ⟨(y108), (y109), (0), (by first | rfl | (simp; done) | (simp [*]; done)), H', ⟨yoy _⟩, ⟨by (try simp only [hl3_2]); (with_reducible repeat (first | apply Kd.R_alloc | apply Kd.R_drewN | apply Kd.R_drew)); exact Kd.R_mono HO_3.out (fun _ hk => hk.2)⟩, ⟨by (try simp only [hl3_2]); (with_reducible repeat (first | apply Kd.R_alloc | apply Kd.R_drewN | apply Kd.R_drew)); exact Kd.R_mono HO111.out (fun _ hk => hk.2)⟩, ⟨by (try simp only [hl3_2]); (with_reducible repeat (first | refine blk_drewN ?_ _ | refine blk_drew ?_ | refine blk_alloc ?_ _)); exact BK101.out⟩, ⟨by repeat (first | (with_reducible first | exact HB.out | apply below_alloc | apply pw_below_drewN | apply below_drew1 | refine below_set ?_ GE101.out) | exact HB.out)⟩⟩
       case round =>
        clear H'
        try clear c1
        try clear p1
        try clear q1
        try clear hx1
        try clear hf1
        try clear c2
        try clear c2b0
        try clear c2b1
        try clear p2
        try clear q2
        try clear hx2
        try clear hf2
        try clear c3
        try clear c3b0
        try clear c3b1
        try clear c6
        try clear p6
        try clear c8
        try clear c8b0
        try clear c9
        try clear c9b0
        try clear p10
        try clear q10
        try clear hx10
        try clear hf10
        try clear c16
        try clear c16b0
        try clear c17
        try clear c17b0
        try clear c18
        try clear c18b0
        try clear c19
        try clear c19b0
        try clear p22
        try clear q22
        try clear hx22
        try clear hf22
        try clear hcz20_0
        try clear hcz23_0
        try clear hcz5_0
        try clear hfz20_0
        try clear hfz23_0
        try clear hfz5_0
        try clear hx107_0
        try clear hx10_0
        try clear hx22_0
        try clear p1
        try clear p10
        try clear p107
        try clear p2
        try clear p22
        try clear p6
        try clear q1
        try clear q10
        try clear q107
        try clear q22
        obtain ⟨x3_3, x7_3, x8_3, rfl, HA, HK3, HO_3, HO_7, BK101, HB⟩ := hrel
        have hl3_3 := (Kd.R_reads' HO_3.out).1
        rw [hl3_3] at HO_3
        (try simp only [hl3_3])
        (try simp only [hl3_3] at BK101)
        (try simp only [hl3_3] at HO_7)
        cases gk with
        | zero => exact absurd HA.out (by simp [spec_l07Parts.l2])
        | succ k3 =>
         have H := HA.out
         clear HA
         simp only [spec_l07Parts.l2] at H
         by_cases c29 : x8_3 < (x7_3.length : Int)
         rotate_left
         next =>
          rw [if_neg c29] at H
          have c29b0 : decide (x8_3 < (x7_3.length : Int)) = false := yhy c29
          (try simp only [hl3_2, hl3_3] at c29b0)
          clear c29
          have H' := Aside0.mk H
          clear H
          obtain ⟨Ao53, co53, eo53⟩ := Kd.R_slice HO_7.out
          subst eo53
          go_wp2
          repeat (go_quiet (fail); try go_wp2)
          (try simp only [← hl3_2, ← hl3_3])
          go_roundg k3
          case measure => have := HK1.out; have := HK2.out; have := HK3.out; omega
          case rel => exact ⟨(x3_3), (wrap64 (x5_2 + 1)), (wrap64 (x6_2 + 1)), (by first | rfl | (simp; done) | (simp [*]; done)), (by first | rfl | (simp; done) | (simp [*]; done)), H', ⟨by have := HK1.out; have := HK2.out; have := HK3.out; omega⟩, ⟨by (try simp only [hl3_2]); (try simp only [hl3_3]); (with_reducible repeat (first | apply Kd.R_alloc | apply Kd.R_drewN | apply Kd.R_drew)); exact Kd.R_mono HO_3.out (fun _ hk => trivial)⟩, ⟨by (try simp only [hl3_2]); (try simp only [hl3_3]); (with_reducible repeat (first | refine blk_drewN ?_ _ | refine blk_drew ?_ | refine blk_alloc ?_ _)); exact BK101.out⟩, ⟨by repeat (first | (with_reducible first | exact HB.out | apply below_alloc | apply pw_below_drewN | apply below_drew1 | refine below_set ?_ GE101.out) | exact HB.out)⟩⟩
         rw [if_pos c29] at H
         have c29b0 : decide (x8_3 < (x7_3.length : Int)) = true := ygy c29
         clear c29
         have H' := Aside0.mk H
         clear H
         obtain ⟨Ao30, co30, eo30⟩ := Kd.R_slice HO_7.out
         subst eo30
         go_wp2
         repeat (go_quiet (fail); try go_wp2)
         go_loopg [7, 9] k3 (fun kq v7 v9 w' => ∃ (x3_4 : List Int) (x7_4 : List Int) (x9_4 : Int), v9 = .int .i64 x9_4 ∧ Aside0 (spec_l07Parts.l3 kq x3_4 x5_2 x6_2 x7_4 x8_3 x9_4 l0_0 = some r) ∧ Aside0 (kq ≤ k3) ∧ Aside0 (Kd.R (Kd.int .i64) 2 w' w.heap.size (fun k_ => some k_ ≠ (v7 : Value).ownBlock) (.slice (some ⟨go22, 0, none⟩) x3_3.length co14) x3_4) ∧ Aside0 (Kd.R (Kd.int .i64) 2 w' w.heap.size (fun k_ => some k_ ≠ ((.slice (some ⟨go22, 0, none⟩) x3_3.length co14) : Value).ownBlock) v7 x7_4) ∧ Aside0 (w'.heap[gb101]? = some (.cells #[(.slice A0_0 l0_0.length c0_0)] 35 (0, 0))) ∧ Aside0 (Below w.heap.size w w'))
         case atStart => exact ⟨(x3_3), (x7_3), (0), (by first | rfl | (simp; done) | (simp [*]; done)), H', ⟨yoy _⟩, ⟨by (try simp only [hl3_2]); (try simp only [hl3_3]); (with_reducible repeat (first | apply Kd.R_alloc | apply Kd.R_drewN | apply Kd.R_drew)); exact HO_3.out⟩, ⟨by (try simp only [hl3_2]); (try simp only [hl3_3]); (with_reducible repeat (first | apply Kd.R_alloc | apply Kd.R_drewN | apply Kd.R_drew)); exact HO_7.out⟩, ⟨by (try simp only [hl3_2]); (try simp only [hl3_3]); (with_reducible repeat (first | refine blk_drewN ?_ _ | refine blk_drew ?_ | refine blk_alloc ?_ _)); exact BK101.out⟩, ⟨by repeat (first | (with_reducible first | exact HB.out | apply below_alloc | apply pw_below_drewN | apply below_drew1 | refine below_set ?_ GE101.out) | exact HB.out)⟩⟩
         case round =>
          clear H'
          try clear c1
          try clear p1
          try clear q1
          try clear hx1
          try clear hf1
          try clear c2
          try clear c2b0
          try clear c2b1
          try clear p2
          try clear q2
          try clear hx2
          try clear hf2
          try clear c3
          try clear c3b0
          try clear c3b1
          try clear c6
          try clear p6
          try clear c8
          try clear c8b0
          try clear c9
          try clear c9b0
          try clear p10
          try clear q10
          try clear hx10
          try clear hf10
          try clear c16
          try clear c16b0
          try clear c17
          try clear c17b0
          try clear c18
          try clear c18b0
          try clear c19
          try clear c19b0
          try clear p22
          try clear q22
          try clear hx22
          try clear hf22
          try clear c29
          try clear c29b0
          try clear hcz20_0
          try clear hcz23_0
          try clear hcz5_0
          try clear hfz20_0
          try clear hfz23_0
          try clear hfz5_0
          try clear hx107_0
          try clear hx10_0
          try clear hx22_0
          try clear p1
          try clear p10
          try clear p107
          try clear p2
          try clear p22
          try clear p6
          try clear q1
          try clear q10
          try clear q107
          try clear q2
          try clear q22
          obtain ⟨x3_4, x7_4, x9_4, rfl, HA, HK4, HO_3, HO_7, BK101, HB⟩ := hrel
          have hl3_4 := (Kd.R_reads' HO_3.out).1
          rw [hl3_4] at HO_3
          (try simp only [hl3_4])
          (try simp only [hl3_4] at BK101)
          (try simp only [hl3_4] at HO_7)
          cases gk with
          | zero => exact absurd HA.out (by simp [spec_l07Parts.l3])
          | succ k4 =>
           have H := HA.out
           clear HA
           simp only [spec_l07Parts.l3] at H
           by_cases c31 : x9_4 < 4
           rotate_left
           next =>
            rw [if_neg c31] at H
            have c31b0 : decide (x9_4 < 4) = false := yhy c31
            (try simp only [hl3_2, hl3_3, hl3_4] at c31b0)
            clear c31
            have H' := Aside0.mk H
            clear H
            go_wp2
            repeat (go_quiet (fail); try go_wp2)
            (try simp only [← hl3_3, ← hl3_4])
            go_roundg k4
            case measure => have := HK1.out; have := HK2.out; have := HK3.out; have := HK4.out; omega
            case rel => exact ⟨(x3_4), (x7_4), (wrap64 (x8_3 + 1)), (by first | rfl | (simp; done) | (simp [*]; done)), H', ⟨by have := HK1.out; have := HK2.out; have := HK3.out; have := HK4.out; omega⟩, ⟨by (try simp only [hl3_2]); (try simp only [hl3_3]); (try simp only [hl3_4]); (with_reducible repeat (first | apply Kd.R_alloc | apply Kd.R_drewN | apply Kd.R_drew)); exact HO_3.out⟩, ⟨by (try simp only [hl3_2]); (try simp only [hl3_3]); (try simp only [hl3_4]); (with_reducible repeat (first | apply Kd.R_alloc | apply Kd.R_drewN | apply Kd.R_drew)); exact HO_7.out⟩, ⟨by (try simp only [hl3_2]); (try simp only [hl3_3]); (try simp only [hl3_4]); (with_reducible repeat (first | refine blk_drewN ?_ _ | refine blk_drew ?_ | refine blk_alloc ?_ _)); exact BK101.out⟩, ⟨by repeat (first | (with_reducible first | exact HB.out | apply below_alloc | apply pw_below_drewN | apply below_drew1 | refine below_set ?_ GE101.out) | exact HB.out)⟩⟩
           rw [if_pos c31] at H
           have c31b0 : decide (x9_4 < 4) = true := ygy c31
           clear c31
           by_cases c32 : 0 ≤ x8_3
           rotate_left
           next =>
            rw [if_neg c32] at H
            exact absurd H (by simp)
           rw [if_pos c32] at H
           have c32b0 : decide (0 ≤ x8_3) = true := ygy c32
           clear c32
           by_cases c33 : x8_3 < (x7_4.length : Int)
           rotate_left
           next =>
            rw [if_neg c33] at H
            exact absurd H (by simp)
           rw [if_pos c33] at H
           have c33b0 : decide (x8_3 < (x7_4.length : Int)) = true := ygy c33
           clear c33
           by_cases c34 : 0 ≤ (rd x7_4 x8_3)
           rotate_left
           next =>
            rw [if_neg c34] at H
            exact absurd H (by simp)
           rw [if_pos c34] at H
           have c34b0 : decide (0 ≤ (rd x7_4 x8_3)) = true := ygy c34
           clear c34
           by_cases c35 : (rd x7_4 x8_3) < (l0_0.length : Int)
           rotate_left
           next =>
            rw [if_neg c35] at H
            exact absurd H (by simp)
           rw [if_pos c35] at H
           have c35b0 : decide ((rd x7_4 x8_3) < (l0_0.length : Int)) = true := ygy c35
           clear c35
           by_cases c36 : 0 ≤ x9_4
           rotate_left
           next =>
            rw [if_neg c36] at H
            exact absurd H (by simp)
           rw [if_pos c36] at H
           have c36b0 : decide (0 ≤ x9_4) = true := ygy c36
           clear c36
           by_cases c37 : x9_4 < ((rd_LFace l0_0 (rd x7_4 x8_3)).length : Int)
           rotate_left
           next =>
            rw [if_neg c37] at H
            exact absurd H (by simp)
           rw [if_pos c37] at H
           have c37b0 : decide (x9_4 < ((rd_LFace l0_0 (rd x7_4 x8_3)).length : Int)) = true := ygy c37
           clear c37
           by_cases c38 : ((rd_Face (rd_LFace l0_0 (rd x7_4 x8_3)) x9_4).f0) ≥ 0
           rotate_left
           next =>
            rw [if_neg c38] at H
            have c38b0 : decide (0 ≤ ((rd_Face (rd_LFace l0_0 (rd x7_4 x8_3)) x9_4).f0)) = false := yhy c38
            (try simp only [hl3_2, hl3_3, hl3_4] at c38b0)
            clear c38
            have H' := Aside0.mk H
            clear H
            have hcz51_0 : wr.cell? ⟨gb101, 0, none⟩ = some (.slice A0_0 l0_0.length c0_0) := (blk_cell BK101.out 0).trans rfl
            have hfz51_0 := blk_frozen BK101.out 0
            obtain ⟨Ao52, co52, eo52⟩ := Kd.R_slice HO_7.out
            subst eo52
            have p112 : 0 ≤ (x8_3 : Int) := of_decide_eq_true (by first | (with_reducible assumption) | assumption)
            have q112 : x8_3 < (x7_4.length : Int) := of_decide_eq_true (by first | (with_reducible assumption) | assumption)
            obtain ⟨ad112, e112, hx112_0⟩ := Kd.at_int (Kd.R_reads' HO_7.out).2.2 x8_3 p112 q112
            cases e112
            replace p112 := eq_true p112
            replace q112 := eq_true q112
            have p113 : 0 ≤ ((rd x7_4 x8_3) : Int) := of_decide_eq_true (by first | (with_reducible assumption) | assumption)
            have q113 : (rd x7_4 x8_3) < (l0_0.length : Int) := of_decide_eq_true (by first | (with_reducible assumption) | assumption)
            obtain ⟨ad113, A113_0, c113_0, e113, hx113_0, hl113_0, hi113_0⟩ := at_LFace HR0_0.out (rd x7_4 x8_3) p113 q113
            cases e113
            replace hx113_0 := (HB.out.cell (yny w _ hx113_0)).trans hx113_0
            have HR113_0 := Aside0.mk hi113_0
            have HC113_0 := Aside0.mk hl113_0
            clear hi113_0 hl113_0
            replace p113 := eq_true p113
            replace q113 := eq_true q113
            have p114 : 0 ≤ (x9_4 : Int) := of_decide_eq_true (by first | (with_reducible assumption) | assumption)
            have q114 : x9_4 < ((rd_LFace l0_0 (rd x7_4 x8_3)).length : Int) := of_decide_eq_true (by first | (with_reducible assumption) | assumption)
            obtain ⟨ad114, e114, hx114_0, hx114_1⟩ := at_Face HR113_0.out x9_4 p114 q114
            cases e114
            replace hx114_0 := (HB.out.cell (yny w _ hx114_0)).trans hx114_0
            replace hx114_1 := (HB.out.cell (yny w _ hx114_1)).trans hx114_1
            replace p114 := eq_true p114
            replace q114 := eq_true q114
            go_wp2
            repeat (go_quiet (fail); try go_wp2)
            (try simp only [← hl3_4])
            go_roundg k4
            case measure => have := HK1.out; have := HK2.out; have := HK3.out; have := HK4.out; omega
            case rel => exact ⟨(x3_4), (x7_4), (wrap64 (x9_4 + 1)), (by first | rfl | (simp; done) | (simp [*]; done)), H', ⟨by have := HK1.out; have := HK2.out; have := HK3.out; have := HK4.out; omega⟩, ⟨by (try simp only [hl3_2]); (try simp only [hl3_3]); (try simp only [hl3_4]); (with_reducible repeat (first | apply Kd.R_alloc | apply Kd.R_drewN | apply Kd.R_drew)); exact HO_3.out⟩, ⟨by (try simp only [hl3_2]); (try simp only [hl3_3]); (try simp only [hl3_4]); (with_reducible repeat (first | apply Kd.R_alloc | apply Kd.R_drewN | apply Kd.R_drew)); exact HO_7.out⟩, ⟨by (try simp only [hl3_2]); (try simp only [hl3_3]); (try simp only [hl3_4]); (with_reducible repeat (first | refine blk_drewN ?_ _ | refine blk_drew ?_ | refine blk_alloc ?_ _)); exact BK101.out⟩, ⟨by repeat (first | (with_reducible first | exact HB.out | apply below_alloc | apply pw_below_drewN | apply below_drew1 | refine below_set ?_ GE101.out) | exact HB.out)⟩⟩
           rw [if_pos c38] at H
           have c38b0 : decide (0 ≤ ((rd_Face (rd_LFace l0_0 (rd x7_4 x8_3)) x9_4).f0)) = true := ygy c38
           clear c38
           by_cases c39 : 0 ≤ ((rd_Face (rd_LFace l0_0 (rd x7_4 x8_3)) x9_4).f0)
           rotate_left
           next =>
            rw [if_neg c39] at H
            exact absurd H (by simp)
           rw [if_pos c39] at H
           have c39b0 : decide (0 ≤ ((rd_Face (rd_LFace l0_0 (rd x7_4 x8_3)) x9_4).f0)) = true := ygy c39
           clear c39
           by_cases c40 : ((rd_Face (rd_LFace l0_0 (rd x7_4 x8_3)) x9_4).f0) < (x3_4.length : Int)
           rotate_left
           next =>
            rw [if_neg c40] at H
            exact absurd H (by simp)
           rw [if_pos c40] at H
           have c40b0 : decide (((rd_Face (rd_LFace l0_0 (rd x7_4 x8_3)) x9_4).f0) < (x3_4.length : Int)) = true := ygy c40
           clear c40
           by_cases c41 : (rd x3_4 ((rd_Face (rd_LFace l0_0 (rd x7_4 x8_3)) x9_4).f0)) < 0
           rotate_left
           next =>
            rw [if_neg c41] at H
            have c41b0 : decide ((rd x3_4 ((rd_Face (rd_LFace l0_0 (rd x7_4 x8_3)) x9_4).f0)) < 0) = false := yhy c41
            (try simp only [hl3_2, hl3_3, hl3_4] at c41b0)
            clear c41
            have H' := Aside0.mk H
            clear H
            have hcz49_0 : wr.cell? ⟨gb101, 0, none⟩ = some (.slice A0_0 l0_0.length c0_0) := (blk_cell BK101.out 0).trans rfl
            have hfz49_0 := blk_frozen BK101.out 0
            obtain ⟨Ao50, co50, eo50⟩ := Kd.R_slice HO_7.out
            subst eo50
            have p112 : 0 ≤ (x8_3 : Int) := of_decide_eq_true (by first | (with_reducible assumption) | assumption)
            have q112 : x8_3 < (x7_4.length : Int) := of_decide_eq_true (by first | (with_reducible assumption) | assumption)
            obtain ⟨ad112, e112, hx112_0⟩ := Kd.at_int (Kd.R_reads' HO_7.out).2.2 x8_3 p112 q112
            cases e112
            replace p112 := eq_true p112
            replace q112 := eq_true q112
            have p113 : 0 ≤ ((rd x7_4 x8_3) : Int) := of_decide_eq_true (by first | (with_reducible assumption) | assumption)
            have q113 : (rd x7_4 x8_3) < (l0_0.length : Int) := of_decide_eq_true (by first | (with_reducible assumption) | assumption)
            obtain ⟨ad113, A113_0, c113_0, e113, hx113_0, hl113_0, hi113_0⟩ := at_LFace HR0_0.out (rd x7_4 x8_3) p113 q113
            cases e113
            replace hx113_0 := (HB.out.cell (yny w _ hx113_0)).trans hx113_0
            have HR113_0 := Aside0.mk hi113_0
            have HC113_0 := Aside0.mk hl113_0
            clear hi113_0 hl113_0
            replace p113 := eq_true p113
            replace q113 := eq_true q113
            have p114 : 0 ≤ (x9_4 : Int) := of_decide_eq_true (by first | (with_reducible assumption) | assumption)
            have q114 : x9_4 < ((rd_LFace l0_0 (rd x7_4 x8_3)).length : Int) := of_decide_eq_true (by first | (with_reducible assumption) | assumption)
            obtain ⟨ad114, e114, hx114_0, hx114_1⟩ := at_Face HR113_0.out x9_4 p114 q114
            cases e114
            replace hx114_0 := (HB.out.cell (yny w _ hx114_0)).trans hx114_0
            replace hx114_1 := (HB.out.cell (yny w _ hx114_1)).trans hx114_1
            replace p114 := eq_true p114
            replace q114 := eq_true q114
            have p115 : 0 ≤ (((rd_Face (rd_LFace l0_0 (rd x7_4 x8_3)) x9_4).f0) : Int) := of_decide_eq_true (by first | (with_reducible assumption) | assumption)
            have q115 : ((rd_Face (rd_LFace l0_0 (rd x7_4 x8_3)) x9_4).f0) < (x3_4.length : Int) := of_decide_eq_true (by first | (with_reducible assumption) | assumption)
            obtain ⟨ad115, e115, hx115_0⟩ := Kd.at_int (Kd.R_reads' HO_3.out).2.2 ((rd_Face (rd_LFace l0_0 (rd x7_4 x8_3)) x9_4).f0) p115 q115
            obtain rfl : (⟨go22, 0, none⟩ : Addr) = ad115 := (by injection e115)
            (first | simp only [add_plain] at hx115_0 | simp only [add_at] at hx115_0 | simp only [Addr.add, Nat.zero_add] at hx115_0 | skip)
            replace p115 := eq_true p115
            replace q115 := eq_true q115
            go_wp2
            repeat (go_quiet (fail); try go_wp2)
            (try simp only [← hl3_4])
            go_roundg k4
            case measure => have := HK1.out; have := HK2.out; have := HK3.out; have := HK4.out; omega
            case rel => exact ⟨(x3_4), (x7_4), (wrap64 (x9_4 + 1)), (by first | rfl | (simp; done) | (simp [*]; done)), H', ⟨by have := HK1.out; have := HK2.out; have := HK3.out; have := HK4.out; omega⟩, ⟨by (try simp only [hl3_2]); (try simp only [hl3_3]); (try simp only [hl3_4]); (with_reducible repeat (first | apply Kd.R_alloc | apply Kd.R_drewN | apply Kd.R_drew)); exact HO_3.out⟩, ⟨by (try simp only [hl3_2]); (try simp only [hl3_3]); (try simp only [hl3_4]); (with_reducible repeat (first | apply Kd.R_alloc | apply Kd.R_drewN | apply Kd.R_drew)); exact HO_7.out⟩, ⟨by (try simp only [hl3_2]); (try simp only [hl3_3]); (try simp only [hl3_4]); (with_reducible repeat (first | refine blk_drewN ?_ _ | refine blk_drew ?_ | refine blk_alloc ?_ _)); exact BK101.out⟩, ⟨by repeat (first | (with_reducible first | exact HB.out | apply below_alloc | apply pw_below_drewN | apply below_drew1 | refine below_set ?_ GE101.out) | exact HB.out)⟩⟩
           rw [if_pos c41] at H
           have c41b0 : decide ((rd x3_4 ((rd_Face (rd_LFace l0_0 (rd x7_4 x8_3)) x9_4).f0)) < 0) = true := ygy c41
           clear c41
           obtain ⟨y116, hy116⟩ : ∃ y_ : List Int, y_ = (x3_4.set (((rd_Face (rd_LFace l0_0 (rd x7_4 x8_3)) x9_4).f0) : Int).toNat x5_2) := ⟨_, rfl⟩
           replace H : (if x7_4.length < 17592186044416 then (spec_l07Parts.l3 k4 y116 x5_2 x6_2 (x7_4 ++ [(rd_Face (rd_LFace l0_0 (rd x7_4 x8_3)) x9_4).f0]) x8_3 (wrap64 (x9_4 + 1)) l0_0) else (none)) = some r := by first | (rw [hy116]; with_reducible exact H) | (have H2_ := (yfy _ _).symm.trans H; rw [hy116]; with_reducible exact H2_) | (have H2_ := (yfy _ _).symm.trans H; with_reducible exact H2_) | with_reducible exact H | (rw [hy116]; exact H) | exact H
           have Ny116 := Aside0.mk hy116
           clear hy116
           by_cases c43 : x7_4.length < 17592186044416
           rotate_left
           next =>
            rw [if_neg c43] at H
            exact absurd H (by simp)
           rw [if_pos c43] at H
           have LMc43 := Aside0.mk c43
           clear c43
           obtain ⟨y117, hy117⟩ : ∃ y_ : List Int, y_ = (x7_4 ++ [(rd_Face (rd_LFace l0_0 (rd x7_4 x8_3)) x9_4).f0]) := ⟨_, rfl⟩
           replace H : (spec_l07Parts.l3 k4 y116 x5_2 x6_2 y117 x8_3 (wrap64 (x9_4 + 1)) l0_0) = some r := by first | (rw [hy117]; with_reducible exact H) | (have H2_ := (yfy _ _).symm.trans H; rw [hy117]; with_reducible exact H2_) | (have H2_ := (yfy _ _).symm.trans H; with_reducible exact H2_) | with_reducible exact H | (rw [hy117]; exact H) | exact H
           have Ny117 := Aside0.mk hy117
           clear hy117
           have H' := Aside0.mk H
           clear H
           have hcz44_0 : wr.cell? ⟨gb101, 0, none⟩ = some (.slice A0_0 l0_0.length c0_0) := (blk_cell BK101.out 0).trans rfl
           have hfz44_0 := blk_frozen BK101.out 0
           obtain ⟨Ao45, co45, eo45⟩ := Kd.R_slice HO_7.out
           subst eo45
           have p112 : 0 ≤ (x8_3 : Int) := of_decide_eq_true (by first | (with_reducible assumption) | assumption)
           have q112 : x8_3 < (x7_4.length : Int) := of_decide_eq_true (by first | (with_reducible assumption) | assumption)
           obtain ⟨ad112, e112, hx112_0⟩ := Kd.at_int (Kd.R_reads' HO_7.out).2.2 x8_3 p112 q112
           cases e112
           replace p112 := eq_true p112
           replace q112 := eq_true q112
           have p113 : 0 ≤ ((rd x7_4 x8_3) : Int) := of_decide_eq_true (by first | (with_reducible assumption) | assumption)
           have q113 : (rd x7_4 x8_3) < (l0_0.length : Int) := of_decide_eq_true (by first | (with_reducible assumption) | assumption)
           obtain ⟨ad113, A113_0, c113_0, e113, hx113_0, hl113_0, hi113_0⟩ := at_LFace HR0_0.out (rd x7_4 x8_3) p113 q113
           cases e113
           replace hx113_0 := (HB.out.cell (yny w _ hx113_0)).trans hx113_0
           have HR113_0 := Aside0.mk hi113_0
           have HC113_0 := Aside0.mk hl113_0
           clear hi113_0 hl113_0
           replace p113 := eq_true p113
           replace q113 := eq_true q113
           have p114 : 0 ≤ (x9_4 : Int) := of_decide_eq_true (by first | (with_reducible assumption) | assumption)
           have q114 : x9_4 < ((rd_LFace l0_0 (rd x7_4 x8_3)).length : Int) := of_decide_eq_true (by first | (with_reducible assumption) | assumption)
           obtain ⟨ad114, e114, hx114_0, hx114_1⟩ := at_Face HR113_0.out x9_4 p114 q114
           cases e114
           replace hx114_0 := (HB.out.cell (yny w _ hx114_0)).trans hx114_0
           replace hx114_1 := (HB.out.cell (yny w _ hx114_1)).trans hx114_1
           replace p114 := eq_true p114
           replace q114 := eq_true q114
           have p115 : 0 ≤ (((rd_Face (rd_LFace l0_0 (rd x7_4 x8_3)) x9_4).f0) : Int) := of_decide_eq_true (by first | (with_reducible assumption) | assumption)
           have q115 : ((rd_Face (rd_LFace l0_0 (rd x7_4 x8_3)) x9_4).f0) < (x3_4.length : Int) := of_decide_eq_true (by first | (with_reducible assumption) | assumption)
           obtain ⟨ad115, e115, hx115_0⟩ := Kd.at_int (Kd.R_reads' HO_3.out).2.2 ((rd_Face (rd_LFace l0_0 (rd x7_4 x8_3)) x9_4).f0) p115 q115
           obtain rfl : (⟨go22, 0, none⟩ : Addr) = ad115 := (by injection e115)
           (first | simp only [add_plain] at hx115_0 | simp only [add_at] at hx115_0 | simp only [Addr.add, Nat.zero_add] at hx115_0 | skip)
           replace p115 := eq_true p115
           replace q115 := eq_true q115
           have p42 : 0 ≤ (((rd_Face (rd_LFace l0_0 (rd x7_4 x8_3)) x9_4).f0) : Int) := of_decide_eq_true (by first | (with_reducible assumption) | assumption)
           have q42 : (((rd_Face (rd_LFace l0_0 (rd x7_4 x8_3)) x9_4).f0) : Int) < ((x3_4.length : Int) : Int) := of_decide_eq_true (by first | (with_reducible assumption) | assumption)
           obtain ⟨hx42_0, hf42_0⟩ := Kd.R_celln 0 HO_3.out (((rd_Face (rd_LFace l0_0 (rd x7_4 x8_3)) x9_4).f0) : Int) p42 q42
           replace p42 := eq_true p42
           replace q42 := eq_true q42
           have HP46 := Kd.R_putg HO_3.out (((rd_Face (rd_LFace l0_0 (rd x7_4 x8_3)) x9_4).f0) : Int) x5_2
           go_wp2_with (first | ((with_reducible refine gate_store (t := 2) (p := 75) rfl ?_); (try (rw [drewN_self wr]; generalize hq_ : World.drewN wr _ = wr; have n0_ := Aside0.mk (Kd.R_at hq_ HO_3.out); have n1_ := Aside0.mk (Kd.R_at hq_ HO_7.out); have n2_ := Aside0.mk (blk_at hq_ BK101.out); have n3_ := Aside0.mk (below_at hq_ HB.out); clear hq_ HO_3 HO_7 BK101 HB; have HO_3 := n0_; have HO_7 := n1_; have BK101 := n2_; have HB := n3_; clear n0_ n1_ n2_ n3_; (try (have HP46 := Kd.R_putg HO_3.out (((rd_Face (rd_LFace l0_0 (rd x7_4 x8_3)) x9_4).f0) : Int) x5_2; have hc_ := Kd.R_celln 0 HO_3.out (((rd_Face (rd_LFace l0_0 (rd x7_4 x8_3)) x9_4).f0) : Int) (of_eq_true p42) (of_eq_true q42); have hx42_0 := hc_.1; have hf42_0 := hc_.2; clear hc_)))); refine store_event (t := 2) (p := 75) (v := ?vo_w47) (w1 := (wr.setCell ⟨go22, (((rd_Face (rd_LFace l0_0 (rd x7_4 x8_3)) x9_4).f0) : Int).toNat, none⟩ (.int .i64 x5_2))) ?hg ?ho ?hn ?hr ?_; (case ho => rfl); (case hg => rfl); (case hn => rfl); (case hr => first | (go_simp; done) | (go_simp; rfl)); intro w47 hw; have hg : wr.grownBy w47 (some go22) := (by rw [hw]; exact HP46.2); have hp_ : Kd.R (Kd.int .i64) 2 w47 w.heap.size (fun k_ => some k_ ≠ (.slice (some ad112) x7_4.length co45 : Value).ownBlock) (.slice (some ⟨go22, 0, none⟩) x3_4.length co14) y116 := (by rw [hw, Ny116.out]; exact HP46.1); clear HP46; have n0_ := Aside0.mk (hp_); have n1_ := Aside0.mk (Kd.R_after (v := (.slice (some ⟨go22, 0, none⟩) x3_4.length co14)) (v1 := (.slice (some ⟨go22, 0, none⟩) x3_4.length co14)) (ok := (fun _ => True)) (by (with_reducible repeat (first | apply Kd.R_alloc | apply Kd.R_drewN | apply Kd.R_drew)); exact Kd.R_mono HO_7.out (fun _ hk => ⟨trivial, hk⟩)) hg (.inl rfl)); have n2_ := Aside0.mk (blk_grown (g := gb101) (o := .cells #[.slice (some ad113) l0_0.length c0_0] 35 (0, 0)) (by (with_reducible repeat (first | refine blk_drewN ?_ _ | refine blk_drew ?_ | refine blk_alloc ?_ _)); exact BK101.out) hg (Kd.R_ne HO_3.out BK101.out (by decide))); have n3_ := Aside0.mk ((by rw [hw]; exact below_set (HB.out) GB22.out : Below w.heap.size w w47)); clear HO_3; clear HO_7; clear BK101; clear HB; have HO_3 := n0_; have HO_7 := n1_; have BK101 := n2_; have HB := n3_; clear n0_ n1_ n2_ n3_; clear hg hw hp_) | ((with_reducible refine gate_builtin (b := .append) (xs := #[.tmp 76, .tmp 78]) rfl ?_); at_builtin; refine Kd.R_append (Kd.int .i64) (w0 := w) w.heap.size rfl (.tmp 76) (.tmp 78) 22 2 (.int .i64 0) 8 rfl Try.underlying22 info2 rfl (by decide) (by omega) (.slice (some ad112) x7_4.length co45) x7_4 ((rd_Face (rd_LFace l0_0 (rd x7_4 x8_3)) x9_4).f0) [.int .i64 ((rd_Face (rd_LFace l0_0 (rd x7_4 x8_3)) x9_4).f0)] (fun k_ => some k_ ≠ (.slice (some ⟨go22, 0, none⟩) x3_4.length co14 : Value).ownBlock) (fun _ => False) rfl rfl ?aP (fun _ hk => hk.elim) ?aF ?aO ?aB ?aS ?aL ?_; (case aP => exact rfl); (case aB => exact (by repeat (first | (with_reducible first | exact HB.out | apply below_alloc | apply pw_below_drewN | apply below_drew1 | refine below_set ?_ GE101.out) | exact HB.out))); (case aF => exact (fun k_ hk => Kd.fresh' (Kd.R_lt (by (with_reducible repeat (first | apply Kd.R_alloc | apply Kd.R_drewN | apply Kd.R_drew)); exact HO_3.out)) k_ hk)); (case aO => exact (by (with_reducible repeat (first | apply Kd.R_alloc | apply Kd.R_drewN | apply Kd.R_drew)); exact Kd.R_mono HO_7.out (fun _ hk => hk.2))); (case aS => exact (below_size (by repeat (first | (with_reducible first | exact HB.out | apply below_alloc | apply pw_below_drewN | apply below_drew1 | refine below_set ?_ GE101.out) | exact HB.out)))); (case aL => have := LMc43.out; omega); intro v118 w48 ho hb hg hat; rw [← Ny117.out] at ho; have n0_ := Aside0.mk (Kd.R_after (ok := (fun _ => True)) (by (with_reducible repeat (first | apply Kd.R_alloc | apply Kd.R_drewN | apply Kd.R_drew)); exact Kd.R_mono HO_3.out (fun _ hk => ⟨trivial, hk⟩)) hg hat); have n1_ := Aside0.mk (blk_grown (g := gb101) (o := .cells #[.slice (some ad113) l0_0.length c0_0] 35 (0, 0)) (by (with_reducible repeat (first | refine blk_drewN ?_ _ | refine blk_drew ?_ | refine blk_alloc ?_ _)); exact BK101.out) hg (Kd.R_ne HO_7.out BK101.out (by decide))); have n2_ := Aside0.mk (hb); have n3_ := Aside0.mk (ho); clear HO_3; clear BK101; clear HB; clear HO_7; have HO_3 := n0_; have BK101 := n1_; have HB := n2_; have HO119 := n3_; clear n0_ n1_ n2_ n3_; clear ho hb hg hat))
           repeat (go_quiet (first | ((with_reducible refine gate_store (t := 2) (p := 75) rfl ?_); (try (rw [drewN_self wr]; generalize hq_ : World.drewN wr _ = wr; have n0_ := Aside0.mk (Kd.R_at hq_ HO_3.out); have n1_ := Aside0.mk (Kd.R_at hq_ HO_7.out); have n2_ := Aside0.mk (blk_at hq_ BK101.out); have n3_ := Aside0.mk (below_at hq_ HB.out); clear hq_ HO_3 HO_7 BK101 HB; have HO_3 := n0_; have HO_7 := n1_; have BK101 := n2_; have HB := n3_; clear n0_ n1_ n2_ n3_; (try (have HP46 := Kd.R_putg HO_3.out (((rd_Face (rd_LFace l0_0 (rd x7_4 x8_3)) x9_4).f0) : Int) x5_2; have hc_ := Kd.R_celln 0 HO_3.out (((rd_Face (rd_LFace l0_0 (rd x7_4 x8_3)) x9_4).f0) : Int) (of_eq_true p42) (of_eq_true q42); have hx42_0 := hc_.1; have hf42_0 := hc_.2; clear hc_)))); refine store_event (t := 2) (p := 75) (v := ?vo_w47) (w1 := (wr.setCell ⟨go22, (((rd_Face (rd_LFace l0_0 (rd x7_4 x8_3)) x9_4).f0) : Int).toNat, none⟩ (.int .i64 x5_2))) ?hg ?ho ?hn ?hr ?_; (case ho => rfl); (case hg => rfl); (case hn => rfl); (case hr => first | (go_simp; done) | (go_simp; rfl)); intro w47 hw; have hg : wr.grownBy w47 (some go22) := (by rw [hw]; exact HP46.2); have hp_ : Kd.R (Kd.int .i64) 2 w47 w.heap.size (fun k_ => some k_ ≠ (.slice (some ad112) x7_4.length co45 : Value).ownBlock) (.slice (some ⟨go22, 0, none⟩) x3_4.length co14) y116 := (by rw [hw, Ny116.out]; exact HP46.1); clear HP46; have n0_ := Aside0.mk (hp_); have n1_ := Aside0.mk (Kd.R_after (v := (.slice (some ⟨go22, 0, none⟩) x3_4.length co14)) (v1 := (.slice (some ⟨go22, 0, none⟩) x3_4.length co14)) (ok := (fun _ => True)) (by (with_reducible repeat (first | apply Kd.R_alloc | apply Kd.R_drewN | apply Kd.R_drew)); exact Kd.R_mono HO_7.out (fun _ hk => ⟨trivial, hk⟩)) hg (.inl rfl)); have n2_ := Aside0.mk (blk_grown (g := gb101) (o := .cells #[.slice (some ad113) l0_0.length c0_0] 35 (0, 0)) (by (with_reducible repeat (first | refine blk_drewN ?_ _ | refine blk_drew ?_ | refine blk_alloc ?_ _)); exact BK101.out) hg (Kd.R_ne HO_3.out BK101.out (by decide))); have n3_ := Aside0.mk ((by rw [hw]; exact below_set (HB.out) GB22.out : Below w.heap.size w w47)); clear HO_3; clear HO_7; clear BK101; clear HB; have HO_3 := n0_; have HO_7 := n1_; have BK101 := n2_; have HB := n3_; clear n0_ n1_ n2_ n3_; clear hg hw hp_) | ((with_reducible refine gate_builtin (b := .append) (xs := #[.tmp 76, .tmp 78]) rfl ?_); at_builtin; refine Kd.R_append (Kd.int .i64) (w0 := w) w.heap.size rfl (.tmp 76) (.tmp 78) 22 2 (.int .i64 0) 8 rfl Try.underlying22 info2 rfl (by decide) (by omega) (.slice (some ad112) x7_4.length co45) x7_4 ((rd_Face (rd_LFace l0_0 (rd x7_4 x8_3)) x9_4).f0) [.int .i64 ((rd_Face (rd_LFace l0_0 (rd x7_4 x8_3)) x9_4).f0)] (fun k_ => some k_ ≠ (.slice (some ⟨go22, 0, none⟩) x3_4.length co14 : Value).ownBlock) (fun _ => False) rfl rfl ?aP (fun _ hk => hk.elim) ?aF ?aO ?aB ?aS ?aL ?_; (case aP => exact rfl); (case aB => exact (by repeat (first | (with_reducible first | exact HB.out | apply below_alloc | apply pw_below_drewN | apply below_drew1 | refine below_set ?_ GE101.out) | exact HB.out))); (case aF => exact (fun k_ hk => Kd.fresh' (Kd.R_lt (by (with_reducible repeat (first | apply Kd.R_alloc | apply Kd.R_drewN | apply Kd.R_drew)); exact HO_3.out)) k_ hk)); (case aO => exact (by (with_reducible repeat (first | apply Kd.R_alloc | apply Kd.R_drewN | apply Kd.R_drew)); exact Kd.R_mono HO_7.out (fun _ hk => hk.2))); (case aS => exact (below_size (by repeat (first | (with_reducible first | exact HB.out | apply below_alloc | apply pw_below_drewN | apply below_drew1 | refine below_set ?_ GE101.out) | exact HB.out)))); (case aL => have := LMc43.out; omega); intro v118 w48 ho hb hg hat; rw [← Ny117.out] at ho; have n0_ := Aside0.mk (Kd.R_after (ok := (fun _ => True)) (by (with_reducible repeat (first | apply Kd.R_alloc | apply Kd.R_drewN | apply Kd.R_drew)); exact Kd.R_mono HO_3.out (fun _ hk => ⟨trivial, hk⟩)) hg hat); have n1_ := Aside0.mk (blk_grown (g := gb101) (o := .cells #[.slice (some ad113) l0_0.length c0_0] 35 (0, 0)) (by (with_reducible repeat (first | refine blk_drewN ?_ _ | refine blk_drew ?_ | refine blk_alloc ?_ _)); exact BK101.out) hg (Kd.R_ne HO_7.out BK101.out (by decide))); have n2_ := Aside0.mk (hb); have n3_ := Aside0.mk (ho); clear HO_3; clear BK101; clear HB; clear HO_7; have HO_3 := n0_; have BK101 := n1_; have HB := n2_; have HO119 := n3_; clear n0_ n1_ n2_ n3_; clear ho hb hg hat)); try go_wp2_with (first | ((with_reducible refine gate_store (t := 2) (p := 75) rfl ?_); (try (rw [drewN_self wr]; generalize hq_ : World.drewN wr _ = wr; have n0_ := Aside0.mk (Kd.R_at hq_ HO_3.out); have n1_ := Aside0.mk (Kd.R_at hq_ HO_7.out); have n2_ := Aside0.mk (blk_at hq_ BK101.out); have n3_ := Aside0.mk (below_at hq_ HB.out); clear hq_ HO_3 HO_7 BK101 HB; have HO_3 := n0_; have HO_7 := n1_; have BK101 := n2_; have HB := n3_; clear n0_ n1_ n2_ n3_; (try (have HP46 := Kd.R_putg HO_3.out (((rd_Face (rd_LFace l0_0 (rd x7_4 x8_3)) x9_4).f0) : Int) x5_2; have hc_ := Kd.R_celln 0 HO_3.out (((rd_Face (rd_LFace l0_0 (rd x7_4 x8_3)) x9_4).f0) : Int) (of_eq_true p42) (of_eq_true q42); have hx42_0 := hc_.1; have hf42_0 := hc_.2; clear hc_)))); refine store_event (t := 2) (p := 75) (v := ?vo_w47) (w1 := (wr.setCell ⟨go22, (((rd_Face (rd_LFace l0_0 (rd x7_4 x8_3)) x9_4).f0) : Int).toNat, none⟩ (.int .i64 x5_2))) ?hg ?ho ?hn ?hr ?_; (case ho => rfl); (case hg => rfl); (case hn => rfl); (case hr => first | (go_simp; done) | (go_simp; rfl)); intro w47 hw; have hg : wr.grownBy w47 (some go22) := (by rw [hw]; exact HP46.2); have hp_ : Kd.R (Kd.int .i64) 2 w47 w.heap.size (fun k_ => some k_ ≠ (.slice (some ad112) x7_4.length co45 : Value).ownBlock) (.slice (some ⟨go22, 0, none⟩) x3_4.length co14) y116 := (by rw [hw, Ny116.out]; exact HP46.1); clear HP46; have n0_ := Aside0.mk (hp_); have n1_ := Aside0.mk (Kd.R_after (v := (.slice (some ⟨go22, 0, none⟩) x3_4.length co14)) (v1 := (.slice (some ⟨go22, 0, none⟩) x3_4.length co14)) (ok := (fun _ => True)) (by (with_reducible repeat (first | apply Kd.R_alloc | apply Kd.R_drewN | apply Kd.R_drew)); exact Kd.R_mono HO_7.out (fun _ hk => ⟨trivial, hk⟩)) hg (.inl rfl)); have n2_ := Aside0.mk (blk_grown (g := gb101) (o := .cells #[.slice (some ad113) l0_0.length c0_0] 35 (0, 0)) (by (with_reducible repeat (first | refine blk_drewN ?_ _ | refine blk_drew ?_ | refine blk_alloc ?_ _)); exact BK101.out) hg (Kd.R_ne HO_3.out BK101.out (by decide))); have n3_ := Aside0.mk ((by rw [hw]; exact below_set (HB.out) GB22.out : Below w.heap.size w w47)); clear HO_3; clear HO_7; clear BK101; clear HB; have HO_3 := n0_; have HO_7 := n1_; have BK101 := n2_; have HB := n3_; clear n0_ n1_ n2_ n3_; clear hg hw hp_) | ((with_reducible refine gate_builtin (b := .append) (xs := #[.tmp 76, .tmp 78]) rfl ?_); at_builtin; refine Kd.R_append (Kd.int .i64) (w0 := w) w.heap.size rfl (.tmp 76) (.tmp 78) 22 2 (.int .i64 0) 8 rfl Try.underlying22 info2 rfl (by decide) (by omega) (.slice (some ad112) x7_4.length co45) x7_4 ((rd_Face (rd_LFace l0_0 (rd x7_4 x8_3)) x9_4).f0) [.int .i64 ((rd_Face (rd_LFace l0_0 (rd x7_4 x8_3)) x9_4).f0)] (fun k_ => some k_ ≠ (.slice (some ⟨go22, 0, none⟩) x3_4.length co14 : Value).ownBlock) (fun _ => False) rfl rfl ?aP (fun _ hk => hk.elim) ?aF ?aO ?aB ?aS ?aL ?_; (case aP => exact rfl); (case aB => exact (by repeat (first | (with_reducible first | exact HB.out | apply below_alloc | apply pw_below_drewN | apply below_drew1 | refine below_set ?_ GE101.out) | exact HB.out))); (case aF => exact (fun k_ hk => Kd.fresh' (Kd.R_lt (by (with_reducible repeat (first | apply Kd.R_alloc | apply Kd.R_drewN | apply Kd.R_drew)); exact HO_3.out)) k_ hk)); (case aO => exact (by (with_reducible repeat (first | apply Kd.R_alloc | apply Kd.R_drewN | apply Kd.R_drew)); exact Kd.R_mono HO_7.out (fun _ hk => hk.2))); (case aS => exact (below_size (by repeat (first | (with_reducible first | exact HB.out | apply below_alloc | apply pw_below_drewN | apply below_drew1 | refine below_set ?_ GE101.out) | exact HB.out)))); (case aL => have := LMc43.out; omega); intro v118 w48 ho hb hg hat; rw [← Ny117.out] at ho; have n0_ := Aside0.mk (Kd.R_after (ok := (fun _ => True)) (by (with_reducible repeat (first | apply Kd.R_alloc | apply Kd.R_drewN | apply Kd.R_drew)); exact Kd.R_mono HO_3.out (fun _ hk => ⟨trivial, hk⟩)) hg hat); have n1_ := Aside0.mk (blk_grown (g := gb101) (o := .cells #[.slice (some ad113) l0_0.length c0_0] 35 (0, 0)) (by (with_reducible repeat (first | refine blk_drewN ?_ _ | refine blk_drew ?_ | refine blk_alloc ?_ _)); exact BK101.out) hg (Kd.R_ne HO_7.out BK101.out (by decide))); have n2_ := Aside0.mk (hb); have n3_ := Aside0.mk (ho); clear HO_3; clear BK101; clear HB; clear HO_7; have HO_3 := n0_; have BK101 := n1_; have HB := n2_; have HO119 := n3_; clear n0_ n1_ n2_ n3_; clear ho hb hg hat)))
           (try simp only [← hl3_4])
           go_roundg k4
           case measure => have := HK1.out; have := HK2.out; have := HK3.out; have := HK4.out; omega
           case rel => exact ⟨(y116), (y117), (wrap64 (x9_4 + 1)), (by first | rfl | (simp; done) | (simp [*]; done)), H', ⟨by have := HK1.out; have := HK2.out; have := HK3.out; have := HK4.out; omega⟩, ⟨by (try simp only [hl3_2]); (try simp only [hl3_3]); (try simp only [hl3_4]); (with_reducible repeat (first | apply Kd.R_alloc | apply Kd.R_drewN | apply Kd.R_drew)); exact Kd.R_mono HO_3.out (fun _ hk => hk.2)⟩, ⟨by (try simp only [hl3_2]); (try simp only [hl3_3]); (try simp only [hl3_4]); (with_reducible repeat (first | apply Kd.R_alloc | apply Kd.R_drewN | apply Kd.R_drew)); exact HO119.out⟩, ⟨by (try simp only [hl3_2]); (try simp only [hl3_3]); (try simp only [hl3_4]); (with_reducible repeat (first | refine blk_drewN ?_ _ | refine blk_drew ?_ | refine blk_alloc ?_ _)); exact BK101.out⟩, ⟨by repeat (first | (with_reducible first | exact HB.out | apply below_alloc | apply pw_below_drewN | apply below_drew1 | refine below_set ?_ GE101.out) | exact HB.out)⟩⟩
/-! ### spec_TetComponents: function 33 -/
def spec_TetComponents.f (k : Nat) (l0_0 : List (List (SFace))) : Option (List Int) := (spec_IsTriangulation.f k l0_0).bind fun t102 => (if t102 = true then ((spec_l07Parts.f k l0_0).bind fun t103 => (some t103)) else (some ([] : List Int)))
set_option maxHeartbeats 8000000 in
set_option maxRecDepth 100000 in
theorem spec_TetComponents.calls (k : Nat) (A0_0 : Option Addr) (c0_0 : Nat) (l0_0 : List (List (SFace))) (r : List Int) (w : World) (hr0_0 : Kd.C (Kd.slice 75 kFace) w A0_0 l0_0.length l0_0) (hc0_0 : l0_0.length ≤ c0_0) (h : spec_TetComponents.f k l0_0 = some r) :
    Calls Try.prog 33 #[.agg #[.slice A0_0 l0_0.length c0_0]] w fun e w' => ∃ v0_ : Value, e = .returned (v0_) ∧ Kd.R (Kd.int .i64) 2 w' w.heap.size (fun _ => True) v0_ r ∧ Below w.heap.size w w' := by
  have hu35 := Try.underlying35
  have HR0_0 := Aside0.mk hr0_0
  have HC0_0 := Aside0.mk hc0_0
  clear hr0_0 hc0_0
  have HB := Aside0.mk (Below.refl w.heap.size w)
  have H : ((spec_IsTriangulation.f k l0_0).bind fun t102 => (if t102 = true then ((spec_l07Parts.f k l0_0).bind fun t103 => (some t103)) else (some ([] : List Int)))) = some r := h
  clear h
  replace H := ydy.mp H
  obtain ⟨t102, A20, H⟩ := H
  replace H : (if t102 = true then ((spec_l07Parts.f k l0_0).bind fun t103 => (some t103)) else (some ([] : List Int))) = some r := H
  have A2 := Aside0.mk A20
  clear A20
  by_cases c3 : t102 = true
  · subst c3
    have H1 : ((spec_l07Parts.f k l0_0).bind fun t103 => (some t103)) = some r := by rw [if_pos rfl] at H; exact H
    clear H
    have H := H1
    clear H1
    replace H := ydy.mp H
    obtain ⟨t103, A40, H⟩ := H
    replace H : (some t103) = some r := H
    have A4 := Aside0.mk A40
    clear A40
    obtain rfl := yey H
    go_enter Try.func33, Try.ntmps33
    go_wp2_with (first | ((with_reducible refine gate_dst (N := 1) rfl ?_); refine box_event ?hg (N := 1) ?hd (cs := #[.slice A0_0 l0_0.length c0_0]) (t := 35) ?hr ?_; (case hd => rfl); (case hg => rfl); (case hr => first | (go_simp; done) | (go_simp; rfl)); intro gb101 hg w5 hbox hb; have n0_ := Aside0.mk (below_step (by repeat (first | (with_reducible first | exact HB.out | apply below_alloc | apply pw_below_drewN | apply below_drew1) | exact HB.out)) hb); have n1_ := Aside0.mk (hbox); have n2_ := Aside0.mk ((by rw [hg]; exact (below_size (by repeat (first | (with_reducible first | exact HB.out | apply below_alloc | apply pw_below_drewN | apply below_drew1) | exact HB.out))) : w.heap.size ≤ gb101)); have n3_ := Aside0.mk ((by rw [hg]; exact (below_size (by repeat (first | (with_reducible first | exact HB.out | apply below_alloc | apply pw_below_drewN | apply below_drew1) | exact HB.out))) : w.heap.size ≤ gb101)); clear HB; have HB := n0_; have BK101 := n1_; have GW101 := n2_; have GE101 := n3_; clear n0_ n1_ n2_ n3_; clear hb hbox hg; have hcz6_0 : w5.cell? ⟨gb101, 0, none⟩ = some (.slice A0_0 l0_0.length c0_0) := (blk_cell BK101.out 0).trans rfl; have hfz6_0 := blk_frozen BK101.out 0) | ((with_reducible refine gate_callee (f := 47) rfl ?_); refine goesL_ (some 4) rfl rfl Try.func47 (by kernel_rfl) rfl #[.agg #[.slice A0_0 l0_0.length c0_0]] rfl (by (try simp only [yiy, yjy, yky]); first | done | rfl | (simp only [yly, ymy]; rfl)) ?_; (with_reducible refine (spec_IsTriangulation.calls k _ _ l0_0 true _ ?side1 ?side2 A2.out).mono ?_); (case side1 => repeat (first | exact (Kd.C_below HR0_0.out HB.out) | (with_reducible refine Kd.C_alloc ?_ _) | (with_reducible refine Kd.C_drewN ?_ _) | (with_reducible refine Kd.C_drew ?_))); (case side2 => exact HC0_0.out); rintro e w7 ⟨rfl, hb⟩; refine ⟨_, rfl, ?_⟩; have n0_ := Aside0.mk (blk_below (g := gb101) (o := .cells #[.slice A0_0 l0_0.length c0_0] 35 (0, 0)) (by (with_reducible repeat (first | refine blk_drewN ?_ _ | refine blk_drew ?_ | refine blk_alloc ?_ _)); exact BK101.out) hb); have n1_ := Aside0.mk (below_step (by repeat (first | (with_reducible first | exact HB.out | apply below_alloc | apply pw_below_drewN | apply below_drew1 | refine below_set ?_ GE101.out) | exact HB.out)) hb); clear BK101; clear HB; have BK101 := n0_; have HB := n1_; clear n0_ n1_; (try clear hb); (try clear hb2); (try clear hk); (try clear hi); have hcz8_0 : w7.cell? ⟨gb101, 0, none⟩ = some (.slice A0_0 l0_0.length c0_0) := (blk_cell BK101.out 0).trans rfl; have hfz8_0 := blk_frozen BK101.out 0) | ((with_reducible refine gate_callee (f := 61) rfl ?_); refine goesL_ (some 7) rfl rfl Try.func61 (by kernel_rfl) rfl #[.agg #[.slice A0_0 l0_0.length c0_0]] rfl (by (try simp only [yiy, yjy, yky]); first | done | rfl | (simp only [yly, ymy]; rfl)) ?_; (with_reducible refine (spec_l07Parts.calls k _ _ l0_0 t103 _ ?side1 ?side2 A4.out).mono ?_); (case side1 => repeat (first | exact (Kd.C_below HR0_0.out HB.out) | (with_reducible refine Kd.C_alloc ?_ _) | (with_reducible refine Kd.C_drewN ?_ _) | (with_reducible refine Kd.C_drew ?_))); (case side2 => exact HC0_0.out); rintro e w9 ⟨v104, rfl, ho0, hb⟩; refine ⟨_, rfl, ?_⟩; have n0_ := Aside0.mk (Kd.R_lower ho0 (below_size (by repeat (first | (with_reducible first | exact HB.out | apply below_alloc | apply pw_below_drewN | apply below_drew1 | refine below_set ?_ GE101.out) | exact HB.out)))); have n1_ := Aside0.mk (blk_below (g := gb101) (o := .cells #[.slice A0_0 l0_0.length c0_0] 35 (0, 0)) (by (with_reducible repeat (first | refine blk_drewN ?_ _ | refine blk_drew ?_ | refine blk_alloc ?_ _)); exact BK101.out) hb); have n2_ := Aside0.mk (below_step (by repeat (first | (with_reducible first | exact HB.out | apply below_alloc | apply pw_below_drewN | apply below_drew1 | refine below_set ?_ GE101.out) | exact HB.out)) hb); clear BK101; clear HB; have HO105 := n0_; have BK101 := n1_; have HB := n2_; clear n0_ n1_ n2_; (try clear hb); (try clear hb2); (try clear hk); (try clear hi); (try clear ho0)))
    go_ret
    exact ⟨_, by first | rfl | (simp [errW_none, errW_some] <;> rfl) | (simp [*, errW_none, errW_some] <;> rfl), by (with_reducible repeat (first | apply Kd.R_alloc | apply Kd.R_drewN | apply Kd.R_drew)); exact HO105.out, by repeat (first | (with_reducible first | exact HB.out | apply below_alloc | apply pw_below_drewN | apply below_drew1 | refine below_set ?_ GE101.out) | exact HB.out)⟩
  · replace c3 := Bool.eq_false_iff.mpr c3
    subst c3
    have H1 : (some ([] : List Int)) = some r := by rw [if_neg (show ¬ (false = true) by decide)] at H; exact H
    clear H
    have H := H1
    clear H1
    obtain rfl := yey H
    go_enter Try.func33, Try.ntmps33
    go_wp2_with (first | ((with_reducible refine gate_dst (N := 1) rfl ?_); refine box_event ?hg (N := 1) ?hd (cs := #[.slice A0_0 l0_0.length c0_0]) (t := 35) ?hr ?_; (case hd => rfl); (case hg => rfl); (case hr => first | (go_simp; done) | (go_simp; rfl)); intro gb101 hg w10 hbox hb; have n0_ := Aside0.mk (below_step (by repeat (first | (with_reducible first | exact HB.out | apply below_alloc | apply pw_below_drewN | apply below_drew1) | exact HB.out)) hb); have n1_ := Aside0.mk (hbox); have n2_ := Aside0.mk ((by rw [hg]; exact (below_size (by repeat (first | (with_reducible first | exact HB.out | apply below_alloc | apply pw_below_drewN | apply below_drew1) | exact HB.out))) : w.heap.size ≤ gb101)); have n3_ := Aside0.mk ((by rw [hg]; exact (below_size (by repeat (first | (with_reducible first | exact HB.out | apply below_alloc | apply pw_below_drewN | apply below_drew1) | exact HB.out))) : w.heap.size ≤ gb101)); clear HB; have HB := n0_; have BK101 := n1_; have GW101 := n2_; have GE101 := n3_; clear n0_ n1_ n2_ n3_; clear hb hbox hg; have hcz11_0 : w10.cell? ⟨gb101, 0, none⟩ = some (.slice A0_0 l0_0.length c0_0) := (blk_cell BK101.out 0).trans rfl; have hfz11_0 := blk_frozen BK101.out 0) | ((with_reducible refine gate_callee (f := 47) rfl ?_); refine goesL_ (some 4) rfl rfl Try.func47 (by kernel_rfl) rfl #[.agg #[.slice A0_0 l0_0.length c0_0]] rfl (by (try simp only [yiy, yjy, yky]); first | done | rfl | (simp only [yly, ymy]; rfl)) ?_; (with_reducible refine (spec_IsTriangulation.calls k _ _ l0_0 false _ ?side1 ?side2 A2.out).mono ?_); (case side1 => repeat (first | exact (Kd.C_below HR0_0.out HB.out) | (with_reducible refine Kd.C_alloc ?_ _) | (with_reducible refine Kd.C_drewN ?_ _) | (with_reducible refine Kd.C_drew ?_))); (case side2 => exact HC0_0.out); rintro e w12 ⟨rfl, hb⟩; refine ⟨_, rfl, ?_⟩; have n0_ := Aside0.mk (blk_below (g := gb101) (o := .cells #[.slice A0_0 l0_0.length c0_0] 35 (0, 0)) (by (with_reducible repeat (first | refine blk_drewN ?_ _ | refine blk_drew ?_ | refine blk_alloc ?_ _)); exact BK101.out) hb); have n1_ := Aside0.mk (below_step (by repeat (first | (with_reducible first | exact HB.out | apply below_alloc | apply pw_below_drewN | apply below_drew1 | refine below_set ?_ GE101.out) | exact HB.out)) hb); clear BK101; clear HB; have BK101 := n0_; have HB := n1_; clear n0_ n1_; (try clear hb); (try clear hb2); (try clear hk); (try clear hi)))
    go_ret
    exact ⟨_, by first | rfl | (simp [errW_none, errW_some] <;> rfl) | (simp [*, errW_none, errW_some] <;> rfl), by first | exact Kd.R_nil _ _ _ _ _ | exact Kd.N_nil _ _ _ _ _ | exact Kd.V_nil _ _ _ _ _ | exact Kd.Q_nil _ _ _ _ _ | exact Kd.S_nil _ _ _ _ _, by repeat (first | (with_reducible first | exact HB.out | apply below_alloc | apply pw_below_drewN | apply below_drew1 | refine below_set ?_ GE101.out) | exact HB.out)⟩
end Go.Proofs.Ytembbpalgfikiaa.P
namespace Go.Proofs.Ytembbpalgfikiaa.Lib
open Go.RowKit Go.Proofs.YtembbpalgfikiaaW.PrintWords
set_option linter.unusedVariables false
section
variable {α : Type} {d : Kd α} {e b lo hi lo2 hi2 T : Nat} {w w' W : World} {v : Value} {xs ys : List α}
/-- A row of rows of the walk's own (all of it made from b on), its blocks from lo on and before hi. -/
def ObS (d : Kd α) (e b : Nat) (w : World) (lo hi : Nat) (v : Value) (xs : List α) : Prop := hi ≤ w.heap.size ∧ Kd.S d e w b (fun k => lo ≤ k ∧ k < hi) v xs
/-- The same for a row of scalars. -/
def ObR (d : Kd α) (e b : Nat) (w : World) (lo hi : Nat) (v : Value) (xs : List α) : Prop := hi ≤ w.heap.size ∧ Kd.R d e w b (fun k => lo ≤ k ∧ k < hi) v xs
theorem size_set (w : World) (g i : Nat) (u : Value) : w.heap.size ≤ (w.setCell ⟨g, i, none⟩ u).heap.size := ((Below.refl 0 w).setCell (Nat.zero_le _) u).size
theorem ObS.made (ho : Kd.S d e w' W.heap.size (fun _ => True) v xs) (hb : Below W.heap.size W w') (hT : T ≤ W.heap.size) (hB : b ≤ W.heap.size) : ∃ lo hi, (T ≤ lo ∧ lo ≤ hi) ∧ hi ≤ w'.heap.size ∧ ObS d e b w' lo hi v xs :=
  ⟨W.heap.size, w'.heap.size, ⟨hT, hb.size⟩, yoy _, yoy _, Kd.S_lower (Kd.S_mono (Kd.S_bound ho) (fun k hk => ⟨hk.2.1, hk.2.2.1⟩)) hB⟩
theorem ObR.made (ho : Kd.R d e w' W.heap.size (fun _ => True) v xs) (hb : Below W.heap.size W w') (hT : T ≤ W.heap.size) (hB : b ≤ W.heap.size) : ∃ lo hi, (T ≤ lo ∧ lo ≤ hi) ∧ hi ≤ w'.heap.size ∧ ObR d e b w' lo hi v xs :=
  ⟨W.heap.size, w'.heap.size, ⟨hT, hb.size⟩, yoy _, yoy _, Kd.R_lower (Kd.R_mono (Kd.R_bound ho) (fun k hk => ⟨hk.2.1, hk.2.2.1⟩)) hB⟩
theorem ObS.below (h : ObS d e b w lo hi v xs) (hb : Below w.heap.size w w') : ObS d e b w' lo hi v xs := ⟨Nat.le_trans h.1 hb.size, Kd.S_below h.2 hb⟩
theorem ObR.below (h : ObR d e b w lo hi v xs) (hb : Below w.heap.size w w') : ObR d e b w' lo hi v xs := ⟨Nat.le_trans h.1 hb.size, Kd.R_below h.2 hb⟩
theorem ObS.drew (h : ObS d e b w lo hi v xs) : ObS d e b w.drew lo hi v xs := ⟨h.1, Kd.S_drew h.2⟩
theorem ObR.drew (h : ObR d e b w lo hi v xs) : ObR d e b w.drew lo hi v xs := ⟨h.1, Kd.R_drew h.2⟩
theorem ObS.far {g i : Nat} (h : ObS d e b w lo hi v xs) (hg : g < lo ∨ hi ≤ g) (u : Value) : ObS d e b (w.setCell ⟨g, i, none⟩ u) lo hi v xs :=
  ⟨Nat.le_trans h.1 (size_set _ _ _ _), Kd.S_far h.2 (fun k hk => by show k ≠ g; have := hk.1; have := hk.2; omega) u⟩
theorem ObR.far {g i : Nat} (h : ObR d e b w lo hi v xs) (hg : g < lo ∨ hi ≤ g) (u : Value) : ObR d e b (w.setCell ⟨g, i, none⟩ u) lo hi v xs :=
  ⟨Nat.le_trans h.1 (size_set _ _ _ _), Kd.R_far h.2 (fun k hk => by show k ≠ g; have := hk.1; have := hk.2; omega) u⟩
theorem ObS.kept (h : ObS d e b w lo hi v xs) (hk : Kept w w' (fun k => lo2 ≤ k ∧ k < hi2)) (hd : hi ≤ lo2 ∨ hi2 ≤ lo) : ObS d e b w' lo hi v xs :=
  ⟨Nat.le_trans h.1 hk.1, Kd.S_kept h.2 hk (fun k h1 h2 => by have := h1.1; have := h1.2; have := h2.1; have := h2.2; omega)⟩
theorem ObR.kept (h : ObR d e b w lo hi v xs) (hk : Kept w w' (fun k => lo2 ≤ k ∧ k < hi2)) (hd : hi ≤ lo2 ∨ hi2 ≤ lo) : ObR d e b w' lo hi v xs :=
  ⟨Nat.le_trans h.1 hk.1, Kd.R_kept h.2 hk (fun k h1 h2 => by have := h1.1; have := h1.2; have := h2.1; have := h2.2; omega)⟩
theorem ObS.slice (h : ObS d e b w lo hi v xs) : ∃ A c, v = .slice A xs.length c := Kd.S_slice h.2
theorem ObR.slice (h : ObR d e b w lo hi v xs) : ∃ A c, v = .slice A xs.length c := Kd.R_slice h.2
theorem ObS.reads {A : Option Addr} {n c : Nat} (h : ObS d e b w lo hi (.slice A n c) xs) : n = xs.length ∧ n ≤ c ∧ d.C w A xs.length xs := Kd.S_reads' h.2
theorem ObR.reads {A : Option Addr} {n c : Nat} (h : ObR d e b w lo hi (.slice A n c) xs) : n = xs.length ∧ n ≤ c ∧ d.C w A xs.length xs := Kd.R_reads' h.2
theorem ObS.room {A : Option Addr} {n c : Nat} (h : ObS d e b w lo hi (.slice A n c) xs) : xs.length ≤ c := by have := h.reads; omega
theorem ObR.room {A : Option Addr} {n c : Nat} (h : ObR d e b w lo hi (.slice A n c) xs) : xs.length ≤ c := by have := h.reads; omega
theorem ObR.marked {ok' : Nat → Prop} (h : ObR d e b w lo hi v xs) (hE : d.E = []) (hy : Kd.R d e w' b ok' v ys) (hs : w.heap.size ≤ w'.heap.size) : ObR d e b w' lo hi v ys :=
  ⟨Nat.le_trans h.1 hs, Kd.R_reok hE hy (fun k e => h.2.1 k e)⟩
theorem ObS.marked (h : ObS d e b w lo hi v xs) (hy : Kd.S d e w' b (fun k => lo ≤ k ∧ k < hi) v ys) (hs : w.heap.size ≤ w'.heap.size) : ObS d e b w' lo hi v ys := ⟨Nat.le_trans h.1 hs, hy⟩
theorem ObR.range (h : ObR d e b w lo hi v xs) (hk : Kept w w' (fun k_ => some k_ = v.ownBlock)) : Kept w w' (fun k => lo ≤ k ∧ k < hi) := hk.mono (fun k e => h.2.1 k e.symm)
theorem ObS.row (h : ObS d e b w lo hi v xs) : Kd.S d e w b (fun k => lo ≤ k ∧ k < hi) v xs := h.2
theorem ObR.row (h : ObR d e b w lo hi v xs) : Kd.R d e w b (fun k => lo ≤ k ∧ k < hi) v xs := h.2
theorem below_of_drewN {n : Nat} (h : w' = w.drewN n) : Below w.heap.size w w' := h ▸ pw_below_drewN (Below.refl _ _) n
theorem top_below (h : T ≤ w.heap.size) (hb : Below w.heap.size w w') : T ≤ w'.heap.size := Nat.le_trans h hb.size
theorem top_drew (h : T ≤ w.heap.size) : T ≤ w.drew.heap.size := h
theorem top_far {g i : Nat} {u : Value} (h : T ≤ w.heap.size) : T ≤ (w.setCell ⟨g, i, none⟩ u).heap.size := Nat.le_trans h (size_set _ _ _ _)
end
end Go.Proofs.Ytembbpalgfikiaa.Lib
namespace Go.Proofs.Ytembbpalgfikiaa.P
open Go.RowKit Go.Proofs.YtembbpalgfikiaaW.PrintWords Go.Proofs.YtembbpalgfikiaaW.PrintLast Go.Proofs.YtembbpalgfikiaaW.PrintMore
attribute [local go_sem] max2_int min2_int max_two min_two max_three min_three max_four min_four   -- for this text's walks alone
set_option linter.unusedVariables false
set_option linter.unusedSimpArgs false
open Go.Proofs.Ytembbpalgfikiaa.Lib
/-! ### laws_FnExactTetComponents: function 9 -/
def laws_FnExactTetComponents.f (k : Nat) (l0 : List (List (SLawFace))) : Option Bool := (laws_szTriangulation.f k l0 1048576).bind fun t2 => if t2 < 0 then some true else (laws_toTriangulation.f k l0).bind fun t5 => (spec_TetComponents.f k t5).bind fun t8 => (laws_toTriangulation.f k l0).bind fun t11 => (impl_TetComponents.f k t11).bind fun t14 => (laws_eqInt64S.f k t14 t8).bind fun t17 => if t17 = true then (laws_toTriangulation.f k l0).bind fun t19 => (laws_eqTriangulation.f k t11 t19).bind fun t22 => if t22 = true then (laws_markTriangulation.f k t11 1).bind fun bt11 => if bt11.1 < 0 then some false else (laws_eqInt64S.f k t14 t8).bind fun t28 => if t28 = true then (laws_markInt64S.f k t14 1).bind fun bt15 => (laws_heldInt64S.f k bt15.2 1).bind fun t33 => if t33 < 0 then some false else if t33 = bt15.1 then (laws_toTriangulation.f k l0).bind fun t37 => (impl_TetComponents.f k t37).bind fun t40 => (laws_eqInt64S.f k t40 t8).bind fun t43 => if t43 = true then (laws_heldInt64S.f k bt15.2 1).bind fun t45 => if t45 < 0 then some false else if t45 = bt15.1 then some true else some false else some false else some false else some false else some false else some false
set_option maxHeartbeats 8000000 in
set_option maxRecDepth 100000 in
theorem laws_FnExactTetComponents.calls (k : Nat) (A0 : Option Addr) (c0 : Nat) (l0 : List (List (SLawFace))) (w : World) (hr0 : Kd.C (Kd.slice 118 kLawFace) w A0 l0.length l0) (hc0 : l0.length ≤ c0) (h : laws_FnExactTetComponents.f k l0 = some true) :
 Calls Try.prog 9 #[.agg #[.slice A0 l0.length c0]] w fun e w' => e = .returned (.bool true) ∧ Below w.heap.size w w' := by
 have hu28 := Try.underlying28
 have hu35 := Try.underlying35
 have HR0 := Aside0.mk hr0
 have HC0 := Aside0.mk hc0
 clear hr0 hc0
 have HB := Aside0.mk (Below.refl w.heap.size w)
 have HT := Aside0.mk (yoy w.heap.size)
 have H := h
 clear h
 unfold laws_FnExactTetComponents.f at H
 obtain ⟨t2, H10, H⟩ := ydy.mp H
 have H1 := Aside0.mk H10
 clear H10
 by_cases cC3 : t2 < 0
 next =>
  have dC3 : decide (t2 < 0) = true := ygy cC3
  clear cC3 H
  go_enter Try.func9, Try.ntmps9
  try go_wp2_with (first | ((with_reducible refine gate_dst (N := 1) rfl ?_); refine box_event ?hg (N := 1) ?hd (cs := #[.slice A0 l0.length c0]) (t := 28) ?hr ?_; (case hd => rfl); (case hg => rfl); (case hr => first | (go_simp; done) | (go_simp; rfl)); intro g1 hg w1 hbox hb; have HNg1 := Aside0.mk (by rw [hg]; exact HT.out : w.heap.size ≤ g1); have HXg1 := Aside0.mk (show g1 + 1 ≤ w1.heap.size from blk_lt hbox); have nHB := Aside0.mk (below_step HB.out hb); have nHT := Aside0.mk (top_below HT.out hb); clear HB HT  ; have HB := nHB; have HT := nHT; clear nHB nHT  ; clear HT; have HT := HXg1; clear HXg1; have BKg1 := Aside0.mk hbox; clear hg hbox hb; have hczg1 : w1.cell? ⟨g1, 0, none⟩ = some (.slice A0 l0.length c0) := (blk_cell BKg1.out 0).trans rfl; have hfzg1 := blk_frozen BKg1.out 0) | ((with_reducible refine gate_callee (f := 16) rfl ?_); refine goesL_ (some 13) rfl rfl Try.func16 (by kernel_rfl) rfl #[.agg #[.slice A0 l0.length c0], .int .i64 1048576] rfl (by (try simp only [yiy, yjy, yky]); first | done | rfl | (simp only [yly, ymy]; rfl)) ?_; (with_reducible refine (laws_szTriangulation.calls k _ _ l0 1048576 t2 _ ?side1 ?side2 H1.out).mono ?_); (case side1 => exact Kd.C_below HR0.out HB.out); (case side2 => exact HC0.out); rintro e w2 ⟨rfl, hb⟩; refine ⟨_, rfl, ?_⟩; (try clear hczg1 hfzg1); have nBg1 := Aside0.mk (blk_below (g := g1) (o := .cells #[.slice A0 l0.length c0] 28 (0, 0)) BKg1.out hb); have nHB := Aside0.mk (below_step HB.out hb); have nHT := Aside0.mk (top_below HT.out hb); clear HB HT  BKg1; have BKg1 := nBg1; have HB := nHB; have HT := nHT; clear nHB nHT  nBg1; (try clear hb); (try clear hnd); have hczg1 : w2.cell? ⟨g1, 0, none⟩ = some (.slice A0 l0.length c0) := (blk_cell BKg1.out 0).trans rfl; have hfzg1 := blk_frozen BKg1.out 0))
  go_ret
  exact ⟨by first | rfl | (simp <;> rfl), HB.out⟩
 rw [if_neg cC3] at H
 have dC3 : decide (t2 < 0) = false := yhy cC3
 clear cC3
 obtain ⟨t5, H40, H⟩ := ydy.mp H
 have H4 := Aside0.mk H40
 clear H40
 obtain ⟨t8, H70, H⟩ := ydy.mp H
 have H7 := Aside0.mk H70
 clear H70
 obtain ⟨t11, H100, H⟩ := ydy.mp H
 have H10 := Aside0.mk H100
 clear H100
 obtain ⟨t14, H130, H⟩ := ydy.mp H
 have H13 := Aside0.mk H130
 clear H130
 obtain ⟨t17, H160, H⟩ := ydy.mp H
 obtain rfl : t17 = true := by cases t17 with | true => rfl | false => exact absurd H (by simp)
 replace H := H
 have H16 := Aside0.mk H160
 clear H160
 rw [if_pos rfl] at H
 obtain ⟨t19, H180, H⟩ := ydy.mp H
 have H18 := Aside0.mk H180
 clear H180
 obtain ⟨t22, H210, H⟩ := ydy.mp H
 obtain rfl : t22 = true := by cases t22 with | true => rfl | false => exact absurd H (by simp)
 replace H := H
 have H21 := Aside0.mk H210
 clear H210
 rw [if_pos rfl] at H
 obtain ⟨⟨m24, y25⟩, H230, H⟩ := ydy.mp H
 have H23 := Aside0.mk H230
 clear H230
 dsimp only at H
 have cC26 : ¬ (m24 < 0) := fun c_ => by rw [if_pos c_] at H; cases H
 rw [if_neg cC26] at H
 have dC26 : decide (m24 < 0) = false := yhy cC26
 clear cC26
 obtain ⟨t28, H270, H⟩ := ydy.mp H
 obtain rfl : t28 = true := by cases t28 with | true => rfl | false => exact absurd H (by simp)
 replace H := H
 have H27 := Aside0.mk H270
 clear H270
 rw [if_pos rfl] at H
 obtain ⟨⟨m30, y31⟩, H290, H⟩ := ydy.mp H
 have H29 := Aside0.mk H290
 clear H290
 dsimp only at H
 obtain ⟨t33, H320, H⟩ := ydy.mp H
 have H32 := Aside0.mk H320
 clear H320
 have cC34 : ¬ (t33 < 0) := fun c_ => by rw [if_pos c_] at H; cases H
 rw [if_neg cC34] at H
 have dC34 : decide (t33 < 0) = false := yhy cC34
 clear cC34
 have cC35 : t33 = m30 := by by_cases c_ : t33 = m30; exact c_; rw [if_neg c_] at H; cases H
 rw [if_pos cC35] at H
 have dC35 : (t33 != m30) = false := by rw [cC35]; exact bne_self_eq_false _
 clear cC35
 obtain ⟨t37, H360, H⟩ := ydy.mp H
 have H36 := Aside0.mk H360
 clear H360
 obtain ⟨t40, H390, H⟩ := ydy.mp H
 have H39 := Aside0.mk H390
 clear H390
 obtain ⟨t43, H420, H⟩ := ydy.mp H
 obtain rfl : t43 = true := by cases t43 with | true => rfl | false => exact absurd H (by simp)
 replace H := H
 have H42 := Aside0.mk H420
 clear H420
 rw [if_pos rfl] at H
 obtain ⟨t45, H440, H⟩ := ydy.mp H
 have H44 := Aside0.mk H440
 clear H440
 have cC46 : ¬ (t45 < 0) := fun c_ => by rw [if_pos c_] at H; cases H
 rw [if_neg cC46] at H
 have dC46 : decide (t45 < 0) = false := yhy cC46
 clear cC46
 have cC47 : t45 = m30 := by by_cases c_ : t45 = m30; exact c_; rw [if_neg c_] at H; cases H
 rw [if_pos cC47] at H
 have dC47 : (t45 != m30) = false := by rw [cC47]; exact bne_self_eq_false _
 clear cC47
 clear H
 go_enter Try.func9, Try.ntmps9
 try go_wp2_with (first | ((with_reducible refine gate_dst (N := 1) rfl ?_); refine box_event ?hg (N := 1) ?hd (cs := #[.slice A0 l0.length c0]) (t := 28) ?hr ?_; (case hd => rfl); (case hg => rfl); (case hr => first | (go_simp; done) | (go_simp; rfl)); intro g1 hg w1 hbox hb; have HNg1 := Aside0.mk (by rw [hg]; exact HT.out : w.heap.size ≤ g1); have HXg1 := Aside0.mk (show g1 + 1 ≤ w1.heap.size from blk_lt hbox); have nHB := Aside0.mk (below_step HB.out hb); have nHT := Aside0.mk (top_below HT.out hb); clear HB HT  ; have HB := nHB; have HT := nHT; clear nHB nHT  ; clear HT; have HT := HXg1; clear HXg1; have BKg1 := Aside0.mk hbox; clear hg hbox hb; have hczg1 : w1.cell? ⟨g1, 0, none⟩ = some (.slice A0 l0.length c0) := (blk_cell BKg1.out 0).trans rfl; have hfzg1 := blk_frozen BKg1.out 0) | ((with_reducible refine gate_callee (f := 16) rfl ?_); refine goesL_ (some 13) rfl rfl Try.func16 (by kernel_rfl) rfl #[.agg #[.slice A0 l0.length c0], .int .i64 1048576] rfl (by (try simp only [yiy, yjy, yky]); first | done | rfl | (simp only [yly, ymy]; rfl)) ?_; (with_reducible refine (laws_szTriangulation.calls k _ _ l0 1048576 t2 _ ?side1 ?side2 H1.out).mono ?_); (case side1 => exact Kd.C_below HR0.out HB.out); (case side2 => exact HC0.out); rintro e w2 ⟨rfl, hb⟩; refine ⟨_, rfl, ?_⟩; (try clear hczg1 hfzg1); have nBg1 := Aside0.mk (blk_below (g := g1) (o := .cells #[.slice A0 l0.length c0] 28 (0, 0)) BKg1.out hb); have nHB := Aside0.mk (below_step HB.out hb); have nHT := Aside0.mk (top_below HT.out hb); clear HB HT  BKg1; have BKg1 := nBg1; have HB := nHB; have HT := nHT; clear nHB nHT  nBg1; (try clear hb); (try clear hnd); have hczg1 : w2.cell? ⟨g1, 0, none⟩ = some (.slice A0 l0.length c0) := (blk_cell BKg1.out 0).trans rfl; have hfzg1 := blk_frozen BKg1.out 0) | ((with_reducible refine gate_callee (f := 18) rfl ?_); refine goesL_ (some 17) rfl rfl Try.func18 (by kernel_rfl) rfl #[.agg #[.slice A0 l0.length c0]] rfl (by (try simp only [yiy, yjy, yky]); first | done | rfl | (simp only [yly, ymy]; rfl)) ?_; (with_reducible refine (laws_toTriangulation.calls k _ _ l0 t5 _ ?side1 ?side2 H4.out).mono ?_); (case side1 => exact Kd.C_below HR0.out HB.out); (case side2 => exact HC0.out); rintro e w3 ⟨vo6, rfl, ho0, hb⟩; refine ⟨_, rfl, ?_⟩; (try clear hczg1 hfzg1); obtain ⟨loo6, hio6, hno6⟩ := ObS.made ho0 hb HT.out (below_size HB.out); have nBg1 := Aside0.mk (blk_below (g := g1) (o := .cells #[.slice A0 l0.length c0] 28 (0, 0)) BKg1.out hb); have nHB := Aside0.mk (below_step HB.out hb); have nHT := Aside0.mk (top_below HT.out hb); clear HB HT  BKg1; have BKg1 := nBg1; have HB := nHB; have HT := nHT; clear nHB nHT  nBg1; have HNo6 := Aside0.mk hno6.1; clear HT; have HT := Aside0.mk hno6.2.1; have HOo6 := Aside0.mk hno6.2.2; clear hno6 ho0; obtain ⟨Ao6, co6, eeo6⟩ := HOo6.out.slice; subst eeo6; (try clear hb); (try clear hnd); have hczg1 : w3.cell? ⟨g1, 0, none⟩ = some (.slice A0 l0.length c0) := (blk_cell BKg1.out 0).trans rfl; have hfzg1 := blk_frozen BKg1.out 0) | ((with_reducible refine gate_callee (f := 33) rfl ?_); refine goesL_ (some 18) rfl rfl Try.func33 (by kernel_rfl) rfl #[.agg #[.slice Ao6 t5.length co6]] rfl (by (try simp only [yiy, yjy, yky]); first | done | rfl | (simp only [yly, ymy]; rfl)) ?_; (with_reducible refine (spec_TetComponents.calls k _ _ t5 t8 _ ?side1 ?side2 H7.out).mono ?_); (case side1 => exact (ObS.reads HOo6.out).2.2); (case side2 => exact ObS.room HOo6.out); rintro e w4 ⟨vo9, rfl, ho0, hb⟩; refine ⟨_, rfl, ?_⟩; (try clear hczg1 hfzg1); obtain ⟨loo9, hio9, hno9⟩ := ObR.made ho0 hb HT.out (below_size HB.out); have nOo6 := Aside0.mk (ObS.below HOo6.out hb); have nBg1 := Aside0.mk (blk_below (g := g1) (o := .cells #[.slice A0 l0.length c0] 28 (0, 0)) BKg1.out hb); have nHB := Aside0.mk (below_step HB.out hb); have nHT := Aside0.mk (top_below HT.out hb); clear HB HT HOo6 BKg1; have HOo6 := nOo6; have BKg1 := nBg1; have HB := nHB; have HT := nHT; clear nHB nHT nOo6 nBg1; have HNo9 := Aside0.mk hno9.1; clear HT; have HT := Aside0.mk hno9.2.1; have HOo9 := Aside0.mk hno9.2.2; clear hno9 ho0; obtain ⟨Ao9, co9, eeo9⟩ := HOo9.out.slice; subst eeo9; (try clear hb); (try clear hnd); have hczg1 : w4.cell? ⟨g1, 0, none⟩ = some (.slice A0 l0.length c0) := (blk_cell BKg1.out 0).trans rfl; have hfzg1 := blk_frozen BKg1.out 0) | ((with_reducible refine gate_callee (f := 18) rfl ?_); refine goesL_ (some 20) rfl rfl Try.func18 (by kernel_rfl) rfl #[.agg #[.slice A0 l0.length c0]] rfl (by (try simp only [yiy, yjy, yky]); first | done | rfl | (simp only [yly, ymy]; rfl)) ?_; (with_reducible refine (laws_toTriangulation.calls k _ _ l0 t11 _ ?side1 ?side2 H10.out).mono ?_); (case side1 => exact Kd.C_below HR0.out HB.out); (case side2 => exact HC0.out); rintro e w5 ⟨vo12, rfl, ho0, hb⟩; refine ⟨_, rfl, ?_⟩; (try clear hczg1 hfzg1); obtain ⟨loo12, hio12, hno12⟩ := ObS.made ho0 hb HT.out (below_size HB.out); have nOo6 := Aside0.mk (ObS.below HOo6.out hb); have nOo9 := Aside0.mk (ObR.below HOo9.out hb); have nBg1 := Aside0.mk (blk_below (g := g1) (o := .cells #[.slice A0 l0.length c0] 28 (0, 0)) BKg1.out hb); have nHB := Aside0.mk (below_step HB.out hb); have nHT := Aside0.mk (top_below HT.out hb); clear HB HT HOo6 HOo9 BKg1; have HOo6 := nOo6; have HOo9 := nOo9; have BKg1 := nBg1; have HB := nHB; have HT := nHT; clear nHB nHT nOo6 nOo9 nBg1; have HNo12 := Aside0.mk hno12.1; clear HT; have HT := Aside0.mk hno12.2.1; have HOo12 := Aside0.mk hno12.2.2; clear hno12 ho0; obtain ⟨Ao12, co12, eeo12⟩ := HOo12.out.slice; subst eeo12; (try clear hb); (try clear hnd); have hczg1 : w5.cell? ⟨g1, 0, none⟩ = some (.slice A0 l0.length c0) := (blk_cell BKg1.out 0).trans rfl; have hfzg1 := blk_frozen BKg1.out 0) | ((with_reducible refine gate_dst (N := 5) rfl ?_); refine box_event ?hg (N := 5) ?hd (cs := #[.slice none 0 0]) (t := 35) ?hr ?_; (case hd => rfl); (case hg => rfl); (case hr => first | (go_simp; done) | (go_simp; rfl)); intro g5 hg w6 hbox hb; (try clear hczg1 hfzg1); have HNg5 := Aside0.mk (by rw [hg]; exact HT.out : hio12 ≤ g5); have HXg5 := Aside0.mk (show g5 + 1 ≤ w6.heap.size from blk_lt hbox); have nOo6 := Aside0.mk (ObS.below HOo6.out hb); have nOo9 := Aside0.mk (ObR.below HOo9.out hb); have nOo12 := Aside0.mk (ObS.below HOo12.out hb); have nBg1 := Aside0.mk (blk_below (g := g1) (o := .cells #[.slice A0 l0.length c0] 28 (0, 0)) BKg1.out hb); have nHB := Aside0.mk (below_step HB.out hb); have nHT := Aside0.mk (top_below HT.out hb); clear HB HT HOo6 HOo9 HOo12 BKg1; have HOo6 := nOo6; have HOo9 := nOo9; have HOo12 := nOo12; have BKg1 := nBg1; have HB := nHB; have HT := nHT; clear nHB nHT nOo6 nOo9 nOo12 nBg1; clear HT; have HT := HXg5; clear HXg5; have BKg5 := Aside0.mk hbox; clear hg hbox hb; have hnbg5_g1 : g5 ≠ g1 := (by have := HNg1.out; have := HNo6.out; have := HNo9.out; have := HNo12.out; have := HNg5.out; omega); have hnbg1_g5 : g1 ≠ g5 := (by have := HNg1.out; have := HNo6.out; have := HNo9.out; have := HNo12.out; have := HNg5.out; omega); have hczg1 : w6.cell? ⟨g1, 0, none⟩ = some (.slice A0 l0.length c0) := (blk_cell BKg1.out 0).trans rfl; have hfzg1 := blk_frozen BKg1.out 0; have hczg5 : w6.cell? ⟨g5, 0, none⟩ = some (.slice none 0 0) := (blk_cell BKg5.out 0).trans rfl; have hfzg5 := blk_frozen BKg5.out 0) | ((with_reducible refine gate_callee (f := 34) rfl ?_); refine goesL_ (some 22) rfl rfl Try.func34 (by kernel_rfl) rfl #[.agg #[.slice Ao12 t11.length co12]] rfl (by (try simp only [yiy, yjy, yky]); first | done | rfl | (simp only [yly, ymy]; rfl)) ?_; (with_reducible refine (impl_TetComponents.calls k _ _ t11 t14 _ ?side1 ?side2 H13.out).mono ?_); (case side1 => exact (ObS.reads (ObS.far (g := g5) (i := 0) HOo12.out (by have := HNg1.out; have := HNo6.out; have := HNo9.out; have := HNo12.out; have := HNg5.out; omega) _)).2.2); (case side2 => exact ObS.room HOo12.out); rintro e w7 ⟨vo15, rfl, ho0, hb⟩; refine ⟨_, rfl, ?_⟩; (try clear hczg1 hfzg1 hczg5 hfzg5); obtain ⟨loo15, hio15, hno15⟩ := ObR.made ho0 hb (top_far HT.out) (below_size (below_set HB.out (show w.heap.size ≤ g5 from (by have := HNg1.out; have := HNo6.out; have := HNo9.out; have := HNo12.out; have := HNg5.out; omega)))); have nOo6 := Aside0.mk (ObS.below (ObS.far (g := g5) (i := 0) HOo6.out (by have := HNg1.out; have := HNo6.out; have := HNo9.out; have := HNo12.out; have := HNg5.out; omega) _) hb); have nOo9 := Aside0.mk (ObR.below (ObR.far (g := g5) (i := 0) HOo9.out (by have := HNg1.out; have := HNo6.out; have := HNo9.out; have := HNo12.out; have := HNg5.out; omega) _) hb); have nOo12 := Aside0.mk (ObS.below (ObS.far (g := g5) (i := 0) HOo12.out (by have := HNg1.out; have := HNo6.out; have := HNo9.out; have := HNo12.out; have := HNg5.out; omega) _) hb); have nBg1 := Aside0.mk (blk_below (g := g1) (o := .cells #[.slice A0 l0.length c0] 28 (0, 0)) (blk_far (p := ⟨g5, 0, none⟩) BKg1.out (show g1 ≠ g5 from (by have := HNg1.out; have := HNo6.out; have := HNo9.out; have := HNo12.out; have := HNg5.out; omega)) _) hb); have nBg5 := Aside0.mk (blk_below (g := g5) (o := .cells #[.slice Ao12 t11.length co12] 35 (0, 0)) (blk_put (cs := #[.slice none 0 0]) BKg5.out 0 _ rfl) hb); have nHB := Aside0.mk (below_step (below_set HB.out (show w.heap.size ≤ g5 from (by have := HNg1.out; have := HNo6.out; have := HNo9.out; have := HNo12.out; have := HNg5.out; omega))) hb); have nHT := Aside0.mk (top_below (top_far HT.out) hb); clear HB HT HOo6 HOo9 HOo12 BKg1 BKg5; have HOo6 := nOo6; have HOo9 := nOo9; have HOo12 := nOo12; have BKg1 := nBg1; have BKg5 := nBg5; have HB := nHB; have HT := nHT; clear nHB nHT nOo6 nOo9 nOo12 nBg1 nBg5; have HNo15 := Aside0.mk hno15.1; clear HT; have HT := Aside0.mk hno15.2.1; have HOo15 := Aside0.mk hno15.2.2; clear hno15 ho0; obtain ⟨Ao15, co15, eeo15⟩ := HOo15.out.slice; subst eeo15; (try clear hb); (try clear hnd); have hczg1 : w7.cell? ⟨g1, 0, none⟩ = some (.slice A0 l0.length c0) := (blk_cell BKg1.out 0).trans rfl; have hfzg1 := blk_frozen BKg1.out 0; have hczg5 : w7.cell? ⟨g5, 0, none⟩ = some (.slice Ao12 t11.length co12) := (blk_cell BKg5.out 0).trans rfl; have hfzg5 := blk_frozen BKg5.out 0) | ((with_reducible refine gate_callee (f := 15) rfl ?_); refine goesL_ (some 25) rfl rfl Try.func15 (by kernel_rfl) rfl #[.slice Ao15 t14.length co15, .slice Ao9 t8.length co9] rfl (by (try simp only [yiy, yjy, yky]); first | done | rfl | (simp only [yly, ymy]; rfl)) ?_; (with_reducible refine (laws_eqInt64S.calls k _ _ t14 _ _ t8 true _ ?side1 ?side2 ?side3 ?side4 H16.out).mono ?_); (case side1 => exact (ObR.reads HOo15.out).2.2); (case side2 => exact ObR.room HOo15.out); (case side3 => exact (ObR.reads HOo9.out).2.2); (case side4 => exact ObR.room HOo9.out); rintro e w8 ⟨rfl, ⟨nd, hnd⟩⟩; refine ⟨_, rfl, ?_⟩; have hb := below_of_drewN hnd; (try clear hczg1 hfzg1 hczg5 hfzg5); have nOo6 := Aside0.mk (ObS.below HOo6.out hb); have nOo9 := Aside0.mk (ObR.below HOo9.out hb); have nOo12 := Aside0.mk (ObS.below HOo12.out hb); have nOo15 := Aside0.mk (ObR.below HOo15.out hb); have nBg1 := Aside0.mk (blk_below (g := g1) (o := .cells #[.slice A0 l0.length c0] 28 (0, 0)) BKg1.out hb); have nBg5 := Aside0.mk (blk_below (g := g5) (o := .cells #[.slice Ao12 t11.length co12] 35 (0, 0)) BKg5.out hb); have nHB := Aside0.mk (below_step HB.out hb); have nHT := Aside0.mk (top_below HT.out hb); clear HB HT HOo6 HOo9 HOo12 HOo15 BKg1 BKg5; have HOo6 := nOo6; have HOo9 := nOo9; have HOo12 := nOo12; have HOo15 := nOo15; have BKg1 := nBg1; have BKg5 := nBg5; have HB := nHB; have HT := nHT; clear nHB nHT nOo6 nOo9 nOo12 nOo15 nBg1 nBg5; (try clear hb); (try clear hnd); have hczg1 : w8.cell? ⟨g1, 0, none⟩ = some (.slice A0 l0.length c0) := (blk_cell BKg1.out 0).trans rfl; have hfzg1 := blk_frozen BKg1.out 0; have hczg5 : w8.cell? ⟨g5, 0, none⟩ = some (.slice Ao12 t11.length co12) := (blk_cell BKg5.out 0).trans rfl; have hfzg5 := blk_frozen BKg5.out 0))
 (try clear hczg1 hfzg1 hczg5 hfzg5)
 have nOo6 := Aside0.mk (ObS.drew HOo6.out)
 have nOo9 := Aside0.mk (ObR.drew HOo9.out)
 have nOo12 := Aside0.mk (ObS.drew HOo12.out)
 have nOo15 := Aside0.mk (ObR.drew HOo15.out)
 have nBg1 := Aside0.mk (blk_drew BKg1.out)
 have nBg5 := Aside0.mk (blk_drew BKg5.out)
 have nHB := Aside0.mk (below_drew1 HB.out)
 have nHT := Aside0.mk (top_drew HT.out)
 clear HB HT HOo6 HOo9 HOo12 HOo15 BKg1 BKg5
 have HOo6 := nOo6
 have HOo9 := nOo9
 have HOo12 := nOo12
 have HOo15 := nOo15
 have BKg1 := nBg1
 have BKg5 := nBg5
 have HB := nHB
 have HT := nHT
 clear nHB nHT nOo6 nOo9 nOo12 nOo15 nBg1 nBg5
 refine start_ (n := 5) (S := fun w' => w'.cell? ⟨g5, 0, none⟩ = some (.slice Ao12 t11.length co12) ∧ w'.cell? ⟨g1, 0, none⟩ = some (.slice A0 l0.length c0)) (ds := []) #[false, false, false, false, false] (by kernel_rfl) rfl rfl ⟨(blk_cell BKg5.out 0).trans rfl, (blk_cell BKg1.out 0).trans rfl⟩ (fun hHeld => ?_)
 generalize hdr_ : World.drew _ = w9 at HOo6 HOo9 HOo12 HOo15 BKg1 BKg5 HB HT hHeld ⊢
 (try clear hdr_)
 refine take_ (i := 0) (N := some 27) (v := ?_) (a' := ?_) #[true, false, false, false, false] rfl rfl (by kernel_rfl) (fun _ _ _ h => h) (Or.inl ⟨by rfl, ?_⟩) hHeld ?_ ?_
 rotate_left
 next =>
  rintro w' ⟨s0, s1⟩
  go_simp
  with_reducible rfl
 rotate_left
 next =>
  simp only [Act.put, yay, yby, ycy, i64_w, i32_w]
  rfl
 refine take_ (i := 1) (N := some 28) (v := ?_) (a' := ?_) #[true, true, false, false, false] rfl rfl (by kernel_rfl) (fun _ _ _ h => h) (Or.inl ⟨by rfl, ?_⟩) hHeld ?_ ?_
 rotate_left
 next =>
  rintro w' ⟨s0, s1⟩
  go_simp
  with_reducible rfl
 rotate_left
 next =>
  simp only [Act.put, yay, yby, ycy, i64_w, i32_w]
  rfl
 refine one_ (i := 2) (N := some 29) #[true, true, true, false, false] rfl rfl (by kernel_rfl) (by decide) (fun K hK => ?_)
 refine goes_ Try.func18 (by kernel_rfl) rfl #[.agg #[.slice A0 l0.length c0]] (by rfl) rfl rfl (by (try simp only [yiy, yjy, yky]); first | done | rfl | (simp only [yly, ymy]; rfl)) ?_
 with_reducible refine (laws_toTriangulation.calls k _ _ l0 t19 _ ?side1 ?side2 H18.out).mono ?_
 (case side1 => exact Kd.C_below HR0.out HB.out)
 (case side2 => exact HC0.out)
 rintro e w10 ⟨vo20, rfl, ho0, hb⟩
 refine ⟨_, rfl, ?_⟩
 (try clear hczg1 hfzg1 hczg5 hfzg5)
 obtain ⟨loo20, hio20, hno20⟩ := ObS.made ho0 hb HT.out (below_size HB.out)
 have nOo6 := Aside0.mk (ObS.below HOo6.out hb)
 have nOo9 := Aside0.mk (ObR.below HOo9.out hb)
 have nOo12 := Aside0.mk (ObS.below HOo12.out hb)
 have nOo15 := Aside0.mk (ObR.below HOo15.out hb)
 have nBg1 := Aside0.mk (blk_below (g := g1) (o := .cells #[.slice A0 l0.length c0] 28 (0, 0)) BKg1.out hb)
 have nBg5 := Aside0.mk (blk_below (g := g5) (o := .cells #[.slice Ao12 t11.length co12] 35 (0, 0)) BKg5.out hb)
 have nHB := Aside0.mk (below_step HB.out hb)
 have nHT := Aside0.mk (top_below HT.out hb)
 clear HB HT HOo6 HOo9 HOo12 HOo15 BKg1 BKg5
 have HOo6 := nOo6
 have HOo9 := nOo9
 have HOo12 := nOo12
 have HOo15 := nOo15
 have BKg1 := nBg1
 have BKg5 := nBg5
 have HB := nHB
 have HT := nHT
 clear nHB nHT nOo6 nOo9 nOo12 nOo15 nBg1 nBg5
 have HNo20 := Aside0.mk hno20.1
 clear HT
 have HT := Aside0.mk hno20.2.1
 have HOo20 := Aside0.mk hno20.2.2
 clear hno20 ho0
 obtain ⟨Ao20, co20, eeo20⟩ := HOo20.out.slice
 subst eeo20
 (try clear hb)
 (try clear hnd)
 refine hK.out _ _ ⟨(blk_cell BKg5.out 0).trans rfl, (blk_cell BKg1.out 0).trans rfl⟩ (fun hHeld => ?_)
 clear hK K
 refine norm_ (a' := ?_) ?_ ?_
 rotate_left
 next =>
  show Act.put _ (some 29) _ = _
  simp only [Act.put, yay, yby, ycy, i64_w, i32_w]
  rfl
 refine one_ (i := 3) (N := some 30) #[true, true, true, true, false] rfl rfl (by kernel_rfl) (by decide) (fun K hK => ?_)
 refine goes_ Try.func21 (by kernel_rfl) rfl #[.agg #[.slice Ao12 t11.length co12], .agg #[.slice Ao20 t19.length co20]] (by rfl) rfl rfl (by (try simp only [yiy, yjy, yky]); first | done | rfl | (simp only [yly, ymy]; rfl)) ?_
 with_reducible refine (laws_eqTriangulation.calls k _ _ t11 _ _ t19 true _ ?side1 ?side2 ?side3 ?side4 H21.out).mono ?_
 (case side1 => exact (ObS.reads HOo12.out).2.2)
 (case side2 => exact ObS.room HOo12.out)
 (case side3 => exact (ObS.reads HOo20.out).2.2)
 (case side4 => exact ObS.room HOo20.out)
 rintro e w11 ⟨rfl, hb⟩
 refine ⟨_, rfl, ?_⟩
 (try clear hczg1 hfzg1 hczg5 hfzg5)
 have nOo6 := Aside0.mk (ObS.below HOo6.out hb)
 have nOo9 := Aside0.mk (ObR.below HOo9.out hb)
 have nOo12 := Aside0.mk (ObS.below HOo12.out hb)
 have nOo15 := Aside0.mk (ObR.below HOo15.out hb)
 have nOo20 := Aside0.mk (ObS.below HOo20.out hb)
 have nBg1 := Aside0.mk (blk_below (g := g1) (o := .cells #[.slice A0 l0.length c0] 28 (0, 0)) BKg1.out hb)
 have nBg5 := Aside0.mk (blk_below (g := g5) (o := .cells #[.slice Ao12 t11.length co12] 35 (0, 0)) BKg5.out hb)
 have nHB := Aside0.mk (below_step HB.out hb)
 have nHT := Aside0.mk (top_below HT.out hb)
 clear HB HT HOo6 HOo9 HOo12 HOo15 HOo20 BKg1 BKg5
 have HOo6 := nOo6
 have HOo9 := nOo9
 have HOo12 := nOo12
 have HOo15 := nOo15
 have HOo20 := nOo20
 have BKg1 := nBg1
 have BKg5 := nBg5
 have HB := nHB
 have HT := nHT
 clear nHB nHT nOo6 nOo9 nOo12 nOo15 nOo20 nBg1 nBg5
 (try clear hb)
 (try clear hnd)
 refine hK.out _ _ ⟨(blk_cell BKg5.out 0).trans rfl, (blk_cell BKg1.out 0).trans rfl⟩ (fun hHeld => ?_)
 clear hK K
 refine norm_ (a' := ?_) ?_ ?_
 rotate_left
 next =>
  show Act.put _ (some 30) _ = _
  simp only [Act.put, yay, yby, ycy, i64_w, i32_w]
  rfl
 refine pure_ (i := 4) (N := some 31) (v := ?_) (a' := ?_) #[true, true, true, true, true] rfl rfl (by kernel_rfl) (fun _ _ _ h => h) (Or.inl ⟨by rfl, ?_⟩) ?_ ?_
 rotate_left
 next =>
  intro w'
  go_simp
  with_reducible rfl
 rotate_left
 next =>
  simp only [Act.put, yay, yby, ycy, i64_w, i32_w]
  rfl
 refine done_ (by kernel_rfl) ?_
 have hczg1 : w11.cell? ⟨g1, 0, none⟩ = some (.slice A0 l0.length c0) := (blk_cell BKg1.out 0).trans rfl
 have hfzg1 := blk_frozen BKg1.out 0
 have hczg5 : w11.cell? ⟨g5, 0, none⟩ = some (.slice Ao12 t11.length co12) := (blk_cell BKg5.out 0).trans rfl
 have hfzg5 := blk_frozen BKg5.out 0
 try go_wp2_with (first | ((with_reducible refine gate_callee (f := 22) rfl ?_); refine goesL_ (some 34) rfl rfl Try.func22 (by kernel_rfl) rfl #[.agg #[.slice Ao12 t11.length co12], .int .i64 1] rfl (by (try simp only [yiy, yjy, yky]); first | done | rfl | (simp only [yly, ymy]; rfl)) ?_; (with_reducible refine (laws_markTriangulation.calls k (fun k_ => loo12 ≤ k_ ∧ k_ < hio12) (.slice Ao12 t11.length co12) t11 1 m24 y25 w _ HB.out (ObS.row HOo12.out) H23.out).mono ?_); rintro e w12 ⟨rfl, hy, hb, hk0⟩; refine ⟨_, rfl, ?_⟩; have hk := hk0; have nM := Aside0.mk (ObS.marked HOo12.out hy hk.1); (try clear hczg1 hfzg1 hczg5 hfzg5); have nOo6 := Aside0.mk (ObS.kept HOo6.out hk (by have := HNg1.out; have := HNo6.out; have := HNo9.out; have := HNo12.out; have := HNg5.out; have := HNo15.out; have := HNo20.out; omega)); have nOo9 := Aside0.mk (ObR.kept HOo9.out hk (by have := HNg1.out; have := HNo6.out; have := HNo9.out; have := HNo12.out; have := HNg5.out; have := HNo15.out; have := HNo20.out; omega)); have nOo15 := Aside0.mk (ObR.kept HOo15.out hk (by have := HNg1.out; have := HNo6.out; have := HNo9.out; have := HNo12.out; have := HNg5.out; have := HNo15.out; have := HNo20.out; omega)); have nOo20 := Aside0.mk (ObS.kept HOo20.out hk (by have := HNg1.out; have := HNo6.out; have := HNo9.out; have := HNo12.out; have := HNg5.out; have := HNo15.out; have := HNo20.out; omega)); have nBg1 := Aside0.mk (blk_kept (g := g1) (o := .cells #[.slice A0 l0.length c0] 28 (0, 0)) BKg1.out hk (fun h_ => by have h1_ := h_.1; have h2_ := h_.2; have := HNg1.out; have := HNo6.out; have := HNo9.out; have := HNo12.out; have := HNg5.out; have := HNo15.out; have := HNo20.out; omega)); have nBg5 := Aside0.mk (blk_kept (g := g5) (o := .cells #[.slice Ao12 t11.length co12] 35 (0, 0)) BKg5.out hk (fun h_ => by have h1_ := h_.1; have h2_ := h_.2; have := HNg1.out; have := HNo6.out; have := HNo9.out; have := HNo12.out; have := HNg5.out; have := HNo15.out; have := HNo20.out; omega)); have nHT := Aside0.mk (Nat.le_trans HT.out hk.1); clear HB HT HOo6 HOo9 HOo12 HOo15 HOo20 BKg1 BKg5; have HOo6 := nOo6; have HOo9 := nOo9; have HOo12 := nM; have HOo15 := nOo15; have HOo20 := nOo20; have BKg1 := nBg1; have BKg5 := nBg5; have HB := Aside0.mk hb; have HT := nHT; (try clear hy); clear hb hk0 hk nM nHT nOo6 nOo9 nOo15 nOo20 nBg1 nBg5; have hczg1 : w12.cell? ⟨g1, 0, none⟩ = some (.slice A0 l0.length c0) := (blk_cell BKg1.out 0).trans rfl; have hfzg1 := blk_frozen BKg1.out 0; have hczg5 : w12.cell? ⟨g5, 0, none⟩ = some (.slice Ao12 t11.length co12) := (blk_cell BKg5.out 0).trans rfl; have hfzg5 := blk_frozen BKg5.out 0))
 try go_wp2_with (first | (go_at_call 15; (with_reducible refine (laws_eqInt64S.calls k _ _ t14 _ _ t8 true _ ?side1 ?side2 ?side3 ?side4 H27.out).mono ?_); (case side1 => exact (ObR.reads HOo15.out).2.2); (case side2 => exact ObR.room HOo15.out); (case side3 => exact (ObR.reads HOo9.out).2.2); (case side4 => exact ObR.room HOo9.out); rintro e w13 ⟨rfl, ⟨nd, hnd⟩⟩; have hb := below_of_drewN hnd; (try clear hczg1 hfzg1 hczg5 hfzg5); have nOo6 := Aside0.mk (ObS.below HOo6.out hb); have nOo9 := Aside0.mk (ObR.below HOo9.out hb); have nOo12 := Aside0.mk (ObS.below HOo12.out hb); have nOo15 := Aside0.mk (ObR.below HOo15.out hb); have nOo20 := Aside0.mk (ObS.below HOo20.out hb); have nBg1 := Aside0.mk (blk_below (g := g1) (o := .cells #[.slice A0 l0.length c0] 28 (0, 0)) BKg1.out hb); have nBg5 := Aside0.mk (blk_below (g := g5) (o := .cells #[.slice Ao12 t11.length co12] 35 (0, 0)) BKg5.out hb); have nHB := Aside0.mk (below_step HB.out hb); have nHT := Aside0.mk (top_below HT.out hb); clear HB HT HOo6 HOo9 HOo12 HOo15 HOo20 BKg1 BKg5; have HOo6 := nOo6; have HOo9 := nOo9; have HOo12 := nOo12; have HOo15 := nOo15; have HOo20 := nOo20; have BKg1 := nBg1; have BKg5 := nBg5; have HB := nHB; have HT := nHT; clear nHB nHT nOo6 nOo9 nOo12 nOo15 nOo20 nBg1 nBg5; (try clear hb); (try clear hnd); have hczg1 : w13.cell? ⟨g1, 0, none⟩ = some (.slice A0 l0.length c0) := (blk_cell BKg1.out 0).trans rfl; have hfzg1 := blk_frozen BKg1.out 0; have hczg5 : w13.cell? ⟨g5, 0, none⟩ = some (.slice Ao12 t11.length co12) := (blk_cell BKg5.out 0).trans rfl; have hfzg5 := blk_frozen BKg5.out 0) | ((with_reducible refine gate_callee (f := 35) rfl ?_); refine goesL_ (some 45) rfl rfl Try.func35 (by kernel_rfl) rfl #[.slice Ao15 t14.length co15, .int .i64 1] rfl (by (try simp only [yiy, yjy, yky]); first | done | rfl | (simp only [yly, ymy]; rfl)) ?_; (with_reducible refine (laws_markInt64S.calls k (fun k_ => some k_ = (.slice Ao15 t14.length co15 : Value).ownBlock) (.slice Ao15 t14.length co15) t14 1 m30 y31 w _ HB.out (Kd.R_tight rfl (ObR.row HOo15.out)) H29.out).mono ?_); rintro e w14 ⟨rfl, hy, hb, hk0⟩; refine ⟨_, rfl, ?_⟩; have hk := ObR.range HOo15.out hk0; have nM := Aside0.mk (ObR.marked HOo15.out rfl hy hk.1); (try clear hczg1 hfzg1 hczg5 hfzg5); have nOo6 := Aside0.mk (ObS.kept HOo6.out hk (by have := HNg1.out; have := HNo6.out; have := HNo9.out; have := HNo12.out; have := HNg5.out; have := HNo15.out; have := HNo20.out; omega)); have nOo9 := Aside0.mk (ObR.kept HOo9.out hk (by have := HNg1.out; have := HNo6.out; have := HNo9.out; have := HNo12.out; have := HNg5.out; have := HNo15.out; have := HNo20.out; omega)); have nOo12 := Aside0.mk (ObS.kept HOo12.out hk (by have := HNg1.out; have := HNo6.out; have := HNo9.out; have := HNo12.out; have := HNg5.out; have := HNo15.out; have := HNo20.out; omega)); have nOo20 := Aside0.mk (ObS.kept HOo20.out hk (by have := HNg1.out; have := HNo6.out; have := HNo9.out; have := HNo12.out; have := HNg5.out; have := HNo15.out; have := HNo20.out; omega)); have nBg1 := Aside0.mk (blk_kept (g := g1) (o := .cells #[.slice A0 l0.length c0] 28 (0, 0)) BKg1.out hk (fun h_ => by have h1_ := h_.1; have h2_ := h_.2; have := HNg1.out; have := HNo6.out; have := HNo9.out; have := HNo12.out; have := HNg5.out; have := HNo15.out; have := HNo20.out; omega)); have nBg5 := Aside0.mk (blk_kept (g := g5) (o := .cells #[.slice Ao12 t11.length co12] 35 (0, 0)) BKg5.out hk (fun h_ => by have h1_ := h_.1; have h2_ := h_.2; have := HNg1.out; have := HNo6.out; have := HNo9.out; have := HNo12.out; have := HNg5.out; have := HNo15.out; have := HNo20.out; omega)); have nHT := Aside0.mk (Nat.le_trans HT.out hk.1); clear HB HT HOo6 HOo9 HOo12 HOo15 HOo20 BKg1 BKg5; have HOo6 := nOo6; have HOo9 := nOo9; have HOo12 := nOo12; have HOo15 := nM; have HOo20 := nOo20; have BKg1 := nBg1; have BKg5 := nBg5; have HB := Aside0.mk hb; have HT := nHT; (try clear hy); clear hb hk0 hk nM nHT nOo6 nOo9 nOo12 nOo20 nBg1 nBg5; have hczg1 : w14.cell? ⟨g1, 0, none⟩ = some (.slice A0 l0.length c0) := (blk_cell BKg1.out 0).trans rfl; have hfzg1 := blk_frozen BKg1.out 0; have hczg5 : w14.cell? ⟨g5, 0, none⟩ = some (.slice Ao12 t11.length co12) := (blk_cell BKg5.out 0).trans rfl; have hfzg5 := blk_frozen BKg5.out 0) | ((with_reducible refine gate_callee (f := 36) rfl ?_); refine goesL_ (some 48) rfl rfl Try.func36 (by kernel_rfl) rfl #[.slice Ao15 y31.length co15, .int .i64 1] rfl (by (try simp only [yiy, yjy, yky]); first | done | (rw [show y31.length = t14.length from (ObR.reads HOo15.out).1.symm] <;> rfl) | rfl | (simp only [yly, ymy]; rfl)) ?_; (with_reducible refine (laws_heldInt64S.calls k _ _ y31 1 t33 _ ?side1 ?side2 H32.out).mono ?_); (case side1 => exact (ObR.reads HOo15.out).2.2); (case side2 => exact ObR.room HOo15.out); rintro e w15 ⟨rfl, ⟨nd, hnd⟩⟩; refine ⟨_, rfl, ?_⟩; have hb := below_of_drewN hnd; (try clear hczg1 hfzg1 hczg5 hfzg5); have nOo6 := Aside0.mk (ObS.below HOo6.out hb); have nOo9 := Aside0.mk (ObR.below HOo9.out hb); have nOo12 := Aside0.mk (ObS.below HOo12.out hb); have nOo15 := Aside0.mk (ObR.below HOo15.out hb); have nOo20 := Aside0.mk (ObS.below HOo20.out hb); have nBg1 := Aside0.mk (blk_below (g := g1) (o := .cells #[.slice A0 l0.length c0] 28 (0, 0)) BKg1.out hb); have nBg5 := Aside0.mk (blk_below (g := g5) (o := .cells #[.slice Ao12 t11.length co12] 35 (0, 0)) BKg5.out hb); have nHB := Aside0.mk (below_step HB.out hb); have nHT := Aside0.mk (top_below HT.out hb); clear HB HT HOo6 HOo9 HOo12 HOo15 HOo20 BKg1 BKg5; have HOo6 := nOo6; have HOo9 := nOo9; have HOo12 := nOo12; have HOo15 := nOo15; have HOo20 := nOo20; have BKg1 := nBg1; have BKg5 := nBg5; have HB := nHB; have HT := nHT; clear nHB nHT nOo6 nOo9 nOo12 nOo15 nOo20 nBg1 nBg5; (try clear hb); (try clear hnd); have hczg1 : w15.cell? ⟨g1, 0, none⟩ = some (.slice A0 l0.length c0) := (blk_cell BKg1.out 0).trans rfl; have hfzg1 := blk_frozen BKg1.out 0; have hczg5 : w15.cell? ⟨g5, 0, none⟩ = some (.slice Ao12 t11.length co12) := (blk_cell BKg5.out 0).trans rfl; have hfzg5 := blk_frozen BKg5.out 0) | ((with_reducible refine gate_callee (f := 18) rfl ?_); refine goesL_ (some 55) rfl rfl Try.func18 (by kernel_rfl) rfl #[.agg #[.slice A0 l0.length c0]] rfl (by (try simp only [yiy, yjy, yky]); first | done | rfl | (simp only [yly, ymy]; rfl)) ?_; (with_reducible refine (laws_toTriangulation.calls k _ _ l0 t37 _ ?side1 ?side2 H36.out).mono ?_); (case side1 => exact Kd.C_below HR0.out HB.out); (case side2 => exact HC0.out); rintro e w16 ⟨vo38, rfl, ho0, hb⟩; refine ⟨_, rfl, ?_⟩; (try clear hczg1 hfzg1 hczg5 hfzg5); obtain ⟨loo38, hio38, hno38⟩ := ObS.made ho0 hb HT.out (below_size HB.out); have nOo6 := Aside0.mk (ObS.below HOo6.out hb); have nOo9 := Aside0.mk (ObR.below HOo9.out hb); have nOo12 := Aside0.mk (ObS.below HOo12.out hb); have nOo15 := Aside0.mk (ObR.below HOo15.out hb); have nOo20 := Aside0.mk (ObS.below HOo20.out hb); have nBg1 := Aside0.mk (blk_below (g := g1) (o := .cells #[.slice A0 l0.length c0] 28 (0, 0)) BKg1.out hb); have nBg5 := Aside0.mk (blk_below (g := g5) (o := .cells #[.slice Ao12 t11.length co12] 35 (0, 0)) BKg5.out hb); have nHB := Aside0.mk (below_step HB.out hb); have nHT := Aside0.mk (top_below HT.out hb); clear HB HT HOo6 HOo9 HOo12 HOo15 HOo20 BKg1 BKg5; have HOo6 := nOo6; have HOo9 := nOo9; have HOo12 := nOo12; have HOo15 := nOo15; have HOo20 := nOo20; have BKg1 := nBg1; have BKg5 := nBg5; have HB := nHB; have HT := nHT; clear nHB nHT nOo6 nOo9 nOo12 nOo15 nOo20 nBg1 nBg5; have HNo38 := Aside0.mk hno38.1; clear HT; have HT := Aside0.mk hno38.2.1; have HOo38 := Aside0.mk hno38.2.2; clear hno38 ho0; obtain ⟨Ao38, co38, eeo38⟩ := HOo38.out.slice; subst eeo38; (try clear hb); (try clear hnd); have hczg1 : w16.cell? ⟨g1, 0, none⟩ = some (.slice A0 l0.length c0) := (blk_cell BKg1.out 0).trans rfl; have hfzg1 := blk_frozen BKg1.out 0; have hczg5 : w16.cell? ⟨g5, 0, none⟩ = some (.slice Ao12 t11.length co12) := (blk_cell BKg5.out 0).trans rfl; have hfzg5 := blk_frozen BKg5.out 0) | ((with_reducible refine gate_callee (f := 34) rfl ?_); refine goesL_ (some 56) rfl rfl Try.func34 (by kernel_rfl) rfl #[.agg #[.slice Ao38 t37.length co38]] rfl (by (try simp only [yiy, yjy, yky]); first | done | rfl | (simp only [yly, ymy]; rfl)) ?_; (with_reducible refine (impl_TetComponents.calls k _ _ t37 t40 _ ?side1 ?side2 H39.out).mono ?_); (case side1 => exact (ObS.reads HOo38.out).2.2); (case side2 => exact ObS.room HOo38.out); rintro e w17 ⟨vo41, rfl, ho0, hb⟩; refine ⟨_, rfl, ?_⟩; (try clear hczg1 hfzg1 hczg5 hfzg5); obtain ⟨loo41, hio41, hno41⟩ := ObR.made ho0 hb HT.out (below_size HB.out); have nOo6 := Aside0.mk (ObS.below HOo6.out hb); have nOo9 := Aside0.mk (ObR.below HOo9.out hb); have nOo12 := Aside0.mk (ObS.below HOo12.out hb); have nOo15 := Aside0.mk (ObR.below HOo15.out hb); have nOo20 := Aside0.mk (ObS.below HOo20.out hb); have nOo38 := Aside0.mk (ObS.below HOo38.out hb); have nBg1 := Aside0.mk (blk_below (g := g1) (o := .cells #[.slice A0 l0.length c0] 28 (0, 0)) BKg1.out hb); have nBg5 := Aside0.mk (blk_below (g := g5) (o := .cells #[.slice Ao12 t11.length co12] 35 (0, 0)) BKg5.out hb); have nHB := Aside0.mk (below_step HB.out hb); have nHT := Aside0.mk (top_below HT.out hb); clear HB HT HOo6 HOo9 HOo12 HOo15 HOo20 HOo38 BKg1 BKg5; have HOo6 := nOo6; have HOo9 := nOo9; have HOo12 := nOo12; have HOo15 := nOo15; have HOo20 := nOo20; have HOo38 := nOo38; have BKg1 := nBg1; have BKg5 := nBg5; have HB := nHB; have HT := nHT; clear nHB nHT nOo6 nOo9 nOo12 nOo15 nOo20 nOo38 nBg1 nBg5; have HNo41 := Aside0.mk hno41.1; clear HT; have HT := Aside0.mk hno41.2.1; have HOo41 := Aside0.mk hno41.2.2; clear hno41 ho0; obtain ⟨Ao41, co41, eeo41⟩ := HOo41.out.slice; subst eeo41; (try clear hb); (try clear hnd); have hczg1 : w17.cell? ⟨g1, 0, none⟩ = some (.slice A0 l0.length c0) := (blk_cell BKg1.out 0).trans rfl; have hfzg1 := blk_frozen BKg1.out 0; have hczg5 : w17.cell? ⟨g5, 0, none⟩ = some (.slice Ao12 t11.length co12) := (blk_cell BKg5.out 0).trans rfl; have hfzg5 := blk_frozen BKg5.out 0) | ((with_reducible refine gate_callee (f := 15) rfl ?_); refine goesL_ (some 59) rfl rfl Try.func15 (by kernel_rfl) rfl #[.slice Ao41 t40.length co41, .slice Ao9 t8.length co9] rfl (by (try simp only [yiy, yjy, yky]); first | done | rfl | (simp only [yly, ymy]; rfl)) ?_; (with_reducible refine (laws_eqInt64S.calls k _ _ t40 _ _ t8 true _ ?side1 ?side2 ?side3 ?side4 H42.out).mono ?_); (case side1 => exact (ObR.reads HOo41.out).2.2); (case side2 => exact ObR.room HOo41.out); (case side3 => exact (ObR.reads HOo9.out).2.2); (case side4 => exact ObR.room HOo9.out); rintro e w18 ⟨rfl, ⟨nd, hnd⟩⟩; refine ⟨_, rfl, ?_⟩; have hb := below_of_drewN hnd; (try clear hczg1 hfzg1 hczg5 hfzg5); have nOo6 := Aside0.mk (ObS.below HOo6.out hb); have nOo9 := Aside0.mk (ObR.below HOo9.out hb); have nOo12 := Aside0.mk (ObS.below HOo12.out hb); have nOo15 := Aside0.mk (ObR.below HOo15.out hb); have nOo20 := Aside0.mk (ObS.below HOo20.out hb); have nOo38 := Aside0.mk (ObS.below HOo38.out hb); have nOo41 := Aside0.mk (ObR.below HOo41.out hb); have nBg1 := Aside0.mk (blk_below (g := g1) (o := .cells #[.slice A0 l0.length c0] 28 (0, 0)) BKg1.out hb); have nBg5 := Aside0.mk (blk_below (g := g5) (o := .cells #[.slice Ao12 t11.length co12] 35 (0, 0)) BKg5.out hb); have nHB := Aside0.mk (below_step HB.out hb); have nHT := Aside0.mk (top_below HT.out hb); clear HB HT HOo6 HOo9 HOo12 HOo15 HOo20 HOo38 HOo41 BKg1 BKg5; have HOo6 := nOo6; have HOo9 := nOo9; have HOo12 := nOo12; have HOo15 := nOo15; have HOo20 := nOo20; have HOo38 := nOo38; have HOo41 := nOo41; have BKg1 := nBg1; have BKg5 := nBg5; have HB := nHB; have HT := nHT; clear nHB nHT nOo6 nOo9 nOo12 nOo15 nOo20 nOo38 nOo41 nBg1 nBg5; (try clear hb); (try clear hnd); have hczg1 : w18.cell? ⟨g1, 0, none⟩ = some (.slice A0 l0.length c0) := (blk_cell BKg1.out 0).trans rfl; have hfzg1 := blk_frozen BKg1.out 0; have hczg5 : w18.cell? ⟨g5, 0, none⟩ = some (.slice Ao12 t11.length co12) := (blk_cell BKg5.out 0).trans rfl; have hfzg5 := blk_frozen BKg5.out 0) | ((with_reducible refine gate_callee (f := 36) rfl ?_); refine goesL_ (some 63) rfl rfl Try.func36 (by kernel_rfl) rfl #[.slice Ao15 y31.length co15, .int .i64 1] rfl (by (try simp only [yiy, yjy, yky]); first | done | (rw [show y31.length = t14.length from (ObR.reads HOo15.out).1.symm] <;> rfl) | rfl | (simp only [yly, ymy]; rfl)) ?_; (with_reducible refine (laws_heldInt64S.calls k _ _ y31 1 t45 _ ?side1 ?side2 H44.out).mono ?_); (case side1 => exact (ObR.reads HOo15.out).2.2); (case side2 => exact ObR.room HOo15.out); rintro e w19 ⟨rfl, ⟨nd, hnd⟩⟩; refine ⟨_, rfl, ?_⟩; have hb := below_of_drewN hnd; (try clear hczg1 hfzg1 hczg5 hfzg5); have nOo6 := Aside0.mk (ObS.below HOo6.out hb); have nOo9 := Aside0.mk (ObR.below HOo9.out hb); have nOo12 := Aside0.mk (ObS.below HOo12.out hb); have nOo15 := Aside0.mk (ObR.below HOo15.out hb); have nOo20 := Aside0.mk (ObS.below HOo20.out hb); have nOo38 := Aside0.mk (ObS.below HOo38.out hb); have nOo41 := Aside0.mk (ObR.below HOo41.out hb); have nBg1 := Aside0.mk (blk_below (g := g1) (o := .cells #[.slice A0 l0.length c0] 28 (0, 0)) BKg1.out hb); have nBg5 := Aside0.mk (blk_below (g := g5) (o := .cells #[.slice Ao12 t11.length co12] 35 (0, 0)) BKg5.out hb); have nHB := Aside0.mk (below_step HB.out hb); have nHT := Aside0.mk (top_below HT.out hb); clear HB HT HOo6 HOo9 HOo12 HOo15 HOo20 HOo38 HOo41 BKg1 BKg5; have HOo6 := nOo6; have HOo9 := nOo9; have HOo12 := nOo12; have HOo15 := nOo15; have HOo20 := nOo20; have HOo38 := nOo38; have HOo41 := nOo41; have BKg1 := nBg1; have BKg5 := nBg5; have HB := nHB; have HT := nHT; clear nHB nHT nOo6 nOo9 nOo12 nOo15 nOo20 nOo38 nOo41 nBg1 nBg5; (try clear hb); (try clear hnd); have hczg1 : w19.cell? ⟨g1, 0, none⟩ = some (.slice A0 l0.length c0) := (blk_cell BKg1.out 0).trans rfl; have hfzg1 := blk_frozen BKg1.out 0; have hczg5 : w19.cell? ⟨g5, 0, none⟩ = some (.slice Ao12 t11.length co12) := (blk_cell BKg5.out 0).trans rfl; have hfzg5 := blk_frozen BKg5.out 0))
 go_ret
 exact ⟨by first | rfl | (simp <;> rfl), HB.out⟩
end Go.Proofs.Ytembbpalgfikiaa.P
namespace Go.Proofs.Ytembbpalgfikiaa.P
open Go.RowKit Go.Proofs.YtembbpalgfikiaaW.PrintWords Go.Proofs.Ytembbpalgfikiaa.Lib
set_option linter.unusedVariables false
theorem inRange_eq (a b c : Int) : impl_inRange.f a b c = some (decide (b ≤ a) && decide (a ≤ c)) := by
  unfold impl_inRange.f
  by_cases h : b ≤ a <;> simp [h]
theorem l07In_eq (a b c : Int) : spec_l07In.f a b c = some (decide (b ≤ a) && decide (a ≤ c)) := by
  unfold spec_l07In.f
  by_cases h : b ≤ a <;> simp [h]
theorem l06Valid_eq (a : Int) : spec_l06Valid.f a = some (decide (0 ≤ a) && decide (a ≤ 23)) := by
  unfold spec_l06Valid.f
  by_cases h : 0 ≤ a
  · rw [if_pos h]; simp [h]; omega
  · rw [if_neg h]; simp [h]
theorem isPerm_eq (a : Int) : impl_isPerm.f a = some (decide (0 ≤ a) && decide (a ≤ 23)) := by
  unfold impl_isPerm.f; rw [inRange_eq]; rfl
/-- A number that is the index of a permutation. -/
theorem fin_of {p : Int} (h0 : 0 ≤ p) (h1 : p ≤ 23) : ∃ m : Fin 24, p = (m.val : Int) := ⟨⟨p.toNat, by omega⟩, by simp; omega⟩
theorem l06Images_ev {p : Int} (h0 : 0 ≤ p) (h1 : p ≤ 23) : Ev (fun k => spec_l06Images.f k p) (permL p) := by
  obtain ⟨m, rfl⟩ := fin_of h0 h1
  have key : ∀ m : Fin 24, spec_l06Images.f 5 (m.val : Int) = some (permL (m.val : Int)) := by decide +kernel
  exact Ev.of (fun k => spec_l06Images.mono _ k) (key m)
theorem permL_len (p : Int) : (permL p).length = 4 := rfl
theorem permL_sm {p f : Int} (h0 : 0 ≤ p) (h1 : p ≤ 23) (hf0 : 0 ≤ f) (hf1 : f ≤ 3) : 0 ≤ rd (permL p) f ∧ rd (permL p) f ≤ 3 := by
  obtain ⟨a, b, c, d⟩ := permAt_sm p h0 h1
  exact rd_four_sm a b c d f hf0 hf1
theorem l06At_ev {p f : Int} (h0 : 0 ≤ p) (h1 : p ≤ 23) (hf0 : 0 ≤ f) (hf1 : f ≤ 3) : Ev (fun k => spec_l06At.f k p f) (rd (permL p) f) := by
  refine Ev.bind (l06Images_ev h0 h1) ?_
  exact ev_pos hf0 (ev_pos (by rw [permL_len]; omega) (Ev.now _))
theorem l06Back_ev {p : Int} (h0 : 0 ≤ p) (h1 : p ≤ 23) : Ev (fun k => spec_l06Back.f k p) (invP p) := by
  obtain ⟨m, rfl⟩ := fin_of h0 h1
  have key : ∀ m : Fin 24, spec_l06Back.f 40 (m.val : Int) = some (invP (m.val : Int)) := by decide +kernel
  exact Ev.of (fun k => spec_l06Back.mono _ k) (key m)
theorem target_eq {q p f : Int} (h0 : 0 ≤ p) (h1 : p ≤ 23) (hf0 : 0 ≤ f) (hf1 : f ≤ 3) : impl_Face_target.f q p f = some (rd (permL p) f) := if_pos ⟨h0, h1, hf0, hf1⟩
theorem partner_eq {q p a : Int} (h0 : 0 ≤ p) (h1 : p ≤ 23) : impl_Face_partner.f q p a = some (a, invP p) := by
  unfold impl_Face_partner.f impl_invert.f
  rw [if_pos ⟨h0, h1⟩]; rfl
abbrev Tri := List (List SFace)
/-- No list of t is longer than a million. -/
def Small (t : Tri) : Prop := t.length ≤ 1048576 ∧ ∀ r ∈ t, r.length ≤ 1048576
def SmallL (t : List (List SLawFace)) : Prop := t.length ≤ 1048576 ∧ ∀ r ∈ t, r.length ≤ 1048576
def Fits (t : List (List SLawFace)) : Prop := t.length ≤ 9223372036854775807 ∧ ∀ r ∈ t, r.length ≤ 9223372036854775807
theorem rd_LLawFace_lt (t : List (List SLawFace)) (n : Nat) (h : n < t.length) : rd_LLawFace t (n : Int) = t[n] := by simp [rd_LLawFace, h]
theorem rd_LFace_lt (t : Tri) (n : Nat) (h : n < t.length) : rd_LFace t (n : Int) = t[n] := by simp [rd_LFace, h]
theorem rd_LawFace_lt (t : List SLawFace) (n : Nat) (h : n < t.length) : rd_LawFace t (n : Int) = t[n] := by simp [rd_LawFace, h]
theorem rd_Face_lt (t : List SFace) (n : Nat) (h : n < t.length) : rd_Face t (n : Int) = t[n] := by simp [rd_Face, h]
theorem szFaceS_eq (r : List SLawFace) (a : Int) (h0 : 0 ≤ a) (h1 : a ≤ 1048576) (h : r.length ≤ 9223372036854775807) : laws_szFaceS.f r a = some (if a - r.length < 0 then -1 else a - r.length) := by
  unfold laws_szFaceS.f
  rw [wrap_id (by omega) (by omega)]
  split <;> rfl
theorem szFaceSS_ev (t : List (List SLawFace)) (h : Fits t) (hl : t.length ≤ 1048576) : ∃ r, Ev (fun k => laws_szFaceSS.l0 k t (1048576 - t.length) 0) r ∧ (0 ≤ r → ∀ x ∈ t, x.length ≤ 1048576) := by
  have key : ∀ d n : Nat, ∀ a : Int, n + d = t.length → 0 ≤ a → a ≤ 1048576 → ∃ r, Ev (fun k => laws_szFaceSS.l0 k t a (n : Int)) r ∧ (0 ≤ r → ∀ x ∈ t.drop n, x.length ≤ 1048576) := by
    intro d
    induction d with
    | zero =>
      intro n a hn h0 h1
      refine ⟨a, ev_step (f := fun _ => some a) (fun k => ?_) (Ev.now a), fun _ x hx => ?_⟩
      · simp only [laws_szFaceSS.l0]; rw [if_neg (by omega)]
      · rw [List.drop_eq_nil_of_le (by omega)] at hx; cases hx
    | succ d ih =>
      intro n a hn h0 h1
      have hlt : n < t.length := by omega
      have hf := h.2 t[n] (List.getElem_mem hlt)
      by_cases hc : a - t[n].length < 0
      · refine ⟨-1, ev_step (f := fun _ => some (-1)) (fun k => ?_) (Ev.now (-1)), fun h => by omega⟩
        simp only [laws_szFaceSS.l0]
        rw [if_pos (by omega), if_pos (by omega), rd_LLawFace_lt t n hlt, szFaceS_eq _ a h0 h1 hf, yfy, if_pos hc]
        rfl
      · obtain ⟨r, hr, hr2⟩ := ih (n + 1) (a - t[n].length) (by omega) (by omega) (by omega)
        refine ⟨r, ev_step (fun k => ?_) hr, fun h x hx => ?_⟩
        · simp only [laws_szFaceSS.l0]
          rw [if_pos (by omega), if_pos (by omega), rd_LLawFace_lt t n hlt, szFaceS_eq _ a h0 h1 hf, yfy, if_neg hc, if_neg (by omega), wrap_succ (by omega)]
        · rw [List.drop_eq_getElem_cons hlt] at hx
          rcases List.mem_cons.1 hx with rfl | hx
          · omega
          · exact hr2 h x hx
  obtain ⟨r, hr, hr2⟩ := key t.length 0 (1048576 - t.length) (by omega) (by omega) (by omega)
  exact ⟨r, hr, fun h => by have := hr2 h; rwa [List.drop_zero] at this⟩
theorem szTriangulation_ev (t : List (List SLawFace)) (h : Fits t) : ∃ r, Ev (fun k => laws_szTriangulation.f k t 1048576) r ∧ (¬ r < 0 → SmallL t) := by
  by_cases hl : (1048576 - (t.length : Int)) < 0
  · refine ⟨-1, ?_, fun h => by omega⟩
    refine Ev.bind (a := -1) (ev_const' (fun k => ?_)) (ev_pos (by omega) (Ev.now _))
    unfold laws_szFaceSS.f
    have := h.1
    rw [wrap_id (by omega) (by omega), if_pos hl]
  · obtain ⟨r, hr, hr2⟩ := szFaceSS_ev t h (by omega)
    have h2 : Ev (fun k => laws_szFaceSS.f k t 1048576) r := by
      refine Ev.congr (fun k => ?_) hr
      unfold laws_szFaceSS.f
      rw [wrap_id (by omega) (by omega), if_neg hl]
    by_cases hn : r < 0
    · exact ⟨-1, Ev.bind h2 (ev_pos hn (Ev.now _)), fun h => by omega⟩
    · exact ⟨r, Ev.bind h2 (ev_neg hn (Ev.now _)), fun _ => ⟨by omega, hr2 (by omega)⟩⟩
/-- The copies of the law's values. -/
def cvF (x : SLawFace) : SFace := ⟨x.f0, x.f1⟩
def cvR (r : List SLawFace) : List SFace := r.map cvF
def cvT (t : List (List SLawFace)) : Tri := t.map cvR
theorem cvT_small {t : List (List SLawFace)} (h : SmallL t) : Small (cvT t) := by
  refine ⟨by simp [cvT]; exact h.1, fun r hr => ?_⟩
  obtain ⟨s, hs, rfl⟩ := List.mem_map.1 hr
  simp [cvR]; exact h.2 s hs
theorem map_take_set {α β : Type} (f : α → β) (l : List α) (z : β) (n : Nat) (h : n < l.length) :
    ((l.take n).map f ++ List.replicate (l.length - n) z).set n (f l[n]) = (l.take (n + 1)).map f ++ List.replicate (l.length - (n + 1)) z := by
  have e : l.length - n = (l.length - (n + 1)) + 1 := by omega
  rw [e, List.replicate_succ, List.set_append_right _ _ (by simp; omega)]
  have : n - ((l.take n).map f).length = 0 := by simp; omega
  rw [this, yby, List.take_succ_eq_append_getElem h, List.map_append, List.append_assoc]
  rfl
theorem toFaceS_ev (l : List SLawFace) (h : l.length ≤ 1048576) : Ev (fun k => laws_toFaceS.f k l) (cvR l) := by
  have hl : Ev (fun k => laws_toFaceS.l0 k l (List.replicate l.length zFace) 0) (cvR l) := by
    refine ev_loop0 (fun k (s : List SFace × Int) => laws_toFaceS.l0 k l s.1 s.2) (fun s => ∃ n : Nat, n ≤ l.length ∧ s.2 = n ∧ s.1 = (l.take n).map cvF ++ List.replicate (l.length - n) zFace) (fun s => l.length - s.2.toNat) (fun _ => cvR l) ?_ (List.replicate l.length zFace, 0) ⟨0, by omega, rfl, by simp⟩
    rintro ⟨a, i⟩ ⟨n, hn, rfl, rfl⟩
    dsimp only
    by_cases hlt : n < l.length
    · refine .inr ⟨((l.take (n + 1)).map cvF ++ List.replicate (l.length - (n + 1)) zFace, ((n + 1 : Nat) : Int)), ⟨n + 1, by omega, rfl, rfl⟩, by simp; omega, rfl, fun k => ?_⟩
      simp only [laws_toFaceS.l0, laws_toFace.f, yfy]
      rw [if_pos (by omega), if_pos (by omega), if_pos (by simp; omega), wrap_succ (by omega), Int.toNat_natCast, rd_LawFace_lt l n hlt]
      have := map_take_set cvF l zFace n hlt
      rw [← this]
      rfl
    · obtain rfl : n = l.length := by omega
      refine .inl fun k => ?_
      simp only [laws_toFaceS.l0]
      rw [if_neg (by omega)]
      simp [cvR]
  refine Ev.congr (fun k => ?_) hl
  unfold laws_toFaceS.f
  rw [if_pos (by omega), if_pos (by simp; omega), Int.toNat_natCast]
theorem toFaceSS_ev (l : List (List SLawFace)) (h : SmallL l) : Ev (fun k => laws_toFaceSS.f k l) (cvT l) := by
  have hl : Ev (fun k => laws_toFaceSS.l0 k l (List.replicate l.length []) 0) (cvT l) := by
    refine ev_loop (fun k (s : Tri × Int) => laws_toFaceSS.l0 k l s.1 s.2) (fun s => ∃ n : Nat, n ≤ l.length ∧ s.2 = n ∧ s.1 = (l.take n).map cvR ++ List.replicate (l.length - n) []) (fun s => l.length - s.2.toNat) (fun _ => cvT l) ?_ (List.replicate l.length [], 0) ⟨0, by omega, rfl, by simp⟩
    rintro ⟨a, i⟩ ⟨n, hn, rfl, rfl⟩
    dsimp only
    by_cases hlt : n < l.length
    · obtain ⟨K, hK⟩ := toFaceS_ev l[n] (h.2 _ (List.getElem_mem hlt))
      refine .inr ⟨((l.take (n + 1)).map cvR ++ List.replicate (l.length - (n + 1)) [], ((n + 1 : Nat) : Int)), K, ⟨n + 1, by omega, rfl, rfl⟩, by simp; omega, rfl, fun k hk => ?_⟩
      have e : laws_toFaceS.f k l[n] = some _ := hK k hk
      have h1 := h.1
      simp only [laws_toFaceSS.l0]
      rw [if_pos (by omega), if_pos (by omega), rd_LLawFace_lt l n hlt, e, yfy, if_pos (by simp; omega), wrap_succ (by omega), Int.toNat_natCast, map_take_set cvR l [] n hlt]
    · obtain rfl : n = l.length := by omega
      refine .inl ⟨0, fun k _ => ?_⟩
      simp only [laws_toFaceSS.l0]
      rw [if_neg (by omega)]
      simp [cvT]
  have h1 := h.1
  refine Ev.congr (fun k => ?_) hl
  unfold laws_toFaceSS.f
  rw [if_pos (by omega), if_pos (by simp; omega), Int.toNat_natCast]
theorem toTriangulation_ev (l : List (List SLawFace)) (h : SmallL l) : Ev (fun k => laws_toTriangulation.f k l) (cvT l) := Ev.bind (toFaceSS_ev l h) (Ev.now _)
theorem eqFaceS_ev (l : List SFace) (h : l.length ≤ 1048576) : Ev (fun k => laws_eqFaceS.f k l l) true := by
  have hl : Ev (fun k => laws_eqFaceS.l0 k l l 0) true := by
    refine ev_loop0 (fun k (s : Int) => laws_eqFaceS.l0 k l l s) (fun s => ∃ n : Nat, n ≤ l.length ∧ s = n) (fun s => l.length - s.toNat) (fun _ => true) ?_ 0 ⟨0, by omega, rfl⟩
    rintro i ⟨n, hn, rfl⟩
    by_cases hlt : n < l.length
    · refine .inr ⟨((n + 1 : Nat) : Int), ⟨n + 1, by omega, rfl⟩, by simp; omega, rfl, fun k => ?_⟩
      simp only [laws_eqFaceS.l0, laws_eqFace.f]
      rw [if_pos (by omega), if_pos (by omega), if_pos (by omega), if_pos trivial, if_pos trivial, yfy, if_pos rfl, wrap_succ (by omega)]
    · refine .inl fun k => ?_
      simp only [laws_eqFaceS.l0]
      rw [if_neg (by omega)]
  refine Ev.congr (fun k => ?_) hl
  unfold laws_eqFaceS.f
  rw [if_pos rfl]
theorem eqTriangulation_ev (l : Tri) (h : Small l) : Ev (fun k => laws_eqTriangulation.f k l l) true := by
  have hl : Ev (fun k => laws_eqFaceSS.l0 k l l 0) true := by
    refine ev_loop (fun k (s : Int) => laws_eqFaceSS.l0 k l l s) (fun s => ∃ n : Nat, n ≤ l.length ∧ s = n) (fun s => l.length - s.toNat) (fun _ => true) ?_ 0 ⟨0, by omega, rfl⟩
    rintro i ⟨n, hn, rfl⟩
    by_cases hlt : n < l.length
    · obtain ⟨K, hK⟩ := eqFaceS_ev l[n] (h.2 _ (List.getElem_mem hlt))
      refine .inr ⟨((n + 1 : Nat) : Int), K, ⟨n + 1, by omega, rfl⟩, by simp; omega, rfl, fun k hk => ?_⟩
      have e : laws_eqFaceS.f k l[n] l[n] = some _ := hK k hk
      have h1 := h.1
      simp only [laws_eqFaceSS.l0]
      rw [if_pos (by omega), if_pos (by omega), if_pos (by omega), rd_LFace_lt l n hlt, e, yfy, if_pos rfl, wrap_succ (by omega)]
    · refine .inl ⟨0, fun k _ => ?_⟩
      simp only [laws_eqFaceSS.l0]
      rw [if_neg (by omega)]
  have h2 : Ev (fun k => laws_eqFaceSS.f k l l) true := by
    refine Ev.congr (fun k => ?_) hl
    unfold laws_eqFaceSS.f
    rw [if_pos rfl]
  exact Ev.bind h2 (ev_pos rfl (Ev.now _))
/-- The face f of the tetrahedron a. -/
abbrev fc (t : Tri) (a f : Int) : SFace := rd_Face (rd_LFace t a) f
/-- Is a face as in a valid triangulation? -/
def goodF (t : Tri) (a f : Int) : Bool :=
  if (fc t a f).f0 = -1 then (fc t a f).f1 == 0
  else if 0 ≤ (fc t a f).f0 ∧ (fc t a f).f0 < (t.length : Int) ∧ 0 ≤ (fc t a f).f1 ∧ (fc t a f).f1 ≤ 23 then
    ((fc t (fc t a f).f0 (rd (permL (fc t a f).f1) f)).f0 == a && (fc t (fc t a f).f0 (rd (permL (fc t a f).f1) f)).f1 == invP (fc t a f).f1) && !((fc t a f).f0 == a && rd (permL (fc t a f).f1) f == f)
  else false
/-- d faces of a from f on are good. -/
def goodFs (t : Tri) (a : Int) : Int → Nat → Bool
  | _, 0 => true
  | f, d + 1 => goodF t a f && goodFs t a (f + 1) d
/-- d tetrahedra from a on are good. -/
def goodTs (t : Tri) : Int → Nat → Bool
  | _, 0 => true
  | a, d + 1 => goodFs t a 0 4 && goodTs t (a + 1) d
/-- A valid triangulation. -/
def isTri (t : Tri) : Bool := decide (t.length ≤ 8) && (t.all (fun r => decide (r.length = 4)) && goodTs t 0 t.length)
section
variable {t : Tri}
theorem row4 (h4 : ∀ r ∈ t, r.length = 4) {a : Int} (h0 : 0 ≤ a) (h1 : a < t.length) : (rd_LFace t a).length = 4 := by
  obtain ⟨n, rfl⟩ := Int.eq_ofNat_of_zero_le h0
  rw [rd_LFace_lt t n (by omega)]
  exact h4 _ (List.getElem_mem _)
theorem impl_isGood_ev (h4 : ∀ r ∈ t, r.length = 4) (hn : t.length ≤ 8) {a f : Int} (h0 : 0 ≤ a) (h1 : a < t.length) (hf0 : 0 ≤ f) (hf1 : f ≤ 3) : Ev (fun k => impl_Triangulation_isGood.f k t a f) (goodF t a f) := by
  have hr := row4 h4 h0 h1
  refine Ev.congr (fun k => by unfold impl_Triangulation_isGood.f; rw [if_pos h0, if_pos h1, if_pos hf0, if_pos (by omega)]) ?_
  change Ev (fun k => if (fc t a f).f0 = -1 then some ((fc t a f).f1 == 0) else _) (goodF t a f)
  unfold goodF
  by_cases hb : (fc t a f).f0 = -1
  · rw [if_pos hb]; exact ev_pos hb (Ev.now _)
  · refine ev_neg hb ?_
    rw [if_neg hb]
    have hix : impl_hasIndex_Simpl_Face.f t (fc t a f).f0 = some (decide (0 ≤ (fc t a f).f0) && decide ((fc t a f).f0 ≤ (t.length : Int) - 1)) := by
      unfold impl_hasIndex_Simpl_Face.f impl_size_Simpl_Face.f
      rw [yfy, wrap_id (by omega) (by omega), inRange_eq]; rfl
    have hfalse : Ev (fun k => impl_Triangulation_isGood.j0 k a f true t (fc t a f).f0 (fc t a f).f1) false := ev_step (fun k => by rw [impl_Triangulation_isGood.j0, if_pos rfl]) (Ev.now false)
    refine Ev.bind (ev_const hix) ?_
    by_cases hi : 0 ≤ (fc t a f).f0 ∧ (fc t a f).f0 < (t.length : Int)
    · refine ev_pos (by simp; omega) ?_
      refine Ev.bind (ev_const (isPerm_eq _)) ?_
      by_cases hp : 0 ≤ (fc t a f).f1 ∧ (fc t a f).f1 ≤ 23
      · rw [if_pos ⟨hi.1, hi.2, hp.1, hp.2⟩]
        have e : (!(decide (0 ≤ (fc t a f).f1) && decide ((fc t a f).f1 ≤ 23))) = false := by simp [hp]
        rw [e]
        refine ev_step (fun k => by rw [impl_Triangulation_isGood.j0, if_neg (by simp), target_eq hp.1 hp.2 hf0 hf1, yfy]) ?_
        obtain ⟨hg0, hg1⟩ := permL_sm hp.1 hp.2 hf0 hf1
        have hr2 := row4 h4 hi.1 hi.2
        refine ev_pos hi.1 (ev_pos hi.2 (ev_pos hg0 (ev_pos (by rw [hr2]; omega) ?_)))
        refine Ev.bind (ev_const (partner_eq hp.1 hp.2)) ?_
        change Ev (fun k => if ((fc t (fc t a f).f0 (rd (permL (fc t a f).f1) f)).f0 == a && (fc t (fc t a f).f0 (rd (permL (fc t a f).f1) f)).f1 == invP (fc t a f).f1) = true then _ else _) _
        generalize ((fc t (fc t a f).f0 (rd (permL (fc t a f).f1) f)).f0 == a && (fc t (fc t a f).f0 (rd (permL (fc t a f).f1) f)).f1 == invP (fc t a f).f1) = b
        cases b with
        | false => refine ev_neg (by simp) ?_; rw [Bool.false_and]; exact Ev.now false
        | true =>
          refine ev_pos rfl ?_
          rw [Bool.true_and]
          by_cases ha : (fc t a f).f0 = a
          · refine ev_pos ha (ev_some ?_)
            rw [ha]; simp [bne]
          · refine ev_neg ha (ev_some ?_)
            simp [ha]
      · rw [if_neg (by omega)]
        have e : (!(decide (0 ≤ (fc t a f).f1) && decide ((fc t a f).f1 ≤ 23))) = true := by
          rw [Bool.not_eq_true', Bool.and_eq_false_iff, decide_eq_false_iff_not, decide_eq_false_iff_not]; omega
        rw [e]
        exact hfalse
    · rw [if_neg (by omega)]
      refine ev_neg ?_ hfalse
      rw [Bool.and_eq_true, decide_eq_true_eq, decide_eq_true_eq]; omega
theorem impl_l1_ev (h4 : ∀ r ∈ t, r.length = 4) (hn : t.length ≤ 8) {a : Int} (h0 : 0 ≤ a) (h1 : a < t.length) {R : Bool} (hR : Ev (fun k => impl_isTriangulation.l0 k (t.length : Int) (a + 1) t) R) :
    ∀ (d : Nat) (f : Int), 0 ≤ f → f + d = 4 → Ev (fun k => impl_isTriangulation.l1 k a (t.length : Int) a f t) (goodFs t a f d && R)
  | 0, f, hf, he => by
    refine ev_step (fun k => by rw [impl_isTriangulation.l1, if_neg (by omega), wrap_id (by omega) (by omega)]) ?_
    rw [goodFs, Bool.true_and]; exact hR
  | d + 1, f, hf, he => by
    refine ev_step (fun k => by rw [impl_isTriangulation.l1, if_pos (by omega)]) ?_
    refine Ev.bind (impl_isGood_ev h4 hn h0 h1 hf (by omega)) ?_
    rw [goodFs]
    cases hg : goodF t a f with
    | false => exact ev_neg (by simp) (by rw [Bool.false_and, Bool.false_and]; exact Ev.now false)
    | true =>
      refine ev_pos rfl ?_
      rw [Bool.true_and]
      exact Ev.congr (fun k => by rw [wrap_id (by omega) (by omega)]) (impl_l1_ev h4 hn h0 h1 hR d (f + 1) (by omega) (by omega))
theorem impl_l0_ev (h4 : ∀ r ∈ t, r.length = 4) (hn : t.length ≤ 8) : ∀ (d : Nat) (a : Int), 0 ≤ a → a + d = t.length → Ev (fun k => impl_isTriangulation.l0 k (t.length : Int) a t) (goodTs t a d)
  | 0, a, ha, he => by
    refine ev_step (fun k => by rw [impl_isTriangulation.l0, if_neg (by omega)]) ?_
    exact Ev.now true
  | d + 1, a, ha, he => by
    refine ev_step (fun k => by rw [impl_isTriangulation.l0, if_pos (by omega)]) ?_
    rw [goodTs]
    exact impl_l1_ev h4 hn ha (by omega) (impl_l0_ev h4 hn d (a + 1) (by omega) (by omega)) 4 0 (by omega) (by omega)
theorem all4_iff : t.all (fun r => decide (r.length = 4)) = true ↔ ∀ r ∈ t, r.length = 4 := by simp
theorem contains4 (h : Small t) : slices_ContainsFunc_SSimpl_Face_at_impl_isTriangulation_1.f t = some (!(t.all fun r => decide (r.length = 4))) := by
  unfold slices_ContainsFunc_SSimpl_Face_at_impl_isTriangulation_1.f slices_IndexFunc_SSimpl_Face_at_impl_isTriangulation_1.f
  rw [contO (p := fun r => !(decide (r.length = 4))) t (fun r _ => by
    show impl_isTriangulation_1.f r = _
    unfold impl_isTriangulation_1.f
    congr 1
    by_cases h : r.length = 4
    · simp [h]
    · have : ¬ ((r.length : Int) = 4) := by omega
      simp [h, this]), List.not_all_eq_any_not]
theorem impl_isTri_ev (h : Small t) : Ev (fun k => impl_isTriangulation.f k t) (isTri t) := by
  have hfalse : Ev (fun k => impl_isTriangulation.j0 k true t) false := ev_step (fun k => by rw [impl_isTriangulation.j0, if_pos rfl]) (Ev.now false)
  unfold isTri
  by_cases h8 : t.length ≤ 8
  · refine Ev.congr (fun k => by unfold impl_isTriangulation.f; rw [if_neg (by omega), contains4 h, yfy]) ?_
    rw [ygy h8, Bool.true_and]
    cases hall : t.all (fun r => decide (r.length = 4)) with
    | false => rw [Bool.false_and]; exact hfalse
    | true =>
      rw [Bool.true_and]
      refine ev_step (fun k => by rw [impl_isTriangulation.j0, if_neg (by simp)]) ?_
      exact impl_l0_ev (all4_iff.1 hall) h8 t.length 0 (by omega) (by omega)
  · refine Ev.congr (fun k => by unfold impl_isTriangulation.f; rw [if_pos (by omega)]) ?_
    rw [yhy h8, Bool.false_and]; exact hfalse
theorem spec_l2_ev (h4 : ∀ r ∈ t, r.length = 4) (hn : t.length ≤ 8) {a : Int} (h0 : 0 ≤ a) (h1 : a < t.length) {R : Bool} (hR : Ev (fun k => spec_IsTriangulation.l1 k (a + 1) t) R) :
    ∀ (d : Nat) (f : Int), 0 ≤ f → f + d = 4 → Ev (fun k => spec_IsTriangulation.l2 k a f t) (goodFs t a f d && R)
  | 0, f, hf, he => by
    refine ev_step (fun k => by rw [spec_IsTriangulation.l2, if_neg (by omega), wrap_id (by omega) (by omega)]) ?_
    rw [goodFs, Bool.true_and]; exact hR
  | d + 1, f, hf, he => by
    have hr := row4 h4 h0 h1
    have ih : Ev (fun k => spec_IsTriangulation.l2 k a (wrap64 (f + 1)) t) (goodFs t a (f + 1) d && R) := Ev.congr (fun k => by rw [wrap_id (by omega) (by omega)]) (spec_l2_ev h4 hn h0 h1 hR d (f + 1) (by omega) (by omega))
    refine ev_step (fun k => by rw [spec_IsTriangulation.l2, if_pos (by omega), if_pos h0, if_pos h1, if_pos hf, if_pos (by omega)]) ?_
    change Ev (fun k => if (fc t a f).f0 = -1 then spec_IsTriangulation.j3 k a f ((fc t a f).f1 == 0) t (fc t a f).f0 (fc t a f).f1 else spec_IsTriangulation.j3 k a f false t (fc t a f).f0 (fc t a f).f1) _
    rw [goodFs]
    have hstop : ∀ b, Ev (fun k => spec_IsTriangulation.j4 k a f true t (fc t a f).f0 (fc t a f).f1) (false && b) := fun b => by
      rw [Bool.false_and]; exact ev_step (fun k => by rw [spec_IsTriangulation.j4, if_pos rfl]) (Ev.now false)
    have hgo : Ev (fun k => spec_IsTriangulation.j3 k a f true t (fc t a f).f0 (fc t a f).f1) (goodFs t a (f + 1) d && R) := ev_step (fun k => by rw [spec_IsTriangulation.j3, if_pos rfl]) ih
    have hrest : (¬ ((fc t a f).f0 = -1 ∧ (fc t a f).f1 = 0)) → Ev (fun k => spec_IsTriangulation.j3 k a f false t (fc t a f).f0 (fc t a f).f1) (goodF t a f && goodFs t a (f + 1) d && R) := by
      intro hnb
      refine ev_step (fun k => by rw [spec_IsTriangulation.j3, spec_l07Tets.f, if_neg (by simp), yfy, l07In_eq, yfy, wrap_id (by omega) (by omega)]) ?_
      unfold goodF
      by_cases hi : 0 ≤ (fc t a f).f0 ∧ (fc t a f).f0 < (t.length : Int)
      · refine ev_pos (by simp; omega) ?_
        refine Ev.bind (ev_const (l06Valid_eq _)) ?_
        rw [if_neg (by omega)]
        by_cases hp : 0 ≤ (fc t a f).f1 ∧ (fc t a f).f1 ≤ 23
        · rw [if_pos ⟨hi.1, hi.2, hp.1, hp.2⟩]
          have e : (!(decide (0 ≤ (fc t a f).f1) && decide ((fc t a f).f1 ≤ 23))) = false := by simp [hp]
          rw [e]
          obtain ⟨hg0, hg1⟩ := permL_sm hp.1 hp.2 hf (by omega)
          have hr2 := row4 h4 hi.1 hi.2
          refine ev_step (fun k => by rw [spec_IsTriangulation.j4, if_neg (by simp)]) ?_
          refine Ev.bind (l06At_ev hp.1 hp.2 hf (by omega)) ?_
          refine Ev.bind (l06Back_ev hp.1 hp.2) ?_
          refine ev_pos hi.1 (ev_pos hi.2 (ev_pos hg0 (ev_pos (by rw [hr2]; omega) ?_)))
          change Ev (fun k => if (!((fc t (fc t a f).f0 (rd (permL (fc t a f).f1) f)).f0 == a) || !((fc t (fc t a f).f0 (rd (permL (fc t a f).f1) f)).f1 == invP (fc t a f).f1)) = true then _ else _) _
          generalize ((fc t (fc t a f).f0 (rd (permL (fc t a f).f1) f)).f0 == a) = b1
          generalize ((fc t (fc t a f).f0 (rd (permL (fc t a f).f1) f)).f1 == invP (fc t a f).f1) = b2
          cases b1 with
          | false => exact ev_pos rfl (by rw [Bool.false_and, Bool.false_and, Bool.false_and, Bool.false_and]; exact Ev.now false)
          | true =>
            cases b2 with
            | false => exact ev_pos rfl (by rw [Bool.true_and, Bool.false_and, Bool.false_and, Bool.false_and]; exact Ev.now false)
            | true =>
              refine ev_neg (by simp) ?_
              rw [Bool.true_and, Bool.true_and]
              by_cases ha : (fc t a f).f0 = a
              · refine ev_pos ha ?_
                by_cases hg : rd (permL (fc t a f).f1) f = f
                · refine ev_pos hg ?_
                  rw [ha, hg]
                  simp
                  exact Ev.now false
                · refine ev_neg hg ?_
                  have : (rd (permL (fc t a f).f1) f == f) = false := by simp [hg]
                  rw [this, Bool.and_false, Bool.not_false, Bool.true_and]
                  exact ih
              · refine ev_neg ha ?_
                have : ((fc t a f).f0 == a) = false := by simp [ha]
                rw [this, Bool.false_and, Bool.not_false, Bool.true_and]
                exact ih
        · rw [if_neg (by omega)]
          have e : (!(decide (0 ≤ (fc t a f).f1) && decide ((fc t a f).f1 ≤ 23))) = true := by
            rw [Bool.not_eq_true', Bool.and_eq_false_iff, decide_eq_false_iff_not, decide_eq_false_iff_not]; omega
          rw [e, Bool.false_and]
          exact hstop R
      · have hg : (if (fc t a f).f0 = -1 then ((fc t a f).f1 == 0) else if 0 ≤ (fc t a f).f0 ∧ (fc t a f).f0 < (t.length : Int) ∧ 0 ≤ (fc t a f).f1 ∧ (fc t a f).f1 ≤ 23 then
            ((fc t (fc t a f).f0 (rd (permL (fc t a f).f1) f)).f0 == a && (fc t (fc t a f).f0 (rd (permL (fc t a f).f1) f)).f1 == invP (fc t a f).f1) && !((fc t a f).f0 == a && rd (permL (fc t a f).f1) f == f) else false) = false := by
          by_cases hb : (fc t a f).f0 = -1
          · rw [if_pos hb]; simp; intro h; exact hnb ⟨hb, h⟩
          · rw [if_neg hb, if_neg (by omega)]
        rw [hg, Bool.false_and]
        refine ev_neg ?_ (hstop R)
        rw [Bool.and_eq_true, decide_eq_true_eq, decide_eq_true_eq]; omega
    by_cases hb : (fc t a f).f0 = -1
    · refine ev_pos hb ?_
      by_cases h0' : (fc t a f).f1 = 0
      · have e : goodF t a f = true := by unfold goodF; rw [if_pos hb]; simp [h0']
        rw [e, Bool.true_and]
        have e2 : ((fc t a f).f1 == 0) = true := by simp [h0']
        rw [e2]; exact hgo
      · have e2 : ((fc t a f).f1 == 0) = false := by simp [h0']
        rw [e2]; exact hrest (fun h => h0' h.2)
    · exact ev_neg hb (hrest (fun h => hb h.1))
theorem spec_l1_ev (h4 : ∀ r ∈ t, r.length = 4) (hn : t.length ≤ 8) : ∀ (d : Nat) (a : Int), 0 ≤ a → a + d = t.length → Ev (fun k => spec_IsTriangulation.l1 k a t) (goodTs t a d)
  | 0, a, ha, he => by
    refine ev_step (fun k => by rw [spec_IsTriangulation.l1, spec_l07Tets.f, yfy, if_neg (by omega)]) ?_
    exact Ev.now true
  | d + 1, a, ha, he => by
    refine ev_step (fun k => by rw [spec_IsTriangulation.l1, spec_l07Tets.f, yfy, if_pos (by omega)]) ?_
    rw [goodTs]
    exact spec_l2_ev h4 hn ha (by omega) (spec_l1_ev h4 hn d (a + 1) (by omega) (by omega)) 4 0 (by omega) (by omega)
theorem spec_l0_ev (h8 : t.length ≤ 8) (d : Nat) : ∀ n : Nat, n + d = t.length → (t.all (fun r => decide (r.length = 4)) = (t.drop n).all (fun r => decide (r.length = 4))) → Ev (fun k => spec_IsTriangulation.l0 k (n : Int) t) (t.all (fun r => decide (r.length = 4)) && goodTs t 0 t.length) := by
  induction d with
  | zero =>
    intro n hn ha
    refine ev_step (fun k => by rw [spec_IsTriangulation.l0, if_neg (by omega)]) ?_
    have hall : t.all (fun r => decide (r.length = 4)) = true := by rw [ha, List.drop_eq_nil_of_le (by omega)]; rfl
    rw [hall, Bool.true_and]
    exact spec_l1_ev (all4_iff.1 hall) h8 t.length 0 (by omega) (by omega)
  | succ d ih =>
    intro n hn ha
    have hlt : n < t.length := by omega
    refine ev_step (fun k => by rw [spec_IsTriangulation.l0, if_pos (by omega), if_pos (by omega), rd_LFace_lt t n hlt]) ?_
    rw [List.drop_eq_getElem_cons hlt, List.all_cons] at ha
    by_cases h : t[n].length = 4
    · refine ev_pos (by omega) ?_
      refine Ev.congr (fun k => by rw [wrap_succ (by omega)]) (ih (n + 1) (by omega) ?_)
      rw [ha, ygy h, Bool.true_and]
    · refine ev_neg (by omega) ?_
      rw [ha, yhy h, Bool.false_and, Bool.false_and]
      exact Ev.now false
theorem spec_isTri_ev (t : Tri) : Ev (fun k => spec_IsTriangulation.f k t) (isTri t) := by
  refine Ev.congr (fun k => by unfold spec_IsTriangulation.f spec_l07Tets.f; rw [yfy]) ?_
  unfold isTri
  by_cases h8 : t.length ≤ 8
  · refine ev_neg (by omega) ?_
    rw [ygy h8, Bool.true_and]
    exact spec_l0_ev h8 t.length 0 (by omega) (by rw [List.drop_zero])
  · refine ev_pos (by omega) ?_
    rw [yhy h8, Bool.false_and]
    exact Ev.now false
end
theorem isTri_good {t : Tri} (h : isTri t = true) : t.length ≤ 8 ∧ (∀ r ∈ t, r.length = 4) ∧ goodTs t 0 t.length = true := by
  unfold isTri at h
  rw [Bool.and_eq_true, Bool.and_eq_true, decide_eq_true_eq] at h
  exact ⟨h.1, all4_iff.1 h.2.1, h.2.2⟩
theorem goodFs_at (t : Tri) (a : Int) (d : Nat) : ∀ f, goodFs t a f d = true → ∀ g, f ≤ g → g < f + d → goodF t a g = true := by
  induction d with
  | zero => intro f _ g h1 h2; omega
  | succ d ih =>
    intro f h g h1 h2
    rw [goodFs, Bool.and_eq_true] at h
    by_cases e : g = f
    · rw [e]; exact h.1
    · exact ih (f + 1) h.2 g (by omega) (by omega)
theorem goodTs_at (t : Tri) (d : Nat) : ∀ a, goodTs t a d = true → ∀ b, a ≤ b → b < a + d → ∀ g, 0 ≤ g → g ≤ 3 → goodF t b g = true := by
  induction d with
  | zero => intro a _ b h1 h2; omega
  | succ d ih =>
    intro a h b h1 h2 g hg0 hg1
    rw [goodTs, Bool.and_eq_true] at h
    by_cases e : b = a
    · rw [e]; exact goodFs_at t a 4 0 h.1 g hg0 (by omega)
    · exact ih (a + 1) h.2 b (by omega) (by omega) g hg0 hg1
/-- A face of a valid triangulation: the boundary, or glued to a face that is glued back. -/
theorem face_good {t : Tri} (h : isTri t = true) {a f : Int} (h0 : 0 ≤ a) (h1 : a < t.length) (hf0 : 0 ≤ f) (hf1 : f ≤ 3) :
    ((fc t a f).f0 = -1 ∧ (fc t a f).f1 = 0) ∨
    ((0 ≤ (fc t a f).f0 ∧ (fc t a f).f0 < (t.length : Int) ∧ 0 ≤ (fc t a f).f1 ∧ (fc t a f).f1 ≤ 23) ∧
      (fc t (fc t a f).f0 (rd (permL (fc t a f).f1) f)).f0 = a ∧ (fc t (fc t a f).f0 (rd (permL (fc t a f).f1) f)).f1 = invP (fc t a f).f1 ∧ ¬ ((fc t a f).f0 = a ∧ rd (permL (fc t a f).f1) f = f)) := by
  have hg := goodTs_at t t.length 0 (isTri_good h).2.2 a h0 (by omega) f hf0 hf1
  unfold goodF at hg
  by_cases hb : (fc t a f).f0 = -1
  · rw [if_pos hb] at hg
    exact .inl ⟨hb, by simpa using hg⟩
  · rw [if_neg hb] at hg
    by_cases hi : 0 ≤ (fc t a f).f0 ∧ (fc t a f).f0 < (t.length : Int) ∧ 0 ≤ (fc t a f).f1 ∧ (fc t a f).f1 ≤ 23
    · rw [if_pos hi, Bool.and_eq_true, Bool.and_eq_true, Bool.not_eq_true'] at hg
      refine .inr ⟨hi, eq_of_beq hg.1.1, eq_of_beq hg.1.2, fun hc => ?_⟩
      have := hg.2
      rw [Bool.and_eq_false_iff] at this
      rcases this with h2 | h2
      · exact absurd hc.1 (by simpa using h2)
      · exact absurd hc.2 (by simpa using h2)
    · rw [if_neg hi] at hg; cases hg
theorem rowlen {t : Tri} (h : isTri t = true) {a : Int} (h0 : 0 ≤ a) (h1 : a < t.length) : (rd_LFace t a).length = 4 := row4 (isTri_good h).2.1 h0 h1
theorem rdset {l : List Int} {a b v : Int} (ha0 : 0 ≤ a) (ha1 : a < l.length) (hb : 0 ≤ b) : rd (l.set a.toNat v) b = if b = a then v else rd l b := by
 unfold rd
 by_cases e : b = a
 rotate_left
 next =>
  rw [if_neg e]
  have : a.toNat ≠ b.toNat := by omega
  simp [List.getD_eq_getElem?_getD, List.getElem?_set_ne this]
 subst e
 rw [if_pos rfl]
 have : b.toNat < l.length := by omega
 simp [List.getD_eq_getElem?_getD, this]
theorem rdapp (l : List Int) (k : Int) (i : Int) (h0 : 0 ≤ i) (h1 : i < l.length) : rd (l ++ [k]) i = rd l i := by
 unfold rd
 simp only [List.getD_eq_getElem?_getD]
 rw [List.getElem?_append_left (by omega)]
theorem rdlast (l : List Int) (k : Int) : rd (l ++ [k]) (l.length : Int) = k := by
 rw [rd_lt _ _ (by simp)]; simp
theorem rdmem {l : List Int} {i : Int} (h0 : 0 ≤ i) (h1 : i < l.length) : rd l i ∈ l := by
 obtain ⟨n, rfl⟩ := Int.eq_ofNat_of_zero_le h0
 rw [rd_lt l n (by omega)]
 exact List.getElem_mem _
/-- How many elements are below 0. -/
def uc : List Int → Nat
 | [] => 0
 | x :: xs => (if x < 0 then 1 else 0) + uc xs
theorem uc_le (l : List Int) : uc l ≤ l.length := by
 induction l with
 | nil => simp [uc]
 | cons x xs ih => simp only [uc, List.length_cons]; split <;> omega
theorem uc_set : ∀ (l : List Int) (n : Nat) (v : Int), n < l.length → l.getD n 0 < 0 → 0 ≤ v → uc (l.set n v) + 1 = uc l
 | [], n, v, h, _, _ => by simp at h
 | x :: xs, 0, v, _, hz, hv => by
  have hx : x < 0 := by simpa using hz
  have h2 : ¬ v < 0 := by omega
  simp [uc, hx, h2]; omega
 | x :: xs, n + 1, v, h, hz, hv => by
  have := uc_set xs n v (by simpa using h) (by simpa using hz) hv
  simp only [ycy, uc]; omega
section
variable {t : Tri}
/-- Labels, and the first element of each. -/
structure BI (t : Tri) (U : Int → Int) (out R : List Int) : Prop where
 len : out.length = t.length
 val : ∀ x : Int, 0 ≤ x → x < t.length → rd out x = -1 ∨ (0 ≤ rd out x ∧ rd out x < R.length)
 rng : ∀ v : Int, 0 ≤ v → v < R.length → 0 ≤ rd R v ∧ rd R v < t.length ∧ rd out (rd R v) = v
 same : ∀ x : Int, 0 ≤ x → x < t.length → 0 ≤ rd out x → U x = U (rd R (rd out x))
 first : ∀ x : Int, 0 ≤ x → x < t.length → 0 ≤ rd out x → rd R (rd out x) ≤ x
 incr : ∀ v w : Int, 0 ≤ v → v < w → w < R.length → rd R v < rd R w
theorem BI.put {U : Int → Int} {out R : List Int} (h : BI t U out R) {b v : Int} (hb0 : 0 ≤ b) (hb1 : b < t.length) (hb : rd out b < 0) (hv0 : 0 ≤ v) (hv1 : v < R.length) (hU : U b = U (rd R v)) (hr : rd R v ≤ b) : BI t U (out.set b.toNat v) R := by
 have hl := h.len
 have g : ∀ x : Int, 0 ≤ x → rd (out.set b.toNat v) x = if x = b then v else rd out x := fun x h0 => rdset hb0 (by omega) h0
 refine ⟨by rw [List.length_set]; exact hl, fun x h0 h1 => ?_, fun w h0 h1 => ?_, fun x h0 h1 hx => ?_, fun x h0 h1 hx => ?_, h.incr⟩
 next =>
  rw [g x h0]; split
  next =>
   exact .inr ⟨hv0, hv1⟩
  next =>
   exact h.val x h0 h1
 next =>
  obtain ⟨a0, a1, a2⟩ := h.rng w h0 h1
  refine ⟨a0, a1, ?_⟩
  rw [g _ a0, if_neg (fun e => by rw [e] at a2; omega)]; exact a2
 next =>
  rw [g x h0] at hx ⊢
  split
  next =>
   rename_i e; rw [e]; exact hU
  next =>
   rename_i e; rw [if_neg e] at hx; exact h.same x h0 h1 hx
 next =>
  rw [g x h0] at hx ⊢
  split
  next =>
   rename_i e; rw [e]; exact hr
  next =>
   rename_i e; rw [if_neg e] at hx; exact h.first x h0 h1 hx
theorem BI.root {U : Int → Int} {out R : List Int} (h : BI t U out R) {a : Int} (ha0 : 0 ≤ a) (ha1 : a < t.length) (ha : rd out a < 0) (hlt : ∀ v : Int, 0 ≤ v → v < R.length → rd R v < a) : BI t U (out.set a.toNat R.length) (R ++ [a]) := by
 have hl := h.len
 have g : ∀ x : Int, 0 ≤ x → rd (out.set a.toNat (R.length : Int)) x = if x = a then (R.length : Int) else rd out x := fun x h0 => rdset ha0 (by omega) h0
 have hR : (R ++ [a]).length = R.length + 1 := by simp
 have gR : ∀ v : Int, 0 ≤ v → v < R.length → rd (R ++ [a]) v = rd R v := fun v h0 h1 => rdapp R a v h0 h1
 refine ⟨by rw [List.length_set]; exact hl, fun x h0 h1 => ?_, fun w h0 h1 => ?_, fun x h0 h1 hx => ?_, fun x h0 h1 hx => ?_, fun v w h0 h1 h2 => ?_⟩
 next =>
  rw [g x h0]; split
  next =>
   exact .inr ⟨by omega, by omega⟩
  next =>
   rcases h.val x h0 h1 with e | ⟨e1, e2⟩
   next =>
    exact .inl e
   next =>
    exact .inr ⟨e1, by omega⟩
 next =>
  by_cases hw : w < R.length
  rotate_left
  next =>
   obtain rfl : w = (R.length : Int) := by omega
   rw [rdlast]
   exact ⟨ha0, ha1, by rw [g a ha0, if_pos rfl]⟩
  obtain ⟨a0, a1, a2⟩ := h.rng w h0 hw
  rw [gR w h0 hw]
  refine ⟨a0, a1, ?_⟩
  rw [g _ a0, if_neg (fun e => by rw [e] at a2; omega)]; exact a2
 next =>
  rw [g x h0] at hx ⊢
  split
  next =>
   rename_i e; rw [e, rdlast]
  next =>
   rename_i e
   rw [if_neg e] at hx
   have := (h.val x h0 h1).resolve_left (by omega)
   rw [gR _ this.1 this.2]; exact h.same x h0 h1 hx
 next =>
  rw [g x h0] at hx ⊢
  split
  next =>
   rename_i e; rw [e, rdlast]; omega
  next =>
   rename_i e
   rw [if_neg e] at hx
   have := (h.val x h0 h1).resolve_left (by omega)
   rw [gR _ this.1 this.2]; exact h.first x h0 h1 hx
 next =>
  by_cases hw : w < R.length
  next =>
   rw [gR v h0 (by omega), gR w (by omega) hw]; exact h.incr v w h0 h1 hw
  next =>
   obtain rfl : w = (R.length : Int) := by omega
   rw [gR v h0 h1, rdlast]; exact hlt v h0 h1
/-- Whoever has a label and is not waiting has neighbours of the same label. -/
def CL (t : Tri) (out : List Int) (P : Int → Prop) : Prop := ∀ x : Int, 0 ≤ x → x < t.length → 0 ≤ rd out x → ¬ P x → ∀ g : Int, 0 ≤ g → g ≤ 3 → 0 ≤ (fc t x g).f0 → rd out (fc t x g).f0 = rd out x
def Merged (t : Tri) (U : Int → Int) : Prop := ∀ x g : Int, 0 ≤ x → x < t.length → 0 ≤ g → g ≤ 3 → 0 ≤ (fc t x g).f0 → U x = U (fc t x g).f0
theorem nb_ok (h : isTri t = true) {a f : Int} (h0 : 0 ≤ a) (h1 : a < t.length) (hf0 : 0 ≤ f) (hf1 : f ≤ 3) (hb : 0 ≤ (fc t a f).f0) : (fc t a f).f0 < t.length ∧ ∃ g : Int, 0 ≤ g ∧ g ≤ 3 ∧ (fc t (fc t a f).f0 g).f0 = a := by
 rcases face_good h h0 h1 hf0 hf1 with ⟨e, _⟩ | ⟨e, e2, _⟩
 next =>
  omega
 next =>
  have hd := permL_sm e.2.2.1 e.2.2.2 hf0 hf1
  exact ⟨e.2.1, _, hd.1, hd.2, e2⟩
theorem drop_mem (qu e : List Int) (i : Int) (h0 : 0 ≤ i) (h1 : i < qu.length) (x : Int) : x ∈ (qu ++ e).drop i.toNat ↔ x ∈ qu.drop i.toNat ∨ x ∈ e := by
 rw [List.drop_append_of_le_length (by omega), List.mem_append]
/-- The invariant of the search from a root a: N is its label. -/
structure SI (t : Tri) (U : Int → Int) (out R qu : List Int) (N a i : Int) : Prop where
 bi : BI t U out R
 lab : N + 1 = R.length
 lab0 : 0 ≤ N
 root : rd R N = a
 queue : ∀ y ∈ qu, 0 ≤ y ∧ y < t.length ∧ rd out y = N
 low : ∀ x : Int, 0 ≤ x → x < a → 0 ≤ rd out x
 cl : CL t out (fun x => x ∈ qu.drop i.toNat)
 small : uc out + qu.length ≤ 100
theorem SI.visit (h : isTri t = true) {U : Int → Int} (hU : Merged t U) {out R qu : List Int} {N a i f : Int} (hS : SI t U out R qu N a i) (hi0 : 0 ≤ i) (hi1 : i < qu.length) (hf0 : 0 ≤ f) (hf1 : f ≤ 3) (hb : 0 ≤ (fc t (rd qu i) f).f0) (hz : rd out (fc t (rd qu i) f).f0 < 0) :
 SI t U (out.set (fc t (rd qu i) f).f0.toNat N) R (qu ++ [(fc t (rd qu i) f).f0]) N a i ∧ uc (out.set (fc t (rd qu i) f).f0.toNat N) + 1 = uc out ∧ (∀ x : Int, 0 ≤ x → 0 ≤ rd out x → rd (out.set (fc t (rd qu i) f).f0.toNat N) x = rd out x) ∧ rd (out.set (fc t (rd qu i) f).f0.toNat N) (fc t (rd qu i) f).f0 = N := by
 obtain ⟨q0, q1, q2⟩ := hS.queue _ (rdmem hi0 hi1)
 obtain ⟨b1, g, g0, g1, gb⟩ := nb_ok h q0 q1 hf0 hf1 hb
 have hl := hS.bi.len
 have hlab := hS.lab
 have hlab0 := hS.lab0
 have hm := hU _ f q0 q1 hf0 hf1 hb
 generalize (fc t (rd qu i) f).f0 = b at *
 have gs : ∀ x : Int, 0 ≤ x → rd (out.set b.toNat N) x = if x = b then N else rd out x := fun x h0 => rdset hb (by omega) h0
 have hsame := hS.bi.same _ q0 q1 (by omega)
 rw [q2] at hsame
 have hab : a ≤ b := Classical.byContradiction fun hc => by have := hS.low b hb (by omega); omega
 have hkeep : ∀ x : Int, 0 ≤ x → 0 ≤ rd out x → rd (out.set b.toNat N) x = rd out x := fun x h0 hx => by
  rw [gs x h0, if_neg (fun e => by rw [e] at hx; omega)]
 have hself : rd (out.set b.toNat N) b = N := by rw [gs b hb, if_pos rfl]
 have huc := uc_set out b.toNat N (by omega) hz hlab0
 refine ⟨⟨hS.bi.put hb b1 hz hlab0 (by omega) (hm.symm.trans hsame) (by rw [hS.root]; exact hab), hlab, hlab0, hS.root, fun y hy => ?_, fun x h0 h1 => ?_, fun x h0 h1 hx hP g' g0' g1' hg => ?_, ?_⟩, huc, hkeep, hself⟩
 next =>
  rcases List.mem_append.1 hy with hy | hy
  next =>
   obtain ⟨a0, a1, a2⟩ := hS.queue y hy
   exact ⟨a0, a1, by rw [hkeep y a0 (by omega)]; exact a2⟩
  next =>
   rw [List.mem_singleton.1 hy]; exact ⟨hb, b1, hself⟩
 next =>
  have := hS.low x h0 h1
  rw [hkeep x h0 this]; exact this
 next =>
  have hP' := fun hh => hP ((drop_mem qu [b] i hi0 hi1 x).2 hh)
  have hxb : x ≠ b := fun e => hP' (.inr (by rw [e]; exact List.mem_singleton_self _))
  rw [gs x h0, if_neg hxb] at hx ⊢
  have := hS.cl x h0 h1 hx (fun hh => hP' (.inl hh)) g' g0' g1' hg
  rw [hkeep _ hg (by omega)]; exact this
 next =>
  have := hS.small
  rw [List.length_append, List.length_singleton]; omega
theorem l3_eq (k : Nat) (out : List Int) (N a : Int) (qu : List Int) (i f b : Int) (h4 : f < 4) (h0 : 0 ≤ i) (h1 : i < (qu.length : Int)) (q0 : 0 ≤ rd qu i) (q1 : rd qu i < (t.length : Int)) (f0 : 0 ≤ f) (fl : f < ((rd_LFace t (rd qu i)).length : Int)) (e : (fc t (rd qu i) f).f0 = b) :
 spec_l07Parts.l3 (k + 1) out N a qu i f t = (if b ≥ 0 then (if 0 ≤ b then (if b < (out.length : Int) then (if (rd out b) < 0 then (if qu.length < 17592186044416 then (spec_l07Parts.l3 k (out.set ((b : Int)).toNat N) N a (qu ++ [b]) i (wrap64 (f + 1)) t) else (none)) else (spec_l07Parts.l3 k out N a qu i (wrap64 (f + 1)) t)) else (none)) else (none)) else (spec_l07Parts.l3 k out N a qu i (wrap64 (f + 1)) t)) := by
 subst e
 rw [spec_l07Parts.l3, if_pos h4, if_pos h0, if_pos h1, if_pos q0, if_pos q1, if_pos f0, if_pos fl]
theorem l3_new {out qu : List Int} {N a i f b : Int} (h4 : f < 4) (h0 : 0 ≤ i) (h1 : i < (qu.length : Int)) (q0 : 0 ≤ rd qu i) (q1 : rd qu i < (t.length : Int)) (f0 : 0 ≤ f) (fl : f < ((rd_LFace t (rd qu i)).length : Int)) (e : (fc t (rd qu i) f).f0 = b) (hb : 0 ≤ b) (hb1 : b < (out.length : Int)) (hz : rd out b < 0) (hs : qu.length < 17592186044416) {r : List Int}
 (hR : Ev (fun k => spec_l07Parts.l3 k (out.set b.toNat N) N a (qu ++ [b]) i (wrap64 (f + 1)) t) r) : Ev (fun k => spec_l07Parts.l3 k out N a qu i f t) r :=
 ev_step (fun k => by rw [l3_eq k out N a qu i f b h4 h0 h1 q0 q1 f0 fl e, if_pos hb, if_pos hb, if_pos hb1, if_pos hz, if_pos hs]) hR
theorem l3_old {out qu : List Int} {N a i f b : Int} (h4 : f < 4) (h0 : 0 ≤ i) (h1 : i < (qu.length : Int)) (q0 : 0 ≤ rd qu i) (q1 : rd qu i < (t.length : Int)) (f0 : 0 ≤ f) (fl : f < ((rd_LFace t (rd qu i)).length : Int)) (e : (fc t (rd qu i) f).f0 = b) (hb : 0 ≤ b) (hb1 : b < (out.length : Int)) (hz : ¬ rd out b < 0) {r : List Int}
 (hR : Ev (fun k => spec_l07Parts.l3 k out N a qu i (wrap64 (f + 1)) t) r) : Ev (fun k => spec_l07Parts.l3 k out N a qu i f t) r :=
 ev_step (fun k => by rw [l3_eq k out N a qu i f b h4 h0 h1 q0 q1 f0 fl e, if_pos hb, if_pos hb, if_pos hb1, if_neg hz]) hR
theorem l3_none {out qu : List Int} {N a i f b : Int} (h4 : f < 4) (h0 : 0 ≤ i) (h1 : i < (qu.length : Int)) (q0 : 0 ≤ rd qu i) (q1 : rd qu i < (t.length : Int)) (f0 : 0 ≤ f) (fl : f < ((rd_LFace t (rd qu i)).length : Int)) (e : (fc t (rd qu i) f).f0 = b) (hb : ¬ b ≥ 0) {r : List Int}
 (hR : Ev (fun k => spec_l07Parts.l3 k out N a qu i (wrap64 (f + 1)) t) r) : Ev (fun k => spec_l07Parts.l3 k out N a qu i f t) r :=
 ev_step (fun k => by rw [l3_eq k out N a qu i f b h4 h0 h1 q0 q1 f0 fl e, if_neg hb]) hR
/-- The faces of one tetrahedron. -/
theorem row_b (h : isTri t = true) {U : Int → Int} (hU : Merged t U) {R : List Int} {N a i : Int} (hi0 : 0 ≤ i) : ∀ (d f : Nat) (out qu : List Int), f + d = 4 → SI t U out R qu N a i → i < qu.length →
 (∀ g : Int, 0 ≤ g → g < f → 0 ≤ (fc t (rd qu i) g).f0 → rd out (fc t (rd qu i) g).f0 = N) →
 ∃ out' qu' : List Int, SI t U out' R qu' N a i ∧ i < qu'.length ∧ uc out' + qu'.length = uc out + qu.length ∧ (∀ g : Int, 0 ≤ g → g ≤ 3 → 0 ≤ (fc t (rd qu' i) g).f0 → rd out' (fc t (rd qu' i) g).f0 = N) ∧
  ∀ r : List Int, Ev (fun k => spec_l07Parts.l2 k out' N a qu' (i + 1) t) r → Ev (fun k => spec_l07Parts.l3 k out N a qu i (f : Int) t) r
 | 0, f, out, qu, hf, hS, hi1, hg => by
  obtain rfl : f = 4 := by omega
  have hs := hS.small
  refine ⟨out, qu, hS, hi1, rfl, fun g g0 g1 hh => hg g g0 (by omega) hh, fun r hr => ?_⟩
  refine ev_step (fun k => by rw [spec_l07Parts.l3, if_neg (by omega), wrap_id (show -9223372036854775808 ≤ i + 1 by omega) (by omega)]) ?_
  exact hr
 | d + 1, f, out, qu, hf, hS, hi1, hg => by
  have f4 : (f : Int) < 4 := by omega
  have f0 : (0 : Int) ≤ (f : Int) := by omega
  have f3 : (f : Int) ≤ 3 := by omega
  have hw : wrap64 ((f : Int) + 1) = ((f + 1 : Nat) : Int) := wrap_succ (by omega)
  have hd : (f + 1) + d = 4 := by omega
  have hqs : qu.length < 17592186044416 := by have hs := hS.small; omega
  have q0 := (hS.queue _ (rdmem hi0 hi1)).1
  have q1 := (hS.queue _ (rdmem hi0 hi1)).2.1
  have Q2 := Aside0.mk (hS.queue _ (rdmem hi0 hi1)).2.2
  have FL := Aside0.mk (show (f : Int) < ((rd_LFace t (rd qu i)).length : Int) by rw [rowlen h q0 q1]; exact f4)
  have hl := hS.bi.len
  have hlab0 := hS.lab0
  have hgl : ∀ g : Int, g < ((f + 1 : Nat) : Int) → ¬ g = (f : Int) → g < (f : Int) := fun g h1 h2 => by clear q0 q1 hl hlab0 hqs; omega
  obtain ⟨b, HBD⟩ : ∃ b : Int, Aside0 ((fc t (rd qu i) (f : Int)).f0 = b) := ⟨_, ⟨rfl⟩⟩
  by_cases hb : 0 ≤ b
  rotate_left
  next =>
   obtain ⟨out', qu', k1, k2, k3, k4, k5⟩ := row_b h hU hi0 d (f + 1) out qu hd hS hi1 (fun g g0 g1 hh => by
    by_cases e : g = (f : Int)
    next =>
     rw [e, HBD.out] at hh; exact absurd hh hb
    next =>
     exact hg g g0 (hgl g g1 e) hh)
   exact ⟨out', qu', k1, k2, k3, k4, fun r hR => l3_none f4 hi0 hi1 q0 q1 f0 FL.out HBD.out hb (by rw [hw]; exact k5 r hR)⟩
  obtain ⟨b1, g', g0', g1', gb'⟩ := nb_ok h q0 q1 f0 f3 (by rw [HBD.out]; exact hb)
  rw [HBD.out] at b1 gb'
  have GB := Aside0.mk gb'
  clear gb'
  by_cases hz : rd out b < 0
  rotate_left
  next =>
   have hz0 : 0 ≤ rd out b := Int.not_lt.1 hz
   have HZ := Aside0.mk hz
   have HZ0 := Aside0.mk hz0
   clear hz hz0
   obtain ⟨out', qu', k1, k2, k3, k4, k5⟩ := row_b h hU hi0 d (f + 1) out qu hd hS hi1 (fun g g0 g1 hh => by
    by_cases e : g = (f : Int)
    next =>
     rw [e, HBD.out]
     refine Classical.byContradiction fun hne => ?_
     have hnq : ¬ b ∈ qu.drop i.toNat := fun hm => hne (hS.queue _ (List.mem_of_mem_drop hm)).2.2
     have := hS.cl _ hb b1 HZ0.out hnq g' g0' g1' (by rw [GB.out]; exact q0)
     rw [GB.out, Q2.out] at this
     exact hne this.symm
    next =>
     exact hg g g0 (hgl g g1 e) hh)
   exact ⟨out', qu', k1, k2, k3, k4, fun r hR => l3_old f4 hi0 hi1 q0 q1 f0 FL.out HBD.out hb (by rw [hl]; exact b1) HZ.out (by rw [hw]; exact k5 r hR)⟩
  obtain ⟨s1, s2, s3, s4⟩ := hS.visit h hU hi0 hi1 f0 f3 (by rw [HBD.out]; exact hb) (by rw [HBD.out]; exact hz)
  rw [HBD.out] at s1 s2 s3 s4
  have S4 := Aside0.mk s4
  have HZ := Aside0.mk hz
  clear s4 hz
  have hq1 : i < ((qu ++ [b]).length : Int) := by rw [List.length_append, List.length_singleton]; clear s1 s2 s3 q0 q1 hl hlab0 hw; omega
  have E9 := Aside0.mk (show rd (qu ++ [b]) i = rd qu i from rdapp qu _ i hi0 hi1)
  obtain ⟨out', qu', k1, k2, k3, k4, k5⟩ := row_b h hU hi0 d (f + 1) _ _ hd s1 hq1 (fun g g0 g1 hh => by
   rw [E9.out] at hh ⊢
   by_cases e : g = (f : Int)
   next =>
    rw [e, HBD.out]; exact S4.out
   next =>
    have := hg g g0 (hgl g g1 e) hh
    rw [s3 _ hh (by rw [this]; exact hlab0)]; exact this)
  refine ⟨out', qu', k1, k2, by rw [k3, List.length_append, List.length_singleton]; clear k1 k2 k3 k4 k5 q0 q1 hl hlab0 hq1; omega, k4, fun r hR => ?_⟩
  exact l3_new f4 hi0 hi1 q0 q1 f0 FL.out HBD.out hb (by rw [hl]; exact b1) HZ.out hqs (by rw [hw]; exact k5 r hR)
/-- The queue. -/
theorem queue_b (h : isTri t = true) {U : Int → Int} (hU : Merged t U) {R : List Int} {N a : Int} : ∀ (m : Nat) (out qu : List Int) (i : Int), 0 ≤ i → SI t U out R qu N a i → (uc out + qu.length : Int) - i < m →
 ∃ out' : List Int, BI t U out' R ∧ (∀ x : Int, 0 ≤ x → x < a → 0 ≤ rd out' x) ∧ CL t out' (fun _ => False) ∧ ∀ r : List Int, Ev (fun k => spec_l07Parts.l1 k out' (N + 1) (a + 1) t) r → Ev (fun k => spec_l07Parts.l2 k out N a qu i t) r
 | m, out, qu, i, hi0, hS, hm => by
  have hs := hS.small
  have h8 := (isTri_good h).1
  have hlab := hS.lab
  have hlab0 := hS.lab0
  by_cases hi1 : i < (qu.length : Int)
  next =>
   cases m with
   | zero => omega
   | succ m =>
    obtain ⟨out1, qu1, k1, k2, k3, k4, k5⟩ := row_b h hU hi0 4 0 out qu (by omega) hS hi1 (fun g g0 g1 => by omega)
    obtain ⟨q0, q1, q2⟩ := k1.queue _ (rdmem hi0 k2)
    obtain ⟨out', j1, j2, j3, j4⟩ := queue_b h hU m out1 qu1 (i + 1) (by omega) ⟨k1.bi, k1.lab, k1.lab0, k1.root, k1.queue, k1.low, fun x h0 h1 hx hP g g0 g1 hg => by
     by_cases e : x = rd qu1 i
     next =>
      subst e
      rw [q2]; exact k4 g g0 g1 hg
     next =>
      refine k1.cl x h0 h1 hx (fun hd => hP ?_) g g0 g1 hg
      have hdrop : qu1.drop i.toNat = rd qu1 i :: qu1.drop (i + 1).toNat := by
       obtain ⟨n, rfl⟩ := Int.eq_ofNat_of_zero_le hi0
       rw [Int.toNat_natCast, List.drop_eq_getElem_cons (by omega), rd_lt qu1 n (by omega)]
       rfl
      rw [hdrop] at hd
      exact (List.mem_cons.1 hd).resolve_left e, k1.small⟩ (by omega)
    exact ⟨out', j1, j2, j3, fun r hr => ev_step (f := fun k => spec_l07Parts.l3 k out N a qu i ((0 : Nat) : Int) t) (fun k => by rw [spec_l07Parts.l2, if_pos hi1]; rfl) (k5 r (j4 r hr))⟩
  next =>
   have hR : R.length ≤ 1000 := by
    refine Classical.byContradiction fun hc => ?_
    have hb := hS.bi
    have : ∀ v : Nat, v < R.length → (v : Int) ≤ rd R (v : Int) := by
     intro v
     induction v with
     | zero => intro hv; exact (hb.rng 0 (by omega) (by omega)).1
     | succ v ih =>
      intro hv
      have h1 := ih (by omega)
      have h2 := hb.incr (v : Int) ((v + 1 : Nat) : Int) (by omega) (by omega) (by omega)
      omega
    have h1 := this 100 (by omega)
    have h2 := (hb.rng ((100 : Nat) : Int) (by omega) (by omega)).2.1
    omega
   have hra := (hS.bi.rng N hlab0 (by omega)).2.1
   have hra0 := (hS.bi.rng N hlab0 (by omega)).1
   rw [hS.root] at hra hra0
   refine ⟨out, hS.bi, hS.low, fun x h0 h1 hx _ g g0 g1 hg => hS.cl x h0 h1 hx (fun hd => ?_) g g0 g1 hg, fun r hr => ?_⟩
   next =>
    rw [List.drop_eq_nil_of_le (by omega)] at hd
    cases hd
   next =>
    exact ev_step (fun k => by rw [spec_l07Parts.l2, if_neg hi1, wrap_id (show -9223372036854775808 ≤ N + 1 by omega) (by omega), wrap_id (show -9223372036854775808 ≤ a + 1 by omega) (by omega)]) hr
theorem all_b (h : isTri t = true) {U : Int → Int} (hU : Merged t U) : ∀ (d : Nat) (a : Int) (out R : List Int), 0 ≤ a → a + d = t.length → BI t U out R → (∀ x : Int, 0 ≤ x → x < a → 0 ≤ rd out x) → CL t out (fun _ => False) → (∀ v : Int, 0 ≤ v → v < R.length → rd R v < a) →
 ∃ out' R' : List Int, Ev (fun k => spec_l07Parts.l1 k out (R.length : Int) a t) out' ∧ BI t U out' R' ∧ (∀ x : Int, 0 ≤ x → x < t.length → 0 ≤ rd out' x) ∧ CL t out' (fun _ => False)
 | 0, a, out, R, ha, hd, hB, hlow, hC, hR => ⟨out, R, ev_step (f := fun _ => some out) (fun k => by rw [spec_l07Parts.l1, spec_l07Tets.f, yfy, if_neg (by omega)]) (Ev.now _), hB, fun x h0 h1 => hlow x h0 (by omega), hC⟩
 | d + 1, a, out, R, ha, hd, hB, hlow, hC, hR => by
  have h8 := (isTri_good h).1
  have hl := hB.len
  by_cases hz : rd out a ≥ 0
  next =>
   obtain ⟨out', R', e1, e2, e3, e4⟩ := all_b h hU d (a + 1) out R (by omega) (by omega) hB (fun x h0 h1 => by
    by_cases e : x = a
    next =>
     rw [e]; exact hz
    next =>
     exact hlow x h0 (by omega)) hC (fun v h0 h1 => by have := hR v h0 h1; omega)
   exact ⟨out', R', ev_step (fun k => by rw [spec_l07Parts.l1, spec_l07Tets.f, yfy, if_pos (by omega), if_pos ha, if_pos (by omega), if_pos hz, wrap_id (show -9223372036854775808 ≤ a + 1 by omega) (by omega)]) e1, e2, e3, e4⟩
  next =>
   have hB1 := hB.root ha (by omega) (by omega) hR
   have gs : ∀ x : Int, 0 ≤ x → rd (out.set a.toNat (R.length : Int)) x = if x = a then (R.length : Int) else rd out x := fun x h0 => rdset ha (by omega) h0
   have huc := uc_set out a.toNat (R.length : Int) (by omega) (by
    have : rd out a < 0 := by omega
    exact this) (by omega)
   have hul := uc_le out
   have hS : SI t U (out.set a.toNat (R.length : Int)) (R ++ [a]) [a] (R.length : Int) a 0 := by
    refine ⟨hB1, by simp, by omega, rdlast R a, fun y hy => ?_, fun x h0 h1 => ?_, fun x h0 h1 hx hP g g0 g1 hg => ?_, by simp; omega⟩
    next =>
     rw [List.mem_singleton.1 hy]; exact ⟨ha, by omega, by rw [gs a ha, if_pos rfl]⟩
    next =>
     rw [gs x h0, if_neg (by omega)]; exact hlow x h0 h1
    next =>
     have hxa : x ≠ a := fun e => hP (by rw [e]; exact List.mem_singleton_self _)
     rw [gs x h0, if_neg hxa] at hx ⊢
     have := hC x h0 h1 hx (fun hf => hf) g g0 g1 hg
     rw [gs _ hg, if_neg (fun e => by rw [e] at this; omega)]; exact this
   have hnext : ∀ out1 : List Int, BI t U out1 (R ++ [a]) → (∀ x : Int, 0 ≤ x → x < a → 0 ≤ rd out1 x) → CL t out1 (fun _ => False) → ∃ out' R' : List Int, Ev (fun k => spec_l07Parts.l1 k out1 ((R.length : Int) + 1) (a + 1) t) out' ∧ BI t U out' R' ∧ (∀ x : Int, 0 ≤ x → x < t.length → 0 ≤ rd out' x) ∧ CL t out' (fun _ => False) := fun out1 b1 b2 b3 => by
    have e9 : ((R ++ [a]).length : Int) = (R.length : Int) + 1 := by simp
    have hla := (b1.rng (R.length : Int) (by omega) (by omega)).2.2
    rw [rdlast] at hla
    have := all_b h hU d (a + 1) out1 (R ++ [a]) (by omega) (by omega) b1 (fun x h0 h1 => by
     by_cases e : x = a
     next =>
      rw [e, hla]; omega
     next =>
      exact b2 x h0 (by omega)) b3 (fun v h0 h1 => by
     by_cases hv : v < R.length
     next =>
      rw [rdapp R a v h0 hv]; have := hR v h0 hv; omega
     next =>
      obtain rfl : v = (R.length : Int) := by omega
      rw [rdlast]; omega)
    rw [e9] at this
    exact this
   obtain ⟨out1, b1, b2, b3, hev⟩ := queue_b h hU 200 (out.set a.toNat (R.length : Int)) [a] 0 (Int.le_refl 0) hS (by simp; omega)
   obtain ⟨out', R', e1, e2, e3, e4⟩ := hnext out1 b1 b2 b3
   exact ⟨out', R', ev_step (fun k => by rw [spec_l07Parts.l1, spec_l07Tets.f, yfy, if_pos (by omega), if_pos ha, if_pos (by omega), if_neg hz]) (hev _ e1), e2, e3, e4⟩
theorem can_of {U : Int → Int} {out R : List Int} (hB : BI t U out R) (hall : ∀ x : Int, 0 ≤ x → x < t.length → 0 ≤ rd out x) : ∀ (d i m : Nat), i + d = out.length → (∀ v : Int, 0 ≤ v → v < R.length → (rd R v < i ↔ v < m)) → CanFrom m (out.drop i)
 | 0, i, m, hi, hm => by rw [List.drop_eq_nil_of_le (by omega)]; exact .nil m
 | d + 1, i, m, hi, hm => by
  have hlt : i < out.length := by omega
  have hl := hB.len
  have hg : rd out (i : Int) = out[i] := rd_lt out i hlt
  have h0 := hall (i : Int) (by omega) (by omega)
  have hv := (hB.val (i : Int) (by omega) (by omega)).resolve_left (by omega)
  have hf := hB.first (i : Int) (by omega) (by omega) h0
  rw [List.drop_eq_getElem_cons hlt]
  rw [hg] at h0 hv hf
  generalize out[i] = v at *
  by_cases hr : rd R v < i
  next =>
   refine .old h0 ((hm v h0 hv.2).1 hr) (can_of hB hall d (i + 1) m (by omega) (fun u u0 u1 => ?_))
   rw [← hm u u0 u1]
   constructor
   next =>
    intro hh
    refine Classical.byContradiction fun hc => ?_
    have e : rd R u = (i : Int) := by omega
    have := (hB.rng u u0 u1).2.2
    rw [e, hg] at this
    rw [this] at hr
    omega
   next =>
    intro hh; omega
  next =>
   have er : rd R v = (i : Int) := by omega
   have ev : v = (m : Int) := by
    have h1 : ¬ v < m := fun hh => hr ((hm v h0 hv.2).2 hh)
    by_cases hz : v = 0
    next =>
     omega
    next =>
     have := hB.incr (v - 1) v (by omega) (by omega) hv.2
     have := (hm (v - 1) (by omega) (by omega)).1 (by omega)
     omega
   rw [ev]
   refine .new (can_of hB hall d (i + 1) (m + 1) (by omega) (fun u u0 u1 => ?_))
   have hmu := hm u u0 u1
   constructor
   next =>
    intro hh
    by_cases e : rd R u < i
    next =>
     have := hmu.1 e; omega
    next =>
     have e : rd R u = (i : Int) := by omega
     have := (hB.rng u u0 u1).2.2
     rw [e, hg] at this
     omega
   next =>
    intro hh
    by_cases e : u < m
    next =>
     have := hmu.2 e; omega
    next =>
     have : u = v := by omega
     rw [this, er]; omega
theorem init_b (n : Nat) (hn : n ≤ 1000000) {r : List Int} : ∀ (d i : Nat) (out : List Int), i + d = n → out.length = n → (∀ x : Int, 0 ≤ x → x < i → rd out x = -1) → (∀ out' : List Int, out'.length = n → (∀ x : Int, 0 ≤ x → x < n → rd out' x = -1) → Ev (fun k => spec_l07Parts.l1 k out' 0 0 t) r) → Ev (fun k => spec_l07Parts.l0 k out (i : Int) t) r
 | 0, i, out, hi, hl, hv, hk => by
  refine ev_step (fun k => by rw [spec_l07Parts.l0, if_neg (by omega)]) ?_
  exact hk out hl (fun x h0 h1 => hv x h0 (by omega))
 | d + 1, i, out, hi, hl, hv, hk => by
  refine ev_step (fun k => by rw [spec_l07Parts.l0, if_pos (by omega), if_pos (by omega), wrap_succ (by omega)]) ?_
  refine init_b n hn d (i + 1) _ (by omega) (by simp [hl]) (fun x h0 h1 => ?_) hk
  rw [rdset (by omega) (by omega) h0]
  split
  next =>
   rfl
  next =>
   exact hv x h0 (by omega)
/-- What the reference's search comes to. -/
theorem parts_ev (h : isTri t = true) {U : Int → Int} (hU : Merged t U) : ∃ out : List Int, Ev (fun k => spec_l07Parts.f k t) out ∧ out.length = t.length ∧ CanFrom 0 out ∧ (∀ x g : Int, 0 ≤ x → x < t.length → 0 ≤ g → g ≤ 3 → 0 ≤ (fc t x g).f0 → rd out (fc t x g).f0 = rd out x) ∧
 (∀ x y : Int, 0 ≤ x → x < t.length → 0 ≤ y → y < t.length → rd out x = rd out y → U x = U y) := by
 have h8 := (isTri_good h).1
 have hinit : ∀ out0 : List Int, out0.length = t.length → (∀ x : Int, 0 ≤ x → x < t.length → rd out0 x = -1) → ∃ out R : List Int, Ev (fun k => spec_l07Parts.l1 k out0 0 0 t) out ∧ BI t U out R ∧ (∀ x : Int, 0 ≤ x → x < t.length → 0 ≤ rd out x) ∧ CL t out (fun _ => False) := fun out0 hl hv => by
  have := all_b h hU t.length 0 out0 [] (by omega) (by omega) ⟨hl, fun x h0 h1 => .inl (hv x h0 h1), fun v h0 h1 => by simp at h1; omega, fun x h0 h1 hx => by rw [hv x h0 h1] at hx; omega, fun x h0 h1 hx => by rw [hv x h0 h1] at hx; omega, fun v w h0 h1 h2 => by simp at h2; omega⟩ (fun x h0 h1 => by omega) (fun x h0 h1 hx => by rw [hv x h0 h1] at hx; omega) (fun v h0 h1 => by simp at h1; omega)
  exact this
 have hrep : ∃ out0 : List Int, out0.length = t.length ∧ (∀ x : Int, 0 ≤ x → x < t.length → rd out0 x = -1) ∧ ∀ r, Ev (fun k => spec_l07Parts.l1 k out0 0 0 t) r → Ev (fun k => spec_l07Parts.f k t) r := by
  refine ⟨List.replicate t.length (-1), by simp, fun x h0 h1 => ?_, fun r hr => ?_⟩
  next =>
   obtain ⟨n, rfl⟩ := Int.eq_ofNat_of_zero_le h0
   rw [rd_lt _ n (by simp; omega)]; simp
  next =>
   refine ev_pos (by omega) (ev_pos (by omega) ?_)
   rw [Int.toNat_natCast]
   refine init_b (t := t) t.length (by omega) t.length 0 (List.replicate t.length 0) (by omega) (by simp) (fun x h0 h1 => by omega) (fun out' hl hv => ?_)
   have e : out' = List.replicate t.length (-1) := by
    refine List.ext_getElem (by simp [hl]) (fun j h1 h2 => ?_)
    have := hv (j : Int) (by omega) (by omega)
    rw [rd_lt out' j h1] at this
    rw [this]; simp
   rw [e]; exact hr
 obtain ⟨out0, hl0, hv0, hk⟩ := hrep
 obtain ⟨out, R, e1, e2, e3, e4⟩ := hinit out0 hl0 hv0
 refine ⟨out, hk out e1, e2.len, ?_, fun x g h0 h1 g0 g1 hg => e4 x h0 h1 (e3 x h0 h1) (fun hf => hf) g g0 g1 hg, fun x y x0 x1 y0 y1 he => ?_⟩
 next =>
  have := can_of e2 e3 out.length 0 0 (by omega) (fun v v0 v1 => by have := (e2.rng v v0 v1).1; omega)
  rwa [List.drop_zero] at this
 next =>
  rw [e2.same x x0 x1 (e3 x x0 x1), e2.same y y0 y1 (e3 y y0 y1), he]
end
theorem uni_rd (s : List Int) (i k x : Int) (h0 : 0 ≤ x) (h1 : x < s.length) : rd (uni s i k) x = if rd s x = rd s k then rd s i else rd s x := by
  obtain ⟨n, rfl⟩ := Int.eq_ofNat_of_zero_le h0
  exact uni_get s i k n (by omega)
theorem dn_next {x a g : Int} (g0 : 0 ≤ g) (g1 : g ≤ 3) (h : x < a + 1 ∨ (x = a + 1 ∧ g < 0)) : x < a ∨ (x = a ∧ g < 4) := by omega
theorem dn_step {x a g f : Int} (h : x < a ∨ (x = a ∧ g < f + 1)) : (x < a ∨ (x = a ∧ g < f)) ∨ (x = a ∧ g = f) := by omega
section
variable {t : Tri}
/-- Marks whose classes are no coarser than need be. -/
structure MI (t : Tri) (m : List Int) : Prop where
  len : m.length = t.length
  rng : ∀ x : Int, 0 ≤ x → x < t.length → 0 ≤ rd m x ∧ rd m x < t.length
  fine : ∀ V : Int → Int, Merged t V → ∀ x y : Int, 0 ≤ x → x < t.length → 0 ≤ y → y < t.length → rd m x = rd m y → V x = V y
theorem MI.uni (h : isTri t = true) {m : List Int} (hM : MI t m) {a f : Int} (a0 : 0 ≤ a) (a1 : a < t.length) (f0 : 0 ≤ f) (f1 : f ≤ 3) (hb : 0 ≤ (fc t a f).f0) : MI t (uni m a (fc t a f).f0) := by
  have b1 := (nb_ok h a0 a1 f0 f1 hb).1
  have hV : ∀ V : Int → Int, Merged t V → V a = V (fc t a f).f0 := fun V hV => hV a f a0 a1 f0 f1 hb
  generalize (fc t a f).f0 = b at hb b1 hV ⊢
  have g : ∀ x : Int, 0 ≤ x → x < t.length → rd (Lib.uni m a b) x = if rd m x = rd m b then rd m a else rd m x := fun x x0 x1 => uni_rd m a b x x0 (by rw [hM.len]; exact x1)
  refine ⟨by rw [uni_length]; exact hM.len, fun x x0 x1 => ?_, fun V hv x y x0 x1 y0 y1 he => ?_⟩
  · rw [g x x0 x1]; split
    · exact hM.rng a a0 a1
    · exact hM.rng x x0 x1
  · rw [g x x0 x1, g y y0 y1] at he
    have e := hV V hv
    have fx := hM.fine V hv x b x0 x1 hb b1
    have fy := hM.fine V hv y b y0 y1 hb b1
    by_cases c1 : rd m x = rd m b
    · rw [if_pos c1] at he
      by_cases c2 : rd m y = rd m b
      · rw [fx c1, fy c2]
      · rw [if_neg c2] at he
        rw [fx c1, ← e]; exact hM.fine V hv a y a0 a1 y0 y1 he
    · rw [if_neg c1] at he
      by_cases c2 : rd m y = rd m b
      · rw [if_pos c2] at he
        rw [fy c2, ← e]; exact hM.fine V hv x a x0 x1 a0 a1 he
      · rw [if_neg c2] at he; exact hM.fine V hv x y x0 x1 y0 y1 he
/-- The faces ahead of (a, f) are merged. -/
def Dn (t : Tri) (m : List Int) (a f : Int) : Prop := ∀ x g : Int, 0 ≤ x → x < t.length → 0 ≤ g → g ≤ 3 → (x < a ∨ (x = a ∧ g < f)) → 0 ≤ (fc t x g).f0 → rd m x = rd m (fc t x g).f0
theorem cl1_eq (k : Nat) (m : List Int) (a f n : Int) (R : List SFace) (h4 : f < 4) (f0 : 0 ≤ f) (fl : f < (R.length : Int)) : impl_Triangulation_components.l1 (k + 1) m a t n a R 4 f = (if decide ((rd_Face R f).f0 < 0) = true then (impl_Triangulation_components.l1 k m a t n a R 4 (wrap64 (f + 1))) else ((impl_union.f m a ((rd_Face R f).f0)).bind fun t113 => (impl_Triangulation_components.l1 k t113 a t n a R 4 (wrap64 (f + 1))))) := by
  rw [impl_Triangulation_components.l1, if_pos h4, if_pos f0, if_pos fl, impl_Face_isBoundary.f, yfy]
theorem comp_l1 (h : isTri t = true) {a : Int} (a0 : 0 ≤ a) (a1 : a < t.length) (hw1 : wrap64 (a + 1) = a + 1) : ∀ (d f : Nat) (m : List Int), f + d = 4 → MI t m → Dn t m a f →
    ∃ m' : List Int, MI t m' ∧ Dn t m' (a + 1) 0 ∧ ∀ r : List Int, Ev (fun k => impl_Triangulation_components.l0 k m' t (t.length : Int) (a + 1)) r → Ev (fun k => impl_Triangulation_components.l1 k m a t (t.length : Int) a (rd_LFace t a) 4 (f : Int)) r
  | 0, f, m, hf, hM, hD => by
    obtain rfl : f = 4 := by omega
    refine ⟨m, hM, fun x g x0 x1 g0 g1 hc hb => hD x g x0 x1 g0 g1 (dn_next g0 g1 hc) hb, fun r hr => ?_⟩
    exact ev_step (fun k => by rw [impl_Triangulation_components.l1, if_neg (by omega), hw1]) hr
  | d + 1, f, m, hf, hM, hD => by
    have f4 : (f : Int) < 4 := by omega
    have f0 : (0 : Int) ≤ (f : Int) := by omega
    have f3 : (f : Int) ≤ 3 := by omega
    have hw : wrap64 ((f : Int) + 1) = ((f + 1 : Nat) : Int) := wrap_succ (by omega)
    have hd : (f + 1) + d = 4 := by omega
    have ec : ((f + 1 : Nat) : Int) = (f : Int) + 1 := by omega
    have fl : (f : Int) < ((rd_LFace t a).length : Int) := by rw [rowlen h a0 a1]; exact f4
    by_cases hb : (fc t a (f : Int)).f0 < 0
    · obtain ⟨m', k1, k2, k3⟩ := comp_l1 h a0 a1 hw1 d (f + 1) m hd hM (fun x g x0 x1 g0 g1 hc hg => by
        rw [ec] at hc
        rcases dn_step hc with hc | ⟨rfl, rfl⟩
        · exact hD x g x0 x1 g0 g1 hc hg
        · exact absurd hb (Int.not_lt.2 hg))
      exact ⟨m', k1, k2, fun r hr => ev_step (fun k => by rw [cl1_eq k m a f _ _ f4 f0 fl, if_pos (ygy hb), hw]) (k3 r hr)⟩
    · have hb0 : 0 ≤ (fc t a (f : Int)).f0 := Int.not_lt.1 hb
      have b1 := (nb_ok h a0 a1 f0 f3 hb0).1
      have hun : impl_union.f m a (fc t a (f : Int)).f0 = some (uni m a (fc t a (f : Int)).f0) := by
        unfold impl_union.f
        rw [if_pos ⟨a0, by rw [hM.len]; exact a1, hb0, by rw [hM.len]; exact b1⟩]
      obtain ⟨m', k1, k2, k3⟩ := comp_l1 h a0 a1 hw1 d (f + 1) _ hd (hM.uni h a0 a1 f0 f3 hb0) (fun x g x0 x1 g0 g1 hc hg => by
        have y1 := (nb_ok h x0 x1 g0 g1 hg).1
        rw [uni_rd m a _ x x0 (by rw [hM.len]; exact x1), uni_rd m a _ _ hg (by rw [hM.len]; exact y1)]
        rw [ec] at hc
        rcases dn_step hc with hc | ⟨e1, e2⟩
        · rw [hD x g x0 x1 g0 g1 hc hg]
        · rw [e1, e2, if_pos rfl]
          split <;> rfl)
      refine ⟨m', k1, k2, fun r hr => ev_step (f := fun k => impl_Triangulation_components.l1 k (uni m a (fc t a (f : Int)).f0) a t (t.length : Int) a (rd_LFace t a) 4 ((f + 1 : Nat) : Int)) (fun k => ?_) (k3 r hr)⟩
      rw [cl1_eq k m a f _ _ f4 f0 fl, if_neg (fun hc => hb (of_decide_eq_true hc)), hw]
      show (impl_union.f m a (fc t a (f : Int)).f0).bind _ = _
      rw [hun, yfy]
theorem comp_l0 (h : isTri t = true) (h8 : t.length ≤ 8) : ∀ (d : Nat) (a : Int) (m : List Int), 0 ≤ a → a + d = t.length → MI t m → Dn t m a 0 →
    ∃ m' : List Int, MI t m' ∧ Dn t m' t.length 0 ∧ Ev (fun k => impl_Triangulation_components.l0 k m t (t.length : Int) a) (numb m')
  | 0, a, m, a0, hd, hM, hD => by
    obtain rfl : a = (t.length : Int) := by omega
    have hl := hM.len
    have hok : numOk m = true := by
      unfold numOk
      rw [Bool.and_eq_true, decide_eq_true_eq, List.all_eq_true]
      refine ⟨by omega, fun x hx => ygy ?_⟩
      obtain ⟨i, hi, rfl⟩ := List.getElem_of_mem hx
      have := hM.rng (i : Int) (by omega) (by omega)
      rw [rd_lt m i hi] at this
      generalize m[i] = v at *
      omega
    refine ⟨m, hM, hD, ev_step (f := fun _ => some (numb m)) (fun k => ?_) (Ev.now _)⟩
    rw [impl_Triangulation_components.l0, if_neg (by omega), impl_numbered.f, if_pos hok, yfy]
  | d + 1, a, m, a0, hd, hM, hD => by
    have a1 : a < (t.length : Int) := by omega
    have hw1 : wrap64 (a + 1) = a + 1 := wrap_id (by omega) (by omega)
    have hd1 : a + 1 + (d : Int) = t.length := by omega
    have a2 : 0 ≤ a + 1 := by omega
    obtain ⟨m1, k1, k2, k3⟩ := comp_l1 h a0 a1 hw1 4 0 m rfl hM hD
    obtain ⟨m', j1, j2, j3⟩ := comp_l0 h h8 d (a + 1) m1 a2 hd1 k1 k2
    refine ⟨m', j1, j2, ev_step (f := fun k => impl_Triangulation_components.l1 k m a t (t.length : Int) a (rd_LFace t a) 4 ((0 : Nat) : Int)) (fun k => ?_) (k3 _ j3)⟩
    rw [impl_Triangulation_components.l0, if_pos a1, if_pos a0, if_pos a1, rowlen h a0 a1]
    rfl
theorem counting_ev (n : Nat) (hn : n ≤ 1000) : ∀ (d i : Nat), i + d = n → Ev (fun k => impl_counting.l0 k (upFrom 0 i) (n : Int) (i : Int)) (upFrom 0 n)
  | 0, i, hd => by
    obtain rfl : i = n := by omega
    exact ev_step (f := fun _ => some (upFrom 0 i)) (fun k => by rw [impl_counting.l0, if_neg (by omega)]) (Ev.now _)
  | d + 1, i, hd => by
    refine ev_step (fun k => ?_) (counting_ev n hn d (i + 1) (by omega))
    rw [impl_counting.l0, if_pos (by omega), if_pos (by rw [upFrom_length]; omega), wrap_succ (by omega), upFrom_snoc, Int.zero_add]
theorem components_ev (h : isTri t = true) : ∃ m : List Int, MI t m ∧ Merged t (rd m) ∧ Ev (fun k => impl_Triangulation_components.f k t) (numb m) := by
  have h8 := (isTri_good h).1
  have hr0 : ∀ x : Int, 0 ≤ x → x < t.length → rd (upFrom 0 t.length) x = x := fun x x0 x1 => by
    obtain ⟨n, rfl⟩ := Int.eq_ofNat_of_zero_le x0
    have := upFrom_get 0 t.length n (by omega)
    rw [Int.zero_add] at this
    exact this
  have h0 : MI t (upFrom 0 t.length) := ⟨upFrom_length _ _, fun x x0 x1 => by rw [hr0 x x0 x1]; exact ⟨x0, x1⟩, fun V hv x y x0 x1 y0 y1 he => by rw [hr0 x x0 x1, hr0 y y0 y1] at he; rw [he]⟩
  obtain ⟨m, k1, k2, k3⟩ := comp_l0 h h8 t.length 0 (upFrom 0 t.length) (Int.le_refl 0) (Int.zero_add _) h0 (fun x g x0 x1 g0 g1 hc hb => absurd hc (by omega))
  refine ⟨m, k1, fun x g x0 x1 g0 g1 hb => k2 x g x0 x1 g0 g1 (.inl x1) hb, ?_⟩
  exact Ev.bind (Ev.now (t.length : Int)) (Ev.bind (counting_ev t.length (by omega) t.length 0 (Nat.zero_add _)) k3)
end
/-- Both sides come to one list. -/
theorem tet_same {t : Tri} (hS : Small t) : ∃ o : List Int, o.length ≤ 8 ∧ Ev (fun k => spec_TetComponents.f k t) o ∧ Ev (fun k => impl_TetComponents.f k t) o := by
  by_cases h : isTri t = true
  · obtain ⟨m, m1, m2, m3⟩ := components_ev h
    obtain ⟨out, o1, o2, o3, o4, o5⟩ := parts_ev h m2
    have hker : Ker m out := by
      refine ⟨m1.len.trans o2.symm, fun i j hi hj => ?_⟩
      rw [m1.len] at hi hj
      have i1 : (i : Int) < t.length := Int.ofNat_lt.2 hi
      have j1 : (j : Int) < t.length := Int.ofNat_lt.2 hj
      have i0 : (0 : Int) ≤ i := Int.natCast_nonneg i
      have j0 : (0 : Int) ≤ j := Int.natCast_nonneg j
      constructor
      · exact fun e => m1.fine (rd out) (fun x g x0 x1 g0 g1 hb => (o4 x g x0 x1 g0 g1 hb).symm) i j i0 i1 j0 j1 e
      · exact fun e => o5 i j i0 i1 j0 j1 e
    rw [hker.numb, numb_can o3] at m3
    refine ⟨out, by rw [o2]; exact (isTri_good h).1, ?_, ?_⟩
    · exact Ev.bind (spec_isTri_ev t) (ev_pos h (Ev.bind o1 (Ev.now _)))
    · exact Ev.bind (impl_isTri_ev hS) (ev_pos h (Ev.bind m3 (Ev.now _)))
  · refine ⟨[], by simp, ?_, ?_⟩
    · exact Ev.bind (spec_isTri_ev t) (ev_neg h (Ev.now _))
    · exact Ev.bind (impl_isTri_ev hS) (ev_neg h (Ev.now _))
/-- n marked faces from a on. -/
def mkR (a : Int) : Nat → List SFace
  | 0 => []
  | n + 1 => ⟨a, a + 1⟩ :: mkR (a + 2) n
theorem mkR_length (a : Int) (n : Nat) : (mkR a n).length = n := by
  induction n generalizing a with
  | zero => rfl
  | succ n ih => simp [mkR, ih]
theorem mkR_snoc (a : Int) (n : Nat) : mkR a (n + 1) = mkR a n ++ [⟨a + 2 * n, a + 2 * n + 1⟩] := by
  induction n generalizing a with
  | zero => simp [mkR]
  | succ n ih =>
    rw [mkR, ih (a + 2)]
    have e : a + 2 + 2 * (n : Int) = a + 2 * ((n + 1 : Nat) : Int) := by omega
    rw [e]; rfl
theorem mk_set (l : List SFace) (a : Int) (n : Nat) (h : n < l.length) : (mkR a n ++ l.drop n).set n ⟨a + 2 * n, a + 2 * n + 1⟩ = mkR a (n + 1) ++ l.drop (n + 1) := by
  rw [List.set_append_right _ _ (by rw [mkR_length]; exact yoy _), mkR_length, Nat.sub_self, List.drop_eq_getElem_cons h, yby, mkR_snoc, List.append_assoc]
  rfl
theorem rd_Face_set (l : List SFace) (n : Nat) (v : SFace) (h : n < l.length) : rd_Face (l.set n v) (n : Int) = v := by
  rw [rd_Face_lt _ n (by rw [List.length_set]; exact h), List.getElem_set_self]
theorem markFaceS_ev (l : List SFace) (a : Int) (h : l.length ≤ 1099511627776) (h0 : 0 ≤ a) (h1 : a ≤ 4398046511104) : Ev (fun k => laws_markFaceS.f k l a) (a + 2 * l.length, mkR a l.length) := by
  have hl : Ev (fun k => laws_markFaceS.l0 k l a 0) (a + 2 * l.length, mkR a l.length) := by
    refine ev_loop0 (fun k (s : List SFace × Int × Int) => laws_markFaceS.l0 k s.1 s.2.1 s.2.2) (fun s => ∃ n : Nat, n ≤ l.length ∧ s.2.2 = n ∧ s.2.1 = a + 2 * n ∧ s.1 = mkR a n ++ l.drop n) (fun s => l.length - s.2.2.toNat) (fun _ => (a + 2 * l.length, mkR a l.length)) ?_ (l, a, 0) ⟨0, by omega, rfl, by simp, by simp [mkR]⟩
    rintro ⟨x, b, i⟩ ⟨n, hn, rfl, rfl, rfl⟩
    dsimp only
    have hlen : (mkR a n ++ l.drop n).length = l.length := by simp [mkR_length]; omega
    by_cases hlt : n < l.length
    · refine .inr ⟨(mkR a (n + 1) ++ l.drop (n + 1), a + 2 * ((n + 1 : Nat) : Int), ((n + 1 : Nat) : Int)), ⟨n + 1, by omega, rfl, rfl, rfl⟩, by simp; omega, rfl, fun k => ?_⟩
      simp only [laws_markFaceS.l0]
      rw [if_pos (by rw [hlen]; omega), if_pos (by omega), yfy, Int.toNat_natCast, rd_Face_set _ n _ (by rw [hlen]; exact hlt), List.set_set, wrap_id (x := a + 2 * (n : Int) + 1) (by omega) (by omega), mk_set l a n hlt, wrap_succ (by omega), wrap_id (by omega) (by omega)]
      congr 1; omega
    · obtain rfl : n = l.length := by omega
      refine .inl fun k => ?_
      simp only [laws_markFaceS.l0]
      rw [if_neg (by rw [hlen]; omega)]
      simp
  exact hl
/-- The marks of a triangulation, and their number. -/
def cntF : Tri → Nat
  | [] => 0
  | r :: rs => 2 * r.length + cntF rs
def mkT (a : Int) : Tri → Tri
  | [] => []
  | r :: rs => mkR a r.length :: mkT (a + 2 * r.length) rs
theorem cntF_le (t : Tri) (h : ∀ r ∈ t, r.length ≤ 1048576) : cntF t ≤ 2097152 * t.length := by
  induction t with
  | nil => simp [cntF]
  | cons r rs ih =>
    have h1 := h r (List.mem_cons_self ..)
    have h2 := ih (fun x hx => h x (List.mem_cons_of_mem _ hx))
    simp only [cntF, List.length_cons]; omega
theorem markGo_ev : ∀ (suf : Tri) (pre : Tri) (a : Int), (∀ r ∈ suf, r.length ≤ 1048576) → 0 ≤ a → a + cntF suf ≤ 4398046511104 → Ev (fun k => laws_markFaceSS.go k suf.length (pre ++ suf) a pre.length) (a + cntF suf, pre ++ mkT a suf)
  | [], pre, a, _, h0, h1 => ev_const' fun k => by simp [laws_markFaceSS.go, cntF, mkT]
  | r :: rs, pre, a, hr, h0, h1 => by
    simp only [cntF] at h1
    have hm := markFaceS_ev r a (by have := hr r (List.mem_cons_self ..); omega) h0 (by omega)
    have ih := markGo_ev rs (pre ++ [mkR a r.length]) (a + 2 * r.length) (fun x hx => hr x (List.mem_cons_of_mem _ hx)) (by omega) (by omega)
    simp only [List.length_cons, laws_markFaceSS.go]
    have e0 : List.getD (pre ++ r :: rs) pre.length [] = r := by simp
    rw [e0]
    refine Ev.bind hm ?_
    dsimp only
    have e1 : (pre ++ r :: rs).set pre.length (mkR a r.length) = pre ++ [mkR a r.length] ++ rs := by
      rw [List.set_append_right _ _ (yoy _), Nat.sub_self, yby]; simp
    rw [e1]
    have e2 : pre.length + 1 = (pre ++ [mkR a r.length]).length := by simp
    rw [e2]
    have e3 : (a + ((cntF (r :: rs) : Nat) : Int), pre ++ mkT a (r :: rs)) = (a + 2 * r.length + (cntF rs : Int), pre ++ [mkR a r.length] ++ mkT (a + 2 * r.length) rs) := by
      simp only [cntF, mkT, List.append_assoc, List.singleton_append]; congr 1; omega
    rw [e3]
    exact ih
theorem markTriangulation_ev (t : Tri) (a : Int) (hs : Small t) (h0 : 0 ≤ a) (h1 : a ≤ 1048576) : Ev (fun k => laws_markTriangulation.f k t a) (a + cntF t, mkT a t) := by
  have := markGo_ev t [] a hs.2 h0 (by have := cntF_le t hs.2; have := hs.1; omega)
  rw [List.nil_append, List.nil_append] at this
  exact this
end Go.Proofs.Ytembbpalgfikiaa.P
namespace Go.Proofs.Ytembbpalgfikiaa.P
open Go.RowKit Go.Proofs.YtembbpalgfikiaaW.PrintWords Go.Proofs.YtembbpalgfikiaaW.PrintLast Go.Proofs.YtembbpalgfikiaaW.PrintMore
attribute [local go_sem] max2_int min2_int max_two min_two max_three min_three max_four min_four   -- for this text's walks alone
set_option linter.unusedVariables false
set_option linter.unusedSimpArgs false
/-! ### laws_toInt64S: function 13 -/
def laws_toInt64S.l0 : Nat → List Int → List Int → Int → Option (List Int)
  | 0, _, _, _ => none
  | k + 1, x0, x3, x4 => if x4 < (x0.length : Int) then (if 0 ≤ x4 then (if x4 < (x3.length : Int) then (laws_toInt64S.l0 k x0 (x3.set (x4 : Int).toNat (rd x0 x4)) (wrap64 (x4 + 1))) else (none)) else (none)) else (some x3)
def laws_toInt64S.f (k : Nat) (l0 : List Int) : Option (List Int) := if 0 ≤ (l0.length : Int) then (if ((l0.length : Int) : Int).toNat ≤ 35184372088832 then (laws_toInt64S.l0 k l0 (List.replicate ((l0.length : Int) : Int).toNat 0) 0) else (none)) else (none)
end Go.Proofs.Ytembbpalgfikiaa.P
namespace Go.Proofs.Ytembbpalgfikiaa.P
open Go.RowKit Go.Proofs.YtembbpalgfikiaaW.PrintWords Go.Proofs.Ytembbpalgfikiaa.Lib
set_option linter.unusedVariables false
theorem take_succ_rep {α : Type} (l : List α) (z : α) (n : Nat) (h : n < l.length) :
    (l.take n ++ List.replicate (l.length - n) z).set n l[n] = l.take (n + 1) ++ List.replicate (l.length - (n + 1)) z := by
  have e : l.length - n = (l.length - (n + 1)) + 1 := by omega
  rw [e, List.replicate_succ, List.set_append_right _ _ (by simp; omega)]
  have : n - (l.take n).length = 0 := by simp; omega
  rw [this, yby, List.take_succ_eq_append_getElem h, List.append_assoc]
  rfl
theorem toInt64S_ev (l : List Int) (h : l.length ≤ 4398046511104) : Ev (fun k => laws_toInt64S.f k l) l := by
  have hl : Ev (fun k => laws_toInt64S.l0 k l (List.replicate l.length 0) 0) l := by
    refine ev_loop0 (fun k (s : List Int × Int) => laws_toInt64S.l0 k l s.1 s.2) (fun s => ∃ n : Nat, n ≤ l.length ∧ s.2 = n ∧ s.1 = l.take n ++ List.replicate (l.length - n) 0) (fun s => l.length - s.2.toNat) (fun _ => l) ?_ (List.replicate l.length 0, 0) ⟨0, by omega, rfl, by simp⟩
    rintro ⟨a, i⟩ ⟨n, hn, rfl, rfl⟩
    dsimp only
    by_cases hlt : n < l.length
    · refine .inr ⟨(l.take (n + 1) ++ List.replicate (l.length - (n + 1)) 0, ((n + 1 : Nat) : Int)), ⟨n + 1, by omega, rfl, rfl⟩, by simp; omega, rfl, fun k => ?_⟩
      simp only [laws_toInt64S.l0]
      rw [if_pos (by omega), if_pos (by omega), if_pos (by simp; omega), wrap_succ (by omega), Int.toNat_natCast, rd_lt l n hlt, take_succ_rep l 0 n hlt]
    · obtain rfl : n = l.length := by omega
      refine .inl fun k => ?_
      simp only [laws_toInt64S.l0]
      rw [if_neg (by omega)]
      simp
  refine Ev.congr (fun k => ?_) hl
  unfold laws_toInt64S.f
  rw [if_pos (by omega), if_pos (by simp; omega), Int.toNat_natCast]
theorem eqInt64S_ev (l : List Int) (h : l.length ≤ 4398046511104) : Ev (fun k => laws_eqInt64S.f k l l) true := by
  have hl : Ev (fun k => laws_eqInt64S.l0 k l l 0) true := by
    refine ev_loop0 (fun k (s : Int) => laws_eqInt64S.l0 k l l s) (fun s => ∃ n : Nat, n ≤ l.length ∧ s = n) (fun s => l.length - s.toNat) (fun _ => true) ?_ 0 ⟨0, by omega, rfl⟩
    rintro i ⟨n, hn, rfl⟩
    by_cases hlt : n < l.length
    · refine .inr ⟨((n + 1 : Nat) : Int), ⟨n + 1, by omega, rfl⟩, by simp; omega, rfl, fun k => ?_⟩
      simp only [laws_eqInt64S.l0]
      rw [if_pos (by omega), if_pos (by omega), if_pos (by omega), if_pos trivial, wrap_succ (by omega)]
    · refine .inl fun k => ?_
      simp only [laws_eqInt64S.l0]
      rw [if_neg (by omega)]
  refine Ev.congr (fun k => ?_) hl
  unfold laws_eqInt64S.f
  rw [if_pos rfl]
theorem take_set_up (l : List Int) (a : Int) (n : Nat) (h : n < l.length) : (upFrom a n ++ l.drop n).set n (a + n) = upFrom a (n + 1) ++ l.drop (n + 1) := by
  rw [List.set_append_right _ _ (by rw [upFrom_length]; omega), upFrom_length, Nat.sub_self, List.drop_eq_getElem_cons h, yby, upFrom_snoc, List.append_assoc]
  rfl
theorem markInt64S_ev (l : List Int) (a : Int) (h : l.length ≤ 4398046511104) (h0 : 0 ≤ a) (h1 : a ≤ 4398046511104) : Ev (fun k => laws_markInt64S.f k l a) (a + l.length, upFrom a l.length) := by
  have hl : Ev (fun k => laws_markInt64S.l0 k l a 0) (a + l.length, upFrom a l.length) := by
    refine ev_loop0 (fun k (s : List Int × Int × Int) => laws_markInt64S.l0 k s.1 s.2.1 s.2.2) (fun s => ∃ n : Nat, n ≤ l.length ∧ s.2.2 = n ∧ s.2.1 = a + n ∧ s.1 = upFrom a n ++ l.drop n) (fun s => l.length - s.2.2.toNat) (fun _ => (a + l.length, upFrom a l.length)) ?_ (l, a, 0) ⟨0, by omega, rfl, by simp, by simp [upFrom]⟩
    rintro ⟨x, b, i⟩ ⟨n, hn, rfl, rfl, rfl⟩
    dsimp only
    have hlen : (upFrom a n ++ l.drop n).length = l.length := by simp [upFrom_length]; omega
    by_cases hlt : n < l.length
    · refine .inr ⟨(upFrom a (n + 1) ++ l.drop (n + 1), a + ((n + 1 : Nat) : Int), ((n + 1 : Nat) : Int)), ⟨n + 1, by omega, rfl, rfl, rfl⟩, by simp; omega, rfl, fun k => ?_⟩
      simp only [laws_markInt64S.l0]
      rw [if_pos (by rw [hlen]; omega), if_pos (by omega), wrap_succ (by omega), Int.toNat_natCast, take_set_up l a n hlt, wrap_id (by omega) (by omega)]
      congr 1; omega
    · obtain rfl : n = l.length := by omega
      refine .inl fun k => ?_
      simp only [laws_markInt64S.l0]
      rw [if_neg (by rw [hlen]; omega)]
      simp
  exact hl
theorem heldInt64S_ev (a : Int) (m : Nat) (h : m ≤ 4398046511104) (h0 : 0 ≤ a) (h1 : a ≤ 4398046511104) : Ev (fun k => laws_heldInt64S.f k (upFrom a m) a) (a + m) := by
  have hl : Ev (fun k => laws_heldInt64S.l0 k (upFrom a m) a 0) (a + m) := by
    refine ev_loop0 (fun k (s : Int × Int) => laws_heldInt64S.l0 k (upFrom a m) s.1 s.2) (fun s => ∃ n : Nat, n ≤ m ∧ s.2 = n ∧ s.1 = a + n) (fun s => m - s.2.toNat) (fun _ => a + m) ?_ (a, 0) ⟨0, by omega, rfl, by simp⟩
    rintro ⟨b, i⟩ ⟨n, hn, rfl, rfl⟩
    dsimp only
    by_cases hlt : n < m
    · refine .inr ⟨(a + ((n + 1 : Nat) : Int), ((n + 1 : Nat) : Int)), ⟨n + 1, by omega, rfl, rfl⟩, by simp; omega, rfl, fun k => ?_⟩
      simp only [laws_heldInt64S.l0]
      rw [if_pos (by rw [upFrom_length]; omega), if_pos (by omega), if_pos (by rw [rd_nat, upFrom_get a m n hlt]), wrap_succ (by omega), wrap_id (by omega) (by omega)]
      congr 1; omega
    · obtain rfl : n = m := by omega
      refine .inl fun k => ?_
      simp only [laws_heldInt64S.l0]
      rw [if_neg (by rw [upFrom_length]; omega)]
  exact hl
end Go.Proofs.Ytembbpalgfikiaa.P
namespace Go.Proofs.Ytembbpalgfikiaa.Pure
open Go.RowKit Go.Proofs.Ytembbpalgfikiaa.P Go.Proofs.Ytembbpalgfikiaa.Lib Go.Proofs.YtembbpalgfikiaaW.PrintWords
theorem FnExactTetComponents (l : List (List SLawFace)) (h : Fits l) : ∃ k, laws_FnExactTetComponents.f k l = some true := by
  refine Ev.rounds ?_
  obtain ⟨r, hr, hs⟩ := szTriangulation_ev l h
  refine Ev.bind hr ?_
  by_cases hn : r < 0
  · exact ev_pos hn (Ev.now true)
  have hsm := hs hn
  have hto := toTriangulation_ev l hsm
  have hS := cvT_small hsm
  obtain ⟨o, hL, hsp, hi⟩ := tet_same hS
  have heq := eqInt64S_ev o (by omega)
  have hh := heldInt64S_ev 1 o.length (by omega) (by omega) (by omega)
  refine ev_neg hn ?_
  refine Ev.bind hto ?_
  refine Ev.bind hsp ?_
  refine Ev.bind hto ?_
  refine Ev.bind hi ?_
  refine Ev.bind heq (ev_pos rfl ?_)
  refine Ev.bind hto ?_
  refine Ev.bind (eqTriangulation_ev _ hS) (ev_pos rfl ?_)
  refine Ev.bind (markTriangulation_ev _ 1 hS (by omega) (by omega)) ?_
  refine ev_neg (by dsimp only; omega) ?_
  refine Ev.bind heq (ev_pos rfl ?_)
  refine Ev.bind (markInt64S_ev _ 1 (by omega) (by omega) (by omega)) ?_
  refine Ev.bind hh ?_
  refine ev_neg (by omega) (ev_pos rfl ?_)
  refine Ev.bind hto ?_
  refine Ev.bind hi ?_
  refine Ev.bind heq (ev_pos rfl ?_)
  refine Ev.bind hh ?_
  exact ev_neg (by omega) (ev_pos rfl (Ev.now true))
end Go.Proofs.Ytembbpalgfikiaa.Pure
namespace Go.Proofs.Ytembbpalgfikiaa.Lib
open Go.RowKit Go.Proofs.YtembbpalgfikiaaW.PrintWords Go.Joins Go.Deep Go.WideShapes Go.ChangeShapes
set_option linter.unusedVariables false
/-- Whatever reads as data at type t reads as a value of the kind d. -/
def Opens (P : Program) (t : TypeId) {α : Type} (d : Kd α) : Prop := ∀ (H : Type) (enc : TypeId × Value → H) (w : World) (base : Nat) (spare : Nat → Bool) (held : Bool) (fuel : Nat) (cs : List Value) (x : DataW H × List MemPlace),
  DataW.trod enc P w base spare held fuel t cs = some x → ∃ y, d.K w y cs
theorem pick_list {α : Type} {R : Nat → α → Prop} : ∀ n, (∀ i, i < n → ∃ y, R i y) → ∃ ys : List α, ys.length = n ∧ ∀ j p, ys[j]? = some p → R j p
  | 0, _ => ⟨[], rfl, fun j p h => by simp at h⟩
  | n + 1, h => by
    obtain ⟨ys, hl, hr⟩ := pick_list n (fun i hi => h i (by omega))
    obtain ⟨y, hy⟩ := h n (by omega)
    refine ⟨ys ++ [y], by simp [hl], fun j p hj => ?_⟩
    by_cases hlt : j < n
    · rw [List.getElem?_append_left (by omega)] at hj
      exact hr j p hj
    · have hjn : j < (ys ++ [y]).length := (List.getElem?_eq_some_iff.1 hj).1
      have : j = n := by simp [hl] at hjn; omega
      subst this
      rw [List.getElem?_append_right (by omega), hl, Nat.sub_self] at hj
      injection hj with hj
      rw [← hj]
      exact hy
theorem opens_slice {P : Program} {t e : TypeId} {α : Type} {d : Kd α} (ht : P.underlying t = some (.slice e)) (hc : P.cellsOf e = d.sz) (h : Opens P e d) : Opens P t (Kd.slice e d) := by
  intro H enc w base spare held fuel cs x hx
  rcases open_slice ht hx with ⟨rfl, _⟩ | ⟨a, len, cap, m, n, D, Pl, rfl, hb, hl, hm, hmm, _, hi⟩
  · exact ⟨[], none, 0, rfl, yoy _, Kd.C_nil d w⟩
  · have each : ∀ i, i < len → ∃ y, ∃ cs', w.cells? base (a.add (i * d.sz)) d.sz = some cs' ∧ d.K w y cs' := by
      intro i hil
      have him : i < m := by rw [hmm]; split <;> omega
      obtain ⟨cs', h1, h2⟩ := hi i him
      obtain ⟨y, hy⟩ := h H enc w base spare held n cs' _ h2
      rw [hc] at h1
      exact ⟨y, cs', h1, hy⟩
    obtain ⟨ys, hlen, hys⟩ := pick_list len each
    refine ⟨ys, some a, cap, by rw [hlen], by omega, rfl, ?_, fun _ => ⟨a, rfl, fun j p hj => ?_⟩⟩
    · unfold maxLen at hm; omega
    · obtain ⟨cs', h1, h2⟩ := hys j p hj
      obtain ⟨_, h3, h4⟩ := World.cells?_some h1
      refine ⟨cs', h3, h2, fun i u hu => ?_⟩
      have hil : i < d.sz := by rw [← h3]; exact (List.getElem?_eq_some_iff.1 hu).1
      rw [← hu, ← h4 i hil, Go.Deep.add_add]
theorem opens_struct2 {P : Program} {t : TypeId} {f0 f1 : Field} {α : Type} (hs : P.underlying t = some (.struct #[f0, f1])) (hone : oneCellFields P #[f0, f1] = true) (hC : P.cellsOf t = 2)
    (h0 : P.underlying f0.type = some (.int .i64)) (h1 : P.underlying f1.type = some (.int .i64)) (d : Kd α) (mk : Int → Int → α) (hK : ∀ w a b, d.K w (mk a b) [.int .i64 a, .int .i64 b]) : Opens P t d := by
  intro H enc w base spare held fuel cs x h
  obtain ⟨y0, y1, n, hx, hl, g0, g1⟩ := trod_struct2 hs h
  obtain ⟨o0, k0⟩ := hone_of hone 0 f0 rfl
  obtain ⟨o1, k1⟩ := hone_of hone 1 f1 rfl
  rw [hC] at hl
  match cs, hl with
  | [c0, c1], _ =>
    rw [o0, k0] at g0
    rw [o1, k1] at g1
    obtain ⟨a, e0, _, _⟩ := DataW.trod_int h0 g0
    obtain ⟨b, e1, _, _⟩ := DataW.trod_int h1 g1
    simp at e0 e1
    subst e0 e1
    exact ⟨mk a b, hK w a b⟩
section
variable {H : Type} {enc : TypeId × Value → H} {P : Program} {w : World} {base : Nat} {spare : Nat → Bool} {held : Bool}
theorem array1 {α : Type} {cs : Array α} (h : cs.size = 1) : ∃ c0, cs = #[c0] := by
  obtain ⟨l⟩ := cs
  match l, h with
  | [c0], _ => exact ⟨c0, rfl⟩
/-- A struct that holds one slice, by value. -/
theorem open_agg1 {r : Reach} {b0 : Nat} {t e : TypeId} {f0 : Field} {α : Type} {d : Kd α} {v : Value} {D : DataW H} {p : List MemPlace} (hs : P.underlying t = some (.struct #[f0])) (hone : oneCellFields P #[f0] = true) (hC : P.cellsOf t = 1)
    (ho : Opens P f0.type (Kd.slice e d)) (hv : Value.okWide P w r b0 t v) (h : DataW.Trod enc P w base spare held t v D p) :
    ∃ (A : Option Addr) (c : Nat) (l : List α), v = .agg #[.slice A l.length c] ∧ l.length ≤ c ∧ d.C w A l.length l := by
  obtain ⟨cs, rfl, hsz⟩ := okWide_struct hs hv
  obtain ⟨c0, rfl⟩ := array1 (hsz.trans hC)
  obtain ⟨fuel, hf⟩ := h
  obtain ⟨y0, n, hx, _, h0⟩ := trod_struct1 hs hf
  obtain ⟨o0, k0⟩ := hone_of hone 0 f0 rfl
  have h0' : DataW.trod enc P w base spare held n f0.type [c0] = some y0 := by simpa [Value.cells, o0, k0] using h0
  obtain ⟨l, A, c, e1, hl, hCC⟩ := ho H enc w base spare held n _ _ h0'
  simp at e1
  subst e1
  exact ⟨A, c, l, rfl, hl, hCC⟩
end
theorem fits_of_C {e : Nat} {α : Type} {d : Kd α} {w : World} {A : Option Addr} {l : List (List α)} (h : (Kd.slice e d).C w A l.length l) : l.length ≤ 9223372036854775807 ∧ ∀ r ∈ l, r.length ≤ 9223372036854775807 := by
  refine ⟨h.2.1, fun r hr => ?_⟩
  obtain ⟨j, hj, rfl⟩ := List.mem_iff_getElem.1 hr
  obtain ⟨ad, _, hc⟩ := h.2.2 (by omega)
  obtain ⟨c, _, hK, _⟩ := hc j _ (List.getElem?_eq_getElem hj)
  obtain ⟨A', c', _, _, hC⟩ := hK
  exact hC.2.1
end Go.Proofs.Ytembbpalgfikiaa.Lib
-- Printed by a program of this session (drv.py), by means of the kit's print.py.
namespace Go.Proofs.Ytembbpalgfikiaa.fnExactTetComponents
open Go.ChangeShapes Go.WideShapes Go.ChangeAt Go.RowKit Go.Proofs.Ytembbpalgfikiaa.Lib Go.Proofs.YtembbpalgfikiaaW.PrintWords Go.Proofs.Ytembbpalgfikiaa.P
open Go.ChangeMaps (open_string shut_string)
set_option linter.unusedVariables false
theorem own : ownKnob Try.prog.godebug = none := by kernel_rfl
theorem laidOut : laidOutB Try.prog = true := by kernel_rfl
set_option maxRecDepth 100000 in
theorem lifted (os : Os) (started : os.Started) (H : Type) (enc : TypeId × Value → H) :
    ReturnsInHanded {} Try.checked os 9 .any (Rows.fnExactTetComponentsSpec.pre6 enc Try.prog Try.f9 Rows.fnExactTetComponentsRow.domain false) (Rows.fnExactTetComponentsSpec.post enc Try.prog Try.f9 false true false false) := by
  refine returnsInHanded_of_change_sized (C := Try.checked) own started (by kernel_rfl) Try.func9
    (ChangeSpec.witness6 (enc := enc) (C := Try.checked) false ⟨#[], #[.agg #[.slice none 0 0]], []⟩ 8 (by kernel_rfl) (by kernel_rfl) (by kernel_rfl) (by kernel_rfl)) ?_
  intro W base args ds gs before hval0 hW hcnd hsz0 _
  have hval : ∀ (j : Nat) t v, Try.f9.params[j]? = some t → args[j]? = some v → Value.okWide Try.prog W .any base t v := hval0
  have hW' := hW
  obtain ⟨p, q, hA0, hV, rfl, hfz, hnd⟩ := hW
  have hA : DataW.TrodAll enc Try.prog W 0 (fun _ => true) true Try.f9.params.toList args.toList ds p := hA0
  rw [Try.params9] at hA hval
  obtain ⟨v0, vs0, d0, ds0, p0, q0, hargs, rfl, rfl, h0, r0⟩ := trodAll_cons hA
  obtain ⟨rfl, rfl, rfl⟩ := trodAll_nil r0
  obtain rfl : args = #[v0] := by cases args; simp_all
  obtain ⟨rfl, rfl⟩ := trodVars_none hV
  have k0 := h0
  have lt0 : ∀ x ∈ p0, x.block < W.heap.size := by obtain ⟨m, hm⟩ := k0; exact DataW.trod_lt m _ _ _ hm
  obtain ⟨A0, c0, l0, rfl, hl0, hC0⟩ := open_agg1 Try.underlying28 (by kernel_rfl) (by kernel_rfl) (opens_slice Try.underlying26 (by kernel_rfl) (opens_slice Try.underlying85 (by kernel_rfl) (opens_struct2 Try.underlying118 (by kernel_rfl) (by kernel_rfl) Try.underlying2 Try.underlying2 kLawFace (fun a b => (⟨a, b⟩ : SLawFace)) (fun w a b => kLawFace_mk w ⟨a, b⟩)))) (hval 0 28 v0 rfl rfl) h0
  obtain ⟨k, hk⟩ := Pure.FnExactTetComponents l0 (fits_of_C hC0)
  refine (laws_FnExactTetComponents.calls k _ _ l0 W hC0 hl0 hk).mono fun e W' ⟨he, bel⟩ => ?_
  subst he
  exact ⟨_, rfl, _, _, _, [], _, [], hW', trodAll_mk1 (shut_bool Try.underlying4 _), (trodAll_cons_mk (Below.trod laidOut (by kernel_rfl) (of_decide_eq_true (by kernel_rfl)) k0 bel lt0) trodAll_mk0), rfl, bel.frame _, fun h => by cases h⟩
theorem over : Rows.fnExactTetComponentsRow.holds Try.pinned (OpenSpec.ofChange Rows.fnExactTetComponentsSpec) :=
  OpenClaim.holds_of_wide 9 Try.f9 rfl rfl rfl rfl rfl rfl rfl ⟨rfl, rfl, rfl, rfl, rfl⟩ rfl rfl rfl rfl rfl (by kernel_rfl) Try.func9 (by kernel_rfl)
    (of_decide_eq_true (by kernel_rfl)) (by unfold Func.isWrapper; first | (rw [if_pos (by decide +kernel)]; kernel_rfl) | (rw [if_neg (by decide +kernel)]; exact ⟨rfl, rfl⟩))
    (fun os started H enc _ => lifted os started H enc)
theorem proved : Rows.FnExactTetComponentsSaid := over
#print axioms proved
end Go.Proofs.Ytembbpalgfikiaa.fnExactTetComponents
namespace Go.Proofs.Ytembbpalgfikiaa
/-- The row, under a short name, for the claim. -/
theorem fnExactTetComponents_holds : Rows.FnExactTetComponentsSaid := fnExactTetComponents.proved
end Go.Proofs.Ytembbpalgfikiaa
