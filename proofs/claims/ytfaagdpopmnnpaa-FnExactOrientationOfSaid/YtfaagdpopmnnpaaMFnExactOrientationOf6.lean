/- The statement FnExactOrientationOfSaid, proved: part 6 of 7 (texts of this session and of the kit's print, put together and cut to what is used by a program of it). -/
import Derived.Test.YtfaagdpopmnnpaaMFnExactOrientationOf5
-- Printed by a program of this session (drv.py), by means of the kit's print.py.
namespace Go.Proofs.Ytfaagdpopmnnpaa.P
open Go.RowKit Go.Proofs.YtfaagdpopmnnpaaW.PrintWords Go.Proofs.YtfaagdpopmnnpaaW.PrintLast Go.Proofs.YtfaagdpopmnnpaaW.PrintMore
attribute [local go_sem] max2_int min2_int max_two min_two max_three min_three max_four min_four   -- for this text's walks alone
set_option linter.unusedVariables false
set_option linter.unusedSimpArgs false
/-! ### spec_l10Signs: function 64 -/
mutual
def spec_l10Signs.l0 : Nat → List Int → Int → List (List (SFace)) → Option (List Int × Bool)
 | 0, _, _, _ => none
 | k + 1, x4, x5, x102000 => (spec_l07Tets.f x102000).bind fun t105 => (if x5 < t105 then (if 0 ≤ x5 then (if x5 < (x4.length : Int) then (if (rd x4 x5) = 0 then (spec_l10Signs.l1 k (x4.set (x5 : Int).toNat 1) x5 (([x5] : List Int)) 0 x102000) else (spec_l10Signs.l0 k x4 (wrap64 (x5 + 1)) x102000)) else (none)) else (none)) else (some (x4, true)))
def spec_l10Signs.l1 : Nat → List Int → Int → List Int → Int → List (List (SFace)) → Option (List Int × Bool)
 | 0, _, _, _, _, _ => none
 | k + 1, x4, x5, x6, x7, x102000 => if x7 < (x6.length : Int) then (spec_l10Signs.l2 k x4 x5 x6 x7 0 x102000) else (spec_l10Signs.l0 k x4 (wrap64 (x5 + 1)) x102000)
def spec_l10Signs.l2 : Nat → List Int → Int → List Int → Int → Int → List (List (SFace)) → Option (List Int × Bool)
 | 0, _, _, _, _, _, _ => none
 | k + 1, x4, x5, x6, x7, x8, x102000 => if x8 < 4 then (if 0 ≤ x7 then (if x7 < (x6.length : Int) then (if 0 ≤ (rd x6 x7) then (if (rd x6 x7) < (x102000.length : Int) then (if 0 ≤ x8 then (if x8 < ((rd_LFace x102000 (rd x6 x7)).length : Int) then (if ((rd_Face (rd_LFace x102000 (rd x6 x7)) x8).f0) < 0 then (spec_l10Signs.l2 k x4 x5 x6 x7 (wrap64 (x8 + 1)) x102000) else (if (rd x6 x7) < (x4.length : Int) then ((spec_SignPerm4.f k ((rd_Face (rd_LFace x102000 (rd x6 x7)) x8).f1)).bind fun t117 => (if 0 ≤ ((rd_Face (rd_LFace x102000 (rd x6 x7)) x8).f0) then (if ((rd_Face (rd_LFace x102000 (rd x6 x7)) x8).f0) < (x4.length : Int) then (if (rd x4 ((rd_Face (rd_LFace x102000 (rd x6 x7)) x8).f0)) = 0 then ((some (x4.set (((rd_Face (rd_LFace x102000 (rd x6 x7)) x8).f0) : Int).toNat (wrap64 ((wrap64 (-(rd x4 (rd x6 x7)))) * t117)) : List Int)).bind fun y119 => (if x6.length < 17592186044416 then (if (rd y119 ((rd_Face (rd_LFace x102000 (rd x6 x7)) x8).f0)) = (wrap64 ((wrap64 (-(rd x4 (rd x6 x7)))) * t117)) then (spec_l10Signs.l2 k y119 x5 (x6 ++ [(rd_Face (rd_LFace x102000 (rd x6 x7)) x8).f0]) x7 (wrap64 (x8 + 1)) x102000) else (some (([] : List Int), false))) else (none))) else (if (rd x4 ((rd_Face (rd_LFace x102000 (rd x6 x7)) x8).f0)) = (wrap64 ((wrap64 (-(rd x4 (rd x6 x7)))) * t117)) then (spec_l10Signs.l2 k x4 x5 x6 x7 (wrap64 (x8 + 1)) x102000) else (some (([] : List Int), false)))) else (none)) else (none))) else (none))) else (none)) else (none)) else (none)) else (none)) else (none)) else (none)) else (spec_l10Signs.l1 k x4 x5 x6 (wrap64 (x7 + 1)) x102000)
end
def spec_l10Signs.f (k : Nat) (l0_0 : List (List (SFace))) : Option (List Int × Bool) := if 0 ≤ (l0_0.length : Int) then (if ((l0_0.length : Int) : Int).toNat ≤ 35184372088832 then (spec_l10Signs.l0 k (List.replicate ((l0_0.length : Int) : Int).toNat 0) 0 l0_0) else (none)) else (none)
theorem spec_l10Signs.mono_l : ∀ k, (∀ y0 y1 y2, LeO (spec_l10Signs.l0 k y0 y1 y2) (spec_l10Signs.l0 (k + 1) y0 y1 y2)) ∧ (∀ y0 y1 y2 y3 y4, LeO (spec_l10Signs.l1 k y0 y1 y2 y3 y4) (spec_l10Signs.l1 (k + 1) y0 y1 y2 y3 y4)) ∧ (∀ y0 y1 y2 y3 y4 y5, LeO (spec_l10Signs.l2 k y0 y1 y2 y3 y4 y5) (spec_l10Signs.l2 (k + 1) y0 y1 y2 y3 y4 y5))
 | 0 => ⟨fun _ _ _ r h => by simp [spec_l10Signs.l0] at h, fun _ _ _ _ _ r h => by simp [spec_l10Signs.l1] at h, fun _ _ _ _ _ _ r h => by simp [spec_l10Signs.l2] at h⟩
 | k + 1 => by
  obtain ⟨ih0, ih1, ih2⟩ := spec_l10Signs.mono_l k
  refine ⟨?_, ?_, ?_⟩
  next =>
   intro y0 y1 y2
   unfold spec_l10Signs.l0
   repeat' first
   | (with_reducible exact ih0 _ _ _)
   | (with_reducible exact ih1 _ _ _ _ _)
   | (with_reducible exact ih2 _ _ _ _ _ _)
   | (with_reducible exact spec_SignPerm4.mono _ _)
   | (with_reducible exact LeO.refl _)
   | (with_reducible exact LeO.none _)
   | (with_reducible refine LeO.ite ?_ ?_)
   | (with_reducible refine LeO.bind ?_ (fun _ => ?_))
   | exact ih0 _ _ _
   | exact ih1 _ _ _ _ _
   | exact ih2 _ _ _ _ _ _
   | exact spec_SignPerm4.mono _ _
   | exact LeO.none _
   | refine LeO.ite ?_ ?_
   | refine LeO.bind ?_ (fun _ => ?_)
  next =>
   intro y0 y1 y2 y3 y4
   unfold spec_l10Signs.l1
   repeat' first
   | (with_reducible exact ih0 _ _ _)
   | (with_reducible exact ih1 _ _ _ _ _)
   | (with_reducible exact ih2 _ _ _ _ _ _)
   | (with_reducible exact spec_SignPerm4.mono _ _)
   | (with_reducible exact LeO.refl _)
   | (with_reducible exact LeO.none _)
   | (with_reducible refine LeO.ite ?_ ?_)
   | (with_reducible refine LeO.bind ?_ (fun _ => ?_))
   | exact ih0 _ _ _
   | exact ih1 _ _ _ _ _
   | exact ih2 _ _ _ _ _ _
   | exact spec_SignPerm4.mono _ _
   | exact LeO.none _
   | refine LeO.ite ?_ ?_
   | refine LeO.bind ?_ (fun _ => ?_)
  next =>
   intro y0 y1 y2 y3 y4 y5
   unfold spec_l10Signs.l2
   repeat' first
   | (with_reducible exact ih0 _ _ _)
   | (with_reducible exact ih1 _ _ _ _ _)
   | (with_reducible exact ih2 _ _ _ _ _ _)
   | (with_reducible exact spec_SignPerm4.mono _ _)
   | (with_reducible exact LeO.refl _)
   | (with_reducible exact LeO.none _)
   | (with_reducible refine LeO.ite ?_ ?_)
   | (with_reducible refine LeO.bind ?_ (fun _ => ?_))
   | exact ih0 _ _ _
   | exact ih1 _ _ _ _ _
   | exact ih2 _ _ _ _ _ _
   | exact spec_SignPerm4.mono _ _
   | exact LeO.none _
   | refine LeO.ite ?_ ?_
   | refine LeO.bind ?_ (fun _ => ?_)
def spec_l10Signs.T14 : Bool × List (List Nat × List Nat) := (true, [([], []), ([0], [0]), ([], []), ([], []), ([2, 3], [2, 3]), ([4], [4]), ([1, 5], [1, 5]), ([6], [6]), ([], []), ([7, 8], [7, 8]), ([9], [9]), ([], []), ([11, 10, 0, 1, 2, 3, 4, 5, 6, 7, 8, 9, 10, 11], [10, 11])])
def spec_l10Signs.B14 : List Nat := [0, 1, 0, 0, 12, 28, 63, 127, 0, 511, 1023, 0, 4095]
theorem spec_l10Signs.tab14 : rtab .any (opsOf Try.f64 14) = spec_l10Signs.T14 := by kernel_rfl
theorem spec_l10Signs.bits14 : waitsOk spec_l10Signs.T14.2 spec_l10Signs.B14 = true := by kernel_rfl
def spec_l10Signs.T16 : Bool × List (List Nat × List Nat) := (true, [([], []), ([], []), ([], []), ([1, 2], [1, 2]), ([3], [3]), ([0, 4], [0, 4]), ([5], [5]), ([6], [6]), ([], []), ([8], [8]), ([9], [9]), ([7, 10], [7, 10]), ([11, 10, 0, 1, 2, 3, 4, 5, 6, 7, 8, 9, 10, 11], [11])])
def spec_l10Signs.B16 : List Nat := [0, 0, 0, 6, 14, 31, 63, 127, 0, 256, 768, 2047, 4095]
theorem spec_l10Signs.tab16 : rtab .any (opsOf Try.f64 16) = spec_l10Signs.T16 := by kernel_rfl
theorem spec_l10Signs.bits16 : waitsOk spec_l10Signs.T16.2 spec_l10Signs.B16 = true := by kernel_rfl
set_option maxHeartbeats 8000000 in
set_option maxRecDepth 100000 in
theorem spec_l10Signs.calls (k : Nat) (A0_0 : Option Addr) (c0_0 : Nat) (l0_0 : List (List (SFace))) (r1 : List Int) (r2 : Bool) (w : World) (hr0_0 : Kd.C (Kd.slice 66 kFace) w A0_0 l0_0.length l0_0) (hc0_0 : l0_0.length ≤ c0_0) (h : spec_l10Signs.f k l0_0 = some (r1, r2)) :
 Calls Try.prog 64 #[.agg #[.slice A0_0 l0_0.length c0_0]] w fun e w' => ∃ v0_ : Value, e = .returned (.tuple #[v0_, .bool r2]) ∧ Kd.R (Kd.int .i64) 2 w' w.heap.size (fun _ => True) v0_ r1 ∧ Below w.heap.size w w' := by
 have hu29 := Try.underlying29
 have hu66 := Try.underlying66
 have HR0_0 := Aside0.mk hr0_0
 have HC0_0 := Aside0.mk hc0_0
 clear hr0_0 hc0_0
 have HB := Aside0.mk (Below.refl w.heap.size w)
 have H : (if 0 ≤ (l0_0.length : Int) then (if ((l0_0.length : Int) : Int).toNat ≤ 35184372088832 then (spec_l10Signs.l0 k (List.replicate ((l0_0.length : Int) : Int).toNat 0) 0 l0_0) else (none)) else (none)) = some (r1, r2) := h
 clear h
 by_cases c2 : 0 ≤ (l0_0.length : Int)
 next =>
  rw [if_pos c2] at H
  have c2b0 := eq_true c2
  have c2b1 : decide (0 ≤ (l0_0.length : Int)) = true := decide_eq_true c2
  clear c2
  by_cases c3 : ((l0_0.length : Int) : Int).toNat ≤ 35184372088832
  next =>
   rw [if_pos c3] at H
   have c3b0 := eq_true c3
   have c3b1 : decide (((l0_0.length : Int) : Int).toNat ≤ 35184372088832) = true := decide_eq_true c3
   clear c3
   obtain ⟨y102, hy102⟩ : ∃ y_ : List Int, y_ = (List.replicate ((l0_0.length : Int) : Int).toNat 0) := ⟨_, rfl⟩
   replace H : (spec_l10Signs.l0 k y102 0 l0_0) = some (r1, r2) := by first | (rw [hy102]; with_reducible exact H) | (have H2_ := (Option.bind_some _ _).symm.trans H; rw [hy102]; with_reducible exact H2_) | (have H2_ := (Option.bind_some _ _).symm.trans H; with_reducible exact H2_) | with_reducible exact H | (rw [hy102]; exact H) | exact H
   have Ny102 := Aside0.mk hy102
   clear hy102
   have H' := Aside0.mk H
   clear H
   go_enter Try.func64, Try.ntmps64
   go_wp2_with (first | ((with_reducible refine gate_dst (N := 1) rfl ?_); refine box_event ?hg (N := 1) ?hd (cs := #[.slice A0_0 l0_0.length c0_0]) (t := 29) ?hr ?_; (case hd => rfl); (case hg => rfl); (case hr => first | (go_simp; done) | (go_simp; rfl)); intro gb101 hg w4 hbox hb; have n0_ := Aside0.mk (below_step (by repeat (first | (with_reducible first | exact HB.out | apply below_alloc | apply pw_below_drewN | apply below_drew1) | exact HB.out)) hb); have n1_ := Aside0.mk (hbox); have n2_ := Aside0.mk ((by rw [hg]; exact (below_size (by repeat (first | (with_reducible first | exact HB.out | apply below_alloc | apply pw_below_drewN | apply below_drew1) | exact HB.out))) : w.heap.size ≤ gb101)); have n3_ := Aside0.mk ((by rw [hg]; exact (below_size (by repeat (first | (with_reducible first | exact HB.out | apply below_alloc | apply pw_below_drewN | apply below_drew1) | exact HB.out))) : w.heap.size ≤ gb101)); clear HB; have HB := n0_; have BK101 := n1_; have GW101 := n2_; have GE101 := n3_; clear n0_ n1_ n2_ n3_; clear hb hbox hg; have hcz5_0 : w4.cell? ⟨gb101, 0, none⟩ = some (.slice A0_0 l0_0.length c0_0) := (blk_cell BK101.out 0).trans rfl; have hfz5_0 := blk_frozen BK101.out 0) | ((with_reducible refine gate_dst (N := 14) rfl ?_); refine Kd.R_make (Kd.int .i64) _ 2 rfl (N := 14) rfl 33 _ _ rfl (l0_0.length : Int) rfl rfl Try.underlying33 (.int .i64 0) 8 info2 rfl (by decide) (by omega) 0 (ok := fun _ => True) (okp := fun _ => True) rfl (fun _ hk => hk) trivial (of_decide_eq_true (by first | (with_reducible assumption) | assumption)) (Nat.le_trans (Nat.mul_le_mul_right _ (of_decide_eq_true (by first | (with_reducible assumption) | assumption) : (l0_0.length : Int).toNat ≤ 35184372088832)) (by omega)) (Below.refl _ _) (Nat.le_refl _) ?_; intro v103 w6 ho7 hb hg_ hnew_; clear hg_ hnew_; (first | rw [← Ny102.out] at ho7 | (simp only [Int.reduceToNat] at ho7; rw [← Ny102.out] at ho7)); have n0_ := Aside0.mk (Kd.R_lower ho7 (below_size (by repeat (first | (with_reducible first | exact HB.out | apply below_alloc | apply pw_below_drewN | apply below_drew1 | refine below_set ?_ GE101.out) | exact HB.out)))); have n1_ := Aside0.mk (blk_below (g := gb101) (o := .cells #[.slice A0_0 l0_0.length c0_0] 29 (0, 0)) (by (with_reducible repeat (first | refine blk_drewN ?_ _ | refine blk_drew ?_ | refine blk_alloc ?_ _)); exact BK101.out) hb); have n2_ := Aside0.mk (below_step (by repeat (first | (with_reducible first | exact HB.out | apply below_alloc | apply pw_below_drewN | apply below_drew1 | refine below_set ?_ GE101.out) | exact HB.out)) hb); clear BK101; clear HB; have HO104 := n0_; have BK101 := n1_; have HB := n2_; clear n0_ n1_ n2_; clear hb ho7))
   go_loopg [5] k (fun kq v5 w' => ∃ (x4_1 : List Int) (x5_1 : Int), v5 = .int .i64 x5_1 ∧ Aside0 (spec_l10Signs.l0 kq x4_1 x5_1 l0_0 = some (r1, r2)) ∧ Aside0 (kq ≤ k) ∧ Aside0 (Kd.R (Kd.int .i64) 2 w' w.heap.size (fun _ => True) v103 x4_1) ∧ Aside0 (w'.heap[gb101]? = some (.cells #[(.slice A0_0 l0_0.length c0_0)] 29 (0, 0))) ∧ Aside0 (Below w.heap.size w w'))
   case atStart => exact ⟨(y102), (0), (by first | rfl | (simp; done) | (simp [*]; done)), H', ⟨Nat.le_refl _⟩, ⟨by (with_reducible repeat (first | apply Kd.R_alloc | apply Kd.R_drewN | apply Kd.R_drew)); exact HO104.out⟩, ⟨by (with_reducible repeat (first | refine blk_drewN ?_ _ | refine blk_drew ?_ | refine blk_alloc ?_ _)); exact BK101.out⟩, ⟨by repeat (first | (with_reducible first | exact HB.out | apply below_alloc | apply pw_below_drewN | apply below_drew1 | refine below_set ?_ GE101.out) | exact HB.out)⟩⟩
   case round =>
    clear H'
    try clear c2
    try clear c2b0
    try clear c2b1
    try clear p2
    try clear c3
    try clear c3b0
    try clear c3b1
    try clear c6
    try clear hcz5_0
    try clear hfz5_0
    obtain ⟨x4_1, x5_1, rfl, HA, HK1, HO_4, BK101, HB⟩ := hrel
    cases gk with
    | zero => exact absurd HA.out (by simp [spec_l10Signs.l0])
    | succ k1 =>
     have H := HA.out
     clear HA
     simp only [spec_l10Signs.l0] at H
     replace H := Option.bind_eq_some_iff.mp H
     obtain ⟨t105, A80, H⟩ := H
     replace H : (if x5_1 < t105 then (if 0 ≤ x5_1 then (if x5_1 < (x4_1.length : Int) then (if (rd x4_1 x5_1) = 0 then (spec_l10Signs.l1 k1 (x4_1.set (x5_1 : Int).toNat 1) x5_1 (([x5_1] : List Int)) 0 l0_0) else (spec_l10Signs.l0 k1 x4_1 (wrap64 (x5_1 + 1)) l0_0)) else (none)) else (none)) else (some (x4_1, true))) = some (r1, r2) := H
     have A8 := Aside0.mk A80
     clear A80
     by_cases c9 : x5_1 < t105
     next =>
      rw [if_pos c9] at H
      have c9b0 : decide (x5_1 < t105) = true := decide_eq_true c9
      clear c9
      by_cases c10 : 0 ≤ x5_1
      next =>
       rw [if_pos c10] at H
       have c10b0 : decide (0 ≤ x5_1) = true := decide_eq_true c10
       clear c10
       by_cases c11 : x5_1 < (x4_1.length : Int)
       next =>
        rw [if_pos c11] at H
        have c11b0 : decide (x5_1 < (x4_1.length : Int)) = true := decide_eq_true c11
        clear c11
        by_cases c12 : (rd x4_1 x5_1) = 0
        next =>
         rw [if_pos c12] at H
         have c12b0 : ((rd x4_1 x5_1) == 0) = true := beq_iff_eq.mpr c12
         have c12b1 : ((rd x4_1 x5_1) != 0) = false := bne_eq_false_iff_eq.mpr c12
         clear c12
         obtain ⟨y107, hy107⟩ : ∃ y_ : List Int, y_ = (x4_1.set (x5_1 : Int).toNat 1) := ⟨_, rfl⟩
         replace H : (spec_l10Signs.l1 k1 y107 x5_1 (([x5_1] : List Int)) 0 l0_0) = some (r1, r2) := by first | (rw [hy107]; with_reducible exact H) | (have H2_ := (Option.bind_some _ _).symm.trans H; rw [hy107]; with_reducible exact H2_) | (have H2_ := (Option.bind_some _ _).symm.trans H; with_reducible exact H2_) | with_reducible exact H | (rw [hy107]; exact H) | exact H
         have Ny107 := Aside0.mk hy107
         clear hy107
         obtain ⟨y108, hy108⟩ : ∃ y_ : List Int, y_ = (([x5_1] : List Int)) := ⟨_, rfl⟩
         replace H : (spec_l10Signs.l1 k1 y107 x5_1 y108 0 l0_0) = some (r1, r2) := by first | (rw [hy108]; with_reducible exact H) | (have H2_ := (Option.bind_some _ _).symm.trans H; rw [hy108]; with_reducible exact H2_) | (have H2_ := (Option.bind_some _ _).symm.trans H; with_reducible exact H2_) | with_reducible exact H | (rw [hy108]; exact H) | exact H
         have Ny108 := Aside0.mk hy108
         clear hy108
         have H' := Aside0.mk H
         clear H
         have hcz14_0 : wr.cell? ⟨gb101, 0, none⟩ = some (.slice A0_0 l0_0.length c0_0) := (blk_cell BK101.out 0).trans rfl
         have hfz14_0 := blk_frozen BK101.out 0
         go_wp2_with (first | ((with_reducible refine gate_callee (f := 70) rfl ?_); refine goesL_ (some 17) rfl rfl Try.func70 (by kernel_rfl) rfl #[.agg #[.slice A0_0 l0_0.length c0_0]] rfl (by (try simp only [List.map_toArray, List.map_cons, List.map_nil]); first | done | rfl | (simp only [List.length_drop, List.length_take]; rfl)) ?_; (with_reducible refine (spec_l07Tets.calls _ _ l0_0 t105 _ ?side1 ?side2 A8.out).mono ?_); (case side1 => repeat (first | exact (Kd.C_below HR0_0.out HB.out) | (with_reducible refine Kd.C_alloc ?_ _) | (with_reducible refine Kd.C_drewN ?_ _) | (with_reducible refine Kd.C_drew ?_))); (case side2 => exact HC0_0.out); rintro e w15 ⟨rfl, hb⟩; refine ⟨_, rfl, ?_⟩; have n0_ := Aside0.mk (Kd.R_below (by (with_reducible repeat (first | apply Kd.R_alloc | apply Kd.R_drewN | apply Kd.R_drew)); exact HO_4.out) hb); have n1_ := Aside0.mk (blk_below (g := gb101) (o := .cells #[.slice A0_0 l0_0.length c0_0] 29 (0, 0)) (by (with_reducible repeat (first | refine blk_drewN ?_ _ | refine blk_drew ?_ | refine blk_alloc ?_ _)); exact BK101.out) hb); have n2_ := Aside0.mk (below_step (by repeat (first | (with_reducible first | exact HB.out | apply below_alloc | apply pw_below_drewN | apply below_drew1 | refine below_set ?_ GE101.out) | exact HB.out)) hb); clear HO_4; clear BK101; clear HB; have HO_4 := n0_; have BK101 := n1_; have HB := n2_; clear n0_ n1_ n2_; (try clear hb); (try clear hb2); (try clear hk); (try clear hi); obtain ⟨Ao16, co16, eo16⟩ := Kd.R_slice HO_4.out; subst eo16; have p106 : 0 ≤ (x5_1 : Int) := of_decide_eq_true (by first | (with_reducible assumption) | assumption); have q106 : x5_1 < (x4_1.length : Int) := of_decide_eq_true (by first | (with_reducible assumption) | assumption); obtain ⟨ad106, e106, hx106_0⟩ := Kd.at_int (Kd.R_reads' HO_4.out).2.2 x5_1 p106 q106; cases e106; replace p106 := eq_true p106; replace q106 := eq_true q106; have p13 : 0 ≤ (x5_1 : Int) := of_decide_eq_true (by first | (with_reducible assumption) | assumption); have q13 : (x5_1 : Int) < ((x4_1.length : Int) : Int) := of_decide_eq_true (by first | (with_reducible assumption) | assumption); obtain ⟨go13, co13, eo13, gb13, gl13, cl13, HG13⟩ := Kd.R_form HO_4.out (by omega); (first | cases eo13 | (injection eo13 with ea_ en_ ec_; (first | subst ea_ | (injection ea_ with ea_; subst ea_)); subst ec_; clear en_)); have GB13 := Aside0.mk gb13; have GG13 := Aside0.mk HG13; clear gb13 gl13 HG13; (first | simp only [add_plain] at hx106_0 | skip); obtain ⟨hx13_0, hf13_0⟩ := Kd.R_celln 0 HO_4.out (x5_1 : Int) p13 q13; replace p13 := eq_true p13; replace q13 := eq_true q13; obtain ⟨hy17_, hz17_⟩ := Kd.R_celln 0 HO_4.out (x5_1 : Int) (of_decide_eq_true (by first | (with_reducible assumption) | assumption)) (of_decide_eq_true (by first | (with_reducible assumption) | assumption)); have HP17 := Kd.R_putg HO_4.out (x5_1 : Int) 1) | ((with_reducible refine gate_store (t := 2) (p := 28) rfl ?_); refine store_event (t := 2) (p := 28) (v := ?vo_w18) (w1 := (w15.setCell ⟨go13, (x5_1 : Int).toNat, none⟩ (.int .i64 1))) ?hg ?ho ?hn ?hr ?_; (case ho => rfl); (case hg => rfl); (case hn => rfl); (case hr => first | (go_simp; done) | (go_simp; rfl)); intro w18 hw; have hg : w15.grownBy w18 (some go13) := (by rw [hw]; exact HP17.2); have hp_ : Kd.R (Kd.int .i64) 2 w18 w.heap.size (fun _ => True) (.slice (some ⟨go13, 0, none⟩) x4_1.length co16) y107 := (by rw [hw, Ny107.out]; exact HP17.1); clear HP17; have n0_ := Aside0.mk (hp_); have n1_ := Aside0.mk (blk_grown (g := gb101) (o := .cells #[.slice A0_0 l0_0.length c0_0] 29 (0, 0)) (by (with_reducible repeat (first | refine blk_drewN ?_ _ | refine blk_drew ?_ | refine blk_alloc ?_ _)); exact BK101.out) hg (Kd.R_ne HO_4.out BK101.out (by decide))); have n2_ := Aside0.mk ((by rw [hw]; exact below_set (HB.out) GB13.out : Below w.heap.size w w18)); clear HO_4; clear BK101; clear HB; have HO_4 := n0_; have BK101 := n1_; have HB := n2_; clear n0_ n1_ n2_; clear hg hw hp_) | ((with_reducible refine gate_dst (N := 30) rfl ?_); refine Kd.R_lit (Kd.int .i64) _ 2 ?hg (N := 30) ?hd (xs := ([x5_1] : List Int)) (inner := [.int .i64 x5_1]) (ok := fun _ => True) (okp := fun _ => True) ?hr ?hp (fun _ hk => hk) trivial (Below.refl _ _) (Nat.le_refl _) (by simp) ?_; (case hd => rfl); (case hg => rfl); (case hr => first | (go_simp; done) | (go_simp; rfl)); (case hp => exact (Reps.one (show Kd.M (Kd.int .i64) _ _ _ x5_1 [.int .i64 x5_1] from rfl) (Reps.none _ _))); intro v109 w19 ho20 hb hg_ hnew_; clear hg_ hnew_; (first | rw [← Ny108.out] at ho20 | (simp only [Int.reduceToNat] at ho20; rw [← Ny108.out] at ho20)); have n0_ := Aside0.mk (Kd.R_elder' (by (with_reducible repeat (first | apply Kd.R_alloc | apply Kd.R_drewN | apply Kd.R_drew)); exact HO_4.out) (Kd.R_base ho20) hb); have n1_ := Aside0.mk (Kd.R_lower (Kd.R_new' ho20 (Kd.R_lt (by (with_reducible repeat (first | apply Kd.R_alloc | apply Kd.R_drewN | apply Kd.R_drew)); exact HO_4.out))) (below_size (by repeat (first | (with_reducible first | exact HB.out | apply below_alloc | apply pw_below_drewN | apply below_drew1 | refine below_set ?_ GE101.out) | exact HB.out)))); have n2_ := Aside0.mk (blk_below (g := gb101) (o := .cells #[.slice A0_0 l0_0.length c0_0] 29 (0, 0)) (by (with_reducible repeat (first | refine blk_drewN ?_ _ | refine blk_drew ?_ | refine blk_alloc ?_ _)); exact BK101.out) hb); have n3_ := Aside0.mk (below_step (by repeat (first | (with_reducible first | exact HB.out | apply below_alloc | apply pw_below_drewN | apply below_drew1 | refine below_set ?_ GE101.out) | exact HB.out)) hb); clear HO_4; clear BK101; clear HB; have HO_4 := n0_; have HO110 := n1_; have BK101 := n2_; have HB := n3_; clear n0_ n1_ n2_ n3_; clear hb ho20))
         go_loopg [6, 7] k1 (fun kq v6 v7 w' => ∃ (x4_2 : List Int) (x6_2 : List Int) (x7_2 : Int), v7 = .int .i64 x7_2 ∧ Aside0 (spec_l10Signs.l1 kq x4_2 x5_1 x6_2 x7_2 l0_0 = some (r1, r2)) ∧ Aside0 (kq ≤ k1) ∧ Aside0 (Kd.R (Kd.int .i64) 2 w' w.heap.size (fun k_ => some k_ ≠ (v6 : Value).ownBlock) (.slice (some ⟨go13, 0, none⟩) x4_1.length co16) x4_2) ∧ Aside0 (Kd.R (Kd.int .i64) 2 w' w.heap.size (fun k_ => some k_ ≠ ((.slice (some ⟨go13, 0, none⟩) x4_1.length co16) : Value).ownBlock) v6 x6_2) ∧ Aside0 (w'.heap[gb101]? = some (.cells #[(.slice A0_0 l0_0.length c0_0)] 29 (0, 0))) ∧ Aside0 (Below w.heap.size w w'))
         case atStart => exact ⟨(y107), (y108), (0), (by first | rfl | (simp; done) | (simp [*]; done)), H', ⟨Nat.le_refl _⟩, ⟨by (with_reducible repeat (first | apply Kd.R_alloc | apply Kd.R_drewN | apply Kd.R_drew)); exact Kd.R_mono HO_4.out (fun _ hk => hk.2)⟩, ⟨by (with_reducible repeat (first | apply Kd.R_alloc | apply Kd.R_drewN | apply Kd.R_drew)); exact Kd.R_mono HO110.out (fun _ hk => hk.2)⟩, ⟨by (with_reducible repeat (first | refine blk_drewN ?_ _ | refine blk_drew ?_ | refine blk_alloc ?_ _)); exact BK101.out⟩, ⟨by repeat (first | (with_reducible first | exact HB.out | apply below_alloc | apply pw_below_drewN | apply below_drew1 | refine below_set ?_ GE101.out) | exact HB.out)⟩⟩
         case round =>
          clear H'
          try clear c1
          try clear p1
          try clear q1
          try clear hx1
          try clear hf1
          try clear c2
          try clear c2b0
          try clear c2b1
          try clear p2
          try clear c3
          try clear c3b0
          try clear c3b1
          try clear c6
          try clear p6
          try clear c7
          try clear c9
          try clear c9b0
          try clear c10
          try clear c10b0
          try clear p10
          try clear q10
          try clear hx10
          try clear c11
          try clear c11b0
          try clear c12
          try clear c12b0
          try clear c12b1
          try clear p13
          try clear q13
          try clear hx13
          try clear hf13
          try clear hcz14_0
          try clear hcz5_0
          try clear hfz14_0
          try clear hfz5_0
          try clear hx106_0
          try clear hx13_0
          try clear p106
          try clear p13
          try clear p2
          try clear q106
          try clear q13
          obtain ⟨x4_2, x6_2, x7_2, rfl, HA, HK2, HO_4, HO_6, BK101, HB⟩ := hrel
          have hl4_2 := (Kd.R_reads' HO_4.out).1
          rw [hl4_2] at HO_4
          (try simp only [hl4_2])
          (try simp only [hl4_2] at BK101)
          (try simp only [hl4_2] at HO_6)
          cases gk with
          | zero => exact absurd HA.out (by simp [spec_l10Signs.l1])
          | succ k2 =>
           have H := HA.out
           clear HA
           simp only [spec_l10Signs.l1] at H
           by_cases c21 : x7_2 < (x6_2.length : Int)
           next =>
            rw [if_pos c21] at H
            have c21b0 : decide (x7_2 < (x6_2.length : Int)) = true := decide_eq_true c21
            clear c21
            have H' := Aside0.mk H
            clear H
            obtain ⟨Ao22, co22, eo22⟩ := Kd.R_slice HO_6.out
            subst eo22
            go_wp2
            go_loopg [6, 8] k2 (fun kq v6 v8 w' => ∃ (x4_3 : List Int) (x6_3 : List Int) (x8_3 : Int), v8 = .int .i64 x8_3 ∧ Aside0 (spec_l10Signs.l2 kq x4_3 x5_1 x6_3 x7_2 x8_3 l0_0 = some (r1, r2)) ∧ Aside0 (kq ≤ k2) ∧ Aside0 (Kd.R (Kd.int .i64) 2 w' w.heap.size (fun k_ => some k_ ≠ (v6 : Value).ownBlock) (.slice (some ⟨go13, 0, none⟩) x4_2.length co16) x4_3) ∧ Aside0 (Kd.R (Kd.int .i64) 2 w' w.heap.size (fun k_ => some k_ ≠ ((.slice (some ⟨go13, 0, none⟩) x4_2.length co16) : Value).ownBlock) v6 x6_3) ∧ Aside0 (w'.heap[gb101]? = some (.cells #[(.slice A0_0 l0_0.length c0_0)] 29 (0, 0))) ∧ Aside0 (Below w.heap.size w w'))
            case atStart => exact ⟨(x4_2), (x6_2), (0), (by first | rfl | (simp; done) | (simp [*]; done)), H', ⟨Nat.le_refl _⟩, ⟨by (try simp only [hl4_2]); (with_reducible repeat (first | apply Kd.R_alloc | apply Kd.R_drewN | apply Kd.R_drew)); exact HO_4.out⟩, ⟨by (try simp only [hl4_2]); (with_reducible repeat (first | apply Kd.R_alloc | apply Kd.R_drewN | apply Kd.R_drew)); exact HO_6.out⟩, ⟨by (try simp only [hl4_2]); (with_reducible repeat (first | refine blk_drewN ?_ _ | refine blk_drew ?_ | refine blk_alloc ?_ _)); exact BK101.out⟩, ⟨by repeat (first | (with_reducible first | exact HB.out | apply below_alloc | apply pw_below_drewN | apply below_drew1 | refine below_set ?_ GE101.out) | exact HB.out)⟩⟩
            case round =>
             clear H'
             try clear c1
             try clear p1
             try clear q1
             try clear hx1
             try clear hf1
             try clear c2
             try clear c2b0
             try clear c2b1
             try clear p2
             try clear c3
             try clear c3b0
             try clear c3b1
             try clear c6
             try clear p6
             try clear c7
             try clear c9
             try clear c9b0
             try clear c10
             try clear c10b0
             try clear p10
             try clear q10
             try clear hx10
             try clear c11
             try clear c11b0
             try clear c12
             try clear c12b0
             try clear c12b1
             try clear p13
             try clear q13
             try clear hx13
             try clear hf13
             try clear c21
             try clear c21b0
             try clear hcz14_0
             try clear hcz5_0
             try clear hfz14_0
             try clear hfz5_0
             try clear hx106_0
             try clear hx13_0
             try clear p1
             try clear p10
             try clear p106
             try clear p13
             try clear p2
             try clear p6
             try clear q1
             try clear q10
             try clear q106
             try clear q13
             obtain ⟨x4_3, x6_3, x8_3, rfl, HA, HK3, HO_4, HO_6, BK101, HB⟩ := hrel
             have hl4_3 := (Kd.R_reads' HO_4.out).1
             rw [hl4_3] at HO_4
             (try simp only [hl4_3])
             (try simp only [hl4_3] at BK101)
             (try simp only [hl4_3] at HO_6)
             cases gk with
             | zero => exact absurd HA.out (by simp [spec_l10Signs.l2])
             | succ k3 =>
              have H := HA.out
              clear HA
              simp only [spec_l10Signs.l2] at H
              by_cases c23 : x8_3 < 4
              next =>
               rw [if_pos c23] at H
               have c23b0 : decide (x8_3 < 4) = true := decide_eq_true c23
               clear c23
               by_cases c24 : 0 ≤ x7_2
               next =>
                rw [if_pos c24] at H
                have c24b0 : decide (0 ≤ x7_2) = true := decide_eq_true c24
                clear c24
                by_cases c25 : x7_2 < (x6_3.length : Int)
                next =>
                 rw [if_pos c25] at H
                 have c25b0 : decide (x7_2 < (x6_3.length : Int)) = true := decide_eq_true c25
                 clear c25
                 by_cases c26 : 0 ≤ (rd x6_3 x7_2)
                 next =>
                  rw [if_pos c26] at H
                  have c26b0 : decide (0 ≤ (rd x6_3 x7_2)) = true := decide_eq_true c26
                  clear c26
                  by_cases c27 : (rd x6_3 x7_2) < (l0_0.length : Int)
                  next =>
                   rw [if_pos c27] at H
                   have c27b0 : decide ((rd x6_3 x7_2) < (l0_0.length : Int)) = true := decide_eq_true c27
                   clear c27
                   by_cases c28 : 0 ≤ x8_3
                   next =>
                    rw [if_pos c28] at H
                    have c28b0 : decide (0 ≤ x8_3) = true := decide_eq_true c28
                    clear c28
                    by_cases c29 : x8_3 < ((rd_LFace l0_0 (rd x6_3 x7_2)).length : Int)
                    next =>
                     rw [if_pos c29] at H
                     have c29b0 : decide (x8_3 < ((rd_LFace l0_0 (rd x6_3 x7_2)).length : Int)) = true := decide_eq_true c29
                     clear c29
                     by_cases c30 : ((rd_Face (rd_LFace l0_0 (rd x6_3 x7_2)) x8_3).f0) < 0
                     next =>
                      rw [if_pos c30] at H
                      have c30b0 : decide (((rd_Face (rd_LFace l0_0 (rd x6_3 x7_2)) x8_3).f0) < 0) = true := decide_eq_true c30
                      clear c30
                      have H' := Aside0.mk H
                      clear H
                      try go_wp2
                      have n0_ := Aside0.mk (Kd.R_drew HO_4.out)
                      have n1_ := Aside0.mk (Kd.R_drew HO_6.out)
                      have n2_ := Aside0.mk (blk_drew BK101.out)
                      have n3_ := Aside0.mk (below_drew1 HB.out)
                      clear HO_4
                      clear HO_6
                      clear BK101
                      clear HB
                      have HO_4 := n0_
                      have HO_6 := n1_
                      have BK101 := n2_
                      have HB := n3_
                      clear n0_ n1_ n2_ n3_
                      obtain ⟨Ao32, co32, eo32⟩ := Kd.R_slice HO_6.out
                      (first | subst eo32 | (injection eo32 with f1_ f2_ f3_; have f4_ := f1_.symm; have f5_ := f3_.symm; clear f1_ f2_ f3_; subst f4_; subst f5_))
                      have p111 : 0 ≤ (x7_2 : Int) := of_decide_eq_true (by first | (with_reducible assumption) | assumption)
                      have q111 : x7_2 < (x6_3.length : Int) := of_decide_eq_true (by first | (with_reducible assumption) | assumption)
                      obtain ⟨ad111, e111, hx111_0⟩ := Kd.at_int (Kd.R_reads' HO_6.out).2.2 x7_2 p111 q111
                      cases e111
                      replace p111 := eq_true p111
                      replace q111 := eq_true q111
                      have p112 : 0 ≤ ((rd x6_3 x7_2) : Int) := of_decide_eq_true (by first | (with_reducible assumption) | assumption)
                      have q112 : (rd x6_3 x7_2) < (l0_0.length : Int) := of_decide_eq_true (by first | (with_reducible assumption) | assumption)
                      obtain ⟨ad112, A112_0, c112_0, e112, hx112_0, hl112_0, hi112_0⟩ := at_LFace HR0_0.out (rd x6_3 x7_2) p112 q112
                      have hw112_0 := hx112_0
                      cases e112
                      replace hx112_0 := (HB.out.cell (World.block_lt_of_cell? w _ hx112_0)).trans hx112_0
                      have HR112_0 := Aside0.mk hi112_0
                      have HC112_0 := Aside0.mk hl112_0
                      clear hi112_0 hl112_0
                      replace p112 := eq_true p112
                      replace q112 := eq_true q112
                      have p113 : 0 ≤ (x8_3 : Int) := of_decide_eq_true (by first | (with_reducible assumption) | assumption)
                      have q113 : x8_3 < ((rd_LFace l0_0 (rd x6_3 x7_2)).length : Int) := of_decide_eq_true (by first | (with_reducible assumption) | assumption)
                      obtain ⟨ad113, e113, hx113_0, hx113_1⟩ := at_Face HR112_0.out x8_3 p113 q113
                      have hw113_1 := hx113_1
                      have hw113_0 := hx113_0
                      cases e113
                      replace hx113_0 := (HB.out.cell (World.block_lt_of_cell? w _ hx113_0)).trans hx113_0
                      replace hx113_1 := (HB.out.cell (World.block_lt_of_cell? w _ hx113_1)).trans hx113_1
                      replace p113 := eq_true p113
                      replace q113 := eq_true q113
                      refine start_ (n := 13) (S := fun w' => w'.cell? ⟨gb101, 0, none⟩ = some (.slice (some ad112) l0_0.length c0_0) ∧ w'.cell? (ad111.add (x7_2).toNat) = some (.int .i64 (rd x6_3 x7_2)) ∧ w'.cell? (ad112.add ((rd x6_3 x7_2)).toNat) = some (.slice (some ad113) (rd_LFace l0_0 (rd x6_3 x7_2)).length c112_0) ∧ w'.cell? (ad113.add ((x8_3).toNat * 2)) = some (.int .i64 ((rd_Face (rd_LFace l0_0 (rd x6_3 x7_2)) x8_3).f0)) ∧ w'.cell? ⟨(ad113.add ((x8_3).toNat * 2)).block, (ad113.add ((x8_3).toNat * 2)).off + 1, none⟩ = some (.int .i64 ((rd_Face (rd_LFace l0_0 (rd x6_3 x7_2)) x8_3).f1))) (ds := []) #[false, false, false, false, false, false, false, false, false, false, false, false, false] (by kernel_rfl) rfl rfl ⟨(blk_cell BK101.out 0).trans rfl, hx111_0, ((HB.out.cell (World.block_lt_of_cell? w _ hw112_0)).trans hw112_0), ((HB.out.cell (World.block_lt_of_cell? w _ hw113_0)).trans hw113_0), ((HB.out.cell (World.block_lt_of_cell? w _ hw113_1)).trans hw113_1)⟩ (fun hHeld => ?_); refine with_tabW spec_l10Signs.tab14 spec_l10Signs.bits14 (fun HT_ HW_ => ?_)
                      generalize wr.drew = w31 at HO_4 HO_6 BK101 HB HR112_0 hx111_0 hx112_0 hx113_0 hx113_1 hHeld ⊢
                      refine pure_ (i := 0) (N := some 41) (v := ?_) (a' := ?_) #[true, false, false, false, false, false, false, false, false, false, false, false, false] rfl rfl (any_of HT_.out (by kernel_rfl)) (fun _ _ _ h => h) (Or.inl ⟨by rfl, ?_⟩) ?_ ?_
                      rotate_left
                      next =>
                       intro w'
                       go_simp
                       with_reducible rfl
                      rotate_left
                      next =>
                       simp only [Act.put, List.setIfInBounds_toArray, List.set_cons_zero, List.set_cons_succ, i64_w, i32_w]
                       rfl
                      refine pure_ (i := 2) (N := some 43) (v := ?_) (a' := ?_) #[true, false, true, false, false, false, false, false, false, false, false, false, false] rfl rfl (any_of HT_.out (by kernel_rfl)) (fun _ _ _ h => h) (Or.inl ⟨by rfl, ?_⟩) ?_ ?_
                      rotate_left
                      next =>
                       intro w'
                       go_simp
                       with_reducible rfl
                      rotate_left
                      next =>
                       simp only [Act.put, List.setIfInBounds_toArray, List.set_cons_zero, List.set_cons_succ, i64_w, i32_w]
                       rfl
                      refine pure_ (i := 3) (N := some 44) (v := ?_) (a' := ?_) #[true, false, true, true, false, false, false, false, false, false, false, false, false] rfl rfl (any_of HT_.out (by kernel_rfl)) (fun _ _ _ h => h) (Or.inl ⟨by rfl, ?_⟩) ?_ ?_
                      rotate_left
                      next =>
                       intro w'
                       go_simp
                       with_reducible rfl
                      rotate_left
                      next =>
                       simp only [Act.put, List.setIfInBounds_toArray, List.set_cons_zero, List.set_cons_succ, i64_w, i32_w]
                       rfl
                      refine pure_ (i := 4) (N := some 45) (v := ?_) (a' := ?_) #[true, false, true, true, true, false, false, false, false, false, false, false, false] rfl rfl (any_of HT_.out (by kernel_rfl)) (fun _ _ _ h => h) (Or.inl ⟨by rfl, ?_⟩) ?_ ?_
                      rotate_left
                      next =>
                       intro w'
                       go_simp
                       with_reducible rfl
                      rotate_left
                      next =>
                       simp only [Act.put, List.setIfInBounds_toArray, List.set_cons_zero, List.set_cons_succ, i64_w, i32_w]
                       rfl
                      refine pure_ (i := 8) (N := some 49) (v := ?_) (a' := ?_) #[true, false, true, true, true, false, false, false, true, false, false, false, false] rfl rfl (any_of HT_.out (by kernel_rfl)) (fun _ _ _ h => h) (Or.inl ⟨by rfl, ?_⟩) ?_ ?_
                      rotate_left
                      next =>
                       intro w'
                       go_simp
                       with_reducible rfl
                      rotate_left
                      next =>
                       simp only [Act.put, List.setIfInBounds_toArray, List.set_cons_zero, List.set_cons_succ, i64_w, i32_w]
                       rfl
                      refine take_ (i := 1) (N := some 42) (v := ?_) (a' := ?_) #[true, true, true, true, true, false, false, false, true, false, false, false, false] rfl rfl (take_ofW HT_.out HW_.out (by kernel_rfl)) (fun _ _ _ h => h) (Or.inl ⟨by rfl, ?_⟩) hHeld ?_ ?_
                      rotate_left
                      next =>
                       rintro w' ⟨s0, s1, s2, s3, s4⟩
                       go_simp
                       with_reducible rfl
                      rotate_left
                      next =>
                       simp only [Act.put, List.setIfInBounds_toArray, List.set_cons_zero, List.set_cons_succ, i64_w, i32_w]
                       rfl
                      refine take_ (i := 5) (N := some 46) (v := ?_) (a' := ?_) #[true, true, true, true, true, true, false, false, true, false, false, false, false] rfl rfl (take_ofW HT_.out HW_.out (by kernel_rfl)) (fun _ _ _ h => h) (Or.inl ⟨by rfl, ?_⟩) hHeld ?_ ?_
                      rotate_left
                      next =>
                       rintro w' ⟨s0, s1, s2, s3, s4⟩
                       go_simp
                       with_reducible rfl
                      rotate_left
                      next =>
                       simp only [Act.put, List.setIfInBounds_toArray, List.set_cons_zero, List.set_cons_succ, i64_w, i32_w]
                       rfl
                      refine pure_ (i := 6) (N := some 47) (v := ?_) (a' := ?_) #[true, true, true, true, true, true, true, false, true, false, false, false, false] rfl rfl (any_of HT_.out (by kernel_rfl)) (fun _ _ _ h => h) (Or.inl ⟨by rfl, ?_⟩) ?_ ?_
                      rotate_left
                      next =>
                       intro w'
                       go_simp
                       with_reducible rfl
                      rotate_left
                      next =>
                       simp only [Act.put, List.setIfInBounds_toArray, List.set_cons_zero, List.set_cons_succ, i64_w, i32_w]
                       rfl
                      refine take_ (i := 7) (N := some 48) (v := ?_) (a' := ?_) #[true, true, true, true, true, true, true, true, true, false, false, false, false] rfl rfl (take_ofW HT_.out HW_.out (by kernel_rfl)) (fun _ _ _ h => h) (Or.inl ⟨by rfl, ?_⟩) hHeld ?_ ?_
                      rotate_left
                      next =>
                       rintro w' ⟨s0, s1, s2, s3, s4⟩
                       go_simp
                       with_reducible rfl
                      rotate_left
                      next =>
                       simp only [Act.put, List.setIfInBounds_toArray, List.set_cons_zero, List.set_cons_succ, i64_w, i32_w]
                       rfl
                      refine pure_ (i := 9) (N := some 50) (v := ?_) (a' := ?_) #[true, true, true, true, true, true, true, true, true, true, false, false, false] rfl rfl (any_of HT_.out (by kernel_rfl)) (fun _ _ _ h => h) (Or.inl ⟨by rfl, ?_⟩) ?_ ?_
                      rotate_left
                      next =>
                       intro w'
                       go_simp
                       with_reducible rfl
                      rotate_left
                      next =>
                       simp only [Act.put, List.setIfInBounds_toArray, List.set_cons_zero, List.set_cons_succ, i64_w, i32_w]
                       rfl
                      refine take_ (i := 10) (N := some 51) (v := ?_) (a' := ?_) #[true, true, true, true, true, true, true, true, true, true, true, false, false] rfl rfl (take_ofW HT_.out HW_.out (by kernel_rfl)) (fun _ _ _ h => h) (Or.inl ⟨by rfl, ?_⟩) hHeld ?_ ?_
                      rotate_left
                      next =>
                       rintro w' ⟨s0, s1, s2, s3, s4⟩
                       go_simp
                       with_reducible rfl
                      rotate_left
                      next =>
                       simp only [Act.put, List.setIfInBounds_toArray, List.set_cons_zero, List.set_cons_succ, i64_w, i32_w]
                       rfl
                      refine one_ (i := 11) (N := some 9) #[true, true, true, true, true, true, true, true, true, true, true, true, false] rfl rfl (one_of HT_.out (by kernel_rfl)) (by decide) (fun K hK => ?_)
                      refine box_step ?hg (N := 9) ?hd (cs := #[.int .i64 0, .int .i64 0]) (t := 66) ?hr ?_; (case hd => rfl); (case hg => rfl); (case hr => first | (go_simp; done) | (go_simp; rfl))
                      intro gb114 hg w33 hbox hb
                      have HS1_ := (hb.cell (World.block_lt_of_cell? _ _ (hHeld.2.1))).trans (hHeld.2.1)
                      have n0_ := Aside0.mk (Kd.R_below (by (with_reducible repeat (first | apply Kd.R_alloc | apply Kd.R_drewN | apply Kd.R_drew)); exact HO_4.out) hb)
                      have n1_ := Aside0.mk (Kd.R_below (by (with_reducible repeat (first | apply Kd.R_alloc | apply Kd.R_drewN | apply Kd.R_drew)); exact HO_6.out) hb)
                      have n2_ := Aside0.mk (blk_below (g := gb101) (o := .cells #[.slice (some ad112) l0_0.length c0_0] 29 (0, 0)) (by (with_reducible repeat (first | refine blk_drewN ?_ _ | refine blk_drew ?_ | refine blk_alloc ?_ _)); exact BK101.out) hb)
                      have n3_ := Aside0.mk (below_step (by repeat (first | (with_reducible first | exact HB.out | apply below_alloc | apply pw_below_drewN | apply below_drew1 | refine below_set ?_ GE101.out) | exact HB.out)) hb)
                      have n4_ := Aside0.mk (hbox)
                      have n5_ := Aside0.mk ((by rw [hg]; exact (below_size (by repeat (first | (with_reducible first | exact HB.out | apply below_alloc | apply pw_below_drewN | apply below_drew1 | refine below_set ?_ GE101.out) | exact HB.out))) : w.heap.size ≤ gb114))
                      have n6_ := Aside0.mk ((by rw [hg]; exact (below_size (by repeat (first | (with_reducible first | exact HB.out | apply below_alloc | apply pw_below_drewN | apply below_drew1 | refine below_set ?_ GE101.out) | exact HB.out))) : w.heap.size ≤ gb114))
                      have n7_ := Aside0.mk ((by rw [hg]; exact Nat.ne_of_lt (blk_lt (g := gb101) (o := .cells #[.slice (some ad112) l0_0.length c0_0] 29 (0, 0)) (by (with_reducible repeat (first | refine blk_drewN ?_ _ | refine blk_drew ?_ | refine blk_alloc ?_ _)); exact BK101.out)) : gb101 ≠ gb114))
                      have n8_ := Aside0.mk ((by rw [hg]; exact Nat.ne_of_gt (blk_lt (g := gb101) (o := .cells #[.slice (some ad112) l0_0.length c0_0] 29 (0, 0)) (by (with_reducible repeat (first | refine blk_drewN ?_ _ | refine blk_drew ?_ | refine blk_alloc ?_ _)); exact BK101.out)) : gb114 ≠ gb101))
                      clear HO_4
                      clear HO_6
                      clear BK101
                      clear HB
                      have HO_4 := n0_
                      have HO_6 := n1_
                      have BK101 := n2_
                      have HB := n3_
                      have BK114 := n4_
                      have GW114 := n5_
                      have GE114 := n6_
                      have NB101_114 := n7_
                      have NB114_101 := n8_
                      clear n0_ n1_ n2_ n3_ n4_ n5_ n6_ n7_ n8_
                      clear hb hbox hg
                      refine hK.out _ _ ⟨(blk_cell BK101.out 0).trans rfl, HS1_, ((HB.out.cell (World.block_lt_of_cell? w _ hw112_0)).trans hw112_0), ((HB.out.cell (World.block_lt_of_cell? w _ hw113_0)).trans hw113_0), ((HB.out.cell (World.block_lt_of_cell? w _ hw113_1)).trans hw113_1)⟩ (fun hHeld => ?_)
                      clear hK K
                      refine norm_ (a' := ?_) ?_ ?_
                      rotate_left
                      next =>
                       show Act.put _ (some 9) _ = _
                       simp only [Act.put, List.setIfInBounds_toArray, List.set_cons_zero, List.set_cons_succ, i64_w, i32_w]
                       rfl
                      refine one_ (i := 12) (N := none) #[true, true, true, true, true, true, true, true, true, true, true, true, true] rfl rfl (one_of HT_.out (by kernel_rfl)) (by decide) (fun K hK => ?_)
                      have hs34 : w33.cell? ⟨gb114, 0, none⟩ = some (.int .i64 0) := (blk_cell BK114.out 0).trans rfl
                      have hfs34 := blk_frozen BK114.out 0
                      have hns34_0 := NB101_114.out
                      have hms34_0 := NB114_101.out
                      have hs35 : w33.cell? ⟨gb114, 1, none⟩ = some (.int .i64 0) := (blk_cell BK114.out 1).trans rfl
                      have hfs35 := blk_frozen BK114.out 1
                      have hns35_0 := NB101_114.out
                      have hms35_0 := NB114_101.out
                      refine skip_ (w1 := ?_) (by rfl) rfl ?_ ?_
                      rotate_left
                      next =>
                       go_simp
                       rfl
                      refine hK.out _ _ ⟨((cell_far (p := ⟨gb114, _, none⟩) NB101_114.out _).trans (((cell_far (p := ⟨gb114, _, none⟩) NB101_114.out _).trans (hHeld.1)))), ((cell_far (p := ⟨gb114, _, none⟩) (by first | exact Kd.own_blk (Kd.R_ne HO_6.out BK114.out (by decide)) | (rw [add_block]; exact Kd.own_blk (Kd.R_ne HO_6.out BK114.out (by decide))) | (show (Addr.add _ _).block ≠ _; rw [add_block]; exact Kd.own_blk (Kd.R_ne HO_6.out BK114.out (by decide))) | (dsimp only; exact Kd.own_blk (Kd.R_ne HO_6.out BK114.out (by decide)))) _).trans (((cell_far (p := ⟨gb114, _, none⟩) (by first | exact Kd.own_blk (Kd.R_ne HO_6.out BK114.out (by decide)) | (rw [add_block]; exact Kd.own_blk (Kd.R_ne HO_6.out BK114.out (by decide))) | (show (Addr.add _ _).block ≠ _; rw [add_block]; exact Kd.own_blk (Kd.R_ne HO_6.out BK114.out (by decide))) | (dsimp only; exact Kd.own_blk (Kd.R_ne HO_6.out BK114.out (by decide)))) _).trans (hHeld.2.1)))), ((cell_far (p := ⟨gb114, _, none⟩) (by first | exact Nat.ne_of_lt (Nat.lt_of_lt_of_le (by have := World.block_lt_of_cell? _ _ hw112_0; first | rwa [add_block] at this | exact this) GW114.out) | (rw [add_block]; exact Nat.ne_of_lt (Nat.lt_of_lt_of_le (by have := World.block_lt_of_cell? _ _ hw112_0; first | rwa [add_block] at this | exact this) GW114.out)) | (show (Addr.add _ _).block ≠ _; rw [add_block]; exact Nat.ne_of_lt (Nat.lt_of_lt_of_le (by have := World.block_lt_of_cell? _ _ hw112_0; first | rwa [add_block] at this | exact this) GW114.out)) | (dsimp only; exact Nat.ne_of_lt (Nat.lt_of_lt_of_le (by have := World.block_lt_of_cell? _ _ hw112_0; first | rwa [add_block] at this | exact this) GW114.out))) _).trans (((cell_far (p := ⟨gb114, _, none⟩) (by first | exact Nat.ne_of_lt (Nat.lt_of_lt_of_le (by have := World.block_lt_of_cell? _ _ hw112_0; first | rwa [add_block] at this | exact this) GW114.out) | (rw [add_block]; exact Nat.ne_of_lt (Nat.lt_of_lt_of_le (by have := World.block_lt_of_cell? _ _ hw112_0; first | rwa [add_block] at this | exact this) GW114.out)) | (show (Addr.add _ _).block ≠ _; rw [add_block]; exact Nat.ne_of_lt (Nat.lt_of_lt_of_le (by have := World.block_lt_of_cell? _ _ hw112_0; first | rwa [add_block] at this | exact this) GW114.out)) | (dsimp only; exact Nat.ne_of_lt (Nat.lt_of_lt_of_le (by have := World.block_lt_of_cell? _ _ hw112_0; first | rwa [add_block] at this | exact this) GW114.out))) _).trans (hHeld.2.2.1)))), ((cell_far (p := ⟨gb114, _, none⟩) (by first | exact Nat.ne_of_lt (Nat.lt_of_lt_of_le (by have := World.block_lt_of_cell? _ _ hw113_0; first | rwa [add_block] at this | exact this) GW114.out) | (rw [add_block]; exact Nat.ne_of_lt (Nat.lt_of_lt_of_le (by have := World.block_lt_of_cell? _ _ hw113_0; first | rwa [add_block] at this | exact this) GW114.out)) | (show (Addr.add _ _).block ≠ _; rw [add_block]; exact Nat.ne_of_lt (Nat.lt_of_lt_of_le (by have := World.block_lt_of_cell? _ _ hw113_0; first | rwa [add_block] at this | exact this) GW114.out)) | (dsimp only; exact Nat.ne_of_lt (Nat.lt_of_lt_of_le (by have := World.block_lt_of_cell? _ _ hw113_0; first | rwa [add_block] at this | exact this) GW114.out))) _).trans (((cell_far (p := ⟨gb114, _, none⟩) (by first | exact Nat.ne_of_lt (Nat.lt_of_lt_of_le (by have := World.block_lt_of_cell? _ _ hw113_0; first | rwa [add_block] at this | exact this) GW114.out) | (rw [add_block]; exact Nat.ne_of_lt (Nat.lt_of_lt_of_le (by have := World.block_lt_of_cell? _ _ hw113_0; first | rwa [add_block] at this | exact this) GW114.out)) | (show (Addr.add _ _).block ≠ _; rw [add_block]; exact Nat.ne_of_lt (Nat.lt_of_lt_of_le (by have := World.block_lt_of_cell? _ _ hw113_0; first | rwa [add_block] at this | exact this) GW114.out)) | (dsimp only; exact Nat.ne_of_lt (Nat.lt_of_lt_of_le (by have := World.block_lt_of_cell? _ _ hw113_0; first | rwa [add_block] at this | exact this) GW114.out))) _).trans (hHeld.2.2.2.1)))), ((cell_far (p := ⟨gb114, _, none⟩) (by first | exact Nat.ne_of_lt (Nat.lt_of_lt_of_le (by have := World.block_lt_of_cell? _ _ hw113_1; first | rwa [add_block] at this | exact this) GW114.out) | (rw [add_block]; exact Nat.ne_of_lt (Nat.lt_of_lt_of_le (by have := World.block_lt_of_cell? _ _ hw113_1; first | rwa [add_block] at this | exact this) GW114.out)) | (show (Addr.add _ _).block ≠ _; rw [add_block]; exact Nat.ne_of_lt (Nat.lt_of_lt_of_le (by have := World.block_lt_of_cell? _ _ hw113_1; first | rwa [add_block] at this | exact this) GW114.out)) | (dsimp only; exact Nat.ne_of_lt (Nat.lt_of_lt_of_le (by have := World.block_lt_of_cell? _ _ hw113_1; first | rwa [add_block] at this | exact this) GW114.out))) _).trans (((cell_far (p := ⟨gb114, _, none⟩) (by first | exact Nat.ne_of_lt (Nat.lt_of_lt_of_le (by have := World.block_lt_of_cell? _ _ hw113_1; first | rwa [add_block] at this | exact this) GW114.out) | (rw [add_block]; exact Nat.ne_of_lt (Nat.lt_of_lt_of_le (by have := World.block_lt_of_cell? _ _ hw113_1; first | rwa [add_block] at this | exact this) GW114.out)) | (show (Addr.add _ _).block ≠ _; rw [add_block]; exact Nat.ne_of_lt (Nat.lt_of_lt_of_le (by have := World.block_lt_of_cell? _ _ hw113_1; first | rwa [add_block] at this | exact this) GW114.out)) | (dsimp only; exact Nat.ne_of_lt (Nat.lt_of_lt_of_le (by have := World.block_lt_of_cell? _ _ hw113_1; first | rwa [add_block] at this | exact this) GW114.out))) _).trans (hHeld.2.2.2.2))))⟩ (fun hHeld => ?_)
                      clear hK K
                      refine done_ (done_of HT_.out (by kernel_rfl)) ?_
                      have hnb36 := NB114_101.out
                      have hnc36 := NB101_114.out
                      have hcz37_0 : w33.cell? ⟨gb114, 0, none⟩ = some (.int .i64 0) := (blk_cell BK114.out 0).trans rfl
                      have hcz37_1 : w33.cell? ⟨gb114, 1, none⟩ = some (.int .i64 0) := (blk_cell BK114.out 1).trans rfl
                      have hfz37_0 := blk_frozen BK114.out 0
                      have hfz37_1 := blk_frozen BK114.out 1
                      try go_wp2
                      (try simp only [← hl4_3])
                      go_roundg k3
                      case measure => have := HK1.out; have := HK2.out; have := HK3.out; omega
                      case rel => exact ⟨(x4_3), (x6_3), (wrap64 (x8_3 + 1)), (by first | rfl | (simp; done) | (simp [*]; done)), H', ⟨by have := HK1.out; have := HK2.out; have := HK3.out; omega⟩, ⟨by (try simp only [hl4_2]); (try simp only [hl4_3]); (with_reducible repeat (first | apply Kd.R_alloc | apply Kd.R_drewN | apply Kd.R_drew)); exact Kd.R_mono (Kd.R_far (p := ⟨gb114, 1, none⟩) (Kd.R_far (p := ⟨gb114, 0, none⟩) (Kd.R_types HO_4.out BK114.out (by decide)) (fun _ hk => hk.2) (.int .i64 ((rd_Face (rd_LFace l0_0 (rd x6_3 x7_2)) x8_3).f0))) (fun _ hk => hk.2) (.int .i64 ((rd_Face (rd_LFace l0_0 (rd x6_3 x7_2)) x8_3).f1))) (fun _ hk => hk.1)⟩, ⟨by (try simp only [hl4_2]); (try simp only [hl4_3]); (with_reducible repeat (first | apply Kd.R_alloc | apply Kd.R_drewN | apply Kd.R_drew)); exact Kd.R_mono (Kd.R_far (p := ⟨gb114, 1, none⟩) (Kd.R_far (p := ⟨gb114, 0, none⟩) (Kd.R_types HO_6.out BK114.out (by decide)) (fun _ hk => hk.2) (.int .i64 ((rd_Face (rd_LFace l0_0 (rd x6_3 x7_2)) x8_3).f0))) (fun _ hk => hk.2) (.int .i64 ((rd_Face (rd_LFace l0_0 (rd x6_3 x7_2)) x8_3).f1))) (fun _ hk => hk.1)⟩, ⟨by (try simp only [hl4_2]); (try simp only [hl4_3]); (with_reducible repeat (first | refine blk_drewN ?_ _ | refine blk_drew ?_ | refine blk_alloc ?_ _)); refine blk_far ?_ NB101_114.out _; (with_reducible repeat (first | refine blk_drewN ?_ _ | refine blk_drew ?_ | refine blk_alloc ?_ _)); refine blk_far ?_ NB101_114.out _; (with_reducible repeat (first | refine blk_drewN ?_ _ | refine blk_drew ?_ | refine blk_alloc ?_ _)); exact BK101.out⟩, ⟨by repeat (first | (with_reducible first | exact HB.out | apply below_alloc | apply pw_below_drewN | apply below_drew1 | refine below_set ?_ GE101.out | refine below_set ?_ GE114.out) | exact HB.out)⟩⟩
                     next =>
                      rw [if_neg c30] at H
                      have c30b0 : decide (((rd_Face (rd_LFace l0_0 (rd x6_3 x7_2)) x8_3).f0) < 0) = false := decide_eq_false c30
                      (try simp only [hl4_2, hl4_3] at c30b0)
                      clear c30
                      by_cases c38 : (rd x6_3 x7_2) < (x4_3.length : Int)
                      next =>
                       rw [if_pos c38] at H
                       have c38b0 : decide ((rd x6_3 x7_2) < (x4_3.length : Int)) = true := decide_eq_true c38
                       clear c38
                       replace H := Option.bind_eq_some_iff.mp H
                       obtain ⟨t117, A390, H⟩ := H
                       replace H : (if 0 ≤ ((rd_Face (rd_LFace l0_0 (rd x6_3 x7_2)) x8_3).f0) then (if ((rd_Face (rd_LFace l0_0 (rd x6_3 x7_2)) x8_3).f0) < (x4_3.length : Int) then (if (rd x4_3 ((rd_Face (rd_LFace l0_0 (rd x6_3 x7_2)) x8_3).f0)) = 0 then ((some (x4_3.set (((rd_Face (rd_LFace l0_0 (rd x6_3 x7_2)) x8_3).f0) : Int).toNat (wrap64 ((wrap64 (-(rd x4_3 (rd x6_3 x7_2)))) * t117)) : List Int)).bind fun y119 => (if x6_3.length < 17592186044416 then (if (rd y119 ((rd_Face (rd_LFace l0_0 (rd x6_3 x7_2)) x8_3).f0)) = (wrap64 ((wrap64 (-(rd x4_3 (rd x6_3 x7_2)))) * t117)) then (spec_l10Signs.l2 k3 y119 x5_1 (x6_3 ++ [(rd_Face (rd_LFace l0_0 (rd x6_3 x7_2)) x8_3).f0]) x7_2 (wrap64 (x8_3 + 1)) l0_0) else (some (([] : List Int), false))) else (none))) else (if (rd x4_3 ((rd_Face (rd_LFace l0_0 (rd x6_3 x7_2)) x8_3).f0)) = (wrap64 ((wrap64 (-(rd x4_3 (rd x6_3 x7_2)))) * t117)) then (spec_l10Signs.l2 k3 x4_3 x5_1 x6_3 x7_2 (wrap64 (x8_3 + 1)) l0_0) else (some (([] : List Int), false)))) else (none)) else (none)) = some (r1, r2) := H
                       have A39 := Aside0.mk A390
                       clear A390
                       by_cases c40 : 0 ≤ ((rd_Face (rd_LFace l0_0 (rd x6_3 x7_2)) x8_3).f0)
                       next =>
                        rw [if_pos c40] at H
                        have c40b0 : decide (0 ≤ ((rd_Face (rd_LFace l0_0 (rd x6_3 x7_2)) x8_3).f0)) = true := decide_eq_true c40
                        clear c40
                        by_cases c41 : ((rd_Face (rd_LFace l0_0 (rd x6_3 x7_2)) x8_3).f0) < (x4_3.length : Int)
                        next =>
                         rw [if_pos c41] at H
                         have c41b0 : decide (((rd_Face (rd_LFace l0_0 (rd x6_3 x7_2)) x8_3).f0) < (x4_3.length : Int)) = true := decide_eq_true c41
                         clear c41
                         by_cases c42 : (rd x4_3 ((rd_Face (rd_LFace l0_0 (rd x6_3 x7_2)) x8_3).f0)) = 0
                         next =>
                          rw [if_pos c42] at H
                          have c42b0 : ((rd x4_3 ((rd_Face (rd_LFace l0_0 (rd x6_3 x7_2)) x8_3).f0)) == 0) = true := beq_iff_eq.mpr c42
                          have c42b1 : ((rd x4_3 ((rd_Face (rd_LFace l0_0 (rd x6_3 x7_2)) x8_3).f0)) != 0) = false := bne_eq_false_iff_eq.mpr c42
                          clear c42
                          obtain ⟨y119, hy119⟩ : ∃ y_ : List Int, y_ = (x4_3.set (((rd_Face (rd_LFace l0_0 (rd x6_3 x7_2)) x8_3).f0) : Int).toNat (wrap64 ((wrap64 (-(rd x4_3 (rd x6_3 x7_2)))) * t117))) := ⟨_, rfl⟩
                          replace H : (if x6_3.length < 17592186044416 then (if (rd y119 ((rd_Face (rd_LFace l0_0 (rd x6_3 x7_2)) x8_3).f0)) = (wrap64 ((wrap64 (-(rd x4_3 (rd x6_3 x7_2)))) * t117)) then (spec_l10Signs.l2 k3 y119 x5_1 (x6_3 ++ [(rd_Face (rd_LFace l0_0 (rd x6_3 x7_2)) x8_3).f0]) x7_2 (wrap64 (x8_3 + 1)) l0_0) else (some (([] : List Int), false))) else (none)) = some (r1, r2) := by first | (rw [hy119]; with_reducible exact H) | (have H2_ := (Option.bind_some _ _).symm.trans H; rw [hy119]; with_reducible exact H2_) | (have H2_ := (Option.bind_some _ _).symm.trans H; with_reducible exact H2_) | with_reducible exact H | (rw [hy119]; exact H) | exact H
                          have Ny119 := Aside0.mk hy119
                          clear hy119
                          by_cases c44 : x6_3.length < 17592186044416
                          next =>
                           rw [if_pos c44] at H
                           have LMc44 := Aside0.mk c44
                           clear c44
                           obtain ⟨y120, hy120⟩ : ∃ y_ : List Int, y_ = (x6_3 ++ [(rd_Face (rd_LFace l0_0 (rd x6_3 x7_2)) x8_3).f0]) := ⟨_, rfl⟩
                           replace H : (if (rd y119 ((rd_Face (rd_LFace l0_0 (rd x6_3 x7_2)) x8_3).f0)) = (wrap64 ((wrap64 (-(rd x4_3 (rd x6_3 x7_2)))) * t117)) then (spec_l10Signs.l2 k3 y119 x5_1 y120 x7_2 (wrap64 (x8_3 + 1)) l0_0) else (some (([] : List Int), false))) = some (r1, r2) := by first | (rw [hy120]; with_reducible exact H) | (have H2_ := (Option.bind_some _ _).symm.trans H; rw [hy120]; with_reducible exact H2_) | (have H2_ := (Option.bind_some _ _).symm.trans H; with_reducible exact H2_) | with_reducible exact H | (rw [hy120]; exact H) | exact H
                           have Ny120 := Aside0.mk hy120
                           clear hy120
                           by_cases c45 : (rd y119 ((rd_Face (rd_LFace l0_0 (rd x6_3 x7_2)) x8_3).f0)) = (wrap64 ((wrap64 (-(rd x4_3 (rd x6_3 x7_2)))) * t117))
                           next =>
                            rw [if_pos c45] at H
                            have c45b0 : ((rd y119 ((rd_Face (rd_LFace l0_0 (rd x6_3 x7_2)) x8_3).f0)) == (wrap64 ((wrap64 (-(rd x4_3 (rd x6_3 x7_2)))) * t117))) = true := beq_iff_eq.mpr c45
                            have c45b1 : ((rd y119 ((rd_Face (rd_LFace l0_0 (rd x6_3 x7_2)) x8_3).f0)) != (wrap64 ((wrap64 (-(rd x4_3 (rd x6_3 x7_2)))) * t117))) = false := bne_eq_false_iff_eq.mpr c45
                            clear c45
                            have H' := Aside0.mk H
                            clear H
                            try go_wp2
                            have n0_ := Aside0.mk (Kd.R_drew HO_4.out)
                            have n1_ := Aside0.mk (Kd.R_drew HO_6.out)
                            have n2_ := Aside0.mk (blk_drew BK101.out)
                            have n3_ := Aside0.mk (below_drew1 HB.out)
                            clear HO_4
                            clear HO_6
                            clear BK101
                            clear HB
                            have HO_4 := n0_
                            have HO_6 := n1_
                            have BK101 := n2_
                            have HB := n3_
                            clear n0_ n1_ n2_ n3_
                            obtain ⟨Ao47, co47, eo47⟩ := Kd.R_slice HO_6.out
                            (first | subst eo47 | (injection eo47 with f1_ f2_ f3_; have f4_ := f1_.symm; have f5_ := f3_.symm; clear f1_ f2_ f3_; subst f4_; subst f5_))
                            have p111 : 0 ≤ (x7_2 : Int) := of_decide_eq_true (by first | (with_reducible assumption) | assumption)
                            have q111 : x7_2 < (x6_3.length : Int) := of_decide_eq_true (by first | (with_reducible assumption) | assumption)
                            obtain ⟨ad111, e111, hx111_0⟩ := Kd.at_int (Kd.R_reads' HO_6.out).2.2 x7_2 p111 q111
                            cases e111
                            replace p111 := eq_true p111
                            replace q111 := eq_true q111
                            have p112 : 0 ≤ ((rd x6_3 x7_2) : Int) := of_decide_eq_true (by first | (with_reducible assumption) | assumption)
                            have q112 : (rd x6_3 x7_2) < (l0_0.length : Int) := of_decide_eq_true (by first | (with_reducible assumption) | assumption)
                            obtain ⟨ad112, A112_0, c112_0, e112, hx112_0, hl112_0, hi112_0⟩ := at_LFace HR0_0.out (rd x6_3 x7_2) p112 q112
                            have hw112_0 := hx112_0
                            cases e112
                            replace hx112_0 := (HB.out.cell (World.block_lt_of_cell? w _ hx112_0)).trans hx112_0
                            have HR112_0 := Aside0.mk hi112_0
                            have HC112_0 := Aside0.mk hl112_0
                            clear hi112_0 hl112_0
                            replace p112 := eq_true p112
                            replace q112 := eq_true q112
                            have p113 : 0 ≤ (x8_3 : Int) := of_decide_eq_true (by first | (with_reducible assumption) | assumption)
                            have q113 : x8_3 < ((rd_LFace l0_0 (rd x6_3 x7_2)).length : Int) := of_decide_eq_true (by first | (with_reducible assumption) | assumption)
                            obtain ⟨ad113, e113, hx113_0, hx113_1⟩ := at_Face HR112_0.out x8_3 p113 q113
                            have hw113_1 := hx113_1
                            have hw113_0 := hx113_0
                            cases e113
                            replace hx113_0 := (HB.out.cell (World.block_lt_of_cell? w _ hx113_0)).trans hx113_0
                            replace hx113_1 := (HB.out.cell (World.block_lt_of_cell? w _ hx113_1)).trans hx113_1
                            replace p113 := eq_true p113
                            replace q113 := eq_true q113
                            refine start_ (n := 13) (S := fun w' => w'.cell? ⟨gb101, 0, none⟩ = some (.slice (some ad112) l0_0.length c0_0) ∧ w'.cell? (ad111.add (x7_2).toNat) = some (.int .i64 (rd x6_3 x7_2)) ∧ w'.cell? (ad112.add ((rd x6_3 x7_2)).toNat) = some (.slice (some ad113) (rd_LFace l0_0 (rd x6_3 x7_2)).length c112_0) ∧ w'.cell? (ad113.add ((x8_3).toNat * 2)) = some (.int .i64 ((rd_Face (rd_LFace l0_0 (rd x6_3 x7_2)) x8_3).f0)) ∧ w'.cell? ⟨(ad113.add ((x8_3).toNat * 2)).block, (ad113.add ((x8_3).toNat * 2)).off + 1, none⟩ = some (.int .i64 ((rd_Face (rd_LFace l0_0 (rd x6_3 x7_2)) x8_3).f1))) (ds := []) #[false, false, false, false, false, false, false, false, false, false, false, false, false] (by kernel_rfl) rfl rfl ⟨(blk_cell BK101.out 0).trans rfl, hx111_0, ((HB.out.cell (World.block_lt_of_cell? w _ hw112_0)).trans hw112_0), ((HB.out.cell (World.block_lt_of_cell? w _ hw113_0)).trans hw113_0), ((HB.out.cell (World.block_lt_of_cell? w _ hw113_1)).trans hw113_1)⟩ (fun hHeld => ?_); refine with_tabW spec_l10Signs.tab14 spec_l10Signs.bits14 (fun HT_ HW_ => ?_)
                            generalize wr.drew = w46 at HO_4 HO_6 BK101 HB HR112_0 hx111_0 hx112_0 hx113_0 hx113_1 hHeld ⊢
                            refine pure_ (i := 0) (N := some 41) (v := ?_) (a' := ?_) #[true, false, false, false, false, false, false, false, false, false, false, false, false] rfl rfl (any_of HT_.out (by kernel_rfl)) (fun _ _ _ h => h) (Or.inl ⟨by rfl, ?_⟩) ?_ ?_
                            rotate_left
                            next =>
                             intro w'
                             go_simp
                             with_reducible rfl
                            rotate_left
                            next =>
                             simp only [Act.put, List.setIfInBounds_toArray, List.set_cons_zero, List.set_cons_succ, i64_w, i32_w]
                             rfl
                            refine pure_ (i := 2) (N := some 43) (v := ?_) (a' := ?_) #[true, false, true, false, false, false, false, false, false, false, false, false, false] rfl rfl (any_of HT_.out (by kernel_rfl)) (fun _ _ _ h => h) (Or.inl ⟨by rfl, ?_⟩) ?_ ?_
                            rotate_left
                            next =>
                             intro w'
                             go_simp
                             with_reducible rfl
                            rotate_left
                            next =>
                             simp only [Act.put, List.setIfInBounds_toArray, List.set_cons_zero, List.set_cons_succ, i64_w, i32_w]
                             rfl
                            refine pure_ (i := 3) (N := some 44) (v := ?_) (a' := ?_) #[true, false, true, true, false, false, false, false, false, false, false, false, false] rfl rfl (any_of HT_.out (by kernel_rfl)) (fun _ _ _ h => h) (Or.inl ⟨by rfl, ?_⟩) ?_ ?_
                            rotate_left
                            next =>
                             intro w'
                             go_simp
                             with_reducible rfl
                            rotate_left
                            next =>
                             simp only [Act.put, List.setIfInBounds_toArray, List.set_cons_zero, List.set_cons_succ, i64_w, i32_w]
                             rfl
                            refine pure_ (i := 4) (N := some 45) (v := ?_) (a' := ?_) #[true, false, true, true, true, false, false, false, false, false, false, false, false] rfl rfl (any_of HT_.out (by kernel_rfl)) (fun _ _ _ h => h) (Or.inl ⟨by rfl, ?_⟩) ?_ ?_
                            rotate_left
                            next =>
                             intro w'
                             go_simp
                             with_reducible rfl
                            rotate_left
                            next =>
                             simp only [Act.put, List.setIfInBounds_toArray, List.set_cons_zero, List.set_cons_succ, i64_w, i32_w]
                             rfl
                            refine pure_ (i := 8) (N := some 49) (v := ?_) (a' := ?_) #[true, false, true, true, true, false, false, false, true, false, false, false, false] rfl rfl (any_of HT_.out (by kernel_rfl)) (fun _ _ _ h => h) (Or.inl ⟨by rfl, ?_⟩) ?_ ?_
                            rotate_left
                            next =>
                             intro w'
                             go_simp
                             with_reducible rfl
                            rotate_left
                            next =>
                             simp only [Act.put, List.setIfInBounds_toArray, List.set_cons_zero, List.set_cons_succ, i64_w, i32_w]
                             rfl
                            refine take_ (i := 1) (N := some 42) (v := ?_) (a' := ?_) #[true, true, true, true, true, false, false, false, true, false, false, false, false] rfl rfl (take_ofW HT_.out HW_.out (by kernel_rfl)) (fun _ _ _ h => h) (Or.inl ⟨by rfl, ?_⟩) hHeld ?_ ?_
                            rotate_left
                            next =>
                             rintro w' ⟨s0, s1, s2, s3, s4⟩
                             go_simp
                             with_reducible rfl
                            rotate_left
                            next =>
                             simp only [Act.put, List.setIfInBounds_toArray, List.set_cons_zero, List.set_cons_succ, i64_w, i32_w]
                             rfl
                            refine take_ (i := 5) (N := some 46) (v := ?_) (a' := ?_) #[true, true, true, true, true, true, false, false, true, false, false, false, false] rfl rfl (take_ofW HT_.out HW_.out (by kernel_rfl)) (fun _ _ _ h => h) (Or.inl ⟨by rfl, ?_⟩) hHeld ?_ ?_
                            rotate_left
                            next =>
                             rintro w' ⟨s0, s1, s2, s3, s4⟩
                             go_simp
                             with_reducible rfl
                            rotate_left
                            next =>
                             simp only [Act.put, List.setIfInBounds_toArray, List.set_cons_zero, List.set_cons_succ, i64_w, i32_w]
                             rfl
                            refine pure_ (i := 6) (N := some 47) (v := ?_) (a' := ?_) #[true, true, true, true, true, true, true, false, true, false, false, false, false] rfl rfl (any_of HT_.out (by kernel_rfl)) (fun _ _ _ h => h) (Or.inl ⟨by rfl, ?_⟩) ?_ ?_
                            rotate_left
                            next =>
                             intro w'
                             go_simp
                             with_reducible rfl
                            rotate_left
                            next =>
                             simp only [Act.put, List.setIfInBounds_toArray, List.set_cons_zero, List.set_cons_succ, i64_w, i32_w]
                             rfl
                            refine take_ (i := 7) (N := some 48) (v := ?_) (a' := ?_) #[true, true, true, true, true, true, true, true, true, false, false, false, false] rfl rfl (take_ofW HT_.out HW_.out (by kernel_rfl)) (fun _ _ _ h => h) (Or.inl ⟨by rfl, ?_⟩) hHeld ?_ ?_
                            rotate_left
                            next =>
                             rintro w' ⟨s0, s1, s2, s3, s4⟩
                             go_simp
                             with_reducible rfl
                            rotate_left
                            next =>
                             simp only [Act.put, List.setIfInBounds_toArray, List.set_cons_zero, List.set_cons_succ, i64_w, i32_w]
                             rfl
                            refine pure_ (i := 9) (N := some 50) (v := ?_) (a' := ?_) #[true, true, true, true, true, true, true, true, true, true, false, false, false] rfl rfl (any_of HT_.out (by kernel_rfl)) (fun _ _ _ h => h) (Or.inl ⟨by rfl, ?_⟩) ?_ ?_
                            rotate_left
                            next =>
                             intro w'
                             go_simp
                             with_reducible rfl
                            rotate_left
                            next =>
                             simp only [Act.put, List.setIfInBounds_toArray, List.set_cons_zero, List.set_cons_succ, i64_w, i32_w]
                             rfl
                            refine take_ (i := 10) (N := some 51) (v := ?_) (a' := ?_) #[true, true, true, true, true, true, true, true, true, true, true, false, false] rfl rfl (take_ofW HT_.out HW_.out (by kernel_rfl)) (fun _ _ _ h => h) (Or.inl ⟨by rfl, ?_⟩) hHeld ?_ ?_
                            rotate_left
                            next =>
                             rintro w' ⟨s0, s1, s2, s3, s4⟩
                             go_simp
                             with_reducible rfl
                            rotate_left
                            next =>
                             simp only [Act.put, List.setIfInBounds_toArray, List.set_cons_zero, List.set_cons_succ, i64_w, i32_w]
                             rfl
                            refine one_ (i := 11) (N := some 9) #[true, true, true, true, true, true, true, true, true, true, true, true, false] rfl rfl (one_of HT_.out (by kernel_rfl)) (by decide) (fun K hK => ?_)
                            refine box_step ?hg (N := 9) ?hd (cs := #[.int .i64 0, .int .i64 0]) (t := 66) ?hr ?_; (case hd => rfl); (case hg => rfl); (case hr => first | (go_simp; done) | (go_simp; rfl))
                            intro gb114 hg w48 hbox hb
                            have HS1_ := (hb.cell (World.block_lt_of_cell? _ _ (hHeld.2.1))).trans (hHeld.2.1)
                            have n0_ := Aside0.mk (Kd.R_below (by (with_reducible repeat (first | apply Kd.R_alloc | apply Kd.R_drewN | apply Kd.R_drew)); exact HO_4.out) hb)
                            have n1_ := Aside0.mk (Kd.R_below (by (with_reducible repeat (first | apply Kd.R_alloc | apply Kd.R_drewN | apply Kd.R_drew)); exact HO_6.out) hb)
                            have n2_ := Aside0.mk (blk_below (g := gb101) (o := .cells #[.slice (some ad112) l0_0.length c0_0] 29 (0, 0)) (by (with_reducible repeat (first | refine blk_drewN ?_ _ | refine blk_drew ?_ | refine blk_alloc ?_ _)); exact BK101.out) hb)
                            have n3_ := Aside0.mk (below_step (by repeat (first | (with_reducible first | exact HB.out | apply below_alloc | apply pw_below_drewN | apply below_drew1 | refine below_set ?_ GE101.out) | exact HB.out)) hb)
                            have n4_ := Aside0.mk (hbox)
                            have n5_ := Aside0.mk ((by rw [hg]; exact (below_size (by repeat (first | (with_reducible first | exact HB.out | apply below_alloc | apply pw_below_drewN | apply below_drew1 | refine below_set ?_ GE101.out) | exact HB.out))) : w.heap.size ≤ gb114))
                            have n6_ := Aside0.mk ((by rw [hg]; exact (below_size (by repeat (first | (with_reducible first | exact HB.out | apply below_alloc | apply pw_below_drewN | apply below_drew1 | refine below_set ?_ GE101.out) | exact HB.out))) : w.heap.size ≤ gb114))
                            have n7_ := Aside0.mk ((by rw [hg]; exact Nat.ne_of_lt (blk_lt (g := gb101) (o := .cells #[.slice (some ad112) l0_0.length c0_0] 29 (0, 0)) (by (with_reducible repeat (first | refine blk_drewN ?_ _ | refine blk_drew ?_ | refine blk_alloc ?_ _)); exact BK101.out)) : gb101 ≠ gb114))
                            have n8_ := Aside0.mk ((by rw [hg]; exact Nat.ne_of_gt (blk_lt (g := gb101) (o := .cells #[.slice (some ad112) l0_0.length c0_0] 29 (0, 0)) (by (with_reducible repeat (first | refine blk_drewN ?_ _ | refine blk_drew ?_ | refine blk_alloc ?_ _)); exact BK101.out)) : gb114 ≠ gb101))
                            clear HO_4
                            clear HO_6
                            clear BK101
                            clear HB
                            have HO_4 := n0_
                            have HO_6 := n1_
                            have BK101 := n2_
                            have HB := n3_
                            have BK114 := n4_
                            have GW114 := n5_
                            have GE114 := n6_
                            have NB101_114 := n7_
                            have NB114_101 := n8_
                            clear n0_ n1_ n2_ n3_ n4_ n5_ n6_ n7_ n8_
                            clear hb hbox hg
                            refine hK.out _ _ ⟨(blk_cell BK101.out 0).trans rfl, HS1_, ((HB.out.cell (World.block_lt_of_cell? w _ hw112_0)).trans hw112_0), ((HB.out.cell (World.block_lt_of_cell? w _ hw113_0)).trans hw113_0), ((HB.out.cell (World.block_lt_of_cell? w _ hw113_1)).trans hw113_1)⟩ (fun hHeld => ?_)
                            clear hK K
                            refine norm_ (a' := ?_) ?_ ?_
                            rotate_left
                            next =>
                             show Act.put _ (some 9) _ = _
                             simp only [Act.put, List.setIfInBounds_toArray, List.set_cons_zero, List.set_cons_succ, i64_w, i32_w]
                             rfl
                            refine one_ (i := 12) (N := none) #[true, true, true, true, true, true, true, true, true, true, true, true, true] rfl rfl (one_of HT_.out (by kernel_rfl)) (by decide) (fun K hK => ?_)
                            have hs49 : w48.cell? ⟨gb114, 0, none⟩ = some (.int .i64 0) := (blk_cell BK114.out 0).trans rfl
                            have hfs49 := blk_frozen BK114.out 0
                            have hns49_0 := NB101_114.out
                            have hms49_0 := NB114_101.out
                            have hs50 : w48.cell? ⟨gb114, 1, none⟩ = some (.int .i64 0) := (blk_cell BK114.out 1).trans rfl
                            have hfs50 := blk_frozen BK114.out 1
                            have hns50_0 := NB101_114.out
                            have hms50_0 := NB114_101.out
                            refine skip_ (w1 := ?_) (by rfl) rfl ?_ ?_
                            rotate_left
                            next =>
                             go_simp
                             rfl
                            refine hK.out _ _ ⟨((cell_far (p := ⟨gb114, _, none⟩) NB101_114.out _).trans (((cell_far (p := ⟨gb114, _, none⟩) NB101_114.out _).trans (hHeld.1)))), ((cell_far (p := ⟨gb114, _, none⟩) (by first | exact Kd.own_blk (Kd.R_ne HO_6.out BK114.out (by decide)) | (rw [add_block]; exact Kd.own_blk (Kd.R_ne HO_6.out BK114.out (by decide))) | (show (Addr.add _ _).block ≠ _; rw [add_block]; exact Kd.own_blk (Kd.R_ne HO_6.out BK114.out (by decide))) | (dsimp only; exact Kd.own_blk (Kd.R_ne HO_6.out BK114.out (by decide)))) _).trans (((cell_far (p := ⟨gb114, _, none⟩) (by first | exact Kd.own_blk (Kd.R_ne HO_6.out BK114.out (by decide)) | (rw [add_block]; exact Kd.own_blk (Kd.R_ne HO_6.out BK114.out (by decide))) | (show (Addr.add _ _).block ≠ _; rw [add_block]; exact Kd.own_blk (Kd.R_ne HO_6.out BK114.out (by decide))) | (dsimp only; exact Kd.own_blk (Kd.R_ne HO_6.out BK114.out (by decide)))) _).trans (hHeld.2.1)))), ((cell_far (p := ⟨gb114, _, none⟩) (by first | exact Nat.ne_of_lt (Nat.lt_of_lt_of_le (by have := World.block_lt_of_cell? _ _ hw112_0; first | rwa [add_block] at this | exact this) GW114.out) | (rw [add_block]; exact Nat.ne_of_lt (Nat.lt_of_lt_of_le (by have := World.block_lt_of_cell? _ _ hw112_0; first | rwa [add_block] at this | exact this) GW114.out)) | (show (Addr.add _ _).block ≠ _; rw [add_block]; exact Nat.ne_of_lt (Nat.lt_of_lt_of_le (by have := World.block_lt_of_cell? _ _ hw112_0; first | rwa [add_block] at this | exact this) GW114.out)) | (dsimp only; exact Nat.ne_of_lt (Nat.lt_of_lt_of_le (by have := World.block_lt_of_cell? _ _ hw112_0; first | rwa [add_block] at this | exact this) GW114.out))) _).trans (((cell_far (p := ⟨gb114, _, none⟩) (by first | exact Nat.ne_of_lt (Nat.lt_of_lt_of_le (by have := World.block_lt_of_cell? _ _ hw112_0; first | rwa [add_block] at this | exact this) GW114.out) | (rw [add_block]; exact Nat.ne_of_lt (Nat.lt_of_lt_of_le (by have := World.block_lt_of_cell? _ _ hw112_0; first | rwa [add_block] at this | exact this) GW114.out)) | (show (Addr.add _ _).block ≠ _; rw [add_block]; exact Nat.ne_of_lt (Nat.lt_of_lt_of_le (by have := World.block_lt_of_cell? _ _ hw112_0; first | rwa [add_block] at this | exact this) GW114.out)) | (dsimp only; exact Nat.ne_of_lt (Nat.lt_of_lt_of_le (by have := World.block_lt_of_cell? _ _ hw112_0; first | rwa [add_block] at this | exact this) GW114.out))) _).trans (hHeld.2.2.1)))), ((cell_far (p := ⟨gb114, _, none⟩) (by first | exact Nat.ne_of_lt (Nat.lt_of_lt_of_le (by have := World.block_lt_of_cell? _ _ hw113_0; first | rwa [add_block] at this | exact this) GW114.out) | (rw [add_block]; exact Nat.ne_of_lt (Nat.lt_of_lt_of_le (by have := World.block_lt_of_cell? _ _ hw113_0; first | rwa [add_block] at this | exact this) GW114.out)) | (show (Addr.add _ _).block ≠ _; rw [add_block]; exact Nat.ne_of_lt (Nat.lt_of_lt_of_le (by have := World.block_lt_of_cell? _ _ hw113_0; first | rwa [add_block] at this | exact this) GW114.out)) | (dsimp only; exact Nat.ne_of_lt (Nat.lt_of_lt_of_le (by have := World.block_lt_of_cell? _ _ hw113_0; first | rwa [add_block] at this | exact this) GW114.out))) _).trans (((cell_far (p := ⟨gb114, _, none⟩) (by first | exact Nat.ne_of_lt (Nat.lt_of_lt_of_le (by have := World.block_lt_of_cell? _ _ hw113_0; first | rwa [add_block] at this | exact this) GW114.out) | (rw [add_block]; exact Nat.ne_of_lt (Nat.lt_of_lt_of_le (by have := World.block_lt_of_cell? _ _ hw113_0; first | rwa [add_block] at this | exact this) GW114.out)) | (show (Addr.add _ _).block ≠ _; rw [add_block]; exact Nat.ne_of_lt (Nat.lt_of_lt_of_le (by have := World.block_lt_of_cell? _ _ hw113_0; first | rwa [add_block] at this | exact this) GW114.out)) | (dsimp only; exact Nat.ne_of_lt (Nat.lt_of_lt_of_le (by have := World.block_lt_of_cell? _ _ hw113_0; first | rwa [add_block] at this | exact this) GW114.out))) _).trans (hHeld.2.2.2.1)))), ((cell_far (p := ⟨gb114, _, none⟩) (by first | exact Nat.ne_of_lt (Nat.lt_of_lt_of_le (by have := World.block_lt_of_cell? _ _ hw113_1; first | rwa [add_block] at this | exact this) GW114.out) | (rw [add_block]; exact Nat.ne_of_lt (Nat.lt_of_lt_of_le (by have := World.block_lt_of_cell? _ _ hw113_1; first | rwa [add_block] at this | exact this) GW114.out)) | (show (Addr.add _ _).block ≠ _; rw [add_block]; exact Nat.ne_of_lt (Nat.lt_of_lt_of_le (by have := World.block_lt_of_cell? _ _ hw113_1; first | rwa [add_block] at this | exact this) GW114.out)) | (dsimp only; exact Nat.ne_of_lt (Nat.lt_of_lt_of_le (by have := World.block_lt_of_cell? _ _ hw113_1; first | rwa [add_block] at this | exact this) GW114.out))) _).trans (((cell_far (p := ⟨gb114, _, none⟩) (by first | exact Nat.ne_of_lt (Nat.lt_of_lt_of_le (by have := World.block_lt_of_cell? _ _ hw113_1; first | rwa [add_block] at this | exact this) GW114.out) | (rw [add_block]; exact Nat.ne_of_lt (Nat.lt_of_lt_of_le (by have := World.block_lt_of_cell? _ _ hw113_1; first | rwa [add_block] at this | exact this) GW114.out)) | (show (Addr.add _ _).block ≠ _; rw [add_block]; exact Nat.ne_of_lt (Nat.lt_of_lt_of_le (by have := World.block_lt_of_cell? _ _ hw113_1; first | rwa [add_block] at this | exact this) GW114.out)) | (dsimp only; exact Nat.ne_of_lt (Nat.lt_of_lt_of_le (by have := World.block_lt_of_cell? _ _ hw113_1; first | rwa [add_block] at this | exact this) GW114.out))) _).trans (hHeld.2.2.2.2))))⟩ (fun hHeld => ?_)
                            clear hK K
                            refine done_ (done_of HT_.out (by kernel_rfl)) ?_
                            have hnb51 := NB114_101.out
                            have hnc51 := NB101_114.out
                            have hcz52_0 : w48.cell? ⟨gb114, 0, none⟩ = some (.int .i64 0) := (blk_cell BK114.out 0).trans rfl
                            have hcz52_1 : w48.cell? ⟨gb114, 1, none⟩ = some (.int .i64 0) := (blk_cell BK114.out 1).trans rfl
                            have hfz52_0 := blk_frozen BK114.out 0
                            have hfz52_1 := blk_frozen BK114.out 1
                            try go_wp2
                            have n0_ : Aside0 (Kd.R (Kd.int .i64) 2 ((w48.setCell ⟨gb114, 0, none⟩ (.int .i64 ((rd_Face (rd_LFace l0_0 (rd x6_3 x7_2)) x8_3).f0))).setCell ⟨gb114, 1, none⟩ (.int .i64 ((rd_Face (rd_LFace l0_0 (rd x6_3 x7_2)) x8_3).f1))) w.heap.size (fun k_ => some k_ ≠ (.slice (some ad111) x6_3.length co47 : Value).ownBlock) (.slice (some ⟨go13, 0, none⟩) x4_3.length co16) x4_3) := ⟨by (with_reducible repeat (first | apply Kd.R_alloc | apply Kd.R_drewN | apply Kd.R_drew)); exact Kd.R_mono (Kd.R_far (p := ⟨gb114, 1, none⟩) (Kd.R_far (p := ⟨gb114, 0, none⟩) (Kd.R_types HO_4.out BK114.out (by decide)) (fun _ hk => hk.2) (.int .i64 ((rd_Face (rd_LFace l0_0 (rd x6_3 x7_2)) x8_3).f0))) (fun _ hk => hk.2) (.int .i64 ((rd_Face (rd_LFace l0_0 (rd x6_3 x7_2)) x8_3).f1))) (fun _ hk => hk.1)⟩
                            have n1_ : Aside0 (Kd.R (Kd.int .i64) 2 ((w48.setCell ⟨gb114, 0, none⟩ (.int .i64 ((rd_Face (rd_LFace l0_0 (rd x6_3 x7_2)) x8_3).f0))).setCell ⟨gb114, 1, none⟩ (.int .i64 ((rd_Face (rd_LFace l0_0 (rd x6_3 x7_2)) x8_3).f1))) w.heap.size (fun k_ => some k_ ≠ (.slice (some ⟨go13, 0, none⟩) x4_3.length co16 : Value).ownBlock) (.slice (some ad111) x6_3.length co47) x6_3) := ⟨by (with_reducible repeat (first | apply Kd.R_alloc | apply Kd.R_drewN | apply Kd.R_drew)); exact Kd.R_mono (Kd.R_far (p := ⟨gb114, 1, none⟩) (Kd.R_far (p := ⟨gb114, 0, none⟩) (Kd.R_types HO_6.out BK114.out (by decide)) (fun _ hk => hk.2) (.int .i64 ((rd_Face (rd_LFace l0_0 (rd x6_3 x7_2)) x8_3).f0))) (fun _ hk => hk.2) (.int .i64 ((rd_Face (rd_LFace l0_0 (rd x6_3 x7_2)) x8_3).f1))) (fun _ hk => hk.1)⟩
                            have n2_ : Aside0 (((w48.setCell ⟨gb114, 0, none⟩ (.int .i64 ((rd_Face (rd_LFace l0_0 (rd x6_3 x7_2)) x8_3).f0))).setCell ⟨gb114, 1, none⟩ (.int .i64 ((rd_Face (rd_LFace l0_0 (rd x6_3 x7_2)) x8_3).f1))).heap[gb101]? = some (.cells #[.slice (some ad112) l0_0.length c0_0] 29 (0, 0))) := ⟨by (with_reducible repeat (first | refine blk_drewN ?_ _ | refine blk_drew ?_ | refine blk_alloc ?_ _)); refine blk_far ?_ NB101_114.out _; (with_reducible repeat (first | refine blk_drewN ?_ _ | refine blk_drew ?_ | refine blk_alloc ?_ _)); refine blk_far ?_ NB101_114.out _; (with_reducible repeat (first | refine blk_drewN ?_ _ | refine blk_drew ?_ | refine blk_alloc ?_ _)); exact BK101.out⟩
                            have n3_ : Aside0 (((w48.setCell ⟨gb114, 0, none⟩ (.int .i64 ((rd_Face (rd_LFace l0_0 (rd x6_3 x7_2)) x8_3).f0))).setCell ⟨gb114, 1, none⟩ (.int .i64 ((rd_Face (rd_LFace l0_0 (rd x6_3 x7_2)) x8_3).f1))).heap[gb114]? = some (.cells #[.int .i64 ((rd_Face (rd_LFace l0_0 (rd x6_3 x7_2)) x8_3).f0), .int .i64 ((rd_Face (rd_LFace l0_0 (rd x6_3 x7_2)) x8_3).f1)] 66 (0, 0))) := ⟨by (with_reducible repeat (first | refine blk_drewN ?_ _ | refine blk_drew ?_ | refine blk_alloc ?_ _)); refine blk_put (cs := #[.int .i64 ((rd_Face (rd_LFace l0_0 (rd x6_3 x7_2)) x8_3).f0), .int .i64 0]) ?_ 1 _ rfl; (with_reducible repeat (first | refine blk_drewN ?_ _ | refine blk_drew ?_ | refine blk_alloc ?_ _)); refine blk_put (cs := #[.int .i64 0, .int .i64 0]) ?_ 0 _ rfl; (with_reducible repeat (first | refine blk_drewN ?_ _ | refine blk_drew ?_ | refine blk_alloc ?_ _)); exact BK114.out⟩
                            have n4_ : Aside0 (Below w.heap.size w ((w48.setCell ⟨gb114, 0, none⟩ (.int .i64 ((rd_Face (rd_LFace l0_0 (rd x6_3 x7_2)) x8_3).f0))).setCell ⟨gb114, 1, none⟩ (.int .i64 ((rd_Face (rd_LFace l0_0 (rd x6_3 x7_2)) x8_3).f1)))) := ⟨by repeat (first | (with_reducible first | exact HB.out | apply below_alloc | apply pw_below_drewN | apply below_drew1 | refine below_set ?_ GE101.out | refine below_set ?_ GE114.out) | exact HB.out)⟩
                            (try clear HO_4)
                            (try clear HO_6)
                            (try clear BK101)
                            (try clear BK114)
                            (try clear HB)
                            generalize ((w48.setCell ⟨gb114, 0, none⟩ (.int .i64 ((rd_Face (rd_LFace l0_0 (rd x6_3 x7_2)) x8_3).f0))).setCell ⟨gb114, 1, none⟩ (.int .i64 ((rd_Face (rd_LFace l0_0 (rd x6_3 x7_2)) x8_3).f1))) = w53 at n0_ n1_ n2_ n3_ n4_ ⊢
                            have HO_4 := n0_
                            have HO_6 := n1_
                            have BK101 := n2_
                            have BK114 := n3_
                            have HB := n4_
                            clear n0_ n1_ n2_ n3_ n4_
                            have n0_ := Aside0.mk (Kd.R_drew HO_4.out)
                            have n1_ := Aside0.mk (Kd.R_drew HO_6.out)
                            have n2_ := Aside0.mk (blk_drew BK101.out)
                            have n3_ := Aside0.mk (blk_drew BK114.out)
                            have n4_ := Aside0.mk (below_drew1 HB.out)
                            clear HO_4
                            clear HO_6
                            clear BK101
                            clear BK114
                            clear HB
                            have HO_4 := n0_
                            have HO_6 := n1_
                            have BK101 := n2_
                            have BK114 := n3_
                            have HB := n4_
                            clear n0_ n1_ n2_ n3_ n4_
                            have p115 : 0 ≤ (x7_2 : Int) := of_decide_eq_true (by first | (with_reducible assumption) | assumption)
                            have q115 : x7_2 < (x6_3.length : Int) := of_decide_eq_true (by first | (with_reducible assumption) | assumption)
                            obtain ⟨ad115, e115, hx115_0⟩ := Kd.at_int (Kd.R_reads' HO_6.out).2.2 x7_2 p115 q115
                            obtain rfl : ad111 = ad115 := (by injection e115)
                            replace p115 := eq_true p115
                            replace q115 := eq_true q115
                            have p116 : 0 ≤ ((rd x6_3 x7_2) : Int) := of_decide_eq_true (by first | (with_reducible assumption) | assumption)
                            have q116 : (rd x6_3 x7_2) < (x4_3.length : Int) := of_decide_eq_true (by first | (with_reducible assumption) | assumption)
                            obtain ⟨ad116, e116, hx116_0⟩ := Kd.at_int (Kd.R_reads' HO_4.out).2.2 (rd x6_3 x7_2) p116 q116
                            obtain rfl : (⟨go13, 0, none⟩ : Addr) = ad116 := (by injection e116)
                            (first | simp only [add_plain] at hx116_0 | simp only [add_at] at hx116_0 | simp only [Addr.add, Nat.zero_add] at hx116_0 | skip)
                            replace p116 := eq_true p116
                            replace q116 := eq_true q116
                            refine start_ (n := 13) (S := fun w' => w'.cell? ⟨gb114, 0, none⟩ = some (.int .i64 ((rd_Face (rd_LFace l0_0 (rd x6_3 x7_2)) x8_3).f0)) ∧ w'.cell? ⟨gb114, 1, none⟩ = some (.int .i64 ((rd_Face (rd_LFace l0_0 (rd x6_3 x7_2)) x8_3).f1)) ∧ w'.cell? (ad111.add (x7_2).toNat) = some (.int .i64 (rd x6_3 x7_2)) ∧ w'.cell? ⟨go13, ((rd x6_3 x7_2)).toNat, none⟩ = some (.int .i64 (rd x4_3 (rd x6_3 x7_2)))) (ds := []) #[false, false, false, false, false, false, false, false, false, false, false, false, false] (by kernel_rfl) rfl rfl ⟨(blk_cell BK114.out 0).trans rfl, (blk_cell BK114.out 1).trans rfl, hx115_0, hx116_0⟩ (fun hHeld => ?_); refine with_tabW spec_l10Signs.tab16 spec_l10Signs.bits16 (fun HT_ HW_ => ?_)
                            generalize w53.drew = w54 at HO_4 HO_6 BK101 BK114 HB hx115_0 hx116_0 hHeld ⊢
                            refine pure_ (i := 0) (N := some 55) (v := ?_) (a' := ?_) #[true, false, false, false, false, false, false, false, false, false, false, false, false] rfl rfl (any_of HT_.out (by kernel_rfl)) (fun _ _ _ h => h) (Or.inl ⟨by rfl, ?_⟩) ?_ ?_
                            rotate_left
                            next =>
                             intro w'
                             go_simp
                             with_reducible rfl
                            rotate_left
                            next =>
                             simp only [Act.put, List.setIfInBounds_toArray, List.set_cons_zero, List.set_cons_succ, i64_w, i32_w]
                             rfl
                            refine pure_ (i := 1) (N := some 56) (v := ?_) (a' := ?_) #[true, true, false, false, false, false, false, false, false, false, false, false, false] rfl rfl (any_of HT_.out (by kernel_rfl)) (fun _ _ _ h => h) (Or.inl ⟨by rfl, ?_⟩) ?_ ?_
                            rotate_left
                            next =>
                             intro w'
                             go_simp
                             with_reducible rfl
                            rotate_left
                            next =>
                             simp only [Act.put, List.setIfInBounds_toArray, List.set_cons_zero, List.set_cons_succ, i64_w, i32_w]
                             rfl
                            refine pure_ (i := 2) (N := some 57) (v := ?_) (a' := ?_) #[true, true, true, false, false, false, false, false, false, false, false, false, false] rfl rfl (any_of HT_.out (by kernel_rfl)) (fun _ _ _ h => h) (Or.inl ⟨by rfl, ?_⟩) ?_ ?_
                            rotate_left
                            next =>
                             intro w'
                             go_simp
                             with_reducible rfl
                            rotate_left
                            next =>
                             simp only [Act.put, List.setIfInBounds_toArray, List.set_cons_zero, List.set_cons_succ, i64_w, i32_w]
                             rfl
                            refine pure_ (i := 3) (N := some 58) (v := ?_) (a' := ?_) #[true, true, true, true, false, false, false, false, false, false, false, false, false] rfl rfl (any_of HT_.out (by kernel_rfl)) (fun _ _ _ h => h) (Or.inl ⟨by rfl, ?_⟩) ?_ ?_
                            rotate_left
                            next =>
                             intro w'
                             go_simp
                             with_reducible rfl
                            rotate_left
                            next =>
                             simp only [Act.put, List.setIfInBounds_toArray, List.set_cons_zero, List.set_cons_succ, i64_w, i32_w]
                             rfl
                            refine pure_ (i := 8) (N := some 63) (v := ?_) (a' := ?_) #[true, true, true, true, false, false, false, false, true, false, false, false, false] rfl rfl (any_of HT_.out (by kernel_rfl)) (fun _ _ _ h => h) (Or.inl ⟨by rfl, ?_⟩) ?_ ?_
                            rotate_left
                            next =>
                             intro w'
                             go_simp
                             with_reducible rfl
                            rotate_left
                            next =>
                             simp only [Act.put, List.setIfInBounds_toArray, List.set_cons_zero, List.set_cons_succ, i64_w, i32_w]
                             rfl
                            refine take_ (i := 4) (N := some 59) (v := ?_) (a' := ?_) #[true, true, true, true, true, false, false, false, true, false, false, false, false] rfl rfl (take_ofW HT_.out HW_.out (by kernel_rfl)) (fun _ _ _ h => h) (Or.inl ⟨by rfl, ?_⟩) hHeld ?_ ?_
                            rotate_left
                            next =>
                             rintro w' ⟨s0, s1, s2, s3⟩
                             go_simp
                             with_reducible rfl
                            rotate_left
                            next =>
                             simp only [Act.put, List.setIfInBounds_toArray, List.set_cons_zero, List.set_cons_succ, i64_w, i32_w]
                             rfl
                            refine pure_ (i := 5) (N := some 60) (v := ?_) (a' := ?_) #[true, true, true, true, true, true, false, false, true, false, false, false, false] rfl rfl (any_of HT_.out (by kernel_rfl)) (fun _ _ _ h => h) (Or.inl ⟨by rfl, ?_⟩) ?_ ?_
                            rotate_left
                            next =>
                             intro w'
                             go_simp
                             with_reducible rfl
                            rotate_left
                            next =>
                             simp only [Act.put, List.setIfInBounds_toArray, List.set_cons_zero, List.set_cons_succ, i64_w, i32_w]
                             rfl
                            refine take_ (i := 6) (N := some 61) (v := ?_) (a' := ?_) #[true, true, true, true, true, true, true, false, true, false, false, false, false] rfl rfl (take_ofW HT_.out HW_.out (by kernel_rfl)) (fun _ _ _ h => h) (Or.inl ⟨by rfl, ?_⟩) hHeld ?_ ?_
                            rotate_left
                            next =>
                             rintro w' ⟨s0, s1, s2, s3⟩
                             go_simp
                             with_reducible rfl
                            rotate_left
                            next =>
                             simp only [Act.put, List.setIfInBounds_toArray, List.set_cons_zero, List.set_cons_succ, i64_w, i32_w]
                             rfl
                            refine pure_ (i := 7) (N := some 62) (v := ?_) (a' := ?_) #[true, true, true, true, true, true, true, true, true, false, false, false, false] rfl rfl (any_of HT_.out (by kernel_rfl)) (fun _ _ _ h => h) (Or.inl ⟨by rfl, ?_⟩) ?_ ?_
                            rotate_left
                            next =>
                             intro w'
                             go_simp
                             with_reducible rfl
                            rotate_left
                            next =>
                             simp only [Act.put, List.setIfInBounds_toArray, List.set_cons_zero, List.set_cons_succ, i64_w, i32_w]
                             rfl
                            refine take_ (i := 9) (N := some 64) (v := ?_) (a' := ?_) #[true, true, true, true, true, true, true, true, true, true, false, false, false] rfl rfl (take_ofW HT_.out HW_.out (by kernel_rfl)) (fun _ _ _ h => h) (Or.inl ⟨by rfl, ?_⟩) hHeld ?_ ?_
                            rotate_left
                            next =>
                             rintro w' ⟨s0, s1, s2, s3⟩
                             go_simp
                             with_reducible rfl
                            rotate_left
                            next =>
                             simp only [Act.put, List.setIfInBounds_toArray, List.set_cons_zero, List.set_cons_succ, i64_w, i32_w]
                             rfl
                            refine one_ (i := 10) (N := some 65) #[true, true, true, true, true, true, true, true, true, true, true, false, false] rfl rfl (one_of HT_.out (by kernel_rfl)) (by decide) (fun K hK => ?_)
                            refine goes_ Try.func60 (by kernel_rfl) rfl #[.int .i64 ((rd_Face (rd_LFace l0_0 (rd x6_3 x7_2)) x8_3).f1)] (by rfl) rfl rfl (by (try simp only [List.map_toArray, List.map_cons, List.map_nil]); first | done | rfl | (simp only [List.length_drop, List.length_take]; rfl)) ?_
                            with_reducible refine (spec_SignPerm4.calls k3 ((rd_Face (rd_LFace l0_0 (rd x6_3 x7_2)) x8_3).f1) t117 _ A39.out).mono ?_
                            rintro e w55 ⟨rfl, hb⟩
                            have HS2_ := (hb.cell (World.block_lt_of_cell? _ _ (hHeld.2.2.1))).trans (hHeld.2.2.1)
                            have HS3_ := (hb.cell (World.block_lt_of_cell? _ _ (hHeld.2.2.2))).trans (hHeld.2.2.2)
                            refine ⟨_, rfl, ?_⟩
                            have n0_ := Aside0.mk (Kd.R_below (by (with_reducible repeat (first | apply Kd.R_alloc | apply Kd.R_drewN | apply Kd.R_drew)); exact HO_4.out) hb)
                            have n1_ := Aside0.mk (Kd.R_below (by (with_reducible repeat (first | apply Kd.R_alloc | apply Kd.R_drewN | apply Kd.R_drew)); exact HO_6.out) hb)
                            have n2_ := Aside0.mk (blk_below (g := gb101) (o := .cells #[.slice (some ad112) l0_0.length c0_0] 29 (0, 0)) (by (with_reducible repeat (first | refine blk_drewN ?_ _ | refine blk_drew ?_ | refine blk_alloc ?_ _)); exact BK101.out) hb)
                            have n3_ := Aside0.mk (blk_below (g := gb114) (o := .cells #[.int .i64 ((rd_Face (rd_LFace l0_0 (rd x6_3 x7_2)) x8_3).f0), .int .i64 ((rd_Face (rd_LFace l0_0 (rd x6_3 x7_2)) x8_3).f1)] 66 (0, 0)) (by (with_reducible repeat (first | refine blk_drewN ?_ _ | refine blk_drew ?_ | refine blk_alloc ?_ _)); exact BK114.out) hb)
                            have n4_ := Aside0.mk (below_step (by repeat (first | (with_reducible first | exact HB.out | apply below_alloc | apply pw_below_drewN | apply below_drew1 | refine below_set ?_ GE101.out | refine below_set ?_ GE114.out) | exact HB.out)) hb)
                            clear HO_4
                            clear HO_6
                            clear BK101
                            clear BK114
                            clear HB
                            have HO_4 := n0_
                            have HO_6 := n1_
                            have BK101 := n2_
                            have BK114 := n3_
                            have HB := n4_
                            clear n0_ n1_ n2_ n3_ n4_
                            (try clear hb)
                            (try clear hb2)
                            (try clear hk)
                            (try clear hi)
                            refine hK.out _ _ ⟨(blk_cell BK114.out 0).trans rfl, (blk_cell BK114.out 1).trans rfl, HS2_, HS3_⟩ (fun hHeld => ?_)
                            clear hK K
                            refine norm_ (a' := ?_) ?_ ?_
                            rotate_left
                            next =>
                             show Act.put _ (some 65) _ = _
                             simp only [Act.put, List.setIfInBounds_toArray, List.set_cons_zero, List.set_cons_succ, i64_w, i32_w]
                             rfl
                            refine pure_ (i := 11) (N := some 66) (v := ?_) (a' := ?_) #[true, true, true, true, true, true, true, true, true, true, true, true, false] rfl rfl (any_of HT_.out (by kernel_rfl)) (fun _ _ _ h => h) (Or.inl ⟨by rfl, ?_⟩) ?_ ?_
                            rotate_left
                            next =>
                             intro w'
                             go_simp
                             with_reducible rfl
                            rotate_left
                            next =>
                             simp only [Act.put, List.setIfInBounds_toArray, List.set_cons_zero, List.set_cons_succ, i64_w, i32_w]
                             rfl
                            refine pure_ (i := 12) (N := some 10) (v := ?_) (a' := ?_) #[true, true, true, true, true, true, true, true, true, true, true, true, true] rfl rfl (any_of HT_.out (by kernel_rfl)) (fun _ _ _ h => h) (Or.inl ⟨by rfl, ?_⟩) ?_ ?_
                            rotate_left
                            next =>
                             intro w'
                             go_simp
                             with_reducible rfl
                            rotate_left
                            next =>
                             simp only [Act.put, List.setIfInBounds_toArray, List.set_cons_zero, List.set_cons_succ, i64_w, i32_w]
                             rfl
                            refine done_ (done_of HT_.out (by kernel_rfl)) ?_
                            have hcz56_0 : w55.cell? ⟨gb114, 0, none⟩ = some (.int .i64 ((rd_Face (rd_LFace l0_0 (rd x6_3 x7_2)) x8_3).f0)) := (blk_cell BK114.out 0).trans rfl
                            have hcz56_1 : w55.cell? ⟨gb114, 1, none⟩ = some (.int .i64 ((rd_Face (rd_LFace l0_0 (rd x6_3 x7_2)) x8_3).f1)) := (blk_cell BK114.out 1).trans rfl
                            have hfz56_0 := blk_frozen BK114.out 0
                            have hfz56_1 := blk_frozen BK114.out 1
                            have p118 : 0 ≤ (((rd_Face (rd_LFace l0_0 (rd x6_3 x7_2)) x8_3).f0) : Int) := of_decide_eq_true (by first | (with_reducible assumption) | assumption)
                            have q118 : ((rd_Face (rd_LFace l0_0 (rd x6_3 x7_2)) x8_3).f0) < (x4_3.length : Int) := of_decide_eq_true (by first | (with_reducible assumption) | assumption)
                            obtain ⟨ad118, e118, hx118_0⟩ := Kd.at_int (Kd.R_reads' HO_4.out).2.2 ((rd_Face (rd_LFace l0_0 (rd x6_3 x7_2)) x8_3).f0) p118 q118
                            obtain rfl : (⟨go13, 0, none⟩ : Addr) = ad118 := (by injection e118)
                            (first | simp only [add_plain] at hx118_0 | simp only [add_at] at hx118_0 | simp only [Addr.add, Nat.zero_add] at hx118_0 | skip)
                            replace p118 := eq_true p118
                            replace q118 := eq_true q118
                            have p43 : 0 ≤ (((rd_Face (rd_LFace l0_0 (rd x6_3 x7_2)) x8_3).f0) : Int) := of_decide_eq_true (by first | (with_reducible assumption) | assumption)
                            have q43 : (((rd_Face (rd_LFace l0_0 (rd x6_3 x7_2)) x8_3).f0) : Int) < ((x4_3.length : Int) : Int) := of_decide_eq_true (by first | (with_reducible assumption) | assumption)
                            obtain ⟨hx43_0, hf43_0⟩ := Kd.R_celln 0 HO_4.out (((rd_Face (rd_LFace l0_0 (rd x6_3 x7_2)) x8_3).f0) : Int) p43 q43
                            replace p43 := eq_true p43
                            replace q43 := eq_true q43
                            obtain ⟨hy57_, hz57_⟩ := Kd.R_celln 0 HO_4.out (((rd_Face (rd_LFace l0_0 (rd x6_3 x7_2)) x8_3).f0) : Int) (of_decide_eq_true (by first | (with_reducible assumption) | assumption)) (of_decide_eq_true (by first | (with_reducible assumption) | assumption))
                            have HP57 := Kd.R_putg HO_4.out (((rd_Face (rd_LFace l0_0 (rd x6_3 x7_2)) x8_3).f0) : Int) (wrap64 ((wrap64 (-(rd x4_3 (rd x6_3 x7_2)))) * t117))
                            try go_wp2_with (first | ((with_reducible refine gate_store (t := 2) (p := 77) rfl ?_); refine store_event (t := 2) (p := 77) (v := ?vo_w58) (w1 := (w55.setCell ⟨go13, (((rd_Face (rd_LFace l0_0 (rd x6_3 x7_2)) x8_3).f0) : Int).toNat, none⟩ (.int .i64 (wrap64 ((wrap64 (-(rd x4_3 (rd x6_3 x7_2)))) * t117))))) ?hg ?ho ?hn ?hr ?_; (case ho => rfl); (case hg => rfl); (case hn => rfl); (case hr => first | (go_simp; done) | (go_simp; rfl)); intro w58 hw; have hg : w55.grownBy w58 (some go13) := (by rw [hw]; exact HP57.2); have hp_ : Kd.R (Kd.int .i64) 2 w58 w.heap.size (fun k_ => some k_ ≠ (.slice (some ad111) x6_3.length co47 : Value).ownBlock) (.slice (some ⟨go13, 0, none⟩) x4_3.length co16) y119 := (by rw [hw, Ny119.out]; exact HP57.1); clear HP57; have n0_ := Aside0.mk (hp_); have n1_ := Aside0.mk (Kd.R_after (v := (.slice (some ⟨go13, 0, none⟩) x4_3.length co16)) (v1 := (.slice (some ⟨go13, 0, none⟩) x4_3.length co16)) (ok := (fun _ => True)) (by (with_reducible repeat (first | apply Kd.R_alloc | apply Kd.R_drewN | apply Kd.R_drew)); exact Kd.R_mono HO_6.out (fun _ hk => ⟨trivial, hk⟩)) hg (.inl rfl)); have n2_ := Aside0.mk (blk_grown (g := gb101) (o := .cells #[.slice (some ad112) l0_0.length c0_0] 29 (0, 0)) (by (with_reducible repeat (first | refine blk_drewN ?_ _ | refine blk_drew ?_ | refine blk_alloc ?_ _)); exact BK101.out) hg (Kd.R_ne HO_4.out BK101.out (by decide))); have n3_ := Aside0.mk (blk_grown (g := gb114) (o := .cells #[.int .i64 ((rd_Face (rd_LFace l0_0 (rd x6_3 x7_2)) x8_3).f0), .int .i64 ((rd_Face (rd_LFace l0_0 (rd x6_3 x7_2)) x8_3).f1)] 66 (0, 0)) (by (with_reducible repeat (first | refine blk_drewN ?_ _ | refine blk_drew ?_ | refine blk_alloc ?_ _)); exact BK114.out) hg (Kd.R_ne HO_4.out BK114.out (by decide))); have n4_ := Aside0.mk ((by rw [hw]; exact below_set (HB.out) GB13.out : Below w.heap.size w w58)); clear HO_4; clear HO_6; clear BK101; clear BK114; clear HB; have HO_4 := n0_; have HO_6 := n1_; have BK101 := n2_; have BK114 := n3_; have HB := n4_; clear n0_ n1_ n2_ n3_ n4_; clear hg hw hp_; have hcz59_0 : w58.cell? ⟨gb114, 0, none⟩ = some (.int .i64 ((rd_Face (rd_LFace l0_0 (rd x6_3 x7_2)) x8_3).f0)) := (blk_cell BK114.out 0).trans rfl; have hcz59_1 : w58.cell? ⟨gb114, 1, none⟩ = some (.int .i64 ((rd_Face (rd_LFace l0_0 (rd x6_3 x7_2)) x8_3).f1)) := (blk_cell BK114.out 1).trans rfl; have hfz59_0 := blk_frozen BK114.out 0; have hfz59_1 := blk_frozen BK114.out 1) | ((with_reducible refine gate_builtin (b := .append) (xs := #[.tmp 78, .tmp 81]) rfl ?_); at_builtin; refine Kd.R_append (Kd.int .i64) (w0 := w) w.heap.size rfl (.tmp 78) (.tmp 81) 33 2 (.int .i64 0) 8 rfl Try.underlying33 info2 rfl (by decide) (by omega) (.slice (some ad111) x6_3.length co47) x6_3 ((rd_Face (rd_LFace l0_0 (rd x6_3 x7_2)) x8_3).f0) [.int .i64 ((rd_Face (rd_LFace l0_0 (rd x6_3 x7_2)) x8_3).f0)] (fun k_ => some k_ ≠ (.slice (some ⟨go13, 0, none⟩) x4_3.length co16 : Value).ownBlock) (fun _ => False) rfl rfl ?aP (fun _ hk => hk.elim) ?aF ?aO ?aB ?aS ?aL ?_; (case aP => exact rfl); (case aB => exact (by repeat (first | (with_reducible first | exact HB.out | apply below_alloc | apply pw_below_drewN | apply below_drew1 | refine below_set ?_ GE101.out | refine below_set ?_ GE114.out) | exact HB.out))); (case aF => exact (fun k_ hk => Kd.fresh' (Kd.R_lt (by (with_reducible repeat (first | apply Kd.R_alloc | apply Kd.R_drewN | apply Kd.R_drew)); exact HO_4.out)) k_ hk)); (case aO => exact (by (with_reducible repeat (first | apply Kd.R_alloc | apply Kd.R_drewN | apply Kd.R_drew)); exact Kd.R_mono HO_6.out (fun _ hk => hk.2))); (case aS => exact (below_size (by repeat (first | (with_reducible first | exact HB.out | apply below_alloc | apply pw_below_drewN | apply below_drew1 | refine below_set ?_ GE101.out | refine below_set ?_ GE114.out) | exact HB.out)))); (case aL => have := LMc44.out; omega); intro v121 w60 ho hb hg hat; rw [← Ny120.out] at ho; have n0_ := Aside0.mk (Kd.R_after (ok := (fun _ => True)) (by (with_reducible repeat (first | apply Kd.R_alloc | apply Kd.R_drewN | apply Kd.R_drew)); exact Kd.R_mono HO_4.out (fun _ hk => ⟨trivial, hk⟩)) hg hat); have n1_ := Aside0.mk (blk_grown (g := gb101) (o := .cells #[.slice (some ad112) l0_0.length c0_0] 29 (0, 0)) (by (with_reducible repeat (first | refine blk_drewN ?_ _ | refine blk_drew ?_ | refine blk_alloc ?_ _)); exact BK101.out) hg (Kd.R_ne HO_6.out BK101.out (by decide))); have n2_ := Aside0.mk (blk_grown (g := gb114) (o := .cells #[.int .i64 ((rd_Face (rd_LFace l0_0 (rd x6_3 x7_2)) x8_3).f0), .int .i64 ((rd_Face (rd_LFace l0_0 (rd x6_3 x7_2)) x8_3).f1)] 66 (0, 0)) (by (with_reducible repeat (first | refine blk_drewN ?_ _ | refine blk_drew ?_ | refine blk_alloc ?_ _)); exact BK114.out) hg (Kd.R_ne HO_6.out BK114.out (by decide))); have n3_ := Aside0.mk (hb); have n4_ := Aside0.mk (ho); clear HO_4; clear BK101; clear BK114; clear HB; clear HO_6; have HO_4 := n0_; have BK101 := n1_; have BK114 := n2_; have HB := n3_; have HO122 := n4_; clear n0_ n1_ n2_ n3_ n4_; clear ho hb hg hat; have hcz61_0 : w60.cell? ⟨gb114, 0, none⟩ = some (.int .i64 ((rd_Face (rd_LFace l0_0 (rd x6_3 x7_2)) x8_3).f0)) := (blk_cell BK114.out 0).trans rfl; have hcz61_1 : w60.cell? ⟨gb114, 1, none⟩ = some (.int .i64 ((rd_Face (rd_LFace l0_0 (rd x6_3 x7_2)) x8_3).f1)) := (blk_cell BK114.out 1).trans rfl; have hfz61_0 := blk_frozen BK114.out 0; have hfz61_1 := blk_frozen BK114.out 1; have p123 : 0 ≤ (((rd_Face (rd_LFace l0_0 (rd x6_3 x7_2)) x8_3).f0) : Int) := of_decide_eq_true (by first | (with_reducible assumption) | assumption); have q123 : ((rd_Face (rd_LFace l0_0 (rd x6_3 x7_2)) x8_3).f0) < (y119.length : Int) := (by have h_ : (((rd_Face (rd_LFace l0_0 (rd x6_3 x7_2)) x8_3).f0) : Int) < ((x4_3.length : Int) : Int) := of_decide_eq_true (by first | (with_reducible assumption) | assumption); first | (have e_ := (Kd.R_reads' HO_4.out).1; omega) | simpa only [Ny119.out, List.length_set] using h_); have ql123 : ((((rd_Face (rd_LFace l0_0 (rd x6_3 x7_2)) x8_3).f0) : Int) < ((x4_3.length : Int) : Int)) = True := eq_true (of_decide_eq_true (by first | (with_reducible assumption) | assumption)); obtain ⟨ad123, e123, hx123_0⟩ := Kd.at_int (Kd.R_reads' HO_4.out).2.2 ((rd_Face (rd_LFace l0_0 (rd x6_3 x7_2)) x8_3).f0) p123 q123; obtain rfl : (⟨go13, 0, none⟩ : Addr) = ad123 := (by injection e123); (first | simp only [add_plain] at hx123_0 | simp only [add_at] at hx123_0 | simp only [Addr.add, Nat.zero_add] at hx123_0 | skip); replace p123 := eq_true p123; replace q123 := eq_true q123))
                            (try simp only [← hl4_3])
                            go_roundg k3
                            case measure => have := HK1.out; have := HK2.out; have := HK3.out; omega
                            case rel => exact ⟨(y119), (y120), (wrap64 (x8_3 + 1)), (by first | rfl | (simp; done) | (simp [*]; done)), H', ⟨by have := HK1.out; have := HK2.out; have := HK3.out; omega⟩, ⟨by (try simp only [hl4_2]); (try simp only [hl4_3]); (with_reducible repeat (first | apply Kd.R_alloc | apply Kd.R_drewN | apply Kd.R_drew)); exact Kd.R_mono HO_4.out (fun _ hk => hk.2)⟩, ⟨by (try simp only [hl4_2]); (try simp only [hl4_3]); (with_reducible repeat (first | apply Kd.R_alloc | apply Kd.R_drewN | apply Kd.R_drew)); exact HO122.out⟩, ⟨by (try simp only [hl4_2]); (try simp only [hl4_3]); (with_reducible repeat (first | refine blk_drewN ?_ _ | refine blk_drew ?_ | refine blk_alloc ?_ _)); exact BK101.out⟩, ⟨by repeat (first | (with_reducible first | exact HB.out | apply below_alloc | apply pw_below_drewN | apply below_drew1 | refine below_set ?_ GE101.out | refine below_set ?_ GE114.out) | exact HB.out)⟩⟩
                           next =>
                            rw [if_neg c45] at H
                            have c45b0 : ((rd y119 ((rd_Face (rd_LFace l0_0 (rd x6_3 x7_2)) x8_3).f0)) == (wrap64 ((wrap64 (-(rd x4_3 (rd x6_3 x7_2)))) * t117))) = false := beq_eq_false_iff_ne.mpr c45
                            have c45b1 : ((rd y119 ((rd_Face (rd_LFace l0_0 (rd x6_3 x7_2)) x8_3).f0)) != (wrap64 ((wrap64 (-(rd x4_3 (rd x6_3 x7_2)))) * t117))) = true := bne_iff_ne.mpr c45
                            simp only [Option.some.injEq, Prod.mk.injEq] at H
                            obtain ⟨rfl, rfl⟩ := H
                            try go_wp2
                            have n0_ := Aside0.mk (Kd.R_drew HO_4.out)
                            have n1_ := Aside0.mk (Kd.R_drew HO_6.out)
                            have n2_ := Aside0.mk (blk_drew BK101.out)
                            have n3_ := Aside0.mk (below_drew1 HB.out)
                            clear HO_4
                            clear HO_6
                            clear BK101
                            clear HB
                            have HO_4 := n0_
                            have HO_6 := n1_
                            have BK101 := n2_
                            have HB := n3_
                            clear n0_ n1_ n2_ n3_
                            obtain ⟨Ao63, co63, eo63⟩ := Kd.R_slice HO_6.out
                            (first | subst eo63 | (injection eo63 with f1_ f2_ f3_; have f4_ := f1_.symm; have f5_ := f3_.symm; clear f1_ f2_ f3_; subst f4_; subst f5_))
                            have p111 : 0 ≤ (x7_2 : Int) := of_decide_eq_true (by first | (with_reducible assumption) | assumption)
                            have q111 : x7_2 < (x6_3.length : Int) := of_decide_eq_true (by first | (with_reducible assumption) | assumption)
                            obtain ⟨ad111, e111, hx111_0⟩ := Kd.at_int (Kd.R_reads' HO_6.out).2.2 x7_2 p111 q111
                            cases e111
                            replace p111 := eq_true p111
                            replace q111 := eq_true q111
                            have p112 : 0 ≤ ((rd x6_3 x7_2) : Int) := of_decide_eq_true (by first | (with_reducible assumption) | assumption)
                            have q112 : (rd x6_3 x7_2) < (l0_0.length : Int) := of_decide_eq_true (by first | (with_reducible assumption) | assumption)
                            obtain ⟨ad112, A112_0, c112_0, e112, hx112_0, hl112_0, hi112_0⟩ := at_LFace HR0_0.out (rd x6_3 x7_2) p112 q112
                            have hw112_0 := hx112_0
                            cases e112
                            replace hx112_0 := (HB.out.cell (World.block_lt_of_cell? w _ hx112_0)).trans hx112_0
                            have HR112_0 := Aside0.mk hi112_0
                            have HC112_0 := Aside0.mk hl112_0
                            clear hi112_0 hl112_0
                            replace p112 := eq_true p112
                            replace q112 := eq_true q112
                            have p113 : 0 ≤ (x8_3 : Int) := of_decide_eq_true (by first | (with_reducible assumption) | assumption)
                            have q113 : x8_3 < ((rd_LFace l0_0 (rd x6_3 x7_2)).length : Int) := of_decide_eq_true (by first | (with_reducible assumption) | assumption)
                            obtain ⟨ad113, e113, hx113_0, hx113_1⟩ := at_Face HR112_0.out x8_3 p113 q113
                            have hw113_1 := hx113_1
                            have hw113_0 := hx113_0
                            cases e113
                            replace hx113_0 := (HB.out.cell (World.block_lt_of_cell? w _ hx113_0)).trans hx113_0
                            replace hx113_1 := (HB.out.cell (World.block_lt_of_cell? w _ hx113_1)).trans hx113_1
                            replace p113 := eq_true p113
                            replace q113 := eq_true q113
                            refine start_ (n := 13) (S := fun w' => w'.cell? ⟨gb101, 0, none⟩ = some (.slice (some ad112) l0_0.length c0_0) ∧ w'.cell? (ad111.add (x7_2).toNat) = some (.int .i64 (rd x6_3 x7_2)) ∧ w'.cell? (ad112.add ((rd x6_3 x7_2)).toNat) = some (.slice (some ad113) (rd_LFace l0_0 (rd x6_3 x7_2)).length c112_0) ∧ w'.cell? (ad113.add ((x8_3).toNat * 2)) = some (.int .i64 ((rd_Face (rd_LFace l0_0 (rd x6_3 x7_2)) x8_3).f0)) ∧ w'.cell? ⟨(ad113.add ((x8_3).toNat * 2)).block, (ad113.add ((x8_3).toNat * 2)).off + 1, none⟩ = some (.int .i64 ((rd_Face (rd_LFace l0_0 (rd x6_3 x7_2)) x8_3).f1))) (ds := []) #[false, false, false, false, false, false, false, false, false, false, false, false, false] (by kernel_rfl) rfl rfl ⟨(blk_cell BK101.out 0).trans rfl, hx111_0, ((HB.out.cell (World.block_lt_of_cell? w _ hw112_0)).trans hw112_0), ((HB.out.cell (World.block_lt_of_cell? w _ hw113_0)).trans hw113_0), ((HB.out.cell (World.block_lt_of_cell? w _ hw113_1)).trans hw113_1)⟩ (fun hHeld => ?_); refine with_tabW spec_l10Signs.tab14 spec_l10Signs.bits14 (fun HT_ HW_ => ?_)
                            generalize wr.drew = w62 at HO_4 HO_6 BK101 HB HR112_0 hx111_0 hx112_0 hx113_0 hx113_1 hHeld ⊢
                            refine pure_ (i := 0) (N := some 41) (v := ?_) (a' := ?_) #[true, false, false, false, false, false, false, false, false, false, false, false, false] rfl rfl (any_of HT_.out (by kernel_rfl)) (fun _ _ _ h => h) (Or.inl ⟨by rfl, ?_⟩) ?_ ?_
                            rotate_left
                            next =>
                             intro w'
                             go_simp
                             with_reducible rfl
                            rotate_left
                            next =>
                             simp only [Act.put, List.setIfInBounds_toArray, List.set_cons_zero, List.set_cons_succ, i64_w, i32_w]
                             rfl
                            refine pure_ (i := 2) (N := some 43) (v := ?_) (a' := ?_) #[true, false, true, false, false, false, false, false, false, false, false, false, false] rfl rfl (any_of HT_.out (by kernel_rfl)) (fun _ _ _ h => h) (Or.inl ⟨by rfl, ?_⟩) ?_ ?_
                            rotate_left
                            next =>
                             intro w'
                             go_simp
                             with_reducible rfl
                            rotate_left
                            next =>
                             simp only [Act.put, List.setIfInBounds_toArray, List.set_cons_zero, List.set_cons_succ, i64_w, i32_w]
                             rfl
                            refine pure_ (i := 3) (N := some 44) (v := ?_) (a' := ?_) #[true, false, true, true, false, false, false, false, false, false, false, false, false] rfl rfl (any_of HT_.out (by kernel_rfl)) (fun _ _ _ h => h) (Or.inl ⟨by rfl, ?_⟩) ?_ ?_
                            rotate_left
                            next =>
                             intro w'
                             go_simp
                             with_reducible rfl
                            rotate_left
                            next =>
                             simp only [Act.put, List.setIfInBounds_toArray, List.set_cons_zero, List.set_cons_succ, i64_w, i32_w]
                             rfl
                            refine pure_ (i := 4) (N := some 45) (v := ?_) (a' := ?_) #[true, false, true, true, true, false, false, false, false, false, false, false, false] rfl rfl (any_of HT_.out (by kernel_rfl)) (fun _ _ _ h => h) (Or.inl ⟨by rfl, ?_⟩) ?_ ?_
                            rotate_left
                            next =>
                             intro w'
                             go_simp
                             with_reducible rfl
                            rotate_left
                            next =>
                             simp only [Act.put, List.setIfInBounds_toArray, List.set_cons_zero, List.set_cons_succ, i64_w, i32_w]
                             rfl
                            refine pure_ (i := 8) (N := some 49) (v := ?_) (a' := ?_) #[true, false, true, true, true, false, false, false, true, false, false, false, false] rfl rfl (any_of HT_.out (by kernel_rfl)) (fun _ _ _ h => h) (Or.inl ⟨by rfl, ?_⟩) ?_ ?_
                            rotate_left
                            next =>
                             intro w'
                             go_simp
                             with_reducible rfl
                            rotate_left
                            next =>
                             simp only [Act.put, List.setIfInBounds_toArray, List.set_cons_zero, List.set_cons_succ, i64_w, i32_w]
                             rfl
                            refine take_ (i := 1) (N := some 42) (v := ?_) (a' := ?_) #[true, true, true, true, true, false, false, false, true, false, false, false, false] rfl rfl (take_ofW HT_.out HW_.out (by kernel_rfl)) (fun _ _ _ h => h) (Or.inl ⟨by rfl, ?_⟩) hHeld ?_ ?_
                            rotate_left
                            next =>
                             rintro w' ⟨s0, s1, s2, s3, s4⟩
                             go_simp
                             with_reducible rfl
                            rotate_left
                            next =>
                             simp only [Act.put, List.setIfInBounds_toArray, List.set_cons_zero, List.set_cons_succ, i64_w, i32_w]
                             rfl
                            refine take_ (i := 5) (N := some 46) (v := ?_) (a' := ?_) #[true, true, true, true, true, true, false, false, true, false, false, false, false] rfl rfl (take_ofW HT_.out HW_.out (by kernel_rfl)) (fun _ _ _ h => h) (Or.inl ⟨by rfl, ?_⟩) hHeld ?_ ?_
                            rotate_left
                            next =>
                             rintro w' ⟨s0, s1, s2, s3, s4⟩
                             go_simp
                             with_reducible rfl
                            rotate_left
                            next =>
                             simp only [Act.put, List.setIfInBounds_toArray, List.set_cons_zero, List.set_cons_succ, i64_w, i32_w]
                             rfl
                            refine pure_ (i := 6) (N := some 47) (v := ?_) (a' := ?_) #[true, true, true, true, true, true, true, false, true, false, false, false, false] rfl rfl (any_of HT_.out (by kernel_rfl)) (fun _ _ _ h => h) (Or.inl ⟨by rfl, ?_⟩) ?_ ?_
                            rotate_left
                            next =>
                             intro w'
                             go_simp
                             with_reducible rfl
                            rotate_left
                            next =>
                             simp only [Act.put, List.setIfInBounds_toArray, List.set_cons_zero, List.set_cons_succ, i64_w, i32_w]
                             rfl
                            refine take_ (i := 7) (N := some 48) (v := ?_) (a' := ?_) #[true, true, true, true, true, true, true, true, true, false, false, false, false] rfl rfl (take_ofW HT_.out HW_.out (by kernel_rfl)) (fun _ _ _ h => h) (Or.inl ⟨by rfl, ?_⟩) hHeld ?_ ?_
                            rotate_left
                            next =>
                             rintro w' ⟨s0, s1, s2, s3, s4⟩
                             go_simp
                             with_reducible rfl
                            rotate_left
                            next =>
                             simp only [Act.put, List.setIfInBounds_toArray, List.set_cons_zero, List.set_cons_succ, i64_w, i32_w]
                             rfl
                            refine pure_ (i := 9) (N := some 50) (v := ?_) (a' := ?_) #[true, true, true, true, true, true, true, true, true, true, false, false, false] rfl rfl (any_of HT_.out (by kernel_rfl)) (fun _ _ _ h => h) (Or.inl ⟨by rfl, ?_⟩) ?_ ?_
                            rotate_left
                            next =>
                             intro w'
                             go_simp
                             with_reducible rfl
                            rotate_left
                            next =>
                             simp only [Act.put, List.setIfInBounds_toArray, List.set_cons_zero, List.set_cons_succ, i64_w, i32_w]
                             rfl
                            refine take_ (i := 10) (N := some 51) (v := ?_) (a' := ?_) #[true, true, true, true, true, true, true, true, true, true, true, false, false] rfl rfl (take_ofW HT_.out HW_.out (by kernel_rfl)) (fun _ _ _ h => h) (Or.inl ⟨by rfl, ?_⟩) hHeld ?_ ?_
                            rotate_left
                            next =>
                             rintro w' ⟨s0, s1, s2, s3, s4⟩
                             go_simp
                             with_reducible rfl
                            rotate_left
                            next =>
                             simp only [Act.put, List.setIfInBounds_toArray, List.set_cons_zero, List.set_cons_succ, i64_w, i32_w]
                             rfl
                            refine one_ (i := 11) (N := some 9) #[true, true, true, true, true, true, true, true, true, true, true, true, false] rfl rfl (one_of HT_.out (by kernel_rfl)) (by decide) (fun K hK => ?_)
                            refine box_step ?hg (N := 9) ?hd (cs := #[.int .i64 0, .int .i64 0]) (t := 66) ?hr ?_; (case hd => rfl); (case hg => rfl); (case hr => first | (go_simp; done) | (go_simp; rfl))
                            intro gb114 hg w64 hbox hb
                            have HS1_ := (hb.cell (World.block_lt_of_cell? _ _ (hHeld.2.1))).trans (hHeld.2.1)
                            have n0_ := Aside0.mk (Kd.R_below (by (with_reducible repeat (first | apply Kd.R_alloc | apply Kd.R_drewN | apply Kd.R_drew)); exact HO_4.out) hb)
                            have n1_ := Aside0.mk (Kd.R_below (by (with_reducible repeat (first | apply Kd.R_alloc | apply Kd.R_drewN | apply Kd.R_drew)); exact HO_6.out) hb)
                            have n2_ := Aside0.mk (blk_below (g := gb101) (o := .cells #[.slice (some ad112) l0_0.length c0_0] 29 (0, 0)) (by (with_reducible repeat (first | refine blk_drewN ?_ _ | refine blk_drew ?_ | refine blk_alloc ?_ _)); exact BK101.out) hb)
                            have n3_ := Aside0.mk (below_step (by repeat (first | (with_reducible first | exact HB.out | apply below_alloc | apply pw_below_drewN | apply below_drew1 | refine below_set ?_ GE101.out) | exact HB.out)) hb)
                            have n4_ := Aside0.mk (hbox)
                            have n5_ := Aside0.mk ((by rw [hg]; exact (below_size (by repeat (first | (with_reducible first | exact HB.out | apply below_alloc | apply pw_below_drewN | apply below_drew1 | refine below_set ?_ GE101.out) | exact HB.out))) : w.heap.size ≤ gb114))
                            have n6_ := Aside0.mk ((by rw [hg]; exact (below_size (by repeat (first | (with_reducible first | exact HB.out | apply below_alloc | apply pw_below_drewN | apply below_drew1 | refine below_set ?_ GE101.out) | exact HB.out))) : w.heap.size ≤ gb114))
                            have n7_ := Aside0.mk ((by rw [hg]; exact Nat.ne_of_lt (blk_lt (g := gb101) (o := .cells #[.slice (some ad112) l0_0.length c0_0] 29 (0, 0)) (by (with_reducible repeat (first | refine blk_drewN ?_ _ | refine blk_drew ?_ | refine blk_alloc ?_ _)); exact BK101.out)) : gb101 ≠ gb114))
                            have n8_ := Aside0.mk ((by rw [hg]; exact Nat.ne_of_gt (blk_lt (g := gb101) (o := .cells #[.slice (some ad112) l0_0.length c0_0] 29 (0, 0)) (by (with_reducible repeat (first | refine blk_drewN ?_ _ | refine blk_drew ?_ | refine blk_alloc ?_ _)); exact BK101.out)) : gb114 ≠ gb101))
                            clear HO_4
                            clear HO_6
                            clear BK101
                            clear HB
                            have HO_4 := n0_
                            have HO_6 := n1_
                            have BK101 := n2_
                            have HB := n3_
                            have BK114 := n4_
                            have GW114 := n5_
                            have GE114 := n6_
                            have NB101_114 := n7_
                            have NB114_101 := n8_
                            clear n0_ n1_ n2_ n3_ n4_ n5_ n6_ n7_ n8_
                            clear hb hbox hg
                            refine hK.out _ _ ⟨(blk_cell BK101.out 0).trans rfl, HS1_, ((HB.out.cell (World.block_lt_of_cell? w _ hw112_0)).trans hw112_0), ((HB.out.cell (World.block_lt_of_cell? w _ hw113_0)).trans hw113_0), ((HB.out.cell (World.block_lt_of_cell? w _ hw113_1)).trans hw113_1)⟩ (fun hHeld => ?_)
                            clear hK K
                            refine norm_ (a' := ?_) ?_ ?_
                            rotate_left
                            next =>
                             show Act.put _ (some 9) _ = _
                             simp only [Act.put, List.setIfInBounds_toArray, List.set_cons_zero, List.set_cons_succ, i64_w, i32_w]
                             rfl
                            refine one_ (i := 12) (N := none) #[true, true, true, true, true, true, true, true, true, true, true, true, true] rfl rfl (one_of HT_.out (by kernel_rfl)) (by decide) (fun K hK => ?_)
                            have hs65 : w64.cell? ⟨gb114, 0, none⟩ = some (.int .i64 0) := (blk_cell BK114.out 0).trans rfl
                            have hfs65 := blk_frozen BK114.out 0
                            have hns65_0 := NB101_114.out
                            have hms65_0 := NB114_101.out
                            have hs66 : w64.cell? ⟨gb114, 1, none⟩ = some (.int .i64 0) := (blk_cell BK114.out 1).trans rfl
                            have hfs66 := blk_frozen BK114.out 1
                            have hns66_0 := NB101_114.out
                            have hms66_0 := NB114_101.out
                            refine skip_ (w1 := ?_) (by rfl) rfl ?_ ?_
                            rotate_left
                            next =>
                             go_simp
                             rfl
                            refine hK.out _ _ ⟨((cell_far (p := ⟨gb114, _, none⟩) NB101_114.out _).trans (((cell_far (p := ⟨gb114, _, none⟩) NB101_114.out _).trans (hHeld.1)))), ((cell_far (p := ⟨gb114, _, none⟩) (by first | exact Kd.own_blk (Kd.R_ne HO_6.out BK114.out (by decide)) | (rw [add_block]; exact Kd.own_blk (Kd.R_ne HO_6.out BK114.out (by decide))) | (show (Addr.add _ _).block ≠ _; rw [add_block]; exact Kd.own_blk (Kd.R_ne HO_6.out BK114.out (by decide))) | (dsimp only; exact Kd.own_blk (Kd.R_ne HO_6.out BK114.out (by decide)))) _).trans (((cell_far (p := ⟨gb114, _, none⟩) (by first | exact Kd.own_blk (Kd.R_ne HO_6.out BK114.out (by decide)) | (rw [add_block]; exact Kd.own_blk (Kd.R_ne HO_6.out BK114.out (by decide))) | (show (Addr.add _ _).block ≠ _; rw [add_block]; exact Kd.own_blk (Kd.R_ne HO_6.out BK114.out (by decide))) | (dsimp only; exact Kd.own_blk (Kd.R_ne HO_6.out BK114.out (by decide)))) _).trans (hHeld.2.1)))), ((cell_far (p := ⟨gb114, _, none⟩) (by first | exact Nat.ne_of_lt (Nat.lt_of_lt_of_le (by have := World.block_lt_of_cell? _ _ hw112_0; first | rwa [add_block] at this | exact this) GW114.out) | (rw [add_block]; exact Nat.ne_of_lt (Nat.lt_of_lt_of_le (by have := World.block_lt_of_cell? _ _ hw112_0; first | rwa [add_block] at this | exact this) GW114.out)) | (show (Addr.add _ _).block ≠ _; rw [add_block]; exact Nat.ne_of_lt (Nat.lt_of_lt_of_le (by have := World.block_lt_of_cell? _ _ hw112_0; first | rwa [add_block] at this | exact this) GW114.out)) | (dsimp only; exact Nat.ne_of_lt (Nat.lt_of_lt_of_le (by have := World.block_lt_of_cell? _ _ hw112_0; first | rwa [add_block] at this | exact this) GW114.out))) _).trans (((cell_far (p := ⟨gb114, _, none⟩) (by first | exact Nat.ne_of_lt (Nat.lt_of_lt_of_le (by have := World.block_lt_of_cell? _ _ hw112_0; first | rwa [add_block] at this | exact this) GW114.out) | (rw [add_block]; exact Nat.ne_of_lt (Nat.lt_of_lt_of_le (by have := World.block_lt_of_cell? _ _ hw112_0; first | rwa [add_block] at this | exact this) GW114.out)) | (show (Addr.add _ _).block ≠ _; rw [add_block]; exact Nat.ne_of_lt (Nat.lt_of_lt_of_le (by have := World.block_lt_of_cell? _ _ hw112_0; first | rwa [add_block] at this | exact this) GW114.out)) | (dsimp only; exact Nat.ne_of_lt (Nat.lt_of_lt_of_le (by have := World.block_lt_of_cell? _ _ hw112_0; first | rwa [add_block] at this | exact this) GW114.out))) _).trans (hHeld.2.2.1)))), ((cell_far (p := ⟨gb114, _, none⟩) (by first | exact Nat.ne_of_lt (Nat.lt_of_lt_of_le (by have := World.block_lt_of_cell? _ _ hw113_0; first | rwa [add_block] at this | exact this) GW114.out) | (rw [add_block]; exact Nat.ne_of_lt (Nat.lt_of_lt_of_le (by have := World.block_lt_of_cell? _ _ hw113_0; first | rwa [add_block] at this | exact this) GW114.out)) | (show (Addr.add _ _).block ≠ _; rw [add_block]; exact Nat.ne_of_lt (Nat.lt_of_lt_of_le (by have := World.block_lt_of_cell? _ _ hw113_0; first | rwa [add_block] at this | exact this) GW114.out)) | (dsimp only; exact Nat.ne_of_lt (Nat.lt_of_lt_of_le (by have := World.block_lt_of_cell? _ _ hw113_0; first | rwa [add_block] at this | exact this) GW114.out))) _).trans (((cell_far (p := ⟨gb114, _, none⟩) (by first | exact Nat.ne_of_lt (Nat.lt_of_lt_of_le (by have := World.block_lt_of_cell? _ _ hw113_0; first | rwa [add_block] at this | exact this) GW114.out) | (rw [add_block]; exact Nat.ne_of_lt (Nat.lt_of_lt_of_le (by have := World.block_lt_of_cell? _ _ hw113_0; first | rwa [add_block] at this | exact this) GW114.out)) | (show (Addr.add _ _).block ≠ _; rw [add_block]; exact Nat.ne_of_lt (Nat.lt_of_lt_of_le (by have := World.block_lt_of_cell? _ _ hw113_0; first | rwa [add_block] at this | exact this) GW114.out)) | (dsimp only; exact Nat.ne_of_lt (Nat.lt_of_lt_of_le (by have := World.block_lt_of_cell? _ _ hw113_0; first | rwa [add_block] at this | exact this) GW114.out))) _).trans (hHeld.2.2.2.1)))), ((cell_far (p := ⟨gb114, _, none⟩) (by first | exact Nat.ne_of_lt (Nat.lt_of_lt_of_le (by have := World.block_lt_of_cell? _ _ hw113_1; first | rwa [add_block] at this | exact this) GW114.out) | (rw [add_block]; exact Nat.ne_of_lt (Nat.lt_of_lt_of_le (by have := World.block_lt_of_cell? _ _ hw113_1; first | rwa [add_block] at this | exact this) GW114.out)) | (show (Addr.add _ _).block ≠ _; rw [add_block]; exact Nat.ne_of_lt (Nat.lt_of_lt_of_le (by have := World.block_lt_of_cell? _ _ hw113_1; first | rwa [add_block] at this | exact this) GW114.out)) | (dsimp only; exact Nat.ne_of_lt (Nat.lt_of_lt_of_le (by have := World.block_lt_of_cell? _ _ hw113_1; first | rwa [add_block] at this | exact this) GW114.out))) _).trans (((cell_far (p := ⟨gb114, _, none⟩) (by first | exact Nat.ne_of_lt (Nat.lt_of_lt_of_le (by have := World.block_lt_of_cell? _ _ hw113_1; first | rwa [add_block] at this | exact this) GW114.out) | (rw [add_block]; exact Nat.ne_of_lt (Nat.lt_of_lt_of_le (by have := World.block_lt_of_cell? _ _ hw113_1; first | rwa [add_block] at this | exact this) GW114.out)) | (show (Addr.add _ _).block ≠ _; rw [add_block]; exact Nat.ne_of_lt (Nat.lt_of_lt_of_le (by have := World.block_lt_of_cell? _ _ hw113_1; first | rwa [add_block] at this | exact this) GW114.out)) | (dsimp only; exact Nat.ne_of_lt (Nat.lt_of_lt_of_le (by have := World.block_lt_of_cell? _ _ hw113_1; first | rwa [add_block] at this | exact this) GW114.out))) _).trans (hHeld.2.2.2.2))))⟩ (fun hHeld => ?_)
                            clear hK K
                            refine done_ (done_of HT_.out (by kernel_rfl)) ?_
                            have hnb67 := NB114_101.out
                            have hnc67 := NB101_114.out
                            have hcz68_0 : w64.cell? ⟨gb114, 0, none⟩ = some (.int .i64 0) := (blk_cell BK114.out 0).trans rfl
                            have hcz68_1 : w64.cell? ⟨gb114, 1, none⟩ = some (.int .i64 0) := (blk_cell BK114.out 1).trans rfl
                            have hfz68_0 := blk_frozen BK114.out 0
                            have hfz68_1 := blk_frozen BK114.out 1
                            try go_wp2
                            have n0_ : Aside0 (Kd.R (Kd.int .i64) 2 ((w64.setCell ⟨gb114, 0, none⟩ (.int .i64 ((rd_Face (rd_LFace l0_0 (rd x6_3 x7_2)) x8_3).f0))).setCell ⟨gb114, 1, none⟩ (.int .i64 ((rd_Face (rd_LFace l0_0 (rd x6_3 x7_2)) x8_3).f1))) w.heap.size (fun k_ => some k_ ≠ (.slice (some ad111) x6_3.length co63 : Value).ownBlock) (.slice (some ⟨go13, 0, none⟩) x4_3.length co16) x4_3) := ⟨by (with_reducible repeat (first | apply Kd.R_alloc | apply Kd.R_drewN | apply Kd.R_drew)); exact Kd.R_mono (Kd.R_far (p := ⟨gb114, 1, none⟩) (Kd.R_far (p := ⟨gb114, 0, none⟩) (Kd.R_types HO_4.out BK114.out (by decide)) (fun _ hk => hk.2) (.int .i64 ((rd_Face (rd_LFace l0_0 (rd x6_3 x7_2)) x8_3).f0))) (fun _ hk => hk.2) (.int .i64 ((rd_Face (rd_LFace l0_0 (rd x6_3 x7_2)) x8_3).f1))) (fun _ hk => hk.1)⟩
                            have n1_ : Aside0 (Kd.R (Kd.int .i64) 2 ((w64.setCell ⟨gb114, 0, none⟩ (.int .i64 ((rd_Face (rd_LFace l0_0 (rd x6_3 x7_2)) x8_3).f0))).setCell ⟨gb114, 1, none⟩ (.int .i64 ((rd_Face (rd_LFace l0_0 (rd x6_3 x7_2)) x8_3).f1))) w.heap.size (fun k_ => some k_ ≠ (.slice (some ⟨go13, 0, none⟩) x4_3.length co16 : Value).ownBlock) (.slice (some ad111) x6_3.length co63) x6_3) := ⟨by (with_reducible repeat (first | apply Kd.R_alloc | apply Kd.R_drewN | apply Kd.R_drew)); exact Kd.R_mono (Kd.R_far (p := ⟨gb114, 1, none⟩) (Kd.R_far (p := ⟨gb114, 0, none⟩) (Kd.R_types HO_6.out BK114.out (by decide)) (fun _ hk => hk.2) (.int .i64 ((rd_Face (rd_LFace l0_0 (rd x6_3 x7_2)) x8_3).f0))) (fun _ hk => hk.2) (.int .i64 ((rd_Face (rd_LFace l0_0 (rd x6_3 x7_2)) x8_3).f1))) (fun _ hk => hk.1)⟩
                            have n2_ : Aside0 (((w64.setCell ⟨gb114, 0, none⟩ (.int .i64 ((rd_Face (rd_LFace l0_0 (rd x6_3 x7_2)) x8_3).f0))).setCell ⟨gb114, 1, none⟩ (.int .i64 ((rd_Face (rd_LFace l0_0 (rd x6_3 x7_2)) x8_3).f1))).heap[gb101]? = some (.cells #[.slice (some ad112) l0_0.length c0_0] 29 (0, 0))) := ⟨by (with_reducible repeat (first | refine blk_drewN ?_ _ | refine blk_drew ?_ | refine blk_alloc ?_ _)); refine blk_far ?_ NB101_114.out _; (with_reducible repeat (first | refine blk_drewN ?_ _ | refine blk_drew ?_ | refine blk_alloc ?_ _)); refine blk_far ?_ NB101_114.out _; (with_reducible repeat (first | refine blk_drewN ?_ _ | refine blk_drew ?_ | refine blk_alloc ?_ _)); exact BK101.out⟩
                            have n3_ : Aside0 (((w64.setCell ⟨gb114, 0, none⟩ (.int .i64 ((rd_Face (rd_LFace l0_0 (rd x6_3 x7_2)) x8_3).f0))).setCell ⟨gb114, 1, none⟩ (.int .i64 ((rd_Face (rd_LFace l0_0 (rd x6_3 x7_2)) x8_3).f1))).heap[gb114]? = some (.cells #[.int .i64 ((rd_Face (rd_LFace l0_0 (rd x6_3 x7_2)) x8_3).f0), .int .i64 ((rd_Face (rd_LFace l0_0 (rd x6_3 x7_2)) x8_3).f1)] 66 (0, 0))) := ⟨by (with_reducible repeat (first | refine blk_drewN ?_ _ | refine blk_drew ?_ | refine blk_alloc ?_ _)); refine blk_put (cs := #[.int .i64 ((rd_Face (rd_LFace l0_0 (rd x6_3 x7_2)) x8_3).f0), .int .i64 0]) ?_ 1 _ rfl; (with_reducible repeat (first | refine blk_drewN ?_ _ | refine blk_drew ?_ | refine blk_alloc ?_ _)); refine blk_put (cs := #[.int .i64 0, .int .i64 0]) ?_ 0 _ rfl; (with_reducible repeat (first | refine blk_drewN ?_ _ | refine blk_drew ?_ | refine blk_alloc ?_ _)); exact BK114.out⟩
                            have n4_ : Aside0 (Below w.heap.size w ((w64.setCell ⟨gb114, 0, none⟩ (.int .i64 ((rd_Face (rd_LFace l0_0 (rd x6_3 x7_2)) x8_3).f0))).setCell ⟨gb114, 1, none⟩ (.int .i64 ((rd_Face (rd_LFace l0_0 (rd x6_3 x7_2)) x8_3).f1)))) := ⟨by repeat (first | (with_reducible first | exact HB.out | apply below_alloc | apply pw_below_drewN | apply below_drew1 | refine below_set ?_ GE101.out | refine below_set ?_ GE114.out) | exact HB.out)⟩
                            (try clear HO_4)
                            (try clear HO_6)
                            (try clear BK101)
                            (try clear BK114)
                            (try clear HB)
                            generalize ((w64.setCell ⟨gb114, 0, none⟩ (.int .i64 ((rd_Face (rd_LFace l0_0 (rd x6_3 x7_2)) x8_3).f0))).setCell ⟨gb114, 1, none⟩ (.int .i64 ((rd_Face (rd_LFace l0_0 (rd x6_3 x7_2)) x8_3).f1))) = w69 at n0_ n1_ n2_ n3_ n4_ ⊢
                            have HO_4 := n0_
                            have HO_6 := n1_
                            have BK101 := n2_
                            have BK114 := n3_
                            have HB := n4_
                            clear n0_ n1_ n2_ n3_ n4_
                            have n0_ := Aside0.mk (Kd.R_drew HO_4.out)
                            have n1_ := Aside0.mk (Kd.R_drew HO_6.out)
                            have n2_ := Aside0.mk (blk_drew BK101.out)
                            have n3_ := Aside0.mk (blk_drew BK114.out)
                            have n4_ := Aside0.mk (below_drew1 HB.out)
                            clear HO_4
                            clear HO_6
                            clear BK101
                            clear BK114
                            clear HB
                            have HO_4 := n0_
                            have HO_6 := n1_
                            have BK101 := n2_
                            have BK114 := n3_
                            have HB := n4_
                            clear n0_ n1_ n2_ n3_ n4_
                            have p115 : 0 ≤ (x7_2 : Int) := of_decide_eq_true (by first | (with_reducible assumption) | assumption)
                            have q115 : x7_2 < (x6_3.length : Int) := of_decide_eq_true (by first | (with_reducible assumption) | assumption)
                            obtain ⟨ad115, e115, hx115_0⟩ := Kd.at_int (Kd.R_reads' HO_6.out).2.2 x7_2 p115 q115
                            obtain rfl : ad111 = ad115 := (by injection e115)
                            replace p115 := eq_true p115
                            replace q115 := eq_true q115
                            have p116 : 0 ≤ ((rd x6_3 x7_2) : Int) := of_decide_eq_true (by first | (with_reducible assumption) | assumption)
                            have q116 : (rd x6_3 x7_2) < (x4_3.length : Int) := of_decide_eq_true (by first | (with_reducible assumption) | assumption)
                            obtain ⟨ad116, e116, hx116_0⟩ := Kd.at_int (Kd.R_reads' HO_4.out).2.2 (rd x6_3 x7_2) p116 q116
                            obtain rfl : (⟨go13, 0, none⟩ : Addr) = ad116 := (by injection e116)
                            (first | simp only [add_plain] at hx116_0 | simp only [add_at] at hx116_0 | simp only [Addr.add, Nat.zero_add] at hx116_0 | skip)
                            replace p116 := eq_true p116
                            replace q116 := eq_true q116
                            refine start_ (n := 13) (S := fun w' => w'.cell? ⟨gb114, 0, none⟩ = some (.int .i64 ((rd_Face (rd_LFace l0_0 (rd x6_3 x7_2)) x8_3).f0)) ∧ w'.cell? ⟨gb114, 1, none⟩ = some (.int .i64 ((rd_Face (rd_LFace l0_0 (rd x6_3 x7_2)) x8_3).f1)) ∧ w'.cell? (ad111.add (x7_2).toNat) = some (.int .i64 (rd x6_3 x7_2)) ∧ w'.cell? ⟨go13, ((rd x6_3 x7_2)).toNat, none⟩ = some (.int .i64 (rd x4_3 (rd x6_3 x7_2)))) (ds := []) #[false, false, false, false, false, false, false, false, false, false, false, false, false] (by kernel_rfl) rfl rfl ⟨(blk_cell BK114.out 0).trans rfl, (blk_cell BK114.out 1).trans rfl, hx115_0, hx116_0⟩ (fun hHeld => ?_); refine with_tabW spec_l10Signs.tab16 spec_l10Signs.bits16 (fun HT_ HW_ => ?_)
                            generalize w69.drew = w70 at HO_4 HO_6 BK101 BK114 HB hx115_0 hx116_0 hHeld ⊢
                            refine pure_ (i := 0) (N := some 55) (v := ?_) (a' := ?_) #[true, false, false, false, false, false, false, false, false, false, false, false, false] rfl rfl (any_of HT_.out (by kernel_rfl)) (fun _ _ _ h => h) (Or.inl ⟨by rfl, ?_⟩) ?_ ?_
                            rotate_left
                            next =>
                             intro w'
                             go_simp
                             with_reducible rfl
                            rotate_left
                            next =>
                             simp only [Act.put, List.setIfInBounds_toArray, List.set_cons_zero, List.set_cons_succ, i64_w, i32_w]
                             rfl
                            refine pure_ (i := 1) (N := some 56) (v := ?_) (a' := ?_) #[true, true, false, false, false, false, false, false, false, false, false, false, false] rfl rfl (any_of HT_.out (by kernel_rfl)) (fun _ _ _ h => h) (Or.inl ⟨by rfl, ?_⟩) ?_ ?_
                            rotate_left
                            next =>
                             intro w'
                             go_simp
                             with_reducible rfl
                            rotate_left
                            next =>
                             simp only [Act.put, List.setIfInBounds_toArray, List.set_cons_zero, List.set_cons_succ, i64_w, i32_w]
                             rfl
                            refine pure_ (i := 2) (N := some 57) (v := ?_) (a' := ?_) #[true, true, true, false, false, false, false, false, false, false, false, false, false] rfl rfl (any_of HT_.out (by kernel_rfl)) (fun _ _ _ h => h) (Or.inl ⟨by rfl, ?_⟩) ?_ ?_
                            rotate_left
                            next =>
                             intro w'
                             go_simp
                             with_reducible rfl
                            rotate_left
                            next =>
                             simp only [Act.put, List.setIfInBounds_toArray, List.set_cons_zero, List.set_cons_succ, i64_w, i32_w]
                             rfl
                            refine pure_ (i := 3) (N := some 58) (v := ?_) (a' := ?_) #[true, true, true, true, false, false, false, false, false, false, false, false, false] rfl rfl (any_of HT_.out (by kernel_rfl)) (fun _ _ _ h => h) (Or.inl ⟨by rfl, ?_⟩) ?_ ?_
                            rotate_left
                            next =>
                             intro w'
                             go_simp
                             with_reducible rfl
                            rotate_left
                            next =>
                             simp only [Act.put, List.setIfInBounds_toArray, List.set_cons_zero, List.set_cons_succ, i64_w, i32_w]
                             rfl
                            refine pure_ (i := 8) (N := some 63) (v := ?_) (a' := ?_) #[true, true, true, true, false, false, false, false, true, false, false, false, false] rfl rfl (any_of HT_.out (by kernel_rfl)) (fun _ _ _ h => h) (Or.inl ⟨by rfl, ?_⟩) ?_ ?_
                            rotate_left
                            next =>
                             intro w'
                             go_simp
                             with_reducible rfl
                            rotate_left
                            next =>
                             simp only [Act.put, List.setIfInBounds_toArray, List.set_cons_zero, List.set_cons_succ, i64_w, i32_w]
                             rfl
                            refine take_ (i := 4) (N := some 59) (v := ?_) (a' := ?_) #[true, true, true, true, true, false, false, false, true, false, false, false, false] rfl rfl (take_ofW HT_.out HW_.out (by kernel_rfl)) (fun _ _ _ h => h) (Or.inl ⟨by rfl, ?_⟩) hHeld ?_ ?_
                            rotate_left
                            next =>
                             rintro w' ⟨s0, s1, s2, s3⟩
                             go_simp
                             with_reducible rfl
                            rotate_left
                            next =>
                             simp only [Act.put, List.setIfInBounds_toArray, List.set_cons_zero, List.set_cons_succ, i64_w, i32_w]
                             rfl
                            refine pure_ (i := 5) (N := some 60) (v := ?_) (a' := ?_) #[true, true, true, true, true, true, false, false, true, false, false, false, false] rfl rfl (any_of HT_.out (by kernel_rfl)) (fun _ _ _ h => h) (Or.inl ⟨by rfl, ?_⟩) ?_ ?_
                            rotate_left
                            next =>
                             intro w'
                             go_simp
                             with_reducible rfl
                            rotate_left
                            next =>
                             simp only [Act.put, List.setIfInBounds_toArray, List.set_cons_zero, List.set_cons_succ, i64_w, i32_w]
                             rfl
                            refine take_ (i := 6) (N := some 61) (v := ?_) (a' := ?_) #[true, true, true, true, true, true, true, false, true, false, false, false, false] rfl rfl (take_ofW HT_.out HW_.out (by kernel_rfl)) (fun _ _ _ h => h) (Or.inl ⟨by rfl, ?_⟩) hHeld ?_ ?_
                            rotate_left
                            next =>
                             rintro w' ⟨s0, s1, s2, s3⟩
                             go_simp
                             with_reducible rfl
                            rotate_left
                            next =>
                             simp only [Act.put, List.setIfInBounds_toArray, List.set_cons_zero, List.set_cons_succ, i64_w, i32_w]
                             rfl
                            refine pure_ (i := 7) (N := some 62) (v := ?_) (a' := ?_) #[true, true, true, true, true, true, true, true, true, false, false, false, false] rfl rfl (any_of HT_.out (by kernel_rfl)) (fun _ _ _ h => h) (Or.inl ⟨by rfl, ?_⟩) ?_ ?_
                            rotate_left
                            next =>
                             intro w'
                             go_simp
                             with_reducible rfl
                            rotate_left
                            next =>
                             simp only [Act.put, List.setIfInBounds_toArray, List.set_cons_zero, List.set_cons_succ, i64_w, i32_w]
                             rfl
                            refine take_ (i := 9) (N := some 64) (v := ?_) (a' := ?_) #[true, true, true, true, true, true, true, true, true, true, false, false, false] rfl rfl (take_ofW HT_.out HW_.out (by kernel_rfl)) (fun _ _ _ h => h) (Or.inl ⟨by rfl, ?_⟩) hHeld ?_ ?_
                            rotate_left
                            next =>
                             rintro w' ⟨s0, s1, s2, s3⟩
                             go_simp
                             with_reducible rfl
                            rotate_left
                            next =>
                             simp only [Act.put, List.setIfInBounds_toArray, List.set_cons_zero, List.set_cons_succ, i64_w, i32_w]
                             rfl
                            refine one_ (i := 10) (N := some 65) #[true, true, true, true, true, true, true, true, true, true, true, false, false] rfl rfl (one_of HT_.out (by kernel_rfl)) (by decide) (fun K hK => ?_)
                            refine goes_ Try.func60 (by kernel_rfl) rfl #[.int .i64 ((rd_Face (rd_LFace l0_0 (rd x6_3 x7_2)) x8_3).f1)] (by rfl) rfl rfl (by (try simp only [List.map_toArray, List.map_cons, List.map_nil]); first | done | rfl | (simp only [List.length_drop, List.length_take]; rfl)) ?_
                            with_reducible refine (spec_SignPerm4.calls k3 ((rd_Face (rd_LFace l0_0 (rd x6_3 x7_2)) x8_3).f1) t117 _ A39.out).mono ?_
                            rintro e w71 ⟨rfl, hb⟩
                            have HS2_ := (hb.cell (World.block_lt_of_cell? _ _ (hHeld.2.2.1))).trans (hHeld.2.2.1)
                            have HS3_ := (hb.cell (World.block_lt_of_cell? _ _ (hHeld.2.2.2))).trans (hHeld.2.2.2)
                            refine ⟨_, rfl, ?_⟩
                            have n0_ := Aside0.mk (Kd.R_below (by (with_reducible repeat (first | apply Kd.R_alloc | apply Kd.R_drewN | apply Kd.R_drew)); exact HO_4.out) hb)
                            have n1_ := Aside0.mk (Kd.R_below (by (with_reducible repeat (first | apply Kd.R_alloc | apply Kd.R_drewN | apply Kd.R_drew)); exact HO_6.out) hb)
                            have n2_ := Aside0.mk (blk_below (g := gb101) (o := .cells #[.slice (some ad112) l0_0.length c0_0] 29 (0, 0)) (by (with_reducible repeat (first | refine blk_drewN ?_ _ | refine blk_drew ?_ | refine blk_alloc ?_ _)); exact BK101.out) hb)
                            have n3_ := Aside0.mk (blk_below (g := gb114) (o := .cells #[.int .i64 ((rd_Face (rd_LFace l0_0 (rd x6_3 x7_2)) x8_3).f0), .int .i64 ((rd_Face (rd_LFace l0_0 (rd x6_3 x7_2)) x8_3).f1)] 66 (0, 0)) (by (with_reducible repeat (first | refine blk_drewN ?_ _ | refine blk_drew ?_ | refine blk_alloc ?_ _)); exact BK114.out) hb)
                            have n4_ := Aside0.mk (below_step (by repeat (first | (with_reducible first | exact HB.out | apply below_alloc | apply pw_below_drewN | apply below_drew1 | refine below_set ?_ GE101.out | refine below_set ?_ GE114.out) | exact HB.out)) hb)
                            clear HO_4
                            clear HO_6
                            clear BK101
                            clear BK114
                            clear HB
                            have HO_4 := n0_
                            have HO_6 := n1_
                            have BK101 := n2_
                            have BK114 := n3_
                            have HB := n4_
                            clear n0_ n1_ n2_ n3_ n4_
                            (try clear hb)
                            (try clear hb2)
                            (try clear hk)
                            (try clear hi)
                            refine hK.out _ _ ⟨(blk_cell BK114.out 0).trans rfl, (blk_cell BK114.out 1).trans rfl, HS2_, HS3_⟩ (fun hHeld => ?_)
                            clear hK K
                            refine norm_ (a' := ?_) ?_ ?_
                            rotate_left
                            next =>
                             show Act.put _ (some 65) _ = _
                             simp only [Act.put, List.setIfInBounds_toArray, List.set_cons_zero, List.set_cons_succ, i64_w, i32_w]
                             rfl
                            refine pure_ (i := 11) (N := some 66) (v := ?_) (a' := ?_) #[true, true, true, true, true, true, true, true, true, true, true, true, false] rfl rfl (any_of HT_.out (by kernel_rfl)) (fun _ _ _ h => h) (Or.inl ⟨by rfl, ?_⟩) ?_ ?_
                            rotate_left
                            next =>
                             intro w'
                             go_simp
                             with_reducible rfl
                            rotate_left
                            next =>
                             simp only [Act.put, List.setIfInBounds_toArray, List.set_cons_zero, List.set_cons_succ, i64_w, i32_w]
                             rfl
                            refine pure_ (i := 12) (N := some 10) (v := ?_) (a' := ?_) #[true, true, true, true, true, true, true, true, true, true, true, true, true] rfl rfl (any_of HT_.out (by kernel_rfl)) (fun _ _ _ h => h) (Or.inl ⟨by rfl, ?_⟩) ?_ ?_
                            rotate_left
                            next =>
                             intro w'
                             go_simp
                             with_reducible rfl
                            rotate_left
                            next =>
                             simp only [Act.put, List.setIfInBounds_toArray, List.set_cons_zero, List.set_cons_succ, i64_w, i32_w]
                             rfl
                            refine done_ (done_of HT_.out (by kernel_rfl)) ?_
                            have hcz72_0 : w71.cell? ⟨gb114, 0, none⟩ = some (.int .i64 ((rd_Face (rd_LFace l0_0 (rd x6_3 x7_2)) x8_3).f0)) := (blk_cell BK114.out 0).trans rfl
                            have hcz72_1 : w71.cell? ⟨gb114, 1, none⟩ = some (.int .i64 ((rd_Face (rd_LFace l0_0 (rd x6_3 x7_2)) x8_3).f1)) := (blk_cell BK114.out 1).trans rfl
                            have hfz72_0 := blk_frozen BK114.out 0
                            have hfz72_1 := blk_frozen BK114.out 1
                            have p118 : 0 ≤ (((rd_Face (rd_LFace l0_0 (rd x6_3 x7_2)) x8_3).f0) : Int) := of_decide_eq_true (by first | (with_reducible assumption) | assumption)
                            have q118 : ((rd_Face (rd_LFace l0_0 (rd x6_3 x7_2)) x8_3).f0) < (x4_3.length : Int) := of_decide_eq_true (by first | (with_reducible assumption) | assumption)
                            obtain ⟨ad118, e118, hx118_0⟩ := Kd.at_int (Kd.R_reads' HO_4.out).2.2 ((rd_Face (rd_LFace l0_0 (rd x6_3 x7_2)) x8_3).f0) p118 q118
                            obtain rfl : (⟨go13, 0, none⟩ : Addr) = ad118 := (by injection e118)
                            (first | simp only [add_plain] at hx118_0 | simp only [add_at] at hx118_0 | simp only [Addr.add, Nat.zero_add] at hx118_0 | skip)
                            replace p118 := eq_true p118
                            replace q118 := eq_true q118
                            have p43 : 0 ≤ (((rd_Face (rd_LFace l0_0 (rd x6_3 x7_2)) x8_3).f0) : Int) := of_decide_eq_true (by first | (with_reducible assumption) | assumption)
                            have q43 : (((rd_Face (rd_LFace l0_0 (rd x6_3 x7_2)) x8_3).f0) : Int) < ((x4_3.length : Int) : Int) := of_decide_eq_true (by first | (with_reducible assumption) | assumption)
                            obtain ⟨hx43_0, hf43_0⟩ := Kd.R_celln 0 HO_4.out (((rd_Face (rd_LFace l0_0 (rd x6_3 x7_2)) x8_3).f0) : Int) p43 q43
                            replace p43 := eq_true p43
                            replace q43 := eq_true q43
                            obtain ⟨hy73_, hz73_⟩ := Kd.R_celln 0 HO_4.out (((rd_Face (rd_LFace l0_0 (rd x6_3 x7_2)) x8_3).f0) : Int) (of_decide_eq_true (by first | (with_reducible assumption) | assumption)) (of_decide_eq_true (by first | (with_reducible assumption) | assumption))
                            have HP73 := Kd.R_putg HO_4.out (((rd_Face (rd_LFace l0_0 (rd x6_3 x7_2)) x8_3).f0) : Int) (wrap64 ((wrap64 (-(rd x4_3 (rd x6_3 x7_2)))) * t117))
                            try go_wp2_with (first | ((with_reducible refine gate_store (t := 2) (p := 77) rfl ?_); refine store_event (t := 2) (p := 77) (v := ?vo_w74) (w1 := (w71.setCell ⟨go13, (((rd_Face (rd_LFace l0_0 (rd x6_3 x7_2)) x8_3).f0) : Int).toNat, none⟩ (.int .i64 (wrap64 ((wrap64 (-(rd x4_3 (rd x6_3 x7_2)))) * t117))))) ?hg ?ho ?hn ?hr ?_; (case ho => rfl); (case hg => rfl); (case hn => rfl); (case hr => first | (go_simp; done) | (go_simp; rfl)); intro w74 hw; have hg : w71.grownBy w74 (some go13) := (by rw [hw]; exact HP73.2); have hp_ : Kd.R (Kd.int .i64) 2 w74 w.heap.size (fun k_ => some k_ ≠ (.slice (some ad111) x6_3.length co63 : Value).ownBlock) (.slice (some ⟨go13, 0, none⟩) x4_3.length co16) y119 := (by rw [hw, Ny119.out]; exact HP73.1); clear HP73; have n0_ := Aside0.mk (hp_); have n1_ := Aside0.mk (Kd.R_after (v := (.slice (some ⟨go13, 0, none⟩) x4_3.length co16)) (v1 := (.slice (some ⟨go13, 0, none⟩) x4_3.length co16)) (ok := (fun _ => True)) (by (with_reducible repeat (first | apply Kd.R_alloc | apply Kd.R_drewN | apply Kd.R_drew)); exact Kd.R_mono HO_6.out (fun _ hk => ⟨trivial, hk⟩)) hg (.inl rfl)); have n2_ := Aside0.mk (blk_grown (g := gb101) (o := .cells #[.slice (some ad112) l0_0.length c0_0] 29 (0, 0)) (by (with_reducible repeat (first | refine blk_drewN ?_ _ | refine blk_drew ?_ | refine blk_alloc ?_ _)); exact BK101.out) hg (Kd.R_ne HO_4.out BK101.out (by decide))); have n3_ := Aside0.mk (blk_grown (g := gb114) (o := .cells #[.int .i64 ((rd_Face (rd_LFace l0_0 (rd x6_3 x7_2)) x8_3).f0), .int .i64 ((rd_Face (rd_LFace l0_0 (rd x6_3 x7_2)) x8_3).f1)] 66 (0, 0)) (by (with_reducible repeat (first | refine blk_drewN ?_ _ | refine blk_drew ?_ | refine blk_alloc ?_ _)); exact BK114.out) hg (Kd.R_ne HO_4.out BK114.out (by decide))); have n4_ := Aside0.mk ((by rw [hw]; exact below_set (HB.out) GB13.out : Below w.heap.size w w74)); clear HO_4; clear HO_6; clear BK101; clear BK114; clear HB; have HO_4 := n0_; have HO_6 := n1_; have BK101 := n2_; have BK114 := n3_; have HB := n4_; clear n0_ n1_ n2_ n3_ n4_; clear hg hw hp_; have hcz75_0 : w74.cell? ⟨gb114, 0, none⟩ = some (.int .i64 ((rd_Face (rd_LFace l0_0 (rd x6_3 x7_2)) x8_3).f0)) := (blk_cell BK114.out 0).trans rfl; have hcz75_1 : w74.cell? ⟨gb114, 1, none⟩ = some (.int .i64 ((rd_Face (rd_LFace l0_0 (rd x6_3 x7_2)) x8_3).f1)) := (blk_cell BK114.out 1).trans rfl; have hfz75_0 := blk_frozen BK114.out 0; have hfz75_1 := blk_frozen BK114.out 1) | ((with_reducible refine gate_builtin (b := .append) (xs := #[.tmp 78, .tmp 81]) rfl ?_); at_builtin; refine Kd.R_append (Kd.int .i64) (w0 := w) w.heap.size rfl (.tmp 78) (.tmp 81) 33 2 (.int .i64 0) 8 rfl Try.underlying33 info2 rfl (by decide) (by omega) (.slice (some ad111) x6_3.length co63) x6_3 ((rd_Face (rd_LFace l0_0 (rd x6_3 x7_2)) x8_3).f0) [.int .i64 ((rd_Face (rd_LFace l0_0 (rd x6_3 x7_2)) x8_3).f0)] (fun k_ => some k_ ≠ (.slice (some ⟨go13, 0, none⟩) x4_3.length co16 : Value).ownBlock) (fun _ => False) rfl rfl ?aP (fun _ hk => hk.elim) ?aF ?aO ?aB ?aS ?aL ?_; (case aP => exact rfl); (case aB => exact (by repeat (first | (with_reducible first | exact HB.out | apply below_alloc | apply pw_below_drewN | apply below_drew1 | refine below_set ?_ GE101.out | refine below_set ?_ GE114.out) | exact HB.out))); (case aF => exact (fun k_ hk => Kd.fresh' (Kd.R_lt (by (with_reducible repeat (first | apply Kd.R_alloc | apply Kd.R_drewN | apply Kd.R_drew)); exact HO_4.out)) k_ hk)); (case aO => exact (by (with_reducible repeat (first | apply Kd.R_alloc | apply Kd.R_drewN | apply Kd.R_drew)); exact Kd.R_mono HO_6.out (fun _ hk => hk.2))); (case aS => exact (below_size (by repeat (first | (with_reducible first | exact HB.out | apply below_alloc | apply pw_below_drewN | apply below_drew1 | refine below_set ?_ GE101.out | refine below_set ?_ GE114.out) | exact HB.out)))); (case aL => have := LMc44.out; omega); intro v121 w76 ho hb hg hat; rw [← Ny120.out] at ho; have n0_ := Aside0.mk (Kd.R_after (ok := (fun _ => True)) (by (with_reducible repeat (first | apply Kd.R_alloc | apply Kd.R_drewN | apply Kd.R_drew)); exact Kd.R_mono HO_4.out (fun _ hk => ⟨trivial, hk⟩)) hg hat); have n1_ := Aside0.mk (blk_grown (g := gb101) (o := .cells #[.slice (some ad112) l0_0.length c0_0] 29 (0, 0)) (by (with_reducible repeat (first | refine blk_drewN ?_ _ | refine blk_drew ?_ | refine blk_alloc ?_ _)); exact BK101.out) hg (Kd.R_ne HO_6.out BK101.out (by decide))); have n2_ := Aside0.mk (blk_grown (g := gb114) (o := .cells #[.int .i64 ((rd_Face (rd_LFace l0_0 (rd x6_3 x7_2)) x8_3).f0), .int .i64 ((rd_Face (rd_LFace l0_0 (rd x6_3 x7_2)) x8_3).f1)] 66 (0, 0)) (by (with_reducible repeat (first | refine blk_drewN ?_ _ | refine blk_drew ?_ | refine blk_alloc ?_ _)); exact BK114.out) hg (Kd.R_ne HO_6.out BK114.out (by decide))); have n3_ := Aside0.mk (hb); have n4_ := Aside0.mk (ho); clear HO_4; clear BK101; clear BK114; clear HB; clear HO_6; have HO_4 := n0_; have BK101 := n1_; have BK114 := n2_; have HB := n3_; have HO122 := n4_; clear n0_ n1_ n2_ n3_ n4_; clear ho hb hg hat; have hcz77_0 : w76.cell? ⟨gb114, 0, none⟩ = some (.int .i64 ((rd_Face (rd_LFace l0_0 (rd x6_3 x7_2)) x8_3).f0)) := (blk_cell BK114.out 0).trans rfl; have hcz77_1 : w76.cell? ⟨gb114, 1, none⟩ = some (.int .i64 ((rd_Face (rd_LFace l0_0 (rd x6_3 x7_2)) x8_3).f1)) := (blk_cell BK114.out 1).trans rfl; have hfz77_0 := blk_frozen BK114.out 0; have hfz77_1 := blk_frozen BK114.out 1; have p123 : 0 ≤ (((rd_Face (rd_LFace l0_0 (rd x6_3 x7_2)) x8_3).f0) : Int) := of_decide_eq_true (by first | (with_reducible assumption) | assumption); have q123 : ((rd_Face (rd_LFace l0_0 (rd x6_3 x7_2)) x8_3).f0) < (y119.length : Int) := (by have h_ : (((rd_Face (rd_LFace l0_0 (rd x6_3 x7_2)) x8_3).f0) : Int) < ((x4_3.length : Int) : Int) := of_decide_eq_true (by first | (with_reducible assumption) | assumption); first | (have e_ := (Kd.R_reads' HO_4.out).1; omega) | simpa only [Ny119.out, List.length_set] using h_); have ql123 : ((((rd_Face (rd_LFace l0_0 (rd x6_3 x7_2)) x8_3).f0) : Int) < ((x4_3.length : Int) : Int)) = True := eq_true (of_decide_eq_true (by first | (with_reducible assumption) | assumption)); obtain ⟨ad123, e123, hx123_0⟩ := Kd.at_int (Kd.R_reads' HO_4.out).2.2 ((rd_Face (rd_LFace l0_0 (rd x6_3 x7_2)) x8_3).f0) p123 q123; obtain rfl : (⟨go13, 0, none⟩ : Addr) = ad123 := (by injection e123); (first | simp only [add_plain] at hx123_0 | simp only [add_at] at hx123_0 | simp only [Addr.add, Nat.zero_add] at hx123_0 | skip); replace p123 := eq_true p123; replace q123 := eq_true q123))
                            go_ret2
                            exact ⟨_, by first | rfl | (simp [errW_none, errW_some] <;> rfl) | (simp [*, errW_none, errW_some] <;> rfl), by first | exact Kd.R_nil _ _ _ _ _ | exact Kd.N_nil _ _ _ _ _ | exact Kd.V_nil _ _ _ _ _ | exact Kd.Q_nil _ _ _ _ _ | exact Kd.S_nil _ _ _ _ _, by repeat (first | (with_reducible first | exact HB.out | apply below_alloc | apply pw_below_drewN | apply below_drew1 | refine below_set ?_ GE101.out | refine below_set ?_ GE114.out) | exact HB.out)⟩
                          next =>
                           rw [if_neg c44] at H
                           exact absurd H (by simp)
                         next =>
                          rw [if_neg c42] at H
                          have c42b0 : ((rd x4_3 ((rd_Face (rd_LFace l0_0 (rd x6_3 x7_2)) x8_3).f0)) == 0) = false := beq_eq_false_iff_ne.mpr c42
                          have c42b1 : ((rd x4_3 ((rd_Face (rd_LFace l0_0 (rd x6_3 x7_2)) x8_3).f0)) != 0) = true := bne_iff_ne.mpr c42
                          by_cases c78 : (rd x4_3 ((rd_Face (rd_LFace l0_0 (rd x6_3 x7_2)) x8_3).f0)) = (wrap64 ((wrap64 (-(rd x4_3 (rd x6_3 x7_2)))) * t117))
                          next =>
                           rw [if_pos c78] at H
                           have c78b0 : ((rd x4_3 ((rd_Face (rd_LFace l0_0 (rd x6_3 x7_2)) x8_3).f0)) == (wrap64 ((wrap64 (-(rd x4_3 (rd x6_3 x7_2)))) * t117))) = true := beq_iff_eq.mpr c78
                           have c78b1 : ((rd x4_3 ((rd_Face (rd_LFace l0_0 (rd x6_3 x7_2)) x8_3).f0)) != (wrap64 ((wrap64 (-(rd x4_3 (rd x6_3 x7_2)))) * t117))) = false := bne_eq_false_iff_eq.mpr c78
                           clear c78
                           have H' := Aside0.mk H
                           clear H
                           try go_wp2
                           have n0_ := Aside0.mk (Kd.R_drew HO_4.out)
                           have n1_ := Aside0.mk (Kd.R_drew HO_6.out)
                           have n2_ := Aside0.mk (blk_drew BK101.out)
                           have n3_ := Aside0.mk (below_drew1 HB.out)
                           clear HO_4
                           clear HO_6
                           clear BK101
                           clear HB
                           have HO_4 := n0_
                           have HO_6 := n1_
                           have BK101 := n2_
                           have HB := n3_
                           clear n0_ n1_ n2_ n3_
                           obtain ⟨Ao80, co80, eo80⟩ := Kd.R_slice HO_6.out
                           (first | subst eo80 | (injection eo80 with f1_ f2_ f3_; have f4_ := f1_.symm; have f5_ := f3_.symm; clear f1_ f2_ f3_; subst f4_; subst f5_))
                           have p111 : 0 ≤ (x7_2 : Int) := of_decide_eq_true (by first | (with_reducible assumption) | assumption)
                           have q111 : x7_2 < (x6_3.length : Int) := of_decide_eq_true (by first | (with_reducible assumption) | assumption)
                           obtain ⟨ad111, e111, hx111_0⟩ := Kd.at_int (Kd.R_reads' HO_6.out).2.2 x7_2 p111 q111
                           cases e111
                           replace p111 := eq_true p111
                           replace q111 := eq_true q111
                           have p112 : 0 ≤ ((rd x6_3 x7_2) : Int) := of_decide_eq_true (by first | (with_reducible assumption) | assumption)
                           have q112 : (rd x6_3 x7_2) < (l0_0.length : Int) := of_decide_eq_true (by first | (with_reducible assumption) | assumption)
                           obtain ⟨ad112, A112_0, c112_0, e112, hx112_0, hl112_0, hi112_0⟩ := at_LFace HR0_0.out (rd x6_3 x7_2) p112 q112
                           have hw112_0 := hx112_0
                           cases e112
                           replace hx112_0 := (HB.out.cell (World.block_lt_of_cell? w _ hx112_0)).trans hx112_0
                           have HR112_0 := Aside0.mk hi112_0
                           have HC112_0 := Aside0.mk hl112_0
                           clear hi112_0 hl112_0
                           replace p112 := eq_true p112
                           replace q112 := eq_true q112
                           have p113 : 0 ≤ (x8_3 : Int) := of_decide_eq_true (by first | (with_reducible assumption) | assumption)
                           have q113 : x8_3 < ((rd_LFace l0_0 (rd x6_3 x7_2)).length : Int) := of_decide_eq_true (by first | (with_reducible assumption) | assumption)
                           obtain ⟨ad113, e113, hx113_0, hx113_1⟩ := at_Face HR112_0.out x8_3 p113 q113
                           have hw113_1 := hx113_1
                           have hw113_0 := hx113_0
                           cases e113
                           replace hx113_0 := (HB.out.cell (World.block_lt_of_cell? w _ hx113_0)).trans hx113_0
                           replace hx113_1 := (HB.out.cell (World.block_lt_of_cell? w _ hx113_1)).trans hx113_1
                           replace p113 := eq_true p113
                           replace q113 := eq_true q113
                           refine start_ (n := 13) (S := fun w' => w'.cell? ⟨gb101, 0, none⟩ = some (.slice (some ad112) l0_0.length c0_0) ∧ w'.cell? (ad111.add (x7_2).toNat) = some (.int .i64 (rd x6_3 x7_2)) ∧ w'.cell? (ad112.add ((rd x6_3 x7_2)).toNat) = some (.slice (some ad113) (rd_LFace l0_0 (rd x6_3 x7_2)).length c112_0) ∧ w'.cell? (ad113.add ((x8_3).toNat * 2)) = some (.int .i64 ((rd_Face (rd_LFace l0_0 (rd x6_3 x7_2)) x8_3).f0)) ∧ w'.cell? ⟨(ad113.add ((x8_3).toNat * 2)).block, (ad113.add ((x8_3).toNat * 2)).off + 1, none⟩ = some (.int .i64 ((rd_Face (rd_LFace l0_0 (rd x6_3 x7_2)) x8_3).f1))) (ds := []) #[false, false, false, false, false, false, false, false, false, false, false, false, false] (by kernel_rfl) rfl rfl ⟨(blk_cell BK101.out 0).trans rfl, hx111_0, ((HB.out.cell (World.block_lt_of_cell? w _ hw112_0)).trans hw112_0), ((HB.out.cell (World.block_lt_of_cell? w _ hw113_0)).trans hw113_0), ((HB.out.cell (World.block_lt_of_cell? w _ hw113_1)).trans hw113_1)⟩ (fun hHeld => ?_); refine with_tabW spec_l10Signs.tab14 spec_l10Signs.bits14 (fun HT_ HW_ => ?_)
                           generalize wr.drew = w79 at HO_4 HO_6 BK101 HB HR112_0 hx111_0 hx112_0 hx113_0 hx113_1 hHeld ⊢
                           refine pure_ (i := 0) (N := some 41) (v := ?_) (a' := ?_) #[true, false, false, false, false, false, false, false, false, false, false, false, false] rfl rfl (any_of HT_.out (by kernel_rfl)) (fun _ _ _ h => h) (Or.inl ⟨by rfl, ?_⟩) ?_ ?_
                           rotate_left
                           next =>
                            intro w'
                            go_simp
                            with_reducible rfl
                           rotate_left
                           next =>
                            simp only [Act.put, List.setIfInBounds_toArray, List.set_cons_zero, List.set_cons_succ, i64_w, i32_w]
                            rfl
                           refine pure_ (i := 2) (N := some 43) (v := ?_) (a' := ?_) #[true, false, true, false, false, false, false, false, false, false, false, false, false] rfl rfl (any_of HT_.out (by kernel_rfl)) (fun _ _ _ h => h) (Or.inl ⟨by rfl, ?_⟩) ?_ ?_
                           rotate_left
                           next =>
                            intro w'
                            go_simp
                            with_reducible rfl
                           rotate_left
                           next =>
                            simp only [Act.put, List.setIfInBounds_toArray, List.set_cons_zero, List.set_cons_succ, i64_w, i32_w]
                            rfl
                           refine pure_ (i := 3) (N := some 44) (v := ?_) (a' := ?_) #[true, false, true, true, false, false, false, false, false, false, false, false, false] rfl rfl (any_of HT_.out (by kernel_rfl)) (fun _ _ _ h => h) (Or.inl ⟨by rfl, ?_⟩) ?_ ?_
                           rotate_left
                           next =>
                            intro w'
                            go_simp
                            with_reducible rfl
                           rotate_left
                           next =>
                            simp only [Act.put, List.setIfInBounds_toArray, List.set_cons_zero, List.set_cons_succ, i64_w, i32_w]
                            rfl
                           refine pure_ (i := 4) (N := some 45) (v := ?_) (a' := ?_) #[true, false, true, true, true, false, false, false, false, false, false, false, false] rfl rfl (any_of HT_.out (by kernel_rfl)) (fun _ _ _ h => h) (Or.inl ⟨by rfl, ?_⟩) ?_ ?_
                           rotate_left
                           next =>
                            intro w'
                            go_simp
                            with_reducible rfl
                           rotate_left
                           next =>
                            simp only [Act.put, List.setIfInBounds_toArray, List.set_cons_zero, List.set_cons_succ, i64_w, i32_w]
                            rfl
                           refine pure_ (i := 8) (N := some 49) (v := ?_) (a' := ?_) #[true, false, true, true, true, false, false, false, true, false, false, false, false] rfl rfl (any_of HT_.out (by kernel_rfl)) (fun _ _ _ h => h) (Or.inl ⟨by rfl, ?_⟩) ?_ ?_
                           rotate_left
                           next =>
                            intro w'
                            go_simp
                            with_reducible rfl
                           rotate_left
                           next =>
                            simp only [Act.put, List.setIfInBounds_toArray, List.set_cons_zero, List.set_cons_succ, i64_w, i32_w]
                            rfl
                           refine take_ (i := 1) (N := some 42) (v := ?_) (a' := ?_) #[true, true, true, true, true, false, false, false, true, false, false, false, false] rfl rfl (take_ofW HT_.out HW_.out (by kernel_rfl)) (fun _ _ _ h => h) (Or.inl ⟨by rfl, ?_⟩) hHeld ?_ ?_
                           rotate_left
                           next =>
                            rintro w' ⟨s0, s1, s2, s3, s4⟩
                            go_simp
                            with_reducible rfl
                           rotate_left
                           next =>
                            simp only [Act.put, List.setIfInBounds_toArray, List.set_cons_zero, List.set_cons_succ, i64_w, i32_w]
                            rfl
                           refine take_ (i := 5) (N := some 46) (v := ?_) (a' := ?_) #[true, true, true, true, true, true, false, false, true, false, false, false, false] rfl rfl (take_ofW HT_.out HW_.out (by kernel_rfl)) (fun _ _ _ h => h) (Or.inl ⟨by rfl, ?_⟩) hHeld ?_ ?_
                           rotate_left
                           next =>
                            rintro w' ⟨s0, s1, s2, s3, s4⟩
                            go_simp
                            with_reducible rfl
                           rotate_left
                           next =>
                            simp only [Act.put, List.setIfInBounds_toArray, List.set_cons_zero, List.set_cons_succ, i64_w, i32_w]
                            rfl
                           refine pure_ (i := 6) (N := some 47) (v := ?_) (a' := ?_) #[true, true, true, true, true, true, true, false, true, false, false, false, false] rfl rfl (any_of HT_.out (by kernel_rfl)) (fun _ _ _ h => h) (Or.inl ⟨by rfl, ?_⟩) ?_ ?_
                           rotate_left
                           next =>
                            intro w'
                            go_simp
                            with_reducible rfl
                           rotate_left
                           next =>
                            simp only [Act.put, List.setIfInBounds_toArray, List.set_cons_zero, List.set_cons_succ, i64_w, i32_w]
                            rfl
                           refine take_ (i := 7) (N := some 48) (v := ?_) (a' := ?_) #[true, true, true, true, true, true, true, true, true, false, false, false, false] rfl rfl (take_ofW HT_.out HW_.out (by kernel_rfl)) (fun _ _ _ h => h) (Or.inl ⟨by rfl, ?_⟩) hHeld ?_ ?_
                           rotate_left
                           next =>
                            rintro w' ⟨s0, s1, s2, s3, s4⟩
                            go_simp
                            with_reducible rfl
                           rotate_left
                           next =>
                            simp only [Act.put, List.setIfInBounds_toArray, List.set_cons_zero, List.set_cons_succ, i64_w, i32_w]
                            rfl
                           refine pure_ (i := 9) (N := some 50) (v := ?_) (a' := ?_) #[true, true, true, true, true, true, true, true, true, true, false, false, false] rfl rfl (any_of HT_.out (by kernel_rfl)) (fun _ _ _ h => h) (Or.inl ⟨by rfl, ?_⟩) ?_ ?_
                           rotate_left
                           next =>
                            intro w'
                            go_simp
                            with_reducible rfl
                           rotate_left
                           next =>
                            simp only [Act.put, List.setIfInBounds_toArray, List.set_cons_zero, List.set_cons_succ, i64_w, i32_w]
                            rfl
                           refine take_ (i := 10) (N := some 51) (v := ?_) (a' := ?_) #[true, true, true, true, true, true, true, true, true, true, true, false, false] rfl rfl (take_ofW HT_.out HW_.out (by kernel_rfl)) (fun _ _ _ h => h) (Or.inl ⟨by rfl, ?_⟩) hHeld ?_ ?_
                           rotate_left
                           next =>
                            rintro w' ⟨s0, s1, s2, s3, s4⟩
                            go_simp
                            with_reducible rfl
                           rotate_left
                           next =>
                            simp only [Act.put, List.setIfInBounds_toArray, List.set_cons_zero, List.set_cons_succ, i64_w, i32_w]
                            rfl
                           refine one_ (i := 11) (N := some 9) #[true, true, true, true, true, true, true, true, true, true, true, true, false] rfl rfl (one_of HT_.out (by kernel_rfl)) (by decide) (fun K hK => ?_)
                           refine box_step ?hg (N := 9) ?hd (cs := #[.int .i64 0, .int .i64 0]) (t := 66) ?hr ?_; (case hd => rfl); (case hg => rfl); (case hr => first | (go_simp; done) | (go_simp; rfl))
                           intro gb114 hg w81 hbox hb
                           have HS1_ := (hb.cell (World.block_lt_of_cell? _ _ (hHeld.2.1))).trans (hHeld.2.1)
                           have n0_ := Aside0.mk (Kd.R_below (by (with_reducible repeat (first | apply Kd.R_alloc | apply Kd.R_drewN | apply Kd.R_drew)); exact HO_4.out) hb)
                           have n1_ := Aside0.mk (Kd.R_below (by (with_reducible repeat (first | apply Kd.R_alloc | apply Kd.R_drewN | apply Kd.R_drew)); exact HO_6.out) hb)
                           have n2_ := Aside0.mk (blk_below (g := gb101) (o := .cells #[.slice (some ad112) l0_0.length c0_0] 29 (0, 0)) (by (with_reducible repeat (first | refine blk_drewN ?_ _ | refine blk_drew ?_ | refine blk_alloc ?_ _)); exact BK101.out) hb)
                           have n3_ := Aside0.mk (below_step (by repeat (first | (with_reducible first | exact HB.out | apply below_alloc | apply pw_below_drewN | apply below_drew1 | refine below_set ?_ GE101.out) | exact HB.out)) hb)
                           have n4_ := Aside0.mk (hbox)
                           have n5_ := Aside0.mk ((by rw [hg]; exact (below_size (by repeat (first | (with_reducible first | exact HB.out | apply below_alloc | apply pw_below_drewN | apply below_drew1 | refine below_set ?_ GE101.out) | exact HB.out))) : w.heap.size ≤ gb114))
                           have n6_ := Aside0.mk ((by rw [hg]; exact (below_size (by repeat (first | (with_reducible first | exact HB.out | apply below_alloc | apply pw_below_drewN | apply below_drew1 | refine below_set ?_ GE101.out) | exact HB.out))) : w.heap.size ≤ gb114))
                           have n7_ := Aside0.mk ((by rw [hg]; exact Nat.ne_of_lt (blk_lt (g := gb101) (o := .cells #[.slice (some ad112) l0_0.length c0_0] 29 (0, 0)) (by (with_reducible repeat (first | refine blk_drewN ?_ _ | refine blk_drew ?_ | refine blk_alloc ?_ _)); exact BK101.out)) : gb101 ≠ gb114))
                           have n8_ := Aside0.mk ((by rw [hg]; exact Nat.ne_of_gt (blk_lt (g := gb101) (o := .cells #[.slice (some ad112) l0_0.length c0_0] 29 (0, 0)) (by (with_reducible repeat (first | refine blk_drewN ?_ _ | refine blk_drew ?_ | refine blk_alloc ?_ _)); exact BK101.out)) : gb114 ≠ gb101))
                           clear HO_4
                           clear HO_6
                           clear BK101
                           clear HB
                           have HO_4 := n0_
                           have HO_6 := n1_
                           have BK101 := n2_
                           have HB := n3_
                           have BK114 := n4_
                           have GW114 := n5_
                           have GE114 := n6_
                           have NB101_114 := n7_
                           have NB114_101 := n8_
                           clear n0_ n1_ n2_ n3_ n4_ n5_ n6_ n7_ n8_
                           clear hb hbox hg
                           refine hK.out _ _ ⟨(blk_cell BK101.out 0).trans rfl, HS1_, ((HB.out.cell (World.block_lt_of_cell? w _ hw112_0)).trans hw112_0), ((HB.out.cell (World.block_lt_of_cell? w _ hw113_0)).trans hw113_0), ((HB.out.cell (World.block_lt_of_cell? w _ hw113_1)).trans hw113_1)⟩ (fun hHeld => ?_)
                           clear hK K
                           refine norm_ (a' := ?_) ?_ ?_
                           rotate_left
                           next =>
                            show Act.put _ (some 9) _ = _
                            simp only [Act.put, List.setIfInBounds_toArray, List.set_cons_zero, List.set_cons_succ, i64_w, i32_w]
                            rfl
                           refine one_ (i := 12) (N := none) #[true, true, true, true, true, true, true, true, true, true, true, true, true] rfl rfl (one_of HT_.out (by kernel_rfl)) (by decide) (fun K hK => ?_)
                           have hs82 : w81.cell? ⟨gb114, 0, none⟩ = some (.int .i64 0) := (blk_cell BK114.out 0).trans rfl
                           have hfs82 := blk_frozen BK114.out 0
                           have hns82_0 := NB101_114.out
                           have hms82_0 := NB114_101.out
                           have hs83 : w81.cell? ⟨gb114, 1, none⟩ = some (.int .i64 0) := (blk_cell BK114.out 1).trans rfl
                           have hfs83 := blk_frozen BK114.out 1
                           have hns83_0 := NB101_114.out
                           have hms83_0 := NB114_101.out
                           refine skip_ (w1 := ?_) (by rfl) rfl ?_ ?_
                           rotate_left
                           next =>
                            go_simp
                            rfl
                           refine hK.out _ _ ⟨((cell_far (p := ⟨gb114, _, none⟩) NB101_114.out _).trans (((cell_far (p := ⟨gb114, _, none⟩) NB101_114.out _).trans (hHeld.1)))), ((cell_far (p := ⟨gb114, _, none⟩) (by first | exact Kd.own_blk (Kd.R_ne HO_6.out BK114.out (by decide)) | (rw [add_block]; exact Kd.own_blk (Kd.R_ne HO_6.out BK114.out (by decide))) | (show (Addr.add _ _).block ≠ _; rw [add_block]; exact Kd.own_blk (Kd.R_ne HO_6.out BK114.out (by decide))) | (dsimp only; exact Kd.own_blk (Kd.R_ne HO_6.out BK114.out (by decide)))) _).trans (((cell_far (p := ⟨gb114, _, none⟩) (by first | exact Kd.own_blk (Kd.R_ne HO_6.out BK114.out (by decide)) | (rw [add_block]; exact Kd.own_blk (Kd.R_ne HO_6.out BK114.out (by decide))) | (show (Addr.add _ _).block ≠ _; rw [add_block]; exact Kd.own_blk (Kd.R_ne HO_6.out BK114.out (by decide))) | (dsimp only; exact Kd.own_blk (Kd.R_ne HO_6.out BK114.out (by decide)))) _).trans (hHeld.2.1)))), ((cell_far (p := ⟨gb114, _, none⟩) (by first | exact Nat.ne_of_lt (Nat.lt_of_lt_of_le (by have := World.block_lt_of_cell? _ _ hw112_0; first | rwa [add_block] at this | exact this) GW114.out) | (rw [add_block]; exact Nat.ne_of_lt (Nat.lt_of_lt_of_le (by have := World.block_lt_of_cell? _ _ hw112_0; first | rwa [add_block] at this | exact this) GW114.out)) | (show (Addr.add _ _).block ≠ _; rw [add_block]; exact Nat.ne_of_lt (Nat.lt_of_lt_of_le (by have := World.block_lt_of_cell? _ _ hw112_0; first | rwa [add_block] at this | exact this) GW114.out)) | (dsimp only; exact Nat.ne_of_lt (Nat.lt_of_lt_of_le (by have := World.block_lt_of_cell? _ _ hw112_0; first | rwa [add_block] at this | exact this) GW114.out))) _).trans (((cell_far (p := ⟨gb114, _, none⟩) (by first | exact Nat.ne_of_lt (Nat.lt_of_lt_of_le (by have := World.block_lt_of_cell? _ _ hw112_0; first | rwa [add_block] at this | exact this) GW114.out) | (rw [add_block]; exact Nat.ne_of_lt (Nat.lt_of_lt_of_le (by have := World.block_lt_of_cell? _ _ hw112_0; first | rwa [add_block] at this | exact this) GW114.out)) | (show (Addr.add _ _).block ≠ _; rw [add_block]; exact Nat.ne_of_lt (Nat.lt_of_lt_of_le (by have := World.block_lt_of_cell? _ _ hw112_0; first | rwa [add_block] at this | exact this) GW114.out)) | (dsimp only; exact Nat.ne_of_lt (Nat.lt_of_lt_of_le (by have := World.block_lt_of_cell? _ _ hw112_0; first | rwa [add_block] at this | exact this) GW114.out))) _).trans (hHeld.2.2.1)))), ((cell_far (p := ⟨gb114, _, none⟩) (by first | exact Nat.ne_of_lt (Nat.lt_of_lt_of_le (by have := World.block_lt_of_cell? _ _ hw113_0; first | rwa [add_block] at this | exact this) GW114.out) | (rw [add_block]; exact Nat.ne_of_lt (Nat.lt_of_lt_of_le (by have := World.block_lt_of_cell? _ _ hw113_0; first | rwa [add_block] at this | exact this) GW114.out)) | (show (Addr.add _ _).block ≠ _; rw [add_block]; exact Nat.ne_of_lt (Nat.lt_of_lt_of_le (by have := World.block_lt_of_cell? _ _ hw113_0; first | rwa [add_block] at this | exact this) GW114.out)) | (dsimp only; exact Nat.ne_of_lt (Nat.lt_of_lt_of_le (by have := World.block_lt_of_cell? _ _ hw113_0; first | rwa [add_block] at this | exact this) GW114.out))) _).trans (((cell_far (p := ⟨gb114, _, none⟩) (by first | exact Nat.ne_of_lt (Nat.lt_of_lt_of_le (by have := World.block_lt_of_cell? _ _ hw113_0; first | rwa [add_block] at this | exact this) GW114.out) | (rw [add_block]; exact Nat.ne_of_lt (Nat.lt_of_lt_of_le (by have := World.block_lt_of_cell? _ _ hw113_0; first | rwa [add_block] at this | exact this) GW114.out)) | (show (Addr.add _ _).block ≠ _; rw [add_block]; exact Nat.ne_of_lt (Nat.lt_of_lt_of_le (by have := World.block_lt_of_cell? _ _ hw113_0; first | rwa [add_block] at this | exact this) GW114.out)) | (dsimp only; exact Nat.ne_of_lt (Nat.lt_of_lt_of_le (by have := World.block_lt_of_cell? _ _ hw113_0; first | rwa [add_block] at this | exact this) GW114.out))) _).trans (hHeld.2.2.2.1)))), ((cell_far (p := ⟨gb114, _, none⟩) (by first | exact Nat.ne_of_lt (Nat.lt_of_lt_of_le (by have := World.block_lt_of_cell? _ _ hw113_1; first | rwa [add_block] at this | exact this) GW114.out) | (rw [add_block]; exact Nat.ne_of_lt (Nat.lt_of_lt_of_le (by have := World.block_lt_of_cell? _ _ hw113_1; first | rwa [add_block] at this | exact this) GW114.out)) | (show (Addr.add _ _).block ≠ _; rw [add_block]; exact Nat.ne_of_lt (Nat.lt_of_lt_of_le (by have := World.block_lt_of_cell? _ _ hw113_1; first | rwa [add_block] at this | exact this) GW114.out)) | (dsimp only; exact Nat.ne_of_lt (Nat.lt_of_lt_of_le (by have := World.block_lt_of_cell? _ _ hw113_1; first | rwa [add_block] at this | exact this) GW114.out))) _).trans (((cell_far (p := ⟨gb114, _, none⟩) (by first | exact Nat.ne_of_lt (Nat.lt_of_lt_of_le (by have := World.block_lt_of_cell? _ _ hw113_1; first | rwa [add_block] at this | exact this) GW114.out) | (rw [add_block]; exact Nat.ne_of_lt (Nat.lt_of_lt_of_le (by have := World.block_lt_of_cell? _ _ hw113_1; first | rwa [add_block] at this | exact this) GW114.out)) | (show (Addr.add _ _).block ≠ _; rw [add_block]; exact Nat.ne_of_lt (Nat.lt_of_lt_of_le (by have := World.block_lt_of_cell? _ _ hw113_1; first | rwa [add_block] at this | exact this) GW114.out)) | (dsimp only; exact Nat.ne_of_lt (Nat.lt_of_lt_of_le (by have := World.block_lt_of_cell? _ _ hw113_1; first | rwa [add_block] at this | exact this) GW114.out))) _).trans (hHeld.2.2.2.2))))⟩ (fun hHeld => ?_)
                           clear hK K
                           refine done_ (done_of HT_.out (by kernel_rfl)) ?_
                           have hnb84 := NB114_101.out
                           have hnc84 := NB101_114.out
                           have hcz85_0 : w81.cell? ⟨gb114, 0, none⟩ = some (.int .i64 0) := (blk_cell BK114.out 0).trans rfl
                           have hcz85_1 : w81.cell? ⟨gb114, 1, none⟩ = some (.int .i64 0) := (blk_cell BK114.out 1).trans rfl
                           have hfz85_0 := blk_frozen BK114.out 0
                           have hfz85_1 := blk_frozen BK114.out 1
                           try go_wp2
                           have n0_ : Aside0 (Kd.R (Kd.int .i64) 2 ((w81.setCell ⟨gb114, 0, none⟩ (.int .i64 ((rd_Face (rd_LFace l0_0 (rd x6_3 x7_2)) x8_3).f0))).setCell ⟨gb114, 1, none⟩ (.int .i64 ((rd_Face (rd_LFace l0_0 (rd x6_3 x7_2)) x8_3).f1))) w.heap.size (fun k_ => some k_ ≠ (.slice (some ad111) x6_3.length co80 : Value).ownBlock) (.slice (some ⟨go13, 0, none⟩) x4_3.length co16) x4_3) := ⟨by (with_reducible repeat (first | apply Kd.R_alloc | apply Kd.R_drewN | apply Kd.R_drew)); exact Kd.R_mono (Kd.R_far (p := ⟨gb114, 1, none⟩) (Kd.R_far (p := ⟨gb114, 0, none⟩) (Kd.R_types HO_4.out BK114.out (by decide)) (fun _ hk => hk.2) (.int .i64 ((rd_Face (rd_LFace l0_0 (rd x6_3 x7_2)) x8_3).f0))) (fun _ hk => hk.2) (.int .i64 ((rd_Face (rd_LFace l0_0 (rd x6_3 x7_2)) x8_3).f1))) (fun _ hk => hk.1)⟩
                           have n1_ : Aside0 (Kd.R (Kd.int .i64) 2 ((w81.setCell ⟨gb114, 0, none⟩ (.int .i64 ((rd_Face (rd_LFace l0_0 (rd x6_3 x7_2)) x8_3).f0))).setCell ⟨gb114, 1, none⟩ (.int .i64 ((rd_Face (rd_LFace l0_0 (rd x6_3 x7_2)) x8_3).f1))) w.heap.size (fun k_ => some k_ ≠ (.slice (some ⟨go13, 0, none⟩) x4_3.length co16 : Value).ownBlock) (.slice (some ad111) x6_3.length co80) x6_3) := ⟨by (with_reducible repeat (first | apply Kd.R_alloc | apply Kd.R_drewN | apply Kd.R_drew)); exact Kd.R_mono (Kd.R_far (p := ⟨gb114, 1, none⟩) (Kd.R_far (p := ⟨gb114, 0, none⟩) (Kd.R_types HO_6.out BK114.out (by decide)) (fun _ hk => hk.2) (.int .i64 ((rd_Face (rd_LFace l0_0 (rd x6_3 x7_2)) x8_3).f0))) (fun _ hk => hk.2) (.int .i64 ((rd_Face (rd_LFace l0_0 (rd x6_3 x7_2)) x8_3).f1))) (fun _ hk => hk.1)⟩
                           have n2_ : Aside0 (((w81.setCell ⟨gb114, 0, none⟩ (.int .i64 ((rd_Face (rd_LFace l0_0 (rd x6_3 x7_2)) x8_3).f0))).setCell ⟨gb114, 1, none⟩ (.int .i64 ((rd_Face (rd_LFace l0_0 (rd x6_3 x7_2)) x8_3).f1))).heap[gb101]? = some (.cells #[.slice (some ad112) l0_0.length c0_0] 29 (0, 0))) := ⟨by (with_reducible repeat (first | refine blk_drewN ?_ _ | refine blk_drew ?_ | refine blk_alloc ?_ _)); refine blk_far ?_ NB101_114.out _; (with_reducible repeat (first | refine blk_drewN ?_ _ | refine blk_drew ?_ | refine blk_alloc ?_ _)); refine blk_far ?_ NB101_114.out _; (with_reducible repeat (first | refine blk_drewN ?_ _ | refine blk_drew ?_ | refine blk_alloc ?_ _)); exact BK101.out⟩
                           have n3_ : Aside0 (((w81.setCell ⟨gb114, 0, none⟩ (.int .i64 ((rd_Face (rd_LFace l0_0 (rd x6_3 x7_2)) x8_3).f0))).setCell ⟨gb114, 1, none⟩ (.int .i64 ((rd_Face (rd_LFace l0_0 (rd x6_3 x7_2)) x8_3).f1))).heap[gb114]? = some (.cells #[.int .i64 ((rd_Face (rd_LFace l0_0 (rd x6_3 x7_2)) x8_3).f0), .int .i64 ((rd_Face (rd_LFace l0_0 (rd x6_3 x7_2)) x8_3).f1)] 66 (0, 0))) := ⟨by (with_reducible repeat (first | refine blk_drewN ?_ _ | refine blk_drew ?_ | refine blk_alloc ?_ _)); refine blk_put (cs := #[.int .i64 ((rd_Face (rd_LFace l0_0 (rd x6_3 x7_2)) x8_3).f0), .int .i64 0]) ?_ 1 _ rfl; (with_reducible repeat (first | refine blk_drewN ?_ _ | refine blk_drew ?_ | refine blk_alloc ?_ _)); refine blk_put (cs := #[.int .i64 0, .int .i64 0]) ?_ 0 _ rfl; (with_reducible repeat (first | refine blk_drewN ?_ _ | refine blk_drew ?_ | refine blk_alloc ?_ _)); exact BK114.out⟩
                           have n4_ : Aside0 (Below w.heap.size w ((w81.setCell ⟨gb114, 0, none⟩ (.int .i64 ((rd_Face (rd_LFace l0_0 (rd x6_3 x7_2)) x8_3).f0))).setCell ⟨gb114, 1, none⟩ (.int .i64 ((rd_Face (rd_LFace l0_0 (rd x6_3 x7_2)) x8_3).f1)))) := ⟨by repeat (first | (with_reducible first | exact HB.out | apply below_alloc | apply pw_below_drewN | apply below_drew1 | refine below_set ?_ GE101.out | refine below_set ?_ GE114.out) | exact HB.out)⟩
                           (try clear HO_4)
                           (try clear HO_6)
                           (try clear BK101)
                           (try clear BK114)
                           (try clear HB)
                           generalize ((w81.setCell ⟨gb114, 0, none⟩ (.int .i64 ((rd_Face (rd_LFace l0_0 (rd x6_3 x7_2)) x8_3).f0))).setCell ⟨gb114, 1, none⟩ (.int .i64 ((rd_Face (rd_LFace l0_0 (rd x6_3 x7_2)) x8_3).f1))) = w86 at n0_ n1_ n2_ n3_ n4_ ⊢
                           have HO_4 := n0_
                           have HO_6 := n1_
                           have BK101 := n2_
                           have BK114 := n3_
                           have HB := n4_
                           clear n0_ n1_ n2_ n3_ n4_
                           have n0_ := Aside0.mk (Kd.R_drew HO_4.out)
                           have n1_ := Aside0.mk (Kd.R_drew HO_6.out)
                           have n2_ := Aside0.mk (blk_drew BK101.out)
                           have n3_ := Aside0.mk (blk_drew BK114.out)
                           have n4_ := Aside0.mk (below_drew1 HB.out)
                           clear HO_4
                           clear HO_6
                           clear BK101
                           clear BK114
                           clear HB
                           have HO_4 := n0_
                           have HO_6 := n1_
                           have BK101 := n2_
                           have BK114 := n3_
                           have HB := n4_
                           clear n0_ n1_ n2_ n3_ n4_
                           have p115 : 0 ≤ (x7_2 : Int) := of_decide_eq_true (by first | (with_reducible assumption) | assumption)
                           have q115 : x7_2 < (x6_3.length : Int) := of_decide_eq_true (by first | (with_reducible assumption) | assumption)
                           obtain ⟨ad115, e115, hx115_0⟩ := Kd.at_int (Kd.R_reads' HO_6.out).2.2 x7_2 p115 q115
                           obtain rfl : ad111 = ad115 := (by injection e115)
                           replace p115 := eq_true p115
                           replace q115 := eq_true q115
                           have p116 : 0 ≤ ((rd x6_3 x7_2) : Int) := of_decide_eq_true (by first | (with_reducible assumption) | assumption)
                           have q116 : (rd x6_3 x7_2) < (x4_3.length : Int) := of_decide_eq_true (by first | (with_reducible assumption) | assumption)
                           obtain ⟨ad116, e116, hx116_0⟩ := Kd.at_int (Kd.R_reads' HO_4.out).2.2 (rd x6_3 x7_2) p116 q116
                           obtain rfl : (⟨go13, 0, none⟩ : Addr) = ad116 := (by injection e116)
                           (first | simp only [add_plain] at hx116_0 | simp only [add_at] at hx116_0 | simp only [Addr.add, Nat.zero_add] at hx116_0 | skip)
                           replace p116 := eq_true p116
                           replace q116 := eq_true q116
                           refine start_ (n := 13) (S := fun w' => w'.cell? ⟨gb114, 0, none⟩ = some (.int .i64 ((rd_Face (rd_LFace l0_0 (rd x6_3 x7_2)) x8_3).f0)) ∧ w'.cell? ⟨gb114, 1, none⟩ = some (.int .i64 ((rd_Face (rd_LFace l0_0 (rd x6_3 x7_2)) x8_3).f1)) ∧ w'.cell? (ad111.add (x7_2).toNat) = some (.int .i64 (rd x6_3 x7_2)) ∧ w'.cell? ⟨go13, ((rd x6_3 x7_2)).toNat, none⟩ = some (.int .i64 (rd x4_3 (rd x6_3 x7_2)))) (ds := []) #[false, false, false, false, false, false, false, false, false, false, false, false, false] (by kernel_rfl) rfl rfl ⟨(blk_cell BK114.out 0).trans rfl, (blk_cell BK114.out 1).trans rfl, hx115_0, hx116_0⟩ (fun hHeld => ?_); refine with_tabW spec_l10Signs.tab16 spec_l10Signs.bits16 (fun HT_ HW_ => ?_)
                           generalize w86.drew = w87 at HO_4 HO_6 BK101 BK114 HB hx115_0 hx116_0 hHeld ⊢
                           refine pure_ (i := 0) (N := some 55) (v := ?_) (a' := ?_) #[true, false, false, false, false, false, false, false, false, false, false, false, false] rfl rfl (any_of HT_.out (by kernel_rfl)) (fun _ _ _ h => h) (Or.inl ⟨by rfl, ?_⟩) ?_ ?_
                           rotate_left
                           next =>
                            intro w'
                            go_simp
                            with_reducible rfl
                           rotate_left
                           next =>
                            simp only [Act.put, List.setIfInBounds_toArray, List.set_cons_zero, List.set_cons_succ, i64_w, i32_w]
                            rfl
                           refine pure_ (i := 1) (N := some 56) (v := ?_) (a' := ?_) #[true, true, false, false, false, false, false, false, false, false, false, false, false] rfl rfl (any_of HT_.out (by kernel_rfl)) (fun _ _ _ h => h) (Or.inl ⟨by rfl, ?_⟩) ?_ ?_
                           rotate_left
                           next =>
                            intro w'
                            go_simp
                            with_reducible rfl
                           rotate_left
                           next =>
                            simp only [Act.put, List.setIfInBounds_toArray, List.set_cons_zero, List.set_cons_succ, i64_w, i32_w]
                            rfl
                           refine pure_ (i := 2) (N := some 57) (v := ?_) (a' := ?_) #[true, true, true, false, false, false, false, false, false, false, false, false, false] rfl rfl (any_of HT_.out (by kernel_rfl)) (fun _ _ _ h => h) (Or.inl ⟨by rfl, ?_⟩) ?_ ?_
                           rotate_left
                           next =>
                            intro w'
                            go_simp
                            with_reducible rfl
                           rotate_left
                           next =>
                            simp only [Act.put, List.setIfInBounds_toArray, List.set_cons_zero, List.set_cons_succ, i64_w, i32_w]
                            rfl
                           refine pure_ (i := 3) (N := some 58) (v := ?_) (a' := ?_) #[true, true, true, true, false, false, false, false, false, false, false, false, false] rfl rfl (any_of HT_.out (by kernel_rfl)) (fun _ _ _ h => h) (Or.inl ⟨by rfl, ?_⟩) ?_ ?_
                           rotate_left
                           next =>
                            intro w'
                            go_simp
                            with_reducible rfl
                           rotate_left
                           next =>
                            simp only [Act.put, List.setIfInBounds_toArray, List.set_cons_zero, List.set_cons_succ, i64_w, i32_w]
                            rfl
                           refine pure_ (i := 8) (N := some 63) (v := ?_) (a' := ?_) #[true, true, true, true, false, false, false, false, true, false, false, false, false] rfl rfl (any_of HT_.out (by kernel_rfl)) (fun _ _ _ h => h) (Or.inl ⟨by rfl, ?_⟩) ?_ ?_
                           rotate_left
                           next =>
                            intro w'
                            go_simp
                            with_reducible rfl
                           rotate_left
                           next =>
                            simp only [Act.put, List.setIfInBounds_toArray, List.set_cons_zero, List.set_cons_succ, i64_w, i32_w]
                            rfl
                           refine take_ (i := 4) (N := some 59) (v := ?_) (a' := ?_) #[true, true, true, true, true, false, false, false, true, false, false, false, false] rfl rfl (take_ofW HT_.out HW_.out (by kernel_rfl)) (fun _ _ _ h => h) (Or.inl ⟨by rfl, ?_⟩) hHeld ?_ ?_
                           rotate_left
                           next =>
                            rintro w' ⟨s0, s1, s2, s3⟩
                            go_simp
                            with_reducible rfl
                           rotate_left
                           next =>
                            simp only [Act.put, List.setIfInBounds_toArray, List.set_cons_zero, List.set_cons_succ, i64_w, i32_w]
                            rfl
                           refine pure_ (i := 5) (N := some 60) (v := ?_) (a' := ?_) #[true, true, true, true, true, true, false, false, true, false, false, false, false] rfl rfl (any_of HT_.out (by kernel_rfl)) (fun _ _ _ h => h) (Or.inl ⟨by rfl, ?_⟩) ?_ ?_
                           rotate_left
                           next =>
                            intro w'
                            go_simp
                            with_reducible rfl
                           rotate_left
                           next =>
                            simp only [Act.put, List.setIfInBounds_toArray, List.set_cons_zero, List.set_cons_succ, i64_w, i32_w]
                            rfl
                           refine take_ (i := 6) (N := some 61) (v := ?_) (a' := ?_) #[true, true, true, true, true, true, true, false, true, false, false, false, false] rfl rfl (take_ofW HT_.out HW_.out (by kernel_rfl)) (fun _ _ _ h => h) (Or.inl ⟨by rfl, ?_⟩) hHeld ?_ ?_
                           rotate_left
                           next =>
                            rintro w' ⟨s0, s1, s2, s3⟩
                            go_simp
                            with_reducible rfl
                           rotate_left
                           next =>
                            simp only [Act.put, List.setIfInBounds_toArray, List.set_cons_zero, List.set_cons_succ, i64_w, i32_w]
                            rfl
                           refine pure_ (i := 7) (N := some 62) (v := ?_) (a' := ?_) #[true, true, true, true, true, true, true, true, true, false, false, false, false] rfl rfl (any_of HT_.out (by kernel_rfl)) (fun _ _ _ h => h) (Or.inl ⟨by rfl, ?_⟩) ?_ ?_
                           rotate_left
                           next =>
                            intro w'
                            go_simp
                            with_reducible rfl
                           rotate_left
                           next =>
                            simp only [Act.put, List.setIfInBounds_toArray, List.set_cons_zero, List.set_cons_succ, i64_w, i32_w]
                            rfl
                           refine take_ (i := 9) (N := some 64) (v := ?_) (a' := ?_) #[true, true, true, true, true, true, true, true, true, true, false, false, false] rfl rfl (take_ofW HT_.out HW_.out (by kernel_rfl)) (fun _ _ _ h => h) (Or.inl ⟨by rfl, ?_⟩) hHeld ?_ ?_
                           rotate_left
                           next =>
                            rintro w' ⟨s0, s1, s2, s3⟩
                            go_simp
                            with_reducible rfl
                           rotate_left
                           next =>
                            simp only [Act.put, List.setIfInBounds_toArray, List.set_cons_zero, List.set_cons_succ, i64_w, i32_w]
                            rfl
                           refine one_ (i := 10) (N := some 65) #[true, true, true, true, true, true, true, true, true, true, true, false, false] rfl rfl (one_of HT_.out (by kernel_rfl)) (by decide) (fun K hK => ?_)
                           refine goes_ Try.func60 (by kernel_rfl) rfl #[.int .i64 ((rd_Face (rd_LFace l0_0 (rd x6_3 x7_2)) x8_3).f1)] (by rfl) rfl rfl (by (try simp only [List.map_toArray, List.map_cons, List.map_nil]); first | done | rfl | (simp only [List.length_drop, List.length_take]; rfl)) ?_
                           with_reducible refine (spec_SignPerm4.calls k3 ((rd_Face (rd_LFace l0_0 (rd x6_3 x7_2)) x8_3).f1) t117 _ A39.out).mono ?_
                           rintro e w88 ⟨rfl, hb⟩
                           have HS2_ := (hb.cell (World.block_lt_of_cell? _ _ (hHeld.2.2.1))).trans (hHeld.2.2.1)
                           have HS3_ := (hb.cell (World.block_lt_of_cell? _ _ (hHeld.2.2.2))).trans (hHeld.2.2.2)
                           refine ⟨_, rfl, ?_⟩
                           have n0_ := Aside0.mk (Kd.R_below (by (with_reducible repeat (first | apply Kd.R_alloc | apply Kd.R_drewN | apply Kd.R_drew)); exact HO_4.out) hb)
                           have n1_ := Aside0.mk (Kd.R_below (by (with_reducible repeat (first | apply Kd.R_alloc | apply Kd.R_drewN | apply Kd.R_drew)); exact HO_6.out) hb)
                           have n2_ := Aside0.mk (blk_below (g := gb101) (o := .cells #[.slice (some ad112) l0_0.length c0_0] 29 (0, 0)) (by (with_reducible repeat (first | refine blk_drewN ?_ _ | refine blk_drew ?_ | refine blk_alloc ?_ _)); exact BK101.out) hb)
                           have n3_ := Aside0.mk (blk_below (g := gb114) (o := .cells #[.int .i64 ((rd_Face (rd_LFace l0_0 (rd x6_3 x7_2)) x8_3).f0), .int .i64 ((rd_Face (rd_LFace l0_0 (rd x6_3 x7_2)) x8_3).f1)] 66 (0, 0)) (by (with_reducible repeat (first | refine blk_drewN ?_ _ | refine blk_drew ?_ | refine blk_alloc ?_ _)); exact BK114.out) hb)
                           have n4_ := Aside0.mk (below_step (by repeat (first | (with_reducible first | exact HB.out | apply below_alloc | apply pw_below_drewN | apply below_drew1 | refine below_set ?_ GE101.out | refine below_set ?_ GE114.out) | exact HB.out)) hb)
                           clear HO_4
                           clear HO_6
                           clear BK101
                           clear BK114
                           clear HB
                           have HO_4 := n0_
                           have HO_6 := n1_
                           have BK101 := n2_
                           have BK114 := n3_
                           have HB := n4_
                           clear n0_ n1_ n2_ n3_ n4_
                           (try clear hb)
                           (try clear hb2)
                           (try clear hk)
                           (try clear hi)
                           refine hK.out _ _ ⟨(blk_cell BK114.out 0).trans rfl, (blk_cell BK114.out 1).trans rfl, HS2_, HS3_⟩ (fun hHeld => ?_)
                           clear hK K
                           refine norm_ (a' := ?_) ?_ ?_
                           rotate_left
                           next =>
                            show Act.put _ (some 65) _ = _
                            simp only [Act.put, List.setIfInBounds_toArray, List.set_cons_zero, List.set_cons_succ, i64_w, i32_w]
                            rfl
                           refine pure_ (i := 11) (N := some 66) (v := ?_) (a' := ?_) #[true, true, true, true, true, true, true, true, true, true, true, true, false] rfl rfl (any_of HT_.out (by kernel_rfl)) (fun _ _ _ h => h) (Or.inl ⟨by rfl, ?_⟩) ?_ ?_
                           rotate_left
                           next =>
                            intro w'
                            go_simp
                            with_reducible rfl
                           rotate_left
                           next =>
                            simp only [Act.put, List.setIfInBounds_toArray, List.set_cons_zero, List.set_cons_succ, i64_w, i32_w]
                            rfl
                           refine pure_ (i := 12) (N := some 10) (v := ?_) (a' := ?_) #[true, true, true, true, true, true, true, true, true, true, true, true, true] rfl rfl (any_of HT_.out (by kernel_rfl)) (fun _ _ _ h => h) (Or.inl ⟨by rfl, ?_⟩) ?_ ?_
                           rotate_left
                           next =>
                            intro w'
                            go_simp
                            with_reducible rfl
                           rotate_left
                           next =>
                            simp only [Act.put, List.setIfInBounds_toArray, List.set_cons_zero, List.set_cons_succ, i64_w, i32_w]
                            rfl
                           refine done_ (done_of HT_.out (by kernel_rfl)) ?_
                           have hcz89_0 : w88.cell? ⟨gb114, 0, none⟩ = some (.int .i64 ((rd_Face (rd_LFace l0_0 (rd x6_3 x7_2)) x8_3).f0)) := (blk_cell BK114.out 0).trans rfl
                           have hcz89_1 : w88.cell? ⟨gb114, 1, none⟩ = some (.int .i64 ((rd_Face (rd_LFace l0_0 (rd x6_3 x7_2)) x8_3).f1)) := (blk_cell BK114.out 1).trans rfl
                           have hfz89_0 := blk_frozen BK114.out 0
                           have hfz89_1 := blk_frozen BK114.out 1
                           have p118 : 0 ≤ (((rd_Face (rd_LFace l0_0 (rd x6_3 x7_2)) x8_3).f0) : Int) := of_decide_eq_true (by first | (with_reducible assumption) | assumption)
                           have q118 : ((rd_Face (rd_LFace l0_0 (rd x6_3 x7_2)) x8_3).f0) < (x4_3.length : Int) := of_decide_eq_true (by first | (with_reducible assumption) | assumption)
                           obtain ⟨ad118, e118, hx118_0⟩ := Kd.at_int (Kd.R_reads' HO_4.out).2.2 ((rd_Face (rd_LFace l0_0 (rd x6_3 x7_2)) x8_3).f0) p118 q118
                           obtain rfl : (⟨go13, 0, none⟩ : Addr) = ad118 := (by injection e118)
                           (first | simp only [add_plain] at hx118_0 | simp only [add_at] at hx118_0 | simp only [Addr.add, Nat.zero_add] at hx118_0 | skip)
                           replace p118 := eq_true p118
                           replace q118 := eq_true q118
                           have p124 : 0 ≤ (((rd_Face (rd_LFace l0_0 (rd x6_3 x7_2)) x8_3).f0) : Int) := of_decide_eq_true (by first | (with_reducible assumption) | assumption)
                           have q124 : ((rd_Face (rd_LFace l0_0 (rd x6_3 x7_2)) x8_3).f0) < (x4_3.length : Int) := of_decide_eq_true (by first | (with_reducible assumption) | assumption)
                           obtain ⟨ad124, e124, hx124_0⟩ := Kd.at_int (Kd.R_reads' HO_4.out).2.2 ((rd_Face (rd_LFace l0_0 (rd x6_3 x7_2)) x8_3).f0) p124 q124
                           obtain rfl : (⟨go13, 0, none⟩ : Addr) = ad124 := (by injection e124)
                           (first | simp only [add_plain] at hx124_0 | simp only [add_at] at hx124_0 | simp only [Addr.add, Nat.zero_add] at hx124_0 | skip)
                           replace p124 := eq_true p124
                           replace q124 := eq_true q124
                           try go_wp2
                           (try simp only [← hl4_3])
                           go_roundg k3
                           case measure => have := HK1.out; have := HK2.out; have := HK3.out; omega
                           case rel => exact ⟨(x4_3), (x6_3), (wrap64 (x8_3 + 1)), (by first | rfl | (simp; done) | (simp [*]; done)), H', ⟨by have := HK1.out; have := HK2.out; have := HK3.out; omega⟩, ⟨by (try simp only [hl4_2]); (try simp only [hl4_3]); (with_reducible repeat (first | apply Kd.R_alloc | apply Kd.R_drewN | apply Kd.R_drew)); exact HO_4.out⟩, ⟨by (try simp only [hl4_2]); (try simp only [hl4_3]); (with_reducible repeat (first | apply Kd.R_alloc | apply Kd.R_drewN | apply Kd.R_drew)); exact HO_6.out⟩, ⟨by (try simp only [hl4_2]); (try simp only [hl4_3]); (with_reducible repeat (first | refine blk_drewN ?_ _ | refine blk_drew ?_ | refine blk_alloc ?_ _)); exact BK101.out⟩, ⟨by repeat (first | (with_reducible first | exact HB.out | apply below_alloc | apply pw_below_drewN | apply below_drew1 | refine below_set ?_ GE101.out | refine below_set ?_ GE114.out) | exact HB.out)⟩⟩
                          next =>
                           rw [if_neg c78] at H
                           have c78b0 : ((rd x4_3 ((rd_Face (rd_LFace l0_0 (rd x6_3 x7_2)) x8_3).f0)) == (wrap64 ((wrap64 (-(rd x4_3 (rd x6_3 x7_2)))) * t117))) = false := beq_eq_false_iff_ne.mpr c78
                           have c78b1 : ((rd x4_3 ((rd_Face (rd_LFace l0_0 (rd x6_3 x7_2)) x8_3).f0)) != (wrap64 ((wrap64 (-(rd x4_3 (rd x6_3 x7_2)))) * t117))) = true := bne_iff_ne.mpr c78
                           simp only [Option.some.injEq, Prod.mk.injEq] at H
                           obtain ⟨rfl, rfl⟩ := H
                           try go_wp2
                           have n0_ := Aside0.mk (Kd.R_drew HO_4.out)
                           have n1_ := Aside0.mk (Kd.R_drew HO_6.out)
                           have n2_ := Aside0.mk (blk_drew BK101.out)
                           have n3_ := Aside0.mk (below_drew1 HB.out)
                           clear HO_4
                           clear HO_6
                           clear BK101
                           clear HB
                           have HO_4 := n0_
                           have HO_6 := n1_
                           have BK101 := n2_
                           have HB := n3_
                           clear n0_ n1_ n2_ n3_
                           obtain ⟨Ao91, co91, eo91⟩ := Kd.R_slice HO_6.out
                           (first | subst eo91 | (injection eo91 with f1_ f2_ f3_; have f4_ := f1_.symm; have f5_ := f3_.symm; clear f1_ f2_ f3_; subst f4_; subst f5_))
                           have p111 : 0 ≤ (x7_2 : Int) := of_decide_eq_true (by first | (with_reducible assumption) | assumption)
                           have q111 : x7_2 < (x6_3.length : Int) := of_decide_eq_true (by first | (with_reducible assumption) | assumption)
                           obtain ⟨ad111, e111, hx111_0⟩ := Kd.at_int (Kd.R_reads' HO_6.out).2.2 x7_2 p111 q111
                           cases e111
                           replace p111 := eq_true p111
                           replace q111 := eq_true q111
                           have p112 : 0 ≤ ((rd x6_3 x7_2) : Int) := of_decide_eq_true (by first | (with_reducible assumption) | assumption)
                           have q112 : (rd x6_3 x7_2) < (l0_0.length : Int) := of_decide_eq_true (by first | (with_reducible assumption) | assumption)
                           obtain ⟨ad112, A112_0, c112_0, e112, hx112_0, hl112_0, hi112_0⟩ := at_LFace HR0_0.out (rd x6_3 x7_2) p112 q112
                           have hw112_0 := hx112_0
                           cases e112
                           replace hx112_0 := (HB.out.cell (World.block_lt_of_cell? w _ hx112_0)).trans hx112_0
                           have HR112_0 := Aside0.mk hi112_0
                           have HC112_0 := Aside0.mk hl112_0
                           clear hi112_0 hl112_0
                           replace p112 := eq_true p112
                           replace q112 := eq_true q112
                           have p113 : 0 ≤ (x8_3 : Int) := of_decide_eq_true (by first | (with_reducible assumption) | assumption)
                           have q113 : x8_3 < ((rd_LFace l0_0 (rd x6_3 x7_2)).length : Int) := of_decide_eq_true (by first | (with_reducible assumption) | assumption)
                           obtain ⟨ad113, e113, hx113_0, hx113_1⟩ := at_Face HR112_0.out x8_3 p113 q113
                           have hw113_1 := hx113_1
                           have hw113_0 := hx113_0
                           cases e113
                           replace hx113_0 := (HB.out.cell (World.block_lt_of_cell? w _ hx113_0)).trans hx113_0
                           replace hx113_1 := (HB.out.cell (World.block_lt_of_cell? w _ hx113_1)).trans hx113_1
                           replace p113 := eq_true p113
                           replace q113 := eq_true q113
                           refine start_ (n := 13) (S := fun w' => w'.cell? ⟨gb101, 0, none⟩ = some (.slice (some ad112) l0_0.length c0_0) ∧ w'.cell? (ad111.add (x7_2).toNat) = some (.int .i64 (rd x6_3 x7_2)) ∧ w'.cell? (ad112.add ((rd x6_3 x7_2)).toNat) = some (.slice (some ad113) (rd_LFace l0_0 (rd x6_3 x7_2)).length c112_0) ∧ w'.cell? (ad113.add ((x8_3).toNat * 2)) = some (.int .i64 ((rd_Face (rd_LFace l0_0 (rd x6_3 x7_2)) x8_3).f0)) ∧ w'.cell? ⟨(ad113.add ((x8_3).toNat * 2)).block, (ad113.add ((x8_3).toNat * 2)).off + 1, none⟩ = some (.int .i64 ((rd_Face (rd_LFace l0_0 (rd x6_3 x7_2)) x8_3).f1))) (ds := []) #[false, false, false, false, false, false, false, false, false, false, false, false, false] (by kernel_rfl) rfl rfl ⟨(blk_cell BK101.out 0).trans rfl, hx111_0, ((HB.out.cell (World.block_lt_of_cell? w _ hw112_0)).trans hw112_0), ((HB.out.cell (World.block_lt_of_cell? w _ hw113_0)).trans hw113_0), ((HB.out.cell (World.block_lt_of_cell? w _ hw113_1)).trans hw113_1)⟩ (fun hHeld => ?_); refine with_tabW spec_l10Signs.tab14 spec_l10Signs.bits14 (fun HT_ HW_ => ?_)
                           generalize wr.drew = w90 at HO_4 HO_6 BK101 HB HR112_0 hx111_0 hx112_0 hx113_0 hx113_1 hHeld ⊢
                           refine pure_ (i := 0) (N := some 41) (v := ?_) (a' := ?_) #[true, false, false, false, false, false, false, false, false, false, false, false, false] rfl rfl (any_of HT_.out (by kernel_rfl)) (fun _ _ _ h => h) (Or.inl ⟨by rfl, ?_⟩) ?_ ?_
                           rotate_left
                           next =>
                            intro w'
                            go_simp
                            with_reducible rfl
                           rotate_left
                           next =>
                            simp only [Act.put, List.setIfInBounds_toArray, List.set_cons_zero, List.set_cons_succ, i64_w, i32_w]
                            rfl
                           refine pure_ (i := 2) (N := some 43) (v := ?_) (a' := ?_) #[true, false, true, false, false, false, false, false, false, false, false, false, false] rfl rfl (any_of HT_.out (by kernel_rfl)) (fun _ _ _ h => h) (Or.inl ⟨by rfl, ?_⟩) ?_ ?_
                           rotate_left
                           next =>
                            intro w'
                            go_simp
                            with_reducible rfl
                           rotate_left
                           next =>
                            simp only [Act.put, List.setIfInBounds_toArray, List.set_cons_zero, List.set_cons_succ, i64_w, i32_w]
                            rfl
                           refine pure_ (i := 3) (N := some 44) (v := ?_) (a' := ?_) #[true, false, true, true, false, false, false, false, false, false, false, false, false] rfl rfl (any_of HT_.out (by kernel_rfl)) (fun _ _ _ h => h) (Or.inl ⟨by rfl, ?_⟩) ?_ ?_
                           rotate_left
                           next =>
                            intro w'
                            go_simp
                            with_reducible rfl
                           rotate_left
                           next =>
                            simp only [Act.put, List.setIfInBounds_toArray, List.set_cons_zero, List.set_cons_succ, i64_w, i32_w]
                            rfl
                           refine pure_ (i := 4) (N := some 45) (v := ?_) (a' := ?_) #[true, false, true, true, true, false, false, false, false, false, false, false, false] rfl rfl (any_of HT_.out (by kernel_rfl)) (fun _ _ _ h => h) (Or.inl ⟨by rfl, ?_⟩) ?_ ?_
                           rotate_left
                           next =>
                            intro w'
                            go_simp
                            with_reducible rfl
                           rotate_left
                           next =>
                            simp only [Act.put, List.setIfInBounds_toArray, List.set_cons_zero, List.set_cons_succ, i64_w, i32_w]
                            rfl
                           refine pure_ (i := 8) (N := some 49) (v := ?_) (a' := ?_) #[true, false, true, true, true, false, false, false, true, false, false, false, false] rfl rfl (any_of HT_.out (by kernel_rfl)) (fun _ _ _ h => h) (Or.inl ⟨by rfl, ?_⟩) ?_ ?_
                           rotate_left
                           next =>
                            intro w'
                            go_simp
                            with_reducible rfl
                           rotate_left
                           next =>
                            simp only [Act.put, List.setIfInBounds_toArray, List.set_cons_zero, List.set_cons_succ, i64_w, i32_w]
                            rfl
                           refine take_ (i := 1) (N := some 42) (v := ?_) (a' := ?_) #[true, true, true, true, true, false, false, false, true, false, false, false, false] rfl rfl (take_ofW HT_.out HW_.out (by kernel_rfl)) (fun _ _ _ h => h) (Or.inl ⟨by rfl, ?_⟩) hHeld ?_ ?_
                           rotate_left
                           next =>
                            rintro w' ⟨s0, s1, s2, s3, s4⟩
                            go_simp
                            with_reducible rfl
                           rotate_left
                           next =>
                            simp only [Act.put, List.setIfInBounds_toArray, List.set_cons_zero, List.set_cons_succ, i64_w, i32_w]
                            rfl
                           refine take_ (i := 5) (N := some 46) (v := ?_) (a' := ?_) #[true, true, true, true, true, true, false, false, true, false, false, false, false] rfl rfl (take_ofW HT_.out HW_.out (by kernel_rfl)) (fun _ _ _ h => h) (Or.inl ⟨by rfl, ?_⟩) hHeld ?_ ?_
                           rotate_left
                           next =>
                            rintro w' ⟨s0, s1, s2, s3, s4⟩
                            go_simp
                            with_reducible rfl
                           rotate_left
                           next =>
                            simp only [Act.put, List.setIfInBounds_toArray, List.set_cons_zero, List.set_cons_succ, i64_w, i32_w]
                            rfl
                           refine pure_ (i := 6) (N := some 47) (v := ?_) (a' := ?_) #[true, true, true, true, true, true, true, false, true, false, false, false, false] rfl rfl (any_of HT_.out (by kernel_rfl)) (fun _ _ _ h => h) (Or.inl ⟨by rfl, ?_⟩) ?_ ?_
                           rotate_left
                           next =>
                            intro w'
                            go_simp
                            with_reducible rfl
                           rotate_left
                           next =>
                            simp only [Act.put, List.setIfInBounds_toArray, List.set_cons_zero, List.set_cons_succ, i64_w, i32_w]
                            rfl
                           refine take_ (i := 7) (N := some 48) (v := ?_) (a' := ?_) #[true, true, true, true, true, true, true, true, true, false, false, false, false] rfl rfl (take_ofW HT_.out HW_.out (by kernel_rfl)) (fun _ _ _ h => h) (Or.inl ⟨by rfl, ?_⟩) hHeld ?_ ?_
                           rotate_left
                           next =>
                            rintro w' ⟨s0, s1, s2, s3, s4⟩
                            go_simp
                            with_reducible rfl
                           rotate_left
                           next =>
                            simp only [Act.put, List.setIfInBounds_toArray, List.set_cons_zero, List.set_cons_succ, i64_w, i32_w]
                            rfl
                           refine pure_ (i := 9) (N := some 50) (v := ?_) (a' := ?_) #[true, true, true, true, true, true, true, true, true, true, false, false, false] rfl rfl (any_of HT_.out (by kernel_rfl)) (fun _ _ _ h => h) (Or.inl ⟨by rfl, ?_⟩) ?_ ?_
                           rotate_left
                           next =>
                            intro w'
                            go_simp
                            with_reducible rfl
                           rotate_left
                           next =>
                            simp only [Act.put, List.setIfInBounds_toArray, List.set_cons_zero, List.set_cons_succ, i64_w, i32_w]
                            rfl
                           refine take_ (i := 10) (N := some 51) (v := ?_) (a' := ?_) #[true, true, true, true, true, true, true, true, true, true, true, false, false] rfl rfl (take_ofW HT_.out HW_.out (by kernel_rfl)) (fun _ _ _ h => h) (Or.inl ⟨by rfl, ?_⟩) hHeld ?_ ?_
                           rotate_left
                           next =>
                            rintro w' ⟨s0, s1, s2, s3, s4⟩
                            go_simp
                            with_reducible rfl
                           rotate_left
                           next =>
                            simp only [Act.put, List.setIfInBounds_toArray, List.set_cons_zero, List.set_cons_succ, i64_w, i32_w]
                            rfl
                           refine one_ (i := 11) (N := some 9) #[true, true, true, true, true, true, true, true, true, true, true, true, false] rfl rfl (one_of HT_.out (by kernel_rfl)) (by decide) (fun K hK => ?_)
                           refine box_step ?hg (N := 9) ?hd (cs := #[.int .i64 0, .int .i64 0]) (t := 66) ?hr ?_; (case hd => rfl); (case hg => rfl); (case hr => first | (go_simp; done) | (go_simp; rfl))
                           intro gb114 hg w92 hbox hb
                           have HS1_ := (hb.cell (World.block_lt_of_cell? _ _ (hHeld.2.1))).trans (hHeld.2.1)
                           have n0_ := Aside0.mk (Kd.R_below (by (with_reducible repeat (first | apply Kd.R_alloc | apply Kd.R_drewN | apply Kd.R_drew)); exact HO_4.out) hb)
                           have n1_ := Aside0.mk (Kd.R_below (by (with_reducible repeat (first | apply Kd.R_alloc | apply Kd.R_drewN | apply Kd.R_drew)); exact HO_6.out) hb)
                           have n2_ := Aside0.mk (blk_below (g := gb101) (o := .cells #[.slice (some ad112) l0_0.length c0_0] 29 (0, 0)) (by (with_reducible repeat (first | refine blk_drewN ?_ _ | refine blk_drew ?_ | refine blk_alloc ?_ _)); exact BK101.out) hb)
                           have n3_ := Aside0.mk (below_step (by repeat (first | (with_reducible first | exact HB.out | apply below_alloc | apply pw_below_drewN | apply below_drew1 | refine below_set ?_ GE101.out) | exact HB.out)) hb)
                           have n4_ := Aside0.mk (hbox)
                           have n5_ := Aside0.mk ((by rw [hg]; exact (below_size (by repeat (first | (with_reducible first | exact HB.out | apply below_alloc | apply pw_below_drewN | apply below_drew1 | refine below_set ?_ GE101.out) | exact HB.out))) : w.heap.size ≤ gb114))
                           have n6_ := Aside0.mk ((by rw [hg]; exact (below_size (by repeat (first | (with_reducible first | exact HB.out | apply below_alloc | apply pw_below_drewN | apply below_drew1 | refine below_set ?_ GE101.out) | exact HB.out))) : w.heap.size ≤ gb114))
                           have n7_ := Aside0.mk ((by rw [hg]; exact Nat.ne_of_lt (blk_lt (g := gb101) (o := .cells #[.slice (some ad112) l0_0.length c0_0] 29 (0, 0)) (by (with_reducible repeat (first | refine blk_drewN ?_ _ | refine blk_drew ?_ | refine blk_alloc ?_ _)); exact BK101.out)) : gb101 ≠ gb114))
                           have n8_ := Aside0.mk ((by rw [hg]; exact Nat.ne_of_gt (blk_lt (g := gb101) (o := .cells #[.slice (some ad112) l0_0.length c0_0] 29 (0, 0)) (by (with_reducible repeat (first | refine blk_drewN ?_ _ | refine blk_drew ?_ | refine blk_alloc ?_ _)); exact BK101.out)) : gb114 ≠ gb101))
                           clear HO_4
                           clear HO_6
                           clear BK101
                           clear HB
                           have HO_4 := n0_
                           have HO_6 := n1_
                           have BK101 := n2_
                           have HB := n3_
                           have BK114 := n4_
                           have GW114 := n5_
                           have GE114 := n6_
                           have NB101_114 := n7_
                           have NB114_101 := n8_
                           clear n0_ n1_ n2_ n3_ n4_ n5_ n6_ n7_ n8_
                           clear hb hbox hg
                           refine hK.out _ _ ⟨(blk_cell BK101.out 0).trans rfl, HS1_, ((HB.out.cell (World.block_lt_of_cell? w _ hw112_0)).trans hw112_0), ((HB.out.cell (World.block_lt_of_cell? w _ hw113_0)).trans hw113_0), ((HB.out.cell (World.block_lt_of_cell? w _ hw113_1)).trans hw113_1)⟩ (fun hHeld => ?_)
                           clear hK K
                           refine norm_ (a' := ?_) ?_ ?_
                           rotate_left
                           next =>
                            show Act.put _ (some 9) _ = _
                            simp only [Act.put, List.setIfInBounds_toArray, List.set_cons_zero, List.set_cons_succ, i64_w, i32_w]
                            rfl
                           refine one_ (i := 12) (N := none) #[true, true, true, true, true, true, true, true, true, true, true, true, true] rfl rfl (one_of HT_.out (by kernel_rfl)) (by decide) (fun K hK => ?_)
                           have hs93 : w92.cell? ⟨gb114, 0, none⟩ = some (.int .i64 0) := (blk_cell BK114.out 0).trans rfl
                           have hfs93 := blk_frozen BK114.out 0
                           have hns93_0 := NB101_114.out
                           have hms93_0 := NB114_101.out
                           have hs94 : w92.cell? ⟨gb114, 1, none⟩ = some (.int .i64 0) := (blk_cell BK114.out 1).trans rfl
                           have hfs94 := blk_frozen BK114.out 1
                           have hns94_0 := NB101_114.out
                           have hms94_0 := NB114_101.out
                           refine skip_ (w1 := ?_) (by rfl) rfl ?_ ?_
                           rotate_left
                           next =>
                            go_simp
                            rfl
                           refine hK.out _ _ ⟨((cell_far (p := ⟨gb114, _, none⟩) NB101_114.out _).trans (((cell_far (p := ⟨gb114, _, none⟩) NB101_114.out _).trans (hHeld.1)))), ((cell_far (p := ⟨gb114, _, none⟩) (by first | exact Kd.own_blk (Kd.R_ne HO_6.out BK114.out (by decide)) | (rw [add_block]; exact Kd.own_blk (Kd.R_ne HO_6.out BK114.out (by decide))) | (show (Addr.add _ _).block ≠ _; rw [add_block]; exact Kd.own_blk (Kd.R_ne HO_6.out BK114.out (by decide))) | (dsimp only; exact Kd.own_blk (Kd.R_ne HO_6.out BK114.out (by decide)))) _).trans (((cell_far (p := ⟨gb114, _, none⟩) (by first | exact Kd.own_blk (Kd.R_ne HO_6.out BK114.out (by decide)) | (rw [add_block]; exact Kd.own_blk (Kd.R_ne HO_6.out BK114.out (by decide))) | (show (Addr.add _ _).block ≠ _; rw [add_block]; exact Kd.own_blk (Kd.R_ne HO_6.out BK114.out (by decide))) | (dsimp only; exact Kd.own_blk (Kd.R_ne HO_6.out BK114.out (by decide)))) _).trans (hHeld.2.1)))), ((cell_far (p := ⟨gb114, _, none⟩) (by first | exact Nat.ne_of_lt (Nat.lt_of_lt_of_le (by have := World.block_lt_of_cell? _ _ hw112_0; first | rwa [add_block] at this | exact this) GW114.out) | (rw [add_block]; exact Nat.ne_of_lt (Nat.lt_of_lt_of_le (by have := World.block_lt_of_cell? _ _ hw112_0; first | rwa [add_block] at this | exact this) GW114.out)) | (show (Addr.add _ _).block ≠ _; rw [add_block]; exact Nat.ne_of_lt (Nat.lt_of_lt_of_le (by have := World.block_lt_of_cell? _ _ hw112_0; first | rwa [add_block] at this | exact this) GW114.out)) | (dsimp only; exact Nat.ne_of_lt (Nat.lt_of_lt_of_le (by have := World.block_lt_of_cell? _ _ hw112_0; first | rwa [add_block] at this | exact this) GW114.out))) _).trans (((cell_far (p := ⟨gb114, _, none⟩) (by first | exact Nat.ne_of_lt (Nat.lt_of_lt_of_le (by have := World.block_lt_of_cell? _ _ hw112_0; first | rwa [add_block] at this | exact this) GW114.out) | (rw [add_block]; exact Nat.ne_of_lt (Nat.lt_of_lt_of_le (by have := World.block_lt_of_cell? _ _ hw112_0; first | rwa [add_block] at this | exact this) GW114.out)) | (show (Addr.add _ _).block ≠ _; rw [add_block]; exact Nat.ne_of_lt (Nat.lt_of_lt_of_le (by have := World.block_lt_of_cell? _ _ hw112_0; first | rwa [add_block] at this | exact this) GW114.out)) | (dsimp only; exact Nat.ne_of_lt (Nat.lt_of_lt_of_le (by have := World.block_lt_of_cell? _ _ hw112_0; first | rwa [add_block] at this | exact this) GW114.out))) _).trans (hHeld.2.2.1)))), ((cell_far (p := ⟨gb114, _, none⟩) (by first | exact Nat.ne_of_lt (Nat.lt_of_lt_of_le (by have := World.block_lt_of_cell? _ _ hw113_0; first | rwa [add_block] at this | exact this) GW114.out) | (rw [add_block]; exact Nat.ne_of_lt (Nat.lt_of_lt_of_le (by have := World.block_lt_of_cell? _ _ hw113_0; first | rwa [add_block] at this | exact this) GW114.out)) | (show (Addr.add _ _).block ≠ _; rw [add_block]; exact Nat.ne_of_lt (Nat.lt_of_lt_of_le (by have := World.block_lt_of_cell? _ _ hw113_0; first | rwa [add_block] at this | exact this) GW114.out)) | (dsimp only; exact Nat.ne_of_lt (Nat.lt_of_lt_of_le (by have := World.block_lt_of_cell? _ _ hw113_0; first | rwa [add_block] at this | exact this) GW114.out))) _).trans (((cell_far (p := ⟨gb114, _, none⟩) (by first | exact Nat.ne_of_lt (Nat.lt_of_lt_of_le (by have := World.block_lt_of_cell? _ _ hw113_0; first | rwa [add_block] at this | exact this) GW114.out) | (rw [add_block]; exact Nat.ne_of_lt (Nat.lt_of_lt_of_le (by have := World.block_lt_of_cell? _ _ hw113_0; first | rwa [add_block] at this | exact this) GW114.out)) | (show (Addr.add _ _).block ≠ _; rw [add_block]; exact Nat.ne_of_lt (Nat.lt_of_lt_of_le (by have := World.block_lt_of_cell? _ _ hw113_0; first | rwa [add_block] at this | exact this) GW114.out)) | (dsimp only; exact Nat.ne_of_lt (Nat.lt_of_lt_of_le (by have := World.block_lt_of_cell? _ _ hw113_0; first | rwa [add_block] at this | exact this) GW114.out))) _).trans (hHeld.2.2.2.1)))), ((cell_far (p := ⟨gb114, _, none⟩) (by first | exact Nat.ne_of_lt (Nat.lt_of_lt_of_le (by have := World.block_lt_of_cell? _ _ hw113_1; first | rwa [add_block] at this | exact this) GW114.out) | (rw [add_block]; exact Nat.ne_of_lt (Nat.lt_of_lt_of_le (by have := World.block_lt_of_cell? _ _ hw113_1; first | rwa [add_block] at this | exact this) GW114.out)) | (show (Addr.add _ _).block ≠ _; rw [add_block]; exact Nat.ne_of_lt (Nat.lt_of_lt_of_le (by have := World.block_lt_of_cell? _ _ hw113_1; first | rwa [add_block] at this | exact this) GW114.out)) | (dsimp only; exact Nat.ne_of_lt (Nat.lt_of_lt_of_le (by have := World.block_lt_of_cell? _ _ hw113_1; first | rwa [add_block] at this | exact this) GW114.out))) _).trans (((cell_far (p := ⟨gb114, _, none⟩) (by first | exact Nat.ne_of_lt (Nat.lt_of_lt_of_le (by have := World.block_lt_of_cell? _ _ hw113_1; first | rwa [add_block] at this | exact this) GW114.out) | (rw [add_block]; exact Nat.ne_of_lt (Nat.lt_of_lt_of_le (by have := World.block_lt_of_cell? _ _ hw113_1; first | rwa [add_block] at this | exact this) GW114.out)) | (show (Addr.add _ _).block ≠ _; rw [add_block]; exact Nat.ne_of_lt (Nat.lt_of_lt_of_le (by have := World.block_lt_of_cell? _ _ hw113_1; first | rwa [add_block] at this | exact this) GW114.out)) | (dsimp only; exact Nat.ne_of_lt (Nat.lt_of_lt_of_le (by have := World.block_lt_of_cell? _ _ hw113_1; first | rwa [add_block] at this | exact this) GW114.out))) _).trans (hHeld.2.2.2.2))))⟩ (fun hHeld => ?_)
                           clear hK K
                           refine done_ (done_of HT_.out (by kernel_rfl)) ?_
                           have hnb95 := NB114_101.out
                           have hnc95 := NB101_114.out
                           have hcz96_0 : w92.cell? ⟨gb114, 0, none⟩ = some (.int .i64 0) := (blk_cell BK114.out 0).trans rfl
                           have hcz96_1 : w92.cell? ⟨gb114, 1, none⟩ = some (.int .i64 0) := (blk_cell BK114.out 1).trans rfl
                           have hfz96_0 := blk_frozen BK114.out 0
                           have hfz96_1 := blk_frozen BK114.out 1
                           try go_wp2
                           have n0_ : Aside0 (Kd.R (Kd.int .i64) 2 ((w92.setCell ⟨gb114, 0, none⟩ (.int .i64 ((rd_Face (rd_LFace l0_0 (rd x6_3 x7_2)) x8_3).f0))).setCell ⟨gb114, 1, none⟩ (.int .i64 ((rd_Face (rd_LFace l0_0 (rd x6_3 x7_2)) x8_3).f1))) w.heap.size (fun k_ => some k_ ≠ (.slice (some ad111) x6_3.length co91 : Value).ownBlock) (.slice (some ⟨go13, 0, none⟩) x4_3.length co16) x4_3) := ⟨by (with_reducible repeat (first | apply Kd.R_alloc | apply Kd.R_drewN | apply Kd.R_drew)); exact Kd.R_mono (Kd.R_far (p := ⟨gb114, 1, none⟩) (Kd.R_far (p := ⟨gb114, 0, none⟩) (Kd.R_types HO_4.out BK114.out (by decide)) (fun _ hk => hk.2) (.int .i64 ((rd_Face (rd_LFace l0_0 (rd x6_3 x7_2)) x8_3).f0))) (fun _ hk => hk.2) (.int .i64 ((rd_Face (rd_LFace l0_0 (rd x6_3 x7_2)) x8_3).f1))) (fun _ hk => hk.1)⟩
                           have n1_ : Aside0 (Kd.R (Kd.int .i64) 2 ((w92.setCell ⟨gb114, 0, none⟩ (.int .i64 ((rd_Face (rd_LFace l0_0 (rd x6_3 x7_2)) x8_3).f0))).setCell ⟨gb114, 1, none⟩ (.int .i64 ((rd_Face (rd_LFace l0_0 (rd x6_3 x7_2)) x8_3).f1))) w.heap.size (fun k_ => some k_ ≠ (.slice (some ⟨go13, 0, none⟩) x4_3.length co16 : Value).ownBlock) (.slice (some ad111) x6_3.length co91) x6_3) := ⟨by (with_reducible repeat (first | apply Kd.R_alloc | apply Kd.R_drewN | apply Kd.R_drew)); exact Kd.R_mono (Kd.R_far (p := ⟨gb114, 1, none⟩) (Kd.R_far (p := ⟨gb114, 0, none⟩) (Kd.R_types HO_6.out BK114.out (by decide)) (fun _ hk => hk.2) (.int .i64 ((rd_Face (rd_LFace l0_0 (rd x6_3 x7_2)) x8_3).f0))) (fun _ hk => hk.2) (.int .i64 ((rd_Face (rd_LFace l0_0 (rd x6_3 x7_2)) x8_3).f1))) (fun _ hk => hk.1)⟩
                           have n2_ : Aside0 (((w92.setCell ⟨gb114, 0, none⟩ (.int .i64 ((rd_Face (rd_LFace l0_0 (rd x6_3 x7_2)) x8_3).f0))).setCell ⟨gb114, 1, none⟩ (.int .i64 ((rd_Face (rd_LFace l0_0 (rd x6_3 x7_2)) x8_3).f1))).heap[gb101]? = some (.cells #[.slice (some ad112) l0_0.length c0_0] 29 (0, 0))) := ⟨by (with_reducible repeat (first | refine blk_drewN ?_ _ | refine blk_drew ?_ | refine blk_alloc ?_ _)); refine blk_far ?_ NB101_114.out _; (with_reducible repeat (first | refine blk_drewN ?_ _ | refine blk_drew ?_ | refine blk_alloc ?_ _)); refine blk_far ?_ NB101_114.out _; (with_reducible repeat (first | refine blk_drewN ?_ _ | refine blk_drew ?_ | refine blk_alloc ?_ _)); exact BK101.out⟩
                           have n3_ : Aside0 (((w92.setCell ⟨gb114, 0, none⟩ (.int .i64 ((rd_Face (rd_LFace l0_0 (rd x6_3 x7_2)) x8_3).f0))).setCell ⟨gb114, 1, none⟩ (.int .i64 ((rd_Face (rd_LFace l0_0 (rd x6_3 x7_2)) x8_3).f1))).heap[gb114]? = some (.cells #[.int .i64 ((rd_Face (rd_LFace l0_0 (rd x6_3 x7_2)) x8_3).f0), .int .i64 ((rd_Face (rd_LFace l0_0 (rd x6_3 x7_2)) x8_3).f1)] 66 (0, 0))) := ⟨by (with_reducible repeat (first | refine blk_drewN ?_ _ | refine blk_drew ?_ | refine blk_alloc ?_ _)); refine blk_put (cs := #[.int .i64 ((rd_Face (rd_LFace l0_0 (rd x6_3 x7_2)) x8_3).f0), .int .i64 0]) ?_ 1 _ rfl; (with_reducible repeat (first | refine blk_drewN ?_ _ | refine blk_drew ?_ | refine blk_alloc ?_ _)); refine blk_put (cs := #[.int .i64 0, .int .i64 0]) ?_ 0 _ rfl; (with_reducible repeat (first | refine blk_drewN ?_ _ | refine blk_drew ?_ | refine blk_alloc ?_ _)); exact BK114.out⟩
                           have n4_ : Aside0 (Below w.heap.size w ((w92.setCell ⟨gb114, 0, none⟩ (.int .i64 ((rd_Face (rd_LFace l0_0 (rd x6_3 x7_2)) x8_3).f0))).setCell ⟨gb114, 1, none⟩ (.int .i64 ((rd_Face (rd_LFace l0_0 (rd x6_3 x7_2)) x8_3).f1)))) := ⟨by repeat (first | (with_reducible first | exact HB.out | apply below_alloc | apply pw_below_drewN | apply below_drew1 | refine below_set ?_ GE101.out | refine below_set ?_ GE114.out) | exact HB.out)⟩
                           (try clear HO_4)
                           (try clear HO_6)
                           (try clear BK101)
                           (try clear BK114)
                           (try clear HB)
                           generalize ((w92.setCell ⟨gb114, 0, none⟩ (.int .i64 ((rd_Face (rd_LFace l0_0 (rd x6_3 x7_2)) x8_3).f0))).setCell ⟨gb114, 1, none⟩ (.int .i64 ((rd_Face (rd_LFace l0_0 (rd x6_3 x7_2)) x8_3).f1))) = w97 at n0_ n1_ n2_ n3_ n4_ ⊢
                           have HO_4 := n0_
                           have HO_6 := n1_
                           have BK101 := n2_
                           have BK114 := n3_
                           have HB := n4_
                           clear n0_ n1_ n2_ n3_ n4_
                           have n0_ := Aside0.mk (Kd.R_drew HO_4.out)
                           have n1_ := Aside0.mk (Kd.R_drew HO_6.out)
                           have n2_ := Aside0.mk (blk_drew BK101.out)
                           have n3_ := Aside0.mk (blk_drew BK114.out)
                           have n4_ := Aside0.mk (below_drew1 HB.out)
                           clear HO_4
                           clear HO_6
                           clear BK101
                           clear BK114
                           clear HB
                           have HO_4 := n0_
                           have HO_6 := n1_
                           have BK101 := n2_
                           have BK114 := n3_
                           have HB := n4_
                           clear n0_ n1_ n2_ n3_ n4_
                           have p115 : 0 ≤ (x7_2 : Int) := of_decide_eq_true (by first | (with_reducible assumption) | assumption)
                           have q115 : x7_2 < (x6_3.length : Int) := of_decide_eq_true (by first | (with_reducible assumption) | assumption)
                           obtain ⟨ad115, e115, hx115_0⟩ := Kd.at_int (Kd.R_reads' HO_6.out).2.2 x7_2 p115 q115
                           obtain rfl : ad111 = ad115 := (by injection e115)
                           replace p115 := eq_true p115
                           replace q115 := eq_true q115
                           have p116 : 0 ≤ ((rd x6_3 x7_2) : Int) := of_decide_eq_true (by first | (with_reducible assumption) | assumption)
                           have q116 : (rd x6_3 x7_2) < (x4_3.length : Int) := of_decide_eq_true (by first | (with_reducible assumption) | assumption)
                           obtain ⟨ad116, e116, hx116_0⟩ := Kd.at_int (Kd.R_reads' HO_4.out).2.2 (rd x6_3 x7_2) p116 q116
                           obtain rfl : (⟨go13, 0, none⟩ : Addr) = ad116 := (by injection e116)
                           (first | simp only [add_plain] at hx116_0 | simp only [add_at] at hx116_0 | simp only [Addr.add, Nat.zero_add] at hx116_0 | skip)
                           replace p116 := eq_true p116
                           replace q116 := eq_true q116
                           refine start_ (n := 13) (S := fun w' => w'.cell? ⟨gb114, 0, none⟩ = some (.int .i64 ((rd_Face (rd_LFace l0_0 (rd x6_3 x7_2)) x8_3).f0)) ∧ w'.cell? ⟨gb114, 1, none⟩ = some (.int .i64 ((rd_Face (rd_LFace l0_0 (rd x6_3 x7_2)) x8_3).f1)) ∧ w'.cell? (ad111.add (x7_2).toNat) = some (.int .i64 (rd x6_3 x7_2)) ∧ w'.cell? ⟨go13, ((rd x6_3 x7_2)).toNat, none⟩ = some (.int .i64 (rd x4_3 (rd x6_3 x7_2)))) (ds := []) #[false, false, false, false, false, false, false, false, false, false, false, false, false] (by kernel_rfl) rfl rfl ⟨(blk_cell BK114.out 0).trans rfl, (blk_cell BK114.out 1).trans rfl, hx115_0, hx116_0⟩ (fun hHeld => ?_); refine with_tabW spec_l10Signs.tab16 spec_l10Signs.bits16 (fun HT_ HW_ => ?_)
                           generalize w97.drew = w98 at HO_4 HO_6 BK101 BK114 HB hx115_0 hx116_0 hHeld ⊢
                           refine pure_ (i := 0) (N := some 55) (v := ?_) (a' := ?_) #[true, false, false, false, false, false, false, false, false, false, false, false, false] rfl rfl (any_of HT_.out (by kernel_rfl)) (fun _ _ _ h => h) (Or.inl ⟨by rfl, ?_⟩) ?_ ?_
                           rotate_left
                           next =>
                            intro w'
                            go_simp
                            with_reducible rfl
                           rotate_left
                           next =>
                            simp only [Act.put, List.setIfInBounds_toArray, List.set_cons_zero, List.set_cons_succ, i64_w, i32_w]
                            rfl
                           refine pure_ (i := 1) (N := some 56) (v := ?_) (a' := ?_) #[true, true, false, false, false, false, false, false, false, false, false, false, false] rfl rfl (any_of HT_.out (by kernel_rfl)) (fun _ _ _ h => h) (Or.inl ⟨by rfl, ?_⟩) ?_ ?_
                           rotate_left
                           next =>
                            intro w'
                            go_simp
                            with_reducible rfl
                           rotate_left
                           next =>
                            simp only [Act.put, List.setIfInBounds_toArray, List.set_cons_zero, List.set_cons_succ, i64_w, i32_w]
                            rfl
                           refine pure_ (i := 2) (N := some 57) (v := ?_) (a' := ?_) #[true, true, true, false, false, false, false, false, false, false, false, false, false] rfl rfl (any_of HT_.out (by kernel_rfl)) (fun _ _ _ h => h) (Or.inl ⟨by rfl, ?_⟩) ?_ ?_
                           rotate_left
                           next =>
                            intro w'
                            go_simp
                            with_reducible rfl
                           rotate_left
                           next =>
                            simp only [Act.put, List.setIfInBounds_toArray, List.set_cons_zero, List.set_cons_succ, i64_w, i32_w]
                            rfl
                           refine pure_ (i := 3) (N := some 58) (v := ?_) (a' := ?_) #[true, true, true, true, false, false, false, false, false, false, false, false, false] rfl rfl (any_of HT_.out (by kernel_rfl)) (fun _ _ _ h => h) (Or.inl ⟨by rfl, ?_⟩) ?_ ?_
                           rotate_left
                           next =>
                            intro w'
                            go_simp
                            with_reducible rfl
                           rotate_left
                           next =>
                            simp only [Act.put, List.setIfInBounds_toArray, List.set_cons_zero, List.set_cons_succ, i64_w, i32_w]
                            rfl
                           refine pure_ (i := 8) (N := some 63) (v := ?_) (a' := ?_) #[true, true, true, true, false, false, false, false, true, false, false, false, false] rfl rfl (any_of HT_.out (by kernel_rfl)) (fun _ _ _ h => h) (Or.inl ⟨by rfl, ?_⟩) ?_ ?_
                           rotate_left
                           next =>
                            intro w'
                            go_simp
                            with_reducible rfl
                           rotate_left
                           next =>
                            simp only [Act.put, List.setIfInBounds_toArray, List.set_cons_zero, List.set_cons_succ, i64_w, i32_w]
                            rfl
                           refine take_ (i := 4) (N := some 59) (v := ?_) (a' := ?_) #[true, true, true, true, true, false, false, false, true, false, false, false, false] rfl rfl (take_ofW HT_.out HW_.out (by kernel_rfl)) (fun _ _ _ h => h) (Or.inl ⟨by rfl, ?_⟩) hHeld ?_ ?_
                           rotate_left
                           next =>
                            rintro w' ⟨s0, s1, s2, s3⟩
                            go_simp
                            with_reducible rfl
                           rotate_left
                           next =>
                            simp only [Act.put, List.setIfInBounds_toArray, List.set_cons_zero, List.set_cons_succ, i64_w, i32_w]
                            rfl
                           refine pure_ (i := 5) (N := some 60) (v := ?_) (a' := ?_) #[true, true, true, true, true, true, false, false, true, false, false, false, false] rfl rfl (any_of HT_.out (by kernel_rfl)) (fun _ _ _ h => h) (Or.inl ⟨by rfl, ?_⟩) ?_ ?_
                           rotate_left
                           next =>
                            intro w'
                            go_simp
                            with_reducible rfl
                           rotate_left
                           next =>
                            simp only [Act.put, List.setIfInBounds_toArray, List.set_cons_zero, List.set_cons_succ, i64_w, i32_w]
                            rfl
                           refine take_ (i := 6) (N := some 61) (v := ?_) (a' := ?_) #[true, true, true, true, true, true, true, false, true, false, false, false, false] rfl rfl (take_ofW HT_.out HW_.out (by kernel_rfl)) (fun _ _ _ h => h) (Or.inl ⟨by rfl, ?_⟩) hHeld ?_ ?_
                           rotate_left
                           next =>
                            rintro w' ⟨s0, s1, s2, s3⟩
                            go_simp
                            with_reducible rfl
                           rotate_left
                           next =>
                            simp only [Act.put, List.setIfInBounds_toArray, List.set_cons_zero, List.set_cons_succ, i64_w, i32_w]
                            rfl
                           refine pure_ (i := 7) (N := some 62) (v := ?_) (a' := ?_) #[true, true, true, true, true, true, true, true, true, false, false, false, false] rfl rfl (any_of HT_.out (by kernel_rfl)) (fun _ _ _ h => h) (Or.inl ⟨by rfl, ?_⟩) ?_ ?_
                           rotate_left
                           next =>
                            intro w'
                            go_simp
                            with_reducible rfl
                           rotate_left
                           next =>
                            simp only [Act.put, List.setIfInBounds_toArray, List.set_cons_zero, List.set_cons_succ, i64_w, i32_w]
                            rfl
                           refine take_ (i := 9) (N := some 64) (v := ?_) (a' := ?_) #[true, true, true, true, true, true, true, true, true, true, false, false, false] rfl rfl (take_ofW HT_.out HW_.out (by kernel_rfl)) (fun _ _ _ h => h) (Or.inl ⟨by rfl, ?_⟩) hHeld ?_ ?_
                           rotate_left
                           next =>
                            rintro w' ⟨s0, s1, s2, s3⟩
                            go_simp
                            with_reducible rfl
                           rotate_left
                           next =>
                            simp only [Act.put, List.setIfInBounds_toArray, List.set_cons_zero, List.set_cons_succ, i64_w, i32_w]
                            rfl
                           refine one_ (i := 10) (N := some 65) #[true, true, true, true, true, true, true, true, true, true, true, false, false] rfl rfl (one_of HT_.out (by kernel_rfl)) (by decide) (fun K hK => ?_)
                           refine goes_ Try.func60 (by kernel_rfl) rfl #[.int .i64 ((rd_Face (rd_LFace l0_0 (rd x6_3 x7_2)) x8_3).f1)] (by rfl) rfl rfl (by (try simp only [List.map_toArray, List.map_cons, List.map_nil]); first | done | rfl | (simp only [List.length_drop, List.length_take]; rfl)) ?_
                           with_reducible refine (spec_SignPerm4.calls k3 ((rd_Face (rd_LFace l0_0 (rd x6_3 x7_2)) x8_3).f1) t117 _ A39.out).mono ?_
                           rintro e w99 ⟨rfl, hb⟩
                           have HS2_ := (hb.cell (World.block_lt_of_cell? _ _ (hHeld.2.2.1))).trans (hHeld.2.2.1)
                           have HS3_ := (hb.cell (World.block_lt_of_cell? _ _ (hHeld.2.2.2))).trans (hHeld.2.2.2)
                           refine ⟨_, rfl, ?_⟩
                           have n0_ := Aside0.mk (Kd.R_below (by (with_reducible repeat (first | apply Kd.R_alloc | apply Kd.R_drewN | apply Kd.R_drew)); exact HO_4.out) hb)
                           have n1_ := Aside0.mk (Kd.R_below (by (with_reducible repeat (first | apply Kd.R_alloc | apply Kd.R_drewN | apply Kd.R_drew)); exact HO_6.out) hb)
                           have n2_ := Aside0.mk (blk_below (g := gb101) (o := .cells #[.slice (some ad112) l0_0.length c0_0] 29 (0, 0)) (by (with_reducible repeat (first | refine blk_drewN ?_ _ | refine blk_drew ?_ | refine blk_alloc ?_ _)); exact BK101.out) hb)
                           have n3_ := Aside0.mk (blk_below (g := gb114) (o := .cells #[.int .i64 ((rd_Face (rd_LFace l0_0 (rd x6_3 x7_2)) x8_3).f0), .int .i64 ((rd_Face (rd_LFace l0_0 (rd x6_3 x7_2)) x8_3).f1)] 66 (0, 0)) (by (with_reducible repeat (first | refine blk_drewN ?_ _ | refine blk_drew ?_ | refine blk_alloc ?_ _)); exact BK114.out) hb)
                           have n4_ := Aside0.mk (below_step (by repeat (first | (with_reducible first | exact HB.out | apply below_alloc | apply pw_below_drewN | apply below_drew1 | refine below_set ?_ GE101.out | refine below_set ?_ GE114.out) | exact HB.out)) hb)
                           clear HO_4
                           clear HO_6
                           clear BK101
                           clear BK114
                           clear HB
                           have HO_4 := n0_
                           have HO_6 := n1_
                           have BK101 := n2_
                           have BK114 := n3_
                           have HB := n4_
                           clear n0_ n1_ n2_ n3_ n4_
                           (try clear hb)
                           (try clear hb2)
                           (try clear hk)
                           (try clear hi)
                           refine hK.out _ _ ⟨(blk_cell BK114.out 0).trans rfl, (blk_cell BK114.out 1).trans rfl, HS2_, HS3_⟩ (fun hHeld => ?_)
                           clear hK K
                           refine norm_ (a' := ?_) ?_ ?_
                           rotate_left
                           next =>
                            show Act.put _ (some 65) _ = _
                            simp only [Act.put, List.setIfInBounds_toArray, List.set_cons_zero, List.set_cons_succ, i64_w, i32_w]
                            rfl
                           refine pure_ (i := 11) (N := some 66) (v := ?_) (a' := ?_) #[true, true, true, true, true, true, true, true, true, true, true, true, false] rfl rfl (any_of HT_.out (by kernel_rfl)) (fun _ _ _ h => h) (Or.inl ⟨by rfl, ?_⟩) ?_ ?_
                           rotate_left
                           next =>
                            intro w'
                            go_simp
                            with_reducible rfl
                           rotate_left
                           next =>
                            simp only [Act.put, List.setIfInBounds_toArray, List.set_cons_zero, List.set_cons_succ, i64_w, i32_w]
                            rfl
                           refine pure_ (i := 12) (N := some 10) (v := ?_) (a' := ?_) #[true, true, true, true, true, true, true, true, true, true, true, true, true] rfl rfl (any_of HT_.out (by kernel_rfl)) (fun _ _ _ h => h) (Or.inl ⟨by rfl, ?_⟩) ?_ ?_
                           rotate_left
                           next =>
                            intro w'
                            go_simp
                            with_reducible rfl
                           rotate_left
                           next =>
                            simp only [Act.put, List.setIfInBounds_toArray, List.set_cons_zero, List.set_cons_succ, i64_w, i32_w]
                            rfl
                           refine done_ (done_of HT_.out (by kernel_rfl)) ?_
                           have hcz100_0 : w99.cell? ⟨gb114, 0, none⟩ = some (.int .i64 ((rd_Face (rd_LFace l0_0 (rd x6_3 x7_2)) x8_3).f0)) := (blk_cell BK114.out 0).trans rfl
                           have hcz100_1 : w99.cell? ⟨gb114, 1, none⟩ = some (.int .i64 ((rd_Face (rd_LFace l0_0 (rd x6_3 x7_2)) x8_3).f1)) := (blk_cell BK114.out 1).trans rfl
                           have hfz100_0 := blk_frozen BK114.out 0
                           have hfz100_1 := blk_frozen BK114.out 1
                           have p118 : 0 ≤ (((rd_Face (rd_LFace l0_0 (rd x6_3 x7_2)) x8_3).f0) : Int) := of_decide_eq_true (by first | (with_reducible assumption) | assumption)
                           have q118 : ((rd_Face (rd_LFace l0_0 (rd x6_3 x7_2)) x8_3).f0) < (x4_3.length : Int) := of_decide_eq_true (by first | (with_reducible assumption) | assumption)
                           obtain ⟨ad118, e118, hx118_0⟩ := Kd.at_int (Kd.R_reads' HO_4.out).2.2 ((rd_Face (rd_LFace l0_0 (rd x6_3 x7_2)) x8_3).f0) p118 q118
                           obtain rfl : (⟨go13, 0, none⟩ : Addr) = ad118 := (by injection e118)
                           (first | simp only [add_plain] at hx118_0 | simp only [add_at] at hx118_0 | simp only [Addr.add, Nat.zero_add] at hx118_0 | skip)
                           replace p118 := eq_true p118
                           replace q118 := eq_true q118
                           have p124 : 0 ≤ (((rd_Face (rd_LFace l0_0 (rd x6_3 x7_2)) x8_3).f0) : Int) := of_decide_eq_true (by first | (with_reducible assumption) | assumption)
                           have q124 : ((rd_Face (rd_LFace l0_0 (rd x6_3 x7_2)) x8_3).f0) < (x4_3.length : Int) := of_decide_eq_true (by first | (with_reducible assumption) | assumption)
                           obtain ⟨ad124, e124, hx124_0⟩ := Kd.at_int (Kd.R_reads' HO_4.out).2.2 ((rd_Face (rd_LFace l0_0 (rd x6_3 x7_2)) x8_3).f0) p124 q124
                           obtain rfl : (⟨go13, 0, none⟩ : Addr) = ad124 := (by injection e124)
                           (first | simp only [add_plain] at hx124_0 | simp only [add_at] at hx124_0 | simp only [Addr.add, Nat.zero_add] at hx124_0 | skip)
                           replace p124 := eq_true p124
                           replace q124 := eq_true q124
                           try go_wp2
                           go_ret2
                           exact ⟨_, by first | rfl | (simp [errW_none, errW_some] <;> rfl) | (simp [*, errW_none, errW_some] <;> rfl), by first | exact Kd.R_nil _ _ _ _ _ | exact Kd.N_nil _ _ _ _ _ | exact Kd.V_nil _ _ _ _ _ | exact Kd.Q_nil _ _ _ _ _ | exact Kd.S_nil _ _ _ _ _, by repeat (first | (with_reducible first | exact HB.out | apply below_alloc | apply pw_below_drewN | apply below_drew1 | refine below_set ?_ GE101.out | refine below_set ?_ GE114.out) | exact HB.out)⟩
                        next =>
                         rw [if_neg c41] at H
                         exact absurd H (by simp)
                       next =>
                        rw [if_neg c40] at H
                        exact absurd H (by simp)
                      next =>
                       rw [if_neg c38] at H
                       exact absurd H (by simp)
                    next =>
                     rw [if_neg c29] at H
                     exact absurd H (by simp)
                   next =>
                    rw [if_neg c28] at H
                    exact absurd H (by simp)
                  next =>
                   rw [if_neg c27] at H
                   exact absurd H (by simp)
                 next =>
                  rw [if_neg c26] at H
                  exact absurd H (by simp)
                next =>
                 rw [if_neg c25] at H
                 exact absurd H (by simp)
               next =>
                rw [if_neg c24] at H
                exact absurd H (by simp)
              next =>
               rw [if_neg c23] at H
               have c23b0 : decide (x8_3 < 4) = false := decide_eq_false c23
               (try simp only [hl4_2, hl4_3] at c23b0)
               clear c23
               have H' := Aside0.mk H
               clear H
               go_wp2
               (try simp only [← hl4_2, ← hl4_3])
               go_roundg k3
               case measure => have := HK1.out; have := HK2.out; have := HK3.out; omega
               case rel => exact ⟨(x4_3), (x6_3), (wrap64 (x7_2 + 1)), (by first | rfl | (simp; done) | (simp [*]; done)), H', ⟨by have := HK1.out; have := HK2.out; have := HK3.out; omega⟩, ⟨by (try simp only [hl4_2]); (try simp only [hl4_3]); (with_reducible repeat (first | apply Kd.R_alloc | apply Kd.R_drewN | apply Kd.R_drew)); exact HO_4.out⟩, ⟨by (try simp only [hl4_2]); (try simp only [hl4_3]); (with_reducible repeat (first | apply Kd.R_alloc | apply Kd.R_drewN | apply Kd.R_drew)); exact HO_6.out⟩, ⟨by (try simp only [hl4_2]); (try simp only [hl4_3]); (with_reducible repeat (first | refine blk_drewN ?_ _ | refine blk_drew ?_ | refine blk_alloc ?_ _)); exact BK101.out⟩, ⟨by repeat (first | (with_reducible first | exact HB.out | apply below_alloc | apply pw_below_drewN | apply below_drew1 | refine below_set ?_ GE101.out) | exact HB.out)⟩⟩
           next =>
            rw [if_neg c21] at H
            have c21b0 : decide (x7_2 < (x6_2.length : Int)) = false := decide_eq_false c21
            (try simp only [hl4_2] at c21b0)
            clear c21
            have H' := Aside0.mk H
            clear H
            obtain ⟨Ao101, co101, eo101⟩ := Kd.R_slice HO_6.out
            subst eo101
            go_wp2
            (try simp only [← hl4_2])
            go_roundg k2
            case measure => have := HK1.out; have := HK2.out; omega
            case rel => exact ⟨(x4_2), (wrap64 (x5_1 + 1)), (by first | rfl | (simp; done) | (simp [*]; done)), H', ⟨by have := HK1.out; have := HK2.out; omega⟩, ⟨by (try simp only [hl4_2]); (with_reducible repeat (first | apply Kd.R_alloc | apply Kd.R_drewN | apply Kd.R_drew)); exact Kd.R_mono HO_4.out (fun _ hk => trivial)⟩, ⟨by (try simp only [hl4_2]); (with_reducible repeat (first | refine blk_drewN ?_ _ | refine blk_drew ?_ | refine blk_alloc ?_ _)); exact BK101.out⟩, ⟨by repeat (first | (with_reducible first | exact HB.out | apply below_alloc | apply pw_below_drewN | apply below_drew1 | refine below_set ?_ GE101.out) | exact HB.out)⟩⟩
        next =>
         rw [if_neg c12] at H
         have c12b0 : ((rd x4_1 x5_1) == 0) = false := beq_eq_false_iff_ne.mpr c12
         have c12b1 : ((rd x4_1 x5_1) != 0) = true := bne_iff_ne.mpr c12
         have H' := Aside0.mk H
         clear H
         have hcz102_0 : wr.cell? ⟨gb101, 0, none⟩ = some (.slice A0_0 l0_0.length c0_0) := (blk_cell BK101.out 0).trans rfl
         have hfz102_0 := blk_frozen BK101.out 0
         go_wp2_with (first | ((with_reducible refine gate_callee (f := 70) rfl ?_); refine goesL_ (some 17) rfl rfl Try.func70 (by kernel_rfl) rfl #[.agg #[.slice A0_0 l0_0.length c0_0]] rfl (by (try simp only [List.map_toArray, List.map_cons, List.map_nil]); first | done | rfl | (simp only [List.length_drop, List.length_take]; rfl)) ?_; (with_reducible refine (spec_l07Tets.calls _ _ l0_0 t105 _ ?side1 ?side2 A8.out).mono ?_); (case side1 => repeat (first | exact (Kd.C_below HR0_0.out HB.out) | (with_reducible refine Kd.C_alloc ?_ _) | (with_reducible refine Kd.C_drewN ?_ _) | (with_reducible refine Kd.C_drew ?_))); (case side2 => exact HC0_0.out); rintro e w103 ⟨rfl, hb⟩; refine ⟨_, rfl, ?_⟩; have n0_ := Aside0.mk (Kd.R_below (by (with_reducible repeat (first | apply Kd.R_alloc | apply Kd.R_drewN | apply Kd.R_drew)); exact HO_4.out) hb); have n1_ := Aside0.mk (blk_below (g := gb101) (o := .cells #[.slice A0_0 l0_0.length c0_0] 29 (0, 0)) (by (with_reducible repeat (first | refine blk_drewN ?_ _ | refine blk_drew ?_ | refine blk_alloc ?_ _)); exact BK101.out) hb); have n2_ := Aside0.mk (below_step (by repeat (first | (with_reducible first | exact HB.out | apply below_alloc | apply pw_below_drewN | apply below_drew1 | refine below_set ?_ GE101.out) | exact HB.out)) hb); clear HO_4; clear BK101; clear HB; have HO_4 := n0_; have BK101 := n1_; have HB := n2_; clear n0_ n1_ n2_; (try clear hb); (try clear hb2); (try clear hk); (try clear hi); obtain ⟨Ao104, co104, eo104⟩ := Kd.R_slice HO_4.out; subst eo104; have p106 : 0 ≤ (x5_1 : Int) := of_decide_eq_true (by first | (with_reducible assumption) | assumption); have q106 : x5_1 < (x4_1.length : Int) := of_decide_eq_true (by first | (with_reducible assumption) | assumption); obtain ⟨ad106, e106, hx106_0⟩ := Kd.at_int (Kd.R_reads' HO_4.out).2.2 x5_1 p106 q106; cases e106; replace p106 := eq_true p106; replace q106 := eq_true q106))
         go_roundg k1
         case measure => have := HK1.out; omega
         case rel => exact ⟨(x4_1), (wrap64 (x5_1 + 1)), (by first | rfl | (simp; done) | (simp [*]; done)), H', ⟨by have := HK1.out; omega⟩, ⟨by (with_reducible repeat (first | apply Kd.R_alloc | apply Kd.R_drewN | apply Kd.R_drew)); exact HO_4.out⟩, ⟨by (with_reducible repeat (first | refine blk_drewN ?_ _ | refine blk_drew ?_ | refine blk_alloc ?_ _)); exact BK101.out⟩, ⟨by repeat (first | (with_reducible first | exact HB.out | apply below_alloc | apply pw_below_drewN | apply below_drew1 | refine below_set ?_ GE101.out) | exact HB.out)⟩⟩
       next =>
        rw [if_neg c11] at H
        exact absurd H (by simp)
      next =>
       rw [if_neg c10] at H
       exact absurd H (by simp)
     next =>
      rw [if_neg c9] at H
      have c9b0 : decide (x5_1 < t105) = false := decide_eq_false c9
      clear c9
      simp only [Option.some.injEq, Prod.mk.injEq] at H
      obtain ⟨rfl, rfl⟩ := H
      have hcz105_0 : wr.cell? ⟨gb101, 0, none⟩ = some (.slice A0_0 l0_0.length c0_0) := (blk_cell BK101.out 0).trans rfl
      have hfz105_0 := blk_frozen BK101.out 0
      go_wp2_with (first | ((with_reducible refine gate_callee (f := 70) rfl ?_); refine goesL_ (some 17) rfl rfl Try.func70 (by kernel_rfl) rfl #[.agg #[.slice A0_0 l0_0.length c0_0]] rfl (by (try simp only [List.map_toArray, List.map_cons, List.map_nil]); first | done | rfl | (simp only [List.length_drop, List.length_take]; rfl)) ?_; (with_reducible refine (spec_l07Tets.calls _ _ l0_0 t105 _ ?side1 ?side2 A8.out).mono ?_); (case side1 => repeat (first | exact (Kd.C_below HR0_0.out HB.out) | (with_reducible refine Kd.C_alloc ?_ _) | (with_reducible refine Kd.C_drewN ?_ _) | (with_reducible refine Kd.C_drew ?_))); (case side2 => exact HC0_0.out); rintro e w106 ⟨rfl, hb⟩; refine ⟨_, rfl, ?_⟩; have n0_ := Aside0.mk (Kd.R_below (by (with_reducible repeat (first | apply Kd.R_alloc | apply Kd.R_drewN | apply Kd.R_drew)); exact HO_4.out) hb); have n1_ := Aside0.mk (blk_below (g := gb101) (o := .cells #[.slice A0_0 l0_0.length c0_0] 29 (0, 0)) (by (with_reducible repeat (first | refine blk_drewN ?_ _ | refine blk_drew ?_ | refine blk_alloc ?_ _)); exact BK101.out) hb); have n2_ := Aside0.mk (below_step (by repeat (first | (with_reducible first | exact HB.out | apply below_alloc | apply pw_below_drewN | apply below_drew1 | refine below_set ?_ GE101.out) | exact HB.out)) hb); clear HO_4; clear BK101; clear HB; have HO_4 := n0_; have BK101 := n1_; have HB := n2_; clear n0_ n1_ n2_; (try clear hb); (try clear hb2); (try clear hk); (try clear hi)))
      go_ret2
      exact ⟨_, by first | rfl | (simp [errW_none, errW_some] <;> rfl) | (simp [*, errW_none, errW_some] <;> rfl), by (with_reducible repeat (first | apply Kd.R_alloc | apply Kd.R_drewN | apply Kd.R_drew)); exact HO_4.out, by repeat (first | (with_reducible first | exact HB.out | apply below_alloc | apply pw_below_drewN | apply below_drew1 | refine below_set ?_ GE101.out) | exact HB.out)⟩
  next =>
   rw [if_neg c3] at H
   exact absurd H (by simp)
 next =>
  rw [if_neg c2] at H
  exact absurd H (by simp)
end Go.Proofs.Ytfaagdpopmnnpaa.P
