/- The statement FnExactComponentOfSaid, proved: part 6 of 8 (texts of this session and of the kit's print, put together and cut to what is used by a program of it). -/
import Derived.Test.YtdgdnnjigigkcaaMFnExactComponentOf5
namespace Go.Proofs.Ytdgdnnjigigkcaa.P
open Go.RowKit Go.Proofs.YtdgdnnjigigkcaaW.PrintWords Go.Proofs.YtdgdnnjigigkcaaW.PrintLast Go.Proofs.YtdgdnnjigigkcaaW.PrintMore
attribute [local go_sem] max2_int min2_int max_two min_two max_three min_three max_four min_four   -- for this text's walks alone
set_option linter.unusedVariables false
set_option linter.unusedSimpArgs false
/-! ### spec_l11Part: function 55 -/
mutual
def spec_l11Part.l0 : Nat → Int → List Int → List Int → Int → Int → List (List (SFace)) → Option ((List (List (SFace))))
 | 0, _, _, _, _, _, _ => none
 | k + 1, x1, x5, x6, x7, x8, x102000 => if x8 < (x5.length : Int) then (if x6.length < 17592186044416 then ((some (x6 ++ [x7] : List Int)).bind fun y109 => (if 0 ≤ x8 then (if (rd x5 x8) = x1 then (spec_l11Part.l0 k x1 x5 y109 (wrap64 (x7 + 1)) (wrap64 (x8 + 1)) x102000) else (spec_l11Part.l0 k x1 x5 y109 x7 (wrap64 (x8 + 1)) x102000)) else (none))) else (none)) else (spec_l11Part.l1 k x1 x5 x6 0 x102000 ([] : List (List (SFace))))
def spec_l11Part.l1 : Nat → Int → List Int → List Int → Int → List (List (SFace)) → List (List (SFace)) → Option ((List (List (SFace))))
 | 0, _, _, _, _, _, _ => none
 | k + 1, x1, x5, x6, x10, x102000, x114000 => if x10 < (x5.length : Int) then (if 0 ≤ x10 then (if (rd x5 x10) = x1 then ((some (([] : List (SFace)) : List (SFace))).bind fun y115 => (if x10 < (x102000.length : Int) then (if y115.length + (rd_LFace x102000 x10).length < 8796093022208 then (spec_l11Part.l2 k x1 x5 x6 x10 (y115 ++ (rd_LFace x102000 x10)) 0 x102000 x114000) else (none)) else (none))) else (spec_l11Part.l1 k x1 x5 x6 (wrap64 (x10 + 1)) x102000 x114000)) else (none)) else (some x114000)
def spec_l11Part.l2 : Nat → Int → List Int → List Int → Int → List (SFace) → Int → List (List (SFace)) → List (List (SFace)) → Option ((List (List (SFace))))
 | 0, _, _, _, _, _, _, _, _ => none
 | k + 1, x1, x5, x6, x10, x11, x12, x102000, x114000 => if x12 < 4 then (if 0 ≤ x12 then (if x12 < (x11.length : Int) then (if ((rd_Face x11 x12).f0) ≥ 0 then (if 0 ≤ ((rd_Face x11 x12).f0) then (if ((rd_Face x11 x12).f0) < (x6.length : Int) then (spec_l11Part.l2 k x1 x5 x6 x10 (x11.set (x12 : Int).toNat (⟨rd x6 ((rd_Face x11 x12).f0), (rd_Face x11 x12).f1⟩ : SFace)) (wrap64 (x12 + 1)) x102000 x114000) else (none)) else (none)) else (spec_l11Part.l2 k x1 x5 x6 x10 x11 (wrap64 (x12 + 1)) x102000 x114000)) else (none)) else (none)) else (if x114000.length < 5864062014805 then (spec_l11Part.l1 k x1 x5 x6 (wrap64 (x10 + 1)) x102000 (x114000 ++ [x11])) else (none))
end
def spec_l11Part.f (k : Nat) (l0_0 : List (List (SFace))) (a1 : Int) : Option ((List (List (SFace)))) := (spec_l07Parts.f k l0_0).bind fun t103 => (spec_l11Part.l0 k a1 t103 (([] : List Int)) 0 0 l0_0)
def spec_l11Part.T20 : Bool × List (List Nat × List Nat) := (true, [([], []), ([], []), ([], []), ([], []), ([], []), ([3, 4], [3, 4]), ([5], [5]), ([6], [6]), ([2, 7], [2, 7]), ([8], [8]), ([], []), ([], []), ([10, 11], [10, 11]), ([12], [12]), ([13], [13]), ([9, 14], [9, 14]), ([0, 1, 0, 1, 2, 3, 4, 5, 6, 7, 8, 9, 10, 11, 12, 13, 14, 15], [0, 1]), ([16, 15, 0, 1, 2, 3, 4, 5, 6, 7, 8, 9, 10, 11, 12, 13, 14, 15], [15, 16])])
def spec_l11Part.B20 : List Nat := [0, 0, 0, 0, 0, 24, 56, 120, 252, 508, 0, 0, 3072, 7168, 15360, 32764, 65535, 131071]
theorem spec_l11Part.tab20 : rtab .any (opsOf Try.f55 20) = spec_l11Part.T20 := by kernel_rfl
theorem spec_l11Part.bits20 : waitsOk spec_l11Part.T20.2 spec_l11Part.B20 = true := by kernel_rfl
set_option maxHeartbeats 8000000 in
set_option maxRecDepth 100000 in
theorem spec_l11Part.calls (k : Nat) (A0_0 : Option Addr) (c0_0 : Nat) (l0_0 : List (List (SFace))) (a1 : Int) (r : List (List (SFace))) (w : World) (hr0_0 : Kd.C (Kd.slice 74 kFace) w A0_0 l0_0.length l0_0) (hc0_0 : l0_0.length ≤ c0_0) (h : spec_l11Part.f k l0_0 a1 = some r) :
 Calls Try.prog 55 #[.agg #[.slice A0_0 l0_0.length c0_0], .int .i64 a1] w fun e w' => ∃ v0_ : Value, e = .returned (.agg #[v0_]) ∧ Kd.S (Kd.slice 74 kFace) 75 w' w.heap.size (fun _ => True) v0_ r ∧ Below w.heap.size w w' := by
 have hu28 := Try.underlying28
 have hu74 := Try.underlying74
 have HR0_0 := Aside0.mk hr0_0
 have HC0_0 := Aside0.mk hc0_0
 clear hr0_0 hc0_0
 have HB := Aside0.mk (Below.refl w.heap.size w)
 have H : ((spec_l07Parts.f k l0_0).bind fun t103 => (spec_l11Part.l0 k a1 t103 (([] : List Int)) 0 0 l0_0)) = some r := h
 clear h
 replace H := ydy.mp H
 obtain ⟨t103, A30, H⟩ := H
 replace H : (spec_l11Part.l0 k a1 t103 (([] : List Int)) 0 0 l0_0) = some r := H
 have A3 := Aside0.mk A30
 clear A30
 obtain ⟨y106, hy106⟩ : ∃ y_ : List Int, y_ = (([] : List Int)) := ⟨_, rfl⟩
 replace H : (spec_l11Part.l0 k a1 t103 y106 0 0 l0_0) = some r := by first | (rw [hy106]; with_reducible exact H) | (have H2_ := (yfy _ _).symm.trans H; rw [hy106]; with_reducible exact H2_) | (have H2_ := (yfy _ _).symm.trans H; with_reducible exact H2_) | with_reducible exact H | (rw [hy106]; exact H) | exact H
 have Ny106 := Aside0.mk hy106
 clear hy106
 have H' := Aside0.mk H
 clear H
 go_enter Try.func55, Try.ntmps55
 go_wp2_with (first | ((with_reducible refine gate_dst (N := 2) rfl ?_); refine box_event ?hg (N := 2) ?hd (cs := #[.slice A0_0 l0_0.length c0_0]) (t := 28) ?hr ?_; (case hd => rfl); (case hg => rfl); (case hr => first | (go_simp; done) | (go_simp; rfl)); intro gb101 hg w4 hbox hb; have n0_ := Aside0.mk (below_step (by repeat (first | (with_reducible first | exact HB.out | apply below_alloc | apply pw_below_drewN | apply below_drew1) | exact HB.out)) hb); have n1_ := Aside0.mk (hbox); have n2_ := Aside0.mk ((by rw [hg]; exact (below_size (by repeat (first | (with_reducible first | exact HB.out | apply below_alloc | apply pw_below_drewN | apply below_drew1) | exact HB.out))) : w.heap.size ≤ gb101)); have n3_ := Aside0.mk ((by rw [hg]; exact (below_size (by repeat (first | (with_reducible first | exact HB.out | apply below_alloc | apply pw_below_drewN | apply below_drew1) | exact HB.out))) : w.heap.size ≤ gb101)); clear HB; have HB := n0_; have BK101 := n1_; have GW101 := n2_; have GE101 := n3_; clear n0_ n1_ n2_ n3_; clear hb hbox hg) | ((with_reducible refine gate_dst (N := 4) rfl ?_); refine box_event ?hg (N := 4) ?hd (cs := #[.slice none 0 0]) (t := 28) ?hr ?_; (case hd => rfl); (case hg => rfl); (case hr => first | (go_simp; done) | (go_simp; rfl)); intro gb102 hg w5 hbox hb; have n0_ := Aside0.mk (blk_below (g := gb101) (o := .cells #[.slice A0_0 l0_0.length c0_0] 28 (0, 0)) (by (with_reducible repeat (first | refine blk_drewN ?_ _ | refine blk_drew ?_ | refine blk_alloc ?_ _)); exact BK101.out) hb); have n1_ := Aside0.mk (below_step (by repeat (first | (with_reducible first | exact HB.out | apply below_alloc | apply pw_below_drewN | apply below_drew1 | refine below_set ?_ GE101.out) | exact HB.out)) hb); have n2_ := Aside0.mk (hbox); have n3_ := Aside0.mk ((by rw [hg]; exact (below_size (by repeat (first | (with_reducible first | exact HB.out | apply below_alloc | apply pw_below_drewN | apply below_drew1 | refine below_set ?_ GE101.out) | exact HB.out))) : w.heap.size ≤ gb102)); have n4_ := Aside0.mk ((by rw [hg]; exact (below_size (by repeat (first | (with_reducible first | exact HB.out | apply below_alloc | apply pw_below_drewN | apply below_drew1 | refine below_set ?_ GE101.out) | exact HB.out))) : w.heap.size ≤ gb102)); have n5_ := Aside0.mk ((by rw [hg]; exact Nat.ne_of_lt (blk_lt (g := gb101) (o := .cells #[.slice A0_0 l0_0.length c0_0] 28 (0, 0)) (by (with_reducible repeat (first | refine blk_drewN ?_ _ | refine blk_drew ?_ | refine blk_alloc ?_ _)); exact BK101.out)) : gb101 ≠ gb102)); have n6_ := Aside0.mk ((by rw [hg]; exact Nat.ne_of_gt (blk_lt (g := gb101) (o := .cells #[.slice A0_0 l0_0.length c0_0] 28 (0, 0)) (by (with_reducible repeat (first | refine blk_drewN ?_ _ | refine blk_drew ?_ | refine blk_alloc ?_ _)); exact BK101.out)) : gb102 ≠ gb101)); clear BK101; clear HB; have BK101 := n0_; have HB := n1_; have BK102 := n2_; have GW102 := n3_; have GE102 := n4_; have NB101_102 := n5_; have NB102_101 := n6_; clear n0_ n1_ n2_ n3_ n4_ n5_ n6_; clear hb hbox hg; have hnb6 := NB101_102.out; have hnc6 := NB102_101.out; have hcz7_0 : w5.cell? ⟨gb101, 0, none⟩ = some (.slice A0_0 l0_0.length c0_0) := (blk_cell BK101.out 0).trans rfl; have hfz7_0 := blk_frozen BK101.out 0) | ((with_reducible refine gate_callee (f := 54) rfl ?_); refine goesL_ (some 14) rfl rfl Try.func54 (by kernel_rfl) rfl #[.agg #[.slice A0_0 l0_0.length c0_0]] rfl (by (try simp only [yiy, yjy, yky]); first | done | rfl | (simp only [yly, ymy]; rfl)) ?_; (with_reducible refine (spec_l07Parts.calls k _ _ l0_0 t103 _ ?side1 ?side2 A3.out).mono ?_); (case side1 => repeat (first | exact (Kd.C_below HR0_0.out HB.out) | (with_reducible refine Kd.C_alloc ?_ _) | (with_reducible refine Kd.C_drewN ?_ _) | (with_reducible refine Kd.C_drew ?_))); (case side2 => exact HC0_0.out); rintro e w8 ⟨v104, rfl, ho0, hb⟩; refine ⟨_, rfl, ?_⟩; have n0_ := Aside0.mk (Kd.R_lower ho0 (below_size (by repeat (first | (with_reducible first | exact HB.out | apply below_alloc | apply pw_below_drewN | apply below_drew1 | refine below_set ?_ GE101.out | refine below_set ?_ GE102.out) | exact HB.out)))); have n1_ := Aside0.mk (blk_below (g := gb101) (o := .cells #[.slice A0_0 l0_0.length c0_0] 28 (0, 0)) (by (with_reducible repeat (first | refine blk_drewN ?_ _ | refine blk_drew ?_ | refine blk_alloc ?_ _)); exact BK101.out) hb); have n2_ := Aside0.mk (blk_below (g := gb102) (o := .cells #[.slice none 0 0] 28 (0, 0)) (by (with_reducible repeat (first | refine blk_drewN ?_ _ | refine blk_drew ?_ | refine blk_alloc ?_ _)); exact BK102.out) hb); have n3_ := Aside0.mk (below_step (by repeat (first | (with_reducible first | exact HB.out | apply below_alloc | apply pw_below_drewN | apply below_drew1 | refine below_set ?_ GE101.out | refine below_set ?_ GE102.out) | exact HB.out)) hb); clear BK101; clear BK102; clear HB; have HO105 := n0_; have BK101 := n1_; have BK102 := n2_; have HB := n3_; clear n0_ n1_ n2_ n3_; (try clear hb); (try clear hb2); (try clear hk); (try clear hi); (try clear ho0)) | ((with_reducible refine gate_dst (N := 15) rfl ?_); refine Kd.R_lit (Kd.int .i64) _ 2 ?hg (N := 15) ?hd (xs := ([] : List Int)) (inner := []) (ok := fun _ => True) (okp := fun _ => True) ?hr ?hp (fun _ hk => hk) trivial (Below.refl _ _) (ypy _) (by simp) ?_; (case hd => rfl); (case hg => rfl); (case hr => first | (go_simp; done) | (go_simp; rfl)); (case hp => exact (Reps.none _ _)); intro v107 w9 ho10 hb hg_ hnew_; clear hg_ hnew_; (first | rw [← Ny106.out] at ho10 | (simp only [Int.reduceToNat] at ho10; rw [← Ny106.out] at ho10)); have n0_ := Aside0.mk (Kd.R_elder' (by (with_reducible repeat (first | apply Kd.R_alloc | apply Kd.R_drewN | apply Kd.R_drew)); exact HO105.out) (Kd.R_base ho10) hb); have n1_ := Aside0.mk (Kd.R_lower (Kd.R_new' ho10 (Kd.R_lt (by (with_reducible repeat (first | apply Kd.R_alloc | apply Kd.R_drewN | apply Kd.R_drew)); exact HO105.out))) (below_size (by repeat (first | (with_reducible first | exact HB.out | apply below_alloc | apply pw_below_drewN | apply below_drew1 | refine below_set ?_ GE101.out | refine below_set ?_ GE102.out) | exact HB.out)))); have n2_ := Aside0.mk (blk_below (g := gb101) (o := .cells #[.slice A0_0 l0_0.length c0_0] 28 (0, 0)) (by (with_reducible repeat (first | refine blk_drewN ?_ _ | refine blk_drew ?_ | refine blk_alloc ?_ _)); exact BK101.out) hb); have n3_ := Aside0.mk (blk_below (g := gb102) (o := .cells #[.slice none 0 0] 28 (0, 0)) (by (with_reducible repeat (first | refine blk_drewN ?_ _ | refine blk_drew ?_ | refine blk_alloc ?_ _)); exact BK102.out) hb); have n4_ := Aside0.mk (below_step (by repeat (first | (with_reducible first | exact HB.out | apply below_alloc | apply pw_below_drewN | apply below_drew1 | refine below_set ?_ GE101.out | refine below_set ?_ GE102.out) | exact HB.out)) hb); clear HO105; clear BK101; clear BK102; clear HB; have HO105 := n0_; have HO108 := n1_; have BK101 := n2_; have BK102 := n3_; have HB := n4_; clear n0_ n1_ n2_ n3_ n4_; clear hb ho10))
 go_loopg [6, 7, 8] k (fun kq v6 v7 v8 w' => ∃ (x6_1 : List Int) (x7_1 : Int) (x8_1 : Int), v7 = .int .i64 x7_1 ∧ v8 = .int .i64 x8_1 ∧ Aside0 (spec_l11Part.l0 kq a1 t103 x6_1 x7_1 x8_1 l0_0 = some r) ∧ Aside0 (kq ≤ k) ∧ Aside0 (Kd.R (Kd.int .i64) 2 w' w.heap.size (fun k_ => some k_ ≠ (v6 : Value).ownBlock) v104 t103) ∧ Aside0 (Kd.R (Kd.int .i64) 2 w' w.heap.size (fun k_ => some k_ ≠ (v104 : Value).ownBlock) v6 x6_1) ∧ Aside0 (w'.heap[gb101]? = some (.cells #[(.slice A0_0 l0_0.length c0_0)] 28 (0, 0))) ∧ Aside0 (w'.heap[gb102]? = some (.cells #[(.slice none 0 0)] 28 (0, 0))) ∧ Aside0 (Below w.heap.size w w'))
 case atStart => exact ⟨(y106), (0), (0), (by first | rfl | (simp; done) | (simp [*]; done)), (by first | rfl | (simp; done) | (simp [*]; done)), H', ⟨ypy _⟩, ⟨by (with_reducible repeat (first | apply Kd.R_alloc | apply Kd.R_drewN | apply Kd.R_drew)); exact Kd.R_mono HO105.out (fun _ hk => hk.2)⟩, ⟨by (with_reducible repeat (first | apply Kd.R_alloc | apply Kd.R_drewN | apply Kd.R_drew)); exact Kd.R_mono HO108.out (fun _ hk => hk.2)⟩, ⟨by (with_reducible repeat (first | refine blk_drewN ?_ _ | refine blk_drew ?_ | refine blk_alloc ?_ _)); exact BK101.out⟩, ⟨by (with_reducible repeat (first | refine blk_drewN ?_ _ | refine blk_drew ?_ | refine blk_alloc ?_ _)); exact BK102.out⟩, ⟨by repeat (first | (with_reducible first | exact HB.out | apply below_alloc | apply pw_below_drewN | apply below_drew1 | refine below_set ?_ GE101.out | refine below_set ?_ GE102.out) | exact HB.out)⟩⟩
 case round =>
  clear H'
  try clear p2
  try clear c5
  try clear c6
  try clear hcz7_0
  try clear hfz7_0
  obtain ⟨x6_1, x7_1, x8_1, rfl, rfl, HA, HK1, HO_5, HO_6, BK101, BK102, HB⟩ := hrel
  cases gk with
  | zero => exact absurd HA.out (by simp [spec_l11Part.l0])
  | succ k1 =>
   have H := HA.out
   clear HA
   simp only [spec_l11Part.l0] at H
   by_cases c11 : x8_1 < (t103.length : Int)
   next =>
    rw [if_pos c11] at H
    have c11b0 : decide (x8_1 < (t103.length : Int)) = true := ygy c11
    clear c11
    by_cases c12 : x6_1.length < 17592186044416
    rotate_left
    next =>
     rw [if_neg c12] at H
     exact absurd H (by simp)
    rw [if_pos c12] at H
    have LMc12 := Aside0.mk c12
    clear c12
    obtain ⟨y109, hy109⟩ : ∃ y_ : List Int, y_ = (x6_1 ++ [x7_1]) := ⟨_, rfl⟩
    replace H : (if 0 ≤ x8_1 then (if (rd t103 x8_1) = a1 then (spec_l11Part.l0 k1 a1 t103 y109 (wrap64 (x7_1 + 1)) (wrap64 (x8_1 + 1)) l0_0) else (spec_l11Part.l0 k1 a1 t103 y109 x7_1 (wrap64 (x8_1 + 1)) l0_0)) else (none)) = some r := by first | (rw [hy109]; with_reducible exact H) | (have H2_ := (yfy _ _).symm.trans H; rw [hy109]; with_reducible exact H2_) | (have H2_ := (yfy _ _).symm.trans H; with_reducible exact H2_) | with_reducible exact H | (rw [hy109]; exact H) | exact H
    have Ny109 := Aside0.mk hy109
    clear hy109
    by_cases c13 : 0 ≤ x8_1
    rotate_left
    next =>
     rw [if_neg c13] at H
     exact absurd H (by simp)
    rw [if_pos c13] at H
    have c13b0 : decide (0 ≤ x8_1) = true := ygy c13
    clear c13
    by_cases c14 : (rd t103 x8_1) = a1
    rotate_left
    next =>
     rw [if_neg c14] at H
     have c14b0 : ((rd t103 x8_1) == a1) = false := beq_eq_false_iff_ne.mpr c14
     have c14b1 : ((rd t103 x8_1) != a1) = true := bne_iff_ne.mpr c14
     have H' := Aside0.mk H
     clear H
     obtain ⟨Ao17, co17, eo17⟩ := Kd.R_slice HO_5.out
     subst eo17
     go_wp2_with (first | ((with_reducible refine gate_builtin (b := .append) (xs := #[.tmp 22, .tmp 24]) rfl ?_); at_builtin; refine Kd.R_append (Kd.int .i64) (w0 := w) w.heap.size rfl (.tmp 22) (.tmp 24) 41 2 (.int .i64 0) 8 rfl Try.underlying41 info2 rfl (by decide) (by omega) u6 x6_1 x7_1 [.int .i64 x7_1] (fun k_ => some k_ ≠ (.slice Ao17 t103.length co17 : Value).ownBlock) (fun _ => False) rfl rfl ?aP (fun _ hk => hk.elim) ?aF ?aO ?aB ?aS ?aL ?_; (case aP => exact rfl); (case aB => exact (by repeat (first | (with_reducible first | exact HB.out | apply below_alloc | apply pw_below_drewN | apply below_drew1 | refine below_set ?_ GE101.out | refine below_set ?_ GE102.out) | exact HB.out))); (case aF => exact (fun k_ hk => Kd.fresh' (Kd.R_lt (by (with_reducible repeat (first | apply Kd.R_alloc | apply Kd.R_drewN | apply Kd.R_drew)); exact HO_5.out)) k_ hk)); (case aO => exact (by (with_reducible repeat (first | apply Kd.R_alloc | apply Kd.R_drewN | apply Kd.R_drew)); exact HO_6.out)); (case aS => exact (below_size (by repeat (first | (with_reducible first | exact HB.out | apply below_alloc | apply pw_below_drewN | apply below_drew1 | refine below_set ?_ GE101.out | refine below_set ?_ GE102.out) | exact HB.out)))); (case aL => have := LMc12.out; omega); intro v110 w18 ho hb hg hat; rw [← Ny109.out] at ho; have n0_ := Aside0.mk (Kd.R_after (ok := (fun _ => True)) (by (with_reducible repeat (first | apply Kd.R_alloc | apply Kd.R_drewN | apply Kd.R_drew)); exact Kd.R_mono HO_5.out (fun _ hk => ⟨trivial, hk⟩)) hg hat); have n1_ := Aside0.mk (blk_grown (g := gb101) (o := .cells #[.slice A0_0 l0_0.length c0_0] 28 (0, 0)) (by (with_reducible repeat (first | refine blk_drewN ?_ _ | refine blk_drew ?_ | refine blk_alloc ?_ _)); exact BK101.out) hg (Kd.R_ne HO_6.out BK101.out (by decide))); have n2_ := Aside0.mk (blk_grown (g := gb102) (o := .cells #[.slice none 0 0] 28 (0, 0)) (by (with_reducible repeat (first | refine blk_drewN ?_ _ | refine blk_drew ?_ | refine blk_alloc ?_ _)); exact BK102.out) hg (Kd.R_ne HO_6.out BK102.out (by decide))); have n3_ := Aside0.mk (hb); have n4_ := Aside0.mk (ho); clear HO_5; clear BK101; clear BK102; clear HB; clear HO_6; have HO_5 := n0_; have BK101 := n1_; have BK102 := n2_; have HB := n3_; have HO111 := n4_; clear n0_ n1_ n2_ n3_ n4_; clear ho hb hg hat; have p112 : 0 ≤ (x8_1 : Int) := of_decide_eq_true (by first | (with_reducible assumption) | assumption); have q112 : x8_1 < (t103.length : Int) := of_decide_eq_true (by first | (with_reducible assumption) | assumption); obtain ⟨ad112, e112, hx112_0⟩ := Kd.at_int (Kd.R_reads' HO_5.out).2.2 x8_1 p112 q112; cases e112; replace p112 := eq_true p112; replace q112 := eq_true q112))
     go_roundg k1
     case measure => have := HK1.out; omega
     case rel => exact ⟨(y109), (x7_1), (wrap64 (x8_1 + 1)), (by first | rfl | (simp; done) | (simp [*]; done)), (by first | rfl | (simp; done) | (simp [*]; done)), H', ⟨by have := HK1.out; omega⟩, ⟨by (with_reducible repeat (first | apply Kd.R_alloc | apply Kd.R_drewN | apply Kd.R_drew)); exact Kd.R_mono HO_5.out (fun _ hk => hk.2)⟩, ⟨by (with_reducible repeat (first | apply Kd.R_alloc | apply Kd.R_drewN | apply Kd.R_drew)); exact HO111.out⟩, ⟨by (with_reducible repeat (first | refine blk_drewN ?_ _ | refine blk_drew ?_ | refine blk_alloc ?_ _)); exact BK101.out⟩, ⟨by (with_reducible repeat (first | refine blk_drewN ?_ _ | refine blk_drew ?_ | refine blk_alloc ?_ _)); exact BK102.out⟩, ⟨by repeat (first | (with_reducible first | exact HB.out | apply below_alloc | apply pw_below_drewN | apply below_drew1 | refine below_set ?_ GE101.out | refine below_set ?_ GE102.out) | exact HB.out)⟩⟩
    rw [if_pos c14] at H
    have c14b0 : ((rd t103 x8_1) == a1) = true := beq_iff_eq.mpr c14
    have c14b1 : ((rd t103 x8_1) != a1) = false := bne_eq_false_iff_eq.mpr c14
    clear c14
    have H' := Aside0.mk H
    clear H
    obtain ⟨Ao15, co15, eo15⟩ := Kd.R_slice HO_5.out
    subst eo15
    go_wp2_with (first | ((with_reducible refine gate_builtin (b := .append) (xs := #[.tmp 22, .tmp 24]) rfl ?_); at_builtin; refine Kd.R_append (Kd.int .i64) (w0 := w) w.heap.size rfl (.tmp 22) (.tmp 24) 41 2 (.int .i64 0) 8 rfl Try.underlying41 info2 rfl (by decide) (by omega) u6 x6_1 x7_1 [.int .i64 x7_1] (fun k_ => some k_ ≠ (.slice Ao15 t103.length co15 : Value).ownBlock) (fun _ => False) rfl rfl ?aP (fun _ hk => hk.elim) ?aF ?aO ?aB ?aS ?aL ?_; (case aP => exact rfl); (case aB => exact (by repeat (first | (with_reducible first | exact HB.out | apply below_alloc | apply pw_below_drewN | apply below_drew1 | refine below_set ?_ GE101.out | refine below_set ?_ GE102.out) | exact HB.out))); (case aF => exact (fun k_ hk => Kd.fresh' (Kd.R_lt (by (with_reducible repeat (first | apply Kd.R_alloc | apply Kd.R_drewN | apply Kd.R_drew)); exact HO_5.out)) k_ hk)); (case aO => exact (by (with_reducible repeat (first | apply Kd.R_alloc | apply Kd.R_drewN | apply Kd.R_drew)); exact HO_6.out)); (case aS => exact (below_size (by repeat (first | (with_reducible first | exact HB.out | apply below_alloc | apply pw_below_drewN | apply below_drew1 | refine below_set ?_ GE101.out | refine below_set ?_ GE102.out) | exact HB.out)))); (case aL => have := LMc12.out; omega); intro v110 w16 ho hb hg hat; rw [← Ny109.out] at ho; have n0_ := Aside0.mk (Kd.R_after (ok := (fun _ => True)) (by (with_reducible repeat (first | apply Kd.R_alloc | apply Kd.R_drewN | apply Kd.R_drew)); exact Kd.R_mono HO_5.out (fun _ hk => ⟨trivial, hk⟩)) hg hat); have n1_ := Aside0.mk (blk_grown (g := gb101) (o := .cells #[.slice A0_0 l0_0.length c0_0] 28 (0, 0)) (by (with_reducible repeat (first | refine blk_drewN ?_ _ | refine blk_drew ?_ | refine blk_alloc ?_ _)); exact BK101.out) hg (Kd.R_ne HO_6.out BK101.out (by decide))); have n2_ := Aside0.mk (blk_grown (g := gb102) (o := .cells #[.slice none 0 0] 28 (0, 0)) (by (with_reducible repeat (first | refine blk_drewN ?_ _ | refine blk_drew ?_ | refine blk_alloc ?_ _)); exact BK102.out) hg (Kd.R_ne HO_6.out BK102.out (by decide))); have n3_ := Aside0.mk (hb); have n4_ := Aside0.mk (ho); clear HO_5; clear BK101; clear BK102; clear HB; clear HO_6; have HO_5 := n0_; have BK101 := n1_; have BK102 := n2_; have HB := n3_; have HO111 := n4_; clear n0_ n1_ n2_ n3_ n4_; clear ho hb hg hat; have p112 : 0 ≤ (x8_1 : Int) := of_decide_eq_true (by first | (with_reducible assumption) | assumption); have q112 : x8_1 < (t103.length : Int) := of_decide_eq_true (by first | (with_reducible assumption) | assumption); obtain ⟨ad112, e112, hx112_0⟩ := Kd.at_int (Kd.R_reads' HO_5.out).2.2 x8_1 p112 q112; cases e112; replace p112 := eq_true p112; replace q112 := eq_true q112))
    go_roundg k1
    case measure => have := HK1.out; omega
    case rel => exact ⟨(y109), (wrap64 (x7_1 + 1)), (wrap64 (x8_1 + 1)), (by first | rfl | (simp; done) | (simp [*]; done)), (by first | rfl | (simp; done) | (simp [*]; done)), H', ⟨by have := HK1.out; omega⟩, ⟨by (with_reducible repeat (first | apply Kd.R_alloc | apply Kd.R_drewN | apply Kd.R_drew)); exact Kd.R_mono HO_5.out (fun _ hk => hk.2)⟩, ⟨by (with_reducible repeat (first | apply Kd.R_alloc | apply Kd.R_drewN | apply Kd.R_drew)); exact HO111.out⟩, ⟨by (with_reducible repeat (first | refine blk_drewN ?_ _ | refine blk_drew ?_ | refine blk_alloc ?_ _)); exact BK101.out⟩, ⟨by (with_reducible repeat (first | refine blk_drewN ?_ _ | refine blk_drew ?_ | refine blk_alloc ?_ _)); exact BK102.out⟩, ⟨by repeat (first | (with_reducible first | exact HB.out | apply below_alloc | apply pw_below_drewN | apply below_drew1 | refine below_set ?_ GE101.out | refine below_set ?_ GE102.out) | exact HB.out)⟩⟩
   next =>
    rw [if_neg c11] at H
    have c11b0 : decide (x8_1 < (t103.length : Int)) = false := yhy c11
    clear c11
    have H' := Aside0.mk H
    clear H
    obtain ⟨Ao19, co19, eo19⟩ := Kd.R_slice HO_5.out
    subst eo19
    go_wp2_with (first | ((with_reducible refine gate_dst (N := 9) rfl ?_); refine box_event ?hg (N := 9) ?hd (cs := #[.slice none 0 0]) (t := 28) ?hr ?_; (case hd => rfl); (case hg => rfl); (case hr => first | (go_simp; done) | (go_simp; rfl)); intro gb113 hg w20 hbox hb; have n0_ := Aside0.mk (Kd.R_below (by (with_reducible repeat (first | apply Kd.R_alloc | apply Kd.R_drewN | apply Kd.R_drew)); exact HO_5.out) hb); have n1_ := Aside0.mk (Kd.R_below (by (with_reducible repeat (first | apply Kd.R_alloc | apply Kd.R_drewN | apply Kd.R_drew)); exact HO_6.out) hb); have n2_ := Aside0.mk (blk_below (g := gb101) (o := .cells #[.slice A0_0 l0_0.length c0_0] 28 (0, 0)) (by (with_reducible repeat (first | refine blk_drewN ?_ _ | refine blk_drew ?_ | refine blk_alloc ?_ _)); exact BK101.out) hb); have n3_ := Aside0.mk (blk_below (g := gb102) (o := .cells #[.slice none 0 0] 28 (0, 0)) (by (with_reducible repeat (first | refine blk_drewN ?_ _ | refine blk_drew ?_ | refine blk_alloc ?_ _)); exact BK102.out) hb); have n4_ := Aside0.mk (below_step (by repeat (first | (with_reducible first | exact HB.out | apply below_alloc | apply pw_below_drewN | apply below_drew1 | refine below_set ?_ GE101.out | refine below_set ?_ GE102.out) | exact HB.out)) hb); have n5_ := Aside0.mk (hbox); have n6_ := Aside0.mk ((by rw [hg]; exact (below_size (by repeat (first | (with_reducible first | exact HB.out | apply below_alloc | apply pw_below_drewN | apply below_drew1 | refine below_set ?_ GE101.out | refine below_set ?_ GE102.out) | exact HB.out))) : w.heap.size ≤ gb113)); have n7_ := Aside0.mk ((by rw [hg]; exact (below_size (by repeat (first | (with_reducible first | exact HB.out | apply below_alloc | apply pw_below_drewN | apply below_drew1 | refine below_set ?_ GE101.out | refine below_set ?_ GE102.out) | exact HB.out))) : w.heap.size ≤ gb113)); have n8_ := Aside0.mk ((by rw [hg]; exact Nat.ne_of_lt (blk_lt (g := gb101) (o := .cells #[.slice A0_0 l0_0.length c0_0] 28 (0, 0)) (by (with_reducible repeat (first | refine blk_drewN ?_ _ | refine blk_drew ?_ | refine blk_alloc ?_ _)); exact BK101.out)) : gb101 ≠ gb113)); have n9_ := Aside0.mk ((by rw [hg]; exact Nat.ne_of_gt (blk_lt (g := gb101) (o := .cells #[.slice A0_0 l0_0.length c0_0] 28 (0, 0)) (by (with_reducible repeat (first | refine blk_drewN ?_ _ | refine blk_drew ?_ | refine blk_alloc ?_ _)); exact BK101.out)) : gb113 ≠ gb101)); have n10_ := Aside0.mk ((by rw [hg]; exact Nat.ne_of_lt (blk_lt (g := gb102) (o := .cells #[.slice none 0 0] 28 (0, 0)) (by (with_reducible repeat (first | refine blk_drewN ?_ _ | refine blk_drew ?_ | refine blk_alloc ?_ _)); exact BK102.out)) : gb102 ≠ gb113)); have n11_ := Aside0.mk ((by rw [hg]; exact Nat.ne_of_gt (blk_lt (g := gb102) (o := .cells #[.slice none 0 0] 28 (0, 0)) (by (with_reducible repeat (first | refine blk_drewN ?_ _ | refine blk_drew ?_ | refine blk_alloc ?_ _)); exact BK102.out)) : gb113 ≠ gb102)); clear HO_5; clear HO_6; clear BK101; clear BK102; clear HB; have HO_5 := n0_; have HO_6 := n1_; have BK101 := n2_; have BK102 := n3_; have HB := n4_; have BK113 := n5_; have GW113 := n6_; have GE113 := n7_; have NB101_113 := n8_; have NB113_101 := n9_; have NB102_113 := n10_; have NB113_102 := n11_; clear n0_ n1_ n2_ n3_ n4_ n5_ n6_ n7_ n8_ n9_ n10_ n11_; clear hb hbox hg; have hnb21 := NB113_101.out; have hnc21 := NB101_113.out; have hnb22 := NB113_102.out; have hnc22 := NB102_113.out; have hcz23_0 : w20.cell? ⟨gb113, 0, none⟩ = some (.slice none 0 0) := (blk_cell BK113.out 0).trans rfl; have hfz23_0 := blk_frozen BK113.out 0))
    go_loopg [10] k1 (fun kq v10 w' => ∃ (x10_2 : Int) (x114000_2 : List (List (SFace))) (u114000 : Value), v10 = .int .i64 x10_2 ∧ Aside0 (spec_l11Part.l1 kq a1 t103 x6_1 x10_2 l0_0 x114000_2 = some r) ∧ Aside0 (kq ≤ k1) ∧ Aside0 (Kd.R (Kd.int .i64) 2 w' w.heap.size (fun k_ => some k_ ≠ (u6 : Value).ownBlock) (.slice Ao19 t103.length co19) t103) ∧ Aside0 (Kd.R (Kd.int .i64) 2 w' w.heap.size (fun k_ => some k_ ≠ ((.slice Ao19 t103.length co19) : Value).ownBlock) u6 x6_1) ∧ Aside0 (Kd.S (Kd.slice 74 kFace) 75 w' w.heap.size (fun _ => True) u114000 x114000_2) ∧ Aside0 (w'.heap[gb101]? = some (.cells #[(.slice A0_0 l0_0.length c0_0)] 28 (0, 0))) ∧ Aside0 (w'.heap[gb102]? = some (.cells #[(.slice none 0 0)] 28 (0, 0))) ∧ Aside0 (w'.heap[gb113]? = some (.cells #[u114000] 28 (0, 0))) ∧ Aside0 (Below w.heap.size w w'))
    case atStart => exact ⟨(0), (([] : List (List (SFace)))), (.slice none 0 0), (by first | rfl | (simp; done) | (simp [*]; done)), H', ⟨ypy _⟩, ⟨by (with_reducible repeat (first | apply Kd.R_alloc | apply Kd.R_drewN | apply Kd.R_drew)); exact Kd.R_mono (Kd.R_far (p := ⟨gb113, 0, none⟩) (Kd.R_types HO_5.out BK113.out (by decide)) (fun _ hk => hk.2) (.slice none 0 0)) (fun _ hk => hk.1)⟩, ⟨by (with_reducible repeat (first | apply Kd.R_alloc | apply Kd.R_drewN | apply Kd.R_drew)); exact Kd.R_mono (Kd.R_far (p := ⟨gb113, 0, none⟩) (Kd.R_types HO_6.out BK113.out (by decide)) (fun _ hk => hk.2) (.slice none 0 0)) (fun _ hk => hk.1)⟩, ⟨by first | exact Kd.S_nil _ _ _ _ _ | exact Kd.N_nil _ _ _ _ _ | exact Kd.V_nil _ _ _ _ _ | exact Kd.Q_nil _ _ _ _ _ | exact Kd.R_nil _ _ _ _ _⟩, ⟨by (with_reducible repeat (first | refine blk_drewN ?_ _ | refine blk_drew ?_ | refine blk_alloc ?_ _)); refine blk_far ?_ NB101_113.out _; (with_reducible repeat (first | refine blk_drewN ?_ _ | refine blk_drew ?_ | refine blk_alloc ?_ _)); exact BK101.out⟩, ⟨by (with_reducible repeat (first | refine blk_drewN ?_ _ | refine blk_drew ?_ | refine blk_alloc ?_ _)); refine blk_far ?_ NB102_113.out _; (with_reducible repeat (first | refine blk_drewN ?_ _ | refine blk_drew ?_ | refine blk_alloc ?_ _)); exact BK102.out⟩, ⟨by (with_reducible repeat (first | refine blk_drewN ?_ _ | refine blk_drew ?_ | refine blk_alloc ?_ _)); refine blk_put (cs := #[.slice none 0 0]) ?_ 0 _ rfl; (with_reducible repeat (first | refine blk_drewN ?_ _ | refine blk_drew ?_ | refine blk_alloc ?_ _)); exact BK113.out⟩, ⟨by repeat (first | (with_reducible first | exact HB.out | apply below_alloc | apply pw_below_drewN | apply below_drew1 | refine below_set ?_ GE101.out | refine below_set ?_ GE102.out | refine below_set ?_ GE113.out) | exact HB.out)⟩⟩
    case round =>
     clear H'
     try clear c1
     try clear p1
     try clear q1
     try clear hx1
     try clear c2
     try clear p2
     try clear c5
     try clear c6
     try clear p6
     try clear c11
     try clear c11b0
     try clear p11
     try clear q11
     try clear hx11
     try clear c12
     try clear c13
     try clear c13b0
     try clear c14
     try clear c14b0
     try clear c14b1
     try clear c21
     try clear c22
     try clear hcz23_0
     try clear hcz7_0
     try clear hfz23_0
     try clear hfz7_0
     try clear hx112_0
     try clear p112
     try clear p2
     try clear q112
     obtain ⟨x10_2, x114000_2, u114000, rfl, HA, HK2, HO_5, HO_6, HO_114000, BK101, BK102, BK113, HB⟩ := hrel
     cases gk with
     | zero => exact absurd HA.out (by simp [spec_l11Part.l1])
     | succ k2 =>
      have H := HA.out
      clear HA
      simp only [spec_l11Part.l1] at H
      by_cases c24 : x10_2 < (t103.length : Int)
      rotate_left
      next =>
       rw [if_neg c24] at H
       have c24b0 : decide (x10_2 < (t103.length : Int)) = false := yhy c24
       clear c24
       obtain rfl := yey H
       have hnb55 := NB113_101.out
       have hnc55 := NB101_113.out
       have hnb56 := NB113_102.out
       have hnc56 := NB102_113.out
       have hcz57_0 : wr.cell? ⟨gb113, 0, none⟩ = some (u114000) := (blk_cell BK113.out 0).trans rfl
       have hfz57_0 := blk_frozen BK113.out 0
       obtain ⟨Ao58, co58, eo58⟩ := Kd.S_slice HO_114000.out
       subst eo58
       have hnb59 := NB102_101.out
       have hnc59 := NB101_102.out
       have hcz60_0 : wr.cell? ⟨gb102, 0, none⟩ = some (.slice none 0 0) := (blk_cell BK102.out 0).trans rfl
       have hfz60_0 := blk_frozen BK102.out 0
       go_wp2
       refine bodyPost_ret (results_cell_row rfl _ _ gb102 28 #[.slice Ao58 x114000_2.length co58] (0, 0) _ rfl (by (with_reducible repeat (first | refine blk_drewN ?_ _ | refine blk_drew ?_ | refine blk_alloc ?_ _)); refine blk_put (cs := #[.slice none 0 0]) ?_ 0 _ rfl; (with_reducible repeat (first | refine blk_drewN ?_ _ | refine blk_drew ?_ | refine blk_alloc ?_ _)); exact BK102.out) Try.underlying28 rfl (by kernel_rfl)) rfl ?_
       exact ⟨_, by first | rfl | (simp [errW_none, errW_some] <;> rfl) | (simp [*, errW_none, errW_some] <;> rfl), by (with_reducible repeat (first | apply Kd.S_alloc | apply Kd.S_drewN | apply Kd.S_drew)); exact Kd.S_mono (Kd.S_far (p := ⟨gb102, 0, none⟩) (Kd.S_types HO_114000.out BK102.out (by decide)) (fun _ hk => hk.2) (.slice Ao58 x114000_2.length co58)) (fun _ hk => trivial), by repeat (first | (with_reducible first | exact HB.out | apply below_alloc | apply pw_below_drewN | apply below_drew1 | refine below_set ?_ GE101.out | refine below_set ?_ GE102.out | refine below_set ?_ GE113.out) | exact HB.out)⟩
      rw [if_pos c24] at H
      have c24b0 : decide (x10_2 < (t103.length : Int)) = true := ygy c24
      clear c24
      by_cases c25 : 0 ≤ x10_2
      rotate_left
      next =>
       rw [if_neg c25] at H
       exact absurd H (by simp)
      rw [if_pos c25] at H
      have c25b0 : decide (0 ≤ x10_2) = true := ygy c25
      clear c25
      by_cases c26 : (rd t103 x10_2) = a1
      rotate_left
      next =>
       rw [if_neg c26] at H
       have c26b0 : ((rd t103 x10_2) == a1) = false := beq_eq_false_iff_ne.mpr c26
       have c26b1 : ((rd t103 x10_2) != a1) = true := bne_iff_ne.mpr c26
       have H' := Aside0.mk H
       clear H
       have p114 : 0 ≤ (x10_2 : Int) := of_decide_eq_true (by first | (with_reducible assumption) | assumption)
       have q114 : x10_2 < (t103.length : Int) := of_decide_eq_true (by first | (with_reducible assumption) | assumption)
       obtain ⟨ad114, e114, hx114_0⟩ := Kd.at_int (Kd.R_reads' HO_5.out).2.2 x10_2 p114 q114
       cases e114
       replace p114 := eq_true p114
       replace q114 := eq_true q114
       go_wp2
       go_roundg k2
       case measure => have := HK1.out; have := HK2.out; omega
       case rel => exact ⟨(wrap64 (x10_2 + 1)), (x114000_2), (u114000), (by first | rfl | (simp; done) | (simp [*]; done)), H', ⟨by have := HK1.out; have := HK2.out; omega⟩, ⟨by (with_reducible repeat (first | apply Kd.R_alloc | apply Kd.R_drewN | apply Kd.R_drew)); exact HO_5.out⟩, ⟨by (with_reducible repeat (first | apply Kd.R_alloc | apply Kd.R_drewN | apply Kd.R_drew)); exact HO_6.out⟩, ⟨by (with_reducible repeat (first | apply Kd.S_alloc | apply Kd.S_drewN | apply Kd.S_drew)); exact HO_114000.out⟩, ⟨by (with_reducible repeat (first | refine blk_drewN ?_ _ | refine blk_drew ?_ | refine blk_alloc ?_ _)); exact BK101.out⟩, ⟨by (with_reducible repeat (first | refine blk_drewN ?_ _ | refine blk_drew ?_ | refine blk_alloc ?_ _)); exact BK102.out⟩, ⟨by (with_reducible repeat (first | refine blk_drewN ?_ _ | refine blk_drew ?_ | refine blk_alloc ?_ _)); exact BK113.out⟩, ⟨by repeat (first | (with_reducible first | exact HB.out | apply below_alloc | apply pw_below_drewN | apply below_drew1 | refine below_set ?_ GE101.out | refine below_set ?_ GE102.out | refine below_set ?_ GE113.out) | exact HB.out)⟩⟩
      rw [if_pos c26] at H
      have c26b0 : ((rd t103 x10_2) == a1) = true := beq_iff_eq.mpr c26
      have c26b1 : ((rd t103 x10_2) != a1) = false := bne_eq_false_iff_eq.mpr c26
      clear c26
      obtain ⟨y115, hy115⟩ : ∃ y_ : List (SFace), y_ = (([] : List (SFace))) := ⟨_, rfl⟩
      replace H : (if x10_2 < (l0_0.length : Int) then (if y115.length + (rd_LFace l0_0 x10_2).length < 8796093022208 then (spec_l11Part.l2 k2 a1 t103 x6_1 x10_2 (y115 ++ (rd_LFace l0_0 x10_2)) 0 l0_0 x114000_2) else (none)) else (none)) = some r := by first | (rw [hy115]; with_reducible exact H) | (have H2_ := (yfy _ _).symm.trans H; rw [hy115]; with_reducible exact H2_) | (have H2_ := (yfy _ _).symm.trans H; with_reducible exact H2_) | with_reducible exact H | (rw [hy115]; exact H) | exact H
      have Ny115 := Aside0.mk hy115
      clear hy115
      by_cases c27 : x10_2 < (l0_0.length : Int)
      rotate_left
      next =>
       rw [if_neg c27] at H
       exact absurd H (by simp)
      rw [if_pos c27] at H
      have c27b0 : decide (x10_2 < (l0_0.length : Int)) = true := ygy c27
      clear c27
      by_cases c28 : y115.length + (rd_LFace l0_0 x10_2).length < 8796093022208
      rotate_left
      next =>
       rw [if_neg c28] at H
       exact absurd H (by simp)
      rw [if_pos c28] at H
      have LMc28 := Aside0.mk c28
      clear c28
      obtain ⟨y119, hy119⟩ : ∃ y_ : List (SFace), y_ = (y115 ++ (rd_LFace l0_0 x10_2)) := ⟨_, rfl⟩
      replace H : (spec_l11Part.l2 k2 a1 t103 x6_1 x10_2 y119 0 l0_0 x114000_2) = some r := by first | (rw [hy119]; with_reducible exact H) | (have H2_ := (yfy _ _).symm.trans H; rw [hy119]; with_reducible exact H2_) | (have H2_ := (yfy _ _).symm.trans H; with_reducible exact H2_) | with_reducible exact H | (rw [hy119]; exact H) | exact H
      have Ny119 := Aside0.mk hy119
      clear hy119
      have H' := Aside0.mk H
      clear H
      have p114 : 0 ≤ (x10_2 : Int) := of_decide_eq_true (by first | (with_reducible assumption) | assumption)
      have q114 : x10_2 < (t103.length : Int) := of_decide_eq_true (by first | (with_reducible assumption) | assumption)
      obtain ⟨ad114, e114, hx114_0⟩ := Kd.at_int (Kd.R_reads' HO_5.out).2.2 x10_2 p114 q114
      cases e114
      replace p114 := eq_true p114
      replace q114 := eq_true q114
      go_wp2_with (first | ((with_reducible refine gate_dst (N := 47) rfl ?_); refine Kd.R_lit kFace _ 74 ?hg (N := 47) ?hd (xs := ([] : List (SFace))) (inner := []) (ok := fun _ => True) (okp := fun _ => True) ?hr ?hp (fun _ hk => hk) trivial (Below.refl _ _) (ypy _) (by simp) ?_; (case hd => rfl); (case hg => rfl); (case hr => first | (go_simp; done) | (go_simp; rfl)); (case hp => exact (Reps.none _ _)); intro v116 w29 ho30 hb hg_ hnew_; clear hg_ hnew_; (first | rw [← Ny115.out] at ho30 | (simp only [Int.reduceToNat] at ho30; rw [← Ny115.out] at ho30)); have n0_ := Aside0.mk (Kd.R_below (by (with_reducible repeat (first | apply Kd.R_alloc | apply Kd.R_drewN | apply Kd.R_drew)); exact HO_5.out) hb); have n1_ := Aside0.mk (Kd.R_below (by (with_reducible repeat (first | apply Kd.R_alloc | apply Kd.R_drewN | apply Kd.R_drew)); exact HO_6.out) hb); have n2_ := Aside0.mk (Kd.S_elder' (by (with_reducible repeat (first | apply Kd.S_alloc | apply Kd.S_drewN | apply Kd.S_drew)); exact HO_114000.out) (Kd.R_base ho30) hb); have n3_ := Aside0.mk (Kd.R_lower ho30 (below_size (by repeat (first | (with_reducible first | exact HB.out | apply below_alloc | apply pw_below_drewN | apply below_drew1 | refine below_set ?_ GE101.out | refine below_set ?_ GE102.out | refine below_set ?_ GE113.out) | exact HB.out)))); have n4_ := Aside0.mk (blk_below (g := gb101) (o := .cells #[.slice A0_0 l0_0.length c0_0] 28 (0, 0)) (by (with_reducible repeat (first | refine blk_drewN ?_ _ | refine blk_drew ?_ | refine blk_alloc ?_ _)); exact BK101.out) hb); have n5_ := Aside0.mk (blk_below (g := gb102) (o := .cells #[.slice none 0 0] 28 (0, 0)) (by (with_reducible repeat (first | refine blk_drewN ?_ _ | refine blk_drew ?_ | refine blk_alloc ?_ _)); exact BK102.out) hb); have n6_ := Aside0.mk (blk_below (g := gb113) (o := .cells #[u114000] 28 (0, 0)) (by (with_reducible repeat (first | refine blk_drewN ?_ _ | refine blk_drew ?_ | refine blk_alloc ?_ _)); exact BK113.out) hb); have n7_ := Aside0.mk (below_step (by repeat (first | (with_reducible first | exact HB.out | apply below_alloc | apply pw_below_drewN | apply below_drew1 | refine below_set ?_ GE101.out | refine below_set ?_ GE102.out | refine below_set ?_ GE113.out) | exact HB.out)) hb); clear HO_5; clear HO_6; clear HO_114000; clear BK101; clear BK102; clear BK113; clear HB; have HO_5 := n0_; have HO_6 := n1_; have HO_114000 := n2_; have HO117 := n3_; have BK101 := n4_; have BK102 := n5_; have BK113 := n6_; have HB := n7_; clear n0_ n1_ n2_ n3_ n4_ n5_ n6_ n7_; clear hb ho30; have hnb31 := NB101_102.out; have hnc31 := NB102_101.out; have hnb32 := NB101_113.out; have hnc32 := NB113_101.out; have hcz33_0 : w29.cell? ⟨gb101, 0, none⟩ = some (.slice A0_0 l0_0.length c0_0) := (blk_cell BK101.out 0).trans rfl; have hfz33_0 := blk_frozen BK101.out 0; have p118 : 0 ≤ (x10_2 : Int) := of_decide_eq_true (by first | (with_reducible assumption) | assumption); have q118 : x10_2 < (l0_0.length : Int) := of_decide_eq_true (by first | (with_reducible assumption) | assumption); obtain ⟨ad118, A118_0, c118_0, e118, hx118_0, hl118_0, hi118_0⟩ := at_LFace HR0_0.out x10_2 p118 q118; cases e118; replace hx118_0 := (HB.out.cell (yoy w _ hx118_0)).trans hx118_0; have HR118_0 := Aside0.mk hi118_0; have HC118_0 := Aside0.mk hl118_0; clear hi118_0 hl118_0; replace p118 := eq_true p118; replace q118 := eq_true q118) | ((with_reducible refine gate_builtin (b := .append) (xs := #[.tmp 47, .tmp 52]) rfl ?_); at_builtin; refine Kd.R_append_rows kFace (w0 := w) w.heap.size rfl (.tmp 47) (.tmp 52) 75 74 (.agg #[(.int .i64 0), (.int .i64 0)]) 16 rfl Try.underlying75 info74 rfl (by decide) (by omega) v116 y115 (rd_LFace l0_0 x10_2) _ _ _ (fun _ => True) (fun _ => False) rfl rfl ?aO ?aR (fun _ _ h => h) (fun _ h => h.elim) ?aF ?aB ?aS ?aL ?_; (case aR => repeat (first | exact (Kd.C_below HR118_0.out HB.out) | (with_reducible refine Kd.C_alloc ?_ _) | (with_reducible refine Kd.C_drewN ?_ _) | (with_reducible refine Kd.C_drew ?_))); (case aB => exact (by repeat (first | (with_reducible first | exact HB.out | apply below_alloc | apply pw_below_drewN | apply below_drew1 | refine below_set ?_ GE101.out | refine below_set ?_ GE102.out | refine below_set ?_ GE113.out) | exact HB.out))); (case aF => exact (fun _ _ => trivial)); (case aO => exact (by (with_reducible repeat (first | apply Kd.R_alloc | apply Kd.R_drewN | apply Kd.R_drew)); exact HO117.out)); (case aS => exact (below_size (by repeat (first | (with_reducible first | exact HB.out | apply below_alloc | apply pw_below_drewN | apply below_drew1 | refine below_set ?_ GE101.out | refine below_set ?_ GE102.out | refine below_set ?_ GE113.out) | exact HB.out)))); (case aL => have := LMc28.out; omega); intro v120 w34 ho hb hg hat; rw [← Ny119.out] at ho; have n0_ := Aside0.mk (Kd.R_over' (by (with_reducible repeat (first | apply Kd.R_alloc | apply Kd.R_drewN | apply Kd.R_drew)); exact HO_5.out) (Kd.R_typed (by (with_reducible repeat (first | apply Kd.R_alloc | apply Kd.R_drewN | apply Kd.R_drew)); exact HO117.out)) (by decide) hg); have n1_ := Aside0.mk (Kd.R_over' (by (with_reducible repeat (first | apply Kd.R_alloc | apply Kd.R_drewN | apply Kd.R_drew)); exact HO_6.out) (Kd.R_typed (by (with_reducible repeat (first | apply Kd.R_alloc | apply Kd.R_drewN | apply Kd.R_drew)); exact HO117.out)) (by decide) hg); have n2_ := Aside0.mk (Kd.S_after (ok := (fun _ => True)) (by (with_reducible repeat (first | apply Kd.S_alloc | apply Kd.S_drewN | apply Kd.S_drew)); exact HO_114000.out) hg hat); have n3_ := Aside0.mk (blk_grown (g := gb101) (o := .cells #[.slice (some ad118) l0_0.length c0_0] 28 (0, 0)) (by (with_reducible repeat (first | refine blk_drewN ?_ _ | refine blk_drew ?_ | refine blk_alloc ?_ _)); exact BK101.out) hg (Kd.R_ne HO117.out BK101.out (by decide))); have n4_ := Aside0.mk (blk_grown (g := gb102) (o := .cells #[.slice none 0 0] 28 (0, 0)) (by (with_reducible repeat (first | refine blk_drewN ?_ _ | refine blk_drew ?_ | refine blk_alloc ?_ _)); exact BK102.out) hg (Kd.R_ne HO117.out BK102.out (by decide))); have n5_ := Aside0.mk (blk_grown (g := gb113) (o := .cells #[u114000] 28 (0, 0)) (by (with_reducible repeat (first | refine blk_drewN ?_ _ | refine blk_drew ?_ | refine blk_alloc ?_ _)); exact BK113.out) hg (Kd.R_ne HO117.out BK113.out (by decide))); have n6_ := Aside0.mk (hb); have n7_ := Aside0.mk (ho); clear HO_5; clear HO_6; clear HO_114000; clear BK101; clear BK102; clear BK113; clear HB; clear HO117; have HO_5 := n0_; have HO_6 := n1_; have HO_114000 := n2_; have BK101 := n3_; have BK102 := n4_; have BK113 := n5_; have HB := n6_; have HO121 := n7_; clear n0_ n1_ n2_ n3_ n4_ n5_ n6_ n7_; clear ho hb hg hat))
      go_loopg [12] k2 (fun kq v12 w' => ∃ (x11_3 : List (SFace)) (x12_3 : Int), v12 = .int .i64 x12_3 ∧ Aside0 (spec_l11Part.l2 kq a1 t103 x6_1 x10_2 x11_3 x12_3 l0_0 x114000_2 = some r) ∧ Aside0 (kq ≤ k2) ∧ Aside0 (Kd.R (Kd.int .i64) 2 w' w.heap.size (fun k_ => some k_ ≠ (u6 : Value).ownBlock) (.slice (some ad114) t103.length co19) t103) ∧ Aside0 (Kd.R (Kd.int .i64) 2 w' w.heap.size (fun k_ => some k_ ≠ ((.slice (some ad114) t103.length co19) : Value).ownBlock) u6 x6_1) ∧ Aside0 (Kd.R kFace 74 w' w.heap.size (fun _ => True) v120 x11_3) ∧ Aside0 (Kd.S (Kd.slice 74 kFace) 75 w' w.heap.size (fun k_ => some k_ ≠ (v120 : Value).ownBlock) u114000 x114000_2) ∧ Aside0 (w'.heap[gb101]? = some (.cells #[(.slice (some ad118) l0_0.length c0_0)] 28 (0, 0))) ∧ Aside0 (w'.heap[gb102]? = some (.cells #[(.slice none 0 0)] 28 (0, 0))) ∧ Aside0 (w'.heap[gb113]? = some (.cells #[u114000] 28 (0, 0))) ∧ Aside0 (Below w.heap.size w w'))
      case atStart => exact ⟨(y119), (0), (by first | rfl | (simp; done) | (simp [*]; done)), H', ⟨ypy _⟩, ⟨by (with_reducible repeat (first | apply Kd.R_alloc | apply Kd.R_drewN | apply Kd.R_drew)); exact HO_5.out⟩, ⟨by (with_reducible repeat (first | apply Kd.R_alloc | apply Kd.R_drewN | apply Kd.R_drew)); exact HO_6.out⟩, ⟨by (with_reducible repeat (first | apply Kd.R_alloc | apply Kd.R_drewN | apply Kd.R_drew)); exact HO121.out⟩, ⟨by (with_reducible repeat (first | apply Kd.S_alloc | apply Kd.S_drewN | apply Kd.S_drew)); exact Kd.S_mono HO_114000.out (fun _ hk => hk.2)⟩, ⟨by (with_reducible repeat (first | refine blk_drewN ?_ _ | refine blk_drew ?_ | refine blk_alloc ?_ _)); exact BK101.out⟩, ⟨by (with_reducible repeat (first | refine blk_drewN ?_ _ | refine blk_drew ?_ | refine blk_alloc ?_ _)); exact BK102.out⟩, ⟨by (with_reducible repeat (first | refine blk_drewN ?_ _ | refine blk_drew ?_ | refine blk_alloc ?_ _)); exact BK113.out⟩, ⟨by repeat (first | (with_reducible first | exact HB.out | apply below_alloc | apply pw_below_drewN | apply below_drew1 | refine below_set ?_ GE101.out | refine below_set ?_ GE102.out | refine below_set ?_ GE113.out) | exact HB.out)⟩⟩
      case round =>
       clear H'
       try clear c1
       try clear p1
       try clear q1
       try clear hx1
       try clear c2
       try clear p2
       try clear c3
       try clear c5
       try clear c6
       try clear p6
       try clear c11
       try clear c11b0
       try clear p11
       try clear q11
       try clear hx11
       try clear c12
       try clear c13
       try clear c13b0
       try clear c14
       try clear c14b0
       try clear c14b1
       try clear c21
       try clear c22
       try clear c24
       try clear c24b0
       try clear c25
       try clear c25b0
       try clear c26
       try clear c26b0
       try clear c26b1
       try clear c27
       try clear c27b0
       try clear c28
       try clear c31
       try clear c32
       try clear hcz23_0
       try clear hcz33_0
       try clear hcz7_0
       try clear hfz23_0
       try clear hfz33_0
       try clear hfz7_0
       try clear hx112_0
       try clear hx114_0
       try clear hx118_0
       try clear p1
       try clear p11
       try clear p112
       try clear p114
       try clear p118
       try clear p2
       try clear p6
       try clear q1
       try clear q11
       try clear q112
       try clear q114
       try clear q118
       obtain ⟨x11_3, x12_3, rfl, HA, HK3, HO_5, HO_6, HO_11, HO_114000, BK101, BK102, BK113, HB⟩ := hrel
       cases gk with
       | zero => exact absurd HA.out (by simp [spec_l11Part.l2])
       | succ k3 =>
        have H := HA.out
        clear HA
        simp only [spec_l11Part.l2] at H
        by_cases c35 : x12_3 < 4
        rotate_left
        next =>
         rw [if_neg c35] at H
         have c35b0 : decide (x12_3 < 4) = false := yhy c35
         clear c35
         by_cases c47 : x114000_2.length < 5864062014805
         rotate_left
         next =>
          rw [if_neg c47] at H
          exact absurd H (by simp)
         rw [if_pos c47] at H
         have LMc47 := Aside0.mk c47
         clear c47
         obtain ⟨y127, hy127⟩ : ∃ y_ : List (List (SFace)), y_ = (x114000_2 ++ [x11_3]) := ⟨_, rfl⟩
         replace H : (spec_l11Part.l1 k3 a1 t103 x6_1 (wrap64 (x10_2 + 1)) l0_0 y127) = some r := by first | (rw [hy127]; with_reducible exact H) | (have H2_ := (yfy _ _).symm.trans H; rw [hy127]; with_reducible exact H2_) | (have H2_ := (yfy _ _).symm.trans H; with_reducible exact H2_) | with_reducible exact H | (rw [hy127]; exact H) | exact H
         have Ny127 := Aside0.mk hy127
         clear hy127
         have H' := Aside0.mk H
         clear H
         have hnb48 := NB113_101.out
         have hnc48 := NB101_113.out
         have hnb49 := NB113_102.out
         have hnc49 := NB102_113.out
         have hcz50_0 : wr.cell? ⟨gb113, 0, none⟩ = some (u114000) := (blk_cell BK113.out 0).trans rfl
         have hfz50_0 := blk_frozen BK113.out 0
         obtain ⟨Ao52, co52, eo52⟩ := Kd.R_slice HO_11.out
         subst eo52
         go_wp2_with (first | ((with_reducible refine gate_builtin (b := .append) (xs := #[.tmp 82, .tmp 84]) rfl ?_); at_builtin; refine Kd.S_append (Kd.slice 74 kFace) (w0 := w) w.heap.size rfl (.tmp 82) (.tmp 84) 26 75 (.slice none 0 0) 24 rfl Try.underlying26 info75 rfl (by decide) (by omega) u114000 x114000_2 x11_3 [.slice Ao52 x11_3.length co52] (fun _ => True) (fun k_ => some k_ = (.slice Ao52 x11_3.length co52 : Value).ownBlock) rfl rfl ?aP (fun k_ hk_ => ((Kd.R_mono (ok' := fun k_ => ((fun _ => True)) k_ ∧ some k_ ≠ (u114000 : Value).ownBlock) (Kd.R_apart' (HO_11.out) (Kd.S_typed HO_114000.out) (by decide)) (fun k_ hk => ⟨trivial, hk.2⟩))).1 k_ hk_.symm) ?aF ?aO ?aB ?aS ?aL ?_; (case aP => exact Kd.M_row (Kd.R_mono (Kd.R_tight rfl (Kd.R_mono (ok' := fun k_ => ((fun _ => True)) k_ ∧ some k_ ≠ (u114000 : Value).ownBlock) (Kd.R_apart' (HO_11.out) (Kd.S_typed HO_114000.out) (by decide)) (fun k_ hk => ⟨trivial, hk.2⟩))) (fun _ h_ => h_))); (case aB => exact (by repeat (first | (with_reducible first | exact HB.out | apply below_alloc | apply pw_below_drewN | apply below_drew1 | refine below_set ?_ GE101.out | refine below_set ?_ GE102.out | refine below_set ?_ GE113.out) | exact HB.out))); (case aF => exact (fun _ _ => trivial)); (case aO => exact (by (with_reducible repeat (first | apply Kd.S_alloc | apply Kd.S_drewN | apply Kd.S_drew)); exact Kd.S_mono HO_114000.out (fun k_ hk => ⟨trivial, fun e_ => hk e_⟩))); (case aS => exact (below_size (by repeat (first | (with_reducible first | exact HB.out | apply below_alloc | apply pw_below_drewN | apply below_drew1 | refine below_set ?_ GE101.out | refine below_set ?_ GE102.out | refine below_set ?_ GE113.out) | exact HB.out)))); (case aL => have := LMc47.out; omega); intro v128 w51 ho hb hg hat; rw [← Ny127.out] at ho; have n0_ := Aside0.mk (Kd.R_over' (by (with_reducible repeat (first | apply Kd.R_alloc | apply Kd.R_drewN | apply Kd.R_drew)); exact HO_5.out) (Kd.S_typed (by (with_reducible repeat (first | apply Kd.S_alloc | apply Kd.S_drewN | apply Kd.S_drew)); exact HO_114000.out)) (by decide) hg); have n1_ := Aside0.mk (Kd.R_over' (by (with_reducible repeat (first | apply Kd.R_alloc | apply Kd.R_drewN | apply Kd.R_drew)); exact HO_6.out) (Kd.S_typed (by (with_reducible repeat (first | apply Kd.S_alloc | apply Kd.S_drewN | apply Kd.S_drew)); exact HO_114000.out)) (by decide) hg); have n2_ := Aside0.mk (blk_grown (g := gb101) (o := .cells #[.slice (some ad118) l0_0.length c0_0] 28 (0, 0)) (by (with_reducible repeat (first | refine blk_drewN ?_ _ | refine blk_drew ?_ | refine blk_alloc ?_ _)); exact BK101.out) hg (Kd.S_ne HO_114000.out BK101.out (by decide))); have n3_ := Aside0.mk (blk_grown (g := gb102) (o := .cells #[.slice none 0 0] 28 (0, 0)) (by (with_reducible repeat (first | refine blk_drewN ?_ _ | refine blk_drew ?_ | refine blk_alloc ?_ _)); exact BK102.out) hg (Kd.S_ne HO_114000.out BK102.out (by decide))); have n4_ := Aside0.mk (blk_grown (g := gb113) (o := .cells #[u114000] 28 (0, 0)) (by (with_reducible repeat (first | refine blk_drewN ?_ _ | refine blk_drew ?_ | refine blk_alloc ?_ _)); exact BK113.out) hg (Kd.S_ne HO_114000.out BK113.out (by decide))); have n5_ := Aside0.mk (hb); have n6_ := Aside0.mk (ho); clear HO_5; clear HO_6; clear BK101; clear BK102; clear BK113; clear HB; clear HO_114000; clear HO_11; have HO_5 := n0_; have HO_6 := n1_; have BK101 := n2_; have BK102 := n3_; have BK113 := n4_; have HB := n5_; have HO129 := n6_; clear n0_ n1_ n2_ n3_ n4_ n5_ n6_; clear ho hb hg hat; obtain ⟨Ao53, co53, eo53⟩ := Kd.S_slice HO129.out; subst eo53; have hcz54_0 : w51.cell? ⟨gb113, 0, none⟩ = some (u114000) := (blk_cell BK113.out 0).trans rfl; have hfz54_0 := blk_frozen BK113.out 0))
         go_roundg k3
         case measure => have := HK1.out; have := HK2.out; have := HK3.out; omega
         case rel => exact ⟨(wrap64 (x10_2 + 1)), (y127), (.slice Ao53 y127.length co53), (by first | rfl | (simp; done) | (simp [*]; done)), H', ⟨by have := HK1.out; have := HK2.out; have := HK3.out; omega⟩, ⟨by (with_reducible repeat (first | apply Kd.R_alloc | apply Kd.R_drewN | apply Kd.R_drew)); exact Kd.R_mono (Kd.R_far (p := ⟨gb113, 0, none⟩) (Kd.R_types HO_5.out BK113.out (by decide)) (fun _ hk => hk.2) (.slice Ao53 y127.length co53)) (fun _ hk => hk.1)⟩, ⟨by (with_reducible repeat (first | apply Kd.R_alloc | apply Kd.R_drewN | apply Kd.R_drew)); exact Kd.R_mono (Kd.R_far (p := ⟨gb113, 0, none⟩) (Kd.R_types HO_6.out BK113.out (by decide)) (fun _ hk => hk.2) (.slice Ao53 y127.length co53)) (fun _ hk => hk.1)⟩, ⟨by (with_reducible repeat (first | apply Kd.S_alloc | apply Kd.S_drewN | apply Kd.S_drew)); exact Kd.S_mono (Kd.S_far (p := ⟨gb113, 0, none⟩) (Kd.S_types HO129.out BK113.out (by decide)) (fun _ hk => hk.2) (.slice Ao53 y127.length co53)) (fun _ hk => trivial)⟩, ⟨by (with_reducible repeat (first | refine blk_drewN ?_ _ | refine blk_drew ?_ | refine blk_alloc ?_ _)); refine blk_far ?_ NB101_113.out _; (with_reducible repeat (first | refine blk_drewN ?_ _ | refine blk_drew ?_ | refine blk_alloc ?_ _)); exact BK101.out⟩, ⟨by (with_reducible repeat (first | refine blk_drewN ?_ _ | refine blk_drew ?_ | refine blk_alloc ?_ _)); refine blk_far ?_ NB102_113.out _; (with_reducible repeat (first | refine blk_drewN ?_ _ | refine blk_drew ?_ | refine blk_alloc ?_ _)); exact BK102.out⟩, ⟨by (with_reducible repeat (first | refine blk_drewN ?_ _ | refine blk_drew ?_ | refine blk_alloc ?_ _)); refine blk_put (cs := #[u114000]) ?_ 0 _ rfl; (with_reducible repeat (first | refine blk_drewN ?_ _ | refine blk_drew ?_ | refine blk_alloc ?_ _)); exact BK113.out⟩, ⟨by repeat (first | (with_reducible first | exact HB.out | apply below_alloc | apply pw_below_drewN | apply below_drew1 | refine below_set ?_ GE101.out | refine below_set ?_ GE102.out | refine below_set ?_ GE113.out) | exact HB.out)⟩⟩
        rw [if_pos c35] at H
        have c35b0 : decide (x12_3 < 4) = true := ygy c35
        clear c35
        by_cases c36 : 0 ≤ x12_3
        rotate_left
        next =>
         rw [if_neg c36] at H
         exact absurd H (by simp)
        rw [if_pos c36] at H
        have c36b0 : decide (0 ≤ x12_3) = true := ygy c36
        clear c36
        by_cases c37 : x12_3 < (x11_3.length : Int)
        rotate_left
        next =>
         rw [if_neg c37] at H
         exact absurd H (by simp)
        rw [if_pos c37] at H
        have c37b0 : decide (x12_3 < (x11_3.length : Int)) = true := ygy c37
        clear c37
        by_cases c38 : ((rd_Face x11_3 x12_3).f0) ≥ 0
        rotate_left
        next =>
         rw [if_neg c38] at H
         have c38b0 : decide (0 ≤ ((rd_Face x11_3 x12_3).f0)) = false := yhy c38
         clear c38
         have H' := Aside0.mk H
         clear H
         obtain ⟨Ao46, co46, eo46⟩ := Kd.R_slice HO_11.out
         subst eo46
         have p122 : 0 ≤ (x12_3 : Int) := of_decide_eq_true (by first | (with_reducible assumption) | assumption)
         have q122 : x12_3 < (x11_3.length : Int) := of_decide_eq_true (by first | (with_reducible assumption) | assumption)
         obtain ⟨ad122, e122, hx122_0, hx122_1⟩ := at_Face (Kd.R_reads' HO_11.out).2.2 x12_3 p122 q122
         cases e122
         replace p122 := eq_true p122
         replace q122 := eq_true q122
         go_wp2
         go_roundg k3
         case measure => have := HK1.out; have := HK2.out; have := HK3.out; omega
         case rel => exact ⟨(x11_3), (wrap64 (x12_3 + 1)), (by first | rfl | (simp; done) | (simp [*]; done)), H', ⟨by have := HK1.out; have := HK2.out; have := HK3.out; omega⟩, ⟨by (with_reducible repeat (first | apply Kd.R_alloc | apply Kd.R_drewN | apply Kd.R_drew)); exact HO_5.out⟩, ⟨by (with_reducible repeat (first | apply Kd.R_alloc | apply Kd.R_drewN | apply Kd.R_drew)); exact HO_6.out⟩, ⟨by (with_reducible repeat (first | apply Kd.R_alloc | apply Kd.R_drewN | apply Kd.R_drew)); exact HO_11.out⟩, ⟨by (with_reducible repeat (first | apply Kd.S_alloc | apply Kd.S_drewN | apply Kd.S_drew)); exact HO_114000.out⟩, ⟨by (with_reducible repeat (first | refine blk_drewN ?_ _ | refine blk_drew ?_ | refine blk_alloc ?_ _)); exact BK101.out⟩, ⟨by (with_reducible repeat (first | refine blk_drewN ?_ _ | refine blk_drew ?_ | refine blk_alloc ?_ _)); exact BK102.out⟩, ⟨by (with_reducible repeat (first | refine blk_drewN ?_ _ | refine blk_drew ?_ | refine blk_alloc ?_ _)); exact BK113.out⟩, ⟨by repeat (first | (with_reducible first | exact HB.out | apply below_alloc | apply pw_below_drewN | apply below_drew1 | refine below_set ?_ GE101.out | refine below_set ?_ GE102.out | refine below_set ?_ GE113.out) | exact HB.out)⟩⟩
        rw [if_pos c38] at H
        have c38b0 : decide (0 ≤ ((rd_Face x11_3 x12_3).f0)) = true := ygy c38
        clear c38
        by_cases c39 : 0 ≤ ((rd_Face x11_3 x12_3).f0)
        rotate_left
        next =>
         rw [if_neg c39] at H
         exact absurd H (by simp)
        rw [if_pos c39] at H
        have c39b0 : decide (0 ≤ ((rd_Face x11_3 x12_3).f0)) = true := ygy c39
        clear c39
        by_cases c40 : ((rd_Face x11_3 x12_3).f0) < (x6_1.length : Int)
        rotate_left
        next =>
         rw [if_neg c40] at H
         exact absurd H (by simp)
        rw [if_pos c40] at H
        have c40b0 : decide (((rd_Face x11_3 x12_3).f0) < (x6_1.length : Int)) = true := ygy c40
        clear c40
        obtain ⟨y126, hy126⟩ : ∃ y_ : List (SFace), y_ = (x11_3.set (x12_3 : Int).toNat (⟨rd x6_1 ((rd_Face x11_3 x12_3).f0), (rd_Face x11_3 x12_3).f1⟩ : SFace)) := ⟨_, rfl⟩
        replace H : (spec_l11Part.l2 k3 a1 t103 x6_1 x10_2 y126 (wrap64 (x12_3 + 1)) l0_0 x114000_2) = some r := by first | (rw [hy126]; with_reducible exact H) | (have H2_ := (yfy _ _).symm.trans H; rw [hy126]; with_reducible exact H2_) | (have H2_ := (yfy _ _).symm.trans H; with_reducible exact H2_) | with_reducible exact H | (rw [hy126]; exact H) | exact H
        have Ny126 := Aside0.mk hy126
        clear hy126
        have H' := Aside0.mk H
        clear H
        obtain ⟨Ao42, co42, eo42⟩ := Kd.R_slice HO_11.out
        subst eo42
        have p122 : 0 ≤ (x12_3 : Int) := of_decide_eq_true (by first | (with_reducible assumption) | assumption)
        have q122 : x12_3 < (x11_3.length : Int) := of_decide_eq_true (by first | (with_reducible assumption) | assumption)
        obtain ⟨ad122, e122, hx122_0, hx122_1⟩ := at_Face (Kd.R_reads' HO_11.out).2.2 x12_3 p122 q122
        cases e122
        replace p122 := eq_true p122
        replace q122 := eq_true q122
        try go_wp2
        have n0_ := Aside0.mk (Kd.R_drew HO_5.out)
        have n1_ := Aside0.mk (Kd.R_drew HO_6.out)
        have n2_ := Aside0.mk (Kd.R_drew HO_11.out)
        have n3_ := Aside0.mk (Kd.S_drew HO_114000.out)
        have n4_ := Aside0.mk (blk_drew BK101.out)
        have n5_ := Aside0.mk (blk_drew BK102.out)
        have n6_ := Aside0.mk (blk_drew BK113.out)
        have n7_ := Aside0.mk (below_drew1 HB.out)
        clear HO_5
        clear HO_6
        clear HO_11
        clear HO_114000
        clear BK101
        clear BK102
        clear BK113
        clear HB
        have HO_5 := n0_
        have HO_6 := n1_
        have HO_11 := n2_
        have HO_114000 := n3_
        have BK101 := n4_
        have BK102 := n5_
        have BK113 := n6_
        have HB := n7_
        clear n0_ n1_ n2_ n3_ n4_ n5_ n6_ n7_
        have p123 : 0 ≤ (x12_3 : Int) := of_decide_eq_true (by first | (with_reducible assumption) | assumption)
        have q123 : x12_3 < (x11_3.length : Int) := of_decide_eq_true (by first | (with_reducible assumption) | assumption)
        obtain ⟨ad123, e123, hx123_0, hx123_1⟩ := at_Face (Kd.R_reads' HO_11.out).2.2 x12_3 p123 q123
        obtain rfl : ad122 = ad123 := (by injection e123)
        replace p123 := eq_true p123
        replace q123 := eq_true q123
        obtain ⟨Ao44, co44, eo44⟩ := Kd.R_slice HO_6.out
        (first | subst eo44 | (injection eo44 with f1_ f2_ f3_; have f4_ := f1_.symm; have f5_ := f3_.symm; clear f1_ f2_ f3_; subst f4_; subst f5_))
        have p124 : 0 ≤ (((rd_Face x11_3 x12_3).f0) : Int) := of_decide_eq_true (by first | (with_reducible assumption) | assumption)
        have q124 : ((rd_Face x11_3 x12_3).f0) < (x6_1.length : Int) := of_decide_eq_true (by first | (with_reducible assumption) | assumption)
        obtain ⟨ad124, e124, hx124_0⟩ := Kd.at_int (Kd.R_reads' HO_6.out).2.2 ((rd_Face x11_3 x12_3).f0) p124 q124
        cases e124
        replace p124 := eq_true p124
        replace q124 := eq_true q124
        have p125 : 0 ≤ (x12_3 : Int) := of_decide_eq_true (by first | (with_reducible assumption) | assumption)
        have q125 : x12_3 < (x11_3.length : Int) := of_decide_eq_true (by first | (with_reducible assumption) | assumption)
        obtain ⟨ad125, e125, hx125_0, hx125_1⟩ := at_Face (Kd.R_reads' HO_11.out).2.2 x12_3 p125 q125
        obtain rfl : ad122 = ad125 := (by injection e125)
        replace p125 := eq_true p125
        replace q125 := eq_true q125
        have p41 : 0 ≤ (x12_3 : Int) := of_decide_eq_true (by first | (with_reducible assumption) | assumption)
        have q41 : (x12_3 : Int) < ((x11_3.length : Int) : Int) := of_decide_eq_true (by first | (with_reducible assumption) | assumption)
        obtain ⟨go41, co41, eo41, gb41, gl41, cl41, HG41⟩ := Kd.R_form HO_11.out (by omega)
        (first | cases eo41 | (injection eo41 with ea_ en_ ec_; (first | subst ea_ | (injection ea_ with ea_; subst ea_)); subst ec_; clear en_))
        have GB41 := Aside0.mk gb41
        have GG41 := Aside0.mk HG41
        clear gb41 gl41 HG41
        (first | simp only [add_plain] at hx122_0 | skip)
        (first | simp only [add_plain] at hx122_1 | skip)
        (first | simp only [add_plain] at hx123_0 | skip)
        (first | simp only [add_plain] at hx123_1 | skip)
        (first | simp only [add_plain] at hx125_0 | skip)
        (first | simp only [add_plain] at hx125_1 | skip)
        obtain ⟨ce41, hcl41, hM41, hcc41, hfr41⟩ := Kd.R_elem HO_11.out zFace (x12_3 : Int) p41 q41
        obtain rfl := kFace_openM hM41
        have hx41_0 : World.cell? _ ⟨go41, (x12_3 : Int).toNat * 2, none⟩ = some (.int .i64 ((rd_Face x11_3 x12_3).f0)) := hcc41 0 _ rfl
        have hx41_1 : World.cell? _ ⟨go41, (x12_3 : Int).toNat * 2 + 1, none⟩ = some (.int .i64 ((rd_Face x11_3 x12_3).f1)) := hcc41 1 _ rfl
        have hf41_0 : World.frozen? _ ⟨go41, (x12_3 : Int).toNat * 2, none⟩ = false := hfr41 0
        have hf41_1 : World.frozen? _ ⟨go41, (x12_3 : Int).toNat * 2 + 1, none⟩ = false := hfr41 1
        clear hcl41 hcc41 hfr41 hM41
        replace p41 := eq_true p41
        replace q41 := eq_true q41
        obtain ⟨ce45, hcl45, hM45, hcc45, hfr45⟩ := Kd.R_elem HO_11.out zFace (x12_3 : Int) (of_decide_eq_true (by first | (with_reducible assumption) | assumption)) (by have h_ : (x12_3 : Int) < ((x11_3.length : Int) : Int) := of_decide_eq_true (by first | (with_reducible assumption) | assumption); first | exact h_ | (have e_ := (Kd.R_reads' HO_11.out).1; omega) | simpa using h_)
        obtain rfl := kFace_openM hM45
        have HP45 := (Kd.R_seg HO_11.out (x12_3 : Int) (of_decide_eq_true (by first | (with_reducible assumption) | assumption)) (by have h_ : (x12_3 : Int) < ((x11_3.length : Int) : Int) := of_decide_eq_true (by first | (with_reducible assumption) | assumption); first | exact h_ | (have e_ := (Kd.R_reads' HO_11.out).1; omega) | simpa using h_) (seg := [.int .i64 (rd x6_1 ((rd_Face x11_3 x12_3).f0)), .int .i64 ((rd_Face x11_3 x12_3).f1)]) (j := 0) hcl45 hcc45 (show 2 ≤ 2 from by decide) (x' := (⟨rd x6_1 ((rd_Face x11_3 x12_3).f0), (rd_Face x11_3 x12_3).f1⟩ : SFace)) (kFace_mkM _ _ _ (⟨rd x6_1 ((rd_Face x11_3 x12_3).f0), (rd_Face x11_3 x12_3).f1⟩ : SFace) ) (fun _ hk => hk)).1
        rw [← Ny126.out] at HP45
        have HQ45 := Aside0.mk HP45
        clear hcl45 hcc45 hfr45 hM45 HP45
        refine start_ (n := 18) (S := fun w' => w'.cell? ⟨go41, ((x12_3).toNat * 2), none⟩ = some (.int .i64 ((rd_Face x11_3 x12_3).f0)) ∧ w'.cell? ⟨go41, ((x12_3).toNat * 2) + 1, none⟩ = some (.int .i64 ((rd_Face x11_3 x12_3).f1)) ∧ w'.cell? (ad124.add (((rd_Face x11_3 x12_3).f0)).toNat) = some (.int .i64 (rd x6_1 ((rd_Face x11_3 x12_3).f0))) ∧ w'.cell? ⟨go41, ((x12_3).toNat * 2), none⟩ = some (.int .i64 ((rd_Face x11_3 x12_3).f0)) ∧ w'.cell? ⟨go41, ((x12_3).toNat * 2) + 1, none⟩ = some (.int .i64 ((rd_Face x11_3 x12_3).f1))) (ds := [17]) #[false, false, false, false, false, false, false, false, false, false, false, false, false, false, false, false, false, false] (by kernel_rfl) rfl rfl ⟨hx123_0, hx123_1, hx124_0, hx125_0, hx125_1⟩ (fun hHeld => ?_); refine with_tabW spec_l11Part.tab20 spec_l11Part.bits20 (fun HT_ HW_ => ?_)
        generalize wr.drew = w43 at HO_5 HO_6 HO_11 HO_114000 BK101 BK102 BK113 HB GG41 HQ45 hf41_0 hf41_1 hx122_0 hx122_1 hx123_0 hx123_1 hx124_0 hx125_0 hx125_1 hx41_0 hx41_1 hHeld ⊢
        refine pure_ (i := 0) (N := some 64) (v := ?_) (a' := ?_) #[true, false, false, false, false, false, false, false, false, false, false, false, false, false, false, false, false, false] rfl rfl (any_of HT_.out (by kernel_rfl)) (fun _ _ _ h => h) (Or.inl ⟨by rfl, ?_⟩) ?_ ?_
        rotate_left
        next =>
         intro w'
         go_simp
         with_reducible rfl
        rotate_left
        next =>
         simp only [Act.put, yay, yby, ycy, i64_w, i32_w]
         rfl
        refine pure_ (i := 1) (N := some 65) (v := ?_) (a' := ?_) #[true, true, false, false, false, false, false, false, false, false, false, false, false, false, false, false, false, false] rfl rfl (any_of HT_.out (by kernel_rfl)) (fun _ _ _ h => h) (Or.inl ⟨by rfl, ?_⟩) ?_ ?_
        rotate_left
        next =>
         intro w'
         go_simp
         with_reducible rfl
        rotate_left
        next =>
         simp only [Act.put, yay, yby, ycy, i64_w, i32_w]
         rfl
        refine pure_ (i := 2) (N := some 66) (v := ?_) (a' := ?_) #[true, true, true, false, false, false, false, false, false, false, false, false, false, false, false, false, false, false] rfl rfl (any_of HT_.out (by kernel_rfl)) (fun _ _ _ h => h) (Or.inl ⟨by rfl, ?_⟩) ?_ ?_
        rotate_left
        next =>
         intro w'
         go_simp
         with_reducible rfl
        rotate_left
        next =>
         simp only [Act.put, yay, yby, ycy, i64_w, i32_w]
         rfl
        refine pure_ (i := 3) (N := some 67) (v := ?_) (a' := ?_) #[true, true, true, true, false, false, false, false, false, false, false, false, false, false, false, false, false, false] rfl rfl (any_of HT_.out (by kernel_rfl)) (fun _ _ _ h => h) (Or.inl ⟨by rfl, ?_⟩) ?_ ?_
        rotate_left
        next =>
         intro w'
         go_simp
         with_reducible rfl
        rotate_left
        next =>
         simp only [Act.put, yay, yby, ycy, i64_w, i32_w]
         rfl
        refine pure_ (i := 4) (N := some 68) (v := ?_) (a' := ?_) #[true, true, true, true, true, false, false, false, false, false, false, false, false, false, false, false, false, false] rfl rfl (any_of HT_.out (by kernel_rfl)) (fun _ _ _ h => h) (Or.inl ⟨by rfl, ?_⟩) ?_ ?_
        rotate_left
        next =>
         intro w'
         go_simp
         with_reducible rfl
        rotate_left
        next =>
         simp only [Act.put, yay, yby, ycy, i64_w, i32_w]
         rfl
        refine pure_ (i := 5) (N := some 69) (v := ?_) (a' := ?_) #[true, true, true, true, true, true, false, false, false, false, false, false, false, false, false, false, false, false] rfl rfl (any_of HT_.out (by kernel_rfl)) (fun _ _ _ h => h) (Or.inl ⟨by rfl, ?_⟩) ?_ ?_
        rotate_left
        next =>
         intro w'
         go_simp
         with_reducible rfl
        rotate_left
        next =>
         simp only [Act.put, yay, yby, ycy, i64_w, i32_w]
         rfl
        refine pure_ (i := 6) (N := some 70) (v := ?_) (a' := ?_) #[true, true, true, true, true, true, true, false, false, false, false, false, false, false, false, false, false, false] rfl rfl (any_of HT_.out (by kernel_rfl)) (fun _ _ _ h => h) (Or.inl ⟨by rfl, ?_⟩) ?_ ?_
        rotate_left
        next =>
         intro w'
         go_simp
         with_reducible rfl
        rotate_left
        next =>
         simp only [Act.put, yay, yby, ycy, i64_w, i32_w]
         rfl
        refine pure_ (i := 10) (N := some 74) (v := ?_) (a' := ?_) #[true, true, true, true, true, true, true, false, false, false, true, false, false, false, false, false, false, false] rfl rfl (any_of HT_.out (by kernel_rfl)) (fun _ _ _ h => h) (Or.inl ⟨by rfl, ?_⟩) ?_ ?_
        rotate_left
        next =>
         intro w'
         go_simp
         with_reducible rfl
        rotate_left
        next =>
         simp only [Act.put, yay, yby, ycy, i64_w, i32_w]
         rfl
        refine pure_ (i := 11) (N := some 75) (v := ?_) (a' := ?_) #[true, true, true, true, true, true, true, false, false, false, true, true, false, false, false, false, false, false] rfl rfl (any_of HT_.out (by kernel_rfl)) (fun _ _ _ h => h) (Or.inl ⟨by rfl, ?_⟩) ?_ ?_
        rotate_left
        next =>
         intro w'
         go_simp
         with_reducible rfl
        rotate_left
        next =>
         simp only [Act.put, yay, yby, ycy, i64_w, i32_w]
         rfl
        refine pure_ (i := 12) (N := some 76) (v := ?_) (a' := ?_) #[true, true, true, true, true, true, true, false, false, false, true, true, true, false, false, false, false, false] rfl rfl (any_of HT_.out (by kernel_rfl)) (fun _ _ _ h => h) (Or.inl ⟨by rfl, ?_⟩) ?_ ?_
        rotate_left
        next =>
         intro w'
         go_simp
         with_reducible rfl
        rotate_left
        next =>
         simp only [Act.put, yay, yby, ycy, i64_w, i32_w]
         rfl
        refine pure_ (i := 13) (N := some 77) (v := ?_) (a' := ?_) #[true, true, true, true, true, true, true, false, false, false, true, true, true, true, false, false, false, false] rfl rfl (any_of HT_.out (by kernel_rfl)) (fun _ _ _ h => h) (Or.inl ⟨by rfl, ?_⟩) ?_ ?_
        rotate_left
        next =>
         intro w'
         go_simp
         with_reducible rfl
        rotate_left
        next =>
         simp only [Act.put, yay, yby, ycy, i64_w, i32_w]
         rfl
        refine take_ (i := 7) (N := some 71) (v := ?_) (a' := ?_) #[true, true, true, true, true, true, true, true, false, false, true, true, true, true, false, false, false, false] rfl rfl (take_ofW HT_.out HW_.out (by kernel_rfl)) (fun _ _ _ h => h) (Or.inl ⟨by rfl, ?_⟩) hHeld ?_ ?_
        rotate_left
        next =>
         rintro w' ⟨s0, s1, s2, s3, s4⟩
         go_simp
         with_reducible rfl
        rotate_left
        next =>
         simp only [Act.put, yay, yby, ycy, i64_w, i32_w]
         rfl
        refine pure_ (i := 8) (N := some 72) (v := ?_) (a' := ?_) #[true, true, true, true, true, true, true, true, true, false, true, true, true, true, false, false, false, false] rfl rfl (any_of HT_.out (by kernel_rfl)) (fun _ _ _ h => h) (Or.inl ⟨by rfl, ?_⟩) ?_ ?_
        rotate_left
        next =>
         intro w'
         go_simp
         with_reducible rfl
        rotate_left
        next =>
         simp only [Act.put, yay, yby, ycy, i64_w, i32_w]
         rfl
        refine take_ (i := 9) (N := some 73) (v := ?_) (a' := ?_) #[true, true, true, true, true, true, true, true, true, true, true, true, true, true, false, false, false, false] rfl rfl (take_ofW HT_.out HW_.out (by kernel_rfl)) (fun _ _ _ h => h) (Or.inl ⟨by rfl, ?_⟩) hHeld ?_ ?_
        rotate_left
        next =>
         rintro w' ⟨s0, s1, s2, s3, s4⟩
         go_simp
         with_reducible rfl
        rotate_left
        next =>
         simp only [Act.put, yay, yby, ycy, i64_w, i32_w]
         rfl
        refine take_ (i := 14) (N := some 78) (v := ?_) (a' := ?_) #[true, true, true, true, true, true, true, true, true, true, true, true, true, true, true, false, false, false] rfl rfl (take_ofW HT_.out HW_.out (by kernel_rfl)) (fun _ _ _ h => h) (Or.inl ⟨by rfl, ?_⟩) hHeld ?_ ?_
        rotate_left
        next =>
         rintro w' ⟨s0, s1, s2, s3, s4⟩
         go_simp
         with_reducible rfl
        rotate_left
        next =>
         simp only [Act.put, yay, yby, ycy, i64_w, i32_w]
         rfl
        refine pure_ (i := 15) (N := some 79) (v := ?_) (a' := ?_) #[true, true, true, true, true, true, true, true, true, true, true, true, true, true, true, true, false, false] rfl rfl (any_of HT_.out (by kernel_rfl)) (fun _ _ _ h => h) (Or.inl ⟨by rfl, ?_⟩) ?_ ?_
        rotate_left
        next =>
         intro w'
         go_simp
         with_reducible rfl
        rotate_left
        next =>
         simp only [Act.put, yay, yby, ycy, i64_w, i32_w]
         rfl
        refine pure_ (i := 16) (N := some 80) (v := ?_) (a' := ?_) #[true, true, true, true, true, true, true, true, true, true, true, true, true, true, true, true, true, false] rfl rfl (any_of HT_.out (by kernel_rfl)) (fun _ _ _ h => h) (Or.inl ⟨by rfl, ?_⟩) ?_ ?_
        rotate_left
        next =>
         intro w'
         go_simp
         with_reducible rfl
        rotate_left
        next =>
         simp only [Act.put, yay, yby, ycy, i64_w, i32_w]
         rfl
        refine last_ (i := 17) (N := none) #[true, true, true, true, true, true, true, true, true, true, true, true, true, true, true, true, true, true] rfl rfl (one_of HT_.out (by kernel_rfl)) (by decide) (fun K hK => ?_)
        refine skip_ (w1 := ?_) (by rfl) rfl ?_ ?_
        rotate_left
        next =>
         go_simp
         rfl
        refine hK.out _ _ ?_
        clear hK K
        refine done_ (done_of HT_.out (by kernel_rfl)) ?_
        try go_wp2
        go_roundg k3
        case measure => have := HK1.out; have := HK2.out; have := HK3.out; omega
        case rel => exact ⟨(y126), (wrap64 (x12_3 + 1)), (by first | rfl | (simp; done) | (simp [*]; done)), H', ⟨by have := HK1.out; have := HK2.out; have := HK3.out; omega⟩, ⟨by (with_reducible repeat (first | apply Kd.R_alloc | apply Kd.R_drewN | apply Kd.R_drew)); exact Kd.R_mono (Kd.R_far (p := ⟨go41, (x12_3 : Int).toNat * 2 + 1, none⟩) (Kd.R_far (p := ⟨go41, (x12_3 : Int).toNat * 2, none⟩) (Kd.R_types HO_5.out GG41.out (by decide)) (fun _ hk => hk.2) (.int .i64 (rd x6_1 ((rd_Face x11_3 x12_3).f0)))) (fun _ hk => hk.2) (.int .i64 ((rd_Face x11_3 x12_3).f1))) (fun _ hk => hk.1)⟩, ⟨by (with_reducible repeat (first | apply Kd.R_alloc | apply Kd.R_drewN | apply Kd.R_drew)); exact Kd.R_mono (Kd.R_far (p := ⟨go41, (x12_3 : Int).toNat * 2 + 1, none⟩) (Kd.R_far (p := ⟨go41, (x12_3 : Int).toNat * 2, none⟩) (Kd.R_types HO_6.out GG41.out (by decide)) (fun _ hk => hk.2) (.int .i64 (rd x6_1 ((rd_Face x11_3 x12_3).f0)))) (fun _ hk => hk.2) (.int .i64 ((rd_Face x11_3 x12_3).f1))) (fun _ hk => hk.1)⟩, ⟨by (with_reducible repeat (first | apply Kd.R_alloc | apply Kd.R_drewN | apply Kd.R_drew)); exact HQ45.out⟩, ⟨by (with_reducible repeat (first | apply Kd.S_alloc | apply Kd.S_drewN | apply Kd.S_drew)); exact Kd.S_mono (Kd.S_far (p := ⟨go41, (x12_3 : Int).toNat * 2 + 1, none⟩) (Kd.S_far (p := ⟨go41, (x12_3 : Int).toNat * 2, none⟩) (Kd.S_mono HO_114000.out (fun k_ hk => (⟨hk, fun e_ => hk (by rw [e_]; rfl)⟩ : _ ∧ k_ ≠ go41))) (fun _ hk => hk.2) (.int .i64 (rd x6_1 ((rd_Face x11_3 x12_3).f0)))) (fun _ hk => hk.2) (.int .i64 ((rd_Face x11_3 x12_3).f1))) (fun _ hk => hk.1)⟩, ⟨by (with_reducible repeat (first | refine blk_drewN ?_ _ | refine blk_drew ?_ | refine blk_alloc ?_ _)); refine blk_far ?_ (by have h_ := Kd.R_ne HO_11.out BK101.out (by decide); intro e_; exact h_ (by rw [e_]; rfl)) _; (with_reducible repeat (first | refine blk_drewN ?_ _ | refine blk_drew ?_ | refine blk_alloc ?_ _)); refine blk_far ?_ (by have h_ := Kd.R_ne HO_11.out BK101.out (by decide); intro e_; exact h_ (by rw [e_]; rfl)) _; (with_reducible repeat (first | refine blk_drewN ?_ _ | refine blk_drew ?_ | refine blk_alloc ?_ _)); exact BK101.out⟩, ⟨by (with_reducible repeat (first | refine blk_drewN ?_ _ | refine blk_drew ?_ | refine blk_alloc ?_ _)); refine blk_far ?_ (by have h_ := Kd.R_ne HO_11.out BK102.out (by decide); intro e_; exact h_ (by rw [e_]; rfl)) _; (with_reducible repeat (first | refine blk_drewN ?_ _ | refine blk_drew ?_ | refine blk_alloc ?_ _)); refine blk_far ?_ (by have h_ := Kd.R_ne HO_11.out BK102.out (by decide); intro e_; exact h_ (by rw [e_]; rfl)) _; (with_reducible repeat (first | refine blk_drewN ?_ _ | refine blk_drew ?_ | refine blk_alloc ?_ _)); exact BK102.out⟩, ⟨by (with_reducible repeat (first | refine blk_drewN ?_ _ | refine blk_drew ?_ | refine blk_alloc ?_ _)); refine blk_far ?_ (by have h_ := Kd.R_ne HO_11.out BK113.out (by decide); intro e_; exact h_ (by rw [e_]; rfl)) _; (with_reducible repeat (first | refine blk_drewN ?_ _ | refine blk_drew ?_ | refine blk_alloc ?_ _)); refine blk_far ?_ (by have h_ := Kd.R_ne HO_11.out BK113.out (by decide); intro e_; exact h_ (by rw [e_]; rfl)) _; (with_reducible repeat (first | refine blk_drewN ?_ _ | refine blk_drew ?_ | refine blk_alloc ?_ _)); exact BK113.out⟩, ⟨by repeat (first | (with_reducible first | exact HB.out | apply below_alloc | apply pw_below_drewN | apply below_drew1 | refine below_set ?_ GB41.out | refine below_set ?_ GB41.out | refine below_set ?_ GE101.out | refine below_set ?_ GE102.out | refine below_set ?_ GE113.out) | exact HB.out)⟩⟩
/-! ### spec_ComponentOf: function 16 -/
def spec_ComponentOf.f (k : Nat) (l0_0 : List (List (SFace))) (a1 : Int) : Option ((List (List (SFace))) × Int) := (spec_IsTriangulation.f k l0_0).bind fun t103 => (if t103 = true then ((spec_l07Parts.f k l0_0).bind fun t104 => ((spec_l11Has.f k t104 a1).bind fun t107 => (if t107 = true then ((spec_l11Part.f k l0_0 a1).bind fun t108 => (some (t108, 0))) else (some (([] : List (List (SFace))), 2))))) else (some (([] : List (List (SFace))), 1)))
set_option maxHeartbeats 8000000 in
set_option maxRecDepth 100000 in
theorem spec_ComponentOf.calls (k : Nat) (A0_0 : Option Addr) (c0_0 : Nat) (l0_0 : List (List (SFace))) (a1 : Int) (r1 : List (List (SFace))) (r2 : Int) (w : World) (hr0_0 : Kd.C (Kd.slice 74 kFace) w A0_0 l0_0.length l0_0) (hc0_0 : l0_0.length ≤ c0_0) (h : spec_ComponentOf.f k l0_0 a1 = some (r1, r2)) :
 Calls Try.prog 16 #[.agg #[.slice A0_0 l0_0.length c0_0], .int .i64 a1] w fun e w' => ∃ v0_ : Value, e = .returned (.tuple #[.agg #[v0_], .int .i64 r2]) ∧ Kd.S (Kd.slice 74 kFace) 75 w' w.heap.size (fun _ => True) v0_ r1 ∧ Below w.heap.size w w' := by
 have hu28 := Try.underlying28
 have HR0_0 := Aside0.mk hr0_0
 have HC0_0 := Aside0.mk hc0_0
 clear hr0_0 hc0_0
 have HB := Aside0.mk (Below.refl w.heap.size w)
 have H : ((spec_IsTriangulation.f k l0_0).bind fun t103 => (if t103 = true then ((spec_l07Parts.f k l0_0).bind fun t104 => ((spec_l11Has.f k t104 a1).bind fun t107 => (if t107 = true then ((spec_l11Part.f k l0_0 a1).bind fun t108 => (some (t108, 0))) else (some (([] : List (List (SFace))), 2))))) else (some (([] : List (List (SFace))), 1)))) = some (r1, r2) := h
 clear h
 replace H := ydy.mp H
 obtain ⟨t103, A30, H⟩ := H
 replace H : (if t103 = true then ((spec_l07Parts.f k l0_0).bind fun t104 => ((spec_l11Has.f k t104 a1).bind fun t107 => (if t107 = true then ((spec_l11Part.f k l0_0 a1).bind fun t108 => (some (t108, 0))) else (some (([] : List (List (SFace))), 2))))) else (some (([] : List (List (SFace))), 1))) = some (r1, r2) := H
 have A3 := Aside0.mk A30
 clear A30
 by_cases c4 : t103 = true
 rotate_left
 next =>
  replace c4 := Bool.eq_false_iff.mpr c4
  subst c4
  have H1 : (some (([] : List (List (SFace))), 1)) = some (r1, r2) := by rw [if_neg (show ¬ (false = true) by decide)] at H; exact H
  clear H
  have H := H1
  clear H1
  simp only [Option.some.injEq, Prod.mk.injEq] at H
  obtain ⟨rfl, rfl⟩ := H
  go_enter Try.func16, Try.ntmps16
  go_wp2_with (first | ((with_reducible refine gate_dst (N := 2) rfl ?_); refine box_event ?hg (N := 2) ?hd (cs := #[.slice A0_0 l0_0.length c0_0]) (t := 28) ?hr ?_; (case hd => rfl); (case hg => rfl); (case hr => first | (go_simp; done) | (go_simp; rfl)); intro gb101 hg w30 hbox hb; have n0_ := Aside0.mk (below_step (by repeat (first | (with_reducible first | exact HB.out | apply below_alloc | apply pw_below_drewN | apply below_drew1) | exact HB.out)) hb); have n1_ := Aside0.mk (hbox); have n2_ := Aside0.mk ((by rw [hg]; exact (below_size (by repeat (first | (with_reducible first | exact HB.out | apply below_alloc | apply pw_below_drewN | apply below_drew1) | exact HB.out))) : w.heap.size ≤ gb101)); have n3_ := Aside0.mk ((by rw [hg]; exact (below_size (by repeat (first | (with_reducible first | exact HB.out | apply below_alloc | apply pw_below_drewN | apply below_drew1) | exact HB.out))) : w.heap.size ≤ gb101)); clear HB; have HB := n0_; have BK101 := n1_; have GW101 := n2_; have GE101 := n3_; clear n0_ n1_ n2_ n3_; clear hb hbox hg) | ((with_reducible refine gate_dst (N := 4) rfl ?_); refine box_event ?hg (N := 4) ?hd (cs := #[.slice none 0 0]) (t := 28) ?hr ?_; (case hd => rfl); (case hg => rfl); (case hr => first | (go_simp; done) | (go_simp; rfl)); intro gb102 hg w31 hbox hb; have n0_ := Aside0.mk (blk_below (g := gb101) (o := .cells #[.slice A0_0 l0_0.length c0_0] 28 (0, 0)) (by (with_reducible repeat (first | refine blk_drewN ?_ _ | refine blk_drew ?_ | refine blk_alloc ?_ _)); exact BK101.out) hb); have n1_ := Aside0.mk (below_step (by repeat (first | (with_reducible first | exact HB.out | apply below_alloc | apply pw_below_drewN | apply below_drew1 | refine below_set ?_ GE101.out) | exact HB.out)) hb); have n2_ := Aside0.mk (hbox); have n3_ := Aside0.mk ((by rw [hg]; exact (below_size (by repeat (first | (with_reducible first | exact HB.out | apply below_alloc | apply pw_below_drewN | apply below_drew1 | refine below_set ?_ GE101.out) | exact HB.out))) : w.heap.size ≤ gb102)); have n4_ := Aside0.mk ((by rw [hg]; exact (below_size (by repeat (first | (with_reducible first | exact HB.out | apply below_alloc | apply pw_below_drewN | apply below_drew1 | refine below_set ?_ GE101.out) | exact HB.out))) : w.heap.size ≤ gb102)); have n5_ := Aside0.mk ((by rw [hg]; exact Nat.ne_of_lt (blk_lt (g := gb101) (o := .cells #[.slice A0_0 l0_0.length c0_0] 28 (0, 0)) (by (with_reducible repeat (first | refine blk_drewN ?_ _ | refine blk_drew ?_ | refine blk_alloc ?_ _)); exact BK101.out)) : gb101 ≠ gb102)); have n6_ := Aside0.mk ((by rw [hg]; exact Nat.ne_of_gt (blk_lt (g := gb101) (o := .cells #[.slice A0_0 l0_0.length c0_0] 28 (0, 0)) (by (with_reducible repeat (first | refine blk_drewN ?_ _ | refine blk_drew ?_ | refine blk_alloc ?_ _)); exact BK101.out)) : gb102 ≠ gb101)); clear BK101; clear HB; have BK101 := n0_; have HB := n1_; have BK102 := n2_; have GW102 := n3_; have GE102 := n4_; have NB101_102 := n5_; have NB102_101 := n6_; clear n0_ n1_ n2_ n3_ n4_ n5_ n6_; clear hb hbox hg; have hnb32 := NB101_102.out; have hnc32 := NB102_101.out; have hcz33_0 : w31.cell? ⟨gb101, 0, none⟩ = some (.slice A0_0 l0_0.length c0_0) := (blk_cell BK101.out 0).trans rfl; have hfz33_0 := blk_frozen BK101.out 0) | ((with_reducible refine gate_callee (f := 52) rfl ?_); refine goesL_ (some 7) rfl rfl Try.func52 (by kernel_rfl) rfl #[.agg #[.slice A0_0 l0_0.length c0_0]] rfl (by (try simp only [yiy, yjy, yky]); first | done | rfl | (simp only [yly, ymy]; rfl)) ?_; (with_reducible refine (spec_IsTriangulation.calls k _ _ l0_0 false _ ?side1 ?side2 A3.out).mono ?_); (case side1 => repeat (first | exact (Kd.C_below HR0_0.out HB.out) | (with_reducible refine Kd.C_alloc ?_ _) | (with_reducible refine Kd.C_drewN ?_ _) | (with_reducible refine Kd.C_drew ?_))); (case side2 => exact HC0_0.out); rintro e w34 ⟨rfl, hb⟩; refine ⟨_, rfl, ?_⟩; have n0_ := Aside0.mk (blk_below (g := gb101) (o := .cells #[.slice A0_0 l0_0.length c0_0] 28 (0, 0)) (by (with_reducible repeat (first | refine blk_drewN ?_ _ | refine blk_drew ?_ | refine blk_alloc ?_ _)); exact BK101.out) hb); have n1_ := Aside0.mk (blk_below (g := gb102) (o := .cells #[.slice none 0 0] 28 (0, 0)) (by (with_reducible repeat (first | refine blk_drewN ?_ _ | refine blk_drew ?_ | refine blk_alloc ?_ _)); exact BK102.out) hb); have n2_ := Aside0.mk (below_step (by repeat (first | (with_reducible first | exact HB.out | apply below_alloc | apply pw_below_drewN | apply below_drew1 | refine below_set ?_ GE101.out | refine below_set ?_ GE102.out) | exact HB.out)) hb); clear BK101; clear BK102; clear HB; have BK101 := n0_; have BK102 := n1_; have HB := n2_; clear n0_ n1_ n2_; (try clear hb); (try clear hb2); (try clear hk); (try clear hi); have hcz35_0 : w34.cell? ⟨gb102, 0, none⟩ = some (.slice none 0 0) := (blk_cell BK102.out 0).trans rfl; have hfz35_0 := blk_frozen BK102.out 0))
  refine bodyPost_ret (results_ct rfl _ _ gb102 28 #[.slice none 0 0] (0, 0) _ rfl (by (with_reducible repeat (first | refine blk_drewN ?_ _ | refine blk_drew ?_ | refine blk_alloc ?_ _)); refine blk_put (cs := #[.slice none 0 0]) ?_ 0 _ rfl; (with_reducible repeat (first | refine blk_drewN ?_ _ | refine blk_drew ?_ | refine blk_alloc ?_ _)); exact BK102.out) Try.underlying28 rfl (by kernel_rfl)) rfl ?_
  exact ⟨_, by first | rfl | (simp [errW_none, errW_some] <;> rfl) | (simp [*, errW_none, errW_some] <;> rfl), by first | exact Kd.S_nil _ _ _ _ _ | exact Kd.N_nil _ _ _ _ _ | exact Kd.V_nil _ _ _ _ _ | exact Kd.Q_nil _ _ _ _ _ | exact Kd.R_nil _ _ _ _ _, by repeat (first | (with_reducible first | exact HB.out | apply below_alloc | apply pw_below_drewN | apply below_drew1 | refine below_set ?_ GE101.out | refine below_set ?_ GE102.out) | exact HB.out)⟩
 subst c4
 have H1 : ((spec_l07Parts.f k l0_0).bind fun t104 => ((spec_l11Has.f k t104 a1).bind fun t107 => (if t107 = true then ((spec_l11Part.f k l0_0 a1).bind fun t108 => (some (t108, 0))) else (some (([] : List (List (SFace))), 2))))) = some (r1, r2) := by rw [if_pos rfl] at H; exact H
 clear H
 have H := H1
 clear H1
 replace H := ydy.mp H
 obtain ⟨t104, A50, H⟩ := H
 replace H : ((spec_l11Has.f k t104 a1).bind fun t107 => (if t107 = true then ((spec_l11Part.f k l0_0 a1).bind fun t108 => (some (t108, 0))) else (some (([] : List (List (SFace))), 2)))) = some (r1, r2) := H
 have A5 := Aside0.mk A50
 clear A50
 replace H := ydy.mp H
 obtain ⟨t107, A60, H⟩ := H
 replace H : (if t107 = true then ((spec_l11Part.f k l0_0 a1).bind fun t108 => (some (t108, 0))) else (some (([] : List (List (SFace))), 2))) = some (r1, r2) := H
 have A6 := Aside0.mk A60
 clear A60
 by_cases c7 : t107 = true
 rotate_left
 next =>
  replace c7 := Bool.eq_false_iff.mpr c7
  subst c7
  have H1 : (some (([] : List (List (SFace))), 2)) = some (r1, r2) := by rw [if_neg (show ¬ (false = true) by decide)] at H; exact H
  clear H
  have H := H1
  clear H1
  simp only [Option.some.injEq, Prod.mk.injEq] at H
  obtain ⟨rfl, rfl⟩ := H
  go_enter Try.func16, Try.ntmps16
  go_wp2_with (first | ((with_reducible refine gate_dst (N := 2) rfl ?_); refine box_event ?hg (N := 2) ?hd (cs := #[.slice A0_0 l0_0.length c0_0]) (t := 28) ?hr ?_; (case hd => rfl); (case hg => rfl); (case hr => first | (go_simp; done) | (go_simp; rfl)); intro gb101 hg w21 hbox hb; have n0_ := Aside0.mk (below_step (by repeat (first | (with_reducible first | exact HB.out | apply below_alloc | apply pw_below_drewN | apply below_drew1) | exact HB.out)) hb); have n1_ := Aside0.mk (hbox); have n2_ := Aside0.mk ((by rw [hg]; exact (below_size (by repeat (first | (with_reducible first | exact HB.out | apply below_alloc | apply pw_below_drewN | apply below_drew1) | exact HB.out))) : w.heap.size ≤ gb101)); have n3_ := Aside0.mk ((by rw [hg]; exact (below_size (by repeat (first | (with_reducible first | exact HB.out | apply below_alloc | apply pw_below_drewN | apply below_drew1) | exact HB.out))) : w.heap.size ≤ gb101)); clear HB; have HB := n0_; have BK101 := n1_; have GW101 := n2_; have GE101 := n3_; clear n0_ n1_ n2_ n3_; clear hb hbox hg) | ((with_reducible refine gate_dst (N := 4) rfl ?_); refine box_event ?hg (N := 4) ?hd (cs := #[.slice none 0 0]) (t := 28) ?hr ?_; (case hd => rfl); (case hg => rfl); (case hr => first | (go_simp; done) | (go_simp; rfl)); intro gb102 hg w22 hbox hb; have n0_ := Aside0.mk (blk_below (g := gb101) (o := .cells #[.slice A0_0 l0_0.length c0_0] 28 (0, 0)) (by (with_reducible repeat (first | refine blk_drewN ?_ _ | refine blk_drew ?_ | refine blk_alloc ?_ _)); exact BK101.out) hb); have n1_ := Aside0.mk (below_step (by repeat (first | (with_reducible first | exact HB.out | apply below_alloc | apply pw_below_drewN | apply below_drew1 | refine below_set ?_ GE101.out) | exact HB.out)) hb); have n2_ := Aside0.mk (hbox); have n3_ := Aside0.mk ((by rw [hg]; exact (below_size (by repeat (first | (with_reducible first | exact HB.out | apply below_alloc | apply pw_below_drewN | apply below_drew1 | refine below_set ?_ GE101.out) | exact HB.out))) : w.heap.size ≤ gb102)); have n4_ := Aside0.mk ((by rw [hg]; exact (below_size (by repeat (first | (with_reducible first | exact HB.out | apply below_alloc | apply pw_below_drewN | apply below_drew1 | refine below_set ?_ GE101.out) | exact HB.out))) : w.heap.size ≤ gb102)); have n5_ := Aside0.mk ((by rw [hg]; exact Nat.ne_of_lt (blk_lt (g := gb101) (o := .cells #[.slice A0_0 l0_0.length c0_0] 28 (0, 0)) (by (with_reducible repeat (first | refine blk_drewN ?_ _ | refine blk_drew ?_ | refine blk_alloc ?_ _)); exact BK101.out)) : gb101 ≠ gb102)); have n6_ := Aside0.mk ((by rw [hg]; exact Nat.ne_of_gt (blk_lt (g := gb101) (o := .cells #[.slice A0_0 l0_0.length c0_0] 28 (0, 0)) (by (with_reducible repeat (first | refine blk_drewN ?_ _ | refine blk_drew ?_ | refine blk_alloc ?_ _)); exact BK101.out)) : gb102 ≠ gb101)); clear BK101; clear HB; have BK101 := n0_; have HB := n1_; have BK102 := n2_; have GW102 := n3_; have GE102 := n4_; have NB101_102 := n5_; have NB102_101 := n6_; clear n0_ n1_ n2_ n3_ n4_ n5_ n6_; clear hb hbox hg; have hnb23 := NB101_102.out; have hnc23 := NB102_101.out; have hcz24_0 : w22.cell? ⟨gb101, 0, none⟩ = some (.slice A0_0 l0_0.length c0_0) := (blk_cell BK101.out 0).trans rfl; have hfz24_0 := blk_frozen BK101.out 0) | ((with_reducible refine gate_callee (f := 52) rfl ?_); refine goesL_ (some 7) rfl rfl Try.func52 (by kernel_rfl) rfl #[.agg #[.slice A0_0 l0_0.length c0_0]] rfl (by (try simp only [yiy, yjy, yky]); first | done | rfl | (simp only [yly, ymy]; rfl)) ?_; (with_reducible refine (spec_IsTriangulation.calls k _ _ l0_0 true _ ?side1 ?side2 A3.out).mono ?_); (case side1 => repeat (first | exact (Kd.C_below HR0_0.out HB.out) | (with_reducible refine Kd.C_alloc ?_ _) | (with_reducible refine Kd.C_drewN ?_ _) | (with_reducible refine Kd.C_drew ?_))); (case side2 => exact HC0_0.out); rintro e w25 ⟨rfl, hb⟩; refine ⟨_, rfl, ?_⟩; have n0_ := Aside0.mk (blk_below (g := gb101) (o := .cells #[.slice A0_0 l0_0.length c0_0] 28 (0, 0)) (by (with_reducible repeat (first | refine blk_drewN ?_ _ | refine blk_drew ?_ | refine blk_alloc ?_ _)); exact BK101.out) hb); have n1_ := Aside0.mk (blk_below (g := gb102) (o := .cells #[.slice none 0 0] 28 (0, 0)) (by (with_reducible repeat (first | refine blk_drewN ?_ _ | refine blk_drew ?_ | refine blk_alloc ?_ _)); exact BK102.out) hb); have n2_ := Aside0.mk (below_step (by repeat (first | (with_reducible first | exact HB.out | apply below_alloc | apply pw_below_drewN | apply below_drew1 | refine below_set ?_ GE101.out | refine below_set ?_ GE102.out) | exact HB.out)) hb); clear BK101; clear BK102; clear HB; have BK101 := n0_; have BK102 := n1_; have HB := n2_; clear n0_ n1_ n2_; (try clear hb); (try clear hb2); (try clear hk); (try clear hi); have hcz26_0 : w25.cell? ⟨gb101, 0, none⟩ = some (.slice A0_0 l0_0.length c0_0) := (blk_cell BK101.out 0).trans rfl; have hfz26_0 := blk_frozen BK101.out 0) | ((with_reducible refine gate_callee (f := 54) rfl ?_); refine goesL_ (some 11) rfl rfl Try.func54 (by kernel_rfl) rfl #[.agg #[.slice A0_0 l0_0.length c0_0]] rfl (by (try simp only [yiy, yjy, yky]); first | done | rfl | (simp only [yly, ymy]; rfl)) ?_; (with_reducible refine (spec_l07Parts.calls k _ _ l0_0 t104 _ ?side1 ?side2 A5.out).mono ?_); (case side1 => repeat (first | exact (Kd.C_below HR0_0.out HB.out) | (with_reducible refine Kd.C_alloc ?_ _) | (with_reducible refine Kd.C_drewN ?_ _) | (with_reducible refine Kd.C_drew ?_))); (case side2 => exact HC0_0.out); rintro e w27 ⟨v105, rfl, ho0, hb⟩; refine ⟨_, rfl, ?_⟩; have n0_ := Aside0.mk (Kd.R_lower ho0 (below_size (by repeat (first | (with_reducible first | exact HB.out | apply below_alloc | apply pw_below_drewN | apply below_drew1 | refine below_set ?_ GE101.out | refine below_set ?_ GE102.out) | exact HB.out)))); have n1_ := Aside0.mk (blk_below (g := gb101) (o := .cells #[.slice A0_0 l0_0.length c0_0] 28 (0, 0)) (by (with_reducible repeat (first | refine blk_drewN ?_ _ | refine blk_drew ?_ | refine blk_alloc ?_ _)); exact BK101.out) hb); have n2_ := Aside0.mk (blk_below (g := gb102) (o := .cells #[.slice none 0 0] 28 (0, 0)) (by (with_reducible repeat (first | refine blk_drewN ?_ _ | refine blk_drew ?_ | refine blk_alloc ?_ _)); exact BK102.out) hb); have n3_ := Aside0.mk (below_step (by repeat (first | (with_reducible first | exact HB.out | apply below_alloc | apply pw_below_drewN | apply below_drew1 | refine below_set ?_ GE101.out | refine below_set ?_ GE102.out) | exact HB.out)) hb); clear BK101; clear BK102; clear HB; have HO106 := n0_; have BK101 := n1_; have BK102 := n2_; have HB := n3_; clear n0_ n1_ n2_ n3_; (try clear hb); (try clear hb2); (try clear hk); (try clear hi); (try clear ho0); obtain ⟨Ao28, co28, eo28⟩ := Kd.R_slice HO106.out; subst eo28) | ((with_reducible refine gate_callee (f := 53) rfl ?_); refine goesL_ (some 13) rfl rfl Try.func53 (by kernel_rfl) rfl #[.slice Ao28 t104.length co28, .int .i64 a1] rfl (by (try simp only [yiy, yjy, yky]); first | done | rfl | (simp only [yly, ymy]; rfl)) ?_; (with_reducible refine (spec_l11Has.calls k _ _ t104 a1 false _ ?side1 ?side2 A6.out).mono ?_); (case side1 => repeat (first | exact (Kd.R_reads' HO106.out).2.2 | (with_reducible refine Kd.C_alloc ?_ _) | (with_reducible refine Kd.C_drewN ?_ _) | (with_reducible refine Kd.C_drew ?_))); (case side2 => exact (Kd.R_reads' HO106.out).2.1); rintro e w' ⟨rfl, ⟨nd, rfl⟩⟩; refine ⟨_, rfl, ?_⟩; (try (rw [drewN_self w27]; generalize hq_ : World.drewN w27 _ = w27; have n0_ : Aside0 (Kd.R (Kd.int .i64) 2 w27 w.heap.size (fun _ => True) (.slice Ao28 t104.length co28) t104) := ⟨by rw [← hq_]; exact (by (with_reducible repeat (first | apply Kd.R_alloc | apply Kd.R_drewN | apply Kd.R_drew)); exact HO106.out)⟩; have n1_ : Aside0 (w27.heap[gb101]? = some (.cells #[.slice A0_0 l0_0.length c0_0] 28 (0, 0))) := ⟨by rw [← hq_]; exact (by (with_reducible repeat (first | refine blk_drewN ?_ _ | refine blk_drew ?_ | refine blk_alloc ?_ _)); exact BK101.out)⟩; have n2_ : Aside0 (w27.heap[gb102]? = some (.cells #[.slice none 0 0] 28 (0, 0))) := ⟨by rw [← hq_]; exact (by (with_reducible repeat (first | refine blk_drewN ?_ _ | refine blk_drew ?_ | refine blk_alloc ?_ _)); exact BK102.out)⟩; have n3_ : Aside0 (Below w.heap.size w w27) := ⟨by rw [← hq_]; exact (by repeat (first | (with_reducible first | exact HB.out | apply below_alloc | apply pw_below_drewN | apply below_drew1 | refine below_set ?_ GE101.out | refine below_set ?_ GE102.out) | exact HB.out))⟩; clear HO106 BK101 BK102 HB hq_; have HO106 := n0_; have BK101 := n1_; have BK102 := n2_; have HB := n3_; clear n0_ n1_ n2_ n3_)); have hcz29_0 : w27.cell? ⟨gb102, 0, none⟩ = some (.slice none 0 0) := (blk_cell BK102.out 0).trans rfl; have hfz29_0 := blk_frozen BK102.out 0))
  refine bodyPost_ret (results_ct rfl _ _ gb102 28 #[.slice none 0 0] (0, 0) _ rfl (by (with_reducible repeat (first | refine blk_drewN ?_ _ | refine blk_drew ?_ | refine blk_alloc ?_ _)); refine blk_put (cs := #[.slice none 0 0]) ?_ 0 _ rfl; (with_reducible repeat (first | refine blk_drewN ?_ _ | refine blk_drew ?_ | refine blk_alloc ?_ _)); exact BK102.out) Try.underlying28 rfl (by kernel_rfl)) rfl ?_
  exact ⟨_, by first | rfl | (simp [errW_none, errW_some] <;> rfl) | (simp [*, errW_none, errW_some] <;> rfl), by first | exact Kd.S_nil _ _ _ _ _ | exact Kd.N_nil _ _ _ _ _ | exact Kd.V_nil _ _ _ _ _ | exact Kd.Q_nil _ _ _ _ _ | exact Kd.R_nil _ _ _ _ _, by repeat (first | (with_reducible first | exact HB.out | apply below_alloc | apply pw_below_drewN | apply below_drew1 | refine below_set ?_ GE101.out | refine below_set ?_ GE102.out) | exact HB.out)⟩
 subst c7
 have H1 : ((spec_l11Part.f k l0_0 a1).bind fun t108 => (some (t108, 0))) = some (r1, r2) := by rw [if_pos rfl] at H; exact H
 clear H
 have H := H1
 clear H1
 replace H := ydy.mp H
 obtain ⟨t108, A80, H⟩ := H
 replace H : (some (t108, 0)) = some (r1, r2) := H
 have A8 := Aside0.mk A80
 clear A80
 simp only [Option.some.injEq, Prod.mk.injEq] at H
 obtain ⟨rfl, rfl⟩ := H
 go_enter Try.func16, Try.ntmps16
 go_wp2_with (first | ((with_reducible refine gate_dst (N := 2) rfl ?_); refine box_event ?hg (N := 2) ?hd (cs := #[.slice A0_0 l0_0.length c0_0]) (t := 28) ?hr ?_; (case hd => rfl); (case hg => rfl); (case hr => first | (go_simp; done) | (go_simp; rfl)); intro gb101 hg w9 hbox hb; have n0_ := Aside0.mk (below_step (by repeat (first | (with_reducible first | exact HB.out | apply below_alloc | apply pw_below_drewN | apply below_drew1) | exact HB.out)) hb); have n1_ := Aside0.mk (hbox); have n2_ := Aside0.mk ((by rw [hg]; exact (below_size (by repeat (first | (with_reducible first | exact HB.out | apply below_alloc | apply pw_below_drewN | apply below_drew1) | exact HB.out))) : w.heap.size ≤ gb101)); have n3_ := Aside0.mk ((by rw [hg]; exact (below_size (by repeat (first | (with_reducible first | exact HB.out | apply below_alloc | apply pw_below_drewN | apply below_drew1) | exact HB.out))) : w.heap.size ≤ gb101)); clear HB; have HB := n0_; have BK101 := n1_; have GW101 := n2_; have GE101 := n3_; clear n0_ n1_ n2_ n3_; clear hb hbox hg) | ((with_reducible refine gate_dst (N := 4) rfl ?_); refine box_event ?hg (N := 4) ?hd (cs := #[.slice none 0 0]) (t := 28) ?hr ?_; (case hd => rfl); (case hg => rfl); (case hr => first | (go_simp; done) | (go_simp; rfl)); intro gb102 hg w10 hbox hb; have n0_ := Aside0.mk (blk_below (g := gb101) (o := .cells #[.slice A0_0 l0_0.length c0_0] 28 (0, 0)) (by (with_reducible repeat (first | refine blk_drewN ?_ _ | refine blk_drew ?_ | refine blk_alloc ?_ _)); exact BK101.out) hb); have n1_ := Aside0.mk (below_step (by repeat (first | (with_reducible first | exact HB.out | apply below_alloc | apply pw_below_drewN | apply below_drew1 | refine below_set ?_ GE101.out) | exact HB.out)) hb); have n2_ := Aside0.mk (hbox); have n3_ := Aside0.mk ((by rw [hg]; exact (below_size (by repeat (first | (with_reducible first | exact HB.out | apply below_alloc | apply pw_below_drewN | apply below_drew1 | refine below_set ?_ GE101.out) | exact HB.out))) : w.heap.size ≤ gb102)); have n4_ := Aside0.mk ((by rw [hg]; exact (below_size (by repeat (first | (with_reducible first | exact HB.out | apply below_alloc | apply pw_below_drewN | apply below_drew1 | refine below_set ?_ GE101.out) | exact HB.out))) : w.heap.size ≤ gb102)); have n5_ := Aside0.mk ((by rw [hg]; exact Nat.ne_of_lt (blk_lt (g := gb101) (o := .cells #[.slice A0_0 l0_0.length c0_0] 28 (0, 0)) (by (with_reducible repeat (first | refine blk_drewN ?_ _ | refine blk_drew ?_ | refine blk_alloc ?_ _)); exact BK101.out)) : gb101 ≠ gb102)); have n6_ := Aside0.mk ((by rw [hg]; exact Nat.ne_of_gt (blk_lt (g := gb101) (o := .cells #[.slice A0_0 l0_0.length c0_0] 28 (0, 0)) (by (with_reducible repeat (first | refine blk_drewN ?_ _ | refine blk_drew ?_ | refine blk_alloc ?_ _)); exact BK101.out)) : gb102 ≠ gb101)); clear BK101; clear HB; have BK101 := n0_; have HB := n1_; have BK102 := n2_; have GW102 := n3_; have GE102 := n4_; have NB101_102 := n5_; have NB102_101 := n6_; clear n0_ n1_ n2_ n3_ n4_ n5_ n6_; clear hb hbox hg; have hnb11 := NB101_102.out; have hnc11 := NB102_101.out; have hcz12_0 : w10.cell? ⟨gb101, 0, none⟩ = some (.slice A0_0 l0_0.length c0_0) := (blk_cell BK101.out 0).trans rfl; have hfz12_0 := blk_frozen BK101.out 0) | ((with_reducible refine gate_callee (f := 52) rfl ?_); refine goesL_ (some 7) rfl rfl Try.func52 (by kernel_rfl) rfl #[.agg #[.slice A0_0 l0_0.length c0_0]] rfl (by (try simp only [yiy, yjy, yky]); first | done | rfl | (simp only [yly, ymy]; rfl)) ?_; (with_reducible refine (spec_IsTriangulation.calls k _ _ l0_0 true _ ?side1 ?side2 A3.out).mono ?_); (case side1 => repeat (first | exact (Kd.C_below HR0_0.out HB.out) | (with_reducible refine Kd.C_alloc ?_ _) | (with_reducible refine Kd.C_drewN ?_ _) | (with_reducible refine Kd.C_drew ?_))); (case side2 => exact HC0_0.out); rintro e w13 ⟨rfl, hb⟩; refine ⟨_, rfl, ?_⟩; have n0_ := Aside0.mk (blk_below (g := gb101) (o := .cells #[.slice A0_0 l0_0.length c0_0] 28 (0, 0)) (by (with_reducible repeat (first | refine blk_drewN ?_ _ | refine blk_drew ?_ | refine blk_alloc ?_ _)); exact BK101.out) hb); have n1_ := Aside0.mk (blk_below (g := gb102) (o := .cells #[.slice none 0 0] 28 (0, 0)) (by (with_reducible repeat (first | refine blk_drewN ?_ _ | refine blk_drew ?_ | refine blk_alloc ?_ _)); exact BK102.out) hb); have n2_ := Aside0.mk (below_step (by repeat (first | (with_reducible first | exact HB.out | apply below_alloc | apply pw_below_drewN | apply below_drew1 | refine below_set ?_ GE101.out | refine below_set ?_ GE102.out) | exact HB.out)) hb); clear BK101; clear BK102; clear HB; have BK101 := n0_; have BK102 := n1_; have HB := n2_; clear n0_ n1_ n2_; (try clear hb); (try clear hb2); (try clear hk); (try clear hi); have hcz14_0 : w13.cell? ⟨gb101, 0, none⟩ = some (.slice A0_0 l0_0.length c0_0) := (blk_cell BK101.out 0).trans rfl; have hfz14_0 := blk_frozen BK101.out 0) | ((with_reducible refine gate_callee (f := 54) rfl ?_); refine goesL_ (some 11) rfl rfl Try.func54 (by kernel_rfl) rfl #[.agg #[.slice A0_0 l0_0.length c0_0]] rfl (by (try simp only [yiy, yjy, yky]); first | done | rfl | (simp only [yly, ymy]; rfl)) ?_; (with_reducible refine (spec_l07Parts.calls k _ _ l0_0 t104 _ ?side1 ?side2 A5.out).mono ?_); (case side1 => repeat (first | exact (Kd.C_below HR0_0.out HB.out) | (with_reducible refine Kd.C_alloc ?_ _) | (with_reducible refine Kd.C_drewN ?_ _) | (with_reducible refine Kd.C_drew ?_))); (case side2 => exact HC0_0.out); rintro e w15 ⟨v105, rfl, ho0, hb⟩; refine ⟨_, rfl, ?_⟩; have n0_ := Aside0.mk (Kd.R_lower ho0 (below_size (by repeat (first | (with_reducible first | exact HB.out | apply below_alloc | apply pw_below_drewN | apply below_drew1 | refine below_set ?_ GE101.out | refine below_set ?_ GE102.out) | exact HB.out)))); have n1_ := Aside0.mk (blk_below (g := gb101) (o := .cells #[.slice A0_0 l0_0.length c0_0] 28 (0, 0)) (by (with_reducible repeat (first | refine blk_drewN ?_ _ | refine blk_drew ?_ | refine blk_alloc ?_ _)); exact BK101.out) hb); have n2_ := Aside0.mk (blk_below (g := gb102) (o := .cells #[.slice none 0 0] 28 (0, 0)) (by (with_reducible repeat (first | refine blk_drewN ?_ _ | refine blk_drew ?_ | refine blk_alloc ?_ _)); exact BK102.out) hb); have n3_ := Aside0.mk (below_step (by repeat (first | (with_reducible first | exact HB.out | apply below_alloc | apply pw_below_drewN | apply below_drew1 | refine below_set ?_ GE101.out | refine below_set ?_ GE102.out) | exact HB.out)) hb); clear BK101; clear BK102; clear HB; have HO106 := n0_; have BK101 := n1_; have BK102 := n2_; have HB := n3_; clear n0_ n1_ n2_ n3_; (try clear hb); (try clear hb2); (try clear hk); (try clear hi); (try clear ho0); obtain ⟨Ao16, co16, eo16⟩ := Kd.R_slice HO106.out; subst eo16) | ((with_reducible refine gate_callee (f := 53) rfl ?_); refine goesL_ (some 13) rfl rfl Try.func53 (by kernel_rfl) rfl #[.slice Ao16 t104.length co16, .int .i64 a1] rfl (by (try simp only [yiy, yjy, yky]); first | done | rfl | (simp only [yly, ymy]; rfl)) ?_; (with_reducible refine (spec_l11Has.calls k _ _ t104 a1 true _ ?side1 ?side2 A6.out).mono ?_); (case side1 => repeat (first | exact (Kd.R_reads' HO106.out).2.2 | (with_reducible refine Kd.C_alloc ?_ _) | (with_reducible refine Kd.C_drewN ?_ _) | (with_reducible refine Kd.C_drew ?_))); (case side2 => exact (Kd.R_reads' HO106.out).2.1); rintro e w' ⟨rfl, ⟨nd, rfl⟩⟩; refine ⟨_, rfl, ?_⟩; (try (rw [drewN_self w15]; generalize hq_ : World.drewN w15 _ = w15; have n0_ : Aside0 (Kd.R (Kd.int .i64) 2 w15 w.heap.size (fun _ => True) (.slice Ao16 t104.length co16) t104) := ⟨by rw [← hq_]; exact (by (with_reducible repeat (first | apply Kd.R_alloc | apply Kd.R_drewN | apply Kd.R_drew)); exact HO106.out)⟩; have n1_ : Aside0 (w15.heap[gb101]? = some (.cells #[.slice A0_0 l0_0.length c0_0] 28 (0, 0))) := ⟨by rw [← hq_]; exact (by (with_reducible repeat (first | refine blk_drewN ?_ _ | refine blk_drew ?_ | refine blk_alloc ?_ _)); exact BK101.out)⟩; have n2_ : Aside0 (w15.heap[gb102]? = some (.cells #[.slice none 0 0] 28 (0, 0))) := ⟨by rw [← hq_]; exact (by (with_reducible repeat (first | refine blk_drewN ?_ _ | refine blk_drew ?_ | refine blk_alloc ?_ _)); exact BK102.out)⟩; have n3_ : Aside0 (Below w.heap.size w w15) := ⟨by rw [← hq_]; exact (by repeat (first | (with_reducible first | exact HB.out | apply below_alloc | apply pw_below_drewN | apply below_drew1 | refine below_set ?_ GE101.out | refine below_set ?_ GE102.out) | exact HB.out))⟩; clear HO106 BK101 BK102 HB hq_; have HO106 := n0_; have BK101 := n1_; have BK102 := n2_; have HB := n3_; clear n0_ n1_ n2_ n3_)); have hcz17_0 : w15.cell? ⟨gb101, 0, none⟩ = some (.slice A0_0 l0_0.length c0_0) := (blk_cell BK101.out 0).trans rfl; have hfz17_0 := blk_frozen BK101.out 0) | ((with_reducible refine gate_callee (f := 55) rfl ?_); refine goesL_ (some 18) rfl rfl Try.func55 (by kernel_rfl) rfl #[.agg #[.slice A0_0 l0_0.length c0_0], .int .i64 a1] rfl (by (try simp only [yiy, yjy, yky]); first | done | rfl | (simp only [yly, ymy]; rfl)) ?_; (with_reducible refine (spec_l11Part.calls k _ _ l0_0 a1 t108 _ ?side1 ?side2 A8.out).mono ?_); (case side1 => repeat (first | exact (Kd.C_below HR0_0.out HB.out) | (with_reducible refine Kd.C_alloc ?_ _) | (with_reducible refine Kd.C_drewN ?_ _) | (with_reducible refine Kd.C_drew ?_))); (case side2 => exact HC0_0.out); rintro e w18 ⟨v109, rfl, ho0, hb⟩; refine ⟨_, rfl, ?_⟩; have n0_ := Aside0.mk (Kd.R_below (by (with_reducible repeat (first | apply Kd.R_alloc | apply Kd.R_drewN | apply Kd.R_drew)); exact HO106.out) hb); have n1_ := Aside0.mk (Kd.S_lower ho0 (below_size (by repeat (first | (with_reducible first | exact HB.out | apply below_alloc | apply pw_below_drewN | apply below_drew1 | refine below_set ?_ GE101.out | refine below_set ?_ GE102.out) | exact HB.out)))); have n2_ := Aside0.mk (blk_below (g := gb101) (o := .cells #[.slice A0_0 l0_0.length c0_0] 28 (0, 0)) (by (with_reducible repeat (first | refine blk_drewN ?_ _ | refine blk_drew ?_ | refine blk_alloc ?_ _)); exact BK101.out) hb); have n3_ := Aside0.mk (blk_below (g := gb102) (o := .cells #[.slice none 0 0] 28 (0, 0)) (by (with_reducible repeat (first | refine blk_drewN ?_ _ | refine blk_drew ?_ | refine blk_alloc ?_ _)); exact BK102.out) hb); have n4_ := Aside0.mk (below_step (by repeat (first | (with_reducible first | exact HB.out | apply below_alloc | apply pw_below_drewN | apply below_drew1 | refine below_set ?_ GE101.out | refine below_set ?_ GE102.out) | exact HB.out)) hb); clear HO106; clear BK101; clear BK102; clear HB; have HO106 := n0_; have HO110 := n1_; have BK101 := n2_; have BK102 := n3_; have HB := n4_; clear n0_ n1_ n2_ n3_ n4_; (try clear hb); (try clear hb2); (try clear hk); (try clear hi); (try clear ho0); obtain ⟨Ao19, co19, eo19⟩ := Kd.S_slice HO110.out; subst eo19; have hcz20_0 : w18.cell? ⟨gb102, 0, none⟩ = some (.slice none 0 0) := (blk_cell BK102.out 0).trans rfl; have hfz20_0 := blk_frozen BK102.out 0))
 refine bodyPost_ret (results_ct rfl _ _ gb102 28 #[.slice Ao19 t108.length co19] (0, 0) _ rfl (by (with_reducible repeat (first | refine blk_drewN ?_ _ | refine blk_drew ?_ | refine blk_alloc ?_ _)); refine blk_put (cs := #[.slice none 0 0]) ?_ 0 _ rfl; (with_reducible repeat (first | refine blk_drewN ?_ _ | refine blk_drew ?_ | refine blk_alloc ?_ _)); exact BK102.out) Try.underlying28 rfl (by kernel_rfl)) rfl ?_
 exact ⟨_, by first | rfl | (simp [errW_none, errW_some] <;> rfl) | (simp [*, errW_none, errW_some] <;> rfl), by (with_reducible repeat (first | apply Kd.S_alloc | apply Kd.S_drewN | apply Kd.S_drew)); exact Kd.S_mono (Kd.S_far (p := ⟨gb102, 0, none⟩) (Kd.S_types HO110.out BK102.out (by decide)) (fun _ hk => hk.2) (.slice Ao19 t108.length co19)) (fun _ hk => trivial), by repeat (first | (with_reducible first | exact HB.out | apply below_alloc | apply pw_below_drewN | apply below_drew1 | refine below_set ?_ GE101.out | refine below_set ?_ GE102.out) | exact HB.out)⟩
end Go.Proofs.Ytdgdnnjigigkcaa.P
namespace Go.Proofs.Ytdgdnnjigigkcaa.Lib
open Go.RowKit Go.Proofs.YtdgdnnjigigkcaaW.PrintWords
set_option linter.unusedVariables false
section
variable {α : Type} {d : Kd α} {e b lo hi lo2 hi2 T : Nat} {w w' W : World} {v : Value} {xs ys : List α}
/-- A row of rows of the walk's own (all of it made from b on), its blocks from lo on and before hi. -/
def ObS (d : Kd α) (e b : Nat) (w : World) (lo hi : Nat) (v : Value) (xs : List α) : Prop := hi ≤ w.heap.size ∧ Kd.S d e w b (fun k => lo ≤ k ∧ k < hi) v xs
theorem size_set (w : World) (g i : Nat) (u : Value) : w.heap.size ≤ (w.setCell ⟨g, i, none⟩ u).heap.size := ((Below.refl 0 w).setCell (Nat.zero_le _) u).size
theorem ObS.made (ho : Kd.S d e w' W.heap.size (fun _ => True) v xs) (hb : Below W.heap.size W w') (hT : T ≤ W.heap.size) (hB : b ≤ W.heap.size) : ∃ lo hi, (T ≤ lo ∧ lo ≤ hi) ∧ hi ≤ w'.heap.size ∧ ObS d e b w' lo hi v xs :=
  ⟨W.heap.size, w'.heap.size, ⟨hT, hb.size⟩, ypy _, ypy _, Kd.S_lower (Kd.S_mono (Kd.S_bound ho) (fun k hk => ⟨hk.2.1, hk.2.2.1⟩)) hB⟩
theorem ObS.below (h : ObS d e b w lo hi v xs) (hb : Below w.heap.size w w') : ObS d e b w' lo hi v xs := ⟨Nat.le_trans h.1 hb.size, Kd.S_below h.2 hb⟩
theorem ObS.drew (h : ObS d e b w lo hi v xs) : ObS d e b w.drew lo hi v xs := ⟨h.1, Kd.S_drew h.2⟩
theorem ObS.far {g i : Nat} (h : ObS d e b w lo hi v xs) (hg : g < lo ∨ hi ≤ g) (u : Value) : ObS d e b (w.setCell ⟨g, i, none⟩ u) lo hi v xs :=
  ⟨Nat.le_trans h.1 (size_set _ _ _ _), Kd.S_far h.2 (fun k hk => by show k ≠ g; have := hk.1; have := hk.2; omega) u⟩
theorem ObS.kept (h : ObS d e b w lo hi v xs) (hk : Kept w w' (fun k => lo2 ≤ k ∧ k < hi2)) (hd : hi ≤ lo2 ∨ hi2 ≤ lo) : ObS d e b w' lo hi v xs :=
  ⟨Nat.le_trans h.1 hk.1, Kd.S_kept h.2 hk (fun k h1 h2 => by have := h1.1; have := h1.2; have := h2.1; have := h2.2; omega)⟩
theorem ObS.slice (h : ObS d e b w lo hi v xs) : ∃ A c, v = .slice A xs.length c := Kd.S_slice h.2
theorem ObS.reads {A : Option Addr} {n c : Nat} (h : ObS d e b w lo hi (.slice A n c) xs) : n = xs.length ∧ n ≤ c ∧ d.C w A xs.length xs := Kd.S_reads' h.2
theorem ObS.room {A : Option Addr} {n c : Nat} (h : ObS d e b w lo hi (.slice A n c) xs) : xs.length ≤ c := by have := h.reads; omega
theorem ObS.marked (h : ObS d e b w lo hi v xs) (hy : Kd.S d e w' b (fun k => lo ≤ k ∧ k < hi) v ys) (hs : w.heap.size ≤ w'.heap.size) : ObS d e b w' lo hi v ys := ⟨Nat.le_trans h.1 hs, hy⟩
theorem ObS.row (h : ObS d e b w lo hi v xs) : Kd.S d e w b (fun k => lo ≤ k ∧ k < hi) v xs := h.2
theorem top_below (h : T ≤ w.heap.size) (hb : Below w.heap.size w w') : T ≤ w'.heap.size := Nat.le_trans h hb.size
theorem top_drew (h : T ≤ w.heap.size) : T ≤ w.drew.heap.size := h
theorem top_far {g i : Nat} {u : Value} (h : T ≤ w.heap.size) : T ≤ (w.setCell ⟨g, i, none⟩ u).heap.size := Nat.le_trans h (size_set _ _ _ _)
end
end Go.Proofs.Ytdgdnnjigigkcaa.Lib
namespace Go.Proofs.Ytdgdnnjigigkcaa.P
open Go.RowKit Go.Proofs.YtdgdnnjigigkcaaW.PrintWords Go.Proofs.YtdgdnnjigigkcaaW.PrintLast Go.Proofs.YtdgdnnjigigkcaaW.PrintMore
attribute [local go_sem] max2_int min2_int max_two min_two max_three min_three max_four min_four   -- for this text's walks alone
set_option linter.unusedVariables false
set_option linter.unusedSimpArgs false
open Go.Proofs.Ytdgdnnjigigkcaa.Lib
/-! ### laws_FnExactComponentOf: function 3 -/
def laws_FnExactComponentOf.f (k : Nat) (l0 : List (List (SLawFace))) (a1 : Int) : Option Bool := (laws_szTriangulation.f k l0 1048576).bind fun t2 => if t2 < 0 then some true else (laws_toTriangulation.f k l0).bind fun t5 => (spec_ComponentOf.f k t5 a1).bind fun bt3 => (laws_toTriangulation.f k l0).bind fun t12 => (impl_ComponentOf.f k t12 a1).bind fun bt5 => (laws_eqTriangulation.f k bt5.1 bt3.1).bind fun t19 => if t19 = true then if bt5.2 = bt3.2 then (laws_toTriangulation.f k l0).bind fun t22 => (laws_eqTriangulation.f k t12 t22).bind fun t25 => if t25 = true then (laws_markTriangulation.f k t12 1).bind fun bt12 => if bt12.1 < 0 then some false else (laws_eqTriangulation.f k bt5.1 bt3.1).bind fun t31 => if t31 = true then if bt5.2 = bt3.2 then (laws_markTriangulation.f k bt5.1 1).bind fun bt17 => (laws_heldTriangulation.f k bt17.2 1).bind fun t37 => if t37 < 0 then some false else if t37 = bt17.1 then (laws_toTriangulation.f k l0).bind fun t41 => (impl_ComponentOf.f k t41 a1).bind fun bt22 => (laws_eqTriangulation.f k bt22.1 bt3.1).bind fun t48 => if t48 = true then if bt22.2 = bt3.2 then (laws_heldTriangulation.f k bt17.2 1).bind fun t51 => if t51 < 0 then some false else if t51 = bt17.1 then some true else some false else some false else some false else some false else some false else some false else some false else some false else some false
set_option maxHeartbeats 8000000 in
set_option maxRecDepth 100000 in
theorem laws_FnExactComponentOf.calls (k : Nat) (A0 : Option Addr) (c0 : Nat) (l0 : List (List (SLawFace))) (a1 : Int) (w : World) (hr0 : Kd.C (Kd.slice 133 kLawFace) w A0 l0.length l0) (hc0 : l0.length ≤ c0) (h : laws_FnExactComponentOf.f k l0 a1 = some true) :
 Calls Try.prog 3 #[.agg #[.slice A0 l0.length c0], .int .i64 a1] w fun e w' => e = .returned (.bool true) ∧ Below w.heap.size w w' := by
 have hu24 := Try.underlying24
 have hu28 := Try.underlying28
 have HR0 := Aside0.mk hr0
 have HC0 := Aside0.mk hc0
 clear hr0 hc0
 have HB := Aside0.mk (Below.refl w.heap.size w)
 have HT := Aside0.mk (ypy w.heap.size)
 have H := h
 clear h
 unfold laws_FnExactComponentOf.f at H
 obtain ⟨t2, H10, H⟩ := ydy.mp H
 have H1 := Aside0.mk H10
 clear H10
 by_cases cC3 : t2 < 0
 next =>
  have dC3 : decide (t2 < 0) = true := ygy cC3
  clear cC3 H
  go_enter Try.func3, Try.ntmps3
  try go_wp2_with (first | ((with_reducible refine gate_dst (N := 2) rfl ?_); refine box_event ?hg (N := 2) ?hd (cs := #[.slice A0 l0.length c0]) (t := 24) ?hr ?_; (case hd => rfl); (case hg => rfl); (case hr => first | (go_simp; done) | (go_simp; rfl)); intro g2 hg w1 hbox hb; have HNg2 := Aside0.mk (by rw [hg]; exact HT.out : w.heap.size ≤ g2); have HXg2 := Aside0.mk (show g2 + 1 ≤ w1.heap.size from blk_lt hbox); have nHB := Aside0.mk (below_step HB.out hb); have nHT := Aside0.mk (top_below HT.out hb); clear HB HT  ; have HB := nHB; have HT := nHT; clear nHB nHT  ; clear HT; have HT := HXg2; clear HXg2; have BKg2 := Aside0.mk hbox; clear hg hbox hb; have hczg2 : w1.cell? ⟨g2, 0, none⟩ = some (.slice A0 l0.length c0) := (blk_cell BKg2.out 0).trans rfl; have hfzg2 := blk_frozen BKg2.out 0) | ((with_reducible refine gate_callee (f := 15) rfl ?_); refine goesL_ (some 18) rfl rfl Try.func15 (by kernel_rfl) rfl #[.agg #[.slice A0 l0.length c0], .int .i64 1048576] rfl (by (try simp only [yiy, yjy, yky]); first | done | rfl | (simp only [yly, ymy]; rfl)) ?_; (with_reducible refine (laws_szTriangulation.calls k _ _ l0 1048576 t2 _ ?side1 ?side2 H1.out).mono ?_); (case side1 => exact Kd.C_below HR0.out HB.out); (case side2 => exact HC0.out); rintro e w2 ⟨rfl, hb⟩; refine ⟨_, rfl, ?_⟩; (try clear hczg2 hfzg2); have nBg2 := Aside0.mk (blk_below (g := g2) (o := .cells #[.slice A0 l0.length c0] 24 (0, 0)) BKg2.out hb); have nHB := Aside0.mk (below_step HB.out hb); have nHT := Aside0.mk (top_below HT.out hb); clear HB HT  BKg2; have BKg2 := nBg2; have HB := nHB; have HT := nHT; clear nHB nHT  nBg2; (try clear hb); (try clear hnd); have hczg2 : w2.cell? ⟨g2, 0, none⟩ = some (.slice A0 l0.length c0) := (blk_cell BKg2.out 0).trans rfl; have hfzg2 := blk_frozen BKg2.out 0))
  go_ret
  exact ⟨by first | rfl | (simp <;> rfl), HB.out⟩
 rw [if_neg cC3] at H
 have dC3 : decide (t2 < 0) = false := yhy cC3
 clear cC3
 obtain ⟨t5, H40, H⟩ := ydy.mp H
 have H4 := Aside0.mk H40
 clear H40
 obtain ⟨⟨t8, t10⟩, H70, H⟩ := ydy.mp H
 have H7 := Aside0.mk H70
 clear H70
 obtain ⟨t12, H110, H⟩ := ydy.mp H
 have H11 := Aside0.mk H110
 clear H110
 obtain ⟨⟨t15, t17⟩, H140, H⟩ := ydy.mp H
 have H14 := Aside0.mk H140
 clear H140
 obtain ⟨t19, H180, H⟩ := ydy.mp H
 obtain rfl : t19 = true := by cases t19 with | true => rfl | false => exact absurd H (by simp)
 replace H := H
 have H18 := Aside0.mk H180
 clear H180
 rw [if_pos rfl] at H
 have cC20 : t17 = t10 := by by_cases c_ : t17 = t10; exact c_; rw [if_neg c_] at H; cases H
 rw [if_pos cC20] at H
 have dC20 : (t17 != t10) = false := by rw [cC20]; exact bne_self_eq_false _
 clear cC20
 obtain ⟨t22, H210, H⟩ := ydy.mp H
 have H21 := Aside0.mk H210
 clear H210
 obtain ⟨t25, H240, H⟩ := ydy.mp H
 obtain rfl : t25 = true := by cases t25 with | true => rfl | false => exact absurd H (by simp)
 replace H := H
 have H24 := Aside0.mk H240
 clear H240
 rw [if_pos rfl] at H
 obtain ⟨⟨m27, y28⟩, H260, H⟩ := ydy.mp H
 have H26 := Aside0.mk H260
 clear H260
 dsimp only at H
 have cC29 : ¬ (m27 < 0) := fun c_ => by rw [if_pos c_] at H; cases H
 rw [if_neg cC29] at H
 have dC29 : decide (m27 < 0) = false := yhy cC29
 clear cC29
 obtain ⟨t31, H300, H⟩ := ydy.mp H
 obtain rfl : t31 = true := by cases t31 with | true => rfl | false => exact absurd H (by simp)
 replace H := H
 have H30 := Aside0.mk H300
 clear H300
 rw [if_pos rfl] at H
 have cC32 : t17 = t10 := by by_cases c_ : t17 = t10; exact c_; rw [if_neg c_] at H; cases H
 rw [if_pos cC32] at H
 have dC32 : (t17 != t10) = false := by rw [cC32]; exact bne_self_eq_false _
 clear cC32
 obtain ⟨⟨m34, y35⟩, H330, H⟩ := ydy.mp H
 have H33 := Aside0.mk H330
 clear H330
 dsimp only at H
 obtain ⟨t37, H360, H⟩ := ydy.mp H
 have H36 := Aside0.mk H360
 clear H360
 have cC38 : ¬ (t37 < 0) := fun c_ => by rw [if_pos c_] at H; cases H
 rw [if_neg cC38] at H
 have dC38 : decide (t37 < 0) = false := yhy cC38
 clear cC38
 have cC39 : t37 = m34 := by by_cases c_ : t37 = m34; exact c_; rw [if_neg c_] at H; cases H
 rw [if_pos cC39] at H
 have dC39 : (t37 != m34) = false := by rw [cC39]; exact bne_self_eq_false _
 clear cC39
 obtain ⟨t41, H400, H⟩ := ydy.mp H
 have H40 := Aside0.mk H400
 clear H400
 obtain ⟨⟨t44, t46⟩, H430, H⟩ := ydy.mp H
 have H43 := Aside0.mk H430
 clear H430
 obtain ⟨t48, H470, H⟩ := ydy.mp H
 obtain rfl : t48 = true := by cases t48 with | true => rfl | false => exact absurd H (by simp)
 replace H := H
 have H47 := Aside0.mk H470
 clear H470
 rw [if_pos rfl] at H
 have cC49 : t46 = t10 := by by_cases c_ : t46 = t10; exact c_; rw [if_neg c_] at H; cases H
 rw [if_pos cC49] at H
 have dC49 : (t46 != t10) = false := by rw [cC49]; exact bne_self_eq_false _
 clear cC49
 obtain ⟨t51, H500, H⟩ := ydy.mp H
 have H50 := Aside0.mk H500
 clear H500
 have cC52 : ¬ (t51 < 0) := fun c_ => by rw [if_pos c_] at H; cases H
 rw [if_neg cC52] at H
 have dC52 : decide (t51 < 0) = false := yhy cC52
 clear cC52
 have cC53 : t51 = m34 := by by_cases c_ : t51 = m34; exact c_; rw [if_neg c_] at H; cases H
 rw [if_pos cC53] at H
 have dC53 : (t51 != m34) = false := by rw [cC53]; exact bne_self_eq_false _
 clear cC53
 clear H
 go_enter Try.func3, Try.ntmps3
 try go_wp2_with (first | ((with_reducible refine gate_dst (N := 2) rfl ?_); refine box_event ?hg (N := 2) ?hd (cs := #[.slice A0 l0.length c0]) (t := 24) ?hr ?_; (case hd => rfl); (case hg => rfl); (case hr => first | (go_simp; done) | (go_simp; rfl)); intro g2 hg w1 hbox hb; have HNg2 := Aside0.mk (by rw [hg]; exact HT.out : w.heap.size ≤ g2); have HXg2 := Aside0.mk (show g2 + 1 ≤ w1.heap.size from blk_lt hbox); have nHB := Aside0.mk (below_step HB.out hb); have nHT := Aside0.mk (top_below HT.out hb); clear HB HT  ; have HB := nHB; have HT := nHT; clear nHB nHT  ; clear HT; have HT := HXg2; clear HXg2; have BKg2 := Aside0.mk hbox; clear hg hbox hb; have hczg2 : w1.cell? ⟨g2, 0, none⟩ = some (.slice A0 l0.length c0) := (blk_cell BKg2.out 0).trans rfl; have hfzg2 := blk_frozen BKg2.out 0) | ((with_reducible refine gate_callee (f := 15) rfl ?_); refine goesL_ (some 18) rfl rfl Try.func15 (by kernel_rfl) rfl #[.agg #[.slice A0 l0.length c0], .int .i64 1048576] rfl (by (try simp only [yiy, yjy, yky]); first | done | rfl | (simp only [yly, ymy]; rfl)) ?_; (with_reducible refine (laws_szTriangulation.calls k _ _ l0 1048576 t2 _ ?side1 ?side2 H1.out).mono ?_); (case side1 => exact Kd.C_below HR0.out HB.out); (case side2 => exact HC0.out); rintro e w2 ⟨rfl, hb⟩; refine ⟨_, rfl, ?_⟩; (try clear hczg2 hfzg2); have nBg2 := Aside0.mk (blk_below (g := g2) (o := .cells #[.slice A0 l0.length c0] 24 (0, 0)) BKg2.out hb); have nHB := Aside0.mk (below_step HB.out hb); have nHT := Aside0.mk (top_below HT.out hb); clear HB HT  BKg2; have BKg2 := nBg2; have HB := nHB; have HT := nHT; clear nHB nHT  nBg2; (try clear hb); (try clear hnd); have hczg2 : w2.cell? ⟨g2, 0, none⟩ = some (.slice A0 l0.length c0) := (blk_cell BKg2.out 0).trans rfl; have hfzg2 := blk_frozen BKg2.out 0) | ((with_reducible refine gate_callee (f := 17) rfl ?_); refine goesL_ (some 23) rfl rfl Try.func17 (by kernel_rfl) rfl #[.agg #[.slice A0 l0.length c0]] rfl (by (try simp only [yiy, yjy, yky]); first | done | rfl | (simp only [yly, ymy]; rfl)) ?_; (with_reducible refine (laws_toTriangulation.calls k _ _ l0 t5 _ ?side1 ?side2 H4.out).mono ?_); (case side1 => exact Kd.C_below HR0.out HB.out); (case side2 => exact HC0.out); rintro e w3 ⟨vo6, rfl, ho0, hb⟩; refine ⟨_, rfl, ?_⟩; (try clear hczg2 hfzg2); obtain ⟨loo6, hio6, hno6⟩ := ObS.made ho0 hb HT.out (below_size HB.out); have nBg2 := Aside0.mk (blk_below (g := g2) (o := .cells #[.slice A0 l0.length c0] 24 (0, 0)) BKg2.out hb); have nHB := Aside0.mk (below_step HB.out hb); have nHT := Aside0.mk (top_below HT.out hb); clear HB HT  BKg2; have BKg2 := nBg2; have HB := nHB; have HT := nHT; clear nHB nHT  nBg2; have HNo6 := Aside0.mk hno6.1; clear HT; have HT := Aside0.mk hno6.2.1; have HOo6 := Aside0.mk hno6.2.2; clear hno6 ho0; obtain ⟨Ao6, co6, eeo6⟩ := HOo6.out.slice; subst eeo6; (try clear hb); (try clear hnd); have hczg2 : w3.cell? ⟨g2, 0, none⟩ = some (.slice A0 l0.length c0) := (blk_cell BKg2.out 0).trans rfl; have hfzg2 := blk_frozen BKg2.out 0) | ((with_reducible refine gate_callee (f := 16) rfl ?_); refine goesL_ (some 25) rfl rfl Try.func16 (by kernel_rfl) rfl #[.agg #[.slice Ao6 t5.length co6], .int .i64 a1] rfl (by (try simp only [yiy, yjy, yky]); first | done | rfl | (simp only [yly, ymy]; rfl)) ?_; (with_reducible refine (spec_ComponentOf.calls k _ _ t5 a1 t8 t10 _ ?side1 ?side2 H7.out).mono ?_); (case side1 => exact (ObS.reads HOo6.out).2.2); (case side2 => exact ObS.room HOo6.out); rintro e w4 ⟨vo9, rfl, ho0, hb⟩; refine ⟨_, rfl, ?_⟩; (try clear hczg2 hfzg2); obtain ⟨loo9, hio9, hno9⟩ := ObS.made ho0 hb HT.out (below_size HB.out); have nOo6 := Aside0.mk (ObS.below HOo6.out hb); have nBg2 := Aside0.mk (blk_below (g := g2) (o := .cells #[.slice A0 l0.length c0] 24 (0, 0)) BKg2.out hb); have nHB := Aside0.mk (below_step HB.out hb); have nHT := Aside0.mk (top_below HT.out hb); clear HB HT HOo6 BKg2; have HOo6 := nOo6; have BKg2 := nBg2; have HB := nHB; have HT := nHT; clear nHB nHT nOo6 nBg2; have HNo9 := Aside0.mk hno9.1; clear HT; have HT := Aside0.mk hno9.2.1; have HOo9 := Aside0.mk hno9.2.2; clear hno9 ho0; obtain ⟨Ao9, co9, eeo9⟩ := HOo9.out.slice; subst eeo9; (try clear hb); (try clear hnd); have hczg2 : w4.cell? ⟨g2, 0, none⟩ = some (.slice A0 l0.length c0) := (blk_cell BKg2.out 0).trans rfl; have hfzg2 := blk_frozen BKg2.out 0) | ((with_reducible refine gate_dst (N := 6) rfl ?_); refine box_event ?hg (N := 6) ?hd (cs := #[.slice none 0 0]) (t := 28) ?hr ?_; (case hd => rfl); (case hg => rfl); (case hr => first | (go_simp; done) | (go_simp; rfl)); intro g6 hg w5 hbox hb; (try clear hczg2 hfzg2); have HNg6 := Aside0.mk (by rw [hg]; exact HT.out : hio9 ≤ g6); have HXg6 := Aside0.mk (show g6 + 1 ≤ w5.heap.size from blk_lt hbox); have nOo6 := Aside0.mk (ObS.below HOo6.out hb); have nOo9 := Aside0.mk (ObS.below HOo9.out hb); have nBg2 := Aside0.mk (blk_below (g := g2) (o := .cells #[.slice A0 l0.length c0] 24 (0, 0)) BKg2.out hb); have nHB := Aside0.mk (below_step HB.out hb); have nHT := Aside0.mk (top_below HT.out hb); clear HB HT HOo6 HOo9 BKg2; have HOo6 := nOo6; have HOo9 := nOo9; have BKg2 := nBg2; have HB := nHB; have HT := nHT; clear nHB nHT nOo6 nOo9 nBg2; clear HT; have HT := HXg6; clear HXg6; have BKg6 := Aside0.mk hbox; clear hg hbox hb; have hnbg6_g2 : g6 ≠ g2 := (by have := HNg2.out; have := HNo6.out; have := HNo9.out; have := HNg6.out; omega); have hnbg2_g6 : g2 ≠ g6 := (by have := HNg2.out; have := HNo6.out; have := HNo9.out; have := HNg6.out; omega); have hczg2 : w5.cell? ⟨g2, 0, none⟩ = some (.slice A0 l0.length c0) := (blk_cell BKg2.out 0).trans rfl; have hfzg2 := blk_frozen BKg2.out 0; have hczg6 : w5.cell? ⟨g6, 0, none⟩ = some (.slice none 0 0) := (blk_cell BKg6.out 0).trans rfl; have hfzg6 := blk_frozen BKg6.out 0) | ((with_reducible refine gate_callee (f := 17) rfl ?_); refine goesL_ (some 29) rfl rfl Try.func17 (by kernel_rfl) rfl #[.agg #[.slice A0 l0.length c0]] rfl (by (try simp only [yiy, yjy, yky]); first | done | rfl | (simp only [yly, ymy]; rfl)) ?_; (with_reducible refine (laws_toTriangulation.calls k _ _ l0 t12 _ ?side1 ?side2 H11.out).mono ?_); (case side1 => exact Kd.C_below HR0.out (below_set HB.out (show w.heap.size ≤ g6 from (by have := HNg2.out; have := HNo6.out; have := HNo9.out; have := HNg6.out; omega)))); (case side2 => exact HC0.out); rintro e w6 ⟨vo13, rfl, ho0, hb⟩; refine ⟨_, rfl, ?_⟩; (try clear hczg2 hfzg2 hczg6 hfzg6); obtain ⟨loo13, hio13, hno13⟩ := ObS.made ho0 hb (top_far HT.out) (below_size (below_set HB.out (show w.heap.size ≤ g6 from (by have := HNg2.out; have := HNo6.out; have := HNo9.out; have := HNg6.out; omega)))); have nOo6 := Aside0.mk (ObS.below (ObS.far (g := g6) (i := 0) HOo6.out (by have := HNg2.out; have := HNo6.out; have := HNo9.out; have := HNg6.out; omega) _) hb); have nOo9 := Aside0.mk (ObS.below (ObS.far (g := g6) (i := 0) HOo9.out (by have := HNg2.out; have := HNo6.out; have := HNo9.out; have := HNg6.out; omega) _) hb); have nBg2 := Aside0.mk (blk_below (g := g2) (o := .cells #[.slice A0 l0.length c0] 24 (0, 0)) (blk_far (p := ⟨g6, 0, none⟩) BKg2.out (show g2 ≠ g6 from (by have := HNg2.out; have := HNo6.out; have := HNo9.out; have := HNg6.out; omega)) _) hb); have nBg6 := Aside0.mk (blk_below (g := g6) (o := .cells #[.slice Ao9 t8.length co9] 28 (0, 0)) (blk_put (cs := #[.slice none 0 0]) BKg6.out 0 _ rfl) hb); have nHB := Aside0.mk (below_step (below_set HB.out (show w.heap.size ≤ g6 from (by have := HNg2.out; have := HNo6.out; have := HNo9.out; have := HNg6.out; omega))) hb); have nHT := Aside0.mk (top_below (top_far HT.out) hb); clear HB HT HOo6 HOo9 BKg2 BKg6; have HOo6 := nOo6; have HOo9 := nOo9; have BKg2 := nBg2; have BKg6 := nBg6; have HB := nHB; have HT := nHT; clear nHB nHT nOo6 nOo9 nBg2 nBg6; have HNo13 := Aside0.mk hno13.1; clear HT; have HT := Aside0.mk hno13.2.1; have HOo13 := Aside0.mk hno13.2.2; clear hno13 ho0; obtain ⟨Ao13, co13, eeo13⟩ := HOo13.out.slice; subst eeo13; (try clear hb); (try clear hnd); have hczg2 : w6.cell? ⟨g2, 0, none⟩ = some (.slice A0 l0.length c0) := (blk_cell BKg2.out 0).trans rfl; have hfzg2 := blk_frozen BKg2.out 0; have hczg6 : w6.cell? ⟨g6, 0, none⟩ = some (.slice Ao9 t8.length co9) := (blk_cell BKg6.out 0).trans rfl; have hfzg6 := blk_frozen BKg6.out 0) | ((with_reducible refine gate_dst (N := 8) rfl ?_); refine box_event ?hg (N := 8) ?hd (cs := #[.slice none 0 0]) (t := 28) ?hr ?_; (case hd => rfl); (case hg => rfl); (case hr => first | (go_simp; done) | (go_simp; rfl)); intro g8 hg w7 hbox hb; (try clear hczg2 hfzg2 hczg6 hfzg6); have HNg8 := Aside0.mk (by rw [hg]; exact HT.out : hio13 ≤ g8); have HXg8 := Aside0.mk (show g8 + 1 ≤ w7.heap.size from blk_lt hbox); have nOo6 := Aside0.mk (ObS.below HOo6.out hb); have nOo9 := Aside0.mk (ObS.below HOo9.out hb); have nOo13 := Aside0.mk (ObS.below HOo13.out hb); have nBg2 := Aside0.mk (blk_below (g := g2) (o := .cells #[.slice A0 l0.length c0] 24 (0, 0)) BKg2.out hb); have nBg6 := Aside0.mk (blk_below (g := g6) (o := .cells #[.slice Ao9 t8.length co9] 28 (0, 0)) BKg6.out hb); have nHB := Aside0.mk (below_step HB.out hb); have nHT := Aside0.mk (top_below HT.out hb); clear HB HT HOo6 HOo9 HOo13 BKg2 BKg6; have HOo6 := nOo6; have HOo9 := nOo9; have HOo13 := nOo13; have BKg2 := nBg2; have BKg6 := nBg6; have HB := nHB; have HT := nHT; clear nHB nHT nOo6 nOo9 nOo13 nBg2 nBg6; clear HT; have HT := HXg8; clear HXg8; have BKg8 := Aside0.mk hbox; clear hg hbox hb; have hnbg8_g2 : g8 ≠ g2 := (by have := HNg2.out; have := HNo6.out; have := HNo9.out; have := HNg6.out; have := HNo13.out; have := HNg8.out; omega); have hnbg2_g8 : g2 ≠ g8 := (by have := HNg2.out; have := HNo6.out; have := HNo9.out; have := HNg6.out; have := HNo13.out; have := HNg8.out; omega); have hnbg8_g6 : g8 ≠ g6 := (by have := HNg2.out; have := HNo6.out; have := HNo9.out; have := HNg6.out; have := HNo13.out; have := HNg8.out; omega); have hnbg6_g8 : g6 ≠ g8 := (by have := HNg2.out; have := HNo6.out; have := HNo9.out; have := HNg6.out; have := HNo13.out; have := HNg8.out; omega); have hczg2 : w7.cell? ⟨g2, 0, none⟩ = some (.slice A0 l0.length c0) := (blk_cell BKg2.out 0).trans rfl; have hfzg2 := blk_frozen BKg2.out 0; have hczg6 : w7.cell? ⟨g6, 0, none⟩ = some (.slice Ao9 t8.length co9) := (blk_cell BKg6.out 0).trans rfl; have hfzg6 := blk_frozen BKg6.out 0; have hczg8 : w7.cell? ⟨g8, 0, none⟩ = some (.slice none 0 0) := (blk_cell BKg8.out 0).trans rfl; have hfzg8 := blk_frozen BKg8.out 0) | ((with_reducible refine gate_callee (f := 18) rfl ?_); refine goesL_ (some 33) rfl rfl Try.func18 (by kernel_rfl) rfl #[.agg #[.slice Ao13 t12.length co13], .int .i64 a1] rfl (by (try simp only [yiy, yjy, yky]); first | done | rfl | (simp only [yly, ymy]; rfl)) ?_; (with_reducible refine (impl_ComponentOf.calls k _ _ t12 a1 t15 t17 _ ?side1 ?side2 H14.out).mono ?_); (case side1 => exact (ObS.reads (ObS.far (g := g8) (i := 0) HOo13.out (by have := HNg2.out; have := HNo6.out; have := HNo9.out; have := HNg6.out; have := HNo13.out; have := HNg8.out; omega) _)).2.2); (case side2 => exact ObS.room HOo13.out); rintro e w8 ⟨vo16, rfl, ho0, hb⟩; refine ⟨_, rfl, ?_⟩; (try clear hczg2 hfzg2 hczg6 hfzg6 hczg8 hfzg8); obtain ⟨loo16, hio16, hno16⟩ := ObS.made ho0 hb (top_far HT.out) (below_size (below_set HB.out (show w.heap.size ≤ g8 from (by have := HNg2.out; have := HNo6.out; have := HNo9.out; have := HNg6.out; have := HNo13.out; have := HNg8.out; omega)))); have nOo6 := Aside0.mk (ObS.below (ObS.far (g := g8) (i := 0) HOo6.out (by have := HNg2.out; have := HNo6.out; have := HNo9.out; have := HNg6.out; have := HNo13.out; have := HNg8.out; omega) _) hb); have nOo9 := Aside0.mk (ObS.below (ObS.far (g := g8) (i := 0) HOo9.out (by have := HNg2.out; have := HNo6.out; have := HNo9.out; have := HNg6.out; have := HNo13.out; have := HNg8.out; omega) _) hb); have nOo13 := Aside0.mk (ObS.below (ObS.far (g := g8) (i := 0) HOo13.out (by have := HNg2.out; have := HNo6.out; have := HNo9.out; have := HNg6.out; have := HNo13.out; have := HNg8.out; omega) _) hb); have nBg2 := Aside0.mk (blk_below (g := g2) (o := .cells #[.slice A0 l0.length c0] 24 (0, 0)) (blk_far (p := ⟨g8, 0, none⟩) BKg2.out (show g2 ≠ g8 from (by have := HNg2.out; have := HNo6.out; have := HNo9.out; have := HNg6.out; have := HNo13.out; have := HNg8.out; omega)) _) hb); have nBg6 := Aside0.mk (blk_below (g := g6) (o := .cells #[.slice Ao9 t8.length co9] 28 (0, 0)) (blk_far (p := ⟨g8, 0, none⟩) BKg6.out (show g6 ≠ g8 from (by have := HNg2.out; have := HNo6.out; have := HNo9.out; have := HNg6.out; have := HNo13.out; have := HNg8.out; omega)) _) hb); have nBg8 := Aside0.mk (blk_below (g := g8) (o := .cells #[.slice Ao13 t12.length co13] 28 (0, 0)) (blk_put (cs := #[.slice none 0 0]) BKg8.out 0 _ rfl) hb); have nHB := Aside0.mk (below_step (below_set HB.out (show w.heap.size ≤ g8 from (by have := HNg2.out; have := HNo6.out; have := HNo9.out; have := HNg6.out; have := HNo13.out; have := HNg8.out; omega))) hb); have nHT := Aside0.mk (top_below (top_far HT.out) hb); clear HB HT HOo6 HOo9 HOo13 BKg2 BKg6 BKg8; have HOo6 := nOo6; have HOo9 := nOo9; have HOo13 := nOo13; have BKg2 := nBg2; have BKg6 := nBg6; have BKg8 := nBg8; have HB := nHB; have HT := nHT; clear nHB nHT nOo6 nOo9 nOo13 nBg2 nBg6 nBg8; have HNo16 := Aside0.mk hno16.1; clear HT; have HT := Aside0.mk hno16.2.1; have HOo16 := Aside0.mk hno16.2.2; clear hno16 ho0; obtain ⟨Ao16, co16, eeo16⟩ := HOo16.out.slice; subst eeo16; (try clear hb); (try clear hnd); have hczg2 : w8.cell? ⟨g2, 0, none⟩ = some (.slice A0 l0.length c0) := (blk_cell BKg2.out 0).trans rfl; have hfzg2 := blk_frozen BKg2.out 0; have hczg6 : w8.cell? ⟨g6, 0, none⟩ = some (.slice Ao9 t8.length co9) := (blk_cell BKg6.out 0).trans rfl; have hfzg6 := blk_frozen BKg6.out 0; have hczg8 : w8.cell? ⟨g8, 0, none⟩ = some (.slice Ao13 t12.length co13) := (blk_cell BKg8.out 0).trans rfl; have hfzg8 := blk_frozen BKg8.out 0) | ((with_reducible refine gate_dst (N := 9) rfl ?_); refine box_event ?hg (N := 9) ?hd (cs := #[.slice none 0 0]) (t := 28) ?hr ?_; (case hd => rfl); (case hg => rfl); (case hr => first | (go_simp; done) | (go_simp; rfl)); intro g9 hg w9 hbox hb; (try clear hczg2 hfzg2 hczg6 hfzg6 hczg8 hfzg8); have HNg9 := Aside0.mk (by rw [hg]; exact HT.out : hio16 ≤ g9); have HXg9 := Aside0.mk (show g9 + 1 ≤ w9.heap.size from blk_lt hbox); have nOo6 := Aside0.mk (ObS.below HOo6.out hb); have nOo9 := Aside0.mk (ObS.below HOo9.out hb); have nOo13 := Aside0.mk (ObS.below HOo13.out hb); have nOo16 := Aside0.mk (ObS.below HOo16.out hb); have nBg2 := Aside0.mk (blk_below (g := g2) (o := .cells #[.slice A0 l0.length c0] 24 (0, 0)) BKg2.out hb); have nBg6 := Aside0.mk (blk_below (g := g6) (o := .cells #[.slice Ao9 t8.length co9] 28 (0, 0)) BKg6.out hb); have nBg8 := Aside0.mk (blk_below (g := g8) (o := .cells #[.slice Ao13 t12.length co13] 28 (0, 0)) BKg8.out hb); have nHB := Aside0.mk (below_step HB.out hb); have nHT := Aside0.mk (top_below HT.out hb); clear HB HT HOo6 HOo9 HOo13 HOo16 BKg2 BKg6 BKg8; have HOo6 := nOo6; have HOo9 := nOo9; have HOo13 := nOo13; have HOo16 := nOo16; have BKg2 := nBg2; have BKg6 := nBg6; have BKg8 := nBg8; have HB := nHB; have HT := nHT; clear nHB nHT nOo6 nOo9 nOo13 nOo16 nBg2 nBg6 nBg8; clear HT; have HT := HXg9; clear HXg9; have BKg9 := Aside0.mk hbox; clear hg hbox hb; have hnbg9_g2 : g9 ≠ g2 := (by have := HNg2.out; have := HNo6.out; have := HNo9.out; have := HNg6.out; have := HNo13.out; have := HNg8.out; have := HNo16.out; have := HNg9.out; omega); have hnbg2_g9 : g2 ≠ g9 := (by have := HNg2.out; have := HNo6.out; have := HNo9.out; have := HNg6.out; have := HNo13.out; have := HNg8.out; have := HNo16.out; have := HNg9.out; omega); have hnbg9_g6 : g9 ≠ g6 := (by have := HNg2.out; have := HNo6.out; have := HNo9.out; have := HNg6.out; have := HNo13.out; have := HNg8.out; have := HNo16.out; have := HNg9.out; omega); have hnbg6_g9 : g6 ≠ g9 := (by have := HNg2.out; have := HNo6.out; have := HNo9.out; have := HNg6.out; have := HNo13.out; have := HNg8.out; have := HNo16.out; have := HNg9.out; omega); have hnbg9_g8 : g9 ≠ g8 := (by have := HNg2.out; have := HNo6.out; have := HNo9.out; have := HNg6.out; have := HNo13.out; have := HNg8.out; have := HNo16.out; have := HNg9.out; omega); have hnbg8_g9 : g8 ≠ g9 := (by have := HNg2.out; have := HNo6.out; have := HNo9.out; have := HNg6.out; have := HNo13.out; have := HNg8.out; have := HNo16.out; have := HNg9.out; omega); have hczg2 : w9.cell? ⟨g2, 0, none⟩ = some (.slice A0 l0.length c0) := (blk_cell BKg2.out 0).trans rfl; have hfzg2 := blk_frozen BKg2.out 0; have hczg6 : w9.cell? ⟨g6, 0, none⟩ = some (.slice Ao9 t8.length co9) := (blk_cell BKg6.out 0).trans rfl; have hfzg6 := blk_frozen BKg6.out 0; have hczg8 : w9.cell? ⟨g8, 0, none⟩ = some (.slice Ao13 t12.length co13) := (blk_cell BKg8.out 0).trans rfl; have hfzg8 := blk_frozen BKg8.out 0; have hczg9 : w9.cell? ⟨g9, 0, none⟩ = some (.slice none 0 0) := (blk_cell BKg9.out 0).trans rfl; have hfzg9 := blk_frozen BKg9.out 0) | ((with_reducible refine gate_callee (f := 19) rfl ?_); refine goesL_ (some 38) rfl rfl Try.func19 (by kernel_rfl) rfl #[.agg #[.slice Ao16 t15.length co16], .agg #[.slice Ao9 t8.length co9]] rfl (by (try simp only [yiy, yjy, yky]); first | done | rfl | (simp only [yly, ymy]; rfl)) ?_; (with_reducible refine (laws_eqTriangulation.calls k _ _ t15 _ _ t8 true _ ?side1 ?side2 ?side3 ?side4 H18.out).mono ?_); (case side1 => exact (ObS.reads (ObS.far (g := g9) (i := 0) HOo16.out (by have := HNg2.out; have := HNo6.out; have := HNo9.out; have := HNg6.out; have := HNo13.out; have := HNg8.out; have := HNo16.out; have := HNg9.out; omega) _)).2.2); (case side2 => exact ObS.room HOo16.out); (case side3 => exact (ObS.reads (ObS.far (g := g9) (i := 0) HOo9.out (by have := HNg2.out; have := HNo6.out; have := HNo9.out; have := HNg6.out; have := HNo13.out; have := HNg8.out; have := HNo16.out; have := HNg9.out; omega) _)).2.2); (case side4 => exact ObS.room HOo9.out); rintro e w10 ⟨rfl, hb⟩; refine ⟨_, rfl, ?_⟩; (try clear hczg2 hfzg2 hczg6 hfzg6 hczg8 hfzg8 hczg9 hfzg9); have nOo6 := Aside0.mk (ObS.below (ObS.far (g := g9) (i := 0) HOo6.out (by have := HNg2.out; have := HNo6.out; have := HNo9.out; have := HNg6.out; have := HNo13.out; have := HNg8.out; have := HNo16.out; have := HNg9.out; omega) _) hb); have nOo9 := Aside0.mk (ObS.below (ObS.far (g := g9) (i := 0) HOo9.out (by have := HNg2.out; have := HNo6.out; have := HNo9.out; have := HNg6.out; have := HNo13.out; have := HNg8.out; have := HNo16.out; have := HNg9.out; omega) _) hb); have nOo13 := Aside0.mk (ObS.below (ObS.far (g := g9) (i := 0) HOo13.out (by have := HNg2.out; have := HNo6.out; have := HNo9.out; have := HNg6.out; have := HNo13.out; have := HNg8.out; have := HNo16.out; have := HNg9.out; omega) _) hb); have nOo16 := Aside0.mk (ObS.below (ObS.far (g := g9) (i := 0) HOo16.out (by have := HNg2.out; have := HNo6.out; have := HNo9.out; have := HNg6.out; have := HNo13.out; have := HNg8.out; have := HNo16.out; have := HNg9.out; omega) _) hb); have nBg2 := Aside0.mk (blk_below (g := g2) (o := .cells #[.slice A0 l0.length c0] 24 (0, 0)) (blk_far (p := ⟨g9, 0, none⟩) BKg2.out (show g2 ≠ g9 from (by have := HNg2.out; have := HNo6.out; have := HNo9.out; have := HNg6.out; have := HNo13.out; have := HNg8.out; have := HNo16.out; have := HNg9.out; omega)) _) hb); have nBg6 := Aside0.mk (blk_below (g := g6) (o := .cells #[.slice Ao9 t8.length co9] 28 (0, 0)) (blk_far (p := ⟨g9, 0, none⟩) BKg6.out (show g6 ≠ g9 from (by have := HNg2.out; have := HNo6.out; have := HNo9.out; have := HNg6.out; have := HNo13.out; have := HNg8.out; have := HNo16.out; have := HNg9.out; omega)) _) hb); have nBg8 := Aside0.mk (blk_below (g := g8) (o := .cells #[.slice Ao13 t12.length co13] 28 (0, 0)) (blk_far (p := ⟨g9, 0, none⟩) BKg8.out (show g8 ≠ g9 from (by have := HNg2.out; have := HNo6.out; have := HNo9.out; have := HNg6.out; have := HNo13.out; have := HNg8.out; have := HNo16.out; have := HNg9.out; omega)) _) hb); have nBg9 := Aside0.mk (blk_below (g := g9) (o := .cells #[.slice Ao16 t15.length co16] 28 (0, 0)) (blk_put (cs := #[.slice none 0 0]) BKg9.out 0 _ rfl) hb); have nHB := Aside0.mk (below_step (below_set HB.out (show w.heap.size ≤ g9 from (by have := HNg2.out; have := HNo6.out; have := HNo9.out; have := HNg6.out; have := HNo13.out; have := HNg8.out; have := HNo16.out; have := HNg9.out; omega))) hb); have nHT := Aside0.mk (top_below (top_far HT.out) hb); clear HB HT HOo6 HOo9 HOo13 HOo16 BKg2 BKg6 BKg8 BKg9; have HOo6 := nOo6; have HOo9 := nOo9; have HOo13 := nOo13; have HOo16 := nOo16; have BKg2 := nBg2; have BKg6 := nBg6; have BKg8 := nBg8; have BKg9 := nBg9; have HB := nHB; have HT := nHT; clear nHB nHT nOo6 nOo9 nOo13 nOo16 nBg2 nBg6 nBg8 nBg9; (try clear hb); (try clear hnd); have hczg2 : w10.cell? ⟨g2, 0, none⟩ = some (.slice A0 l0.length c0) := (blk_cell BKg2.out 0).trans rfl; have hfzg2 := blk_frozen BKg2.out 0; have hczg6 : w10.cell? ⟨g6, 0, none⟩ = some (.slice Ao9 t8.length co9) := (blk_cell BKg6.out 0).trans rfl; have hfzg6 := blk_frozen BKg6.out 0; have hczg8 : w10.cell? ⟨g8, 0, none⟩ = some (.slice Ao13 t12.length co13) := (blk_cell BKg8.out 0).trans rfl; have hfzg8 := blk_frozen BKg8.out 0; have hczg9 : w10.cell? ⟨g9, 0, none⟩ = some (.slice Ao16 t15.length co16) := (blk_cell BKg9.out 0).trans rfl; have hfzg9 := blk_frozen BKg9.out 0))
 (try clear hczg2 hfzg2 hczg6 hfzg6 hczg8 hfzg8 hczg9 hfzg9)
 have nOo6 := Aside0.mk (ObS.drew HOo6.out)
 have nOo9 := Aside0.mk (ObS.drew HOo9.out)
 have nOo13 := Aside0.mk (ObS.drew HOo13.out)
 have nOo16 := Aside0.mk (ObS.drew HOo16.out)
 have nBg2 := Aside0.mk (blk_drew BKg2.out)
 have nBg6 := Aside0.mk (blk_drew BKg6.out)
 have nBg8 := Aside0.mk (blk_drew BKg8.out)
 have nBg9 := Aside0.mk (blk_drew BKg9.out)
 have nHB := Aside0.mk (below_drew1 HB.out)
 have nHT := Aside0.mk (top_drew HT.out)
 clear HB HT HOo6 HOo9 HOo13 HOo16 BKg2 BKg6 BKg8 BKg9
 have HOo6 := nOo6
 have HOo9 := nOo9
 have HOo13 := nOo13
 have HOo16 := nOo16
 have BKg2 := nBg2
 have BKg6 := nBg6
 have BKg8 := nBg8
 have BKg9 := nBg9
 have HB := nHB
 have HT := nHT
 clear nHB nHT nOo6 nOo9 nOo13 nOo16 nBg2 nBg6 nBg8 nBg9
 refine start_ (n := 5) (S := fun w' => w'.cell? ⟨g8, 0, none⟩ = some (.slice Ao13 t12.length co13) ∧ w'.cell? ⟨g2, 0, none⟩ = some (.slice A0 l0.length c0)) (ds := []) #[false, false, false, false, false] (by kernel_rfl) rfl rfl ⟨(blk_cell BKg8.out 0).trans rfl, (blk_cell BKg2.out 0).trans rfl⟩ (fun hHeld => ?_)
 generalize hdr_ : World.drew _ = w11 at HOo6 HOo9 HOo13 HOo16 BKg2 BKg6 BKg8 BKg9 HB HT hHeld ⊢
 (try clear hdr_)
 refine take_ (i := 0) (N := some 45) (v := ?_) (a' := ?_) #[true, false, false, false, false] rfl rfl (by kernel_rfl) (fun _ _ _ h => h) (Or.inl ⟨by rfl, ?_⟩) hHeld ?_ ?_
 rotate_left
 next =>
  rintro w' ⟨s0, s1⟩
  go_simp
  with_reducible rfl
 rotate_left
 next =>
  simp only [Act.put, yay, yby, ycy, i64_w, i32_w]
  rfl
 refine take_ (i := 1) (N := some 46) (v := ?_) (a' := ?_) #[true, true, false, false, false] rfl rfl (by kernel_rfl) (fun _ _ _ h => h) (Or.inl ⟨by rfl, ?_⟩) hHeld ?_ ?_
 rotate_left
 next =>
  rintro w' ⟨s0, s1⟩
  go_simp
  with_reducible rfl
 rotate_left
 next =>
  simp only [Act.put, yay, yby, ycy, i64_w, i32_w]
  rfl
 refine one_ (i := 2) (N := some 47) #[true, true, true, false, false] rfl rfl (by kernel_rfl) (by decide) (fun K hK => ?_)
 refine goes_ Try.func17 (by kernel_rfl) rfl #[.agg #[.slice A0 l0.length c0]] (by rfl) rfl rfl (by (try simp only [yiy, yjy, yky]); first | done | rfl | (simp only [yly, ymy]; rfl)) ?_
 with_reducible refine (laws_toTriangulation.calls k _ _ l0 t22 _ ?side1 ?side2 H21.out).mono ?_
 (case side1 => exact Kd.C_below HR0.out HB.out)
 (case side2 => exact HC0.out)
 rintro e w12 ⟨vo23, rfl, ho0, hb⟩
 refine ⟨_, rfl, ?_⟩
 (try clear hczg2 hfzg2 hczg6 hfzg6 hczg8 hfzg8 hczg9 hfzg9)
 obtain ⟨loo23, hio23, hno23⟩ := ObS.made ho0 hb HT.out (below_size HB.out)
 have nOo6 := Aside0.mk (ObS.below HOo6.out hb)
 have nOo9 := Aside0.mk (ObS.below HOo9.out hb)
 have nOo13 := Aside0.mk (ObS.below HOo13.out hb)
 have nOo16 := Aside0.mk (ObS.below HOo16.out hb)
 have nBg2 := Aside0.mk (blk_below (g := g2) (o := .cells #[.slice A0 l0.length c0] 24 (0, 0)) BKg2.out hb)
 have nBg6 := Aside0.mk (blk_below (g := g6) (o := .cells #[.slice Ao9 t8.length co9] 28 (0, 0)) BKg6.out hb)
 have nBg8 := Aside0.mk (blk_below (g := g8) (o := .cells #[.slice Ao13 t12.length co13] 28 (0, 0)) BKg8.out hb)
 have nBg9 := Aside0.mk (blk_below (g := g9) (o := .cells #[.slice Ao16 t15.length co16] 28 (0, 0)) BKg9.out hb)
 have nHB := Aside0.mk (below_step HB.out hb)
 have nHT := Aside0.mk (top_below HT.out hb)
 clear HB HT HOo6 HOo9 HOo13 HOo16 BKg2 BKg6 BKg8 BKg9
 have HOo6 := nOo6
 have HOo9 := nOo9
 have HOo13 := nOo13
 have HOo16 := nOo16
 have BKg2 := nBg2
 have BKg6 := nBg6
 have BKg8 := nBg8
 have BKg9 := nBg9
 have HB := nHB
 have HT := nHT
 clear nHB nHT nOo6 nOo9 nOo13 nOo16 nBg2 nBg6 nBg8 nBg9
 have HNo23 := Aside0.mk hno23.1
 clear HT
 have HT := Aside0.mk hno23.2.1
 have HOo23 := Aside0.mk hno23.2.2
 clear hno23 ho0
 obtain ⟨Ao23, co23, eeo23⟩ := HOo23.out.slice
 subst eeo23
 (try clear hb)
 (try clear hnd)
 refine hK.out _ _ ⟨(blk_cell BKg8.out 0).trans rfl, (blk_cell BKg2.out 0).trans rfl⟩ (fun hHeld => ?_)
 clear hK K
 refine norm_ (a' := ?_) ?_ ?_
 rotate_left
 next =>
  show Act.put _ (some 47) _ = _
  simp only [Act.put, yay, yby, ycy, i64_w, i32_w]
  rfl
 refine one_ (i := 3) (N := some 48) #[true, true, true, true, false] rfl rfl (by kernel_rfl) (by decide) (fun K hK => ?_)
 refine goes_ Try.func19 (by kernel_rfl) rfl #[.agg #[.slice Ao13 t12.length co13], .agg #[.slice Ao23 t22.length co23]] (by rfl) rfl rfl (by (try simp only [yiy, yjy, yky]); first | done | rfl | (simp only [yly, ymy]; rfl)) ?_
 with_reducible refine (laws_eqTriangulation.calls k _ _ t12 _ _ t22 true _ ?side1 ?side2 ?side3 ?side4 H24.out).mono ?_
 (case side1 => exact (ObS.reads HOo13.out).2.2)
 (case side2 => exact ObS.room HOo13.out)
 (case side3 => exact (ObS.reads HOo23.out).2.2)
 (case side4 => exact ObS.room HOo23.out)
 rintro e w13 ⟨rfl, hb⟩
 refine ⟨_, rfl, ?_⟩
 (try clear hczg2 hfzg2 hczg6 hfzg6 hczg8 hfzg8 hczg9 hfzg9)
 have nOo6 := Aside0.mk (ObS.below HOo6.out hb)
 have nOo9 := Aside0.mk (ObS.below HOo9.out hb)
 have nOo13 := Aside0.mk (ObS.below HOo13.out hb)
 have nOo16 := Aside0.mk (ObS.below HOo16.out hb)
 have nOo23 := Aside0.mk (ObS.below HOo23.out hb)
 have nBg2 := Aside0.mk (blk_below (g := g2) (o := .cells #[.slice A0 l0.length c0] 24 (0, 0)) BKg2.out hb)
 have nBg6 := Aside0.mk (blk_below (g := g6) (o := .cells #[.slice Ao9 t8.length co9] 28 (0, 0)) BKg6.out hb)
 have nBg8 := Aside0.mk (blk_below (g := g8) (o := .cells #[.slice Ao13 t12.length co13] 28 (0, 0)) BKg8.out hb)
 have nBg9 := Aside0.mk (blk_below (g := g9) (o := .cells #[.slice Ao16 t15.length co16] 28 (0, 0)) BKg9.out hb)
 have nHB := Aside0.mk (below_step HB.out hb)
 have nHT := Aside0.mk (top_below HT.out hb)
 clear HB HT HOo6 HOo9 HOo13 HOo16 HOo23 BKg2 BKg6 BKg8 BKg9
 have HOo6 := nOo6
 have HOo9 := nOo9
 have HOo13 := nOo13
 have HOo16 := nOo16
 have HOo23 := nOo23
 have BKg2 := nBg2
 have BKg6 := nBg6
 have BKg8 := nBg8
 have BKg9 := nBg9
 have HB := nHB
 have HT := nHT
 clear nHB nHT nOo6 nOo9 nOo13 nOo16 nOo23 nBg2 nBg6 nBg8 nBg9
 (try clear hb)
 (try clear hnd)
 refine hK.out _ _ ⟨(blk_cell BKg8.out 0).trans rfl, (blk_cell BKg2.out 0).trans rfl⟩ (fun hHeld => ?_)
 clear hK K
 refine norm_ (a' := ?_) ?_ ?_
 rotate_left
 next =>
  show Act.put _ (some 48) _ = _
  simp only [Act.put, yay, yby, ycy, i64_w, i32_w]
  rfl
 refine pure_ (i := 4) (N := some 49) (v := ?_) (a' := ?_) #[true, true, true, true, true] rfl rfl (by kernel_rfl) (fun _ _ _ h => h) (Or.inl ⟨by rfl, ?_⟩) ?_ ?_
 rotate_left
 next =>
  intro w'
  go_simp
  with_reducible rfl
 rotate_left
 next =>
  simp only [Act.put, yay, yby, ycy, i64_w, i32_w]
  rfl
 refine done_ (by kernel_rfl) ?_
 have hczg2 : w13.cell? ⟨g2, 0, none⟩ = some (.slice A0 l0.length c0) := (blk_cell BKg2.out 0).trans rfl
 have hfzg2 := blk_frozen BKg2.out 0
 have hczg6 : w13.cell? ⟨g6, 0, none⟩ = some (.slice Ao9 t8.length co9) := (blk_cell BKg6.out 0).trans rfl
 have hfzg6 := blk_frozen BKg6.out 0
 have hczg8 : w13.cell? ⟨g8, 0, none⟩ = some (.slice Ao13 t12.length co13) := (blk_cell BKg8.out 0).trans rfl
 have hfzg8 := blk_frozen BKg8.out 0
 have hczg9 : w13.cell? ⟨g9, 0, none⟩ = some (.slice Ao16 t15.length co16) := (blk_cell BKg9.out 0).trans rfl
 have hfzg9 := blk_frozen BKg9.out 0
 try go_wp2_with (first | ((with_reducible refine gate_callee (f := 20) rfl ?_); refine goesL_ (some 52) rfl rfl Try.func20 (by kernel_rfl) rfl #[.agg #[.slice Ao13 t12.length co13], .int .i64 1] rfl (by (try simp only [yiy, yjy, yky]); first | done | rfl | (simp only [yly, ymy]; rfl)) ?_; (with_reducible refine (laws_markTriangulation.calls k (fun k_ => loo13 ≤ k_ ∧ k_ < hio13) (.slice Ao13 t12.length co13) t12 1 m27 y28 w _ HB.out (ObS.row HOo13.out) H26.out).mono ?_); rintro e w14 ⟨rfl, hy, hb, hk0⟩; refine ⟨_, rfl, ?_⟩; have hk := hk0; have nM := Aside0.mk (ObS.marked HOo13.out hy hk.1); (try clear hczg2 hfzg2 hczg6 hfzg6 hczg8 hfzg8 hczg9 hfzg9); have nOo6 := Aside0.mk (ObS.kept HOo6.out hk (by have := HNg2.out; have := HNo6.out; have := HNo9.out; have := HNg6.out; have := HNo13.out; have := HNg8.out; have := HNo16.out; have := HNg9.out; have := HNo23.out; omega)); have nOo9 := Aside0.mk (ObS.kept HOo9.out hk (by have := HNg2.out; have := HNo6.out; have := HNo9.out; have := HNg6.out; have := HNo13.out; have := HNg8.out; have := HNo16.out; have := HNg9.out; have := HNo23.out; omega)); have nOo16 := Aside0.mk (ObS.kept HOo16.out hk (by have := HNg2.out; have := HNo6.out; have := HNo9.out; have := HNg6.out; have := HNo13.out; have := HNg8.out; have := HNo16.out; have := HNg9.out; have := HNo23.out; omega)); have nOo23 := Aside0.mk (ObS.kept HOo23.out hk (by have := HNg2.out; have := HNo6.out; have := HNo9.out; have := HNg6.out; have := HNo13.out; have := HNg8.out; have := HNo16.out; have := HNg9.out; have := HNo23.out; omega)); have nBg2 := Aside0.mk (blk_kept (g := g2) (o := .cells #[.slice A0 l0.length c0] 24 (0, 0)) BKg2.out hk (fun h_ => by have h1_ := h_.1; have h2_ := h_.2; have := HNg2.out; have := HNo6.out; have := HNo9.out; have := HNg6.out; have := HNo13.out; have := HNg8.out; have := HNo16.out; have := HNg9.out; have := HNo23.out; omega)); have nBg6 := Aside0.mk (blk_kept (g := g6) (o := .cells #[.slice Ao9 t8.length co9] 28 (0, 0)) BKg6.out hk (fun h_ => by have h1_ := h_.1; have h2_ := h_.2; have := HNg2.out; have := HNo6.out; have := HNo9.out; have := HNg6.out; have := HNo13.out; have := HNg8.out; have := HNo16.out; have := HNg9.out; have := HNo23.out; omega)); have nBg8 := Aside0.mk (blk_kept (g := g8) (o := .cells #[.slice Ao13 t12.length co13] 28 (0, 0)) BKg8.out hk (fun h_ => by have h1_ := h_.1; have h2_ := h_.2; have := HNg2.out; have := HNo6.out; have := HNo9.out; have := HNg6.out; have := HNo13.out; have := HNg8.out; have := HNo16.out; have := HNg9.out; have := HNo23.out; omega)); have nBg9 := Aside0.mk (blk_kept (g := g9) (o := .cells #[.slice Ao16 t15.length co16] 28 (0, 0)) BKg9.out hk (fun h_ => by have h1_ := h_.1; have h2_ := h_.2; have := HNg2.out; have := HNo6.out; have := HNo9.out; have := HNg6.out; have := HNo13.out; have := HNg8.out; have := HNo16.out; have := HNg9.out; have := HNo23.out; omega)); have nHT := Aside0.mk (Nat.le_trans HT.out hk.1); clear HB HT HOo6 HOo9 HOo13 HOo16 HOo23 BKg2 BKg6 BKg8 BKg9; have HOo6 := nOo6; have HOo9 := nOo9; have HOo13 := nM; have HOo16 := nOo16; have HOo23 := nOo23; have BKg2 := nBg2; have BKg6 := nBg6; have BKg8 := nBg8; have BKg9 := nBg9; have HB := Aside0.mk hb; have HT := nHT; (try clear hy); clear hb hk0 hk nM nHT nOo6 nOo9 nOo16 nOo23 nBg2 nBg6 nBg8 nBg9; have hczg2 : w14.cell? ⟨g2, 0, none⟩ = some (.slice A0 l0.length c0) := (blk_cell BKg2.out 0).trans rfl; have hfzg2 := blk_frozen BKg2.out 0; have hczg6 : w14.cell? ⟨g6, 0, none⟩ = some (.slice Ao9 t8.length co9) := (blk_cell BKg6.out 0).trans rfl; have hfzg6 := blk_frozen BKg6.out 0; have hczg8 : w14.cell? ⟨g8, 0, none⟩ = some (.slice Ao13 t12.length co13) := (blk_cell BKg8.out 0).trans rfl; have hfzg8 := blk_frozen BKg8.out 0; have hczg9 : w14.cell? ⟨g9, 0, none⟩ = some (.slice Ao16 t15.length co16) := (blk_cell BKg9.out 0).trans rfl; have hfzg9 := blk_frozen BKg9.out 0))
 try go_wp2_with (first | (go_at_call 19; (with_reducible refine (laws_eqTriangulation.calls k _ _ t15 _ _ t8 true _ ?side1 ?side2 ?side3 ?side4 H30.out).mono ?_); (case side1 => exact (ObS.reads HOo16.out).2.2); (case side2 => exact ObS.room HOo16.out); (case side3 => exact (ObS.reads HOo9.out).2.2); (case side4 => exact ObS.room HOo9.out); rintro e w15 ⟨rfl, hb⟩; (try clear hczg2 hfzg2 hczg6 hfzg6 hczg8 hfzg8 hczg9 hfzg9); have nOo6 := Aside0.mk (ObS.below HOo6.out hb); have nOo9 := Aside0.mk (ObS.below HOo9.out hb); have nOo13 := Aside0.mk (ObS.below HOo13.out hb); have nOo16 := Aside0.mk (ObS.below HOo16.out hb); have nOo23 := Aside0.mk (ObS.below HOo23.out hb); have nBg2 := Aside0.mk (blk_below (g := g2) (o := .cells #[.slice A0 l0.length c0] 24 (0, 0)) BKg2.out hb); have nBg6 := Aside0.mk (blk_below (g := g6) (o := .cells #[.slice Ao9 t8.length co9] 28 (0, 0)) BKg6.out hb); have nBg8 := Aside0.mk (blk_below (g := g8) (o := .cells #[.slice Ao13 t12.length co13] 28 (0, 0)) BKg8.out hb); have nBg9 := Aside0.mk (blk_below (g := g9) (o := .cells #[.slice Ao16 t15.length co16] 28 (0, 0)) BKg9.out hb); have nHB := Aside0.mk (below_step HB.out hb); have nHT := Aside0.mk (top_below HT.out hb); clear HB HT HOo6 HOo9 HOo13 HOo16 HOo23 BKg2 BKg6 BKg8 BKg9; have HOo6 := nOo6; have HOo9 := nOo9; have HOo13 := nOo13; have HOo16 := nOo16; have HOo23 := nOo23; have BKg2 := nBg2; have BKg6 := nBg6; have BKg8 := nBg8; have BKg9 := nBg9; have HB := nHB; have HT := nHT; clear nHB nHT nOo6 nOo9 nOo13 nOo16 nOo23 nBg2 nBg6 nBg8 nBg9; (try clear hb); (try clear hnd); have hczg2 : w15.cell? ⟨g2, 0, none⟩ = some (.slice A0 l0.length c0) := (blk_cell BKg2.out 0).trans rfl; have hfzg2 := blk_frozen BKg2.out 0; have hczg6 : w15.cell? ⟨g6, 0, none⟩ = some (.slice Ao9 t8.length co9) := (blk_cell BKg6.out 0).trans rfl; have hfzg6 := blk_frozen BKg6.out 0; have hczg8 : w15.cell? ⟨g8, 0, none⟩ = some (.slice Ao13 t12.length co13) := (blk_cell BKg8.out 0).trans rfl; have hfzg8 := blk_frozen BKg8.out 0; have hczg9 : w15.cell? ⟨g9, 0, none⟩ = some (.slice Ao16 t15.length co16) := (blk_cell BKg9.out 0).trans rfl; have hfzg9 := blk_frozen BKg9.out 0) | ((with_reducible refine gate_callee (f := 20) rfl ?_); refine goesL_ (some 68) rfl rfl Try.func20 (by kernel_rfl) rfl #[.agg #[.slice Ao16 t15.length co16], .int .i64 1] rfl (by (try simp only [yiy, yjy, yky]); first | done | rfl | (simp only [yly, ymy]; rfl)) ?_; (with_reducible refine (laws_markTriangulation.calls k (fun k_ => loo16 ≤ k_ ∧ k_ < hio16) (.slice Ao16 t15.length co16) t15 1 m34 y35 w _ HB.out (ObS.row HOo16.out) H33.out).mono ?_); rintro e w16 ⟨rfl, hy, hb, hk0⟩; refine ⟨_, rfl, ?_⟩; have hk := hk0; have nM := Aside0.mk (ObS.marked HOo16.out hy hk.1); (try clear hczg2 hfzg2 hczg6 hfzg6 hczg8 hfzg8 hczg9 hfzg9); have nOo6 := Aside0.mk (ObS.kept HOo6.out hk (by have := HNg2.out; have := HNo6.out; have := HNo9.out; have := HNg6.out; have := HNo13.out; have := HNg8.out; have := HNo16.out; have := HNg9.out; have := HNo23.out; omega)); have nOo9 := Aside0.mk (ObS.kept HOo9.out hk (by have := HNg2.out; have := HNo6.out; have := HNo9.out; have := HNg6.out; have := HNo13.out; have := HNg8.out; have := HNo16.out; have := HNg9.out; have := HNo23.out; omega)); have nOo13 := Aside0.mk (ObS.kept HOo13.out hk (by have := HNg2.out; have := HNo6.out; have := HNo9.out; have := HNg6.out; have := HNo13.out; have := HNg8.out; have := HNo16.out; have := HNg9.out; have := HNo23.out; omega)); have nOo23 := Aside0.mk (ObS.kept HOo23.out hk (by have := HNg2.out; have := HNo6.out; have := HNo9.out; have := HNg6.out; have := HNo13.out; have := HNg8.out; have := HNo16.out; have := HNg9.out; have := HNo23.out; omega)); have nBg2 := Aside0.mk (blk_kept (g := g2) (o := .cells #[.slice A0 l0.length c0] 24 (0, 0)) BKg2.out hk (fun h_ => by have h1_ := h_.1; have h2_ := h_.2; have := HNg2.out; have := HNo6.out; have := HNo9.out; have := HNg6.out; have := HNo13.out; have := HNg8.out; have := HNo16.out; have := HNg9.out; have := HNo23.out; omega)); have nBg6 := Aside0.mk (blk_kept (g := g6) (o := .cells #[.slice Ao9 t8.length co9] 28 (0, 0)) BKg6.out hk (fun h_ => by have h1_ := h_.1; have h2_ := h_.2; have := HNg2.out; have := HNo6.out; have := HNo9.out; have := HNg6.out; have := HNo13.out; have := HNg8.out; have := HNo16.out; have := HNg9.out; have := HNo23.out; omega)); have nBg8 := Aside0.mk (blk_kept (g := g8) (o := .cells #[.slice Ao13 t12.length co13] 28 (0, 0)) BKg8.out hk (fun h_ => by have h1_ := h_.1; have h2_ := h_.2; have := HNg2.out; have := HNo6.out; have := HNo9.out; have := HNg6.out; have := HNo13.out; have := HNg8.out; have := HNo16.out; have := HNg9.out; have := HNo23.out; omega)); have nBg9 := Aside0.mk (blk_kept (g := g9) (o := .cells #[.slice Ao16 t15.length co16] 28 (0, 0)) BKg9.out hk (fun h_ => by have h1_ := h_.1; have h2_ := h_.2; have := HNg2.out; have := HNo6.out; have := HNo9.out; have := HNg6.out; have := HNo13.out; have := HNg8.out; have := HNo16.out; have := HNg9.out; have := HNo23.out; omega)); have nHT := Aside0.mk (Nat.le_trans HT.out hk.1); clear HB HT HOo6 HOo9 HOo13 HOo16 HOo23 BKg2 BKg6 BKg8 BKg9; have HOo6 := nOo6; have HOo9 := nOo9; have HOo13 := nOo13; have HOo16 := nM; have HOo23 := nOo23; have BKg2 := nBg2; have BKg6 := nBg6; have BKg8 := nBg8; have BKg9 := nBg9; have HB := Aside0.mk hb; have HT := nHT; (try clear hy); clear hb hk0 hk nM nHT nOo6 nOo9 nOo13 nOo23 nBg2 nBg6 nBg8 nBg9; have hczg2 : w16.cell? ⟨g2, 0, none⟩ = some (.slice A0 l0.length c0) := (blk_cell BKg2.out 0).trans rfl; have hfzg2 := blk_frozen BKg2.out 0; have hczg6 : w16.cell? ⟨g6, 0, none⟩ = some (.slice Ao9 t8.length co9) := (blk_cell BKg6.out 0).trans rfl; have hfzg6 := blk_frozen BKg6.out 0; have hczg8 : w16.cell? ⟨g8, 0, none⟩ = some (.slice Ao13 t12.length co13) := (blk_cell BKg8.out 0).trans rfl; have hfzg8 := blk_frozen BKg8.out 0; have hczg9 : w16.cell? ⟨g9, 0, none⟩ = some (.slice Ao16 t15.length co16) := (blk_cell BKg9.out 0).trans rfl; have hfzg9 := blk_frozen BKg9.out 0) | ((with_reducible refine gate_callee (f := 21) rfl ?_); refine goesL_ (some 71) rfl rfl Try.func21 (by kernel_rfl) rfl #[.agg #[.slice Ao16 y35.length co16], .int .i64 1] rfl (by (try simp only [yiy, yjy, yky]); first | done | (rw [show y35.length = t15.length from (ObS.reads HOo16.out).1.symm] <;> rfl) | rfl | (simp only [yly, ymy]; rfl)) ?_; (with_reducible refine (laws_heldTriangulation.calls k _ _ y35 1 t37 _ ?side1 ?side2 H36.out).mono ?_); (case side1 => exact (ObS.reads HOo16.out).2.2); (case side2 => exact ObS.room HOo16.out); rintro e w17 ⟨rfl, hb⟩; refine ⟨_, rfl, ?_⟩; (try clear hczg2 hfzg2 hczg6 hfzg6 hczg8 hfzg8 hczg9 hfzg9); have nOo6 := Aside0.mk (ObS.below HOo6.out hb); have nOo9 := Aside0.mk (ObS.below HOo9.out hb); have nOo13 := Aside0.mk (ObS.below HOo13.out hb); have nOo16 := Aside0.mk (ObS.below HOo16.out hb); have nOo23 := Aside0.mk (ObS.below HOo23.out hb); have nBg2 := Aside0.mk (blk_below (g := g2) (o := .cells #[.slice A0 l0.length c0] 24 (0, 0)) BKg2.out hb); have nBg6 := Aside0.mk (blk_below (g := g6) (o := .cells #[.slice Ao9 t8.length co9] 28 (0, 0)) BKg6.out hb); have nBg8 := Aside0.mk (blk_below (g := g8) (o := .cells #[.slice Ao13 t12.length co13] 28 (0, 0)) BKg8.out hb); have nBg9 := Aside0.mk (blk_below (g := g9) (o := .cells #[.slice Ao16 t15.length co16] 28 (0, 0)) BKg9.out hb); have nHB := Aside0.mk (below_step HB.out hb); have nHT := Aside0.mk (top_below HT.out hb); clear HB HT HOo6 HOo9 HOo13 HOo16 HOo23 BKg2 BKg6 BKg8 BKg9; have HOo6 := nOo6; have HOo9 := nOo9; have HOo13 := nOo13; have HOo16 := nOo16; have HOo23 := nOo23; have BKg2 := nBg2; have BKg6 := nBg6; have BKg8 := nBg8; have BKg9 := nBg9; have HB := nHB; have HT := nHT; clear nHB nHT nOo6 nOo9 nOo13 nOo16 nOo23 nBg2 nBg6 nBg8 nBg9; (try clear hb); (try clear hnd); have hczg2 : w17.cell? ⟨g2, 0, none⟩ = some (.slice A0 l0.length c0) := (blk_cell BKg2.out 0).trans rfl; have hfzg2 := blk_frozen BKg2.out 0; have hczg6 : w17.cell? ⟨g6, 0, none⟩ = some (.slice Ao9 t8.length co9) := (blk_cell BKg6.out 0).trans rfl; have hfzg6 := blk_frozen BKg6.out 0; have hczg8 : w17.cell? ⟨g8, 0, none⟩ = some (.slice Ao13 t12.length co13) := (blk_cell BKg8.out 0).trans rfl; have hfzg8 := blk_frozen BKg8.out 0; have hczg9 : w17.cell? ⟨g9, 0, none⟩ = some (.slice Ao16 t15.length co16) := (blk_cell BKg9.out 0).trans rfl; have hfzg9 := blk_frozen BKg9.out 0) | ((with_reducible refine gate_callee (f := 17) rfl ?_); refine goesL_ (some 79) rfl rfl Try.func17 (by kernel_rfl) rfl #[.agg #[.slice A0 l0.length c0]] rfl (by (try simp only [yiy, yjy, yky]); first | done | rfl | (simp only [yly, ymy]; rfl)) ?_; (with_reducible refine (laws_toTriangulation.calls k _ _ l0 t41 _ ?side1 ?side2 H40.out).mono ?_); (case side1 => exact Kd.C_below HR0.out HB.out); (case side2 => exact HC0.out); rintro e w18 ⟨vo42, rfl, ho0, hb⟩; refine ⟨_, rfl, ?_⟩; (try clear hczg2 hfzg2 hczg6 hfzg6 hczg8 hfzg8 hczg9 hfzg9); obtain ⟨loo42, hio42, hno42⟩ := ObS.made ho0 hb HT.out (below_size HB.out); have nOo6 := Aside0.mk (ObS.below HOo6.out hb); have nOo9 := Aside0.mk (ObS.below HOo9.out hb); have nOo13 := Aside0.mk (ObS.below HOo13.out hb); have nOo16 := Aside0.mk (ObS.below HOo16.out hb); have nOo23 := Aside0.mk (ObS.below HOo23.out hb); have nBg2 := Aside0.mk (blk_below (g := g2) (o := .cells #[.slice A0 l0.length c0] 24 (0, 0)) BKg2.out hb); have nBg6 := Aside0.mk (blk_below (g := g6) (o := .cells #[.slice Ao9 t8.length co9] 28 (0, 0)) BKg6.out hb); have nBg8 := Aside0.mk (blk_below (g := g8) (o := .cells #[.slice Ao13 t12.length co13] 28 (0, 0)) BKg8.out hb); have nBg9 := Aside0.mk (blk_below (g := g9) (o := .cells #[.slice Ao16 t15.length co16] 28 (0, 0)) BKg9.out hb); have nHB := Aside0.mk (below_step HB.out hb); have nHT := Aside0.mk (top_below HT.out hb); clear HB HT HOo6 HOo9 HOo13 HOo16 HOo23 BKg2 BKg6 BKg8 BKg9; have HOo6 := nOo6; have HOo9 := nOo9; have HOo13 := nOo13; have HOo16 := nOo16; have HOo23 := nOo23; have BKg2 := nBg2; have BKg6 := nBg6; have BKg8 := nBg8; have BKg9 := nBg9; have HB := nHB; have HT := nHT; clear nHB nHT nOo6 nOo9 nOo13 nOo16 nOo23 nBg2 nBg6 nBg8 nBg9; have HNo42 := Aside0.mk hno42.1; clear HT; have HT := Aside0.mk hno42.2.1; have HOo42 := Aside0.mk hno42.2.2; clear hno42 ho0; obtain ⟨Ao42, co42, eeo42⟩ := HOo42.out.slice; subst eeo42; (try clear hb); (try clear hnd); have hczg2 : w18.cell? ⟨g2, 0, none⟩ = some (.slice A0 l0.length c0) := (blk_cell BKg2.out 0).trans rfl; have hfzg2 := blk_frozen BKg2.out 0; have hczg6 : w18.cell? ⟨g6, 0, none⟩ = some (.slice Ao9 t8.length co9) := (blk_cell BKg6.out 0).trans rfl; have hfzg6 := blk_frozen BKg6.out 0; have hczg8 : w18.cell? ⟨g8, 0, none⟩ = some (.slice Ao13 t12.length co13) := (blk_cell BKg8.out 0).trans rfl; have hfzg8 := blk_frozen BKg8.out 0; have hczg9 : w18.cell? ⟨g9, 0, none⟩ = some (.slice Ao16 t15.length co16) := (blk_cell BKg9.out 0).trans rfl; have hfzg9 := blk_frozen BKg9.out 0) | ((with_reducible refine gate_callee (f := 18) rfl ?_); refine goesL_ (some 81) rfl rfl Try.func18 (by kernel_rfl) rfl #[.agg #[.slice Ao42 t41.length co42], .int .i64 a1] rfl (by (try simp only [yiy, yjy, yky]); first | done | rfl | (simp only [yly, ymy]; rfl)) ?_; (with_reducible refine (impl_ComponentOf.calls k _ _ t41 a1 t44 t46 _ ?side1 ?side2 H43.out).mono ?_); (case side1 => exact (ObS.reads HOo42.out).2.2); (case side2 => exact ObS.room HOo42.out); rintro e w19 ⟨vo45, rfl, ho0, hb⟩; refine ⟨_, rfl, ?_⟩; (try clear hczg2 hfzg2 hczg6 hfzg6 hczg8 hfzg8 hczg9 hfzg9); obtain ⟨loo45, hio45, hno45⟩ := ObS.made ho0 hb HT.out (below_size HB.out); have nOo6 := Aside0.mk (ObS.below HOo6.out hb); have nOo9 := Aside0.mk (ObS.below HOo9.out hb); have nOo13 := Aside0.mk (ObS.below HOo13.out hb); have nOo16 := Aside0.mk (ObS.below HOo16.out hb); have nOo23 := Aside0.mk (ObS.below HOo23.out hb); have nOo42 := Aside0.mk (ObS.below HOo42.out hb); have nBg2 := Aside0.mk (blk_below (g := g2) (o := .cells #[.slice A0 l0.length c0] 24 (0, 0)) BKg2.out hb); have nBg6 := Aside0.mk (blk_below (g := g6) (o := .cells #[.slice Ao9 t8.length co9] 28 (0, 0)) BKg6.out hb); have nBg8 := Aside0.mk (blk_below (g := g8) (o := .cells #[.slice Ao13 t12.length co13] 28 (0, 0)) BKg8.out hb); have nBg9 := Aside0.mk (blk_below (g := g9) (o := .cells #[.slice Ao16 t15.length co16] 28 (0, 0)) BKg9.out hb); have nHB := Aside0.mk (below_step HB.out hb); have nHT := Aside0.mk (top_below HT.out hb); clear HB HT HOo6 HOo9 HOo13 HOo16 HOo23 HOo42 BKg2 BKg6 BKg8 BKg9; have HOo6 := nOo6; have HOo9 := nOo9; have HOo13 := nOo13; have HOo16 := nOo16; have HOo23 := nOo23; have HOo42 := nOo42; have BKg2 := nBg2; have BKg6 := nBg6; have BKg8 := nBg8; have BKg9 := nBg9; have HB := nHB; have HT := nHT; clear nHB nHT nOo6 nOo9 nOo13 nOo16 nOo23 nOo42 nBg2 nBg6 nBg8 nBg9; have HNo45 := Aside0.mk hno45.1; clear HT; have HT := Aside0.mk hno45.2.1; have HOo45 := Aside0.mk hno45.2.2; clear hno45 ho0; obtain ⟨Ao45, co45, eeo45⟩ := HOo45.out.slice; subst eeo45; (try clear hb); (try clear hnd); have hczg2 : w19.cell? ⟨g2, 0, none⟩ = some (.slice A0 l0.length c0) := (blk_cell BKg2.out 0).trans rfl; have hfzg2 := blk_frozen BKg2.out 0; have hczg6 : w19.cell? ⟨g6, 0, none⟩ = some (.slice Ao9 t8.length co9) := (blk_cell BKg6.out 0).trans rfl; have hfzg6 := blk_frozen BKg6.out 0; have hczg8 : w19.cell? ⟨g8, 0, none⟩ = some (.slice Ao13 t12.length co13) := (blk_cell BKg8.out 0).trans rfl; have hfzg8 := blk_frozen BKg8.out 0; have hczg9 : w19.cell? ⟨g9, 0, none⟩ = some (.slice Ao16 t15.length co16) := (blk_cell BKg9.out 0).trans rfl; have hfzg9 := blk_frozen BKg9.out 0) | ((with_reducible refine gate_dst (N := 14) rfl ?_); refine box_event ?hg (N := 14) ?hd (cs := #[.slice none 0 0]) (t := 28) ?hr ?_; (case hd => rfl); (case hg => rfl); (case hr => first | (go_simp; done) | (go_simp; rfl)); intro g14 hg w20 hbox hb; (try clear hczg2 hfzg2 hczg6 hfzg6 hczg8 hfzg8 hczg9 hfzg9); have HNg14 := Aside0.mk (by rw [hg]; exact HT.out : hio45 ≤ g14); have HXg14 := Aside0.mk (show g14 + 1 ≤ w20.heap.size from blk_lt hbox); have nOo6 := Aside0.mk (ObS.below HOo6.out hb); have nOo9 := Aside0.mk (ObS.below HOo9.out hb); have nOo13 := Aside0.mk (ObS.below HOo13.out hb); have nOo16 := Aside0.mk (ObS.below HOo16.out hb); have nOo23 := Aside0.mk (ObS.below HOo23.out hb); have nOo42 := Aside0.mk (ObS.below HOo42.out hb); have nOo45 := Aside0.mk (ObS.below HOo45.out hb); have nBg2 := Aside0.mk (blk_below (g := g2) (o := .cells #[.slice A0 l0.length c0] 24 (0, 0)) BKg2.out hb); have nBg6 := Aside0.mk (blk_below (g := g6) (o := .cells #[.slice Ao9 t8.length co9] 28 (0, 0)) BKg6.out hb); have nBg8 := Aside0.mk (blk_below (g := g8) (o := .cells #[.slice Ao13 t12.length co13] 28 (0, 0)) BKg8.out hb); have nBg9 := Aside0.mk (blk_below (g := g9) (o := .cells #[.slice Ao16 t15.length co16] 28 (0, 0)) BKg9.out hb); have nHB := Aside0.mk (below_step HB.out hb); have nHT := Aside0.mk (top_below HT.out hb); clear HB HT HOo6 HOo9 HOo13 HOo16 HOo23 HOo42 HOo45 BKg2 BKg6 BKg8 BKg9; have HOo6 := nOo6; have HOo9 := nOo9; have HOo13 := nOo13; have HOo16 := nOo16; have HOo23 := nOo23; have HOo42 := nOo42; have HOo45 := nOo45; have BKg2 := nBg2; have BKg6 := nBg6; have BKg8 := nBg8; have BKg9 := nBg9; have HB := nHB; have HT := nHT; clear nHB nHT nOo6 nOo9 nOo13 nOo16 nOo23 nOo42 nOo45 nBg2 nBg6 nBg8 nBg9; clear HT; have HT := HXg14; clear HXg14; have BKg14 := Aside0.mk hbox; clear hg hbox hb; have hnbg14_g2 : g14 ≠ g2 := (by have := HNg2.out; have := HNo6.out; have := HNo9.out; have := HNg6.out; have := HNo13.out; have := HNg8.out; have := HNo16.out; have := HNg9.out; have := HNo23.out; have := HNo42.out; have := HNo45.out; have := HNg14.out; omega); have hnbg2_g14 : g2 ≠ g14 := (by have := HNg2.out; have := HNo6.out; have := HNo9.out; have := HNg6.out; have := HNo13.out; have := HNg8.out; have := HNo16.out; have := HNg9.out; have := HNo23.out; have := HNo42.out; have := HNo45.out; have := HNg14.out; omega); have hnbg14_g6 : g14 ≠ g6 := (by have := HNg2.out; have := HNo6.out; have := HNo9.out; have := HNg6.out; have := HNo13.out; have := HNg8.out; have := HNo16.out; have := HNg9.out; have := HNo23.out; have := HNo42.out; have := HNo45.out; have := HNg14.out; omega); have hnbg6_g14 : g6 ≠ g14 := (by have := HNg2.out; have := HNo6.out; have := HNo9.out; have := HNg6.out; have := HNo13.out; have := HNg8.out; have := HNo16.out; have := HNg9.out; have := HNo23.out; have := HNo42.out; have := HNo45.out; have := HNg14.out; omega); have hnbg14_g8 : g14 ≠ g8 := (by have := HNg2.out; have := HNo6.out; have := HNo9.out; have := HNg6.out; have := HNo13.out; have := HNg8.out; have := HNo16.out; have := HNg9.out; have := HNo23.out; have := HNo42.out; have := HNo45.out; have := HNg14.out; omega); have hnbg8_g14 : g8 ≠ g14 := (by have := HNg2.out; have := HNo6.out; have := HNo9.out; have := HNg6.out; have := HNo13.out; have := HNg8.out; have := HNo16.out; have := HNg9.out; have := HNo23.out; have := HNo42.out; have := HNo45.out; have := HNg14.out; omega); have hnbg14_g9 : g14 ≠ g9 := (by have := HNg2.out; have := HNo6.out; have := HNo9.out; have := HNg6.out; have := HNo13.out; have := HNg8.out; have := HNo16.out; have := HNg9.out; have := HNo23.out; have := HNo42.out; have := HNo45.out; have := HNg14.out; omega); have hnbg9_g14 : g9 ≠ g14 := (by have := HNg2.out; have := HNo6.out; have := HNo9.out; have := HNg6.out; have := HNo13.out; have := HNg8.out; have := HNo16.out; have := HNg9.out; have := HNo23.out; have := HNo42.out; have := HNo45.out; have := HNg14.out; omega); have hczg2 : w20.cell? ⟨g2, 0, none⟩ = some (.slice A0 l0.length c0) := (blk_cell BKg2.out 0).trans rfl; have hfzg2 := blk_frozen BKg2.out 0; have hczg6 : w20.cell? ⟨g6, 0, none⟩ = some (.slice Ao9 t8.length co9) := (blk_cell BKg6.out 0).trans rfl; have hfzg6 := blk_frozen BKg6.out 0; have hczg8 : w20.cell? ⟨g8, 0, none⟩ = some (.slice Ao13 t12.length co13) := (blk_cell BKg8.out 0).trans rfl; have hfzg8 := blk_frozen BKg8.out 0; have hczg9 : w20.cell? ⟨g9, 0, none⟩ = some (.slice Ao16 t15.length co16) := (blk_cell BKg9.out 0).trans rfl; have hfzg9 := blk_frozen BKg9.out 0; have hczg14 : w20.cell? ⟨g14, 0, none⟩ = some (.slice none 0 0) := (blk_cell BKg14.out 0).trans rfl; have hfzg14 := blk_frozen BKg14.out 0) | ((with_reducible refine gate_callee (f := 19) rfl ?_); refine goesL_ (some 86) rfl rfl Try.func19 (by kernel_rfl) rfl #[.agg #[.slice Ao45 t44.length co45], .agg #[.slice Ao9 t8.length co9]] rfl (by (try simp only [yiy, yjy, yky]); first | done | rfl | (simp only [yly, ymy]; rfl)) ?_; (with_reducible refine (laws_eqTriangulation.calls k _ _ t44 _ _ t8 true _ ?side1 ?side2 ?side3 ?side4 H47.out).mono ?_); (case side1 => exact (ObS.reads (ObS.far (g := g14) (i := 0) HOo45.out (by have := HNg2.out; have := HNo6.out; have := HNo9.out; have := HNg6.out; have := HNo13.out; have := HNg8.out; have := HNo16.out; have := HNg9.out; have := HNo23.out; have := HNo42.out; have := HNo45.out; have := HNg14.out; omega) _)).2.2); (case side2 => exact ObS.room HOo45.out); (case side3 => exact (ObS.reads (ObS.far (g := g14) (i := 0) HOo9.out (by have := HNg2.out; have := HNo6.out; have := HNo9.out; have := HNg6.out; have := HNo13.out; have := HNg8.out; have := HNo16.out; have := HNg9.out; have := HNo23.out; have := HNo42.out; have := HNo45.out; have := HNg14.out; omega) _)).2.2); (case side4 => exact ObS.room HOo9.out); rintro e w21 ⟨rfl, hb⟩; refine ⟨_, rfl, ?_⟩; (try clear hczg2 hfzg2 hczg6 hfzg6 hczg8 hfzg8 hczg9 hfzg9 hczg14 hfzg14); have nOo6 := Aside0.mk (ObS.below (ObS.far (g := g14) (i := 0) HOo6.out (by have := HNg2.out; have := HNo6.out; have := HNo9.out; have := HNg6.out; have := HNo13.out; have := HNg8.out; have := HNo16.out; have := HNg9.out; have := HNo23.out; have := HNo42.out; have := HNo45.out; have := HNg14.out; omega) _) hb); have nOo9 := Aside0.mk (ObS.below (ObS.far (g := g14) (i := 0) HOo9.out (by have := HNg2.out; have := HNo6.out; have := HNo9.out; have := HNg6.out; have := HNo13.out; have := HNg8.out; have := HNo16.out; have := HNg9.out; have := HNo23.out; have := HNo42.out; have := HNo45.out; have := HNg14.out; omega) _) hb); have nOo13 := Aside0.mk (ObS.below (ObS.far (g := g14) (i := 0) HOo13.out (by have := HNg2.out; have := HNo6.out; have := HNo9.out; have := HNg6.out; have := HNo13.out; have := HNg8.out; have := HNo16.out; have := HNg9.out; have := HNo23.out; have := HNo42.out; have := HNo45.out; have := HNg14.out; omega) _) hb); have nOo16 := Aside0.mk (ObS.below (ObS.far (g := g14) (i := 0) HOo16.out (by have := HNg2.out; have := HNo6.out; have := HNo9.out; have := HNg6.out; have := HNo13.out; have := HNg8.out; have := HNo16.out; have := HNg9.out; have := HNo23.out; have := HNo42.out; have := HNo45.out; have := HNg14.out; omega) _) hb); have nOo23 := Aside0.mk (ObS.below (ObS.far (g := g14) (i := 0) HOo23.out (by have := HNg2.out; have := HNo6.out; have := HNo9.out; have := HNg6.out; have := HNo13.out; have := HNg8.out; have := HNo16.out; have := HNg9.out; have := HNo23.out; have := HNo42.out; have := HNo45.out; have := HNg14.out; omega) _) hb); have nOo42 := Aside0.mk (ObS.below (ObS.far (g := g14) (i := 0) HOo42.out (by have := HNg2.out; have := HNo6.out; have := HNo9.out; have := HNg6.out; have := HNo13.out; have := HNg8.out; have := HNo16.out; have := HNg9.out; have := HNo23.out; have := HNo42.out; have := HNo45.out; have := HNg14.out; omega) _) hb); have nOo45 := Aside0.mk (ObS.below (ObS.far (g := g14) (i := 0) HOo45.out (by have := HNg2.out; have := HNo6.out; have := HNo9.out; have := HNg6.out; have := HNo13.out; have := HNg8.out; have := HNo16.out; have := HNg9.out; have := HNo23.out; have := HNo42.out; have := HNo45.out; have := HNg14.out; omega) _) hb); have nBg2 := Aside0.mk (blk_below (g := g2) (o := .cells #[.slice A0 l0.length c0] 24 (0, 0)) (blk_far (p := ⟨g14, 0, none⟩) BKg2.out (show g2 ≠ g14 from (by have := HNg2.out; have := HNo6.out; have := HNo9.out; have := HNg6.out; have := HNo13.out; have := HNg8.out; have := HNo16.out; have := HNg9.out; have := HNo23.out; have := HNo42.out; have := HNo45.out; have := HNg14.out; omega)) _) hb); have nBg6 := Aside0.mk (blk_below (g := g6) (o := .cells #[.slice Ao9 t8.length co9] 28 (0, 0)) (blk_far (p := ⟨g14, 0, none⟩) BKg6.out (show g6 ≠ g14 from (by have := HNg2.out; have := HNo6.out; have := HNo9.out; have := HNg6.out; have := HNo13.out; have := HNg8.out; have := HNo16.out; have := HNg9.out; have := HNo23.out; have := HNo42.out; have := HNo45.out; have := HNg14.out; omega)) _) hb); have nBg8 := Aside0.mk (blk_below (g := g8) (o := .cells #[.slice Ao13 t12.length co13] 28 (0, 0)) (blk_far (p := ⟨g14, 0, none⟩) BKg8.out (show g8 ≠ g14 from (by have := HNg2.out; have := HNo6.out; have := HNo9.out; have := HNg6.out; have := HNo13.out; have := HNg8.out; have := HNo16.out; have := HNg9.out; have := HNo23.out; have := HNo42.out; have := HNo45.out; have := HNg14.out; omega)) _) hb); have nBg9 := Aside0.mk (blk_below (g := g9) (o := .cells #[.slice Ao16 t15.length co16] 28 (0, 0)) (blk_far (p := ⟨g14, 0, none⟩) BKg9.out (show g9 ≠ g14 from (by have := HNg2.out; have := HNo6.out; have := HNo9.out; have := HNg6.out; have := HNo13.out; have := HNg8.out; have := HNo16.out; have := HNg9.out; have := HNo23.out; have := HNo42.out; have := HNo45.out; have := HNg14.out; omega)) _) hb); have nBg14 := Aside0.mk (blk_below (g := g14) (o := .cells #[.slice Ao45 t44.length co45] 28 (0, 0)) (blk_put (cs := #[.slice none 0 0]) BKg14.out 0 _ rfl) hb); have nHB := Aside0.mk (below_step (below_set HB.out (show w.heap.size ≤ g14 from (by have := HNg2.out; have := HNo6.out; have := HNo9.out; have := HNg6.out; have := HNo13.out; have := HNg8.out; have := HNo16.out; have := HNg9.out; have := HNo23.out; have := HNo42.out; have := HNo45.out; have := HNg14.out; omega))) hb); have nHT := Aside0.mk (top_below (top_far HT.out) hb); clear HB HT HOo6 HOo9 HOo13 HOo16 HOo23 HOo42 HOo45 BKg2 BKg6 BKg8 BKg9 BKg14; have HOo6 := nOo6; have HOo9 := nOo9; have HOo13 := nOo13; have HOo16 := nOo16; have HOo23 := nOo23; have HOo42 := nOo42; have HOo45 := nOo45; have BKg2 := nBg2; have BKg6 := nBg6; have BKg8 := nBg8; have BKg9 := nBg9; have BKg14 := nBg14; have HB := nHB; have HT := nHT; clear nHB nHT nOo6 nOo9 nOo13 nOo16 nOo23 nOo42 nOo45 nBg2 nBg6 nBg8 nBg9 nBg14; (try clear hb); (try clear hnd); have hczg2 : w21.cell? ⟨g2, 0, none⟩ = some (.slice A0 l0.length c0) := (blk_cell BKg2.out 0).trans rfl; have hfzg2 := blk_frozen BKg2.out 0; have hczg6 : w21.cell? ⟨g6, 0, none⟩ = some (.slice Ao9 t8.length co9) := (blk_cell BKg6.out 0).trans rfl; have hfzg6 := blk_frozen BKg6.out 0; have hczg8 : w21.cell? ⟨g8, 0, none⟩ = some (.slice Ao13 t12.length co13) := (blk_cell BKg8.out 0).trans rfl; have hfzg8 := blk_frozen BKg8.out 0; have hczg9 : w21.cell? ⟨g9, 0, none⟩ = some (.slice Ao16 t15.length co16) := (blk_cell BKg9.out 0).trans rfl; have hfzg9 := blk_frozen BKg9.out 0; have hczg14 : w21.cell? ⟨g14, 0, none⟩ = some (.slice Ao45 t44.length co45) := (blk_cell BKg14.out 0).trans rfl; have hfzg14 := blk_frozen BKg14.out 0) | ((with_reducible refine gate_callee (f := 21) rfl ?_); refine goesL_ (some 95) rfl rfl Try.func21 (by kernel_rfl) rfl #[.agg #[.slice Ao16 y35.length co16], .int .i64 1] rfl (by (try simp only [yiy, yjy, yky]); first | done | (rw [show y35.length = t15.length from (ObS.reads HOo16.out).1.symm] <;> rfl) | rfl | (simp only [yly, ymy]; rfl)) ?_; (with_reducible refine (laws_heldTriangulation.calls k _ _ y35 1 t51 _ ?side1 ?side2 H50.out).mono ?_); (case side1 => exact (ObS.reads HOo16.out).2.2); (case side2 => exact ObS.room HOo16.out); rintro e w22 ⟨rfl, hb⟩; refine ⟨_, rfl, ?_⟩; (try clear hczg2 hfzg2 hczg6 hfzg6 hczg8 hfzg8 hczg9 hfzg9 hczg14 hfzg14); have nOo6 := Aside0.mk (ObS.below HOo6.out hb); have nOo9 := Aside0.mk (ObS.below HOo9.out hb); have nOo13 := Aside0.mk (ObS.below HOo13.out hb); have nOo16 := Aside0.mk (ObS.below HOo16.out hb); have nOo23 := Aside0.mk (ObS.below HOo23.out hb); have nOo42 := Aside0.mk (ObS.below HOo42.out hb); have nOo45 := Aside0.mk (ObS.below HOo45.out hb); have nBg2 := Aside0.mk (blk_below (g := g2) (o := .cells #[.slice A0 l0.length c0] 24 (0, 0)) BKg2.out hb); have nBg6 := Aside0.mk (blk_below (g := g6) (o := .cells #[.slice Ao9 t8.length co9] 28 (0, 0)) BKg6.out hb); have nBg8 := Aside0.mk (blk_below (g := g8) (o := .cells #[.slice Ao13 t12.length co13] 28 (0, 0)) BKg8.out hb); have nBg9 := Aside0.mk (blk_below (g := g9) (o := .cells #[.slice Ao16 t15.length co16] 28 (0, 0)) BKg9.out hb); have nBg14 := Aside0.mk (blk_below (g := g14) (o := .cells #[.slice Ao45 t44.length co45] 28 (0, 0)) BKg14.out hb); have nHB := Aside0.mk (below_step HB.out hb); have nHT := Aside0.mk (top_below HT.out hb); clear HB HT HOo6 HOo9 HOo13 HOo16 HOo23 HOo42 HOo45 BKg2 BKg6 BKg8 BKg9 BKg14; have HOo6 := nOo6; have HOo9 := nOo9; have HOo13 := nOo13; have HOo16 := nOo16; have HOo23 := nOo23; have HOo42 := nOo42; have HOo45 := nOo45; have BKg2 := nBg2; have BKg6 := nBg6; have BKg8 := nBg8; have BKg9 := nBg9; have BKg14 := nBg14; have HB := nHB; have HT := nHT; clear nHB nHT nOo6 nOo9 nOo13 nOo16 nOo23 nOo42 nOo45 nBg2 nBg6 nBg8 nBg9 nBg14; (try clear hb); (try clear hnd); have hczg2 : w22.cell? ⟨g2, 0, none⟩ = some (.slice A0 l0.length c0) := (blk_cell BKg2.out 0).trans rfl; have hfzg2 := blk_frozen BKg2.out 0; have hczg6 : w22.cell? ⟨g6, 0, none⟩ = some (.slice Ao9 t8.length co9) := (blk_cell BKg6.out 0).trans rfl; have hfzg6 := blk_frozen BKg6.out 0; have hczg8 : w22.cell? ⟨g8, 0, none⟩ = some (.slice Ao13 t12.length co13) := (blk_cell BKg8.out 0).trans rfl; have hfzg8 := blk_frozen BKg8.out 0; have hczg9 : w22.cell? ⟨g9, 0, none⟩ = some (.slice Ao16 t15.length co16) := (blk_cell BKg9.out 0).trans rfl; have hfzg9 := blk_frozen BKg9.out 0; have hczg14 : w22.cell? ⟨g14, 0, none⟩ = some (.slice Ao45 t44.length co45) := (blk_cell BKg14.out 0).trans rfl; have hfzg14 := blk_frozen BKg14.out 0))
 go_ret
 exact ⟨by first | rfl | (simp <;> rfl), HB.out⟩
end Go.Proofs.Ytdgdnnjigigkcaa.P
namespace Go.Proofs.Ytdgdnnjigigkcaa.P
open Go.RowKit Go.Proofs.YtdgdnnjigigkcaaW.PrintWords Go.Proofs.Ytdgdnnjigigkcaa.Lib
set_option linter.unusedVariables false
theorem inRange_eq (a b c : Int) : impl_inRange.f a b c = some (decide (b ≤ a) && decide (a ≤ c)) := by
  unfold impl_inRange.f
  by_cases h : b ≤ a <;> simp [h]
theorem l07In_eq (a b c : Int) : spec_l07In.f a b c = some (decide (b ≤ a) && decide (a ≤ c)) := by
  unfold spec_l07In.f
  by_cases h : b ≤ a <;> simp [h]
theorem l06Valid_eq (a : Int) : spec_l06Valid.f a = some (decide (0 ≤ a) && decide (a ≤ 23)) := by
  unfold spec_l06Valid.f
  by_cases h : 0 ≤ a
  · rw [if_pos h]; simp [h]; omega
  · rw [if_neg h]; simp [h]
theorem isPerm_eq (a : Int) : impl_isPerm.f a = some (decide (0 ≤ a) && decide (a ≤ 23)) := by
  unfold impl_isPerm.f; rw [inRange_eq]; rfl
/-- A number that is the index of a permutation. -/
theorem fin_of {p : Int} (h0 : 0 ≤ p) (h1 : p ≤ 23) : ∃ m : Fin 24, p = (m.val : Int) := ⟨⟨p.toNat, by omega⟩, by simp; omega⟩
theorem l06Images_ev {p : Int} (h0 : 0 ≤ p) (h1 : p ≤ 23) : Ev (fun k => spec_l06Images.f k p) (permL p) := by
  obtain ⟨m, rfl⟩ := fin_of h0 h1
  have key : ∀ m : Fin 24, spec_l06Images.f 5 (m.val : Int) = some (permL (m.val : Int)) := by decide +kernel
  exact Ev.of (fun k => spec_l06Images.mono _ k) (key m)
theorem permL_len (p : Int) : (permL p).length = 4 := rfl
theorem permL_sm {p f : Int} (h0 : 0 ≤ p) (h1 : p ≤ 23) (hf0 : 0 ≤ f) (hf1 : f ≤ 3) : 0 ≤ rd (permL p) f ∧ rd (permL p) f ≤ 3 := by
  obtain ⟨a, b, c, d⟩ := permAt_sm p h0 h1
  exact rd_four_sm a b c d f hf0 hf1
theorem l06At_ev {p f : Int} (h0 : 0 ≤ p) (h1 : p ≤ 23) (hf0 : 0 ≤ f) (hf1 : f ≤ 3) : Ev (fun k => spec_l06At.f k p f) (rd (permL p) f) := by
  refine Ev.bind (l06Images_ev h0 h1) ?_
  exact ev_pos hf0 (ev_pos (by rw [permL_len]; omega) (Ev.now _))
theorem l06Back_ev {p : Int} (h0 : 0 ≤ p) (h1 : p ≤ 23) : Ev (fun k => spec_l06Back.f k p) (invP p) := by
  obtain ⟨m, rfl⟩ := fin_of h0 h1
  have key : ∀ m : Fin 24, spec_l06Back.f 40 (m.val : Int) = some (invP (m.val : Int)) := by decide +kernel
  exact Ev.of (fun k => spec_l06Back.mono _ k) (key m)
theorem target_eq {q p f : Int} (h0 : 0 ≤ p) (h1 : p ≤ 23) (hf0 : 0 ≤ f) (hf1 : f ≤ 3) : impl_Face_target.f q p f = some (rd (permL p) f) := if_pos ⟨h0, h1, hf0, hf1⟩
theorem partner_eq {q p a : Int} (h0 : 0 ≤ p) (h1 : p ≤ 23) : impl_Face_partner.f q p a = some (a, invP p) := by
  unfold impl_Face_partner.f impl_invert.f
  rw [if_pos ⟨h0, h1⟩]; rfl
abbrev Tri := List (List SFace)
/-- No list of t is longer than a million. -/
def Small (t : Tri) : Prop := t.length ≤ 1048576 ∧ ∀ r ∈ t, r.length ≤ 1048576
def SmallL (t : List (List SLawFace)) : Prop := t.length ≤ 1048576 ∧ ∀ r ∈ t, r.length ≤ 1048576
def Fits (t : List (List SLawFace)) : Prop := t.length ≤ 9223372036854775807 ∧ ∀ r ∈ t, r.length ≤ 9223372036854775807
theorem rd_LLawFace_lt (t : List (List SLawFace)) (n : Nat) (h : n < t.length) : rd_LLawFace t (n : Int) = t[n] := by simp [rd_LLawFace, h]
theorem rd_LFace_lt (t : Tri) (n : Nat) (h : n < t.length) : rd_LFace t (n : Int) = t[n] := by simp [rd_LFace, h]
theorem rd_LawFace_lt (t : List SLawFace) (n : Nat) (h : n < t.length) : rd_LawFace t (n : Int) = t[n] := by simp [rd_LawFace, h]
theorem rd_Face_lt (t : List SFace) (n : Nat) (h : n < t.length) : rd_Face t (n : Int) = t[n] := by simp [rd_Face, h]
theorem szFaceS_eq (r : List SLawFace) (a : Int) (h0 : 0 ≤ a) (h1 : a ≤ 1048576) (h : r.length ≤ 9223372036854775807) : laws_szFaceS.f r a = some (if a - r.length < 0 then -1 else a - r.length) := by
  unfold laws_szFaceS.f
  rw [wrap_id (by omega) (by omega)]
  split <;> rfl
theorem szFaceSS_ev (t : List (List SLawFace)) (h : Fits t) (hl : t.length ≤ 1048576) : ∃ r, Ev (fun k => laws_szFaceSS.l0 k t (1048576 - t.length) 0) r ∧ (0 ≤ r → ∀ x ∈ t, x.length ≤ 1048576) := by
  have key : ∀ d n : Nat, ∀ a : Int, n + d = t.length → 0 ≤ a → a ≤ 1048576 → ∃ r, Ev (fun k => laws_szFaceSS.l0 k t a (n : Int)) r ∧ (0 ≤ r → ∀ x ∈ t.drop n, x.length ≤ 1048576) := by
    intro d
    induction d with
    | zero =>
      intro n a hn h0 h1
      refine ⟨a, ev_step (f := fun _ => some a) (fun k => ?_) (Ev.now a), fun _ x hx => ?_⟩
      · simp only [laws_szFaceSS.l0]; rw [if_neg (by omega)]
      · rw [List.drop_eq_nil_of_le (by omega)] at hx; cases hx
    | succ d ih =>
      intro n a hn h0 h1
      have hlt : n < t.length := by omega
      have hf := h.2 t[n] (List.getElem_mem hlt)
      by_cases hc : a - t[n].length < 0
      · refine ⟨-1, ev_step (f := fun _ => some (-1)) (fun k => ?_) (Ev.now (-1)), fun h => by omega⟩
        simp only [laws_szFaceSS.l0]
        rw [if_pos (by omega), if_pos (by omega), rd_LLawFace_lt t n hlt, szFaceS_eq _ a h0 h1 hf, yfy, if_pos hc]
        rfl
      · obtain ⟨r, hr, hr2⟩ := ih (n + 1) (a - t[n].length) (by omega) (by omega) (by omega)
        refine ⟨r, ev_step (fun k => ?_) hr, fun h x hx => ?_⟩
        · simp only [laws_szFaceSS.l0]
          rw [if_pos (by omega), if_pos (by omega), rd_LLawFace_lt t n hlt, szFaceS_eq _ a h0 h1 hf, yfy, if_neg hc, if_neg (by omega), wrap_succ (by omega)]
        · rw [List.drop_eq_getElem_cons hlt] at hx
          rcases List.mem_cons.1 hx with rfl | hx
          · omega
          · exact hr2 h x hx
  obtain ⟨r, hr, hr2⟩ := key t.length 0 (1048576 - t.length) (by omega) (by omega) (by omega)
  exact ⟨r, hr, fun h => by have := hr2 h; rwa [List.drop_zero] at this⟩
theorem szTriangulation_ev (t : List (List SLawFace)) (h : Fits t) : ∃ r, Ev (fun k => laws_szTriangulation.f k t 1048576) r ∧ (¬ r < 0 → SmallL t) := by
  by_cases hl : (1048576 - (t.length : Int)) < 0
  · refine ⟨-1, ?_, fun h => by omega⟩
    refine Ev.bind (a := -1) (ev_const' (fun k => ?_)) (ev_pos (by omega) (Ev.now _))
    unfold laws_szFaceSS.f
    have := h.1
    rw [wrap_id (by omega) (by omega), if_pos hl]
  · obtain ⟨r, hr, hr2⟩ := szFaceSS_ev t h (by omega)
    have h2 : Ev (fun k => laws_szFaceSS.f k t 1048576) r := by
      refine Ev.congr (fun k => ?_) hr
      unfold laws_szFaceSS.f
      rw [wrap_id (by omega) (by omega), if_neg hl]
    by_cases hn : r < 0
    · exact ⟨-1, Ev.bind h2 (ev_pos hn (Ev.now _)), fun h => by omega⟩
    · exact ⟨r, Ev.bind h2 (ev_neg hn (Ev.now _)), fun _ => ⟨by omega, hr2 (by omega)⟩⟩
/-- The copies of the law's values. -/
def cvF (x : SLawFace) : SFace := ⟨x.f0, x.f1⟩
def cvR (r : List SLawFace) : List SFace := r.map cvF
def cvT (t : List (List SLawFace)) : Tri := t.map cvR
theorem cvT_small {t : List (List SLawFace)} (h : SmallL t) : Small (cvT t) := by
  refine ⟨by simp [cvT]; exact h.1, fun r hr => ?_⟩
  obtain ⟨s, hs, rfl⟩ := List.mem_map.1 hr
  simp [cvR]; exact h.2 s hs
theorem map_take_set {α β : Type} (f : α → β) (l : List α) (z : β) (n : Nat) (h : n < l.length) :
    ((l.take n).map f ++ List.replicate (l.length - n) z).set n (f l[n]) = (l.take (n + 1)).map f ++ List.replicate (l.length - (n + 1)) z := by
  have e : l.length - n = (l.length - (n + 1)) + 1 := by omega
  rw [e, List.replicate_succ, List.set_append_right _ _ (by simp; omega)]
  have : n - ((l.take n).map f).length = 0 := by simp; omega
  rw [this, yby, List.take_succ_eq_append_getElem h, List.map_append, List.append_assoc]
  rfl
theorem toFaceS_ev (l : List SLawFace) (h : l.length ≤ 1048576) : Ev (fun k => laws_toFaceS.f k l) (cvR l) := by
  have hl : Ev (fun k => laws_toFaceS.l0 k l (List.replicate l.length zFace) 0) (cvR l) := by
    refine ev_loop0 (fun k (s : List SFace × Int) => laws_toFaceS.l0 k l s.1 s.2) (fun s => ∃ n : Nat, n ≤ l.length ∧ s.2 = n ∧ s.1 = (l.take n).map cvF ++ List.replicate (l.length - n) zFace) (fun s => l.length - s.2.toNat) (fun _ => cvR l) ?_ (List.replicate l.length zFace, 0) ⟨0, by omega, rfl, by simp⟩
    rintro ⟨a, i⟩ ⟨n, hn, rfl, rfl⟩
    dsimp only
    by_cases hlt : n < l.length
    · refine .inr ⟨((l.take (n + 1)).map cvF ++ List.replicate (l.length - (n + 1)) zFace, ((n + 1 : Nat) : Int)), ⟨n + 1, by omega, rfl, rfl⟩, by simp; omega, rfl, fun k => ?_⟩
      simp only [laws_toFaceS.l0, laws_toFace.f, yfy]
      rw [if_pos (by omega), if_pos (by omega), if_pos (by simp; omega), wrap_succ (by omega), yny, rd_LawFace_lt l n hlt]
      have := map_take_set cvF l zFace n hlt
      rw [← this]
      rfl
    · obtain rfl : n = l.length := by omega
      refine .inl fun k => ?_
      simp only [laws_toFaceS.l0]
      rw [if_neg (by omega)]
      simp [cvR]
  refine Ev.congr (fun k => ?_) hl
  unfold laws_toFaceS.f
  rw [if_pos (by omega), if_pos (by simp; omega), yny]
theorem toFaceSS_ev (l : List (List SLawFace)) (h : SmallL l) : Ev (fun k => laws_toFaceSS.f k l) (cvT l) := by
  have hl : Ev (fun k => laws_toFaceSS.l0 k l (List.replicate l.length []) 0) (cvT l) := by
    refine ev_loop (fun k (s : Tri × Int) => laws_toFaceSS.l0 k l s.1 s.2) (fun s => ∃ n : Nat, n ≤ l.length ∧ s.2 = n ∧ s.1 = (l.take n).map cvR ++ List.replicate (l.length - n) []) (fun s => l.length - s.2.toNat) (fun _ => cvT l) ?_ (List.replicate l.length [], 0) ⟨0, by omega, rfl, by simp⟩
    rintro ⟨a, i⟩ ⟨n, hn, rfl, rfl⟩
    dsimp only
    by_cases hlt : n < l.length
    · obtain ⟨K, hK⟩ := toFaceS_ev l[n] (h.2 _ (List.getElem_mem hlt))
      refine .inr ⟨((l.take (n + 1)).map cvR ++ List.replicate (l.length - (n + 1)) [], ((n + 1 : Nat) : Int)), K, ⟨n + 1, by omega, rfl, rfl⟩, by simp; omega, rfl, fun k hk => ?_⟩
      have e : laws_toFaceS.f k l[n] = some _ := hK k hk
      have h1 := h.1
      simp only [laws_toFaceSS.l0]
      rw [if_pos (by omega), if_pos (by omega), rd_LLawFace_lt l n hlt, e, yfy, if_pos (by simp; omega), wrap_succ (by omega), yny, map_take_set cvR l [] n hlt]
    · obtain rfl : n = l.length := by omega
      refine .inl ⟨0, fun k _ => ?_⟩
      simp only [laws_toFaceSS.l0]
      rw [if_neg (by omega)]
      simp [cvT]
  have h1 := h.1
  refine Ev.congr (fun k => ?_) hl
  unfold laws_toFaceSS.f
  rw [if_pos (by omega), if_pos (by simp; omega), yny]
theorem toTriangulation_ev (l : List (List SLawFace)) (h : SmallL l) : Ev (fun k => laws_toTriangulation.f k l) (cvT l) := Ev.bind (toFaceSS_ev l h) (Ev.now _)
theorem eqFaceS_ev (l : List SFace) (h : l.length ≤ 1048576) : Ev (fun k => laws_eqFaceS.f k l l) true := by
  have hl : Ev (fun k => laws_eqFaceS.l0 k l l 0) true := by
    refine ev_loop0 (fun k (s : Int) => laws_eqFaceS.l0 k l l s) (fun s => ∃ n : Nat, n ≤ l.length ∧ s = n) (fun s => l.length - s.toNat) (fun _ => true) ?_ 0 ⟨0, by omega, rfl⟩
    rintro i ⟨n, hn, rfl⟩
    by_cases hlt : n < l.length
    · refine .inr ⟨((n + 1 : Nat) : Int), ⟨n + 1, by omega, rfl⟩, by simp; omega, rfl, fun k => ?_⟩
      simp only [laws_eqFaceS.l0, laws_eqFace.f]
      rw [if_pos (by omega), if_pos (by omega), if_pos (by omega), if_pos trivial, if_pos trivial, yfy, if_pos rfl, wrap_succ (by omega)]
    · refine .inl fun k => ?_
      simp only [laws_eqFaceS.l0]
      rw [if_neg (by omega)]
  refine Ev.congr (fun k => ?_) hl
  unfold laws_eqFaceS.f
  rw [if_pos rfl]
theorem eqTriangulation_ev (l : Tri) (h : Small l) : Ev (fun k => laws_eqTriangulation.f k l l) true := by
  have hl : Ev (fun k => laws_eqFaceSS.l0 k l l 0) true := by
    refine ev_loop (fun k (s : Int) => laws_eqFaceSS.l0 k l l s) (fun s => ∃ n : Nat, n ≤ l.length ∧ s = n) (fun s => l.length - s.toNat) (fun _ => true) ?_ 0 ⟨0, by omega, rfl⟩
    rintro i ⟨n, hn, rfl⟩
    by_cases hlt : n < l.length
    · obtain ⟨K, hK⟩ := eqFaceS_ev l[n] (h.2 _ (List.getElem_mem hlt))
      refine .inr ⟨((n + 1 : Nat) : Int), K, ⟨n + 1, by omega, rfl⟩, by simp; omega, rfl, fun k hk => ?_⟩
      have e : laws_eqFaceS.f k l[n] l[n] = some _ := hK k hk
      have h1 := h.1
      simp only [laws_eqFaceSS.l0]
      rw [if_pos (by omega), if_pos (by omega), if_pos (by omega), rd_LFace_lt l n hlt, e, yfy, if_pos rfl, wrap_succ (by omega)]
    · refine .inl ⟨0, fun k _ => ?_⟩
      simp only [laws_eqFaceSS.l0]
      rw [if_neg (by omega)]
  have h2 : Ev (fun k => laws_eqFaceSS.f k l l) true := by
    refine Ev.congr (fun k => ?_) hl
    unfold laws_eqFaceSS.f
    rw [if_pos rfl]
  exact Ev.bind h2 (ev_pos rfl (Ev.now _))
/-- The face f of the tetrahedron a. -/
abbrev fc (t : Tri) (a f : Int) : SFace := rd_Face (rd_LFace t a) f
/-- Is a face as in a valid triangulation? -/
def goodF (t : Tri) (a f : Int) : Bool :=
  if (fc t a f).f0 = -1 then (fc t a f).f1 == 0
  else if 0 ≤ (fc t a f).f0 ∧ (fc t a f).f0 < (t.length : Int) ∧ 0 ≤ (fc t a f).f1 ∧ (fc t a f).f1 ≤ 23 then
    ((fc t (fc t a f).f0 (rd (permL (fc t a f).f1) f)).f0 == a && (fc t (fc t a f).f0 (rd (permL (fc t a f).f1) f)).f1 == invP (fc t a f).f1) && !((fc t a f).f0 == a && rd (permL (fc t a f).f1) f == f)
  else false
/-- d faces of a from f on are good. -/
def goodFs (t : Tri) (a : Int) : Int → Nat → Bool
  | _, 0 => true
  | f, d + 1 => goodF t a f && goodFs t a (f + 1) d
/-- d tetrahedra from a on are good. -/
def goodTs (t : Tri) : Int → Nat → Bool
  | _, 0 => true
  | a, d + 1 => goodFs t a 0 4 && goodTs t (a + 1) d
/-- A valid triangulation. -/
def isTri (t : Tri) : Bool := decide (t.length ≤ 8) && (t.all (fun r => decide (r.length = 4)) && goodTs t 0 t.length)
section
variable {t : Tri}
theorem row4 (h4 : ∀ r ∈ t, r.length = 4) {a : Int} (h0 : 0 ≤ a) (h1 : a < t.length) : (rd_LFace t a).length = 4 := by
  obtain ⟨n, rfl⟩ := Int.eq_ofNat_of_zero_le h0
  rw [rd_LFace_lt t n (by omega)]
  exact h4 _ (List.getElem_mem _)
theorem impl_isGood_ev (h4 : ∀ r ∈ t, r.length = 4) (hn : t.length ≤ 8) {a f : Int} (h0 : 0 ≤ a) (h1 : a < t.length) (hf0 : 0 ≤ f) (hf1 : f ≤ 3) : Ev (fun k => impl_Triangulation_isGood.f k t a f) (goodF t a f) := by
  have hr := row4 h4 h0 h1
  refine Ev.congr (fun k => by unfold impl_Triangulation_isGood.f; rw [if_pos h0, if_pos h1, if_pos hf0, if_pos (by omega)]) ?_
  change Ev (fun k => if (fc t a f).f0 = -1 then some ((fc t a f).f1 == 0) else _) (goodF t a f)
  unfold goodF
  by_cases hb : (fc t a f).f0 = -1
  · rw [if_pos hb]; exact ev_pos hb (Ev.now _)
  · refine ev_neg hb ?_
    rw [if_neg hb]
    have hix : impl_hasIndex_Simpl_Face.f t (fc t a f).f0 = some (decide (0 ≤ (fc t a f).f0) && decide ((fc t a f).f0 ≤ (t.length : Int) - 1)) := by
      unfold impl_hasIndex_Simpl_Face.f impl_size_Simpl_Face.f
      rw [yfy, wrap_id (by omega) (by omega), inRange_eq]; rfl
    have hfalse : Ev (fun k => impl_Triangulation_isGood.j0 k a f true t (fc t a f).f0 (fc t a f).f1) false := ev_step (fun k => by rw [impl_Triangulation_isGood.j0, if_pos rfl]) (Ev.now false)
    refine Ev.bind (ev_const hix) ?_
    by_cases hi : 0 ≤ (fc t a f).f0 ∧ (fc t a f).f0 < (t.length : Int)
    · refine ev_pos (by simp; omega) ?_
      refine Ev.bind (ev_const (isPerm_eq _)) ?_
      by_cases hp : 0 ≤ (fc t a f).f1 ∧ (fc t a f).f1 ≤ 23
      · rw [if_pos ⟨hi.1, hi.2, hp.1, hp.2⟩]
        have e : (!(decide (0 ≤ (fc t a f).f1) && decide ((fc t a f).f1 ≤ 23))) = false := by simp [hp]
        rw [e]
        refine ev_step (fun k => by rw [impl_Triangulation_isGood.j0, if_neg (by simp), target_eq hp.1 hp.2 hf0 hf1, yfy]) ?_
        obtain ⟨hg0, hg1⟩ := permL_sm hp.1 hp.2 hf0 hf1
        have hr2 := row4 h4 hi.1 hi.2
        refine ev_pos hi.1 (ev_pos hi.2 (ev_pos hg0 (ev_pos (by rw [hr2]; omega) ?_)))
        refine Ev.bind (ev_const (partner_eq hp.1 hp.2)) ?_
        change Ev (fun k => if ((fc t (fc t a f).f0 (rd (permL (fc t a f).f1) f)).f0 == a && (fc t (fc t a f).f0 (rd (permL (fc t a f).f1) f)).f1 == invP (fc t a f).f1) = true then _ else _) _
        generalize ((fc t (fc t a f).f0 (rd (permL (fc t a f).f1) f)).f0 == a && (fc t (fc t a f).f0 (rd (permL (fc t a f).f1) f)).f1 == invP (fc t a f).f1) = b
        cases b with
        | false => refine ev_neg (by simp) ?_; rw [Bool.false_and]; exact Ev.now false
        | true =>
          refine ev_pos rfl ?_
          rw [Bool.true_and]
          by_cases ha : (fc t a f).f0 = a
          · refine ev_pos ha (ev_some ?_)
            rw [ha]; simp [bne]
          · refine ev_neg ha (ev_some ?_)
            simp [ha]
      · rw [if_neg (by omega)]
        have e : (!(decide (0 ≤ (fc t a f).f1) && decide ((fc t a f).f1 ≤ 23))) = true := by
          rw [Bool.not_eq_true', Bool.and_eq_false_iff, decide_eq_false_iff_not, decide_eq_false_iff_not]; omega
        rw [e]
        exact hfalse
    · rw [if_neg (by omega)]
      refine ev_neg ?_ hfalse
      rw [Bool.and_eq_true, decide_eq_true_eq, decide_eq_true_eq]; omega
theorem impl_l1_ev (h4 : ∀ r ∈ t, r.length = 4) (hn : t.length ≤ 8) {a : Int} (h0 : 0 ≤ a) (h1 : a < t.length) {R : Bool} (hR : Ev (fun k => impl_isTriangulation.l0 k (t.length : Int) (a + 1) t) R) :
    ∀ (d : Nat) (f : Int), 0 ≤ f → f + d = 4 → Ev (fun k => impl_isTriangulation.l1 k a (t.length : Int) a f t) (goodFs t a f d && R)
  | 0, f, hf, he => by
    refine ev_step (fun k => by rw [impl_isTriangulation.l1, if_neg (by omega), wrap_id (by omega) (by omega)]) ?_
    rw [goodFs, Bool.true_and]; exact hR
  | d + 1, f, hf, he => by
    refine ev_step (fun k => by rw [impl_isTriangulation.l1, if_pos (by omega)]) ?_
    refine Ev.bind (impl_isGood_ev h4 hn h0 h1 hf (by omega)) ?_
    rw [goodFs]
    cases hg : goodF t a f with
    | false => exact ev_neg (by simp) (by rw [Bool.false_and, Bool.false_and]; exact Ev.now false)
    | true =>
      refine ev_pos rfl ?_
      rw [Bool.true_and]
      exact Ev.congr (fun k => by rw [wrap_id (by omega) (by omega)]) (impl_l1_ev h4 hn h0 h1 hR d (f + 1) (by omega) (by omega))
theorem impl_l0_ev (h4 : ∀ r ∈ t, r.length = 4) (hn : t.length ≤ 8) : ∀ (d : Nat) (a : Int), 0 ≤ a → a + d = t.length → Ev (fun k => impl_isTriangulation.l0 k (t.length : Int) a t) (goodTs t a d)
  | 0, a, ha, he => by
    refine ev_step (fun k => by rw [impl_isTriangulation.l0, if_neg (by omega)]) ?_
    exact Ev.now true
  | d + 1, a, ha, he => by
    refine ev_step (fun k => by rw [impl_isTriangulation.l0, if_pos (by omega)]) ?_
    rw [goodTs]
    exact impl_l1_ev h4 hn ha (by omega) (impl_l0_ev h4 hn d (a + 1) (by omega) (by omega)) 4 0 (by omega) (by omega)
theorem all4_iff : t.all (fun r => decide (r.length = 4)) = true ↔ ∀ r ∈ t, r.length = 4 := by simp
theorem contains4 (h : Small t) : slices_ContainsFunc_SSimpl_Face_at_impl_isTriangulation_1.f t = some (!(t.all fun r => decide (r.length = 4))) := by
  unfold slices_ContainsFunc_SSimpl_Face_at_impl_isTriangulation_1.f slices_IndexFunc_SSimpl_Face_at_impl_isTriangulation_1.f
  rw [contO (p := fun r => !(decide (r.length = 4))) t (fun r _ => by
    show impl_isTriangulation_1.f r = _
    unfold impl_isTriangulation_1.f
    congr 1
    by_cases h : r.length = 4
    · simp [h]
    · have : ¬ ((r.length : Int) = 4) := by omega
      simp [h, this]), List.not_all_eq_any_not]
theorem impl_isTri_ev (h : Small t) : Ev (fun k => impl_isTriangulation.f k t) (isTri t) := by
  have hfalse : Ev (fun k => impl_isTriangulation.j0 k true t) false := ev_step (fun k => by rw [impl_isTriangulation.j0, if_pos rfl]) (Ev.now false)
  unfold isTri
  by_cases h8 : t.length ≤ 8
  · refine Ev.congr (fun k => by unfold impl_isTriangulation.f; rw [if_neg (by omega), contains4 h, yfy]) ?_
    rw [ygy h8, Bool.true_and]
    cases hall : t.all (fun r => decide (r.length = 4)) with
    | false => rw [Bool.false_and]; exact hfalse
    | true =>
      rw [Bool.true_and]
      refine ev_step (fun k => by rw [impl_isTriangulation.j0, if_neg (by simp)]) ?_
      exact impl_l0_ev (all4_iff.1 hall) h8 t.length 0 (by omega) (by omega)
  · refine Ev.congr (fun k => by unfold impl_isTriangulation.f; rw [if_pos (by omega)]) ?_
    rw [yhy h8, Bool.false_and]; exact hfalse
theorem spec_l2_ev (h4 : ∀ r ∈ t, r.length = 4) (hn : t.length ≤ 8) {a : Int} (h0 : 0 ≤ a) (h1 : a < t.length) {R : Bool} (hR : Ev (fun k => spec_IsTriangulation.l1 k (a + 1) t) R) :
    ∀ (d : Nat) (f : Int), 0 ≤ f → f + d = 4 → Ev (fun k => spec_IsTriangulation.l2 k a f t) (goodFs t a f d && R)
  | 0, f, hf, he => by
    refine ev_step (fun k => by rw [spec_IsTriangulation.l2, if_neg (by omega), wrap_id (by omega) (by omega)]) ?_
    rw [goodFs, Bool.true_and]; exact hR
  | d + 1, f, hf, he => by
    have hr := row4 h4 h0 h1
    have ih : Ev (fun k => spec_IsTriangulation.l2 k a (wrap64 (f + 1)) t) (goodFs t a (f + 1) d && R) := Ev.congr (fun k => by rw [wrap_id (by omega) (by omega)]) (spec_l2_ev h4 hn h0 h1 hR d (f + 1) (by omega) (by omega))
    refine ev_step (fun k => by rw [spec_IsTriangulation.l2, if_pos (by omega), if_pos h0, if_pos h1, if_pos hf, if_pos (by omega)]) ?_
    change Ev (fun k => if (fc t a f).f0 = -1 then spec_IsTriangulation.j3 k a f ((fc t a f).f1 == 0) t (fc t a f).f0 (fc t a f).f1 else spec_IsTriangulation.j3 k a f false t (fc t a f).f0 (fc t a f).f1) _
    rw [goodFs]
    have hstop : ∀ b, Ev (fun k => spec_IsTriangulation.j4 k a f true t (fc t a f).f0 (fc t a f).f1) (false && b) := fun b => by
      rw [Bool.false_and]; exact ev_step (fun k => by rw [spec_IsTriangulation.j4, if_pos rfl]) (Ev.now false)
    have hgo : Ev (fun k => spec_IsTriangulation.j3 k a f true t (fc t a f).f0 (fc t a f).f1) (goodFs t a (f + 1) d && R) := ev_step (fun k => by rw [spec_IsTriangulation.j3, if_pos rfl]) ih
    have hrest : (¬ ((fc t a f).f0 = -1 ∧ (fc t a f).f1 = 0)) → Ev (fun k => spec_IsTriangulation.j3 k a f false t (fc t a f).f0 (fc t a f).f1) (goodF t a f && goodFs t a (f + 1) d && R) := by
      intro hnb
      refine ev_step (fun k => by rw [spec_IsTriangulation.j3, spec_l07Tets.f, if_neg (by simp), yfy, l07In_eq, yfy, wrap_id (by omega) (by omega)]) ?_
      unfold goodF
      by_cases hi : 0 ≤ (fc t a f).f0 ∧ (fc t a f).f0 < (t.length : Int)
      · refine ev_pos (by simp; omega) ?_
        refine Ev.bind (ev_const (l06Valid_eq _)) ?_
        rw [if_neg (by omega)]
        by_cases hp : 0 ≤ (fc t a f).f1 ∧ (fc t a f).f1 ≤ 23
        · rw [if_pos ⟨hi.1, hi.2, hp.1, hp.2⟩]
          have e : (!(decide (0 ≤ (fc t a f).f1) && decide ((fc t a f).f1 ≤ 23))) = false := by simp [hp]
          rw [e]
          obtain ⟨hg0, hg1⟩ := permL_sm hp.1 hp.2 hf (by omega)
          have hr2 := row4 h4 hi.1 hi.2
          refine ev_step (fun k => by rw [spec_IsTriangulation.j4, if_neg (by simp)]) ?_
          refine Ev.bind (l06At_ev hp.1 hp.2 hf (by omega)) ?_
          refine Ev.bind (l06Back_ev hp.1 hp.2) ?_
          refine ev_pos hi.1 (ev_pos hi.2 (ev_pos hg0 (ev_pos (by rw [hr2]; omega) ?_)))
          change Ev (fun k => if (!((fc t (fc t a f).f0 (rd (permL (fc t a f).f1) f)).f0 == a) || !((fc t (fc t a f).f0 (rd (permL (fc t a f).f1) f)).f1 == invP (fc t a f).f1)) = true then _ else _) _
          generalize ((fc t (fc t a f).f0 (rd (permL (fc t a f).f1) f)).f0 == a) = b1
          generalize ((fc t (fc t a f).f0 (rd (permL (fc t a f).f1) f)).f1 == invP (fc t a f).f1) = b2
          cases b1 with
          | false => exact ev_pos rfl (by rw [Bool.false_and, Bool.false_and, Bool.false_and, Bool.false_and]; exact Ev.now false)
          | true =>
            cases b2 with
            | false => exact ev_pos rfl (by rw [Bool.true_and, Bool.false_and, Bool.false_and, Bool.false_and]; exact Ev.now false)
            | true =>
              refine ev_neg (by simp) ?_
              rw [Bool.true_and, Bool.true_and]
              by_cases ha : (fc t a f).f0 = a
              · refine ev_pos ha ?_
                by_cases hg : rd (permL (fc t a f).f1) f = f
                · refine ev_pos hg ?_
                  rw [ha, hg]
                  simp
                  exact Ev.now false
                · refine ev_neg hg ?_
                  have : (rd (permL (fc t a f).f1) f == f) = false := by simp [hg]
                  rw [this, Bool.and_false, Bool.not_false, Bool.true_and]
                  exact ih
              · refine ev_neg ha ?_
                have : ((fc t a f).f0 == a) = false := by simp [ha]
                rw [this, Bool.false_and, Bool.not_false, Bool.true_and]
                exact ih
        · rw [if_neg (by omega)]
          have e : (!(decide (0 ≤ (fc t a f).f1) && decide ((fc t a f).f1 ≤ 23))) = true := by
            rw [Bool.not_eq_true', Bool.and_eq_false_iff, decide_eq_false_iff_not, decide_eq_false_iff_not]; omega
          rw [e, Bool.false_and]
          exact hstop R
      · have hg : (if (fc t a f).f0 = -1 then ((fc t a f).f1 == 0) else if 0 ≤ (fc t a f).f0 ∧ (fc t a f).f0 < (t.length : Int) ∧ 0 ≤ (fc t a f).f1 ∧ (fc t a f).f1 ≤ 23 then
            ((fc t (fc t a f).f0 (rd (permL (fc t a f).f1) f)).f0 == a && (fc t (fc t a f).f0 (rd (permL (fc t a f).f1) f)).f1 == invP (fc t a f).f1) && !((fc t a f).f0 == a && rd (permL (fc t a f).f1) f == f) else false) = false := by
          by_cases hb : (fc t a f).f0 = -1
          · rw [if_pos hb]; simp; intro h; exact hnb ⟨hb, h⟩
          · rw [if_neg hb, if_neg (by omega)]
        rw [hg, Bool.false_and]
        refine ev_neg ?_ (hstop R)
        rw [Bool.and_eq_true, decide_eq_true_eq, decide_eq_true_eq]; omega
    by_cases hb : (fc t a f).f0 = -1
    · refine ev_pos hb ?_
      by_cases h0' : (fc t a f).f1 = 0
      · have e : goodF t a f = true := by unfold goodF; rw [if_pos hb]; simp [h0']
        rw [e, Bool.true_and]
        have e2 : ((fc t a f).f1 == 0) = true := by simp [h0']
        rw [e2]; exact hgo
      · have e2 : ((fc t a f).f1 == 0) = false := by simp [h0']
        rw [e2]; exact hrest (fun h => h0' h.2)
    · exact ev_neg hb (hrest (fun h => hb h.1))
theorem spec_l1_ev (h4 : ∀ r ∈ t, r.length = 4) (hn : t.length ≤ 8) : ∀ (d : Nat) (a : Int), 0 ≤ a → a + d = t.length → Ev (fun k => spec_IsTriangulation.l1 k a t) (goodTs t a d)
  | 0, a, ha, he => by
    refine ev_step (fun k => by rw [spec_IsTriangulation.l1, spec_l07Tets.f, yfy, if_neg (by omega)]) ?_
    exact Ev.now true
  | d + 1, a, ha, he => by
    refine ev_step (fun k => by rw [spec_IsTriangulation.l1, spec_l07Tets.f, yfy, if_pos (by omega)]) ?_
    rw [goodTs]
    exact spec_l2_ev h4 hn ha (by omega) (spec_l1_ev h4 hn d (a + 1) (by omega) (by omega)) 4 0 (by omega) (by omega)
theorem spec_l0_ev (h8 : t.length ≤ 8) (d : Nat) : ∀ n : Nat, n + d = t.length → (t.all (fun r => decide (r.length = 4)) = (t.drop n).all (fun r => decide (r.length = 4))) → Ev (fun k => spec_IsTriangulation.l0 k (n : Int) t) (t.all (fun r => decide (r.length = 4)) && goodTs t 0 t.length) := by
  induction d with
  | zero =>
    intro n hn ha
    refine ev_step (fun k => by rw [spec_IsTriangulation.l0, if_neg (by omega)]) ?_
    have hall : t.all (fun r => decide (r.length = 4)) = true := by rw [ha, List.drop_eq_nil_of_le (by omega)]; rfl
    rw [hall, Bool.true_and]
    exact spec_l1_ev (all4_iff.1 hall) h8 t.length 0 (by omega) (by omega)
  | succ d ih =>
    intro n hn ha
    have hlt : n < t.length := by omega
    refine ev_step (fun k => by rw [spec_IsTriangulation.l0, if_pos (by omega), if_pos (by omega), rd_LFace_lt t n hlt]) ?_
    rw [List.drop_eq_getElem_cons hlt, List.all_cons] at ha
    by_cases h : t[n].length = 4
    · refine ev_pos (by omega) ?_
      refine Ev.congr (fun k => by rw [wrap_succ (by omega)]) (ih (n + 1) (by omega) ?_)
      rw [ha, ygy h, Bool.true_and]
    · refine ev_neg (by omega) ?_
      rw [ha, yhy h, Bool.false_and, Bool.false_and]
      exact Ev.now false
theorem spec_isTri_ev (t : Tri) : Ev (fun k => spec_IsTriangulation.f k t) (isTri t) := by
  refine Ev.congr (fun k => by unfold spec_IsTriangulation.f spec_l07Tets.f; rw [yfy]) ?_
  unfold isTri
  by_cases h8 : t.length ≤ 8
  · refine ev_neg (by omega) ?_
    rw [ygy h8, Bool.true_and]
    exact spec_l0_ev h8 t.length 0 (by omega) (by rw [List.drop_zero])
  · refine ev_pos (by omega) ?_
    rw [yhy h8, Bool.false_and]
    exact Ev.now false
end
theorem isTri_good {t : Tri} (h : isTri t = true) : t.length ≤ 8 ∧ (∀ r ∈ t, r.length = 4) ∧ goodTs t 0 t.length = true := by
  unfold isTri at h
  rw [Bool.and_eq_true, Bool.and_eq_true, decide_eq_true_eq] at h
  exact ⟨h.1, all4_iff.1 h.2.1, h.2.2⟩
theorem goodFs_at (t : Tri) (a : Int) (d : Nat) : ∀ f, goodFs t a f d = true → ∀ g, f ≤ g → g < f + d → goodF t a g = true := by
  induction d with
  | zero => intro f _ g h1 h2; omega
  | succ d ih =>
    intro f h g h1 h2
    rw [goodFs, Bool.and_eq_true] at h
    by_cases e : g = f
    · rw [e]; exact h.1
    · exact ih (f + 1) h.2 g (by omega) (by omega)
theorem goodTs_at (t : Tri) (d : Nat) : ∀ a, goodTs t a d = true → ∀ b, a ≤ b → b < a + d → ∀ g, 0 ≤ g → g ≤ 3 → goodF t b g = true := by
  induction d with
  | zero => intro a _ b h1 h2; omega
  | succ d ih =>
    intro a h b h1 h2 g hg0 hg1
    rw [goodTs, Bool.and_eq_true] at h
    by_cases e : b = a
    · rw [e]; exact goodFs_at t a 4 0 h.1 g hg0 (by omega)
    · exact ih (a + 1) h.2 b (by omega) (by omega) g hg0 hg1
/-- A face of a valid triangulation: the boundary, or glued to a face that is glued back. -/
theorem face_good {t : Tri} (h : isTri t = true) {a f : Int} (h0 : 0 ≤ a) (h1 : a < t.length) (hf0 : 0 ≤ f) (hf1 : f ≤ 3) :
    ((fc t a f).f0 = -1 ∧ (fc t a f).f1 = 0) ∨
    ((0 ≤ (fc t a f).f0 ∧ (fc t a f).f0 < (t.length : Int) ∧ 0 ≤ (fc t a f).f1 ∧ (fc t a f).f1 ≤ 23) ∧
      (fc t (fc t a f).f0 (rd (permL (fc t a f).f1) f)).f0 = a ∧ (fc t (fc t a f).f0 (rd (permL (fc t a f).f1) f)).f1 = invP (fc t a f).f1 ∧ ¬ ((fc t a f).f0 = a ∧ rd (permL (fc t a f).f1) f = f)) := by
  have hg := goodTs_at t t.length 0 (isTri_good h).2.2 a h0 (by omega) f hf0 hf1
  unfold goodF at hg
  by_cases hb : (fc t a f).f0 = -1
  · rw [if_pos hb] at hg
    exact .inl ⟨hb, by simpa using hg⟩
  · rw [if_neg hb] at hg
    by_cases hi : 0 ≤ (fc t a f).f0 ∧ (fc t a f).f0 < (t.length : Int) ∧ 0 ≤ (fc t a f).f1 ∧ (fc t a f).f1 ≤ 23
    · rw [if_pos hi, Bool.and_eq_true, Bool.and_eq_true, Bool.not_eq_true'] at hg
      refine .inr ⟨hi, eq_of_beq hg.1.1, eq_of_beq hg.1.2, fun hc => ?_⟩
      have := hg.2
      rw [Bool.and_eq_false_iff] at this
      rcases this with h2 | h2
      · exact absurd hc.1 (by simpa using h2)
      · exact absurd hc.2 (by simpa using h2)
    · rw [if_neg hi] at hg; cases hg
theorem rowlen {t : Tri} (h : isTri t = true) {a : Int} (h0 : 0 ≤ a) (h1 : a < t.length) : (rd_LFace t a).length = 4 := row4 (isTri_good h).2.1 h0 h1
theorem rdset {l : List Int} {a b v : Int} (ha0 : 0 ≤ a) (ha1 : a < l.length) (hb : 0 ≤ b) : rd (l.set a.toNat v) b = if b = a then v else rd l b := by
 unfold rd
 by_cases e : b = a
 rotate_left
 next =>
  rw [if_neg e]
  have : a.toNat ≠ b.toNat := by omega
  simp [List.getD_eq_getElem?_getD, List.getElem?_set_ne this]
 subst e
 rw [if_pos rfl]
 have : b.toNat < l.length := by omega
 simp [List.getD_eq_getElem?_getD, this]
theorem rdapp (l : List Int) (k : Int) (i : Int) (h0 : 0 ≤ i) (h1 : i < l.length) : rd (l ++ [k]) i = rd l i := by
 unfold rd
 simp only [List.getD_eq_getElem?_getD]
 rw [List.getElem?_append_left (by omega)]
theorem rdlast (l : List Int) (k : Int) : rd (l ++ [k]) (l.length : Int) = k := by
 rw [rd_lt _ _ (by simp)]; simp
theorem rdmem {l : List Int} {i : Int} (h0 : 0 ≤ i) (h1 : i < l.length) : rd l i ∈ l := by
 obtain ⟨n, rfl⟩ := Int.eq_ofNat_of_zero_le h0
 rw [rd_lt l n (by omega)]
 exact List.getElem_mem _
/-- How many elements are below 0. -/
def uc : List Int → Nat
 | [] => 0
 | x :: xs => (if x < 0 then 1 else 0) + uc xs
theorem uc_le (l : List Int) : uc l ≤ l.length := by
 induction l with
 | nil => simp [uc]
 | cons x xs ih => simp only [uc, List.length_cons]; split <;> omega
theorem uc_set : ∀ (l : List Int) (n : Nat) (v : Int), n < l.length → l.getD n 0 < 0 → 0 ≤ v → uc (l.set n v) + 1 = uc l
 | [], n, v, h, _, _ => by simp at h
 | x :: xs, 0, v, _, hz, hv => by
  have hx : x < 0 := by simpa using hz
  have h2 : ¬ v < 0 := by omega
  simp [uc, hx, h2]; omega
 | x :: xs, n + 1, v, h, hz, hv => by
  have := uc_set xs n v (by simpa using h) (by simpa using hz) hv
  simp only [ycy, uc]; omega
section
variable {t : Tri}
/-- Labels, and the first element of each. -/
structure BI (t : Tri) (U : Int → Int) (out R : List Int) : Prop where
 len : out.length = t.length
 val : ∀ x : Int, 0 ≤ x → x < t.length → rd out x = -1 ∨ (0 ≤ rd out x ∧ rd out x < R.length)
 rng : ∀ v : Int, 0 ≤ v → v < R.length → 0 ≤ rd R v ∧ rd R v < t.length ∧ rd out (rd R v) = v
 same : ∀ x : Int, 0 ≤ x → x < t.length → 0 ≤ rd out x → U x = U (rd R (rd out x))
 first : ∀ x : Int, 0 ≤ x → x < t.length → 0 ≤ rd out x → rd R (rd out x) ≤ x
 incr : ∀ v w : Int, 0 ≤ v → v < w → w < R.length → rd R v < rd R w
theorem BI.put {U : Int → Int} {out R : List Int} (h : BI t U out R) {b v : Int} (hb0 : 0 ≤ b) (hb1 : b < t.length) (hb : rd out b < 0) (hv0 : 0 ≤ v) (hv1 : v < R.length) (hU : U b = U (rd R v)) (hr : rd R v ≤ b) : BI t U (out.set b.toNat v) R := by
 have hl := h.len
 have g : ∀ x : Int, 0 ≤ x → rd (out.set b.toNat v) x = if x = b then v else rd out x := fun x h0 => rdset hb0 (by omega) h0
 refine ⟨by rw [List.length_set]; exact hl, fun x h0 h1 => ?_, fun w h0 h1 => ?_, fun x h0 h1 hx => ?_, fun x h0 h1 hx => ?_, h.incr⟩
 next =>
  rw [g x h0]; split
  next =>
   exact .inr ⟨hv0, hv1⟩
  next =>
   exact h.val x h0 h1
 next =>
  obtain ⟨a0, a1, a2⟩ := h.rng w h0 h1
  refine ⟨a0, a1, ?_⟩
  rw [g _ a0, if_neg (fun e => by rw [e] at a2; omega)]; exact a2
 next =>
  rw [g x h0] at hx ⊢
  split
  next =>
   rename_i e; rw [e]; exact hU
  next =>
   rename_i e; rw [if_neg e] at hx; exact h.same x h0 h1 hx
 next =>
  rw [g x h0] at hx ⊢
  split
  next =>
   rename_i e; rw [e]; exact hr
  next =>
   rename_i e; rw [if_neg e] at hx; exact h.first x h0 h1 hx
theorem BI.root {U : Int → Int} {out R : List Int} (h : BI t U out R) {a : Int} (ha0 : 0 ≤ a) (ha1 : a < t.length) (ha : rd out a < 0) (hlt : ∀ v : Int, 0 ≤ v → v < R.length → rd R v < a) : BI t U (out.set a.toNat R.length) (R ++ [a]) := by
 have hl := h.len
 have g : ∀ x : Int, 0 ≤ x → rd (out.set a.toNat (R.length : Int)) x = if x = a then (R.length : Int) else rd out x := fun x h0 => rdset ha0 (by omega) h0
 have hR : (R ++ [a]).length = R.length + 1 := by simp
 have gR : ∀ v : Int, 0 ≤ v → v < R.length → rd (R ++ [a]) v = rd R v := fun v h0 h1 => rdapp R a v h0 h1
 refine ⟨by rw [List.length_set]; exact hl, fun x h0 h1 => ?_, fun w h0 h1 => ?_, fun x h0 h1 hx => ?_, fun x h0 h1 hx => ?_, fun v w h0 h1 h2 => ?_⟩
 next =>
  rw [g x h0]; split
  next =>
   exact .inr ⟨by omega, by omega⟩
  next =>
   rcases h.val x h0 h1 with e | ⟨e1, e2⟩
   next =>
    exact .inl e
   next =>
    exact .inr ⟨e1, by omega⟩
 next =>
  by_cases hw : w < R.length
  rotate_left
  next =>
   obtain rfl : w = (R.length : Int) := by omega
   rw [rdlast]
   exact ⟨ha0, ha1, by rw [g a ha0, if_pos rfl]⟩
  obtain ⟨a0, a1, a2⟩ := h.rng w h0 hw
  rw [gR w h0 hw]
  refine ⟨a0, a1, ?_⟩
  rw [g _ a0, if_neg (fun e => by rw [e] at a2; omega)]; exact a2
 next =>
  rw [g x h0] at hx ⊢
  split
  next =>
   rename_i e; rw [e, rdlast]
  next =>
   rename_i e
   rw [if_neg e] at hx
   have := (h.val x h0 h1).resolve_left (by omega)
   rw [gR _ this.1 this.2]; exact h.same x h0 h1 hx
 next =>
  rw [g x h0] at hx ⊢
  split
  next =>
   rename_i e; rw [e, rdlast]; omega
  next =>
   rename_i e
   rw [if_neg e] at hx
   have := (h.val x h0 h1).resolve_left (by omega)
   rw [gR _ this.1 this.2]; exact h.first x h0 h1 hx
 next =>
  by_cases hw : w < R.length
  next =>
   rw [gR v h0 (by omega), gR w (by omega) hw]; exact h.incr v w h0 h1 hw
  next =>
   obtain rfl : w = (R.length : Int) := by omega
   rw [gR v h0 h1, rdlast]; exact hlt v h0 h1
/-- Whoever has a label and is not waiting has neighbours of the same label. -/
def CL (t : Tri) (out : List Int) (P : Int → Prop) : Prop := ∀ x : Int, 0 ≤ x → x < t.length → 0 ≤ rd out x → ¬ P x → ∀ g : Int, 0 ≤ g → g ≤ 3 → 0 ≤ (fc t x g).f0 → rd out (fc t x g).f0 = rd out x
def Merged (t : Tri) (U : Int → Int) : Prop := ∀ x g : Int, 0 ≤ x → x < t.length → 0 ≤ g → g ≤ 3 → 0 ≤ (fc t x g).f0 → U x = U (fc t x g).f0
theorem nb_ok (h : isTri t = true) {a f : Int} (h0 : 0 ≤ a) (h1 : a < t.length) (hf0 : 0 ≤ f) (hf1 : f ≤ 3) (hb : 0 ≤ (fc t a f).f0) : (fc t a f).f0 < t.length ∧ ∃ g : Int, 0 ≤ g ∧ g ≤ 3 ∧ (fc t (fc t a f).f0 g).f0 = a := by
 rcases face_good h h0 h1 hf0 hf1 with ⟨e, _⟩ | ⟨e, e2, _⟩
 next =>
  omega
 next =>
  have hd := permL_sm e.2.2.1 e.2.2.2 hf0 hf1
  exact ⟨e.2.1, _, hd.1, hd.2, e2⟩
theorem drop_mem (qu e : List Int) (i : Int) (h0 : 0 ≤ i) (h1 : i < qu.length) (x : Int) : x ∈ (qu ++ e).drop i.toNat ↔ x ∈ qu.drop i.toNat ∨ x ∈ e := by
 rw [List.drop_append_of_le_length (by omega), List.mem_append]
/-- The invariant of the search from a root a: N is its label. -/
structure SI (t : Tri) (U : Int → Int) (out R qu : List Int) (N a i : Int) : Prop where
 bi : BI t U out R
 lab : N + 1 = R.length
 lab0 : 0 ≤ N
 root : rd R N = a
 queue : ∀ y ∈ qu, 0 ≤ y ∧ y < t.length ∧ rd out y = N
 low : ∀ x : Int, 0 ≤ x → x < a → 0 ≤ rd out x
 cl : CL t out (fun x => x ∈ qu.drop i.toNat)
 small : uc out + qu.length ≤ 100
theorem SI.visit (h : isTri t = true) {U : Int → Int} (hU : Merged t U) {out R qu : List Int} {N a i f : Int} (hS : SI t U out R qu N a i) (hi0 : 0 ≤ i) (hi1 : i < qu.length) (hf0 : 0 ≤ f) (hf1 : f ≤ 3) (hb : 0 ≤ (fc t (rd qu i) f).f0) (hz : rd out (fc t (rd qu i) f).f0 < 0) :
 SI t U (out.set (fc t (rd qu i) f).f0.toNat N) R (qu ++ [(fc t (rd qu i) f).f0]) N a i ∧ uc (out.set (fc t (rd qu i) f).f0.toNat N) + 1 = uc out ∧ (∀ x : Int, 0 ≤ x → 0 ≤ rd out x → rd (out.set (fc t (rd qu i) f).f0.toNat N) x = rd out x) ∧ rd (out.set (fc t (rd qu i) f).f0.toNat N) (fc t (rd qu i) f).f0 = N := by
 obtain ⟨q0, q1, q2⟩ := hS.queue _ (rdmem hi0 hi1)
 obtain ⟨b1, g, g0, g1, gb⟩ := nb_ok h q0 q1 hf0 hf1 hb
 have hl := hS.bi.len
 have hlab := hS.lab
 have hlab0 := hS.lab0
 have hm := hU _ f q0 q1 hf0 hf1 hb
 generalize (fc t (rd qu i) f).f0 = b at *
 have gs : ∀ x : Int, 0 ≤ x → rd (out.set b.toNat N) x = if x = b then N else rd out x := fun x h0 => rdset hb (by omega) h0
 have hsame := hS.bi.same _ q0 q1 (by omega)
 rw [q2] at hsame
 have hab : a ≤ b := Classical.byContradiction fun hc => by have := hS.low b hb (by omega); omega
 have hkeep : ∀ x : Int, 0 ≤ x → 0 ≤ rd out x → rd (out.set b.toNat N) x = rd out x := fun x h0 hx => by
  rw [gs x h0, if_neg (fun e => by rw [e] at hx; omega)]
 have hself : rd (out.set b.toNat N) b = N := by rw [gs b hb, if_pos rfl]
 have huc := uc_set out b.toNat N (by omega) hz hlab0
 refine ⟨⟨hS.bi.put hb b1 hz hlab0 (by omega) (hm.symm.trans hsame) (by rw [hS.root]; exact hab), hlab, hlab0, hS.root, fun y hy => ?_, fun x h0 h1 => ?_, fun x h0 h1 hx hP g' g0' g1' hg => ?_, ?_⟩, huc, hkeep, hself⟩
 next =>
  rcases List.mem_append.1 hy with hy | hy
  next =>
   obtain ⟨a0, a1, a2⟩ := hS.queue y hy
   exact ⟨a0, a1, by rw [hkeep y a0 (by omega)]; exact a2⟩
  next =>
   rw [List.mem_singleton.1 hy]; exact ⟨hb, b1, hself⟩
 next =>
  have := hS.low x h0 h1
  rw [hkeep x h0 this]; exact this
 next =>
  have hP' := fun hh => hP ((drop_mem qu [b] i hi0 hi1 x).2 hh)
  have hxb : x ≠ b := fun e => hP' (.inr (by rw [e]; exact List.mem_singleton_self _))
  rw [gs x h0, if_neg hxb] at hx ⊢
  have := hS.cl x h0 h1 hx (fun hh => hP' (.inl hh)) g' g0' g1' hg
  rw [hkeep _ hg (by omega)]; exact this
 next =>
  have := hS.small
  rw [List.length_append, List.length_singleton]; omega
theorem l3_eq (k : Nat) (out : List Int) (N a : Int) (qu : List Int) (i f b : Int) (h4 : f < 4) (h0 : 0 ≤ i) (h1 : i < (qu.length : Int)) (q0 : 0 ≤ rd qu i) (q1 : rd qu i < (t.length : Int)) (f0 : 0 ≤ f) (fl : f < ((rd_LFace t (rd qu i)).length : Int)) (e : (fc t (rd qu i) f).f0 = b) :
 spec_l07Parts.l3 (k + 1) out N a qu i f t = (if b ≥ 0 then (if 0 ≤ b then (if b < (out.length : Int) then (if (rd out b) < 0 then (if qu.length < 17592186044416 then (spec_l07Parts.l3 k (out.set ((b : Int)).toNat N) N a (qu ++ [b]) i (wrap64 (f + 1)) t) else (none)) else (spec_l07Parts.l3 k out N a qu i (wrap64 (f + 1)) t)) else (none)) else (none)) else (spec_l07Parts.l3 k out N a qu i (wrap64 (f + 1)) t)) := by
 subst e
 rw [spec_l07Parts.l3, if_pos h4, if_pos h0, if_pos h1, if_pos q0, if_pos q1, if_pos f0, if_pos fl]
theorem l3_new {out qu : List Int} {N a i f b : Int} (h4 : f < 4) (h0 : 0 ≤ i) (h1 : i < (qu.length : Int)) (q0 : 0 ≤ rd qu i) (q1 : rd qu i < (t.length : Int)) (f0 : 0 ≤ f) (fl : f < ((rd_LFace t (rd qu i)).length : Int)) (e : (fc t (rd qu i) f).f0 = b) (hb : 0 ≤ b) (hb1 : b < (out.length : Int)) (hz : rd out b < 0) (hs : qu.length < 17592186044416) {r : List Int}
 (hR : Ev (fun k => spec_l07Parts.l3 k (out.set b.toNat N) N a (qu ++ [b]) i (wrap64 (f + 1)) t) r) : Ev (fun k => spec_l07Parts.l3 k out N a qu i f t) r :=
 ev_step (fun k => by rw [l3_eq k out N a qu i f b h4 h0 h1 q0 q1 f0 fl e, if_pos hb, if_pos hb, if_pos hb1, if_pos hz, if_pos hs]) hR
theorem l3_old {out qu : List Int} {N a i f b : Int} (h4 : f < 4) (h0 : 0 ≤ i) (h1 : i < (qu.length : Int)) (q0 : 0 ≤ rd qu i) (q1 : rd qu i < (t.length : Int)) (f0 : 0 ≤ f) (fl : f < ((rd_LFace t (rd qu i)).length : Int)) (e : (fc t (rd qu i) f).f0 = b) (hb : 0 ≤ b) (hb1 : b < (out.length : Int)) (hz : ¬ rd out b < 0) {r : List Int}
 (hR : Ev (fun k => spec_l07Parts.l3 k out N a qu i (wrap64 (f + 1)) t) r) : Ev (fun k => spec_l07Parts.l3 k out N a qu i f t) r :=
 ev_step (fun k => by rw [l3_eq k out N a qu i f b h4 h0 h1 q0 q1 f0 fl e, if_pos hb, if_pos hb, if_pos hb1, if_neg hz]) hR
theorem l3_none {out qu : List Int} {N a i f b : Int} (h4 : f < 4) (h0 : 0 ≤ i) (h1 : i < (qu.length : Int)) (q0 : 0 ≤ rd qu i) (q1 : rd qu i < (t.length : Int)) (f0 : 0 ≤ f) (fl : f < ((rd_LFace t (rd qu i)).length : Int)) (e : (fc t (rd qu i) f).f0 = b) (hb : ¬ b ≥ 0) {r : List Int}
 (hR : Ev (fun k => spec_l07Parts.l3 k out N a qu i (wrap64 (f + 1)) t) r) : Ev (fun k => spec_l07Parts.l3 k out N a qu i f t) r :=
 ev_step (fun k => by rw [l3_eq k out N a qu i f b h4 h0 h1 q0 q1 f0 fl e, if_neg hb]) hR
/-- The faces of one tetrahedron. -/
theorem row_b (h : isTri t = true) {U : Int → Int} (hU : Merged t U) {R : List Int} {N a i : Int} (hi0 : 0 ≤ i) : ∀ (d f : Nat) (out qu : List Int), f + d = 4 → SI t U out R qu N a i → i < qu.length →
 (∀ g : Int, 0 ≤ g → g < f → 0 ≤ (fc t (rd qu i) g).f0 → rd out (fc t (rd qu i) g).f0 = N) →
 ∃ out' qu' : List Int, SI t U out' R qu' N a i ∧ i < qu'.length ∧ uc out' + qu'.length = uc out + qu.length ∧ (∀ g : Int, 0 ≤ g → g ≤ 3 → 0 ≤ (fc t (rd qu' i) g).f0 → rd out' (fc t (rd qu' i) g).f0 = N) ∧
  ∀ r : List Int, Ev (fun k => spec_l07Parts.l2 k out' N a qu' (i + 1) t) r → Ev (fun k => spec_l07Parts.l3 k out N a qu i (f : Int) t) r
 | 0, f, out, qu, hf, hS, hi1, hg => by
  obtain rfl : f = 4 := by omega
  have hs := hS.small
  refine ⟨out, qu, hS, hi1, rfl, fun g g0 g1 hh => hg g g0 (by omega) hh, fun r hr => ?_⟩
  refine ev_step (fun k => by rw [spec_l07Parts.l3, if_neg (by omega), wrap_id (show -9223372036854775808 ≤ i + 1 by omega) (by omega)]) ?_
  exact hr
 | d + 1, f, out, qu, hf, hS, hi1, hg => by
  have f4 : (f : Int) < 4 := by omega
  have f0 : (0 : Int) ≤ (f : Int) := by omega
  have f3 : (f : Int) ≤ 3 := by omega
  have hw : wrap64 ((f : Int) + 1) = ((f + 1 : Nat) : Int) := wrap_succ (by omega)
  have hd : (f + 1) + d = 4 := by omega
  have hqs : qu.length < 17592186044416 := by have hs := hS.small; omega
  have q0 := (hS.queue _ (rdmem hi0 hi1)).1
  have q1 := (hS.queue _ (rdmem hi0 hi1)).2.1
  have Q2 := Aside0.mk (hS.queue _ (rdmem hi0 hi1)).2.2
  have FL := Aside0.mk (show (f : Int) < ((rd_LFace t (rd qu i)).length : Int) by rw [rowlen h q0 q1]; exact f4)
  have hl := hS.bi.len
  have hlab0 := hS.lab0
  have hgl : ∀ g : Int, g < ((f + 1 : Nat) : Int) → ¬ g = (f : Int) → g < (f : Int) := fun g h1 h2 => by clear q0 q1 hl hlab0 hqs; omega
  obtain ⟨b, HBD⟩ : ∃ b : Int, Aside0 ((fc t (rd qu i) (f : Int)).f0 = b) := ⟨_, ⟨rfl⟩⟩
  by_cases hb : 0 ≤ b
  rotate_left
  next =>
   obtain ⟨out', qu', k1, k2, k3, k4, k5⟩ := row_b h hU hi0 d (f + 1) out qu hd hS hi1 (fun g g0 g1 hh => by
    by_cases e : g = (f : Int)
    next =>
     rw [e, HBD.out] at hh; exact absurd hh hb
    next =>
     exact hg g g0 (hgl g g1 e) hh)
   exact ⟨out', qu', k1, k2, k3, k4, fun r hR => l3_none f4 hi0 hi1 q0 q1 f0 FL.out HBD.out hb (by rw [hw]; exact k5 r hR)⟩
  obtain ⟨b1, g', g0', g1', gb'⟩ := nb_ok h q0 q1 f0 f3 (by rw [HBD.out]; exact hb)
  rw [HBD.out] at b1 gb'
  have GB := Aside0.mk gb'
  clear gb'
  by_cases hz : rd out b < 0
  rotate_left
  next =>
   have hz0 : 0 ≤ rd out b := Int.not_lt.1 hz
   have HZ := Aside0.mk hz
   have HZ0 := Aside0.mk hz0
   clear hz hz0
   obtain ⟨out', qu', k1, k2, k3, k4, k5⟩ := row_b h hU hi0 d (f + 1) out qu hd hS hi1 (fun g g0 g1 hh => by
    by_cases e : g = (f : Int)
    next =>
     rw [e, HBD.out]
     refine Classical.byContradiction fun hne => ?_
     have hnq : ¬ b ∈ qu.drop i.toNat := fun hm => hne (hS.queue _ (List.mem_of_mem_drop hm)).2.2
     have := hS.cl _ hb b1 HZ0.out hnq g' g0' g1' (by rw [GB.out]; exact q0)
     rw [GB.out, Q2.out] at this
     exact hne this.symm
    next =>
     exact hg g g0 (hgl g g1 e) hh)
   exact ⟨out', qu', k1, k2, k3, k4, fun r hR => l3_old f4 hi0 hi1 q0 q1 f0 FL.out HBD.out hb (by rw [hl]; exact b1) HZ.out (by rw [hw]; exact k5 r hR)⟩
  obtain ⟨s1, s2, s3, s4⟩ := hS.visit h hU hi0 hi1 f0 f3 (by rw [HBD.out]; exact hb) (by rw [HBD.out]; exact hz)
  rw [HBD.out] at s1 s2 s3 s4
  have S4 := Aside0.mk s4
  have HZ := Aside0.mk hz
  clear s4 hz
  have hq1 : i < ((qu ++ [b]).length : Int) := by rw [List.length_append, List.length_singleton]; clear s1 s2 s3 q0 q1 hl hlab0 hw; omega
  have E9 := Aside0.mk (show rd (qu ++ [b]) i = rd qu i from rdapp qu _ i hi0 hi1)
  obtain ⟨out', qu', k1, k2, k3, k4, k5⟩ := row_b h hU hi0 d (f + 1) _ _ hd s1 hq1 (fun g g0 g1 hh => by
   rw [E9.out] at hh ⊢
   by_cases e : g = (f : Int)
   next =>
    rw [e, HBD.out]; exact S4.out
   next =>
    have := hg g g0 (hgl g g1 e) hh
    rw [s3 _ hh (by rw [this]; exact hlab0)]; exact this)
  refine ⟨out', qu', k1, k2, by rw [k3, List.length_append, List.length_singleton]; clear k1 k2 k3 k4 k5 q0 q1 hl hlab0 hq1; omega, k4, fun r hR => ?_⟩
  exact l3_new f4 hi0 hi1 q0 q1 f0 FL.out HBD.out hb (by rw [hl]; exact b1) HZ.out hqs (by rw [hw]; exact k5 r hR)
/-- The queue. -/
theorem queue_b (h : isTri t = true) {U : Int → Int} (hU : Merged t U) {R : List Int} {N a : Int} : ∀ (m : Nat) (out qu : List Int) (i : Int), 0 ≤ i → SI t U out R qu N a i → (uc out + qu.length : Int) - i < m →
 ∃ out' : List Int, BI t U out' R ∧ (∀ x : Int, 0 ≤ x → x < a → 0 ≤ rd out' x) ∧ CL t out' (fun _ => False) ∧ ∀ r : List Int, Ev (fun k => spec_l07Parts.l1 k out' (N + 1) (a + 1) t) r → Ev (fun k => spec_l07Parts.l2 k out N a qu i t) r
 | m, out, qu, i, hi0, hS, hm => by
  have hs := hS.small
  have h8 := (isTri_good h).1
  have hlab := hS.lab
  have hlab0 := hS.lab0
  by_cases hi1 : i < (qu.length : Int)
  next =>
   cases m with
   | zero => omega
   | succ m =>
    obtain ⟨out1, qu1, k1, k2, k3, k4, k5⟩ := row_b h hU hi0 4 0 out qu (by omega) hS hi1 (fun g g0 g1 => by omega)
    obtain ⟨q0, q1, q2⟩ := k1.queue _ (rdmem hi0 k2)
    obtain ⟨out', j1, j2, j3, j4⟩ := queue_b h hU m out1 qu1 (i + 1) (by omega) ⟨k1.bi, k1.lab, k1.lab0, k1.root, k1.queue, k1.low, fun x h0 h1 hx hP g g0 g1 hg => by
     by_cases e : x = rd qu1 i
     next =>
      subst e
      rw [q2]; exact k4 g g0 g1 hg
     next =>
      refine k1.cl x h0 h1 hx (fun hd => hP ?_) g g0 g1 hg
      have hdrop : qu1.drop i.toNat = rd qu1 i :: qu1.drop (i + 1).toNat := by
       obtain ⟨n, rfl⟩ := Int.eq_ofNat_of_zero_le hi0
       rw [yny, List.drop_eq_getElem_cons (by omega), rd_lt qu1 n (by omega)]
       rfl
      rw [hdrop] at hd
      exact (List.mem_cons.1 hd).resolve_left e, k1.small⟩ (by omega)
    exact ⟨out', j1, j2, j3, fun r hr => ev_step (f := fun k => spec_l07Parts.l3 k out N a qu i ((0 : Nat) : Int) t) (fun k => by rw [spec_l07Parts.l2, if_pos hi1]; rfl) (k5 r (j4 r hr))⟩
  next =>
   have hR : R.length ≤ 1000 := by
    refine Classical.byContradiction fun hc => ?_
    have hb := hS.bi
    have : ∀ v : Nat, v < R.length → (v : Int) ≤ rd R (v : Int) := by
     intro v
     induction v with
     | zero => intro hv; exact (hb.rng 0 (by omega) (by omega)).1
     | succ v ih =>
      intro hv
      have h1 := ih (by omega)
      have h2 := hb.incr (v : Int) ((v + 1 : Nat) : Int) (by omega) (by omega) (by omega)
      omega
    have h1 := this 100 (by omega)
    have h2 := (hb.rng ((100 : Nat) : Int) (by omega) (by omega)).2.1
    omega
   have hra := (hS.bi.rng N hlab0 (by omega)).2.1
   have hra0 := (hS.bi.rng N hlab0 (by omega)).1
   rw [hS.root] at hra hra0
   refine ⟨out, hS.bi, hS.low, fun x h0 h1 hx _ g g0 g1 hg => hS.cl x h0 h1 hx (fun hd => ?_) g g0 g1 hg, fun r hr => ?_⟩
   next =>
    rw [List.drop_eq_nil_of_le (by omega)] at hd
    cases hd
   next =>
    exact ev_step (fun k => by rw [spec_l07Parts.l2, if_neg hi1, wrap_id (show -9223372036854775808 ≤ N + 1 by omega) (by omega), wrap_id (show -9223372036854775808 ≤ a + 1 by omega) (by omega)]) hr
theorem all_b (h : isTri t = true) {U : Int → Int} (hU : Merged t U) : ∀ (d : Nat) (a : Int) (out R : List Int), 0 ≤ a → a + d = t.length → BI t U out R → (∀ x : Int, 0 ≤ x → x < a → 0 ≤ rd out x) → CL t out (fun _ => False) → (∀ v : Int, 0 ≤ v → v < R.length → rd R v < a) →
 ∃ out' R' : List Int, Ev (fun k => spec_l07Parts.l1 k out (R.length : Int) a t) out' ∧ BI t U out' R' ∧ (∀ x : Int, 0 ≤ x → x < t.length → 0 ≤ rd out' x) ∧ CL t out' (fun _ => False)
 | 0, a, out, R, ha, hd, hB, hlow, hC, hR => ⟨out, R, ev_step (f := fun _ => some out) (fun k => by rw [spec_l07Parts.l1, spec_l07Tets.f, yfy, if_neg (by omega)]) (Ev.now _), hB, fun x h0 h1 => hlow x h0 (by omega), hC⟩
 | d + 1, a, out, R, ha, hd, hB, hlow, hC, hR => by
  have h8 := (isTri_good h).1
  have hl := hB.len
  by_cases hz : rd out a ≥ 0
  next =>
   obtain ⟨out', R', e1, e2, e3, e4⟩ := all_b h hU d (a + 1) out R (by omega) (by omega) hB (fun x h0 h1 => by
    by_cases e : x = a
    next =>
     rw [e]; exact hz
    next =>
     exact hlow x h0 (by omega)) hC (fun v h0 h1 => by have := hR v h0 h1; omega)
   exact ⟨out', R', ev_step (fun k => by rw [spec_l07Parts.l1, spec_l07Tets.f, yfy, if_pos (by omega), if_pos ha, if_pos (by omega), if_pos hz, wrap_id (show -9223372036854775808 ≤ a + 1 by omega) (by omega)]) e1, e2, e3, e4⟩
  next =>
   have hB1 := hB.root ha (by omega) (by omega) hR
   have gs : ∀ x : Int, 0 ≤ x → rd (out.set a.toNat (R.length : Int)) x = if x = a then (R.length : Int) else rd out x := fun x h0 => rdset ha (by omega) h0
   have huc := uc_set out a.toNat (R.length : Int) (by omega) (by
    have : rd out a < 0 := by omega
    exact this) (by omega)
   have hul := uc_le out
   have hS : SI t U (out.set a.toNat (R.length : Int)) (R ++ [a]) [a] (R.length : Int) a 0 := by
    refine ⟨hB1, by simp, by omega, rdlast R a, fun y hy => ?_, fun x h0 h1 => ?_, fun x h0 h1 hx hP g g0 g1 hg => ?_, by simp; omega⟩
    next =>
     rw [List.mem_singleton.1 hy]; exact ⟨ha, by omega, by rw [gs a ha, if_pos rfl]⟩
    next =>
     rw [gs x h0, if_neg (by omega)]; exact hlow x h0 h1
    next =>
     have hxa : x ≠ a := fun e => hP (by rw [e]; exact List.mem_singleton_self _)
     rw [gs x h0, if_neg hxa] at hx ⊢
     have := hC x h0 h1 hx (fun hf => hf) g g0 g1 hg
     rw [gs _ hg, if_neg (fun e => by rw [e] at this; omega)]; exact this
   have hnext : ∀ out1 : List Int, BI t U out1 (R ++ [a]) → (∀ x : Int, 0 ≤ x → x < a → 0 ≤ rd out1 x) → CL t out1 (fun _ => False) → ∃ out' R' : List Int, Ev (fun k => spec_l07Parts.l1 k out1 ((R.length : Int) + 1) (a + 1) t) out' ∧ BI t U out' R' ∧ (∀ x : Int, 0 ≤ x → x < t.length → 0 ≤ rd out' x) ∧ CL t out' (fun _ => False) := fun out1 b1 b2 b3 => by
    have e9 : ((R ++ [a]).length : Int) = (R.length : Int) + 1 := by simp
    have hla := (b1.rng (R.length : Int) (by omega) (by omega)).2.2
    rw [rdlast] at hla
    have := all_b h hU d (a + 1) out1 (R ++ [a]) (by omega) (by omega) b1 (fun x h0 h1 => by
     by_cases e : x = a
     next =>
      rw [e, hla]; omega
     next =>
      exact b2 x h0 (by omega)) b3 (fun v h0 h1 => by
     by_cases hv : v < R.length
     next =>
      rw [rdapp R a v h0 hv]; have := hR v h0 hv; omega
     next =>
      obtain rfl : v = (R.length : Int) := by omega
      rw [rdlast]; omega)
    rw [e9] at this
    exact this
   obtain ⟨out1, b1, b2, b3, hev⟩ := queue_b h hU 200 (out.set a.toNat (R.length : Int)) [a] 0 (Int.le_refl 0) hS (by simp; omega)
   obtain ⟨out', R', e1, e2, e3, e4⟩ := hnext out1 b1 b2 b3
   exact ⟨out', R', ev_step (fun k => by rw [spec_l07Parts.l1, spec_l07Tets.f, yfy, if_pos (by omega), if_pos ha, if_pos (by omega), if_neg hz]) (hev _ e1), e2, e3, e4⟩
theorem can_of {U : Int → Int} {out R : List Int} (hB : BI t U out R) (hall : ∀ x : Int, 0 ≤ x → x < t.length → 0 ≤ rd out x) : ∀ (d i m : Nat), i + d = out.length → (∀ v : Int, 0 ≤ v → v < R.length → (rd R v < i ↔ v < m)) → CanFrom m (out.drop i)
 | 0, i, m, hi, hm => by rw [List.drop_eq_nil_of_le (by omega)]; exact .nil m
 | d + 1, i, m, hi, hm => by
  have hlt : i < out.length := by omega
  have hl := hB.len
  have hg : rd out (i : Int) = out[i] := rd_lt out i hlt
  have h0 := hall (i : Int) (by omega) (by omega)
  have hv := (hB.val (i : Int) (by omega) (by omega)).resolve_left (by omega)
  have hf := hB.first (i : Int) (by omega) (by omega) h0
  rw [List.drop_eq_getElem_cons hlt]
  rw [hg] at h0 hv hf
  generalize out[i] = v at *
  by_cases hr : rd R v < i
  next =>
   refine .old h0 ((hm v h0 hv.2).1 hr) (can_of hB hall d (i + 1) m (by omega) (fun u u0 u1 => ?_))
   rw [← hm u u0 u1]
   constructor
   next =>
    intro hh
    refine Classical.byContradiction fun hc => ?_
    have e : rd R u = (i : Int) := by omega
    have := (hB.rng u u0 u1).2.2
    rw [e, hg] at this
    rw [this] at hr
    omega
   next =>
    intro hh; omega
  next =>
   have er : rd R v = (i : Int) := by omega
   have ev : v = (m : Int) := by
    have h1 : ¬ v < m := fun hh => hr ((hm v h0 hv.2).2 hh)
    by_cases hz : v = 0
    next =>
     omega
    next =>
     have := hB.incr (v - 1) v (by omega) (by omega) hv.2
     have := (hm (v - 1) (by omega) (by omega)).1 (by omega)
     omega
   rw [ev]
   refine .new (can_of hB hall d (i + 1) (m + 1) (by omega) (fun u u0 u1 => ?_))
   have hmu := hm u u0 u1
   constructor
   next =>
    intro hh
    by_cases e : rd R u < i
    next =>
     have := hmu.1 e; omega
    next =>
     have e : rd R u = (i : Int) := by omega
     have := (hB.rng u u0 u1).2.2
     rw [e, hg] at this
     omega
   next =>
    intro hh
    by_cases e : u < m
    next =>
     have := hmu.2 e; omega
    next =>
     have : u = v := by omega
     rw [this, er]; omega
theorem init_b (n : Nat) (hn : n ≤ 1000000) {r : List Int} : ∀ (d i : Nat) (out : List Int), i + d = n → out.length = n → (∀ x : Int, 0 ≤ x → x < i → rd out x = -1) → (∀ out' : List Int, out'.length = n → (∀ x : Int, 0 ≤ x → x < n → rd out' x = -1) → Ev (fun k => spec_l07Parts.l1 k out' 0 0 t) r) → Ev (fun k => spec_l07Parts.l0 k out (i : Int) t) r
 | 0, i, out, hi, hl, hv, hk => by
  refine ev_step (fun k => by rw [spec_l07Parts.l0, if_neg (by omega)]) ?_
  exact hk out hl (fun x h0 h1 => hv x h0 (by omega))
 | d + 1, i, out, hi, hl, hv, hk => by
  refine ev_step (fun k => by rw [spec_l07Parts.l0, if_pos (by omega), if_pos (by omega), wrap_succ (by omega)]) ?_
  refine init_b n hn d (i + 1) _ (by omega) (by simp [hl]) (fun x h0 h1 => ?_) hk
  rw [rdset (by omega) (by omega) h0]
  split
  next =>
   rfl
  next =>
   exact hv x h0 (by omega)
/-- What the reference's search comes to. -/
theorem parts_ev (h : isTri t = true) {U : Int → Int} (hU : Merged t U) : ∃ out : List Int, Ev (fun k => spec_l07Parts.f k t) out ∧ out.length = t.length ∧ CanFrom 0 out ∧ (∀ x g : Int, 0 ≤ x → x < t.length → 0 ≤ g → g ≤ 3 → 0 ≤ (fc t x g).f0 → rd out (fc t x g).f0 = rd out x) ∧
 (∀ x y : Int, 0 ≤ x → x < t.length → 0 ≤ y → y < t.length → rd out x = rd out y → U x = U y) := by
 have h8 := (isTri_good h).1
 have hinit : ∀ out0 : List Int, out0.length = t.length → (∀ x : Int, 0 ≤ x → x < t.length → rd out0 x = -1) → ∃ out R : List Int, Ev (fun k => spec_l07Parts.l1 k out0 0 0 t) out ∧ BI t U out R ∧ (∀ x : Int, 0 ≤ x → x < t.length → 0 ≤ rd out x) ∧ CL t out (fun _ => False) := fun out0 hl hv => by
  have := all_b h hU t.length 0 out0 [] (by omega) (by omega) ⟨hl, fun x h0 h1 => .inl (hv x h0 h1), fun v h0 h1 => by simp at h1; omega, fun x h0 h1 hx => by rw [hv x h0 h1] at hx; omega, fun x h0 h1 hx => by rw [hv x h0 h1] at hx; omega, fun v w h0 h1 h2 => by simp at h2; omega⟩ (fun x h0 h1 => by omega) (fun x h0 h1 hx => by rw [hv x h0 h1] at hx; omega) (fun v h0 h1 => by simp at h1; omega)
  exact this
 have hrep : ∃ out0 : List Int, out0.length = t.length ∧ (∀ x : Int, 0 ≤ x → x < t.length → rd out0 x = -1) ∧ ∀ r, Ev (fun k => spec_l07Parts.l1 k out0 0 0 t) r → Ev (fun k => spec_l07Parts.f k t) r := by
  refine ⟨List.replicate t.length (-1), by simp, fun x h0 h1 => ?_, fun r hr => ?_⟩
  next =>
   obtain ⟨n, rfl⟩ := Int.eq_ofNat_of_zero_le h0
   rw [rd_lt _ n (by simp; omega)]; simp
  next =>
   refine ev_pos (by omega) (ev_pos (by omega) ?_)
   rw [yny]
   refine init_b (t := t) t.length (by omega) t.length 0 (List.replicate t.length 0) (by omega) (by simp) (fun x h0 h1 => by omega) (fun out' hl hv => ?_)
   have e : out' = List.replicate t.length (-1) := by
    refine List.ext_getElem (by simp [hl]) (fun j h1 h2 => ?_)
    have := hv (j : Int) (by omega) (by omega)
    rw [rd_lt out' j h1] at this
    rw [this]; simp
   rw [e]; exact hr
 obtain ⟨out0, hl0, hv0, hk⟩ := hrep
 obtain ⟨out, R, e1, e2, e3, e4⟩ := hinit out0 hl0 hv0
 refine ⟨out, hk out e1, e2.len, ?_, fun x g h0 h1 g0 g1 hg => e4 x h0 h1 (e3 x h0 h1) (fun hf => hf) g g0 g1 hg, fun x y x0 x1 y0 y1 he => ?_⟩
 next =>
  have := can_of e2 e3 out.length 0 0 (by omega) (fun v v0 v1 => by have := (e2.rng v v0 v1).1; omega)
  rwa [List.drop_zero] at this
 next =>
  rw [e2.same x x0 x1 (e3 x x0 x1), e2.same y y0 y1 (e3 y y0 y1), he]
end
theorem uni_rd (s : List Int) (i k x : Int) (h0 : 0 ≤ x) (h1 : x < s.length) : rd (uni s i k) x = if rd s x = rd s k then rd s i else rd s x := by
  obtain ⟨n, rfl⟩ := Int.eq_ofNat_of_zero_le h0
  exact uni_get s i k n (by omega)
theorem dn_next {x a g : Int} (g0 : 0 ≤ g) (g1 : g ≤ 3) (h : x < a + 1 ∨ (x = a + 1 ∧ g < 0)) : x < a ∨ (x = a ∧ g < 4) := by omega
theorem dn_step {x a g f : Int} (h : x < a ∨ (x = a ∧ g < f + 1)) : (x < a ∨ (x = a ∧ g < f)) ∨ (x = a ∧ g = f) := by omega
section
variable {t : Tri}
/-- Marks whose classes are no coarser than need be. -/
structure MI (t : Tri) (m : List Int) : Prop where
  len : m.length = t.length
  rng : ∀ x : Int, 0 ≤ x → x < t.length → 0 ≤ rd m x ∧ rd m x < t.length
  fine : ∀ V : Int → Int, Merged t V → ∀ x y : Int, 0 ≤ x → x < t.length → 0 ≤ y → y < t.length → rd m x = rd m y → V x = V y
theorem MI.uni (h : isTri t = true) {m : List Int} (hM : MI t m) {a f : Int} (a0 : 0 ≤ a) (a1 : a < t.length) (f0 : 0 ≤ f) (f1 : f ≤ 3) (hb : 0 ≤ (fc t a f).f0) : MI t (uni m a (fc t a f).f0) := by
  have b1 := (nb_ok h a0 a1 f0 f1 hb).1
  have hV : ∀ V : Int → Int, Merged t V → V a = V (fc t a f).f0 := fun V hV => hV a f a0 a1 f0 f1 hb
  generalize (fc t a f).f0 = b at hb b1 hV ⊢
  have g : ∀ x : Int, 0 ≤ x → x < t.length → rd (Lib.uni m a b) x = if rd m x = rd m b then rd m a else rd m x := fun x x0 x1 => uni_rd m a b x x0 (by rw [hM.len]; exact x1)
  refine ⟨by rw [uni_length]; exact hM.len, fun x x0 x1 => ?_, fun V hv x y x0 x1 y0 y1 he => ?_⟩
  · rw [g x x0 x1]; split
    · exact hM.rng a a0 a1
    · exact hM.rng x x0 x1
  · rw [g x x0 x1, g y y0 y1] at he
    have e := hV V hv
    have fx := hM.fine V hv x b x0 x1 hb b1
    have fy := hM.fine V hv y b y0 y1 hb b1
    by_cases c1 : rd m x = rd m b
    · rw [if_pos c1] at he
      by_cases c2 : rd m y = rd m b
      · rw [fx c1, fy c2]
      · rw [if_neg c2] at he
        rw [fx c1, ← e]; exact hM.fine V hv a y a0 a1 y0 y1 he
    · rw [if_neg c1] at he
      by_cases c2 : rd m y = rd m b
      · rw [if_pos c2] at he
        rw [fy c2, ← e]; exact hM.fine V hv x a x0 x1 a0 a1 he
      · rw [if_neg c2] at he; exact hM.fine V hv x y x0 x1 y0 y1 he
/-- The faces ahead of (a, f) are merged. -/
def Dn (t : Tri) (m : List Int) (a f : Int) : Prop := ∀ x g : Int, 0 ≤ x → x < t.length → 0 ≤ g → g ≤ 3 → (x < a ∨ (x = a ∧ g < f)) → 0 ≤ (fc t x g).f0 → rd m x = rd m (fc t x g).f0
theorem cl1_eq (k : Nat) (m : List Int) (a f n : Int) (R : List SFace) (h4 : f < 4) (f0 : 0 ≤ f) (fl : f < (R.length : Int)) : impl_Triangulation_components.l1 (k + 1) m a t n a R 4 f = (if decide ((rd_Face R f).f0 < 0) = true then (impl_Triangulation_components.l1 k m a t n a R 4 (wrap64 (f + 1))) else ((impl_union.f m a ((rd_Face R f).f0)).bind fun t113 => (impl_Triangulation_components.l1 k t113 a t n a R 4 (wrap64 (f + 1))))) := by
  rw [impl_Triangulation_components.l1, if_pos h4, if_pos f0, if_pos fl, impl_Face_isBoundary.f, yfy]
theorem comp_l1 (h : isTri t = true) {a : Int} (a0 : 0 ≤ a) (a1 : a < t.length) (hw1 : wrap64 (a + 1) = a + 1) : ∀ (d f : Nat) (m : List Int), f + d = 4 → MI t m → Dn t m a f →
    ∃ m' : List Int, MI t m' ∧ Dn t m' (a + 1) 0 ∧ ∀ r : List Int, Ev (fun k => impl_Triangulation_components.l0 k m' t (t.length : Int) (a + 1)) r → Ev (fun k => impl_Triangulation_components.l1 k m a t (t.length : Int) a (rd_LFace t a) 4 (f : Int)) r
  | 0, f, m, hf, hM, hD => by
    obtain rfl : f = 4 := by omega
    refine ⟨m, hM, fun x g x0 x1 g0 g1 hc hb => hD x g x0 x1 g0 g1 (dn_next g0 g1 hc) hb, fun r hr => ?_⟩
    exact ev_step (fun k => by rw [impl_Triangulation_components.l1, if_neg (by omega), hw1]) hr
  | d + 1, f, m, hf, hM, hD => by
    have f4 : (f : Int) < 4 := by omega
    have f0 : (0 : Int) ≤ (f : Int) := by omega
    have f3 : (f : Int) ≤ 3 := by omega
    have hw : wrap64 ((f : Int) + 1) = ((f + 1 : Nat) : Int) := wrap_succ (by omega)
    have hd : (f + 1) + d = 4 := by omega
    have ec : ((f + 1 : Nat) : Int) = (f : Int) + 1 := by omega
    have fl : (f : Int) < ((rd_LFace t a).length : Int) := by rw [rowlen h a0 a1]; exact f4
    by_cases hb : (fc t a (f : Int)).f0 < 0
    · obtain ⟨m', k1, k2, k3⟩ := comp_l1 h a0 a1 hw1 d (f + 1) m hd hM (fun x g x0 x1 g0 g1 hc hg => by
        rw [ec] at hc
        rcases dn_step hc with hc | ⟨rfl, rfl⟩
        · exact hD x g x0 x1 g0 g1 hc hg
        · exact absurd hb (Int.not_lt.2 hg))
      exact ⟨m', k1, k2, fun r hr => ev_step (fun k => by rw [cl1_eq k m a f _ _ f4 f0 fl, if_pos (ygy hb), hw]) (k3 r hr)⟩
    · have hb0 : 0 ≤ (fc t a (f : Int)).f0 := Int.not_lt.1 hb
      have b1 := (nb_ok h a0 a1 f0 f3 hb0).1
      have hun : impl_union.f m a (fc t a (f : Int)).f0 = some (uni m a (fc t a (f : Int)).f0) := by
        unfold impl_union.f
        rw [if_pos ⟨a0, by rw [hM.len]; exact a1, hb0, by rw [hM.len]; exact b1⟩]
      obtain ⟨m', k1, k2, k3⟩ := comp_l1 h a0 a1 hw1 d (f + 1) _ hd (hM.uni h a0 a1 f0 f3 hb0) (fun x g x0 x1 g0 g1 hc hg => by
        have y1 := (nb_ok h x0 x1 g0 g1 hg).1
        rw [uni_rd m a _ x x0 (by rw [hM.len]; exact x1), uni_rd m a _ _ hg (by rw [hM.len]; exact y1)]
        rw [ec] at hc
        rcases dn_step hc with hc | ⟨e1, e2⟩
        · rw [hD x g x0 x1 g0 g1 hc hg]
        · rw [e1, e2, if_pos rfl]
          split <;> rfl)
      refine ⟨m', k1, k2, fun r hr => ev_step (f := fun k => impl_Triangulation_components.l1 k (uni m a (fc t a (f : Int)).f0) a t (t.length : Int) a (rd_LFace t a) 4 ((f + 1 : Nat) : Int)) (fun k => ?_) (k3 r hr)⟩
      rw [cl1_eq k m a f _ _ f4 f0 fl, if_neg (fun hc => hb (of_decide_eq_true hc)), hw]
      show (impl_union.f m a (fc t a (f : Int)).f0).bind _ = _
      rw [hun, yfy]
theorem comp_l0 (h : isTri t = true) (h8 : t.length ≤ 8) : ∀ (d : Nat) (a : Int) (m : List Int), 0 ≤ a → a + d = t.length → MI t m → Dn t m a 0 →
    ∃ m' : List Int, MI t m' ∧ Dn t m' t.length 0 ∧ Ev (fun k => impl_Triangulation_components.l0 k m t (t.length : Int) a) (numb m')
  | 0, a, m, a0, hd, hM, hD => by
    obtain rfl : a = (t.length : Int) := by omega
    have hl := hM.len
    have hok : numOk m = true := by
      unfold numOk
      rw [Bool.and_eq_true, decide_eq_true_eq, List.all_eq_true]
      refine ⟨by omega, fun x hx => ygy ?_⟩
      obtain ⟨i, hi, rfl⟩ := List.getElem_of_mem hx
      have := hM.rng (i : Int) (by omega) (by omega)
      rw [rd_lt m i hi] at this
      generalize m[i] = v at *
      omega
    refine ⟨m, hM, hD, ev_step (f := fun _ => some (numb m)) (fun k => ?_) (Ev.now _)⟩
    rw [impl_Triangulation_components.l0, if_neg (by omega), impl_numbered.f, if_pos hok, yfy]
  | d + 1, a, m, a0, hd, hM, hD => by
    have a1 : a < (t.length : Int) := by omega
    have hw1 : wrap64 (a + 1) = a + 1 := wrap_id (by omega) (by omega)
    have hd1 : a + 1 + (d : Int) = t.length := by omega
    have a2 : 0 ≤ a + 1 := by omega
    obtain ⟨m1, k1, k2, k3⟩ := comp_l1 h a0 a1 hw1 4 0 m rfl hM hD
    obtain ⟨m', j1, j2, j3⟩ := comp_l0 h h8 d (a + 1) m1 a2 hd1 k1 k2
    refine ⟨m', j1, j2, ev_step (f := fun k => impl_Triangulation_components.l1 k m a t (t.length : Int) a (rd_LFace t a) 4 ((0 : Nat) : Int)) (fun k => ?_) (k3 _ j3)⟩
    rw [impl_Triangulation_components.l0, if_pos a1, if_pos a0, if_pos a1, rowlen h a0 a1]
    rfl
theorem counting_ev (n : Nat) (hn : n ≤ 1000) : ∀ (d i : Nat), i + d = n → Ev (fun k => impl_counting.l0 k (upFrom 0 i) (n : Int) (i : Int)) (upFrom 0 n)
  | 0, i, hd => by
    obtain rfl : i = n := by omega
    exact ev_step (f := fun _ => some (upFrom 0 i)) (fun k => by rw [impl_counting.l0, if_neg (by omega)]) (Ev.now _)
  | d + 1, i, hd => by
    refine ev_step (fun k => ?_) (counting_ev n hn d (i + 1) (by omega))
    rw [impl_counting.l0, if_pos (by omega), if_pos (by rw [upFrom_length]; omega), wrap_succ (by omega), upFrom_snoc, Int.zero_add]
theorem components_ev (h : isTri t = true) : ∃ m : List Int, MI t m ∧ Merged t (rd m) ∧ Ev (fun k => impl_Triangulation_components.f k t) (numb m) := by
  have h8 := (isTri_good h).1
  have hr0 : ∀ x : Int, 0 ≤ x → x < t.length → rd (upFrom 0 t.length) x = x := fun x x0 x1 => by
    obtain ⟨n, rfl⟩ := Int.eq_ofNat_of_zero_le x0
    have := upFrom_get 0 t.length n (by omega)
    rw [Int.zero_add] at this
    exact this
  have h0 : MI t (upFrom 0 t.length) := ⟨upFrom_length _ _, fun x x0 x1 => by rw [hr0 x x0 x1]; exact ⟨x0, x1⟩, fun V hv x y x0 x1 y0 y1 he => by rw [hr0 x x0 x1, hr0 y y0 y1] at he; rw [he]⟩
  obtain ⟨m, k1, k2, k3⟩ := comp_l0 h h8 t.length 0 (upFrom 0 t.length) (Int.le_refl 0) (Int.zero_add _) h0 (fun x g x0 x1 g0 g1 hc hb => absurd hc (by omega))
  refine ⟨m, k1, fun x g x0 x1 g0 g1 hb => k2 x g x0 x1 g0 g1 (.inl x1) hb, ?_⟩
  exact Ev.bind (Ev.now (t.length : Int)) (Ev.bind (counting_ev t.length (by omega) t.length 0 (Nat.zero_add _)) k3)
end
/-- Both sides' lists of classes are one. -/
theorem parts_same {t : Tri} (h : isTri t = true) : ∃ out : List Int, out.length = t.length ∧ CanFrom 0 out ∧ Ev (fun k => spec_l07Parts.f k t) out ∧ Ev (fun k => impl_Triangulation_components.f k t) out ∧
    (∀ x g : Int, 0 ≤ x → x < t.length → 0 ≤ g → g ≤ 3 → 0 ≤ (fc t x g).f0 → rd out (fc t x g).f0 = rd out x) := by
  obtain ⟨m, m1, m2, m3⟩ := components_ev h
  obtain ⟨out, o1, o2, o3, o4, o5⟩ := parts_ev h m2
  have hker : Ker m out := by
    refine ⟨m1.len.trans o2.symm, fun i j hi hj => ?_⟩
    rw [m1.len] at hi hj
    have i1 : (i : Int) < t.length := Int.ofNat_lt.2 hi
    have j1 : (j : Int) < t.length := Int.ofNat_lt.2 hj
    have i0 : (0 : Int) ≤ i := Int.natCast_nonneg i
    have j0 : (0 : Int) ≤ j := Int.natCast_nonneg j
    constructor
    · exact fun e => m1.fine (rd out) (fun x g x0 x1 g0 g1 hb => (o4 x g x0 x1 g0 g1 hb).symm) i j i0 i1 j0 j1 e
    · exact fun e => o5 i j i0 i1 j0 j1 e
  rw [hker.numb, numb_can o3] at m3
  exact ⟨out, o2, o3, o1, m3, o4⟩
theorem cm_mx_ge : ∀ (xs : List Int) (x : Int), x ≤ xs.foldl mx x ∧ ∀ y ∈ xs, y ≤ xs.foldl mx x
  | [], x => ⟨Int.le_refl _, fun y hy => by cases hy⟩
  | z :: zs, x => by
    have h0 : x ≤ mx x z ∧ z ≤ mx x z := by unfold mx; split <;> omega
    obtain ⟨k1, k2⟩ := cm_mx_ge zs (mx x z)
    refine ⟨by show x ≤ zs.foldl mx (mx x z); omega, fun y hy => ?_⟩
    show y ≤ zs.foldl mx (mx x z)
    rcases List.mem_cons.1 hy with h | h
    · subst h; omega
    · exact k2 y h
theorem cm_mx_mem : ∀ (xs : List Int) (x : Int), xs.foldl mx x = x ∨ xs.foldl mx x ∈ xs
  | [], x => .inl rfl
  | z :: zs, x => by
    have h0 : mx x z = x ∨ mx x z = z := by unfold mx; split <;> simp
    rcases cm_mx_mem zs (mx x z) with h | h
    · have e : (z :: zs).foldl mx x = mx x z := h
      rcases h0 with h0 | h0
      · exact .inl (e.trans h0)
      · exact .inr (by rw [e, h0]; exact List.mem_cons_self ..)
    · exact .inr (List.mem_cons_of_mem _ h)
theorem can_bd {m : Nat} {l : List Int} (h : CanFrom m l) : ∃ n : Nat, m ≤ n ∧ n ≤ m + l.length ∧ (∀ v ∈ l, 0 ≤ v ∧ v < n) ∧ ∀ v : Int, (m : Int) ≤ v → v < n → v ∈ l := by
  induction h with
  | nil m => exact ⟨m, ypy _, by simp, fun v hv => (by cases hv), fun v h1 h2 => by omega⟩
  | old h0 h1 h ih =>
    obtain ⟨n, k1, k2, k3, k4⟩ := ih
    refine ⟨n, k1, by simp; omega, fun v hv => ?_, fun v h1 h2 => List.mem_cons_of_mem _ (k4 v h1 h2)⟩
    rcases List.mem_cons.1 hv with e | e
    · subst e; exact ⟨h0, by omega⟩
    · exact k3 v e
  | @new m xs h ih =>
    obtain ⟨n, k1, k2, k3, k4⟩ := ih
    refine ⟨n, by omega, by simp; omega, fun v hv => ?_, fun v h1 h2 => ?_⟩
    · rcases List.mem_cons.1 hv with e | e
      · subst e; exact ⟨by omega, by omega⟩
      · exact k3 v e
    · by_cases e : v = (m : Int)
      · subst e; exact List.mem_cons_self ..
      · exact List.mem_cons_of_mem _ (k4 v (by omega) h2)
/-- The count of classes: a number is one of theirs if it lies below. -/
theorem cls_has {l : List Int} (h : CanFrom 0 l) (hl : l.length ≤ 8) : ∃ n : Int, impl_classCount.f l = some n ∧ 0 ≤ n ∧ n ≤ 8 ∧ ∀ c : Int, (0 ≤ c ∧ c ≤ n - 1) ↔ c ∈ l := by
  obtain ⟨n, k1, k2, k3, k4⟩ := can_bd h
  cases l with
  | nil =>
    refine ⟨0, by unfold impl_classCount.f; rfl, by omega, by omega, fun c => ⟨fun hc => by omega, fun hc => by cases hc⟩⟩
  | cons x xs =>
    obtain ⟨g1, g2⟩ := cm_mx_ge xs x
    have hx := k3 x (List.mem_cons_self ..)
    have hm : xs.foldl mx x ∈ x :: xs := by
      rcases cm_mx_mem xs x with e | e
      · rw [e]; exact List.mem_cons_self ..
      · exact List.mem_cons_of_mem _ e
    have hb := k3 _ hm
    have hn : (n : Int) - 1 ∈ x :: xs := k4 _ (by omega) (by omega)
    have hge : (n : Int) - 1 ≤ xs.foldl mx x := by
      rcases List.mem_cons.1 hn with e | e
      · rw [e]; exact g1
      · exact g2 _ e
    have e : xs.foldl mx x + 1 = (n : Int) := by omega
    simp only [List.length_cons] at hl k2
    refine ⟨n, ?_, by omega, by omega, fun c => ⟨fun hc => k4 c (by omega) (by omega), fun hc => by have := k3 c hc; omega⟩⟩
    unfold impl_classCount.f slices_Max_Sint64.f
    rw [if_neg (by simp only [List.length_cons]; omega), yfy, e, wrap_id (by omega) (by omega)]
theorem has_ev (l : List Int) (c : Int) (hl : l.length ≤ 8) : ∀ d i : Nat, i + d = l.length → Ev (fun k => spec_l11Has.l0 k l c (i : Int)) (decide (c ∈ l.drop i)) := by
  intro d
  induction d with
  | zero =>
    intro i hi
    have c1 : ¬ (i : Int) < (l.length : Int) := by omega
    rw [List.drop_eq_nil_of_le (by omega), yhy (by simp)]
    exact ev_step (f := fun _ => some false) (fun k => by rw [spec_l11Has.l0, if_neg c1]) (Ev.now _)
  | succ d ih =>
    intro i hi
    have hlt : i < l.length := by omega
    have c1 : (i : Int) < (l.length : Int) := by omega
    have c2 : (0 : Int) ≤ (i : Int) := by omega
    have hw : wrap64 ((i : Int) + 1) = ((i + 1 : Nat) : Int) := wrap_succ (by omega)
    refine ev_step (fun k => by rw [spec_l11Has.l0, if_pos c1, if_pos c2, rd_lt l i hlt, hw]) ?_
    rw [List.drop_eq_getElem_cons hlt]
    by_cases e : l[i] = c
    · rw [ygy (by rw [e]; exact List.mem_cons_self ..)]
      exact ev_pos e (Ev.now _)
    · have hd : decide (c ∈ l[i] :: l.drop (i + 1)) = decide (c ∈ l.drop (i + 1)) := by
        congr 1
        apply propext
        constructor
        · intro h
          rcases List.mem_cons.1 h with h | h
          · exact absurd h.symm e
          · exact h
        · exact fun h => List.mem_cons_of_mem _ h
      rw [hd]
      exact ev_neg e (ih (i + 1) (by omega))
def cmNum (t : Tri) (cl : List Int) (c : Int) (i : Nat) : List Int := (List.range i).map fun a => ((cmRows t cl c a).length : Int)
theorem cmNum_length (t : Tri) (cl : List Int) (c : Int) (i : Nat) : (cmNum t cl c i).length = i := by simp [cmNum]
theorem cmNum_rd (t : Tri) (cl : List Int) (c : Int) (i a : Nat) (h : a < i) : rd (cmNum t cl c i) (a : Int) = ((cmRows t cl c a).length : Int) := by
  rw [rd_lt _ a (by rw [cmNum_length]; exact h)]; simp [cmNum]
theorem cmNum_snoc (t : Tri) (cl : List Int) (c : Int) (i : Nat) : cmNum t cl c i ++ [((cmRows t cl c i).length : Int)] = cmNum t cl c (i + 1) := by
  unfold cmNum; rw [List.range_succ, List.map_append]; rfl
theorem cmTo_rd (t : Tri) (cl : List Int) (c : Int) (a : Nat) (ha : a < cl.length) : ∀ i, i ≤ cl.length → rd (cmTo t cl c i) (a : Int) = if a < i ∧ rd cl (a : Int) = c then ((cmRows t cl c a).length : Int) else 0
  | 0, _ => by
    rw [if_neg (by omega), rd_lt _ a (by rw [cmTo_length]; exact ha)]
    simp [cmTo]
  | i + 1, hi => by
    have ih := cmTo_rd t cl c a ha i (by omega)
    have hl := cmTo_length t cl c i
    by_cases e : rd cl (i : Int) = c
    · have e2 : cmTo t cl c (i + 1) = (cmTo t cl c i).set i ((cmRows t cl c i).length : Int) := by rw [cmTo, if_pos e]
      rw [e2, rd_lt _ a (by rw [List.length_set, hl]; exact ha), List.getElem_set]
      by_cases h : i = a
      · subst h; rw [if_pos rfl, if_pos ⟨by omega, e⟩]
      · rw [if_neg h]
        rw [rd_lt _ a (by rw [hl]; exact ha)] at ih
        rw [ih]
        by_cases h2 : a < i ∧ rd cl (a : Int) = c
        · rw [if_pos h2, if_pos ⟨by omega, h2.2⟩]
        · rw [if_neg h2, if_neg (fun h3 => h2 ⟨by omega, h3.2⟩)]
    · have e2 : cmTo t cl c (i + 1) = cmTo t cl c i := by rw [cmTo, if_neg e]
      rw [e2, ih]
      by_cases h2 : a < i ∧ rd cl (a : Int) = c
      · rw [if_pos h2, if_pos ⟨by omega, h2.2⟩]
      · rw [if_neg h2, if_neg (fun h3 => h2 ⟨by
          have : a ≠ i := fun h4 => by subst h4; exact e h3.2
          omega, h3.2⟩)]
theorem cmR_same (G : SFace → SFace) (r : List SFace) (f : Nat) (hf : f < r.length) (hx : G r[f] = r[f]) : cmR G r (f + 1) = cmR G r f := by
  unfold cmR
  rw [List.take_succ_eq_append_getElem hf, List.map_append, List.append_assoc, List.drop_eq_getElem_cons hf]
  show _ ++ ([G r[f]] ++ _) = _
  rw [hx]; rfl
theorem cmR_four {G : SFace → SFace} {r : List SFace} (hr : r.length = 4) : cmR G r 4 = r.map G := by
  unfold cmR
  rw [List.take_of_length_le (by omega), List.drop_eq_nil_of_le (by omega), List.append_nil]
section
variable {t : Tri} {cl : List Int} {c : Int}
theorem part_l0 (hl : cl.length ≤ 8) {R : Tri} (hR : Ev (fun k => spec_l11Part.l1 k c cl (cmNum t cl c cl.length) 0 t []) R) : ∀ d i : Nat, i + d = cl.length →
    Ev (fun k => spec_l11Part.l0 k c cl (cmNum t cl c i) ((cmRows t cl c i).length : Int) (i : Int) t) R := by
  intro d
  induction d with
  | zero =>
    intro i hi
    obtain rfl : i = cl.length := by omega
    have c1 : ¬ (cl.length : Int) < (cl.length : Int) := by omega
    exact ev_step (fun k => by rw [spec_l11Part.l0, if_neg c1]) hR
  | succ d ih =>
    intro i hi
    have c1 : (i : Int) < (cl.length : Int) := by omega
    have c2 : (0 : Int) ≤ (i : Int) := by omega
    have c3 : (cmNum t cl c i).length < 17592186044416 := by rw [cmNum_length]; omega
    have hw : wrap64 ((i : Int) + 1) = ((i + 1 : Nat) : Int) := wrap_succ (by omega)
    have hcl := cmRows_length t cl c i
    have hw2 : wrap64 (((cmRows t cl c i).length : Int) + 1) = (((cmRows t cl c i).length + 1 : Nat) : Int) := wrap_succ (by omega)
    have ih' := ih (i + 1) (by omega)
    refine ev_step (fun k => by rw [spec_l11Part.l0, if_pos c1, if_pos c3, cmNum_snoc, yfy, if_pos c2, hw, hw2]) ?_
    by_cases e : rd cl (i : Int) = c
    · have e2 : (cmRows t cl c (i + 1)).length = (cmRows t cl c i).length + 1 := by rw [cmRows, if_pos e]; simp
      rw [e2] at ih'
      exact ev_pos e ih'
    · have e2 : (cmRows t cl c (i + 1)).length = (cmRows t cl c i).length := by rw [cmRows, if_neg e]
      rw [e2] at ih'
      exact ev_neg e ih'
theorem part_l2 {G : SFace → SFace} {num : List Int} {i : Nat} {acc R : Tri} {r : List SFace} (hr : r.length = 4) (hG : ∀ x ∈ r, (x.f0 < 0 ∧ G x = x) ∨ (0 ≤ x.f0 ∧ x.f0 < (num.length : Int) ∧ G x = ⟨rd num x.f0, x.f1⟩))
    (hR : Ev (fun k => spec_l11Part.l2 k c cl num (i : Int) (cmR G r 4) 4 t acc) R) : ∀ d f : Nat, f + d = 4 → Ev (fun k => spec_l11Part.l2 k c cl num (i : Int) (cmR G r f) (f : Int) t acc) R := by
  intro d
  induction d with
  | zero => intro f hf; obtain rfl : f = 4 := by omega
            exact hR
  | succ d ih =>
    intro f hf
    have hlf : f < r.length := by omega
    have ih' := ih (f + 1) (by omega)
    have hnx := cmR_next G r f hlf
    have hsm := cmR_same G r f hlf
    have eg := cmR_get G r f hlf
    have hx := hG r[f] (List.getElem_mem hlf)
    obtain ⟨x, hxe⟩ : ∃ x, r[f] = x := ⟨_, rfl⟩
    rw [hxe] at hnx hsm eg hx
    have c1 : (f : Int) < 4 := by omega
    have c2 : (0 : Int) ≤ (f : Int) := by omega
    have c3 : (f : Int) < ((cmR G r f).length : Int) := by rw [cmR_length]; omega
    have hw : wrap64 ((f : Int) + 1) = ((f + 1 : Nat) : Int) := wrap_succ (by omega)
    refine ev_step (fun k => by rw [spec_l11Part.l2, if_pos c1, if_pos c2, if_pos c3, eg, hw]) ?_
    rcases hx with ⟨h0, h1⟩ | ⟨h0, h1, h2⟩
    · refine ev_neg (by omega) ?_
      rw [← hsm h1]; exact ih'
    · refine ev_pos h0 (ev_pos h0 (ev_pos h1 ?_))
      rw [yny, ← h2, hnx]; exact ih'
theorem part_l1 (hl : cl.length = t.length) (h8 : t.length ≤ 8) (h4 : ∀ r ∈ t, r.length = 4) (hx : ∀ (i : Nat) (hi : i < t.length), rd cl (i : Int) = c → ∀ x ∈ t[i], x.f0 < 0 ∨ (x.f0 < (t.length : Int) ∧ rd cl x.f0 = c)) : ∀ d i : Nat, i + d = cl.length →
    Ev (fun k => spec_l11Part.l1 k c cl (cmNum t cl c cl.length) (i : Int) t ((cmRows t cl c i).map (List.map (cmF (cmTo t cl c cl.length))))) ((cmRows t cl c cl.length).map (List.map (cmF (cmTo t cl c cl.length)))) := by
  intro d
  induction d with
  | zero =>
    intro i hi
    obtain rfl : i = cl.length := by omega
    have c1 : ¬ (cl.length : Int) < (cl.length : Int) := by omega
    exact ev_step (fun k => by rw [spec_l11Part.l1, if_neg c1]) (Ev.now _)
  | succ d ih =>
    intro i hi
    have hlt : i < t.length := by omega
    have c1 : (i : Int) < (cl.length : Int) := by omega
    have c2 : (0 : Int) ≤ (i : Int) := by omega
    have c4 : (i : Int) < (t.length : Int) := by omega
    have hw : wrap64 ((i : Int) + 1) = ((i + 1 : Nat) : Int) := wrap_succ (by omega)
    have ih' := ih (i + 1) (by omega)
    have hr := h4 t[i] (List.getElem_mem hlt)
    have hcl := cmRows_length t cl c i
    by_cases e : rd cl (i : Int) = c
    · have e2 : cmRows t cl c (i + 1) = cmRows t cl c i ++ [t[i]] := by rw [cmRows, if_pos e, rd_LFace_lt t i hlt]
      rw [e2, List.map_append, yjy, yky] at ih'
      obtain ⟨acc, hacc⟩ : ∃ acc, (cmRows t cl c i).map (List.map (cmF (cmTo t cl c cl.length))) = acc := ⟨_, rfl⟩
      have hal : acc.length < 5864062014805 := by rw [← hacc, List.length_map]; omega
      rw [hacc] at ih' ⊢
      refine ev_step (f := fun k => (some ([] : List SFace)).bind fun y115 => (if (i : Int) < (t.length : Int) then (if y115.length + (rd_LFace t (i : Int)).length < 8796093022208 then (spec_l11Part.l2 k c cl (cmNum t cl c cl.length) (i : Int) (y115 ++ (rd_LFace t (i : Int))) 0 t acc) else (none)) else (none))) (fun k => by rw [spec_l11Part.l1, if_pos c1, if_pos c2, if_pos e]) ?_
      refine Ev.bind (a := ([] : List SFace)) (Ev.now _) (ev_pos c4 (ev_pos (by rw [rd_LFace_lt t i hlt, hr]; decide) ?_))
      rw [rd_LFace_lt t i hlt, List.nil_append]
      refine part_l2 (G := cmF (cmTo t cl c cl.length)) (r := t[i]) hr (fun x hxm => ?_) ?_ 4 0 (by omega)
      · rcases hx i hlt e x hxm with h | ⟨h, h2⟩
        · exact .inl ⟨h, by unfold cmF; rw [if_pos h]⟩
        · by_cases h0 : x.f0 < 0
          · exact .inl ⟨h0, by unfold cmF; rw [if_pos h0]⟩
          · refine .inr ⟨by omega, by rw [cmNum_length]; omega, ?_⟩
            unfold cmF
            rw [if_neg h0]
            obtain ⟨a, ha⟩ := Int.eq_ofNat_of_zero_le (show 0 ≤ x.f0 by omega)
            rw [ha] at h h2 ⊢
            have hal2 : a < cl.length := by omega
            rw [show rd (cmTo t cl c cl.length) (a : Int) = rd (cmNum t cl c cl.length) (a : Int) from by rw [cmTo_rd t cl c a hal2 cl.length (ypy _), if_pos ⟨hal2, h2⟩, cmNum_rd t cl c cl.length a hal2]]
      · rw [cmR_four hr]
        exact ev_step (fun k => by rw [spec_l11Part.l2, if_neg (by decide), if_pos hal, hw]) ih'
    · have e2 : cmRows t cl c (i + 1) = cmRows t cl c i := by rw [cmRows, if_neg e]
      rw [e2] at ih'
      exact ev_step (fun k => by rw [spec_l11Part.l1, if_pos c1, if_pos c2, if_neg e, hw]) ih'
end
theorem comp_same {t : Tri} (hS : Small t) (c : Int) : ∃ o : Tri × Int, Small o.1 ∧ Ev (fun k => spec_ComponentOf.f k t c) o ∧ Ev (fun k => impl_ComponentOf.f k t c) o := by
  have hN : Small ([] : Tri) := ⟨by simp, fun r hr => by cases hr⟩
  by_cases h : isTri t = true
  · obtain ⟨h8, h4, _⟩ := isTri_good h
    obtain ⟨cl, k1, k2, k3, k4, k5⟩ := parts_same h
    obtain ⟨n, n1, n2, n3, n4⟩ := cls_has k2 (by omega)
    have hh := has_ev cl c (by omega) cl.length 0 (by omega)
    rw [List.drop_zero] at hh
    have hrg : impl_inRange.f c 0 (wrap64 (n - 1)) = some (decide (c ∈ cl)) := by
      rw [wrap_id (by omega) (by omega), inRange_eq]
      congr 1
      by_cases hc : c ∈ cl
      · have := (n4 c).2 hc
        rw [ygy hc, ygy this.1, ygy this.2]; rfl
      · rw [yhy hc]
        by_cases h1 : 0 ≤ c
        · rw [ygy h1, yhy (fun h2 => hc ((n4 c).1 ⟨h1, h2⟩))]; rfl
        · rw [yhy h1]; rfl
    by_cases hc : c ∈ cl
    · have hf : ∀ (i : Nat) (hi : i < t.length), rd cl (i : Int) = c → ∀ x ∈ t[i], x.f0 < 0 ∨ (x.f0 < (t.length : Int) ∧ rd cl x.f0 = c) := by
        intro i hi hci x hxm
        obtain ⟨j, hj, rfl⟩ := List.getElem_of_mem hxm
        have hj4 := h4 _ (List.getElem_mem hi)
        have e : fc t (i : Int) (j : Int) = t[i][j] := by show rd_Face (rd_LFace t (i : Int)) (j : Int) = _; rw [rd_LFace_lt t i hi, rd_Face_lt _ j hj]
        rcases face_good h (a := (i : Int)) (f := (j : Int)) (by omega) (by omega) (by omega) (by omega) with ⟨e1, _⟩ | ⟨e1, _⟩
        · rw [e] at e1; exact .inl (by omega)
        · have k := k5 (i : Int) (j : Int) (by omega) (by omega) (by omega) (by omega) e1.1
          rw [e] at e1 k
          exact .inr ⟨e1.2.1, k.trans hci⟩
      refine ⟨((cmRows t cl c cl.length).map (List.map (cmF (cmTo t cl c cl.length))), 0), ⟨?_, fun r hr => ?_⟩, ?_, ?_⟩
      · show ((cmRows t cl c cl.length).map _).length ≤ _
        have := cmRows_length t cl c cl.length
        rw [List.length_map]; omega
      · obtain ⟨q, hq, rfl⟩ := List.mem_map.1 (show r ∈ (cmRows t cl c cl.length).map (List.map (cmF (cmTo t cl c cl.length))) from hr)
        have := h4 q (cmRows_mem t cl c cl.length (by omega) q hq)
        rw [List.length_map]; omega
      · refine Ev.bind (spec_isTri_ev t) (ev_pos h (Ev.bind k3 (Ev.bind hh (ev_pos (ygy hc) (Ev.bind (Ev.bind k3 ?_) (Ev.now _))))))
        exact part_l0 (t := t) (cl := cl) (c := c) (by omega) (part_l1 k1 h8 h4 hf cl.length 0 (by omega)) cl.length 0 (by omega)
      · refine Ev.bind (impl_isTri_ev hS) (ev_pos h (Ev.bind k4 (Ev.bind (ev_const n1) (Ev.bind (ev_const hrg) (ev_pos (ygy hc) (Ev.bind (Ev.bind k4 (ev_pos ?_ (Ev.now _))) (Ev.now _)))))))
        unfold cmOk
        simp only [Bool.and_eq_true, decide_eq_true_eq, List.all_eq_true]
        refine ⟨k1, by omega, fun r hr => ⟨h4 r hr, fun x hx => ?_⟩⟩
        obtain ⟨i, hi, rfl⟩ := List.getElem_of_mem hr
        obtain ⟨j, hj, rfl⟩ := List.getElem_of_mem hx
        have hj4 := h4 _ (List.getElem_mem hi)
        have e : fc t (i : Int) (j : Int) = t[i][j] := by show rd_Face (rd_LFace t (i : Int)) (j : Int) = _; rw [rd_LFace_lt t i hi, rd_Face_lt _ j hj]
        rcases face_good h (a := (i : Int)) (f := (j : Int)) (by omega) (by omega) (by omega) (by omega) with ⟨e1, _⟩ | ⟨e1, _⟩
        · rw [e] at e1; omega
        · rw [e] at e1; have := e1.2.1; omega
    · refine ⟨([], 2), hN, ?_, ?_⟩
      · exact Ev.bind (spec_isTri_ev t) (ev_pos h (Ev.bind k3 (Ev.bind hh (ev_neg (by rw [yhy hc]; decide) (Ev.now _)))))
      · exact Ev.bind (impl_isTri_ev hS) (ev_pos h (Ev.bind k4 (Ev.bind (ev_const n1) (Ev.bind (ev_const hrg) (ev_neg (by rw [yhy hc]; decide) (Ev.now _))))))
  · refine ⟨([], 1), hN, ?_, ?_⟩
    · exact Ev.bind (spec_isTri_ev t) (ev_neg h (Ev.now _))
    · exact Ev.bind (impl_isTri_ev hS) (ev_neg h (Ev.now _))
/-- n marked faces from a on. -/
def mkR (a : Int) : Nat → List SFace
  | 0 => []
  | n + 1 => ⟨a, a + 1⟩ :: mkR (a + 2) n
theorem mkR_length (a : Int) (n : Nat) : (mkR a n).length = n := by
  induction n generalizing a with
  | zero => rfl
  | succ n ih => simp [mkR, ih]
theorem mkR_get (a : Int) (n i : Nat) (z : SFace) (h : i < n) : (mkR a n).getD i z = ⟨a + 2 * i, a + 2 * i + 1⟩ := by
  induction n generalizing a i with
  | zero => omega
  | succ n ih =>
    cases i with
    | zero => simp [mkR]
    | succ i => simp only [mkR, List.getD_cons_succ]; rw [ih (a + 2) i (by omega)]; congr 1 <;> omega
theorem mkR_snoc (a : Int) (n : Nat) : mkR a (n + 1) = mkR a n ++ [⟨a + 2 * n, a + 2 * n + 1⟩] := by
  induction n generalizing a with
  | zero => simp [mkR]
  | succ n ih =>
    rw [mkR, ih (a + 2)]
    have e : a + 2 + 2 * (n : Int) = a + 2 * ((n + 1 : Nat) : Int) := by omega
    rw [e]; rfl
theorem mk_set (l : List SFace) (a : Int) (n : Nat) (h : n < l.length) : (mkR a n ++ l.drop n).set n ⟨a + 2 * n, a + 2 * n + 1⟩ = mkR a (n + 1) ++ l.drop (n + 1) := by
  rw [List.set_append_right _ _ (by rw [mkR_length]; exact ypy _), mkR_length, Nat.sub_self, List.drop_eq_getElem_cons h, yby, mkR_snoc, List.append_assoc]
  rfl
theorem rd_Face_set (l : List SFace) (n : Nat) (v : SFace) (h : n < l.length) : rd_Face (l.set n v) (n : Int) = v := by
  rw [rd_Face_lt _ n (by rw [List.length_set]; exact h), List.getElem_set_self]
theorem markFaceS_ev (l : List SFace) (a : Int) (h : l.length ≤ 1099511627776) (h0 : 0 ≤ a) (h1 : a ≤ 9007199254740992) : Ev (fun k => laws_markFaceS.f k l a) (a + 2 * l.length, mkR a l.length) := by
  have hl : Ev (fun k => laws_markFaceS.l0 k l a 0) (a + 2 * l.length, mkR a l.length) := by
    refine ev_loop0 (fun k (s : List SFace × Int × Int) => laws_markFaceS.l0 k s.1 s.2.1 s.2.2) (fun s => ∃ n : Nat, n ≤ l.length ∧ s.2.2 = n ∧ s.2.1 = a + 2 * n ∧ s.1 = mkR a n ++ l.drop n) (fun s => l.length - s.2.2.toNat) (fun _ => (a + 2 * l.length, mkR a l.length)) ?_ (l, a, 0) ⟨0, by omega, rfl, by simp, by simp [mkR]⟩
    rintro ⟨x, b, i⟩ ⟨n, hn, rfl, rfl, rfl⟩
    dsimp only
    have hlen : (mkR a n ++ l.drop n).length = l.length := by simp [mkR_length]; omega
    by_cases hlt : n < l.length
    · refine .inr ⟨(mkR a (n + 1) ++ l.drop (n + 1), a + 2 * ((n + 1 : Nat) : Int), ((n + 1 : Nat) : Int)), ⟨n + 1, by omega, rfl, rfl, rfl⟩, by simp; omega, rfl, fun k => ?_⟩
      simp only [laws_markFaceS.l0]
      rw [if_pos (by rw [hlen]; omega), if_pos (by omega), yfy, yny, rd_Face_set _ n _ (by rw [hlen]; exact hlt), List.set_set, wrap_id (x := a + 2 * (n : Int) + 1) (by omega) (by omega), mk_set l a n hlt, wrap_succ (by omega), wrap_id (by omega) (by omega)]
      congr 1; omega
    · obtain rfl : n = l.length := by omega
      refine .inl fun k => ?_
      simp only [laws_markFaceS.l0]
      rw [if_neg (by rw [hlen]; omega)]
      simp
  exact hl
/-- The marks of a triangulation, and their number. -/
def cntF : Tri → Nat
  | [] => 0
  | r :: rs => 2 * r.length + cntF rs
def mkT (a : Int) : Tri → Tri
  | [] => []
  | r :: rs => mkR a r.length :: mkT (a + 2 * r.length) rs
theorem cntF_le (t : Tri) (h : ∀ r ∈ t, r.length ≤ 1048576) : cntF t ≤ 2097152 * t.length := by
  induction t with
  | nil => simp [cntF]
  | cons r rs ih =>
    have h1 := h r (List.mem_cons_self ..)
    have h2 := ih (fun x hx => h x (List.mem_cons_of_mem _ hx))
    simp only [cntF, List.length_cons]; omega
theorem markGo_ev : ∀ (suf : Tri) (pre : Tri) (a : Int), (∀ r ∈ suf, r.length ≤ 1048576) → 0 ≤ a → a + cntF suf ≤ 9007199254740992 → Ev (fun k => laws_markFaceSS.go k suf.length (pre ++ suf) a pre.length) (a + cntF suf, pre ++ mkT a suf)
  | [], pre, a, _, h0, h1 => ev_const' fun k => by simp [laws_markFaceSS.go, cntF, mkT]
  | r :: rs, pre, a, hr, h0, h1 => by
    simp only [cntF] at h1
    have hm := markFaceS_ev r a (by have := hr r (List.mem_cons_self ..); omega) h0 (by omega)
    have ih := markGo_ev rs (pre ++ [mkR a r.length]) (a + 2 * r.length) (fun x hx => hr x (List.mem_cons_of_mem _ hx)) (by omega) (by omega)
    simp only [List.length_cons, laws_markFaceSS.go]
    have e0 : List.getD (pre ++ r :: rs) pre.length [] = r := by simp
    rw [e0]
    refine Ev.bind hm ?_
    dsimp only
    have e1 : (pre ++ r :: rs).set pre.length (mkR a r.length) = pre ++ [mkR a r.length] ++ rs := by
      rw [List.set_append_right _ _ (ypy _), Nat.sub_self, yby]; simp
    rw [e1]
    have e2 : pre.length + 1 = (pre ++ [mkR a r.length]).length := by simp
    rw [e2]
    have e3 : (a + ((cntF (r :: rs) : Nat) : Int), pre ++ mkT a (r :: rs)) = (a + 2 * r.length + (cntF rs : Int), pre ++ [mkR a r.length] ++ mkT (a + 2 * r.length) rs) := by
      simp only [cntF, mkT, List.append_assoc, List.singleton_append]; congr 1; omega
    rw [e3]
    exact ih
theorem markTriangulation_ev (t : Tri) (a : Int) (hs : Small t) (h0 : 0 ≤ a) (h1 : a ≤ 1048576) : Ev (fun k => laws_markTriangulation.f k t a) (a + cntF t, mkT a t) := by
  have := markGo_ev t [] a hs.2 h0 (by have := cntF_le t hs.2; have := hs.1; omega)
  rw [List.nil_append, List.nil_append] at this
  exact this
end Go.Proofs.Ytdgdnnjigigkcaa.P
