/- The statement FnExactIsIsomorphismSaid, proved: part 5 of 8 (texts of this session and of the kit's print, put together and cut to what is used by a program of it). -/
import Derived.Test.YtdgdnnjigigkcaaMFnExactIsIsomorphism4
namespace Go.Proofs.Ytdgdnnjigigkcaa.P
open Go.RowKit Go.Proofs.YtdgdnnjigigkcaaW.PrintWords Go.Proofs.YtdgdnnjigigkcaaW.PrintLast Go.Proofs.YtdgdnnjigigkcaaW.PrintMore
attribute [local go_sem] max2_int min2_int max_two min_two max_three min_three max_four min_four   -- for this text's walks alone
set_option linter.unusedVariables false
set_option linter.unusedSimpArgs false
section
attribute [local go_sem high] eqA74
/-! ### spec_IsTriangulation: function 52 -/
mutual
def spec_IsTriangulation.l0 : Nat → Int → List (List (SFace)) → Option (Bool)
 | 0, _, _ => none
 | k + 1, x3, x102000 => if x3 < (x102000.length : Int) then (if 0 ≤ x3 then (if ((rd_LFace x102000 x3).length : Int) = 4 then (spec_IsTriangulation.l0 k (wrap64 (x3 + 1)) x102000) else (some false)) else (none)) else (spec_IsTriangulation.l1 k 0 x102000)
def spec_IsTriangulation.l1 : Nat → Int → List (List (SFace)) → Option (Bool)
 | 0, _, _ => none
 | k + 1, x4, x102000 => (spec_l07Tets.f x102000).bind fun t104 => (if x4 < t104 then (spec_IsTriangulation.l2 k x4 0 x102000) else (some true))
def spec_IsTriangulation.l2 : Nat → Int → Int → List (List (SFace)) → Option (Bool)
 | 0, _, _, _ => none
 | k + 1, x4, x5, x102000 => if x5 < 4 then (if 0 ≤ x4 then (if x4 < (x102000.length : Int) then (if 0 ≤ x5 then (if x5 < ((rd_LFace x102000 x4).length : Int) then (if ((rd_Face (rd_LFace x102000 x4) x5).f0) = (-1) then (spec_IsTriangulation.j3 k x4 x5 (((rd_Face (rd_LFace x102000 x4) x5).f1) == 0) x102000 ((rd_Face (rd_LFace x102000 x4) x5).f0) ((rd_Face (rd_LFace x102000 x4) x5).f1)) else (spec_IsTriangulation.j3 k x4 x5 false x102000 ((rd_Face (rd_LFace x102000 x4) x5).f0) ((rd_Face (rd_LFace x102000 x4) x5).f1))) else (none)) else (none)) else (none)) else (none)) else (spec_IsTriangulation.l1 k (wrap64 (x4 + 1)) x102000)
def spec_IsTriangulation.j3 : Nat → Int → Int → Bool → List (List (SFace)) → Int → Int → Option (Bool)
 | 0, _, _, _, _, _, _ => none
 | k + 1, x4, x5, x51, x102000, x108000, x108001 => if x51 = true then (spec_IsTriangulation.l2 k x4 (wrap64 (x5 + 1)) x102000) else ((spec_l07Tets.f x102000).bind fun t108 => ((spec_l07In.f x108000 0 (wrap64 (t108 - 1))).bind fun t109 => (if t109 = true then ((spec_l06Valid.f x108001).bind fun t110 => (spec_IsTriangulation.j4 k x4 x5 (!t110) x102000 x108000 x108001)) else (spec_IsTriangulation.j4 k x4 x5 true x102000 x108000 x108001))))
def spec_IsTriangulation.j4 : Nat → Int → Int → Bool → List (List (SFace)) → Int → Int → Option (Bool)
 | 0, _, _, _, _, _, _ => none
 | k + 1, x4, x5, x64, x102000, x108000, x108001 => if x64 = true then (some false) else ((spec_l06At.f k x108001 x5).bind fun t111 => ((spec_l06Back.f k x108001).bind fun t112 => (if 0 ≤ x108000 then (if x108000 < (x102000.length : Int) then (if 0 ≤ t111 then (if t111 < ((rd_LFace x102000 x108000).length : Int) then (if (!(((rd_Face (rd_LFace x102000 x108000) t111).f0) == x4) || (!(((rd_Face (rd_LFace x102000 x108000) t111).f1) == t112))) = true then (some false) else (if x108000 = x4 then (if t111 = x5 then (some false) else (spec_IsTriangulation.l2 k x4 (wrap64 (x5 + 1)) x102000)) else (spec_IsTriangulation.l2 k x4 (wrap64 (x5 + 1)) x102000))) else (none)) else (none)) else (none)) else (none))))
end
def spec_IsTriangulation.f (k : Nat) (l0_0 : List (List (SFace))) : Option (Bool) := (spec_l07Tets.f l0_0).bind fun t102 => (if t102 > 8 then (some false) else (spec_IsTriangulation.l0 k 0 l0_0))
def spec_IsTriangulation.T16 : Bool × List (List Nat × List Nat) := (true, [([], []), ([0], [0]), ([], []), ([2], [2]), ([3], [3]), ([1, 4, 3], [1, 4]), ([5], [5]), ([6, 5], [6]), ([7], [7]), ([8, 7], [7, 8]), ([9, 7, 7], [7, 9]), ([10, 7], [7, 10]), ([7, 11], [7, 11])])
def spec_IsTriangulation.B16 : List Nat := [0, 1, 0, 4, 12, 31, 63, 127, 255, 511, 1023, 2047, 4095]
theorem spec_IsTriangulation.tab16 : rtab .any (opsOf Try.f52 16) = spec_IsTriangulation.T16 := by kernel_rfl
theorem spec_IsTriangulation.bits16 : waitsOk spec_IsTriangulation.T16.2 spec_IsTriangulation.B16 = true := by kernel_rfl
set_option maxHeartbeats 8000000 in
set_option maxRecDepth 100000 in
theorem spec_IsTriangulation.calls (k : Nat) (A0_0 : Option Addr) (c0_0 : Nat) (l0_0 : List (List (SFace))) (r : Bool) (w : World) (hr0_0 : Kd.C (Kd.slice 74 kFace) w A0_0 l0_0.length l0_0) (hc0_0 : l0_0.length ≤ c0_0) (h : spec_IsTriangulation.f k l0_0 = some r) :
 Calls Try.prog 52 #[.agg #[.slice A0_0 l0_0.length c0_0]] w fun e w' => e = .returned (.bool r) ∧ Below w.heap.size w w' := by
 have hu28 := Try.underlying28
 have hu74 := Try.underlying74
 have HR0_0 := Aside0.mk hr0_0
 have HC0_0 := Aside0.mk hc0_0
 clear hr0_0 hc0_0
 have HB := Aside0.mk (ypy w.heap.size w)
 have H : ((spec_l07Tets.f l0_0).bind fun t102 => (if t102 > 8 then (some false) else (spec_IsTriangulation.l0 k 0 l0_0))) = some r := h
 clear h
 replace H := ydy.mp H
 obtain ⟨t102, A20, H⟩ := H
 replace H : (if t102 > 8 then (some false) else (spec_IsTriangulation.l0 k 0 l0_0)) = some r := H
 have A2 := Aside0.mk A20
 clear A20
 by_cases c3 : t102 > 8
 next =>
  rw [if_pos c3] at H
  have c3b0 : decide (8 < t102) = true := ygy c3
  clear c3
  obtain rfl := yey H
  go_enter Try.func52, Try.ntmps52
  go_wp2_with (first | ((with_reducible refine gate_dst (N := 1) rfl ?_); refine box_event ?hg (N := 1) ?hd (cs := #[.slice A0_0 l0_0.length c0_0]) (t := 28) ?hr ?_; (case hd => rfl); (case hg => rfl); (case hr => first | (go_simp; done) | (go_simp; rfl)); intro gb101 hg w4 hbox hb; have n0_ := Aside0.mk (below_step (by repeat (first | (with_reducible first | exact HB.out | apply below_alloc | apply pw_below_drewN | apply below_drew1) | exact HB.out)) hb); have n1_ := Aside0.mk (hbox); have n2_ := Aside0.mk ((by rw [hg]; exact (below_size (by repeat (first | (with_reducible first | exact HB.out | apply below_alloc | apply pw_below_drewN | apply below_drew1) | exact HB.out))) : w.heap.size ≤ gb101)); have n3_ := Aside0.mk ((by rw [hg]; exact (below_size (by repeat (first | (with_reducible first | exact HB.out | apply below_alloc | apply pw_below_drewN | apply below_drew1) | exact HB.out))) : w.heap.size ≤ gb101)); clear HB; have HB := n0_; have BK101 := n1_; have GW101 := n2_; have GE101 := n3_; clear n0_ n1_ n2_ n3_; clear hb hbox hg; have hcz5_0 : w4.cell? ⟨gb101, 0, none⟩ = some (.slice A0_0 l0_0.length c0_0) := (blk_cell BK101.out 0).trans rfl; have hfz5_0 := blk_frozen BK101.out 0) | ((with_reducible refine gate_callee (f := 65) rfl ?_); refine goesL_ (some 10) rfl rfl Try.func65 (by kernel_rfl) rfl #[.agg #[.slice A0_0 l0_0.length c0_0]] rfl (by (try simp only [yiy, yjy, yky]); first | done | rfl | (simp only [yly, ymy]; rfl)) ?_; (with_reducible refine (spec_l07Tets.calls _ _ l0_0 t102 _ ?side1 ?side2 A2.out).mono ?_); (case side1 => repeat (first | exact (Kd.C_below HR0_0.out HB.out) | (with_reducible refine Kd.C_alloc ?_ _) | (with_reducible refine Kd.C_drewN ?_ _) | (with_reducible refine Kd.C_drew ?_))); (case side2 => exact HC0_0.out); rintro e w6 ⟨rfl, hb⟩; refine ⟨_, rfl, ?_⟩; have n0_ := Aside0.mk (blk_below (g := gb101) (o := .cells #[.slice A0_0 l0_0.length c0_0] 28 (0, 0)) (by (with_reducible repeat (first | refine blk_drewN ?_ _ | refine blk_drew ?_ | refine blk_alloc ?_ _)); exact BK101.out) hb); have n1_ := Aside0.mk (below_step (by repeat (first | (with_reducible first | exact HB.out | apply below_alloc | apply pw_below_drewN | apply below_drew1 | refine below_set ?_ GE101.out) | exact HB.out)) hb); clear BK101; clear HB; have BK101 := n0_; have HB := n1_; clear n0_ n1_; (try clear hb); (try clear hb2); (try clear hk); (try clear hi)))
  go_ret
  exact ⟨by first | rfl | (simp [errW_none, errW_some] <;> rfl) | (simp [*, errW_none, errW_some] <;> rfl), by repeat (first | (with_reducible first | exact HB.out | apply below_alloc | apply pw_below_drewN | apply below_drew1 | refine below_set ?_ GE101.out) | exact HB.out)⟩
 next =>
  rw [if_neg c3] at H
  have c3b0 : decide (8 < t102) = false := yhy c3
  clear c3
  have H' := Aside0.mk H
  clear H
  go_enter Try.func52, Try.ntmps52
  go_wp2_with (first | ((with_reducible refine gate_dst (N := 1) rfl ?_); refine box_event ?hg (N := 1) ?hd (cs := #[.slice A0_0 l0_0.length c0_0]) (t := 28) ?hr ?_; (case hd => rfl); (case hg => rfl); (case hr => first | (go_simp; done) | (go_simp; rfl)); intro gb101 hg w7 hbox hb; have n0_ := Aside0.mk (below_step (by repeat (first | (with_reducible first | exact HB.out | apply below_alloc | apply pw_below_drewN | apply below_drew1) | exact HB.out)) hb); have n1_ := Aside0.mk (hbox); have n2_ := Aside0.mk ((by rw [hg]; exact (below_size (by repeat (first | (with_reducible first | exact HB.out | apply below_alloc | apply pw_below_drewN | apply below_drew1) | exact HB.out))) : w.heap.size ≤ gb101)); have n3_ := Aside0.mk ((by rw [hg]; exact (below_size (by repeat (first | (with_reducible first | exact HB.out | apply below_alloc | apply pw_below_drewN | apply below_drew1) | exact HB.out))) : w.heap.size ≤ gb101)); clear HB; have HB := n0_; have BK101 := n1_; have GW101 := n2_; have GE101 := n3_; clear n0_ n1_ n2_ n3_; clear hb hbox hg; have hcz8_0 : w7.cell? ⟨gb101, 0, none⟩ = some (.slice A0_0 l0_0.length c0_0) := (blk_cell BK101.out 0).trans rfl; have hfz8_0 := blk_frozen BK101.out 0) | ((with_reducible refine gate_callee (f := 65) rfl ?_); refine goesL_ (some 10) rfl rfl Try.func65 (by kernel_rfl) rfl #[.agg #[.slice A0_0 l0_0.length c0_0]] rfl (by (try simp only [yiy, yjy, yky]); first | done | rfl | (simp only [yly, ymy]; rfl)) ?_; (with_reducible refine (spec_l07Tets.calls _ _ l0_0 t102 _ ?side1 ?side2 A2.out).mono ?_); (case side1 => repeat (first | exact (Kd.C_below HR0_0.out HB.out) | (with_reducible refine Kd.C_alloc ?_ _) | (with_reducible refine Kd.C_drewN ?_ _) | (with_reducible refine Kd.C_drew ?_))); (case side2 => exact HC0_0.out); rintro e w9 ⟨rfl, hb⟩; refine ⟨_, rfl, ?_⟩; have n0_ := Aside0.mk (blk_below (g := gb101) (o := .cells #[.slice A0_0 l0_0.length c0_0] 28 (0, 0)) (by (with_reducible repeat (first | refine blk_drewN ?_ _ | refine blk_drew ?_ | refine blk_alloc ?_ _)); exact BK101.out) hb); have n1_ := Aside0.mk (below_step (by repeat (first | (with_reducible first | exact HB.out | apply below_alloc | apply pw_below_drewN | apply below_drew1 | refine below_set ?_ GE101.out) | exact HB.out)) hb); clear BK101; clear HB; have BK101 := n0_; have HB := n1_; clear n0_ n1_; (try clear hb); (try clear hb2); (try clear hk); (try clear hi)))
  go_loopg [3] k (fun kq v3 w' => ∃ (x3_1 : Int), v3 = .int .i64 x3_1 ∧ Aside0 (spec_IsTriangulation.l0 kq x3_1 l0_0 = some r) ∧ Aside0 (kq ≤ k) ∧ Aside0 (w'.heap[gb101]? = some (.cells #[(.slice A0_0 l0_0.length c0_0)] 28 (0, 0))) ∧ Aside0 (Below w.heap.size w w'))
  case atStart => exact ⟨(0), (by first | rfl | (simp; done) | (simp [*]; done)), H', ⟨yoy _⟩, ⟨by (with_reducible repeat (first | refine blk_drewN ?_ _ | refine blk_drew ?_ | refine blk_alloc ?_ _)); exact BK101.out⟩, ⟨by repeat (first | (with_reducible first | exact HB.out | apply below_alloc | apply pw_below_drewN | apply below_drew1 | refine below_set ?_ GE101.out) | exact HB.out)⟩⟩
  case round =>
   clear H'
   try clear p2
   try clear c3
   try clear c3b0
   try clear c5
   try clear c6
   try clear hcz5_0
   try clear hcz8_0
   try clear hfz5_0
   try clear hfz8_0
   obtain ⟨x3_1, rfl, HA, HK1, BK101, HB⟩ := hrel
   cases gk with
   | zero => exact absurd HA.out (by simp [spec_IsTriangulation.l0])
   | succ k1 =>
    have H := HA.out
    clear HA
    simp only [spec_IsTriangulation.l0] at H
    by_cases c10 : x3_1 < (l0_0.length : Int)
    next =>
     rw [if_pos c10] at H
     have c10b0 : decide (x3_1 < (l0_0.length : Int)) = true := ygy c10
     clear c10
     by_cases c11 : 0 ≤ x3_1
     rotate_left
     next =>
      rw [if_neg c11] at H
      exact absurd H (by simp)
     rw [if_pos c11] at H
     have c11b0 : decide (0 ≤ x3_1) = true := ygy c11
     clear c11
     by_cases c12 : ((rd_LFace l0_0 x3_1).length : Int) = 4
     rotate_left
     next =>
      rw [if_neg c12] at H
      have c12b0 : (((rd_LFace l0_0 x3_1).length : Int) == 4) = false := beq_eq_false_iff_ne.mpr c12
      have c12b1 : (((rd_LFace l0_0 x3_1).length : Int) != 4) = true := bne_iff_ne.mpr c12
      obtain rfl := yey H
      have hcz14_0 : wr.cell? ⟨gb101, 0, none⟩ = some (.slice A0_0 l0_0.length c0_0) := (blk_cell BK101.out 0).trans rfl
      have hfz14_0 := blk_frozen BK101.out 0
      have p103 : 0 ≤ (x3_1 : Int) := of_decide_eq_true (by first | (with_reducible assumption) | assumption)
      have q103 : x3_1 < (l0_0.length : Int) := of_decide_eq_true (by first | (with_reducible assumption) | assumption)
      obtain ⟨ad103, A103_0, c103_0, e103, hx103_0, hl103_0, hi103_0⟩ := at_LFace HR0_0.out x3_1 p103 q103
      cases e103
      replace hx103_0 := (HB.out.cell (yny w _ hx103_0)).trans hx103_0
      have HR103_0 := Aside0.mk hi103_0
      have HC103_0 := Aside0.mk hl103_0
      clear hi103_0 hl103_0
      replace p103 := eq_true p103
      replace q103 := eq_true q103
      go_wp2
      go_ret
      exact ⟨by first | rfl | (simp [errW_none, errW_some] <;> rfl) | (simp [*, errW_none, errW_some] <;> rfl), by repeat (first | (with_reducible first | exact HB.out | apply below_alloc | apply pw_below_drewN | apply below_drew1 | refine below_set ?_ GE101.out) | exact HB.out)⟩
     rw [if_pos c12] at H
     have c12b0 : (((rd_LFace l0_0 x3_1).length : Int) == 4) = true := beq_iff_eq.mpr c12
     have c12b1 : (((rd_LFace l0_0 x3_1).length : Int) != 4) = false := bne_eq_false_iff_eq.mpr c12
     clear c12
     have H' := Aside0.mk H
     clear H
     have hcz13_0 : wr.cell? ⟨gb101, 0, none⟩ = some (.slice A0_0 l0_0.length c0_0) := (blk_cell BK101.out 0).trans rfl
     have hfz13_0 := blk_frozen BK101.out 0
     have p103 : 0 ≤ (x3_1 : Int) := of_decide_eq_true (by first | (with_reducible assumption) | assumption)
     have q103 : x3_1 < (l0_0.length : Int) := of_decide_eq_true (by first | (with_reducible assumption) | assumption)
     obtain ⟨ad103, A103_0, c103_0, e103, hx103_0, hl103_0, hi103_0⟩ := at_LFace HR0_0.out x3_1 p103 q103
     cases e103
     replace hx103_0 := (HB.out.cell (yny w _ hx103_0)).trans hx103_0
     have HR103_0 := Aside0.mk hi103_0
     have HC103_0 := Aside0.mk hl103_0
     clear hi103_0 hl103_0
     replace p103 := eq_true p103
     replace q103 := eq_true q103
     go_wp2
     go_roundg k1
     case measure => have := HK1.out; omega
     case rel => exact ⟨(wrap64 (x3_1 + 1)), (by first | rfl | (simp; done) | (simp [*]; done)), H', ⟨by have := HK1.out; omega⟩, ⟨by (with_reducible repeat (first | refine blk_drewN ?_ _ | refine blk_drew ?_ | refine blk_alloc ?_ _)); exact BK101.out⟩, ⟨by repeat (first | (with_reducible first | exact HB.out | apply below_alloc | apply pw_below_drewN | apply below_drew1 | refine below_set ?_ GE101.out) | exact HB.out)⟩⟩
    next =>
     rw [if_neg c10] at H
     have c10b0 : decide (x3_1 < (l0_0.length : Int)) = false := yhy c10
     clear c10
     have H' := Aside0.mk H
     clear H
     have hcz15_0 : wr.cell? ⟨gb101, 0, none⟩ = some (.slice A0_0 l0_0.length c0_0) := (blk_cell BK101.out 0).trans rfl
     have hfz15_0 := blk_frozen BK101.out 0
     go_wp2
     go_loopg [4] k1 (fun kq v4 w' => ∃ (x4_2 : Int), v4 = .int .i64 x4_2 ∧ Aside0 (spec_IsTriangulation.l1 kq x4_2 l0_0 = some r) ∧ Aside0 (kq ≤ k1) ∧ Aside0 (w'.heap[gb101]? = some (.cells #[(.slice A0_0 l0_0.length c0_0)] 28 (0, 0))) ∧ Aside0 (Below w.heap.size w w'))
     case atStart => exact ⟨(0), (by first | rfl | (simp; done) | (simp [*]; done)), H', ⟨yoy _⟩, ⟨by (with_reducible repeat (first | refine blk_drewN ?_ _ | refine blk_drew ?_ | refine blk_alloc ?_ _)); exact BK101.out⟩, ⟨by repeat (first | (with_reducible first | exact HB.out | apply below_alloc | apply pw_below_drewN | apply below_drew1 | refine below_set ?_ GE101.out) | exact HB.out)⟩⟩
     case round =>
      clear H'
      try clear c1
      try clear p1
      try clear q1
      try clear hx1
      try clear p2
      try clear c3
      try clear c3b0
      try clear c5
      try clear c6
      try clear p6
      try clear c10
      try clear c10b0
      try clear p10
      try clear q10
      try clear hx10
      try clear c11
      try clear c11b0
      try clear c12
      try clear c12b0
      try clear c12b1
      try clear hcz13_0
      try clear hcz14_0
      try clear hcz15_0
      try clear hcz5_0
      try clear hcz8_0
      try clear hfz13_0
      try clear hfz14_0
      try clear hfz15_0
      try clear hfz5_0
      try clear hfz8_0
      try clear hx103_0
      try clear p103
      try clear p2
      try clear q103
      obtain ⟨x4_2, rfl, HA, HK2, BK101, HB⟩ := hrel
      cases gk with
      | zero => exact absurd HA.out (by simp [spec_IsTriangulation.l1])
      | succ k2 =>
       have H := HA.out
       clear HA
       simp only [spec_IsTriangulation.l1] at H
       replace H := ydy.mp H
       obtain ⟨t104, A160, H⟩ := H
       replace H : (if x4_2 < t104 then (spec_IsTriangulation.l2 k2 x4_2 0 l0_0) else (some true)) = some r := H
       have A16 := Aside0.mk A160
       clear A160
       by_cases c17 : x4_2 < t104
       rotate_left
       next =>
        rw [if_neg c17] at H
        have c17b0 : decide (x4_2 < t104) = false := yhy c17
        clear c17
        obtain rfl := yey H
        have hcz99_0 : wr.cell? ⟨gb101, 0, none⟩ = some (.slice A0_0 l0_0.length c0_0) := (blk_cell BK101.out 0).trans rfl
        have hfz99_0 := blk_frozen BK101.out 0
        go_wp2_with (first | ((with_reducible refine gate_callee (f := 65) rfl ?_); refine goesL_ (some 28) rfl rfl Try.func65 (by kernel_rfl) rfl #[.agg #[.slice A0_0 l0_0.length c0_0]] rfl (by (try simp only [yiy, yjy, yky]); first | done | rfl | (simp only [yly, ymy]; rfl)) ?_; (with_reducible refine (spec_l07Tets.calls _ _ l0_0 t104 _ ?side1 ?side2 A16.out).mono ?_); (case side1 => repeat (first | exact (Kd.C_below HR0_0.out HB.out) | (with_reducible refine Kd.C_alloc ?_ _) | (with_reducible refine Kd.C_drewN ?_ _) | (with_reducible refine Kd.C_drew ?_))); (case side2 => exact HC0_0.out); rintro e w100 ⟨rfl, hb⟩; refine ⟨_, rfl, ?_⟩; have n0_ := Aside0.mk (blk_below (g := gb101) (o := .cells #[.slice A0_0 l0_0.length c0_0] 28 (0, 0)) (by (with_reducible repeat (first | refine blk_drewN ?_ _ | refine blk_drew ?_ | refine blk_alloc ?_ _)); exact BK101.out) hb); have n1_ := Aside0.mk (below_step (by repeat (first | (with_reducible first | exact HB.out | apply below_alloc | apply pw_below_drewN | apply below_drew1 | refine below_set ?_ GE101.out) | exact HB.out)) hb); clear BK101; clear HB; have BK101 := n0_; have HB := n1_; clear n0_ n1_; (try clear hb); (try clear hb2); (try clear hk); (try clear hi)))
        go_ret
        exact ⟨by first | rfl | (simp [errW_none, errW_some] <;> rfl) | (simp [*, errW_none, errW_some] <;> rfl), by repeat (first | (with_reducible first | exact HB.out | apply below_alloc | apply pw_below_drewN | apply below_drew1 | refine below_set ?_ GE101.out) | exact HB.out)⟩
       rw [if_pos c17] at H
       have c17b0 : decide (x4_2 < t104) = true := ygy c17
       clear c17
       have H' := Aside0.mk H
       clear H
       have hcz18_0 : wr.cell? ⟨gb101, 0, none⟩ = some (.slice A0_0 l0_0.length c0_0) := (blk_cell BK101.out 0).trans rfl
       have hfz18_0 := blk_frozen BK101.out 0
       go_wp2_with (first | ((with_reducible refine gate_callee (f := 65) rfl ?_); refine goesL_ (some 28) rfl rfl Try.func65 (by kernel_rfl) rfl #[.agg #[.slice A0_0 l0_0.length c0_0]] rfl (by (try simp only [yiy, yjy, yky]); first | done | rfl | (simp only [yly, ymy]; rfl)) ?_; (with_reducible refine (spec_l07Tets.calls _ _ l0_0 t104 _ ?side1 ?side2 A16.out).mono ?_); (case side1 => repeat (first | exact (Kd.C_below HR0_0.out HB.out) | (with_reducible refine Kd.C_alloc ?_ _) | (with_reducible refine Kd.C_drewN ?_ _) | (with_reducible refine Kd.C_drew ?_))); (case side2 => exact HC0_0.out); rintro e w19 ⟨rfl, hb⟩; refine ⟨_, rfl, ?_⟩; have n0_ := Aside0.mk (blk_below (g := gb101) (o := .cells #[.slice A0_0 l0_0.length c0_0] 28 (0, 0)) (by (with_reducible repeat (first | refine blk_drewN ?_ _ | refine blk_drew ?_ | refine blk_alloc ?_ _)); exact BK101.out) hb); have n1_ := Aside0.mk (below_step (by repeat (first | (with_reducible first | exact HB.out | apply below_alloc | apply pw_below_drewN | apply below_drew1 | refine below_set ?_ GE101.out) | exact HB.out)) hb); clear BK101; clear HB; have BK101 := n0_; have HB := n1_; clear n0_ n1_; (try clear hb); (try clear hb2); (try clear hk); (try clear hi)))
       go_loopg [5] k2 (fun kq v5 w' => ∃ (x5_3 : Int), v5 = .int .i64 x5_3 ∧ Aside0 (spec_IsTriangulation.l2 kq x4_2 x5_3 l0_0 = some r) ∧ Aside0 (kq ≤ k2) ∧ Aside0 (w'.heap[gb101]? = some (.cells #[(.slice A0_0 l0_0.length c0_0)] 28 (0, 0))) ∧ Aside0 (Below w.heap.size w w'))
       case atStart => exact ⟨(0), (by first | rfl | (simp; done) | (simp [*]; done)), H', ⟨yoy _⟩, ⟨by (with_reducible repeat (first | refine blk_drewN ?_ _ | refine blk_drew ?_ | refine blk_alloc ?_ _)); exact BK101.out⟩, ⟨by repeat (first | (with_reducible first | exact HB.out | apply below_alloc | apply pw_below_drewN | apply below_drew1 | refine below_set ?_ GE101.out) | exact HB.out)⟩⟩
       case round =>
        clear H'
        try clear c1
        try clear p1
        try clear q1
        try clear hx1
        try clear p2
        try clear c3
        try clear c3b0
        try clear c5
        try clear c6
        try clear p6
        try clear c10
        try clear c10b0
        try clear p10
        try clear q10
        try clear hx10
        try clear c11
        try clear c11b0
        try clear c12
        try clear c12b0
        try clear c12b1
        try clear c17
        try clear c17b0
        try clear hcz13_0
        try clear hcz14_0
        try clear hcz15_0
        try clear hcz18_0
        try clear hcz5_0
        try clear hcz8_0
        try clear hfz13_0
        try clear hfz14_0
        try clear hfz15_0
        try clear hfz18_0
        try clear hfz5_0
        try clear hfz8_0
        try clear hx103_0
        try clear p1
        try clear p10
        try clear p103
        try clear p2
        try clear p6
        try clear q1
        try clear q10
        try clear q103
        obtain ⟨x5_3, rfl, HA, HK3, BK101, HB⟩ := hrel
        cases gk with
        | zero => exact absurd HA.out (by simp [spec_IsTriangulation.l2])
        | succ k3 =>
         have H := HA.out
         clear HA
         simp only [spec_IsTriangulation.l2] at H
         by_cases c20 : x5_3 < 4
         rotate_left
         next =>
          rw [if_neg c20] at H
          have c20b0 : decide (x5_3 < 4) = false := yhy c20
          clear c20
          have H' := Aside0.mk H
          clear H
          go_wp2
          go_roundg k3
          case measure => have := HK1.out; have := HK2.out; have := HK3.out; omega
          case rel => exact ⟨(wrap64 (x4_2 + 1)), (by first | rfl | (simp; done) | (simp [*]; done)), H', ⟨by have := HK1.out; have := HK2.out; have := HK3.out; omega⟩, ⟨by (with_reducible repeat (first | refine blk_drewN ?_ _ | refine blk_drew ?_ | refine blk_alloc ?_ _)); exact BK101.out⟩, ⟨by repeat (first | (with_reducible first | exact HB.out | apply below_alloc | apply pw_below_drewN | apply below_drew1 | refine below_set ?_ GE101.out) | exact HB.out)⟩⟩
         rw [if_pos c20] at H
         have c20b0 : decide (x5_3 < 4) = true := ygy c20
         clear c20
         by_cases c21 : 0 ≤ x4_2
         rotate_left
         next =>
          rw [if_neg c21] at H
          exact absurd H (by simp)
         rw [if_pos c21] at H
         have c21b0 : decide (0 ≤ x4_2) = true := ygy c21
         clear c21
         by_cases c22 : x4_2 < (l0_0.length : Int)
         rotate_left
         next =>
          rw [if_neg c22] at H
          exact absurd H (by simp)
         rw [if_pos c22] at H
         have c22b0 : decide (x4_2 < (l0_0.length : Int)) = true := ygy c22
         clear c22
         by_cases c23 : 0 ≤ x5_3
         rotate_left
         next =>
          rw [if_neg c23] at H
          exact absurd H (by simp)
         rw [if_pos c23] at H
         have c23b0 : decide (0 ≤ x5_3) = true := ygy c23
         clear c23
         by_cases c24 : x5_3 < ((rd_LFace l0_0 x4_2).length : Int)
         rotate_left
         next =>
          rw [if_neg c24] at H
          exact absurd H (by simp)
         rw [if_pos c24] at H
         have c24b0 : decide (x5_3 < ((rd_LFace l0_0 x4_2).length : Int)) = true := ygy c24
         clear c24
         have HC25 := Aside0.mk H
         clear H
         have hcz26_0 : wr.cell? ⟨gb101, 0, none⟩ = some (.slice A0_0 l0_0.length c0_0) := (blk_cell BK101.out 0).trans rfl
         have hfz26_0 := blk_frozen BK101.out 0
         have p105 : 0 ≤ (x4_2 : Int) := of_decide_eq_true (by first | (with_reducible assumption) | assumption)
         have q105 : x4_2 < (l0_0.length : Int) := of_decide_eq_true (by first | (with_reducible assumption) | assumption)
         obtain ⟨ad105, A105_0, c105_0, e105, hx105_0, hl105_0, hi105_0⟩ := at_LFace HR0_0.out x4_2 p105 q105
         cases e105
         replace hx105_0 := (HB.out.cell (yny w _ hx105_0)).trans hx105_0
         have HR105_0 := Aside0.mk hi105_0
         have HC105_0 := Aside0.mk hl105_0
         clear hi105_0 hl105_0
         replace p105 := eq_true p105
         replace q105 := eq_true q105
         have p106 : 0 ≤ (x5_3 : Int) := of_decide_eq_true (by first | (with_reducible assumption) | assumption)
         have q106 : x5_3 < ((rd_LFace l0_0 x4_2).length : Int) := of_decide_eq_true (by first | (with_reducible assumption) | assumption)
         obtain ⟨ad106, e106, hx106_0, hx106_1⟩ := at_Face HR105_0.out x5_3 p106 q106
         cases e106
         replace hx106_0 := (HB.out.cell (yny w _ hx106_0)).trans hx106_0
         replace hx106_1 := (HB.out.cell (yny w _ hx106_1)).trans hx106_1
         replace p106 := eq_true p106
         replace q106 := eq_true q106
         go_upto_region 15 with (first | ((with_reducible refine gate_dst (N := 6) rfl ?_); refine box_event ?hg (N := 6) ?hd (cs := #[.int .i64 0, .int .i64 0]) (t := 74) ?hr ?_; (case hd => rfl); (case hg => rfl); (case hr => first | (go_simp; done) | (go_simp; rfl)); intro gb107 hg w27 hbox hb; have n0_ := Aside0.mk (blk_below (g := gb101) (o := .cells #[.slice (some ad105) l0_0.length c0_0] 28 (0, 0)) (by (with_reducible repeat (first | refine blk_drewN ?_ _ | refine blk_drew ?_ | refine blk_alloc ?_ _)); exact BK101.out) hb); have n1_ := Aside0.mk (below_step (by repeat (first | (with_reducible first | exact HB.out | apply below_alloc | apply pw_below_drewN | apply below_drew1 | refine below_set ?_ GE101.out) | exact HB.out)) hb); have n2_ := Aside0.mk (hbox); have n3_ := Aside0.mk ((by rw [hg]; exact (below_size (by repeat (first | (with_reducible first | exact HB.out | apply below_alloc | apply pw_below_drewN | apply below_drew1 | refine below_set ?_ GE101.out) | exact HB.out))) : w.heap.size ≤ gb107)); have n4_ := Aside0.mk ((by rw [hg]; exact (below_size (by repeat (first | (with_reducible first | exact HB.out | apply below_alloc | apply pw_below_drewN | apply below_drew1 | refine below_set ?_ GE101.out) | exact HB.out))) : w.heap.size ≤ gb107)); have n5_ := Aside0.mk ((by rw [hg]; exact Nat.ne_of_lt (blk_lt (g := gb101) (o := .cells #[.slice (some ad105) l0_0.length c0_0] 28 (0, 0)) (by (with_reducible repeat (first | refine blk_drewN ?_ _ | refine blk_drew ?_ | refine blk_alloc ?_ _)); exact BK101.out)) : gb101 ≠ gb107)); have n6_ := Aside0.mk ((by rw [hg]; exact Nat.ne_of_gt (blk_lt (g := gb101) (o := .cells #[.slice (some ad105) l0_0.length c0_0] 28 (0, 0)) (by (with_reducible repeat (first | refine blk_drewN ?_ _ | refine blk_drew ?_ | refine blk_alloc ?_ _)); exact BK101.out)) : gb107 ≠ gb101)); clear BK101; clear HB; have BK101 := n0_; have HB := n1_; have BK107 := n2_; have GW107 := n3_; have GE107 := n4_; have NB101_107 := n5_; have NB107_101 := n6_; clear n0_ n1_ n2_ n3_ n4_ n5_ n6_; clear hb hbox hg; have hnb28 := NB107_101.out; have hnc28 := NB101_107.out; have hcz29_0 : w27.cell? ⟨gb107, 0, none⟩ = some (.int .i64 0) := (blk_cell BK107.out 0).trans rfl; have hcz29_1 : w27.cell? ⟨gb107, 1, none⟩ = some (.int .i64 0) := (blk_cell BK107.out 1).trans rfl; have hfz29_0 := blk_frozen BK107.out 0; have hfz29_1 := blk_frozen BK107.out 1))
         (try simp only [Act.put, yay, yby, ycy])
         go_cut [51] (fun v51 wc => ∃ (kq : Nat) (x51_24 : Bool), v51 = .bool x51_24 ∧ Aside0 (spec_IsTriangulation.j3 kq x4_2 x5_3 x51_24 l0_0 ((rd_Face (rd_LFace l0_0 x4_2) x5_3).f0) ((rd_Face (rd_LFace l0_0 x4_2) x5_3).f1) = some r) ∧ Aside0 (kq ≤ k3) ∧ Aside0 (wc.heap[gb101]? = some (.cells #[(.slice (some ad105) l0_0.length c0_0)] 28 (0, 0))) ∧ Aside0 (wc.heap[gb107]? = some (.cells #[.int .i64 ((rd_Face (rd_LFace l0_0 x4_2) x5_3).f0), .int .i64 ((rd_Face (rd_LFace l0_0 x4_2) x5_3).f1)] 74 (0, 0))) ∧ Aside0 (Below w.heap.size w wc))
         case first =>
          have H := HC25.out
          clear HC25
          by_cases c30 : ((rd_Face (rd_LFace l0_0 x4_2) x5_3).f0) = (-1)
          rotate_left
          next =>
           rw [if_neg c30] at H
           have c30b0 : (((rd_Face (rd_LFace l0_0 x4_2) x5_3).f0) == (-1)) = false := beq_eq_false_iff_ne.mpr c30
           have c30b1 : (((rd_Face (rd_LFace l0_0 x4_2) x5_3).f0) != (-1)) = true := bne_iff_ne.mpr c30
           (first | rw [c30b0] | (simp only [i64_w, i32_w]; rw [c30b0]) | skip)
           have H' := Aside0.mk H
           clear H
           have hnb33 := NB107_101.out
           have hnc33 := NB101_107.out
           have hcz34_0 : w27.cell? ⟨gb107, 0, none⟩ = some (.int .i64 0) := (blk_cell BK107.out 0).trans rfl
           have hcz34_1 : w27.cell? ⟨gb107, 1, none⟩ = some (.int .i64 0) := (blk_cell BK107.out 1).trans rfl
           have hfz34_0 := blk_frozen BK107.out 0
           have hfz34_1 := blk_frozen BK107.out 1
           go_wp2
           go_meet
           case rel => exact ⟨_, (false), (by first | rfl | (simp; done) | (simp [*]; done)), H', ⟨by have := HK1.out; have := HK2.out; have := HK3.out; first | omega | exact yoy _⟩, ⟨by (with_reducible repeat (first | refine blk_drewN ?_ _ | refine blk_drew ?_ | refine blk_alloc ?_ _)); refine blk_far ?_ NB101_107.out _; (with_reducible repeat (first | refine blk_drewN ?_ _ | refine blk_drew ?_ | refine blk_alloc ?_ _)); refine blk_far ?_ NB101_107.out _; (with_reducible repeat (first | refine blk_drewN ?_ _ | refine blk_drew ?_ | refine blk_alloc ?_ _)); exact BK101.out⟩, ⟨by (with_reducible repeat (first | refine blk_drewN ?_ _ | refine blk_drew ?_ | refine blk_alloc ?_ _)); refine blk_put (cs := #[.int .i64 ((rd_Face (rd_LFace l0_0 x4_2) x5_3).f0), .int .i64 0]) ?_ 1 _ rfl; (with_reducible repeat (first | refine blk_drewN ?_ _ | refine blk_drew ?_ | refine blk_alloc ?_ _)); refine blk_put (cs := #[.int .i64 0, .int .i64 0]) ?_ 0 _ rfl; (with_reducible repeat (first | refine blk_drewN ?_ _ | refine blk_drew ?_ | refine blk_alloc ?_ _)); exact BK107.out⟩, ⟨by repeat (first | (with_reducible first | exact HB.out | apply below_alloc | apply pw_below_drewN | apply below_drew1 | refine below_set ?_ GE101.out | refine below_set ?_ GE107.out) | exact HB.out)⟩⟩
          rw [if_pos c30] at H
          have c30b0 : (((rd_Face (rd_LFace l0_0 x4_2) x5_3).f0) == (-1)) = true := beq_iff_eq.mpr c30
          have c30b1 : (((rd_Face (rd_LFace l0_0 x4_2) x5_3).f0) != (-1)) = false := bne_eq_false_iff_eq.mpr c30
          clear c30
          (first | rw [c30b0] | (simp only [i64_w, i32_w]; rw [c30b0]) | skip)
          have H' := Aside0.mk H
          clear H
          have hnb31 := NB107_101.out
          have hnc31 := NB101_107.out
          have hcz32_0 : w27.cell? ⟨gb107, 0, none⟩ = some (.int .i64 0) := (blk_cell BK107.out 0).trans rfl
          have hcz32_1 : w27.cell? ⟨gb107, 1, none⟩ = some (.int .i64 0) := (blk_cell BK107.out 1).trans rfl
          have hfz32_0 := blk_frozen BK107.out 0
          have hfz32_1 := blk_frozen BK107.out 1
          go_wp2
          go_meet
          case rel => exact ⟨_, ((((rd_Face (rd_LFace l0_0 x4_2) x5_3).f1) == 0)), (by first | rfl | (simp; done) | (simp [*]; done)), H', ⟨by have := HK1.out; have := HK2.out; have := HK3.out; first | omega | exact yoy _⟩, ⟨by (with_reducible repeat (first | refine blk_drewN ?_ _ | refine blk_drew ?_ | refine blk_alloc ?_ _)); refine blk_far ?_ NB101_107.out _; (with_reducible repeat (first | refine blk_drewN ?_ _ | refine blk_drew ?_ | refine blk_alloc ?_ _)); refine blk_far ?_ NB101_107.out _; (with_reducible repeat (first | refine blk_drewN ?_ _ | refine blk_drew ?_ | refine blk_alloc ?_ _)); exact BK101.out⟩, ⟨by (with_reducible repeat (first | refine blk_drewN ?_ _ | refine blk_drew ?_ | refine blk_alloc ?_ _)); refine blk_put (cs := #[.int .i64 ((rd_Face (rd_LFace l0_0 x4_2) x5_3).f0), .int .i64 0]) ?_ 1 _ rfl; (with_reducible repeat (first | refine blk_drewN ?_ _ | refine blk_drew ?_ | refine blk_alloc ?_ _)); refine blk_put (cs := #[.int .i64 0, .int .i64 0]) ?_ 0 _ rfl; (with_reducible repeat (first | refine blk_drewN ?_ _ | refine blk_drew ?_ | refine blk_alloc ?_ _)); exact BK107.out⟩, ⟨by repeat (first | (with_reducible first | exact HB.out | apply below_alloc | apply pw_below_drewN | apply below_drew1 | refine below_set ?_ GE101.out | refine below_set ?_ GE107.out) | exact HB.out)⟩⟩
         case rest =>
          clear HC25
          try clear c1
          try clear p1
          try clear q1
          try clear hx1
          try clear c2
          try clear p2
          try clear c3
          try clear c3b0
          try clear c5
          try clear c6
          try clear p6
          try clear c10
          try clear c10b0
          try clear p10
          try clear q10
          try clear hx10
          try clear c11
          try clear c11b0
          try clear c12
          try clear c12b0
          try clear c12b1
          try clear c17
          try clear c17b0
          try clear c20
          try clear c20b0
          try clear c21
          try clear c21b0
          try clear c22
          try clear c22b0
          try clear c23
          try clear c23b0
          try clear c24
          try clear c24b0
          try clear c28
          try clear c30
          try clear c30b0
          try clear c30b1
          try clear c31
          try clear c33
          try clear hcz13_0
          try clear hcz14_0
          try clear hcz15_0
          try clear hcz18_0
          try clear hcz26_0
          try clear hcz29_0
          try clear hcz29_1
          try clear hcz32_0
          try clear hcz32_1
          try clear hcz34_0
          try clear hcz34_1
          try clear hcz5_0
          try clear hcz8_0
          try clear hfz13_0
          try clear hfz14_0
          try clear hfz15_0
          try clear hfz18_0
          try clear hfz26_0
          try clear hfz29_0
          try clear hfz29_1
          try clear hfz32_0
          try clear hfz32_1
          try clear hfz34_0
          try clear hfz34_1
          try clear hfz5_0
          try clear hfz8_0
          try clear hx103_0
          try clear hx105_0
          try clear hx106_0
          try clear hx106_1
          try clear p1
          try clear p10
          try clear p103
          try clear p105
          try clear p106
          try clear p2
          try clear p6
          try clear q1
          try clear q10
          try clear q103
          try clear q105
          try clear q106
          obtain ⟨kq, x51_24, rfl, HA, HJ24, BK101, BK107, HB⟩ := hcut
          cases kq with
          | zero => exact absurd HA.out (by simp [spec_IsTriangulation.j3])
          | succ kj24 =>
           have H := HA.out
           clear HA
           simp only [spec_IsTriangulation.j3] at H
           by_cases c35 : x51_24 = true
           next =>
            subst c35
            have H1 : (spec_IsTriangulation.l2 kj24 x4_2 (wrap64 (x5_3 + 1)) l0_0) = some r := by rw [if_pos rfl] at H; exact H
            clear H
            have H := H1
            clear H1
            have H' := Aside0.mk H
            clear H
            go_wp2
            go_roundg kj24
            case measure => have := HK1.out; have := HK2.out; have := HK3.out; have := HJ24.out; omega
            case rel => exact ⟨(wrap64 (x5_3 + 1)), (by first | rfl | (simp; done) | (simp [*]; done)), H', ⟨by have := HK1.out; have := HK2.out; have := HK3.out; have := HJ24.out; omega⟩, ⟨by (with_reducible repeat (first | refine blk_drewN ?_ _ | refine blk_drew ?_ | refine blk_alloc ?_ _)); exact BK101.out⟩, ⟨by repeat (first | (with_reducible first | exact HB.out | apply below_alloc | apply pw_below_drewN | apply below_drew1 | refine below_set ?_ GE101.out | refine below_set ?_ GE107.out) | exact HB.out)⟩⟩
           next =>
            replace c35 := Bool.eq_false_iff.mpr c35
            subst c35
            have H1 : ((spec_l07Tets.f l0_0).bind fun t108 => ((spec_l07In.f ((rd_Face (rd_LFace l0_0 x4_2) x5_3).f0) 0 (wrap64 (t108 - 1))).bind fun t109 => (if t109 = true then ((spec_l06Valid.f ((rd_Face (rd_LFace l0_0 x4_2) x5_3).f1)).bind fun t110 => (spec_IsTriangulation.j4 kj24 x4_2 x5_3 (!t110) l0_0 ((rd_Face (rd_LFace l0_0 x4_2) x5_3).f0) ((rd_Face (rd_LFace l0_0 x4_2) x5_3).f1))) else (spec_IsTriangulation.j4 kj24 x4_2 x5_3 true l0_0 ((rd_Face (rd_LFace l0_0 x4_2) x5_3).f0) ((rd_Face (rd_LFace l0_0 x4_2) x5_3).f1))))) = some r := by rw [if_neg (show ¬ (false = true) by decide)] at H; exact H
            clear H
            have H := H1
            clear H1
            have HC36 := Aside0.mk H
            clear H
            go_upto_region 16 with (fail)
            go_cut [64] (fun v64 wc => ∃ (kq : Nat) (x64_35 : Bool), v64 = .bool x64_35 ∧ Aside0 (spec_IsTriangulation.j4 kq x4_2 x5_3 x64_35 l0_0 ((rd_Face (rd_LFace l0_0 x4_2) x5_3).f0) ((rd_Face (rd_LFace l0_0 x4_2) x5_3).f1) = some r) ∧ Aside0 (kq ≤ kj24) ∧ Aside0 (wc.heap[gb101]? = some (.cells #[(.slice (some ad105) l0_0.length c0_0)] 28 (0, 0))) ∧ Aside0 (wc.heap[gb107]? = some (.cells #[.int .i64 ((rd_Face (rd_LFace l0_0 x4_2) x5_3).f0), .int .i64 ((rd_Face (rd_LFace l0_0 x4_2) x5_3).f1)] 74 (0, 0))) ∧ Aside0 (Below w.heap.size w wc))
            case first =>
             have H := HC36.out
             clear HC36
             replace H := ydy.mp H
             obtain ⟨t108, A370, H⟩ := H
             replace H : ((spec_l07In.f ((rd_Face (rd_LFace l0_0 x4_2) x5_3).f0) 0 (wrap64 (t108 - 1))).bind fun t109 => (if t109 = true then ((spec_l06Valid.f ((rd_Face (rd_LFace l0_0 x4_2) x5_3).f1)).bind fun t110 => (spec_IsTriangulation.j4 kj24 x4_2 x5_3 (!t110) l0_0 ((rd_Face (rd_LFace l0_0 x4_2) x5_3).f0) ((rd_Face (rd_LFace l0_0 x4_2) x5_3).f1))) else (spec_IsTriangulation.j4 kj24 x4_2 x5_3 true l0_0 ((rd_Face (rd_LFace l0_0 x4_2) x5_3).f0) ((rd_Face (rd_LFace l0_0 x4_2) x5_3).f1)))) = some r := H
             have A37 := Aside0.mk A370
             clear A370
             replace H := ydy.mp H
             obtain ⟨t109, A380, H⟩ := H
             replace H : (if t109 = true then ((spec_l06Valid.f ((rd_Face (rd_LFace l0_0 x4_2) x5_3).f1)).bind fun t110 => (spec_IsTriangulation.j4 kj24 x4_2 x5_3 (!t110) l0_0 ((rd_Face (rd_LFace l0_0 x4_2) x5_3).f0) ((rd_Face (rd_LFace l0_0 x4_2) x5_3).f1))) else (spec_IsTriangulation.j4 kj24 x4_2 x5_3 true l0_0 ((rd_Face (rd_LFace l0_0 x4_2) x5_3).f0) ((rd_Face (rd_LFace l0_0 x4_2) x5_3).f1))) = some r := H
             have A38 := Aside0.mk A380
             clear A380
             by_cases c39 : t109 = true
             rotate_left
             next =>
              replace c39 := Bool.eq_false_iff.mpr c39
              subst c39
              have H1 : (spec_IsTriangulation.j4 kj24 x4_2 x5_3 true l0_0 ((rd_Face (rd_LFace l0_0 x4_2) x5_3).f0) ((rd_Face (rd_LFace l0_0 x4_2) x5_3).f1)) = some r := by rw [if_neg (show ¬ (false = true) by decide)] at H; exact H
              clear H
              have H := H1
              clear H1
              have H' := Aside0.mk H
              clear H
              try go_wp2
              have n0_ := Aside0.mk (blk_drew BK101.out)
              have n1_ := Aside0.mk (blk_drew BK107.out)
              have n2_ := Aside0.mk (below_drew1 HB.out)
              clear BK101
              clear BK107
              clear HB
              have BK101 := n0_
              have BK107 := n1_
              have HB := n2_
              clear n0_ n1_ n2_
              refine start_ (n := 13) (S := fun w' => w'.cell? ⟨gb107, 0, none⟩ = some (.int .i64 ((rd_Face (rd_LFace l0_0 x4_2) x5_3).f0)) ∧ w'.cell? ⟨gb107, 1, none⟩ = some (.int .i64 ((rd_Face (rd_LFace l0_0 x4_2) x5_3).f1)) ∧ w'.cell? ⟨gb101, 0, none⟩ = some (.slice (some ad105) l0_0.length c0_0)) (ds := []) #[false, false, false, false, false, false, false, false, false, false, false, false, false] (by kernel_rfl) rfl rfl ⟨(blk_cell BK107.out 0).trans rfl, (blk_cell BK107.out 1).trans rfl, (blk_cell BK101.out 0).trans rfl⟩ (fun hHeld => ?_); refine with_tabW spec_IsTriangulation.tab16 spec_IsTriangulation.bits16 (fun HT_ HW_ => ?_)
              generalize wc.drew = w43 at BK101 BK107 HB hHeld ⊢
              refine pure_ (i := 0) (N := some 52) (v := ?_) (a' := ?_) #[true, false, false, false, false, false, false, false, false, false, false, false, false] rfl rfl (any_of HT_.out (by kernel_rfl)) (fun _ _ _ h => h) (Or.inl ⟨by rfl, ?_⟩) ?_ ?_
              rotate_left
              next =>
               intro w'
               go_simp
               with_reducible rfl
              rotate_left
              next =>
               simp only [Act.put, yay, yby, ycy, i64_w, i32_w]
               rfl
              refine take_ (i := 1) (N := some 53) (v := ?_) (a' := ?_) #[true, true, false, false, false, false, false, false, false, false, false, false, false] rfl rfl (take_ofW HT_.out HW_.out (by kernel_rfl)) (fun _ _ _ h => h) (Or.inl ⟨by rfl, ?_⟩) hHeld ?_ ?_
              rotate_left
              next =>
               rintro w' ⟨s0, s1, s2⟩
               go_simp
               with_reducible rfl
              rotate_left
              next =>
               simp only [Act.put, yay, yby, ycy, i64_w, i32_w]
               rfl
              refine take_ (i := 2) (N := some 54) (v := ?_) (a' := ?_) #[true, true, true, false, false, false, false, false, false, false, false, false, false] rfl rfl (take_ofW HT_.out HW_.out (by kernel_rfl)) (fun _ _ _ h => h) (Or.inl ⟨by rfl, ?_⟩) hHeld ?_ ?_
              rotate_left
              next =>
               rintro w' ⟨s0, s1, s2⟩
               go_simp
               with_reducible rfl
              rotate_left
              next =>
               simp only [Act.put, yay, yby, ycy, i64_w, i32_w]
               rfl
              refine one_ (i := 3) (N := some 55) #[true, true, true, true, false, false, false, false, false, false, false, false, false] rfl rfl (one_of HT_.out (by kernel_rfl)) (by decide) (fun K hK => ?_)
              refine goes_ Try.func65 (by kernel_rfl) rfl #[.agg #[.slice (some ad105) l0_0.length c0_0]] (by rfl) rfl rfl (by (try simp only [yiy, yjy, yky]); first | done | rfl | (simp only [yly, ymy]; rfl)) ?_
              with_reducible refine (spec_l07Tets.calls _ _ l0_0 t108 _ ?side1 ?side2 A37.out).mono ?_
              (case side1 => repeat (first | exact (Kd.C_below HR0_0.out HB.out) | (with_reducible refine Kd.C_alloc ?_ _) | (with_reducible refine Kd.C_drewN ?_ _) | (with_reducible refine Kd.C_drew ?_)))
              (case side2 => exact HC0_0.out)
              rintro e w44 ⟨rfl, hb⟩
              refine ⟨_, rfl, ?_⟩
              have n0_ := Aside0.mk (blk_below (g := gb101) (o := .cells #[.slice (some ad105) l0_0.length c0_0] 28 (0, 0)) (by (with_reducible repeat (first | refine blk_drewN ?_ _ | refine blk_drew ?_ | refine blk_alloc ?_ _)); exact BK101.out) hb)
              have n1_ := Aside0.mk (blk_below (g := gb107) (o := .cells #[.int .i64 ((rd_Face (rd_LFace l0_0 x4_2) x5_3).f0), .int .i64 ((rd_Face (rd_LFace l0_0 x4_2) x5_3).f1)] 74 (0, 0)) (by (with_reducible repeat (first | refine blk_drewN ?_ _ | refine blk_drew ?_ | refine blk_alloc ?_ _)); exact BK107.out) hb)
              have n2_ := Aside0.mk (below_step (by repeat (first | (with_reducible first | exact HB.out | apply below_alloc | apply pw_below_drewN | apply below_drew1 | refine below_set ?_ GE101.out | refine below_set ?_ GE107.out) | exact HB.out)) hb)
              clear BK101
              clear BK107
              clear HB
              have BK101 := n0_
              have BK107 := n1_
              have HB := n2_
              clear n0_ n1_ n2_
              (try clear hb)
              (try clear hb2)
              (try clear hk)
              (try clear hi)
              refine hK.out _ _ ⟨(blk_cell BK107.out 0).trans rfl, (blk_cell BK107.out 1).trans rfl, (blk_cell BK101.out 0).trans rfl⟩ (fun hHeld => ?_)
              clear hK K
              refine norm_ (a' := ?_) ?_ ?_
              rotate_left
              next =>
               show Act.put _ (some 55) _ = _
               simp only [Act.put, yay, yby, ycy, i64_w, i32_w]
               rfl
              refine pure_ (i := 4) (N := some 56) (v := ?_) (a' := ?_) #[true, true, true, true, true, false, false, false, false, false, false, false, false] rfl rfl (any_of HT_.out (by kernel_rfl)) (fun _ _ _ h => h) (Or.inl ⟨by rfl, ?_⟩) ?_ ?_
              rotate_left
              next =>
               intro w'
               go_simp
               with_reducible rfl
              rotate_left
              next =>
               simp only [Act.put, yay, yby, ycy, i64_w, i32_w]
               rfl
              refine one_ (i := 5) (N := some 57) #[true, true, true, true, true, true, false, false, false, false, false, false, false] rfl rfl (one_of HT_.out (by kernel_rfl)) (by decide) (fun K hK => ?_)
              refine goes_ Try.func66 (by kernel_rfl) rfl #[.int .i64 ((rd_Face (rd_LFace l0_0 x4_2) x5_3).f0), .int .i64 0, .int .i64 (wrap64 (t108 - 1))] (by rfl) rfl rfl (by (try simp only [yiy, yjy, yky]); first | done | rfl | (simp only [yly, ymy]; rfl)) ?_
              with_reducible refine (spec_l07In.calls ((rd_Face (rd_LFace l0_0 x4_2) x5_3).f0) 0 (wrap64 (t108 - 1)) false _ A38.out).mono ?_
              rintro e w' ⟨rfl, ⟨nd, rfl⟩⟩
              refine ⟨_, rfl, ?_⟩
              refine hK.out _ _ ⟨(blk_cell BK107.out 0).trans rfl, (blk_cell BK107.out 1).trans rfl, (blk_cell BK101.out 0).trans rfl⟩ (fun hHeld => ?_)
              clear hK K
              refine norm_ (a' := ?_) ?_ ?_
              rotate_left
              next =>
               show Act.put _ (some 57) _ = _
               simp only [Act.put, yay, yby, ycy, i64_w, i32_w]
               rfl
              refine pure_ (i := 6) (N := some 58) (v := ?_) (a' := ?_) #[true, true, true, true, true, true, true, false, false, false, false, false, false] rfl rfl (any_of HT_.out (by kernel_rfl)) (fun _ _ _ h => h) (Or.inl ⟨by rfl, ?_⟩) ?_ ?_
              rotate_left
              next =>
               intro w'
               go_simp
               with_reducible rfl
              rotate_left
              next =>
               simp only [Act.put, yay, yby, ycy, i64_w, i32_w]
               rfl
              refine pure_ (i := 7) (N := some 59) (v := ?_) (a' := ?_) #[true, true, true, true, true, true, true, true, false, false, false, false, false] rfl rfl (any_of HT_.out (by kernel_rfl)) (fun _ _ _ h => h) (Or.inl ⟨by rfl, ?_⟩) ?_ ?_
              rotate_left
              next =>
               intro w'
               go_simp
               with_reducible rfl
              rotate_left
              next =>
               simp only [Act.put, yay, yby, ycy, i64_w, i32_w]
               rfl
              refine pure_ (i := 8) (N := some 60) (v := undef) (a' := ?_) #[true, true, true, true, true, true, true, true, true, false, false, false, false] rfl rfl (any_of HT_.out (by kernel_rfl)) (fun _ _ _ h => h) (Or.inr ⟨by rfl, rfl⟩) ?_ ?_
              rotate_left
              next =>
               simp only [Act.put, yay, yby, ycy, i64_w, i32_w]
               rfl
              refine pure_ (i := 9) (N := some 61) (v := undef) (a' := ?_) #[true, true, true, true, true, true, true, true, true, true, false, false, false] rfl rfl (any_of HT_.out (by kernel_rfl)) (fun _ _ _ h => h) (Or.inr ⟨by rfl, rfl⟩) ?_ ?_
              rotate_left
              next =>
               simp only [Act.put, yay, yby, ycy, i64_w, i32_w]
               rfl
              refine pure_ (i := 10) (N := some 62) (v := undef) (a' := ?_) #[true, true, true, true, true, true, true, true, true, true, true, false, false] rfl rfl (any_of HT_.out (by kernel_rfl)) (fun _ _ _ h => h) (Or.inr ⟨by rfl, rfl⟩) ?_ ?_
              rotate_left
              next =>
               simp only [Act.put, yay, yby, ycy, i64_w, i32_w]
               rfl
              refine pure_ (i := 11) (N := some 63) (v := undef) (a' := ?_) #[true, true, true, true, true, true, true, true, true, true, true, true, false] rfl rfl (any_of HT_.out (by kernel_rfl)) (fun _ _ _ h => h) (Or.inr ⟨by rfl, rfl⟩) ?_ ?_
              rotate_left
              next =>
               simp only [Act.put, yay, yby, ycy, i64_w, i32_w]
               rfl
              refine pure_ (i := 12) (N := some 64) (v := ?_) (a' := ?_) #[true, true, true, true, true, true, true, true, true, true, true, true, true] rfl rfl (any_of HT_.out (by kernel_rfl)) (fun _ _ _ h => h) (Or.inl ⟨by rfl, ?_⟩) ?_ ?_
              rotate_left
              next =>
               intro w'
               go_simp
               with_reducible rfl
              rotate_left
              next =>
               simp only [Act.put, yay, yby, ycy, i64_w, i32_w]
               rfl
              refine done_ (done_of HT_.out (by kernel_rfl)) ?_
              try go_wp2
              go_meet
              case rel => exact ⟨_, (true), (by first | rfl | (simp; done) | (simp [*]; done)), H', ⟨by have := HK1.out; have := HK2.out; have := HK3.out; have := HJ24.out; first | omega | exact yoy _⟩, ⟨by (with_reducible repeat (first | refine blk_drewN ?_ _ | refine blk_drew ?_ | refine blk_alloc ?_ _)); exact BK101.out⟩, ⟨by (with_reducible repeat (first | refine blk_drewN ?_ _ | refine blk_drew ?_ | refine blk_alloc ?_ _)); exact BK107.out⟩, ⟨by repeat (first | (with_reducible first | exact HB.out | apply below_alloc | apply pw_below_drewN | apply below_drew1 | refine below_set ?_ GE101.out | refine below_set ?_ GE107.out) | exact HB.out)⟩⟩
             subst c39
             have H1 : ((spec_l06Valid.f ((rd_Face (rd_LFace l0_0 x4_2) x5_3).f1)).bind fun t110 => (spec_IsTriangulation.j4 kj24 x4_2 x5_3 (!t110) l0_0 ((rd_Face (rd_LFace l0_0 x4_2) x5_3).f0) ((rd_Face (rd_LFace l0_0 x4_2) x5_3).f1))) = some r := by rw [if_pos rfl] at H; exact H
             clear H
             have H := H1
             clear H1
             replace H := ydy.mp H
             obtain ⟨t110, A400, H⟩ := H
             replace H : (spec_IsTriangulation.j4 kj24 x4_2 x5_3 (!t110) l0_0 ((rd_Face (rd_LFace l0_0 x4_2) x5_3).f0) ((rd_Face (rd_LFace l0_0 x4_2) x5_3).f1)) = some r := H
             have A40 := Aside0.mk A400
             clear A400
             have H' := Aside0.mk H
             clear H
             try go_wp2
             have n0_ := Aside0.mk (blk_drew BK101.out)
             have n1_ := Aside0.mk (blk_drew BK107.out)
             have n2_ := Aside0.mk (below_drew1 HB.out)
             clear BK101
             clear BK107
             clear HB
             have BK101 := n0_
             have BK107 := n1_
             have HB := n2_
             clear n0_ n1_ n2_
             refine start_ (n := 13) (S := fun w' => w'.cell? ⟨gb107, 0, none⟩ = some (.int .i64 ((rd_Face (rd_LFace l0_0 x4_2) x5_3).f0)) ∧ w'.cell? ⟨gb107, 1, none⟩ = some (.int .i64 ((rd_Face (rd_LFace l0_0 x4_2) x5_3).f1)) ∧ w'.cell? ⟨gb101, 0, none⟩ = some (.slice (some ad105) l0_0.length c0_0)) (ds := []) #[false, false, false, false, false, false, false, false, false, false, false, false, false] (by kernel_rfl) rfl rfl ⟨(blk_cell BK107.out 0).trans rfl, (blk_cell BK107.out 1).trans rfl, (blk_cell BK101.out 0).trans rfl⟩ (fun hHeld => ?_); refine with_tabW spec_IsTriangulation.tab16 spec_IsTriangulation.bits16 (fun HT_ HW_ => ?_)
             generalize wc.drew = w41 at BK101 BK107 HB hHeld ⊢
             refine pure_ (i := 0) (N := some 52) (v := ?_) (a' := ?_) #[true, false, false, false, false, false, false, false, false, false, false, false, false] rfl rfl (any_of HT_.out (by kernel_rfl)) (fun _ _ _ h => h) (Or.inl ⟨by rfl, ?_⟩) ?_ ?_
             rotate_left
             next =>
              intro w'
              go_simp
              with_reducible rfl
             rotate_left
             next =>
              simp only [Act.put, yay, yby, ycy, i64_w, i32_w]
              rfl
             refine take_ (i := 1) (N := some 53) (v := ?_) (a' := ?_) #[true, true, false, false, false, false, false, false, false, false, false, false, false] rfl rfl (take_ofW HT_.out HW_.out (by kernel_rfl)) (fun _ _ _ h => h) (Or.inl ⟨by rfl, ?_⟩) hHeld ?_ ?_
             rotate_left
             next =>
              rintro w' ⟨s0, s1, s2⟩
              go_simp
              with_reducible rfl
             rotate_left
             next =>
              simp only [Act.put, yay, yby, ycy, i64_w, i32_w]
              rfl
             refine take_ (i := 2) (N := some 54) (v := ?_) (a' := ?_) #[true, true, true, false, false, false, false, false, false, false, false, false, false] rfl rfl (take_ofW HT_.out HW_.out (by kernel_rfl)) (fun _ _ _ h => h) (Or.inl ⟨by rfl, ?_⟩) hHeld ?_ ?_
             rotate_left
             next =>
              rintro w' ⟨s0, s1, s2⟩
              go_simp
              with_reducible rfl
             rotate_left
             next =>
              simp only [Act.put, yay, yby, ycy, i64_w, i32_w]
              rfl
             refine one_ (i := 3) (N := some 55) #[true, true, true, true, false, false, false, false, false, false, false, false, false] rfl rfl (one_of HT_.out (by kernel_rfl)) (by decide) (fun K hK => ?_)
             refine goes_ Try.func65 (by kernel_rfl) rfl #[.agg #[.slice (some ad105) l0_0.length c0_0]] (by rfl) rfl rfl (by (try simp only [yiy, yjy, yky]); first | done | rfl | (simp only [yly, ymy]; rfl)) ?_
             with_reducible refine (spec_l07Tets.calls _ _ l0_0 t108 _ ?side1 ?side2 A37.out).mono ?_
             (case side1 => repeat (first | exact (Kd.C_below HR0_0.out HB.out) | (with_reducible refine Kd.C_alloc ?_ _) | (with_reducible refine Kd.C_drewN ?_ _) | (with_reducible refine Kd.C_drew ?_)))
             (case side2 => exact HC0_0.out)
             rintro e w42 ⟨rfl, hb⟩
             refine ⟨_, rfl, ?_⟩
             have n0_ := Aside0.mk (blk_below (g := gb101) (o := .cells #[.slice (some ad105) l0_0.length c0_0] 28 (0, 0)) (by (with_reducible repeat (first | refine blk_drewN ?_ _ | refine blk_drew ?_ | refine blk_alloc ?_ _)); exact BK101.out) hb)
             have n1_ := Aside0.mk (blk_below (g := gb107) (o := .cells #[.int .i64 ((rd_Face (rd_LFace l0_0 x4_2) x5_3).f0), .int .i64 ((rd_Face (rd_LFace l0_0 x4_2) x5_3).f1)] 74 (0, 0)) (by (with_reducible repeat (first | refine blk_drewN ?_ _ | refine blk_drew ?_ | refine blk_alloc ?_ _)); exact BK107.out) hb)
             have n2_ := Aside0.mk (below_step (by repeat (first | (with_reducible first | exact HB.out | apply below_alloc | apply pw_below_drewN | apply below_drew1 | refine below_set ?_ GE101.out | refine below_set ?_ GE107.out) | exact HB.out)) hb)
             clear BK101
             clear BK107
             clear HB
             have BK101 := n0_
             have BK107 := n1_
             have HB := n2_
             clear n0_ n1_ n2_
             (try clear hb)
             (try clear hb2)
             (try clear hk)
             (try clear hi)
             refine hK.out _ _ ⟨(blk_cell BK107.out 0).trans rfl, (blk_cell BK107.out 1).trans rfl, (blk_cell BK101.out 0).trans rfl⟩ (fun hHeld => ?_)
             clear hK K
             refine norm_ (a' := ?_) ?_ ?_
             rotate_left
             next =>
              show Act.put _ (some 55) _ = _
              simp only [Act.put, yay, yby, ycy, i64_w, i32_w]
              rfl
             refine pure_ (i := 4) (N := some 56) (v := ?_) (a' := ?_) #[true, true, true, true, true, false, false, false, false, false, false, false, false] rfl rfl (any_of HT_.out (by kernel_rfl)) (fun _ _ _ h => h) (Or.inl ⟨by rfl, ?_⟩) ?_ ?_
             rotate_left
             next =>
              intro w'
              go_simp
              with_reducible rfl
             rotate_left
             next =>
              simp only [Act.put, yay, yby, ycy, i64_w, i32_w]
              rfl
             refine one_ (i := 5) (N := some 57) #[true, true, true, true, true, true, false, false, false, false, false, false, false] rfl rfl (one_of HT_.out (by kernel_rfl)) (by decide) (fun K hK => ?_)
             refine goes_ Try.func66 (by kernel_rfl) rfl #[.int .i64 ((rd_Face (rd_LFace l0_0 x4_2) x5_3).f0), .int .i64 0, .int .i64 (wrap64 (t108 - 1))] (by rfl) rfl rfl (by (try simp only [yiy, yjy, yky]); first | done | rfl | (simp only [yly, ymy]; rfl)) ?_
             with_reducible refine (spec_l07In.calls ((rd_Face (rd_LFace l0_0 x4_2) x5_3).f0) 0 (wrap64 (t108 - 1)) true _ A38.out).mono ?_
             rintro e w' ⟨rfl, ⟨nd, rfl⟩⟩
             refine ⟨_, rfl, ?_⟩
             refine hK.out _ _ ⟨(blk_cell BK107.out 0).trans rfl, (blk_cell BK107.out 1).trans rfl, (blk_cell BK101.out 0).trans rfl⟩ (fun hHeld => ?_)
             clear hK K
             refine norm_ (a' := ?_) ?_ ?_
             rotate_left
             next =>
              show Act.put _ (some 57) _ = _
              simp only [Act.put, yay, yby, ycy, i64_w, i32_w]
              rfl
             refine pure_ (i := 6) (N := some 58) (v := ?_) (a' := ?_) #[true, true, true, true, true, true, true, false, false, false, false, false, false] rfl rfl (any_of HT_.out (by kernel_rfl)) (fun _ _ _ h => h) (Or.inl ⟨by rfl, ?_⟩) ?_ ?_
             rotate_left
             next =>
              intro w'
              go_simp
              with_reducible rfl
             rotate_left
             next =>
              simp only [Act.put, yay, yby, ycy, i64_w, i32_w]
              rfl
             refine pure_ (i := 7) (N := some 59) (v := ?_) (a' := ?_) #[true, true, true, true, true, true, true, true, false, false, false, false, false] rfl rfl (any_of HT_.out (by kernel_rfl)) (fun _ _ _ h => h) (Or.inl ⟨by rfl, ?_⟩) ?_ ?_
             rotate_left
             next =>
              intro w'
              go_simp
              with_reducible rfl
             rotate_left
             next =>
              simp only [Act.put, yay, yby, ycy, i64_w, i32_w]
              rfl
             refine pure_ (i := 8) (N := some 60) (v := ?_) (a' := ?_) #[true, true, true, true, true, true, true, true, true, false, false, false, false] rfl rfl (any_of HT_.out (by kernel_rfl)) (fun _ _ _ h => h) (Or.inl ⟨by rfl, ?_⟩) ?_ ?_
             rotate_left
             next =>
              intro w'
              go_simp
              with_reducible rfl
             rotate_left
             next =>
              simp only [Act.put, yay, yby, ycy, i64_w, i32_w]
              rfl
             refine take_ (i := 9) (N := some 61) (v := ?_) (a' := ?_) #[true, true, true, true, true, true, true, true, true, true, false, false, false] rfl rfl (take_ofW HT_.out HW_.out (by kernel_rfl)) (fun _ _ _ h => h) (Or.inl ⟨by rfl, ?_⟩) hHeld ?_ ?_
             rotate_left
             next =>
              rintro w' ⟨s0, s1, s2⟩
              go_simp
              with_reducible rfl
             rotate_left
             next =>
              simp only [Act.put, yay, yby, ycy, i64_w, i32_w]
              rfl
             refine one_ (i := 10) (N := some 62) #[true, true, true, true, true, true, true, true, true, true, true, false, false] rfl rfl (one_of HT_.out (by kernel_rfl)) (by decide) (fun K hK => ?_)
             refine goes_ Try.func67 (by kernel_rfl) rfl #[.int .i64 ((rd_Face (rd_LFace l0_0 x4_2) x5_3).f1)] (by rfl) rfl rfl (by (try simp only [yiy, yjy, yky]); first | done | rfl | (simp only [yly, ymy]; rfl)) ?_
             with_reducible refine (spec_l06Valid.calls ((rd_Face (rd_LFace l0_0 x4_2) x5_3).f1) t110 _ A40.out).mono ?_
             rintro e w' ⟨rfl, ⟨nd, rfl⟩⟩
             refine ⟨_, rfl, ?_⟩
             refine hK.out _ _ ⟨(blk_cell BK107.out 0).trans rfl, (blk_cell BK107.out 1).trans rfl, (blk_cell BK101.out 0).trans rfl⟩ (fun hHeld => ?_)
             clear hK K
             refine norm_ (a' := ?_) ?_ ?_
             rotate_left
             next =>
              show Act.put _ (some 62) _ = _
              simp only [Act.put, yay, yby, ycy, i64_w, i32_w]
              rfl
             refine pure_ (i := 11) (N := some 63) (v := ?_) (a' := ?_) #[true, true, true, true, true, true, true, true, true, true, true, true, false] rfl rfl (any_of HT_.out (by kernel_rfl)) (fun _ _ _ h => h) (Or.inl ⟨by rfl, ?_⟩) ?_ ?_
             rotate_left
             next =>
              intro w'
              go_simp
              with_reducible rfl
             rotate_left
             next =>
              simp only [Act.put, yay, yby, ycy, i64_w, i32_w]
              rfl
             refine pure_ (i := 12) (N := some 64) (v := ?_) (a' := ?_) #[true, true, true, true, true, true, true, true, true, true, true, true, true] rfl rfl (any_of HT_.out (by kernel_rfl)) (fun _ _ _ h => h) (Or.inl ⟨by rfl, ?_⟩) ?_ ?_
             rotate_left
             next =>
              intro w'
              go_simp
              with_reducible rfl
             rotate_left
             next =>
              simp only [Act.put, yay, yby, ycy, i64_w, i32_w]
              rfl
             refine done_ (done_of HT_.out (by kernel_rfl)) ?_
             try go_wp2
             go_meet
             case rel => exact ⟨_, (!t110), (by first | rfl | (simp; done) | (simp [*]; done)), H', ⟨by have := HK1.out; have := HK2.out; have := HK3.out; have := HJ24.out; first | omega | exact yoy _⟩, ⟨by (with_reducible repeat (first | refine blk_drewN ?_ _ | refine blk_drew ?_ | refine blk_alloc ?_ _)); exact BK101.out⟩, ⟨by (with_reducible repeat (first | refine blk_drewN ?_ _ | refine blk_drew ?_ | refine blk_alloc ?_ _)); exact BK107.out⟩, ⟨by repeat (first | (with_reducible first | exact HB.out | apply below_alloc | apply pw_below_drewN | apply below_drew1 | refine below_set ?_ GE101.out | refine below_set ?_ GE107.out) | exact HB.out)⟩⟩
            case rest =>
             clear HC36
             try clear c1
             try clear p1
             try clear q1
             try clear hx1
             try clear c2
             try clear p2
             try clear c3
             try clear c3b0
             try clear c5
             try clear c6
             try clear p6
             try clear c10
             try clear c10b0
             try clear p10
             try clear q10
             try clear hx10
             try clear c11
             try clear c11b0
             try clear c12
             try clear c12b0
             try clear c12b1
             try clear c17
             try clear c17b0
             try clear c20
             try clear c20b0
             try clear c21
             try clear c21b0
             try clear c22
             try clear c22b0
             try clear c23
             try clear c23b0
             try clear c24
             try clear c24b0
             try clear c28
             try clear c30
             try clear c30b0
             try clear c30b1
             try clear c31
             try clear c33
             try clear c35
             try clear c39
             try clear hcz13_0
             try clear hcz14_0
             try clear hcz15_0
             try clear hcz18_0
             try clear hcz26_0
             try clear hcz29_0
             try clear hcz29_1
             try clear hcz32_0
             try clear hcz32_1
             try clear hcz34_0
             try clear hcz34_1
             try clear hcz5_0
             try clear hcz8_0
             try clear hfz13_0
             try clear hfz14_0
             try clear hfz15_0
             try clear hfz18_0
             try clear hfz26_0
             try clear hfz29_0
             try clear hfz29_1
             try clear hfz32_0
             try clear hfz32_1
             try clear hfz34_0
             try clear hfz34_1
             try clear hfz5_0
             try clear hfz8_0
             try clear hx103_0
             try clear hx105_0
             try clear hx106_0
             try clear hx106_1
             try clear p1
             try clear p10
             try clear p103
             try clear p105
             try clear p106
             try clear p2
             try clear p6
             try clear q1
             try clear q10
             try clear q103
             try clear q105
             try clear q106
             obtain ⟨kq, x64_35, rfl, HA, HJ35, BK101, BK107, HB⟩ := hcut
             cases kq with
             | zero => exact absurd HA.out (by simp [spec_IsTriangulation.j4])
             | succ kj35 =>
              have H := HA.out
              clear HA
              simp only [spec_IsTriangulation.j4] at H
              by_cases c45 : x64_35 = true
              next =>
               subst c45
               have H1 : (some false) = some r := by rw [if_pos rfl] at H; exact H
               clear H
               have H := H1
               clear H1
               obtain rfl := yey H
               go_wp2
               go_ret
               exact ⟨by first | rfl | (simp [errW_none, errW_some] <;> rfl) | (simp [*, errW_none, errW_some] <;> rfl), by repeat (first | (with_reducible first | exact HB.out | apply below_alloc | apply pw_below_drewN | apply below_drew1 | refine below_set ?_ GE101.out | refine below_set ?_ GE107.out) | exact HB.out)⟩
              next =>
               replace c45 := Bool.eq_false_iff.mpr c45
               subst c45
               have H1 : ((spec_l06At.f kj35 ((rd_Face (rd_LFace l0_0 x4_2) x5_3).f1) x5_3).bind fun t111 => ((spec_l06Back.f kj35 ((rd_Face (rd_LFace l0_0 x4_2) x5_3).f1)).bind fun t112 => (if 0 ≤ ((rd_Face (rd_LFace l0_0 x4_2) x5_3).f0) then (if ((rd_Face (rd_LFace l0_0 x4_2) x5_3).f0) < (l0_0.length : Int) then (if 0 ≤ t111 then (if t111 < ((rd_LFace l0_0 ((rd_Face (rd_LFace l0_0 x4_2) x5_3).f0)).length : Int) then (if (!(((rd_Face (rd_LFace l0_0 ((rd_Face (rd_LFace l0_0 x4_2) x5_3).f0)) t111).f0) == x4_2) || (!(((rd_Face (rd_LFace l0_0 ((rd_Face (rd_LFace l0_0 x4_2) x5_3).f0)) t111).f1) == t112))) = true then (some false) else (if ((rd_Face (rd_LFace l0_0 x4_2) x5_3).f0) = x4_2 then (if t111 = x5_3 then (some false) else (spec_IsTriangulation.l2 kj35 x4_2 (wrap64 (x5_3 + 1)) l0_0)) else (spec_IsTriangulation.l2 kj35 x4_2 (wrap64 (x5_3 + 1)) l0_0))) else (none)) else (none)) else (none)) else (none)))) = some r := by rw [if_neg (show ¬ (false = true) by decide)] at H; exact H
               clear H
               have H := H1
               clear H1
               replace H := ydy.mp H
               obtain ⟨t111, A460, H⟩ := H
               replace H : ((spec_l06Back.f kj35 ((rd_Face (rd_LFace l0_0 x4_2) x5_3).f1)).bind fun t112 => (if 0 ≤ ((rd_Face (rd_LFace l0_0 x4_2) x5_3).f0) then (if ((rd_Face (rd_LFace l0_0 x4_2) x5_3).f0) < (l0_0.length : Int) then (if 0 ≤ t111 then (if t111 < ((rd_LFace l0_0 ((rd_Face (rd_LFace l0_0 x4_2) x5_3).f0)).length : Int) then (if (!(((rd_Face (rd_LFace l0_0 ((rd_Face (rd_LFace l0_0 x4_2) x5_3).f0)) t111).f0) == x4_2) || (!(((rd_Face (rd_LFace l0_0 ((rd_Face (rd_LFace l0_0 x4_2) x5_3).f0)) t111).f1) == t112))) = true then (some false) else (if ((rd_Face (rd_LFace l0_0 x4_2) x5_3).f0) = x4_2 then (if t111 = x5_3 then (some false) else (spec_IsTriangulation.l2 kj35 x4_2 (wrap64 (x5_3 + 1)) l0_0)) else (spec_IsTriangulation.l2 kj35 x4_2 (wrap64 (x5_3 + 1)) l0_0))) else (none)) else (none)) else (none)) else (none))) = some r := H
               have A46 := Aside0.mk A460
               clear A460
               replace H := ydy.mp H
               obtain ⟨t112, A470, H⟩ := H
               replace H : (if 0 ≤ ((rd_Face (rd_LFace l0_0 x4_2) x5_3).f0) then (if ((rd_Face (rd_LFace l0_0 x4_2) x5_3).f0) < (l0_0.length : Int) then (if 0 ≤ t111 then (if t111 < ((rd_LFace l0_0 ((rd_Face (rd_LFace l0_0 x4_2) x5_3).f0)).length : Int) then (if (!(((rd_Face (rd_LFace l0_0 ((rd_Face (rd_LFace l0_0 x4_2) x5_3).f0)) t111).f0) == x4_2) || (!(((rd_Face (rd_LFace l0_0 ((rd_Face (rd_LFace l0_0 x4_2) x5_3).f0)) t111).f1) == t112))) = true then (some false) else (if ((rd_Face (rd_LFace l0_0 x4_2) x5_3).f0) = x4_2 then (if t111 = x5_3 then (some false) else (spec_IsTriangulation.l2 kj35 x4_2 (wrap64 (x5_3 + 1)) l0_0)) else (spec_IsTriangulation.l2 kj35 x4_2 (wrap64 (x5_3 + 1)) l0_0))) else (none)) else (none)) else (none)) else (none)) = some r := H
               have A47 := Aside0.mk A470
               clear A470
               by_cases c48 : 0 ≤ ((rd_Face (rd_LFace l0_0 x4_2) x5_3).f0)
               rotate_left
               next =>
                rw [if_neg c48] at H
                exact absurd H (by simp)
               rw [if_pos c48] at H
               have c48b0 : decide (0 ≤ ((rd_Face (rd_LFace l0_0 x4_2) x5_3).f0)) = true := ygy c48
               clear c48
               by_cases c49 : ((rd_Face (rd_LFace l0_0 x4_2) x5_3).f0) < (l0_0.length : Int)
               rotate_left
               next =>
                rw [if_neg c49] at H
                exact absurd H (by simp)
               rw [if_pos c49] at H
               have c49b0 : decide (((rd_Face (rd_LFace l0_0 x4_2) x5_3).f0) < (l0_0.length : Int)) = true := ygy c49
               clear c49
               by_cases c50 : 0 ≤ t111
               rotate_left
               next =>
                rw [if_neg c50] at H
                exact absurd H (by simp)
               rw [if_pos c50] at H
               have c50b0 : decide (0 ≤ t111) = true := ygy c50
               clear c50
               by_cases c51 : t111 < ((rd_LFace l0_0 ((rd_Face (rd_LFace l0_0 x4_2) x5_3).f0)).length : Int)
               rotate_left
               next =>
                rw [if_neg c51] at H
                exact absurd H (by simp)
               rw [if_pos c51] at H
               have c51b0 : decide (t111 < ((rd_LFace l0_0 ((rd_Face (rd_LFace l0_0 x4_2) x5_3).f0)).length : Int)) = true := ygy c51
               clear c51
               by_cases c52 : (!(((rd_Face (rd_LFace l0_0 ((rd_Face (rd_LFace l0_0 x4_2) x5_3).f0)) t111).f0) == x4_2) || (!(((rd_Face (rd_LFace l0_0 ((rd_Face (rd_LFace l0_0 x4_2) x5_3).f0)) t111).f1) == t112))) = true
               next =>
                rw [if_pos c52] at H
                have c52b0 : (!(((rd_Face (rd_LFace l0_0 ((rd_Face (rd_LFace l0_0 x4_2) x5_3).f0)) t111).f0) == x4_2) || (!(((rd_Face (rd_LFace l0_0 ((rd_Face (rd_LFace l0_0 x4_2) x5_3).f0)) t111).f1) == t112))) = true := c52
                clear c52
                obtain rfl := yey H
                have hnb53 := NB107_101.out
                have hnc53 := NB101_107.out
                have hcz54_0 : wc.cell? ⟨gb107, 0, none⟩ = some (.int .i64 ((rd_Face (rd_LFace l0_0 x4_2) x5_3).f0)) := (blk_cell BK107.out 0).trans rfl
                have hcz54_1 : wc.cell? ⟨gb107, 1, none⟩ = some (.int .i64 ((rd_Face (rd_LFace l0_0 x4_2) x5_3).f1)) := (blk_cell BK107.out 1).trans rfl
                have hfz54_0 := blk_frozen BK107.out 0
                have hfz54_1 := blk_frozen BK107.out 1
                try go_wp2_with (first | ((with_reducible refine gate_callee (f := 68) rfl ?_); refine goesL_ (some 68) rfl rfl Try.func68 (by kernel_rfl) rfl #[.int .i64 ((rd_Face (rd_LFace l0_0 x4_2) x5_3).f1), .int .i64 x5_3] rfl (by (try simp only [yiy, yjy, yky]); first | done | rfl | (simp only [yly, ymy]; rfl)) ?_; (with_reducible refine (spec_l06At.calls kj35 ((rd_Face (rd_LFace l0_0 x4_2) x5_3).f1) x5_3 t111 _ A46.out).mono ?_); rintro e w55 ⟨rfl, hb⟩; refine ⟨_, rfl, ?_⟩; have n0_ := Aside0.mk (blk_below (g := gb101) (o := .cells #[.slice (some ad105) l0_0.length c0_0] 28 (0, 0)) (by (with_reducible repeat (first | refine blk_drewN ?_ _ | refine blk_drew ?_ | refine blk_alloc ?_ _)); exact BK101.out) hb); have n1_ := Aside0.mk (blk_below (g := gb107) (o := .cells #[.int .i64 ((rd_Face (rd_LFace l0_0 x4_2) x5_3).f0), .int .i64 ((rd_Face (rd_LFace l0_0 x4_2) x5_3).f1)] 74 (0, 0)) (by (with_reducible repeat (first | refine blk_drewN ?_ _ | refine blk_drew ?_ | refine blk_alloc ?_ _)); exact BK107.out) hb); have n2_ := Aside0.mk (below_step (by repeat (first | (with_reducible first | exact HB.out | apply below_alloc | apply pw_below_drewN | apply below_drew1 | refine below_set ?_ GE101.out | refine below_set ?_ GE107.out) | exact HB.out)) hb); clear BK101; clear BK107; clear HB; have BK101 := n0_; have BK107 := n1_; have HB := n2_; clear n0_ n1_ n2_; (try clear hb); (try clear hb2); (try clear hk); (try clear hi); have hcz56_0 : w55.cell? ⟨gb107, 0, none⟩ = some (.int .i64 ((rd_Face (rd_LFace l0_0 x4_2) x5_3).f0)) := (blk_cell BK107.out 0).trans rfl; have hcz56_1 : w55.cell? ⟨gb107, 1, none⟩ = some (.int .i64 ((rd_Face (rd_LFace l0_0 x4_2) x5_3).f1)) := (blk_cell BK107.out 1).trans rfl; have hfz56_0 := blk_frozen BK107.out 0; have hfz56_1 := blk_frozen BK107.out 1) | ((with_reducible refine gate_callee (f := 113) rfl ?_); refine goesL_ (some 72) rfl rfl Try.func113 (by kernel_rfl) rfl #[.int .i64 ((rd_Face (rd_LFace l0_0 x4_2) x5_3).f1)] rfl (by (try simp only [yiy, yjy, yky]); first | done | rfl | (simp only [yly, ymy]; rfl)) ?_; (with_reducible refine (spec_l06Back.calls kj35 ((rd_Face (rd_LFace l0_0 x4_2) x5_3).f1) t112 _ A47.out).mono ?_); rintro e w57 ⟨rfl, hb⟩; refine ⟨_, rfl, ?_⟩; have n0_ := Aside0.mk (blk_below (g := gb101) (o := .cells #[.slice (some ad105) l0_0.length c0_0] 28 (0, 0)) (by (with_reducible repeat (first | refine blk_drewN ?_ _ | refine blk_drew ?_ | refine blk_alloc ?_ _)); exact BK101.out) hb); have n1_ := Aside0.mk (blk_below (g := gb107) (o := .cells #[.int .i64 ((rd_Face (rd_LFace l0_0 x4_2) x5_3).f0), .int .i64 ((rd_Face (rd_LFace l0_0 x4_2) x5_3).f1)] 74 (0, 0)) (by (with_reducible repeat (first | refine blk_drewN ?_ _ | refine blk_drew ?_ | refine blk_alloc ?_ _)); exact BK107.out) hb); have n2_ := Aside0.mk (below_step (by repeat (first | (with_reducible first | exact HB.out | apply below_alloc | apply pw_below_drewN | apply below_drew1 | refine below_set ?_ GE101.out | refine below_set ?_ GE107.out) | exact HB.out)) hb); clear BK101; clear BK107; clear HB; have BK101 := n0_; have BK107 := n1_; have HB := n2_; clear n0_ n1_ n2_; (try clear hb); (try clear hb2); (try clear hk); (try clear hi)) | ((with_reducible refine gate_dst (N := 8) rfl ?_); refine box_event ?hg (N := 8) ?hd (cs := #[.int .i64 0, .int .i64 0]) (t := 74) ?hr ?_; (case hd => rfl); (case hg => rfl); (case hr => first | (go_simp; done) | (go_simp; rfl)); intro gb113 hg w58 hbox hb; have n0_ := Aside0.mk (blk_below (g := gb101) (o := .cells #[.slice (some ad105) l0_0.length c0_0] 28 (0, 0)) (by (with_reducible repeat (first | refine blk_drewN ?_ _ | refine blk_drew ?_ | refine blk_alloc ?_ _)); exact BK101.out) hb); have n1_ := Aside0.mk (blk_below (g := gb107) (o := .cells #[.int .i64 ((rd_Face (rd_LFace l0_0 x4_2) x5_3).f0), .int .i64 ((rd_Face (rd_LFace l0_0 x4_2) x5_3).f1)] 74 (0, 0)) (by (with_reducible repeat (first | refine blk_drewN ?_ _ | refine blk_drew ?_ | refine blk_alloc ?_ _)); exact BK107.out) hb); have n2_ := Aside0.mk (below_step (by repeat (first | (with_reducible first | exact HB.out | apply below_alloc | apply pw_below_drewN | apply below_drew1 | refine below_set ?_ GE101.out | refine below_set ?_ GE107.out) | exact HB.out)) hb); have n3_ := Aside0.mk (hbox); have n4_ := Aside0.mk ((by rw [hg]; exact (below_size (by repeat (first | (with_reducible first | exact HB.out | apply below_alloc | apply pw_below_drewN | apply below_drew1 | refine below_set ?_ GE101.out | refine below_set ?_ GE107.out) | exact HB.out))) : w.heap.size ≤ gb113)); have n5_ := Aside0.mk ((by rw [hg]; exact (below_size (by repeat (first | (with_reducible first | exact HB.out | apply below_alloc | apply pw_below_drewN | apply below_drew1 | refine below_set ?_ GE101.out | refine below_set ?_ GE107.out) | exact HB.out))) : w.heap.size ≤ gb113)); have n6_ := Aside0.mk ((by rw [hg]; exact Nat.ne_of_lt (blk_lt (g := gb101) (o := .cells #[.slice (some ad105) l0_0.length c0_0] 28 (0, 0)) (by (with_reducible repeat (first | refine blk_drewN ?_ _ | refine blk_drew ?_ | refine blk_alloc ?_ _)); exact BK101.out)) : gb101 ≠ gb113)); have n7_ := Aside0.mk ((by rw [hg]; exact Nat.ne_of_gt (blk_lt (g := gb101) (o := .cells #[.slice (some ad105) l0_0.length c0_0] 28 (0, 0)) (by (with_reducible repeat (first | refine blk_drewN ?_ _ | refine blk_drew ?_ | refine blk_alloc ?_ _)); exact BK101.out)) : gb113 ≠ gb101)); have n8_ := Aside0.mk ((by rw [hg]; exact Nat.ne_of_lt (blk_lt (g := gb107) (o := .cells #[.int .i64 ((rd_Face (rd_LFace l0_0 x4_2) x5_3).f0), .int .i64 ((rd_Face (rd_LFace l0_0 x4_2) x5_3).f1)] 74 (0, 0)) (by (with_reducible repeat (first | refine blk_drewN ?_ _ | refine blk_drew ?_ | refine blk_alloc ?_ _)); exact BK107.out)) : gb107 ≠ gb113)); have n9_ := Aside0.mk ((by rw [hg]; exact Nat.ne_of_gt (blk_lt (g := gb107) (o := .cells #[.int .i64 ((rd_Face (rd_LFace l0_0 x4_2) x5_3).f0), .int .i64 ((rd_Face (rd_LFace l0_0 x4_2) x5_3).f1)] 74 (0, 0)) (by (with_reducible repeat (first | refine blk_drewN ?_ _ | refine blk_drew ?_ | refine blk_alloc ?_ _)); exact BK107.out)) : gb113 ≠ gb107)); clear BK101; clear BK107; clear HB; have BK101 := n0_; have BK107 := n1_; have HB := n2_; have BK113 := n3_; have GW113 := n4_; have GE113 := n5_; have NB101_113 := n6_; have NB113_101 := n7_; have NB107_113 := n8_; have NB113_107 := n9_; clear n0_ n1_ n2_ n3_ n4_ n5_ n6_ n7_ n8_ n9_; clear hb hbox hg; have hnb59 := NB113_101.out; have hnc59 := NB101_113.out; have hnb60 := NB113_107.out; have hnc60 := NB107_113.out; have hcz61_0 : w58.cell? ⟨gb113, 0, none⟩ = some (.int .i64 0) := (blk_cell BK113.out 0).trans rfl; have hcz61_1 : w58.cell? ⟨gb113, 1, none⟩ = some (.int .i64 0) := (blk_cell BK113.out 1).trans rfl; have hfz61_0 := blk_frozen BK113.out 0; have hfz61_1 := blk_frozen BK113.out 1))
                have n0_ : Aside0 (((w58.setCell ⟨gb113, 0, none⟩ (.int .i64 x4_2)).setCell ⟨gb113, 1, none⟩ (.int .i64 t112)).heap[gb101]? = some (.cells #[.slice (some ad105) l0_0.length c0_0] 28 (0, 0))) := ⟨by (with_reducible repeat (first | refine blk_drewN ?_ _ | refine blk_drew ?_ | refine blk_alloc ?_ _)); refine blk_far ?_ NB101_113.out _; (with_reducible repeat (first | refine blk_drewN ?_ _ | refine blk_drew ?_ | refine blk_alloc ?_ _)); refine blk_far ?_ NB101_113.out _; (with_reducible repeat (first | refine blk_drewN ?_ _ | refine blk_drew ?_ | refine blk_alloc ?_ _)); exact BK101.out⟩
                have n1_ : Aside0 (((w58.setCell ⟨gb113, 0, none⟩ (.int .i64 x4_2)).setCell ⟨gb113, 1, none⟩ (.int .i64 t112)).heap[gb107]? = some (.cells #[.int .i64 ((rd_Face (rd_LFace l0_0 x4_2) x5_3).f0), .int .i64 ((rd_Face (rd_LFace l0_0 x4_2) x5_3).f1)] 74 (0, 0))) := ⟨by (with_reducible repeat (first | refine blk_drewN ?_ _ | refine blk_drew ?_ | refine blk_alloc ?_ _)); refine blk_far ?_ NB107_113.out _; (with_reducible repeat (first | refine blk_drewN ?_ _ | refine blk_drew ?_ | refine blk_alloc ?_ _)); refine blk_far ?_ NB107_113.out _; (with_reducible repeat (first | refine blk_drewN ?_ _ | refine blk_drew ?_ | refine blk_alloc ?_ _)); exact BK107.out⟩
                have n2_ : Aside0 (((w58.setCell ⟨gb113, 0, none⟩ (.int .i64 x4_2)).setCell ⟨gb113, 1, none⟩ (.int .i64 t112)).heap[gb113]? = some (.cells #[.int .i64 x4_2, .int .i64 t112] 74 (0, 0))) := ⟨by (with_reducible repeat (first | refine blk_drewN ?_ _ | refine blk_drew ?_ | refine blk_alloc ?_ _)); refine blk_put (cs := #[.int .i64 x4_2, .int .i64 0]) ?_ 1 _ rfl; (with_reducible repeat (first | refine blk_drewN ?_ _ | refine blk_drew ?_ | refine blk_alloc ?_ _)); refine blk_put (cs := #[.int .i64 0, .int .i64 0]) ?_ 0 _ rfl; (with_reducible repeat (first | refine blk_drewN ?_ _ | refine blk_drew ?_ | refine blk_alloc ?_ _)); exact BK113.out⟩
                have n3_ : Aside0 (Below w.heap.size w ((w58.setCell ⟨gb113, 0, none⟩ (.int .i64 x4_2)).setCell ⟨gb113, 1, none⟩ (.int .i64 t112))) := ⟨by repeat (first | (with_reducible first | exact HB.out | apply below_alloc | apply pw_below_drewN | apply below_drew1 | refine below_set ?_ GE101.out | refine below_set ?_ GE107.out | refine below_set ?_ GE113.out) | exact HB.out)⟩
                (try clear BK101)
                (try clear BK107)
                (try clear BK113)
                (try clear HB)
                generalize ((w58.setCell ⟨gb113, 0, none⟩ (.int .i64 x4_2)).setCell ⟨gb113, 1, none⟩ (.int .i64 t112)) = w62 at n0_ n1_ n2_ n3_ ⊢
                have BK101 := n0_
                have BK107 := n1_
                have BK113 := n2_
                have HB := n3_
                clear n0_ n1_ n2_ n3_
                have p114 : 0 ≤ (((rd_Face (rd_LFace l0_0 x4_2) x5_3).f0) : Int) := of_decide_eq_true (by first | (with_reducible assumption) | assumption)
                have q114 : ((rd_Face (rd_LFace l0_0 x4_2) x5_3).f0) < (l0_0.length : Int) := of_decide_eq_true (by first | (with_reducible assumption) | assumption)
                obtain ⟨ad114, A114_0, c114_0, e114, hx114_0, hl114_0, hi114_0⟩ := at_LFace HR0_0.out ((rd_Face (rd_LFace l0_0 x4_2) x5_3).f0) p114 q114
                have hw114_0 := hx114_0
                obtain rfl : ad105 = ad114 := (by injection e114)
                replace hx114_0 := (HB.out.cell (yny w _ hx114_0)).trans hx114_0
                have HR114_0 := Aside0.mk hi114_0
                have HC114_0 := Aside0.mk hl114_0
                clear hi114_0 hl114_0
                replace p114 := eq_true p114
                replace q114 := eq_true q114
                have p115 : 0 ≤ (t111 : Int) := of_decide_eq_true (by first | (with_reducible assumption) | assumption)
                have q115 : t111 < ((rd_LFace l0_0 ((rd_Face (rd_LFace l0_0 x4_2) x5_3).f0)).length : Int) := of_decide_eq_true (by first | (with_reducible assumption) | assumption)
                obtain ⟨ad115, e115, hx115_0, hx115_1⟩ := at_Face HR114_0.out t111 p115 q115
                have hw115_1 := hx115_1
                have hw115_0 := hx115_0
                cases e115
                replace hx115_0 := (HB.out.cell (yny w _ hx115_0)).trans hx115_0
                replace hx115_1 := (HB.out.cell (yny w _ hx115_1)).trans hx115_1
                replace p115 := eq_true p115
                replace q115 := eq_true q115
                have sq0_ : w62.cell? ⟨gb101, 0, none⟩ = some (.slice (some ad105) l0_0.length c0_0) := (blk_cell BK101.out 0).trans rfl
                have sq1_ : w62.cell? ⟨gb107, 0, none⟩ = some (.int .i64 ((rd_Face (rd_LFace l0_0 x4_2) x5_3).f0)) := (blk_cell BK107.out 0).trans rfl
                have sq2_ : w62.cell? ⟨gb107, 1, none⟩ = some (.int .i64 ((rd_Face (rd_LFace l0_0 x4_2) x5_3).f1)) := (blk_cell BK107.out 1).trans rfl
                have sq3_ : w62.cell? ⟨gb113, 0, none⟩ = some (.int .i64 x4_2) := (blk_cell BK113.out 0).trans rfl
                have sq4_ : w62.cell? ⟨gb113, 1, none⟩ = some (.int .i64 t112) := (blk_cell BK113.out 1).trans rfl
                have sq5_ : w62.cell? (ad105.add (((rd_Face (rd_LFace l0_0 x4_2) x5_3).f0)).toNat) = some (.slice (some ad115) (rd_LFace l0_0 ((rd_Face (rd_LFace l0_0 x4_2) x5_3).f0)).length c114_0) := ((HB.out.cell (yny w _ hw114_0)).trans hw114_0)
                have sq6_ : w62.cell? (ad115.add ((t111).toNat * 2)) = some (.int .i64 ((rd_Face (rd_LFace l0_0 ((rd_Face (rd_LFace l0_0 x4_2) x5_3).f0)) t111).f0)) := ((HB.out.cell (yny w _ hw115_0)).trans hw115_0)
                have sq7_ : w62.cell? ⟨(ad115.add ((t111).toNat * 2)).block, (ad115.add ((t111).toNat * 2)).off + 1, none⟩ = some (.int .i64 ((rd_Face (rd_LFace l0_0 ((rd_Face (rd_LFace l0_0 x4_2) x5_3).f0)) t111).f1)) := ((HB.out.cell (yny w _ hw115_1)).trans hw115_1)
                go_quiet (fail)
                generalize hq_ : World.drewN w62 _ = w63
                have n0_ := Aside0.mk (blk_at hq_ BK101.out)
                have n1_ := Aside0.mk (blk_at hq_ BK107.out)
                have n2_ := Aside0.mk (blk_at hq_ BK113.out)
                have n3_ := Aside0.mk (below_at hq_ HB.out)
                clear BK101 BK107 BK113 HB hq_ sq0_ sq1_ sq2_ sq3_ sq4_ sq5_ sq6_ sq7_
                have BK101 := n0_
                have BK107 := n1_
                have BK113 := n2_
                have HB := n3_
                clear n0_ n1_ n2_ n3_
                try go_wp2
                go_ret
                exact ⟨by first | rfl | (simp [errW_none, errW_some] <;> rfl) | (simp [*, errW_none, errW_some] <;> rfl), by repeat (first | (with_reducible first | exact HB.out | apply below_alloc | apply pw_below_drewN | apply below_drew1 | refine below_set ?_ GE101.out | refine below_set ?_ GE107.out | refine below_set ?_ GE113.out) | exact HB.out)⟩
               next =>
                rw [if_neg c52] at H
                have c52b0 : (!(((rd_Face (rd_LFace l0_0 ((rd_Face (rd_LFace l0_0 x4_2) x5_3).f0)) t111).f0) == x4_2) || (!(((rd_Face (rd_LFace l0_0 ((rd_Face (rd_LFace l0_0 x4_2) x5_3).f0)) t111).f1) == t112))) = false := by simpa using c52
                clear c52
                by_cases c64 : ((rd_Face (rd_LFace l0_0 x4_2) x5_3).f0) = x4_2
                rotate_left
                next =>
                 rw [if_neg c64] at H
                 have c64b0 : (((rd_Face (rd_LFace l0_0 x4_2) x5_3).f0) == x4_2) = false := beq_eq_false_iff_ne.mpr c64
                 have c64b1 : (((rd_Face (rd_LFace l0_0 x4_2) x5_3).f0) != x4_2) = true := bne_iff_ne.mpr c64
                 have H' := Aside0.mk H
                 clear H
                 have hnb88 := NB107_101.out
                 have hnc88 := NB101_107.out
                 have hcz89_0 : wc.cell? ⟨gb107, 0, none⟩ = some (.int .i64 ((rd_Face (rd_LFace l0_0 x4_2) x5_3).f0)) := (blk_cell BK107.out 0).trans rfl
                 have hcz89_1 : wc.cell? ⟨gb107, 1, none⟩ = some (.int .i64 ((rd_Face (rd_LFace l0_0 x4_2) x5_3).f1)) := (blk_cell BK107.out 1).trans rfl
                 have hfz89_0 := blk_frozen BK107.out 0
                 have hfz89_1 := blk_frozen BK107.out 1
                 try go_wp2_with (first | ((with_reducible refine gate_callee (f := 68) rfl ?_); refine goesL_ (some 68) rfl rfl Try.func68 (by kernel_rfl) rfl #[.int .i64 ((rd_Face (rd_LFace l0_0 x4_2) x5_3).f1), .int .i64 x5_3] rfl (by (try simp only [yiy, yjy, yky]); first | done | rfl | (simp only [yly, ymy]; rfl)) ?_; (with_reducible refine (spec_l06At.calls kj35 ((rd_Face (rd_LFace l0_0 x4_2) x5_3).f1) x5_3 t111 _ A46.out).mono ?_); rintro e w90 ⟨rfl, hb⟩; refine ⟨_, rfl, ?_⟩; have n0_ := Aside0.mk (blk_below (g := gb101) (o := .cells #[.slice (some ad105) l0_0.length c0_0] 28 (0, 0)) (by (with_reducible repeat (first | refine blk_drewN ?_ _ | refine blk_drew ?_ | refine blk_alloc ?_ _)); exact BK101.out) hb); have n1_ := Aside0.mk (blk_below (g := gb107) (o := .cells #[.int .i64 ((rd_Face (rd_LFace l0_0 x4_2) x5_3).f0), .int .i64 ((rd_Face (rd_LFace l0_0 x4_2) x5_3).f1)] 74 (0, 0)) (by (with_reducible repeat (first | refine blk_drewN ?_ _ | refine blk_drew ?_ | refine blk_alloc ?_ _)); exact BK107.out) hb); have n2_ := Aside0.mk (below_step (by repeat (first | (with_reducible first | exact HB.out | apply below_alloc | apply pw_below_drewN | apply below_drew1 | refine below_set ?_ GE101.out | refine below_set ?_ GE107.out) | exact HB.out)) hb); clear BK101; clear BK107; clear HB; have BK101 := n0_; have BK107 := n1_; have HB := n2_; clear n0_ n1_ n2_; (try clear hb); (try clear hb2); (try clear hk); (try clear hi); have hcz91_0 : w90.cell? ⟨gb107, 0, none⟩ = some (.int .i64 ((rd_Face (rd_LFace l0_0 x4_2) x5_3).f0)) := (blk_cell BK107.out 0).trans rfl; have hcz91_1 : w90.cell? ⟨gb107, 1, none⟩ = some (.int .i64 ((rd_Face (rd_LFace l0_0 x4_2) x5_3).f1)) := (blk_cell BK107.out 1).trans rfl; have hfz91_0 := blk_frozen BK107.out 0; have hfz91_1 := blk_frozen BK107.out 1) | ((with_reducible refine gate_callee (f := 113) rfl ?_); refine goesL_ (some 72) rfl rfl Try.func113 (by kernel_rfl) rfl #[.int .i64 ((rd_Face (rd_LFace l0_0 x4_2) x5_3).f1)] rfl (by (try simp only [yiy, yjy, yky]); first | done | rfl | (simp only [yly, ymy]; rfl)) ?_; (with_reducible refine (spec_l06Back.calls kj35 ((rd_Face (rd_LFace l0_0 x4_2) x5_3).f1) t112 _ A47.out).mono ?_); rintro e w92 ⟨rfl, hb⟩; refine ⟨_, rfl, ?_⟩; have n0_ := Aside0.mk (blk_below (g := gb101) (o := .cells #[.slice (some ad105) l0_0.length c0_0] 28 (0, 0)) (by (with_reducible repeat (first | refine blk_drewN ?_ _ | refine blk_drew ?_ | refine blk_alloc ?_ _)); exact BK101.out) hb); have n1_ := Aside0.mk (blk_below (g := gb107) (o := .cells #[.int .i64 ((rd_Face (rd_LFace l0_0 x4_2) x5_3).f0), .int .i64 ((rd_Face (rd_LFace l0_0 x4_2) x5_3).f1)] 74 (0, 0)) (by (with_reducible repeat (first | refine blk_drewN ?_ _ | refine blk_drew ?_ | refine blk_alloc ?_ _)); exact BK107.out) hb); have n2_ := Aside0.mk (below_step (by repeat (first | (with_reducible first | exact HB.out | apply below_alloc | apply pw_below_drewN | apply below_drew1 | refine below_set ?_ GE101.out | refine below_set ?_ GE107.out) | exact HB.out)) hb); clear BK101; clear BK107; clear HB; have BK101 := n0_; have BK107 := n1_; have HB := n2_; clear n0_ n1_ n2_; (try clear hb); (try clear hb2); (try clear hk); (try clear hi)) | ((with_reducible refine gate_dst (N := 8) rfl ?_); refine box_event ?hg (N := 8) ?hd (cs := #[.int .i64 0, .int .i64 0]) (t := 74) ?hr ?_; (case hd => rfl); (case hg => rfl); (case hr => first | (go_simp; done) | (go_simp; rfl)); intro gb113 hg w93 hbox hb; have n0_ := Aside0.mk (blk_below (g := gb101) (o := .cells #[.slice (some ad105) l0_0.length c0_0] 28 (0, 0)) (by (with_reducible repeat (first | refine blk_drewN ?_ _ | refine blk_drew ?_ | refine blk_alloc ?_ _)); exact BK101.out) hb); have n1_ := Aside0.mk (blk_below (g := gb107) (o := .cells #[.int .i64 ((rd_Face (rd_LFace l0_0 x4_2) x5_3).f0), .int .i64 ((rd_Face (rd_LFace l0_0 x4_2) x5_3).f1)] 74 (0, 0)) (by (with_reducible repeat (first | refine blk_drewN ?_ _ | refine blk_drew ?_ | refine blk_alloc ?_ _)); exact BK107.out) hb); have n2_ := Aside0.mk (below_step (by repeat (first | (with_reducible first | exact HB.out | apply below_alloc | apply pw_below_drewN | apply below_drew1 | refine below_set ?_ GE101.out | refine below_set ?_ GE107.out) | exact HB.out)) hb); have n3_ := Aside0.mk (hbox); have n4_ := Aside0.mk ((by rw [hg]; exact (below_size (by repeat (first | (with_reducible first | exact HB.out | apply below_alloc | apply pw_below_drewN | apply below_drew1 | refine below_set ?_ GE101.out | refine below_set ?_ GE107.out) | exact HB.out))) : w.heap.size ≤ gb113)); have n5_ := Aside0.mk ((by rw [hg]; exact (below_size (by repeat (first | (with_reducible first | exact HB.out | apply below_alloc | apply pw_below_drewN | apply below_drew1 | refine below_set ?_ GE101.out | refine below_set ?_ GE107.out) | exact HB.out))) : w.heap.size ≤ gb113)); have n6_ := Aside0.mk ((by rw [hg]; exact Nat.ne_of_lt (blk_lt (g := gb101) (o := .cells #[.slice (some ad105) l0_0.length c0_0] 28 (0, 0)) (by (with_reducible repeat (first | refine blk_drewN ?_ _ | refine blk_drew ?_ | refine blk_alloc ?_ _)); exact BK101.out)) : gb101 ≠ gb113)); have n7_ := Aside0.mk ((by rw [hg]; exact Nat.ne_of_gt (blk_lt (g := gb101) (o := .cells #[.slice (some ad105) l0_0.length c0_0] 28 (0, 0)) (by (with_reducible repeat (first | refine blk_drewN ?_ _ | refine blk_drew ?_ | refine blk_alloc ?_ _)); exact BK101.out)) : gb113 ≠ gb101)); have n8_ := Aside0.mk ((by rw [hg]; exact Nat.ne_of_lt (blk_lt (g := gb107) (o := .cells #[.int .i64 ((rd_Face (rd_LFace l0_0 x4_2) x5_3).f0), .int .i64 ((rd_Face (rd_LFace l0_0 x4_2) x5_3).f1)] 74 (0, 0)) (by (with_reducible repeat (first | refine blk_drewN ?_ _ | refine blk_drew ?_ | refine blk_alloc ?_ _)); exact BK107.out)) : gb107 ≠ gb113)); have n9_ := Aside0.mk ((by rw [hg]; exact Nat.ne_of_gt (blk_lt (g := gb107) (o := .cells #[.int .i64 ((rd_Face (rd_LFace l0_0 x4_2) x5_3).f0), .int .i64 ((rd_Face (rd_LFace l0_0 x4_2) x5_3).f1)] 74 (0, 0)) (by (with_reducible repeat (first | refine blk_drewN ?_ _ | refine blk_drew ?_ | refine blk_alloc ?_ _)); exact BK107.out)) : gb113 ≠ gb107)); clear BK101; clear BK107; clear HB; have BK101 := n0_; have BK107 := n1_; have HB := n2_; have BK113 := n3_; have GW113 := n4_; have GE113 := n5_; have NB101_113 := n6_; have NB113_101 := n7_; have NB107_113 := n8_; have NB113_107 := n9_; clear n0_ n1_ n2_ n3_ n4_ n5_ n6_ n7_ n8_ n9_; clear hb hbox hg; have hnb94 := NB113_101.out; have hnc94 := NB101_113.out; have hnb95 := NB113_107.out; have hnc95 := NB107_113.out; have hcz96_0 : w93.cell? ⟨gb113, 0, none⟩ = some (.int .i64 0) := (blk_cell BK113.out 0).trans rfl; have hcz96_1 : w93.cell? ⟨gb113, 1, none⟩ = some (.int .i64 0) := (blk_cell BK113.out 1).trans rfl; have hfz96_0 := blk_frozen BK113.out 0; have hfz96_1 := blk_frozen BK113.out 1))
                 have n0_ : Aside0 (((w93.setCell ⟨gb113, 0, none⟩ (.int .i64 x4_2)).setCell ⟨gb113, 1, none⟩ (.int .i64 t112)).heap[gb101]? = some (.cells #[.slice (some ad105) l0_0.length c0_0] 28 (0, 0))) := ⟨by (with_reducible repeat (first | refine blk_drewN ?_ _ | refine blk_drew ?_ | refine blk_alloc ?_ _)); refine blk_far ?_ NB101_113.out _; (with_reducible repeat (first | refine blk_drewN ?_ _ | refine blk_drew ?_ | refine blk_alloc ?_ _)); refine blk_far ?_ NB101_113.out _; (with_reducible repeat (first | refine blk_drewN ?_ _ | refine blk_drew ?_ | refine blk_alloc ?_ _)); exact BK101.out⟩
                 have n1_ : Aside0 (((w93.setCell ⟨gb113, 0, none⟩ (.int .i64 x4_2)).setCell ⟨gb113, 1, none⟩ (.int .i64 t112)).heap[gb107]? = some (.cells #[.int .i64 ((rd_Face (rd_LFace l0_0 x4_2) x5_3).f0), .int .i64 ((rd_Face (rd_LFace l0_0 x4_2) x5_3).f1)] 74 (0, 0))) := ⟨by (with_reducible repeat (first | refine blk_drewN ?_ _ | refine blk_drew ?_ | refine blk_alloc ?_ _)); refine blk_far ?_ NB107_113.out _; (with_reducible repeat (first | refine blk_drewN ?_ _ | refine blk_drew ?_ | refine blk_alloc ?_ _)); refine blk_far ?_ NB107_113.out _; (with_reducible repeat (first | refine blk_drewN ?_ _ | refine blk_drew ?_ | refine blk_alloc ?_ _)); exact BK107.out⟩
                 have n2_ : Aside0 (((w93.setCell ⟨gb113, 0, none⟩ (.int .i64 x4_2)).setCell ⟨gb113, 1, none⟩ (.int .i64 t112)).heap[gb113]? = some (.cells #[.int .i64 x4_2, .int .i64 t112] 74 (0, 0))) := ⟨by (with_reducible repeat (first | refine blk_drewN ?_ _ | refine blk_drew ?_ | refine blk_alloc ?_ _)); refine blk_put (cs := #[.int .i64 x4_2, .int .i64 0]) ?_ 1 _ rfl; (with_reducible repeat (first | refine blk_drewN ?_ _ | refine blk_drew ?_ | refine blk_alloc ?_ _)); refine blk_put (cs := #[.int .i64 0, .int .i64 0]) ?_ 0 _ rfl; (with_reducible repeat (first | refine blk_drewN ?_ _ | refine blk_drew ?_ | refine blk_alloc ?_ _)); exact BK113.out⟩
                 have n3_ : Aside0 (Below w.heap.size w ((w93.setCell ⟨gb113, 0, none⟩ (.int .i64 x4_2)).setCell ⟨gb113, 1, none⟩ (.int .i64 t112))) := ⟨by repeat (first | (with_reducible first | exact HB.out | apply below_alloc | apply pw_below_drewN | apply below_drew1 | refine below_set ?_ GE101.out | refine below_set ?_ GE107.out | refine below_set ?_ GE113.out) | exact HB.out)⟩
                 (try clear BK101)
                 (try clear BK107)
                 (try clear BK113)
                 (try clear HB)
                 generalize ((w93.setCell ⟨gb113, 0, none⟩ (.int .i64 x4_2)).setCell ⟨gb113, 1, none⟩ (.int .i64 t112)) = w97 at n0_ n1_ n2_ n3_ ⊢
                 have BK101 := n0_
                 have BK107 := n1_
                 have BK113 := n2_
                 have HB := n3_
                 clear n0_ n1_ n2_ n3_
                 have p114 : 0 ≤ (((rd_Face (rd_LFace l0_0 x4_2) x5_3).f0) : Int) := of_decide_eq_true (by first | (with_reducible assumption) | assumption)
                 have q114 : ((rd_Face (rd_LFace l0_0 x4_2) x5_3).f0) < (l0_0.length : Int) := of_decide_eq_true (by first | (with_reducible assumption) | assumption)
                 obtain ⟨ad114, A114_0, c114_0, e114, hx114_0, hl114_0, hi114_0⟩ := at_LFace HR0_0.out ((rd_Face (rd_LFace l0_0 x4_2) x5_3).f0) p114 q114
                 have hw114_0 := hx114_0
                 obtain rfl : ad105 = ad114 := (by injection e114)
                 replace hx114_0 := (HB.out.cell (yny w _ hx114_0)).trans hx114_0
                 have HR114_0 := Aside0.mk hi114_0
                 have HC114_0 := Aside0.mk hl114_0
                 clear hi114_0 hl114_0
                 replace p114 := eq_true p114
                 replace q114 := eq_true q114
                 have p115 : 0 ≤ (t111 : Int) := of_decide_eq_true (by first | (with_reducible assumption) | assumption)
                 have q115 : t111 < ((rd_LFace l0_0 ((rd_Face (rd_LFace l0_0 x4_2) x5_3).f0)).length : Int) := of_decide_eq_true (by first | (with_reducible assumption) | assumption)
                 obtain ⟨ad115, e115, hx115_0, hx115_1⟩ := at_Face HR114_0.out t111 p115 q115
                 have hw115_1 := hx115_1
                 have hw115_0 := hx115_0
                 cases e115
                 replace hx115_0 := (HB.out.cell (yny w _ hx115_0)).trans hx115_0
                 replace hx115_1 := (HB.out.cell (yny w _ hx115_1)).trans hx115_1
                 replace p115 := eq_true p115
                 replace q115 := eq_true q115
                 have sq0_ : w97.cell? ⟨gb101, 0, none⟩ = some (.slice (some ad105) l0_0.length c0_0) := (blk_cell BK101.out 0).trans rfl
                 have sq1_ : w97.cell? ⟨gb107, 0, none⟩ = some (.int .i64 ((rd_Face (rd_LFace l0_0 x4_2) x5_3).f0)) := (blk_cell BK107.out 0).trans rfl
                 have sq2_ : w97.cell? ⟨gb107, 1, none⟩ = some (.int .i64 ((rd_Face (rd_LFace l0_0 x4_2) x5_3).f1)) := (blk_cell BK107.out 1).trans rfl
                 have sq3_ : w97.cell? ⟨gb113, 0, none⟩ = some (.int .i64 x4_2) := (blk_cell BK113.out 0).trans rfl
                 have sq4_ : w97.cell? ⟨gb113, 1, none⟩ = some (.int .i64 t112) := (blk_cell BK113.out 1).trans rfl
                 have sq5_ : w97.cell? (ad105.add (((rd_Face (rd_LFace l0_0 x4_2) x5_3).f0)).toNat) = some (.slice (some ad115) (rd_LFace l0_0 ((rd_Face (rd_LFace l0_0 x4_2) x5_3).f0)).length c114_0) := ((HB.out.cell (yny w _ hw114_0)).trans hw114_0)
                 have sq6_ : w97.cell? (ad115.add ((t111).toNat * 2)) = some (.int .i64 ((rd_Face (rd_LFace l0_0 ((rd_Face (rd_LFace l0_0 x4_2) x5_3).f0)) t111).f0)) := ((HB.out.cell (yny w _ hw115_0)).trans hw115_0)
                 have sq7_ : w97.cell? ⟨(ad115.add ((t111).toNat * 2)).block, (ad115.add ((t111).toNat * 2)).off + 1, none⟩ = some (.int .i64 ((rd_Face (rd_LFace l0_0 ((rd_Face (rd_LFace l0_0 x4_2) x5_3).f0)) t111).f1)) := ((HB.out.cell (yny w _ hw115_1)).trans hw115_1)
                 go_quiet (fail)
                 generalize hq_ : World.drewN w97 _ = w98
                 have n0_ := Aside0.mk (blk_at hq_ BK101.out)
                 have n1_ := Aside0.mk (blk_at hq_ BK107.out)
                 have n2_ := Aside0.mk (blk_at hq_ BK113.out)
                 have n3_ := Aside0.mk (below_at hq_ HB.out)
                 clear BK101 BK107 BK113 HB hq_ sq0_ sq1_ sq2_ sq3_ sq4_ sq5_ sq6_ sq7_
                 have BK101 := n0_
                 have BK107 := n1_
                 have BK113 := n2_
                 have HB := n3_
                 clear n0_ n1_ n2_ n3_
                 try go_wp2
                 go_roundg kj35
                 case measure => have := HK1.out; have := HK2.out; have := HK3.out; have := HJ24.out; have := HJ35.out; omega
                 case rel => exact ⟨(wrap64 (x5_3 + 1)), (by first | rfl | (simp; done) | (simp [*]; done)), H', ⟨by have := HK1.out; have := HK2.out; have := HK3.out; have := HJ24.out; have := HJ35.out; omega⟩, ⟨by (with_reducible repeat (first | refine blk_drewN ?_ _ | refine blk_drew ?_ | refine blk_alloc ?_ _)); exact BK101.out⟩, ⟨by repeat (first | (with_reducible first | exact HB.out | apply below_alloc | apply pw_below_drewN | apply below_drew1 | refine below_set ?_ GE101.out | refine below_set ?_ GE107.out | refine below_set ?_ GE113.out) | exact HB.out)⟩⟩
                rw [if_pos c64] at H
                have c64b0 : (((rd_Face (rd_LFace l0_0 x4_2) x5_3).f0) == x4_2) = true := beq_iff_eq.mpr c64
                have c64b1 : (((rd_Face (rd_LFace l0_0 x4_2) x5_3).f0) != x4_2) = false := bne_eq_false_iff_eq.mpr c64
                clear c64
                by_cases c65 : t111 = x5_3
                next =>
                 rw [if_pos c65] at H
                 have c65b0 : (t111 == x5_3) = true := beq_iff_eq.mpr c65
                 have c65b1 : (t111 != x5_3) = false := bne_eq_false_iff_eq.mpr c65
                 clear c65
                 obtain rfl := yey H
                 have hnb66 := NB107_101.out
                 have hnc66 := NB101_107.out
                 have hcz67_0 : wc.cell? ⟨gb107, 0, none⟩ = some (.int .i64 ((rd_Face (rd_LFace l0_0 x4_2) x5_3).f0)) := (blk_cell BK107.out 0).trans rfl
                 have hcz67_1 : wc.cell? ⟨gb107, 1, none⟩ = some (.int .i64 ((rd_Face (rd_LFace l0_0 x4_2) x5_3).f1)) := (blk_cell BK107.out 1).trans rfl
                 have hfz67_0 := blk_frozen BK107.out 0
                 have hfz67_1 := blk_frozen BK107.out 1
                 try go_wp2_with (first | ((with_reducible refine gate_callee (f := 68) rfl ?_); refine goesL_ (some 68) rfl rfl Try.func68 (by kernel_rfl) rfl #[.int .i64 ((rd_Face (rd_LFace l0_0 x4_2) x5_3).f1), .int .i64 x5_3] rfl (by (try simp only [yiy, yjy, yky]); first | done | rfl | (simp only [yly, ymy]; rfl)) ?_; (with_reducible refine (spec_l06At.calls kj35 ((rd_Face (rd_LFace l0_0 x4_2) x5_3).f1) x5_3 t111 _ A46.out).mono ?_); rintro e w68 ⟨rfl, hb⟩; refine ⟨_, rfl, ?_⟩; have n0_ := Aside0.mk (blk_below (g := gb101) (o := .cells #[.slice (some ad105) l0_0.length c0_0] 28 (0, 0)) (by (with_reducible repeat (first | refine blk_drewN ?_ _ | refine blk_drew ?_ | refine blk_alloc ?_ _)); exact BK101.out) hb); have n1_ := Aside0.mk (blk_below (g := gb107) (o := .cells #[.int .i64 ((rd_Face (rd_LFace l0_0 x4_2) x5_3).f0), .int .i64 ((rd_Face (rd_LFace l0_0 x4_2) x5_3).f1)] 74 (0, 0)) (by (with_reducible repeat (first | refine blk_drewN ?_ _ | refine blk_drew ?_ | refine blk_alloc ?_ _)); exact BK107.out) hb); have n2_ := Aside0.mk (below_step (by repeat (first | (with_reducible first | exact HB.out | apply below_alloc | apply pw_below_drewN | apply below_drew1 | refine below_set ?_ GE101.out | refine below_set ?_ GE107.out) | exact HB.out)) hb); clear BK101; clear BK107; clear HB; have BK101 := n0_; have BK107 := n1_; have HB := n2_; clear n0_ n1_ n2_; (try clear hb); (try clear hb2); (try clear hk); (try clear hi); have hcz69_0 : w68.cell? ⟨gb107, 0, none⟩ = some (.int .i64 ((rd_Face (rd_LFace l0_0 x4_2) x5_3).f0)) := (blk_cell BK107.out 0).trans rfl; have hcz69_1 : w68.cell? ⟨gb107, 1, none⟩ = some (.int .i64 ((rd_Face (rd_LFace l0_0 x4_2) x5_3).f1)) := (blk_cell BK107.out 1).trans rfl; have hfz69_0 := blk_frozen BK107.out 0; have hfz69_1 := blk_frozen BK107.out 1) | ((with_reducible refine gate_callee (f := 113) rfl ?_); refine goesL_ (some 72) rfl rfl Try.func113 (by kernel_rfl) rfl #[.int .i64 ((rd_Face (rd_LFace l0_0 x4_2) x5_3).f1)] rfl (by (try simp only [yiy, yjy, yky]); first | done | rfl | (simp only [yly, ymy]; rfl)) ?_; (with_reducible refine (spec_l06Back.calls kj35 ((rd_Face (rd_LFace l0_0 x4_2) x5_3).f1) t112 _ A47.out).mono ?_); rintro e w70 ⟨rfl, hb⟩; refine ⟨_, rfl, ?_⟩; have n0_ := Aside0.mk (blk_below (g := gb101) (o := .cells #[.slice (some ad105) l0_0.length c0_0] 28 (0, 0)) (by (with_reducible repeat (first | refine blk_drewN ?_ _ | refine blk_drew ?_ | refine blk_alloc ?_ _)); exact BK101.out) hb); have n1_ := Aside0.mk (blk_below (g := gb107) (o := .cells #[.int .i64 ((rd_Face (rd_LFace l0_0 x4_2) x5_3).f0), .int .i64 ((rd_Face (rd_LFace l0_0 x4_2) x5_3).f1)] 74 (0, 0)) (by (with_reducible repeat (first | refine blk_drewN ?_ _ | refine blk_drew ?_ | refine blk_alloc ?_ _)); exact BK107.out) hb); have n2_ := Aside0.mk (below_step (by repeat (first | (with_reducible first | exact HB.out | apply below_alloc | apply pw_below_drewN | apply below_drew1 | refine below_set ?_ GE101.out | refine below_set ?_ GE107.out) | exact HB.out)) hb); clear BK101; clear BK107; clear HB; have BK101 := n0_; have BK107 := n1_; have HB := n2_; clear n0_ n1_ n2_; (try clear hb); (try clear hb2); (try clear hk); (try clear hi)) | ((with_reducible refine gate_dst (N := 8) rfl ?_); refine box_event ?hg (N := 8) ?hd (cs := #[.int .i64 0, .int .i64 0]) (t := 74) ?hr ?_; (case hd => rfl); (case hg => rfl); (case hr => first | (go_simp; done) | (go_simp; rfl)); intro gb113 hg w71 hbox hb; have n0_ := Aside0.mk (blk_below (g := gb101) (o := .cells #[.slice (some ad105) l0_0.length c0_0] 28 (0, 0)) (by (with_reducible repeat (first | refine blk_drewN ?_ _ | refine blk_drew ?_ | refine blk_alloc ?_ _)); exact BK101.out) hb); have n1_ := Aside0.mk (blk_below (g := gb107) (o := .cells #[.int .i64 ((rd_Face (rd_LFace l0_0 x4_2) x5_3).f0), .int .i64 ((rd_Face (rd_LFace l0_0 x4_2) x5_3).f1)] 74 (0, 0)) (by (with_reducible repeat (first | refine blk_drewN ?_ _ | refine blk_drew ?_ | refine blk_alloc ?_ _)); exact BK107.out) hb); have n2_ := Aside0.mk (below_step (by repeat (first | (with_reducible first | exact HB.out | apply below_alloc | apply pw_below_drewN | apply below_drew1 | refine below_set ?_ GE101.out | refine below_set ?_ GE107.out) | exact HB.out)) hb); have n3_ := Aside0.mk (hbox); have n4_ := Aside0.mk ((by rw [hg]; exact (below_size (by repeat (first | (with_reducible first | exact HB.out | apply below_alloc | apply pw_below_drewN | apply below_drew1 | refine below_set ?_ GE101.out | refine below_set ?_ GE107.out) | exact HB.out))) : w.heap.size ≤ gb113)); have n5_ := Aside0.mk ((by rw [hg]; exact (below_size (by repeat (first | (with_reducible first | exact HB.out | apply below_alloc | apply pw_below_drewN | apply below_drew1 | refine below_set ?_ GE101.out | refine below_set ?_ GE107.out) | exact HB.out))) : w.heap.size ≤ gb113)); have n6_ := Aside0.mk ((by rw [hg]; exact Nat.ne_of_lt (blk_lt (g := gb101) (o := .cells #[.slice (some ad105) l0_0.length c0_0] 28 (0, 0)) (by (with_reducible repeat (first | refine blk_drewN ?_ _ | refine blk_drew ?_ | refine blk_alloc ?_ _)); exact BK101.out)) : gb101 ≠ gb113)); have n7_ := Aside0.mk ((by rw [hg]; exact Nat.ne_of_gt (blk_lt (g := gb101) (o := .cells #[.slice (some ad105) l0_0.length c0_0] 28 (0, 0)) (by (with_reducible repeat (first | refine blk_drewN ?_ _ | refine blk_drew ?_ | refine blk_alloc ?_ _)); exact BK101.out)) : gb113 ≠ gb101)); have n8_ := Aside0.mk ((by rw [hg]; exact Nat.ne_of_lt (blk_lt (g := gb107) (o := .cells #[.int .i64 ((rd_Face (rd_LFace l0_0 x4_2) x5_3).f0), .int .i64 ((rd_Face (rd_LFace l0_0 x4_2) x5_3).f1)] 74 (0, 0)) (by (with_reducible repeat (first | refine blk_drewN ?_ _ | refine blk_drew ?_ | refine blk_alloc ?_ _)); exact BK107.out)) : gb107 ≠ gb113)); have n9_ := Aside0.mk ((by rw [hg]; exact Nat.ne_of_gt (blk_lt (g := gb107) (o := .cells #[.int .i64 ((rd_Face (rd_LFace l0_0 x4_2) x5_3).f0), .int .i64 ((rd_Face (rd_LFace l0_0 x4_2) x5_3).f1)] 74 (0, 0)) (by (with_reducible repeat (first | refine blk_drewN ?_ _ | refine blk_drew ?_ | refine blk_alloc ?_ _)); exact BK107.out)) : gb113 ≠ gb107)); clear BK101; clear BK107; clear HB; have BK101 := n0_; have BK107 := n1_; have HB := n2_; have BK113 := n3_; have GW113 := n4_; have GE113 := n5_; have NB101_113 := n6_; have NB113_101 := n7_; have NB107_113 := n8_; have NB113_107 := n9_; clear n0_ n1_ n2_ n3_ n4_ n5_ n6_ n7_ n8_ n9_; clear hb hbox hg; have hnb72 := NB113_101.out; have hnc72 := NB101_113.out; have hnb73 := NB113_107.out; have hnc73 := NB107_113.out; have hcz74_0 : w71.cell? ⟨gb113, 0, none⟩ = some (.int .i64 0) := (blk_cell BK113.out 0).trans rfl; have hcz74_1 : w71.cell? ⟨gb113, 1, none⟩ = some (.int .i64 0) := (blk_cell BK113.out 1).trans rfl; have hfz74_0 := blk_frozen BK113.out 0; have hfz74_1 := blk_frozen BK113.out 1))
                 have n0_ : Aside0 (((w71.setCell ⟨gb113, 0, none⟩ (.int .i64 x4_2)).setCell ⟨gb113, 1, none⟩ (.int .i64 t112)).heap[gb101]? = some (.cells #[.slice (some ad105) l0_0.length c0_0] 28 (0, 0))) := ⟨by (with_reducible repeat (first | refine blk_drewN ?_ _ | refine blk_drew ?_ | refine blk_alloc ?_ _)); refine blk_far ?_ NB101_113.out _; (with_reducible repeat (first | refine blk_drewN ?_ _ | refine blk_drew ?_ | refine blk_alloc ?_ _)); refine blk_far ?_ NB101_113.out _; (with_reducible repeat (first | refine blk_drewN ?_ _ | refine blk_drew ?_ | refine blk_alloc ?_ _)); exact BK101.out⟩
                 have n1_ : Aside0 (((w71.setCell ⟨gb113, 0, none⟩ (.int .i64 x4_2)).setCell ⟨gb113, 1, none⟩ (.int .i64 t112)).heap[gb107]? = some (.cells #[.int .i64 ((rd_Face (rd_LFace l0_0 x4_2) x5_3).f0), .int .i64 ((rd_Face (rd_LFace l0_0 x4_2) x5_3).f1)] 74 (0, 0))) := ⟨by (with_reducible repeat (first | refine blk_drewN ?_ _ | refine blk_drew ?_ | refine blk_alloc ?_ _)); refine blk_far ?_ NB107_113.out _; (with_reducible repeat (first | refine blk_drewN ?_ _ | refine blk_drew ?_ | refine blk_alloc ?_ _)); refine blk_far ?_ NB107_113.out _; (with_reducible repeat (first | refine blk_drewN ?_ _ | refine blk_drew ?_ | refine blk_alloc ?_ _)); exact BK107.out⟩
                 have n2_ : Aside0 (((w71.setCell ⟨gb113, 0, none⟩ (.int .i64 x4_2)).setCell ⟨gb113, 1, none⟩ (.int .i64 t112)).heap[gb113]? = some (.cells #[.int .i64 x4_2, .int .i64 t112] 74 (0, 0))) := ⟨by (with_reducible repeat (first | refine blk_drewN ?_ _ | refine blk_drew ?_ | refine blk_alloc ?_ _)); refine blk_put (cs := #[.int .i64 x4_2, .int .i64 0]) ?_ 1 _ rfl; (with_reducible repeat (first | refine blk_drewN ?_ _ | refine blk_drew ?_ | refine blk_alloc ?_ _)); refine blk_put (cs := #[.int .i64 0, .int .i64 0]) ?_ 0 _ rfl; (with_reducible repeat (first | refine blk_drewN ?_ _ | refine blk_drew ?_ | refine blk_alloc ?_ _)); exact BK113.out⟩
                 have n3_ : Aside0 (Below w.heap.size w ((w71.setCell ⟨gb113, 0, none⟩ (.int .i64 x4_2)).setCell ⟨gb113, 1, none⟩ (.int .i64 t112))) := ⟨by repeat (first | (with_reducible first | exact HB.out | apply below_alloc | apply pw_below_drewN | apply below_drew1 | refine below_set ?_ GE101.out | refine below_set ?_ GE107.out | refine below_set ?_ GE113.out) | exact HB.out)⟩
                 (try clear BK101)
                 (try clear BK107)
                 (try clear BK113)
                 (try clear HB)
                 generalize ((w71.setCell ⟨gb113, 0, none⟩ (.int .i64 x4_2)).setCell ⟨gb113, 1, none⟩ (.int .i64 t112)) = w75 at n0_ n1_ n2_ n3_ ⊢
                 have BK101 := n0_
                 have BK107 := n1_
                 have BK113 := n2_
                 have HB := n3_
                 clear n0_ n1_ n2_ n3_
                 have p114 : 0 ≤ (((rd_Face (rd_LFace l0_0 x4_2) x5_3).f0) : Int) := of_decide_eq_true (by first | (with_reducible assumption) | assumption)
                 have q114 : ((rd_Face (rd_LFace l0_0 x4_2) x5_3).f0) < (l0_0.length : Int) := of_decide_eq_true (by first | (with_reducible assumption) | assumption)
                 obtain ⟨ad114, A114_0, c114_0, e114, hx114_0, hl114_0, hi114_0⟩ := at_LFace HR0_0.out ((rd_Face (rd_LFace l0_0 x4_2) x5_3).f0) p114 q114
                 have hw114_0 := hx114_0
                 obtain rfl : ad105 = ad114 := (by injection e114)
                 replace hx114_0 := (HB.out.cell (yny w _ hx114_0)).trans hx114_0
                 have HR114_0 := Aside0.mk hi114_0
                 have HC114_0 := Aside0.mk hl114_0
                 clear hi114_0 hl114_0
                 replace p114 := eq_true p114
                 replace q114 := eq_true q114
                 have p115 : 0 ≤ (t111 : Int) := of_decide_eq_true (by first | (with_reducible assumption) | assumption)
                 have q115 : t111 < ((rd_LFace l0_0 ((rd_Face (rd_LFace l0_0 x4_2) x5_3).f0)).length : Int) := of_decide_eq_true (by first | (with_reducible assumption) | assumption)
                 obtain ⟨ad115, e115, hx115_0, hx115_1⟩ := at_Face HR114_0.out t111 p115 q115
                 have hw115_1 := hx115_1
                 have hw115_0 := hx115_0
                 cases e115
                 replace hx115_0 := (HB.out.cell (yny w _ hx115_0)).trans hx115_0
                 replace hx115_1 := (HB.out.cell (yny w _ hx115_1)).trans hx115_1
                 replace p115 := eq_true p115
                 replace q115 := eq_true q115
                 have sq0_ : w75.cell? ⟨gb101, 0, none⟩ = some (.slice (some ad105) l0_0.length c0_0) := (blk_cell BK101.out 0).trans rfl
                 have sq1_ : w75.cell? ⟨gb107, 0, none⟩ = some (.int .i64 ((rd_Face (rd_LFace l0_0 x4_2) x5_3).f0)) := (blk_cell BK107.out 0).trans rfl
                 have sq2_ : w75.cell? ⟨gb107, 1, none⟩ = some (.int .i64 ((rd_Face (rd_LFace l0_0 x4_2) x5_3).f1)) := (blk_cell BK107.out 1).trans rfl
                 have sq3_ : w75.cell? ⟨gb113, 0, none⟩ = some (.int .i64 x4_2) := (blk_cell BK113.out 0).trans rfl
                 have sq4_ : w75.cell? ⟨gb113, 1, none⟩ = some (.int .i64 t112) := (blk_cell BK113.out 1).trans rfl
                 have sq5_ : w75.cell? (ad105.add (((rd_Face (rd_LFace l0_0 x4_2) x5_3).f0)).toNat) = some (.slice (some ad115) (rd_LFace l0_0 ((rd_Face (rd_LFace l0_0 x4_2) x5_3).f0)).length c114_0) := ((HB.out.cell (yny w _ hw114_0)).trans hw114_0)
                 have sq6_ : w75.cell? (ad115.add ((t111).toNat * 2)) = some (.int .i64 ((rd_Face (rd_LFace l0_0 ((rd_Face (rd_LFace l0_0 x4_2) x5_3).f0)) t111).f0)) := ((HB.out.cell (yny w _ hw115_0)).trans hw115_0)
                 have sq7_ : w75.cell? ⟨(ad115.add ((t111).toNat * 2)).block, (ad115.add ((t111).toNat * 2)).off + 1, none⟩ = some (.int .i64 ((rd_Face (rd_LFace l0_0 ((rd_Face (rd_LFace l0_0 x4_2) x5_3).f0)) t111).f1)) := ((HB.out.cell (yny w _ hw115_1)).trans hw115_1)
                 go_quiet (fail)
                 generalize hq_ : World.drewN w75 _ = w76
                 have n0_ := Aside0.mk (blk_at hq_ BK101.out)
                 have n1_ := Aside0.mk (blk_at hq_ BK107.out)
                 have n2_ := Aside0.mk (blk_at hq_ BK113.out)
                 have n3_ := Aside0.mk (below_at hq_ HB.out)
                 clear BK101 BK107 BK113 HB hq_ sq0_ sq1_ sq2_ sq3_ sq4_ sq5_ sq6_ sq7_
                 have BK101 := n0_
                 have BK107 := n1_
                 have BK113 := n2_
                 have HB := n3_
                 clear n0_ n1_ n2_ n3_
                 try go_wp2
                 go_ret
                 exact ⟨by first | rfl | (simp [errW_none, errW_some] <;> rfl) | (simp [*, errW_none, errW_some] <;> rfl), by repeat (first | (with_reducible first | exact HB.out | apply below_alloc | apply pw_below_drewN | apply below_drew1 | refine below_set ?_ GE101.out | refine below_set ?_ GE107.out | refine below_set ?_ GE113.out) | exact HB.out)⟩
                next =>
                 rw [if_neg c65] at H
                 have c65b0 : (t111 == x5_3) = false := beq_eq_false_iff_ne.mpr c65
                 have c65b1 : (t111 != x5_3) = true := bne_iff_ne.mpr c65
                 have H' := Aside0.mk H
                 clear H
                 have hnb77 := NB107_101.out
                 have hnc77 := NB101_107.out
                 have hcz78_0 : wc.cell? ⟨gb107, 0, none⟩ = some (.int .i64 ((rd_Face (rd_LFace l0_0 x4_2) x5_3).f0)) := (blk_cell BK107.out 0).trans rfl
                 have hcz78_1 : wc.cell? ⟨gb107, 1, none⟩ = some (.int .i64 ((rd_Face (rd_LFace l0_0 x4_2) x5_3).f1)) := (blk_cell BK107.out 1).trans rfl
                 have hfz78_0 := blk_frozen BK107.out 0
                 have hfz78_1 := blk_frozen BK107.out 1
                 try go_wp2_with (first | ((with_reducible refine gate_callee (f := 68) rfl ?_); refine goesL_ (some 68) rfl rfl Try.func68 (by kernel_rfl) rfl #[.int .i64 ((rd_Face (rd_LFace l0_0 x4_2) x5_3).f1), .int .i64 x5_3] rfl (by (try simp only [yiy, yjy, yky]); first | done | rfl | (simp only [yly, ymy]; rfl)) ?_; (with_reducible refine (spec_l06At.calls kj35 ((rd_Face (rd_LFace l0_0 x4_2) x5_3).f1) x5_3 t111 _ A46.out).mono ?_); rintro e w79 ⟨rfl, hb⟩; refine ⟨_, rfl, ?_⟩; have n0_ := Aside0.mk (blk_below (g := gb101) (o := .cells #[.slice (some ad105) l0_0.length c0_0] 28 (0, 0)) (by (with_reducible repeat (first | refine blk_drewN ?_ _ | refine blk_drew ?_ | refine blk_alloc ?_ _)); exact BK101.out) hb); have n1_ := Aside0.mk (blk_below (g := gb107) (o := .cells #[.int .i64 ((rd_Face (rd_LFace l0_0 x4_2) x5_3).f0), .int .i64 ((rd_Face (rd_LFace l0_0 x4_2) x5_3).f1)] 74 (0, 0)) (by (with_reducible repeat (first | refine blk_drewN ?_ _ | refine blk_drew ?_ | refine blk_alloc ?_ _)); exact BK107.out) hb); have n2_ := Aside0.mk (below_step (by repeat (first | (with_reducible first | exact HB.out | apply below_alloc | apply pw_below_drewN | apply below_drew1 | refine below_set ?_ GE101.out | refine below_set ?_ GE107.out) | exact HB.out)) hb); clear BK101; clear BK107; clear HB; have BK101 := n0_; have BK107 := n1_; have HB := n2_; clear n0_ n1_ n2_; (try clear hb); (try clear hb2); (try clear hk); (try clear hi); have hcz80_0 : w79.cell? ⟨gb107, 0, none⟩ = some (.int .i64 ((rd_Face (rd_LFace l0_0 x4_2) x5_3).f0)) := (blk_cell BK107.out 0).trans rfl; have hcz80_1 : w79.cell? ⟨gb107, 1, none⟩ = some (.int .i64 ((rd_Face (rd_LFace l0_0 x4_2) x5_3).f1)) := (blk_cell BK107.out 1).trans rfl; have hfz80_0 := blk_frozen BK107.out 0; have hfz80_1 := blk_frozen BK107.out 1) | ((with_reducible refine gate_callee (f := 113) rfl ?_); refine goesL_ (some 72) rfl rfl Try.func113 (by kernel_rfl) rfl #[.int .i64 ((rd_Face (rd_LFace l0_0 x4_2) x5_3).f1)] rfl (by (try simp only [yiy, yjy, yky]); first | done | rfl | (simp only [yly, ymy]; rfl)) ?_; (with_reducible refine (spec_l06Back.calls kj35 ((rd_Face (rd_LFace l0_0 x4_2) x5_3).f1) t112 _ A47.out).mono ?_); rintro e w81 ⟨rfl, hb⟩; refine ⟨_, rfl, ?_⟩; have n0_ := Aside0.mk (blk_below (g := gb101) (o := .cells #[.slice (some ad105) l0_0.length c0_0] 28 (0, 0)) (by (with_reducible repeat (first | refine blk_drewN ?_ _ | refine blk_drew ?_ | refine blk_alloc ?_ _)); exact BK101.out) hb); have n1_ := Aside0.mk (blk_below (g := gb107) (o := .cells #[.int .i64 ((rd_Face (rd_LFace l0_0 x4_2) x5_3).f0), .int .i64 ((rd_Face (rd_LFace l0_0 x4_2) x5_3).f1)] 74 (0, 0)) (by (with_reducible repeat (first | refine blk_drewN ?_ _ | refine blk_drew ?_ | refine blk_alloc ?_ _)); exact BK107.out) hb); have n2_ := Aside0.mk (below_step (by repeat (first | (with_reducible first | exact HB.out | apply below_alloc | apply pw_below_drewN | apply below_drew1 | refine below_set ?_ GE101.out | refine below_set ?_ GE107.out) | exact HB.out)) hb); clear BK101; clear BK107; clear HB; have BK101 := n0_; have BK107 := n1_; have HB := n2_; clear n0_ n1_ n2_; (try clear hb); (try clear hb2); (try clear hk); (try clear hi)) | ((with_reducible refine gate_dst (N := 8) rfl ?_); refine box_event ?hg (N := 8) ?hd (cs := #[.int .i64 0, .int .i64 0]) (t := 74) ?hr ?_; (case hd => rfl); (case hg => rfl); (case hr => first | (go_simp; done) | (go_simp; rfl)); intro gb113 hg w82 hbox hb; have n0_ := Aside0.mk (blk_below (g := gb101) (o := .cells #[.slice (some ad105) l0_0.length c0_0] 28 (0, 0)) (by (with_reducible repeat (first | refine blk_drewN ?_ _ | refine blk_drew ?_ | refine blk_alloc ?_ _)); exact BK101.out) hb); have n1_ := Aside0.mk (blk_below (g := gb107) (o := .cells #[.int .i64 ((rd_Face (rd_LFace l0_0 x4_2) x5_3).f0), .int .i64 ((rd_Face (rd_LFace l0_0 x4_2) x5_3).f1)] 74 (0, 0)) (by (with_reducible repeat (first | refine blk_drewN ?_ _ | refine blk_drew ?_ | refine blk_alloc ?_ _)); exact BK107.out) hb); have n2_ := Aside0.mk (below_step (by repeat (first | (with_reducible first | exact HB.out | apply below_alloc | apply pw_below_drewN | apply below_drew1 | refine below_set ?_ GE101.out | refine below_set ?_ GE107.out) | exact HB.out)) hb); have n3_ := Aside0.mk (hbox); have n4_ := Aside0.mk ((by rw [hg]; exact (below_size (by repeat (first | (with_reducible first | exact HB.out | apply below_alloc | apply pw_below_drewN | apply below_drew1 | refine below_set ?_ GE101.out | refine below_set ?_ GE107.out) | exact HB.out))) : w.heap.size ≤ gb113)); have n5_ := Aside0.mk ((by rw [hg]; exact (below_size (by repeat (first | (with_reducible first | exact HB.out | apply below_alloc | apply pw_below_drewN | apply below_drew1 | refine below_set ?_ GE101.out | refine below_set ?_ GE107.out) | exact HB.out))) : w.heap.size ≤ gb113)); have n6_ := Aside0.mk ((by rw [hg]; exact Nat.ne_of_lt (blk_lt (g := gb101) (o := .cells #[.slice (some ad105) l0_0.length c0_0] 28 (0, 0)) (by (with_reducible repeat (first | refine blk_drewN ?_ _ | refine blk_drew ?_ | refine blk_alloc ?_ _)); exact BK101.out)) : gb101 ≠ gb113)); have n7_ := Aside0.mk ((by rw [hg]; exact Nat.ne_of_gt (blk_lt (g := gb101) (o := .cells #[.slice (some ad105) l0_0.length c0_0] 28 (0, 0)) (by (with_reducible repeat (first | refine blk_drewN ?_ _ | refine blk_drew ?_ | refine blk_alloc ?_ _)); exact BK101.out)) : gb113 ≠ gb101)); have n8_ := Aside0.mk ((by rw [hg]; exact Nat.ne_of_lt (blk_lt (g := gb107) (o := .cells #[.int .i64 ((rd_Face (rd_LFace l0_0 x4_2) x5_3).f0), .int .i64 ((rd_Face (rd_LFace l0_0 x4_2) x5_3).f1)] 74 (0, 0)) (by (with_reducible repeat (first | refine blk_drewN ?_ _ | refine blk_drew ?_ | refine blk_alloc ?_ _)); exact BK107.out)) : gb107 ≠ gb113)); have n9_ := Aside0.mk ((by rw [hg]; exact Nat.ne_of_gt (blk_lt (g := gb107) (o := .cells #[.int .i64 ((rd_Face (rd_LFace l0_0 x4_2) x5_3).f0), .int .i64 ((rd_Face (rd_LFace l0_0 x4_2) x5_3).f1)] 74 (0, 0)) (by (with_reducible repeat (first | refine blk_drewN ?_ _ | refine blk_drew ?_ | refine blk_alloc ?_ _)); exact BK107.out)) : gb113 ≠ gb107)); clear BK101; clear BK107; clear HB; have BK101 := n0_; have BK107 := n1_; have HB := n2_; have BK113 := n3_; have GW113 := n4_; have GE113 := n5_; have NB101_113 := n6_; have NB113_101 := n7_; have NB107_113 := n8_; have NB113_107 := n9_; clear n0_ n1_ n2_ n3_ n4_ n5_ n6_ n7_ n8_ n9_; clear hb hbox hg; have hnb83 := NB113_101.out; have hnc83 := NB101_113.out; have hnb84 := NB113_107.out; have hnc84 := NB107_113.out; have hcz85_0 : w82.cell? ⟨gb113, 0, none⟩ = some (.int .i64 0) := (blk_cell BK113.out 0).trans rfl; have hcz85_1 : w82.cell? ⟨gb113, 1, none⟩ = some (.int .i64 0) := (blk_cell BK113.out 1).trans rfl; have hfz85_0 := blk_frozen BK113.out 0; have hfz85_1 := blk_frozen BK113.out 1))
                 have n0_ : Aside0 (((w82.setCell ⟨gb113, 0, none⟩ (.int .i64 x4_2)).setCell ⟨gb113, 1, none⟩ (.int .i64 t112)).heap[gb101]? = some (.cells #[.slice (some ad105) l0_0.length c0_0] 28 (0, 0))) := ⟨by (with_reducible repeat (first | refine blk_drewN ?_ _ | refine blk_drew ?_ | refine blk_alloc ?_ _)); refine blk_far ?_ NB101_113.out _; (with_reducible repeat (first | refine blk_drewN ?_ _ | refine blk_drew ?_ | refine blk_alloc ?_ _)); refine blk_far ?_ NB101_113.out _; (with_reducible repeat (first | refine blk_drewN ?_ _ | refine blk_drew ?_ | refine blk_alloc ?_ _)); exact BK101.out⟩
                 have n1_ : Aside0 (((w82.setCell ⟨gb113, 0, none⟩ (.int .i64 x4_2)).setCell ⟨gb113, 1, none⟩ (.int .i64 t112)).heap[gb107]? = some (.cells #[.int .i64 ((rd_Face (rd_LFace l0_0 x4_2) x5_3).f0), .int .i64 ((rd_Face (rd_LFace l0_0 x4_2) x5_3).f1)] 74 (0, 0))) := ⟨by (with_reducible repeat (first | refine blk_drewN ?_ _ | refine blk_drew ?_ | refine blk_alloc ?_ _)); refine blk_far ?_ NB107_113.out _; (with_reducible repeat (first | refine blk_drewN ?_ _ | refine blk_drew ?_ | refine blk_alloc ?_ _)); refine blk_far ?_ NB107_113.out _; (with_reducible repeat (first | refine blk_drewN ?_ _ | refine blk_drew ?_ | refine blk_alloc ?_ _)); exact BK107.out⟩
                 have n2_ : Aside0 (((w82.setCell ⟨gb113, 0, none⟩ (.int .i64 x4_2)).setCell ⟨gb113, 1, none⟩ (.int .i64 t112)).heap[gb113]? = some (.cells #[.int .i64 x4_2, .int .i64 t112] 74 (0, 0))) := ⟨by (with_reducible repeat (first | refine blk_drewN ?_ _ | refine blk_drew ?_ | refine blk_alloc ?_ _)); refine blk_put (cs := #[.int .i64 x4_2, .int .i64 0]) ?_ 1 _ rfl; (with_reducible repeat (first | refine blk_drewN ?_ _ | refine blk_drew ?_ | refine blk_alloc ?_ _)); refine blk_put (cs := #[.int .i64 0, .int .i64 0]) ?_ 0 _ rfl; (with_reducible repeat (first | refine blk_drewN ?_ _ | refine blk_drew ?_ | refine blk_alloc ?_ _)); exact BK113.out⟩
                 have n3_ : Aside0 (Below w.heap.size w ((w82.setCell ⟨gb113, 0, none⟩ (.int .i64 x4_2)).setCell ⟨gb113, 1, none⟩ (.int .i64 t112))) := ⟨by repeat (first | (with_reducible first | exact HB.out | apply below_alloc | apply pw_below_drewN | apply below_drew1 | refine below_set ?_ GE101.out | refine below_set ?_ GE107.out | refine below_set ?_ GE113.out) | exact HB.out)⟩
                 (try clear BK101)
                 (try clear BK107)
                 (try clear BK113)
                 (try clear HB)
                 generalize ((w82.setCell ⟨gb113, 0, none⟩ (.int .i64 x4_2)).setCell ⟨gb113, 1, none⟩ (.int .i64 t112)) = w86 at n0_ n1_ n2_ n3_ ⊢
                 have BK101 := n0_
                 have BK107 := n1_
                 have BK113 := n2_
                 have HB := n3_
                 clear n0_ n1_ n2_ n3_
                 have p114 : 0 ≤ (((rd_Face (rd_LFace l0_0 x4_2) x5_3).f0) : Int) := of_decide_eq_true (by first | (with_reducible assumption) | assumption)
                 have q114 : ((rd_Face (rd_LFace l0_0 x4_2) x5_3).f0) < (l0_0.length : Int) := of_decide_eq_true (by first | (with_reducible assumption) | assumption)
                 obtain ⟨ad114, A114_0, c114_0, e114, hx114_0, hl114_0, hi114_0⟩ := at_LFace HR0_0.out ((rd_Face (rd_LFace l0_0 x4_2) x5_3).f0) p114 q114
                 have hw114_0 := hx114_0
                 obtain rfl : ad105 = ad114 := (by injection e114)
                 replace hx114_0 := (HB.out.cell (yny w _ hx114_0)).trans hx114_0
                 have HR114_0 := Aside0.mk hi114_0
                 have HC114_0 := Aside0.mk hl114_0
                 clear hi114_0 hl114_0
                 replace p114 := eq_true p114
                 replace q114 := eq_true q114
                 have p115 : 0 ≤ (t111 : Int) := of_decide_eq_true (by first | (with_reducible assumption) | assumption)
                 have q115 : t111 < ((rd_LFace l0_0 ((rd_Face (rd_LFace l0_0 x4_2) x5_3).f0)).length : Int) := of_decide_eq_true (by first | (with_reducible assumption) | assumption)
                 obtain ⟨ad115, e115, hx115_0, hx115_1⟩ := at_Face HR114_0.out t111 p115 q115
                 have hw115_1 := hx115_1
                 have hw115_0 := hx115_0
                 cases e115
                 replace hx115_0 := (HB.out.cell (yny w _ hx115_0)).trans hx115_0
                 replace hx115_1 := (HB.out.cell (yny w _ hx115_1)).trans hx115_1
                 replace p115 := eq_true p115
                 replace q115 := eq_true q115
                 have sq0_ : w86.cell? ⟨gb101, 0, none⟩ = some (.slice (some ad105) l0_0.length c0_0) := (blk_cell BK101.out 0).trans rfl
                 have sq1_ : w86.cell? ⟨gb107, 0, none⟩ = some (.int .i64 ((rd_Face (rd_LFace l0_0 x4_2) x5_3).f0)) := (blk_cell BK107.out 0).trans rfl
                 have sq2_ : w86.cell? ⟨gb107, 1, none⟩ = some (.int .i64 ((rd_Face (rd_LFace l0_0 x4_2) x5_3).f1)) := (blk_cell BK107.out 1).trans rfl
                 have sq3_ : w86.cell? ⟨gb113, 0, none⟩ = some (.int .i64 x4_2) := (blk_cell BK113.out 0).trans rfl
                 have sq4_ : w86.cell? ⟨gb113, 1, none⟩ = some (.int .i64 t112) := (blk_cell BK113.out 1).trans rfl
                 have sq5_ : w86.cell? (ad105.add (((rd_Face (rd_LFace l0_0 x4_2) x5_3).f0)).toNat) = some (.slice (some ad115) (rd_LFace l0_0 ((rd_Face (rd_LFace l0_0 x4_2) x5_3).f0)).length c114_0) := ((HB.out.cell (yny w _ hw114_0)).trans hw114_0)
                 have sq6_ : w86.cell? (ad115.add ((t111).toNat * 2)) = some (.int .i64 ((rd_Face (rd_LFace l0_0 ((rd_Face (rd_LFace l0_0 x4_2) x5_3).f0)) t111).f0)) := ((HB.out.cell (yny w _ hw115_0)).trans hw115_0)
                 have sq7_ : w86.cell? ⟨(ad115.add ((t111).toNat * 2)).block, (ad115.add ((t111).toNat * 2)).off + 1, none⟩ = some (.int .i64 ((rd_Face (rd_LFace l0_0 ((rd_Face (rd_LFace l0_0 x4_2) x5_3).f0)) t111).f1)) := ((HB.out.cell (yny w _ hw115_1)).trans hw115_1)
                 go_quiet (fail)
                 generalize hq_ : World.drewN w86 _ = w87
                 have n0_ := Aside0.mk (blk_at hq_ BK101.out)
                 have n1_ := Aside0.mk (blk_at hq_ BK107.out)
                 have n2_ := Aside0.mk (blk_at hq_ BK113.out)
                 have n3_ := Aside0.mk (below_at hq_ HB.out)
                 clear BK101 BK107 BK113 HB hq_ sq0_ sq1_ sq2_ sq3_ sq4_ sq5_ sq6_ sq7_
                 have BK101 := n0_
                 have BK107 := n1_
                 have BK113 := n2_
                 have HB := n3_
                 clear n0_ n1_ n2_ n3_
                 try go_wp2
                 go_roundg kj35
                 case measure => have := HK1.out; have := HK2.out; have := HK3.out; have := HJ24.out; have := HJ35.out; omega
                 case rel => exact ⟨(wrap64 (x5_3 + 1)), (by first | rfl | (simp; done) | (simp [*]; done)), H', ⟨by have := HK1.out; have := HK2.out; have := HK3.out; have := HJ24.out; have := HJ35.out; omega⟩, ⟨by (with_reducible repeat (first | refine blk_drewN ?_ _ | refine blk_drew ?_ | refine blk_alloc ?_ _)); exact BK101.out⟩, ⟨by repeat (first | (with_reducible first | exact HB.out | apply below_alloc | apply pw_below_drewN | apply below_drew1 | refine below_set ?_ GE101.out | refine below_set ?_ GE107.out | refine below_set ?_ GE113.out) | exact HB.out)⟩⟩
end
/-! ### spec_l07Permutation: function 131 -/
def spec_l07Permutation.l0 : Nat → List Int → Int → List Bool → Int → Option (Bool)
  | 0, _, _, _, _ => none
  | k + 1, x0, x1, x5, x6 => if x6 < (x0.length : Int) then (if 0 ≤ x6 then ((spec_l07In.f (rd x0 x6) 0 (wrap64 (x1 - 1))).bind fun t105 => (if t105 = true then (if 0 ≤ (rd x0 x6) then (if (rd x0 x6) < (x5.length : Int) then (if rdOf false x5 (rd x0 x6) = true then (some false) else (spec_l07Permutation.l0 k x0 x1 (x5.set ((rd x0 x6) : Int).toNat true) (wrap64 (x6 + 1)))) else (none)) else (none)) else (some false))) else (none)) else (some ((x0.length : Int) == x1))
def spec_l07Permutation.f (k : Nat) (l0 : List Int) (a1 : Int) : Option (Bool) := if 0 ≤ a1 then (if (a1 : Int).toNat ≤ 281474976710656 then (spec_l07Permutation.l0 k l0 a1 (List.replicate (a1 : Int).toNat false) 0) else (none)) else (none)
set_option maxHeartbeats 8000000 in
set_option maxRecDepth 100000 in
theorem spec_l07Permutation.calls (k : Nat) (A0 : Option Addr) (c0 : Nat) (l0 : List Int) (a1 : Int) (r : Bool) (w : World) (hr0 : Kd.C (Kd.int .i64) w A0 l0.length l0) (hc0 : l0.length ≤ c0) (h : spec_l07Permutation.f k l0 a1 = some r) :
    Calls Try.prog 131 #[.slice A0 l0.length c0, .int .i64 a1] w fun e w' => e = .returned (.bool r) ∧ Below w.heap.size w w' := by
  have HR0 := Aside0.mk hr0
  have HC0 := Aside0.mk hc0
  clear hr0 hc0
  have HB := Aside0.mk (ypy w.heap.size w)
  have H : (if 0 ≤ a1 then (if (a1 : Int).toNat ≤ 281474976710656 then (spec_l07Permutation.l0 k l0 a1 (List.replicate (a1 : Int).toNat false) 0) else (none)) else (none)) = some r := h
  clear h
  by_cases c3 : 0 ≤ a1
  · rw [if_pos c3] at H
    have c3b0 := eq_true c3
    have c3b1 : decide (0 ≤ a1) = true := ygy c3
    clear c3
    by_cases c4 : (a1 : Int).toNat ≤ 281474976710656
    · rw [if_pos c4] at H
      have c4b0 := eq_true c4
      have c4b1 : decide ((a1 : Int).toNat ≤ 281474976710656) = true := ygy c4
      clear c4
      obtain ⟨y101, hy101⟩ : ∃ y_ : List Bool, y_ = (List.replicate (a1 : Int).toNat false) := ⟨_, rfl⟩
      replace H : (spec_l07Permutation.l0 k l0 a1 y101 0) = some r := by first | (rw [hy101]; with_reducible exact H) | (have H2_ := (yfy _ _).symm.trans H; rw [hy101]; with_reducible exact H2_) | (have H2_ := (yfy _ _).symm.trans H; with_reducible exact H2_) | with_reducible exact H | (rw [hy101]; exact H) | exact H
      have Ny101 := Aside0.mk hy101
      clear hy101
      have H' := Aside0.mk H
      clear H
      go_enter Try.func131, Try.ntmps131
      go_wp2_with (first | ((with_reducible refine gate_dst (N := 8) rfl ?_); refine Kd.R_make Kd.bool _ 4 rfl (N := 8) rfl 141 _ _ rfl a1 rfl rfl Try.underlying141 (.bool false) 1 info4 rfl (by decide) (by omega) false (ok := fun _ => True) (okp := fun _ => True) rfl (fun _ hk => hk) trivial (of_decide_eq_true (by first | (with_reducible assumption) | assumption)) (Nat.le_trans (Nat.mul_le_mul_right _ (of_decide_eq_true (by first | (with_reducible assumption) | assumption) : a1.toNat ≤ 281474976710656)) (by omega)) (ypy _ _) (yoy _) ?_; intro v102 w5 ho6 hb hg_ hnew_; clear hg_ hnew_; (first | rw [← Ny101.out] at ho6 | (simp only [Int.reduceToNat] at ho6; rw [← Ny101.out] at ho6)); have n0_ := Aside0.mk (Kd.R_lower ho6 (below_size (by repeat (first | (with_reducible first | exact HB.out | apply below_alloc | apply pw_below_drewN | apply below_drew1) | exact HB.out)))); have n1_ := Aside0.mk (below_step (by repeat (first | (with_reducible first | exact HB.out | apply below_alloc | apply pw_below_drewN | apply below_drew1) | exact HB.out)) hb); clear HB; have HO103 := n0_; have HB := n1_; clear n0_ n1_; clear hb ho6))
      go_loopg [6] k (fun kq v6 w' => ∃ (x5_1 : List Bool) (x6_1 : Int), v6 = .int .i64 x6_1 ∧ Aside0 (spec_l07Permutation.l0 kq l0 a1 x5_1 x6_1 = some r) ∧ Aside0 (kq ≤ k) ∧ Aside0 (Kd.R Kd.bool 4 w' w.heap.size (fun _ => True) v102 x5_1) ∧ Aside0 (Below w.heap.size w w'))
      case atStart => exact ⟨(y101), (0), (by first | rfl | (simp; done) | (simp [*]; done)), H', ⟨yoy _⟩, ⟨by (with_reducible repeat (first | apply Kd.R_alloc | apply Kd.R_drewN | apply Kd.R_drew)); exact HO103.out⟩, ⟨by repeat (first | (with_reducible first | exact HB.out | apply below_alloc | apply pw_below_drewN | apply below_drew1) | exact HB.out)⟩⟩
      case round =>
        clear H'
        try clear c1
        try clear p2
        try clear c3
        try clear c3b0
        try clear c3b1
        try clear c4
        try clear c4b0
        try clear c4b1
        obtain ⟨x5_1, x6_1, rfl, HA, HK1, HO_5, HB⟩ := hrel
        cases gk with
        | zero => exact absurd HA.out (by simp [spec_l07Permutation.l0])
        | succ k1 =>
          have H := HA.out
          clear HA
          simp only [spec_l07Permutation.l0] at H
          by_cases c7 : x6_1 < (l0.length : Int)
          · rw [if_pos c7] at H
            have c7b0 : decide (x6_1 < (l0.length : Int)) = true := ygy c7
            clear c7
            by_cases c8 : 0 ≤ x6_1
            · rw [if_pos c8] at H
              have c8b0 : decide (0 ≤ x6_1) = true := ygy c8
              clear c8
              replace H := ydy.mp H
              obtain ⟨t105, A90, H⟩ := H
              replace H : (if t105 = true then (if 0 ≤ (rd l0 x6_1) then (if (rd l0 x6_1) < (x5_1.length : Int) then (if rdOf false x5_1 (rd l0 x6_1) = true then (some false) else (spec_l07Permutation.l0 k1 l0 a1 (x5_1.set ((rd l0 x6_1) : Int).toNat true) (wrap64 (x6_1 + 1)))) else (none)) else (none)) else (some false)) = some r := H
              have A9 := Aside0.mk A90
              clear A90
              by_cases c10 : t105 = true
              · subst c10
                have H1 : (if 0 ≤ (rd l0 x6_1) then (if (rd l0 x6_1) < (x5_1.length : Int) then (if rdOf false x5_1 (rd l0 x6_1) = true then (some false) else (spec_l07Permutation.l0 k1 l0 a1 (x5_1.set ((rd l0 x6_1) : Int).toNat true) (wrap64 (x6_1 + 1)))) else (none)) else (none)) = some r := by rw [if_pos rfl] at H; exact H
                clear H
                have H := H1
                clear H1
                by_cases c11 : 0 ≤ (rd l0 x6_1)
                · rw [if_pos c11] at H
                  have c11b0 : decide (0 ≤ (rd l0 x6_1)) = true := ygy c11
                  clear c11
                  by_cases c12 : (rd l0 x6_1) < (x5_1.length : Int)
                  · rw [if_pos c12] at H
                    have c12b0 : decide ((rd l0 x6_1) < (x5_1.length : Int)) = true := ygy c12
                    clear c12
                    obtain ⟨bq13, hbq13⟩ : ∃ b_ : Bool, b_ = (rdOf false x5_1 (rd l0 x6_1)) := ⟨_, rfl⟩
                    replace H : (if bq13 = true then (some false) else (spec_l07Permutation.l0 k1 l0 a1 (x5_1.set ((rd l0 x6_1) : Int).toNat true) (wrap64 (x6_1 + 1)))) = some r := by rw [← hbq13] at H; exact H
                    have Nbq13 := Aside0.mk hbq13
                    clear hbq13
                    by_cases c14 : bq13 = true
                    · subst c14
                      have H1 : (some false) = some r := by rw [if_pos rfl] at H; exact H
                      clear H
                      have H := H1
                      clear H1
                      obtain rfl := yey H
                      have p104 : 0 ≤ (x6_1 : Int) := of_decide_eq_true (by first | (with_reducible assumption) | assumption)
                      have q104 : x6_1 < (l0.length : Int) := of_decide_eq_true (by first | (with_reducible assumption) | assumption)
                      obtain ⟨ad104, e104, hx104_0⟩ := Kd.at_int HR0.out x6_1 p104 q104
                      cases e104
                      replace hx104_0 := (HB.out.cell (yny w _ hx104_0)).trans hx104_0
                      replace p104 := eq_true p104
                      replace q104 := eq_true q104
                      go_wp2_with (first | ((with_reducible refine gate_callee (f := 66) rfl ?_); refine goesL_ (some 21) rfl rfl Try.func66 (by kernel_rfl) rfl #[.int .i64 (rd l0 x6_1), .int .i64 0, .int .i64 (wrap64 (a1 - 1))] rfl (by (try simp only [yiy, yjy, yky]); first | done | rfl | (simp only [yly, ymy]; rfl)) ?_; (with_reducible refine (spec_l07In.calls (rd l0 x6_1) 0 (wrap64 (a1 - 1)) true _ A9.out).mono ?_); rintro e w' ⟨rfl, ⟨nd, rfl⟩⟩; refine ⟨_, rfl, ?_⟩; have p106 : 0 ≤ (x6_1 : Int) := of_decide_eq_true (by first | (with_reducible assumption) | assumption); have q106 : x6_1 < (l0.length : Int) := of_decide_eq_true (by first | (with_reducible assumption) | assumption); obtain ⟨ad106, e106, hx106_0⟩ := Kd.at_int HR0.out x6_1 p106 q106; obtain rfl : ad104 = ad106 := (by injection e106); replace hx106_0 := (HB.out.cell (yny w _ hx106_0)).trans hx106_0; replace p106 := eq_true p106; replace q106 := eq_true q106; obtain ⟨Ao15, co15, eo15⟩ := Kd.R_slice HO_5.out; subst eo15; have p107 : 0 ≤ ((rd l0 x6_1) : Int) := of_decide_eq_true (by first | (with_reducible assumption) | assumption); have q107 : (rd l0 x6_1) < (x5_1.length : Int) := of_decide_eq_true (by first | (with_reducible assumption) | assumption); obtain ⟨ad107, e107, hx107_0⟩ := Kd.at_bool (Kd.R_reads' HO_5.out).2.2 (rd l0 x6_1) p107 q107; (try rw [← Nbq13.out] at hx107_0); cases e107; replace p107 := eq_true p107; replace q107 := eq_true q107))
                      go_ret
                      exact ⟨by first | rfl | (simp [errW_none, errW_some] <;> rfl) | (simp [*, errW_none, errW_some] <;> rfl), by repeat (first | (with_reducible first | exact HB.out | apply below_alloc | apply pw_below_drewN | apply below_drew1) | exact HB.out)⟩
                    · replace c14 := Bool.eq_false_iff.mpr c14
                      subst c14
                      have H1 : (spec_l07Permutation.l0 k1 l0 a1 (x5_1.set ((rd l0 x6_1) : Int).toNat true) (wrap64 (x6_1 + 1))) = some r := by rw [if_neg (show ¬ (false = true) by decide)] at H; exact H
                      clear H
                      have H := H1
                      clear H1
                      obtain ⟨y109, hy109⟩ : ∃ y_ : List Bool, y_ = (x5_1.set ((rd l0 x6_1) : Int).toNat true) := ⟨_, rfl⟩
                      replace H : (spec_l07Permutation.l0 k1 l0 a1 y109 (wrap64 (x6_1 + 1))) = some r := by first | (rw [hy109]; with_reducible exact H) | (have H2_ := (yfy _ _).symm.trans H; rw [hy109]; with_reducible exact H2_) | (have H2_ := (yfy _ _).symm.trans H; with_reducible exact H2_) | with_reducible exact H | (rw [hy109]; exact H) | exact H
                      have Ny109 := Aside0.mk hy109
                      clear hy109
                      have H' := Aside0.mk H
                      clear H
                      have p104 : 0 ≤ (x6_1 : Int) := of_decide_eq_true (by first | (with_reducible assumption) | assumption)
                      have q104 : x6_1 < (l0.length : Int) := of_decide_eq_true (by first | (with_reducible assumption) | assumption)
                      obtain ⟨ad104, e104, hx104_0⟩ := Kd.at_int HR0.out x6_1 p104 q104
                      cases e104
                      replace hx104_0 := (HB.out.cell (yny w _ hx104_0)).trans hx104_0
                      replace p104 := eq_true p104
                      replace q104 := eq_true q104
                      go_wp2_with (first | ((with_reducible refine gate_callee (f := 66) rfl ?_); refine goesL_ (some 21) rfl rfl Try.func66 (by kernel_rfl) rfl #[.int .i64 (rd l0 x6_1), .int .i64 0, .int .i64 (wrap64 (a1 - 1))] rfl (by (try simp only [yiy, yjy, yky]); first | done | rfl | (simp only [yly, ymy]; rfl)) ?_; (with_reducible refine (spec_l07In.calls (rd l0 x6_1) 0 (wrap64 (a1 - 1)) true _ A9.out).mono ?_); rintro e w' ⟨rfl, ⟨nd, rfl⟩⟩; refine ⟨_, rfl, ?_⟩; (try (rw [drewN_self wr]; generalize hq_ : World.drewN wr _ = wr; have n0_ : Aside0 (Kd.R Kd.bool 4 wr w.heap.size (fun _ => True) v102 x5_1) := ⟨by rw [← hq_]; exact (by (with_reducible repeat (first | apply Kd.R_alloc | apply Kd.R_drewN | apply Kd.R_drew)); exact HO_5.out)⟩; have n1_ : Aside0 (Below w.heap.size w wr) := ⟨by rw [← hq_]; exact (by repeat (first | (with_reducible first | exact HB.out | apply below_alloc | apply pw_below_drewN | apply below_drew1) | exact HB.out))⟩; clear HO_5 HB hq_; have HO_5 := n0_; have HB := n1_; clear n0_ n1_)); have p106 : 0 ≤ (x6_1 : Int) := of_decide_eq_true (by first | (with_reducible assumption) | assumption); have q106 : x6_1 < (l0.length : Int) := of_decide_eq_true (by first | (with_reducible assumption) | assumption); obtain ⟨ad106, e106, hx106_0⟩ := Kd.at_int HR0.out x6_1 p106 q106; obtain rfl : ad104 = ad106 := (by injection e106); replace hx106_0 := (HB.out.cell (yny w _ hx106_0)).trans hx106_0; replace p106 := eq_true p106; replace q106 := eq_true q106; obtain ⟨Ao17, co17, eo17⟩ := Kd.R_slice HO_5.out; subst eo17; have p107 : 0 ≤ ((rd l0 x6_1) : Int) := of_decide_eq_true (by first | (with_reducible assumption) | assumption); have q107 : (rd l0 x6_1) < (x5_1.length : Int) := of_decide_eq_true (by first | (with_reducible assumption) | assumption); obtain ⟨ad107, e107, hx107_0⟩ := Kd.at_bool (Kd.R_reads' HO_5.out).2.2 (rd l0 x6_1) p107 q107; (try rw [← Nbq13.out] at hx107_0); cases e107; replace p107 := eq_true p107; replace q107 := eq_true q107; have p108 : 0 ≤ (x6_1 : Int) := of_decide_eq_true (by first | (with_reducible assumption) | assumption); have q108 : x6_1 < (l0.length : Int) := of_decide_eq_true (by first | (with_reducible assumption) | assumption); obtain ⟨ad108, e108, hx108_0⟩ := Kd.at_int HR0.out x6_1 p108 q108; obtain rfl : ad104 = ad108 := (by injection e108); replace hx108_0 := (HB.out.cell (yny w _ hx108_0)).trans hx108_0; replace p108 := eq_true p108; replace q108 := eq_true q108; have p16 : 0 ≤ ((rd l0 x6_1) : Int) := of_decide_eq_true (by first | (with_reducible assumption) | assumption); have q16 : ((rd l0 x6_1) : Int) < ((x5_1.length : Int) : Int) := of_decide_eq_true (by first | (with_reducible assumption) | assumption); obtain ⟨go16, co16, eo16, gb16, gl16, cl16, HG16⟩ := Kd.R_form HO_5.out (by omega); (first | cases eo16 | (injection eo16 with ea_ en_ ec_; (first | subst ea_ | (injection ea_ with ea_; subst ea_)); subst ec_; clear en_)); have GB16 := Aside0.mk gb16; have GG16 := Aside0.mk HG16; clear gb16 gl16 HG16; (first | simp only [add_plain] at hx107_0 | skip); obtain ⟨hx16_0, hf16_0⟩ := Kd.R_celln false HO_5.out ((rd l0 x6_1) : Int) p16 q16; replace p16 := eq_true p16; replace q16 := eq_true q16; obtain ⟨hy18_, hz18_⟩ := Kd.R_celln false HO_5.out ((rd l0 x6_1) : Int) (of_decide_eq_true (by first | (with_reducible assumption) | assumption)) (of_decide_eq_true (by first | (with_reducible assumption) | assumption)); have HP18 := Kd.R_putg HO_5.out ((rd l0 x6_1) : Int) true) | ((with_reducible refine gate_store (t := 4) (p := 37) rfl ?_); refine store_event (t := 4) (p := 37) (v := ?vo_w19) (w1 := (wr.setCell ⟨go16, ((rd l0 x6_1) : Int).toNat, none⟩ (.bool true))) ?hg ?ho ?hn ?hr ?_; (case ho => rfl); (case hg => rfl); (case hn => rfl); (case hr => first | (go_simp; done) | (go_simp; rfl)); intro w19 hw; have hg : wr.grownBy w19 (some go16) := (by rw [hw]; exact HP18.2); have hp_ : Kd.R Kd.bool 4 w19 w.heap.size (fun _ => True) (.slice (some ⟨go16, 0, none⟩) x5_1.length co17) y109 := (by rw [hw, Ny109.out]; exact HP18.1); clear HP18; have n0_ := Aside0.mk (hp_); have n1_ := Aside0.mk ((by rw [hw]; exact below_set (HB.out) GB16.out : Below w.heap.size w w19)); clear HO_5; clear HB; have HO_5 := n0_; have HB := n1_; clear n0_ n1_; clear hg hw hp_))
                      go_roundg k1
                      case measure => have := HK1.out; omega
                      case rel => exact ⟨(y109), (wrap64 (x6_1 + 1)), (by first | rfl | (simp; done) | (simp [*]; done)), H', ⟨by have := HK1.out; omega⟩, ⟨by (with_reducible repeat (first | apply Kd.R_alloc | apply Kd.R_drewN | apply Kd.R_drew)); exact HO_5.out⟩, ⟨by repeat (first | (with_reducible first | exact HB.out | apply below_alloc | apply pw_below_drewN | apply below_drew1) | exact HB.out)⟩⟩
                  · rw [if_neg c12] at H
                    exact absurd H (by simp)
                · rw [if_neg c11] at H
                  exact absurd H (by simp)
              · replace c10 := Bool.eq_false_iff.mpr c10
                subst c10
                have H1 : (some false) = some r := by rw [if_neg (show ¬ (false = true) by decide)] at H; exact H
                clear H
                have H := H1
                clear H1
                obtain rfl := yey H
                have p104 : 0 ≤ (x6_1 : Int) := of_decide_eq_true (by first | (with_reducible assumption) | assumption)
                have q104 : x6_1 < (l0.length : Int) := of_decide_eq_true (by first | (with_reducible assumption) | assumption)
                obtain ⟨ad104, e104, hx104_0⟩ := Kd.at_int HR0.out x6_1 p104 q104
                cases e104
                replace hx104_0 := (HB.out.cell (yny w _ hx104_0)).trans hx104_0
                replace p104 := eq_true p104
                replace q104 := eq_true q104
                go_wp2_with (first | ((with_reducible refine gate_callee (f := 66) rfl ?_); refine goesL_ (some 21) rfl rfl Try.func66 (by kernel_rfl) rfl #[.int .i64 (rd l0 x6_1), .int .i64 0, .int .i64 (wrap64 (a1 - 1))] rfl (by (try simp only [yiy, yjy, yky]); first | done | rfl | (simp only [yly, ymy]; rfl)) ?_; (with_reducible refine (spec_l07In.calls (rd l0 x6_1) 0 (wrap64 (a1 - 1)) false _ A9.out).mono ?_); rintro e w' ⟨rfl, ⟨nd, rfl⟩⟩; refine ⟨_, rfl, ?_⟩))
                go_ret
                exact ⟨by first | rfl | (simp [errW_none, errW_some] <;> rfl) | (simp [*, errW_none, errW_some] <;> rfl), by repeat (first | (with_reducible first | exact HB.out | apply below_alloc | apply pw_below_drewN | apply below_drew1) | exact HB.out)⟩
            · rw [if_neg c8] at H
              exact absurd H (by simp)
          · rw [if_neg c7] at H
            have c7b0 : decide (x6_1 < (l0.length : Int)) = false := yhy c7
            clear c7
            obtain rfl := yey H
            go_wp2
            go_ret
            exact ⟨by first | rfl | (simp [errW_none, errW_some] <;> rfl) | (simp [*, errW_none, errW_some] <;> rfl), by repeat (first | (with_reducible first | exact HB.out | apply below_alloc | apply pw_below_drewN | apply below_drew1) | exact HB.out)⟩
    · rw [if_neg c4] at H
      exact absurd H (by simp)
  · rw [if_neg c3] at H
    exact absurd H (by simp)
/-! ### spec_l07Labels: function 84 -/
def spec_l07Labels.l0 : Nat → List Int → List Int → Int → List (List (SFace)) → Option (Bool)
  | 0, _, _, _, _ => none
  | k + 1, x1, x2, x7, x102000 => if x7 < (x2.length : Int) then (if 0 ≤ x7 then ((spec_l06Valid.f (rd x2 x7)).bind fun t103 => (if t103 = true then (spec_l07Labels.l0 k x1 x2 (wrap64 (x7 + 1)) x102000) else (some false))) else (none)) else ((spec_l07Permutation.f k x1 (x102000.length : Int)).bind fun t104 => (if t104 = true then (some ((x2.length : Int) == (x102000.length : Int))) else (some false)))
def spec_l07Labels.f (k : Nat) (l0_0 : List (List (SFace))) (l1 : List Int) (l2 : List Int) : Option (Bool) := spec_l07Labels.l0 k l1 l2 0 l0_0
set_option maxHeartbeats 8000000 in
set_option maxRecDepth 100000 in
theorem spec_l07Labels.calls (k : Nat) (A0_0 : Option Addr) (c0_0 : Nat) (l0_0 : List (List (SFace))) (A1 : Option Addr) (c1 : Nat) (l1 : List Int) (A2 : Option Addr) (c2 : Nat) (l2 : List Int) (r : Bool) (w : World) (hr0_0 : Kd.C (Kd.slice 74 kFace) w A0_0 l0_0.length l0_0) (hc0_0 : l0_0.length ≤ c0_0) (hr1 : Kd.C (Kd.int .i64) w A1 l1.length l1) (hc1 : l1.length ≤ c1) (hr2 : Kd.C (Kd.int .i64) w A2 l2.length l2) (hc2 : l2.length ≤ c2) (h : spec_l07Labels.f k l0_0 l1 l2 = some r) :
    Calls Try.prog 84 #[.agg #[.slice A0_0 l0_0.length c0_0], .slice A1 l1.length c1, .slice A2 l2.length c2] w fun e w' => e = .returned (.bool r) ∧ Below w.heap.size w w' := by
  have hu28 := Try.underlying28
  have HR0_0 := Aside0.mk hr0_0
  have HC0_0 := Aside0.mk hc0_0
  clear hr0_0 hc0_0
  have HR1 := Aside0.mk hr1
  have HC1 := Aside0.mk hc1
  clear hr1 hc1
  have HR2 := Aside0.mk hr2
  have HC2 := Aside0.mk hc2
  clear hr2 hc2
  have HB := Aside0.mk (ypy w.heap.size w)
  have H : (spec_l07Labels.l0 k l1 l2 0 l0_0) = some r := h
  clear h
  have H' := Aside0.mk H
  clear H
  go_enter Try.func84, Try.ntmps84
  go_wp2_with (first | ((with_reducible refine gate_dst (N := 3) rfl ?_); (try (refine gate_guard (by rfl) ?_; dsimp only)); refine box_event ?hg (N := 3) ?hd (cs := #[.slice A0_0 l0_0.length c0_0]) (t := 28) ?hr ?_; (case hd => rfl); (case hg => rfl); (case hr => first | (go_simp; done) | (go_simp; rfl)); intro gb101 hg w4 hbox hb; have n0_ := Aside0.mk (below_step (by repeat (first | (with_reducible first | exact HB.out | apply below_alloc | apply pw_below_drewN | apply below_drew1) | exact HB.out)) hb); have n1_ := Aside0.mk (hbox); have n2_ := Aside0.mk ((by rw [hg]; exact (below_size (by repeat (first | (with_reducible first | exact HB.out | apply below_alloc | apply pw_below_drewN | apply below_drew1) | exact HB.out))) : w.heap.size ≤ gb101)); have n3_ := Aside0.mk ((by rw [hg]; exact (below_size (by repeat (first | (with_reducible first | exact HB.out | apply below_alloc | apply pw_below_drewN | apply below_drew1) | exact HB.out))) : w.heap.size ≤ gb101)); clear HB; have HB := n0_; have BK101 := n1_; have GW101 := n2_; have GE101 := n3_; clear n0_ n1_ n2_ n3_; clear hb hbox hg))
  go_loopg [7] k (fun kq v7 w' => ∃ (x7_1 : Int), v7 = .int .i64 x7_1 ∧ Aside0 (spec_l07Labels.l0 kq l1 l2 x7_1 l0_0 = some r) ∧ Aside0 (kq ≤ k) ∧ Aside0 (w'.heap[gb101]? = some (.cells #[(.slice A0_0 l0_0.length c0_0)] 28 (0, 0))) ∧ Aside0 (Below w.heap.size w w'))
  case atStart => exact ⟨(0), (by first | rfl | (simp; done) | (simp [*]; done)), H', ⟨yoy _⟩, ⟨by (with_reducible repeat (first | refine blk_drewN ?_ _ | refine blk_drew ?_ | refine blk_alloc ?_ _)); exact BK101.out⟩, ⟨by repeat (first | (with_reducible first | exact HB.out | apply below_alloc | apply pw_below_drewN | apply below_drew1 | refine below_set ?_ GE101.out) | exact HB.out)⟩⟩
  case round =>
    clear H'
    try clear c1
    try clear c2
    try clear p2
    obtain ⟨x7_1, rfl, HA, HK1, BK101, HB⟩ := hrel
    cases gk with
    | zero => exact absurd HA.out (by simp [spec_l07Labels.l0])
    | succ k1 =>
      have H := HA.out
      clear HA
      simp only [spec_l07Labels.l0] at H
      by_cases c5 : x7_1 < (l2.length : Int)
      · rw [if_pos c5] at H
        have c5b0 : decide (x7_1 < (l2.length : Int)) = true := ygy c5
        clear c5
        by_cases c6 : 0 ≤ x7_1
        · rw [if_pos c6] at H
          have c6b0 : decide (0 ≤ x7_1) = true := ygy c6
          clear c6
          replace H := ydy.mp H
          obtain ⟨t103, A70, H⟩ := H
          replace H : (if t103 = true then (spec_l07Labels.l0 k1 l1 l2 (wrap64 (x7_1 + 1)) l0_0) else (some false)) = some r := H
          have A7 := Aside0.mk A70
          clear A70
          by_cases c8 : t103 = true
          · subst c8
            have H1 : (spec_l07Labels.l0 k1 l1 l2 (wrap64 (x7_1 + 1)) l0_0) = some r := by rw [if_pos rfl] at H; exact H
            clear H
            have H := H1
            clear H1
            have H' := Aside0.mk H
            clear H
            have p102 : 0 ≤ (x7_1 : Int) := of_decide_eq_true (by first | (with_reducible assumption) | assumption)
            have q102 : x7_1 < (l2.length : Int) := of_decide_eq_true (by first | (with_reducible assumption) | assumption)
            obtain ⟨ad102, e102, hx102_0⟩ := Kd.at_int HR2.out x7_1 p102 q102
            cases e102
            replace hx102_0 := (HB.out.cell (yny w _ hx102_0)).trans hx102_0
            replace p102 := eq_true p102
            replace q102 := eq_true q102
            go_wp2_with (first | ((with_reducible refine gate_callee (f := 67) rfl ?_); refine goesL_ (some 18) rfl rfl Try.func67 (by kernel_rfl) rfl #[.int .i64 (rd l2 x7_1)] rfl (by (try simp only [yiy, yjy, yky]); first | done | rfl | (simp only [yly, ymy]; rfl)) ?_; (with_reducible refine (spec_l06Valid.calls (rd l2 x7_1) true _ A7.out).mono ?_); rintro e w' ⟨rfl, ⟨nd, rfl⟩⟩; refine ⟨_, rfl, ?_⟩))
            go_roundg k1
            case measure => have := HK1.out; omega
            case rel => exact ⟨(wrap64 (x7_1 + 1)), (by first | rfl | (simp; done) | (simp [*]; done)), H', ⟨by have := HK1.out; omega⟩, ⟨by (with_reducible repeat (first | refine blk_drewN ?_ _ | refine blk_drew ?_ | refine blk_alloc ?_ _)); exact BK101.out⟩, ⟨by repeat (first | (with_reducible first | exact HB.out | apply below_alloc | apply pw_below_drewN | apply below_drew1 | refine below_set ?_ GE101.out) | exact HB.out)⟩⟩
          · replace c8 := Bool.eq_false_iff.mpr c8
            subst c8
            have H1 : (some false) = some r := by rw [if_neg (show ¬ (false = true) by decide)] at H; exact H
            clear H
            have H := H1
            clear H1
            obtain rfl := yey H
            have p102 : 0 ≤ (x7_1 : Int) := of_decide_eq_true (by first | (with_reducible assumption) | assumption)
            have q102 : x7_1 < (l2.length : Int) := of_decide_eq_true (by first | (with_reducible assumption) | assumption)
            obtain ⟨ad102, e102, hx102_0⟩ := Kd.at_int HR2.out x7_1 p102 q102
            cases e102
            replace hx102_0 := (HB.out.cell (yny w _ hx102_0)).trans hx102_0
            replace p102 := eq_true p102
            replace q102 := eq_true q102
            go_wp2_with (first | ((with_reducible refine gate_callee (f := 67) rfl ?_); refine goesL_ (some 18) rfl rfl Try.func67 (by kernel_rfl) rfl #[.int .i64 (rd l2 x7_1)] rfl (by (try simp only [yiy, yjy, yky]); first | done | rfl | (simp only [yly, ymy]; rfl)) ?_; (with_reducible refine (spec_l06Valid.calls (rd l2 x7_1) false _ A7.out).mono ?_); rintro e w' ⟨rfl, ⟨nd, rfl⟩⟩; refine ⟨_, rfl, ?_⟩))
            go_ret
            exact ⟨by first | rfl | (simp [errW_none, errW_some] <;> rfl) | (simp [*, errW_none, errW_some] <;> rfl), by repeat (first | (with_reducible first | exact HB.out | apply below_alloc | apply pw_below_drewN | apply below_drew1 | refine below_set ?_ GE101.out) | exact HB.out)⟩
        · rw [if_neg c6] at H
          exact absurd H (by simp)
      · rw [if_neg c5] at H
        have c5b0 : decide (x7_1 < (l2.length : Int)) = false := yhy c5
        clear c5
        replace H := ydy.mp H
        obtain ⟨t104, A90, H⟩ := H
        replace H : (if t104 = true then (some ((l2.length : Int) == (l0_0.length : Int))) else (some false)) = some r := H
        have A9 := Aside0.mk A90
        clear A90
        by_cases c10 : t104 = true
        · subst c10
          have H1 : (some ((l2.length : Int) == (l0_0.length : Int))) = some r := by rw [if_pos rfl] at H; exact H
          clear H
          have H := H1
          clear H1
          obtain rfl := yey H
          have hcz11_0 : wr.cell? ⟨gb101, 0, none⟩ = some (.slice A0_0 l0_0.length c0_0) := (blk_cell BK101.out 0).trans rfl
          have hfz11_0 := blk_frozen BK101.out 0
          go_wp2_with (first | ((with_reducible refine gate_callee (f := 131) rfl ?_); refine goesL_ (some 24) rfl rfl Try.func131 (by kernel_rfl) rfl #[.slice A1 l1.length c1, .int .i64 (l0_0.length : Int)] rfl (by (try simp only [yiy, yjy, yky]); first | done | rfl | (simp only [yly, ymy]; rfl)) ?_; (with_reducible refine (spec_l07Permutation.calls k1 _ _ l1 (l0_0.length : Int) true _ ?side1 ?side2 A9.out).mono ?_); (case side1 => repeat (first | exact (Kd.C_below HR1.out HB.out) | (with_reducible refine Kd.C_alloc ?_ _) | (with_reducible refine Kd.C_drewN ?_ _) | (with_reducible refine Kd.C_drew ?_))); (case side2 => exact HC1.out); rintro e w12 ⟨rfl, hb⟩; refine ⟨_, rfl, ?_⟩; have n0_ := Aside0.mk (blk_below (g := gb101) (o := .cells #[.slice A0_0 l0_0.length c0_0] 28 (0, 0)) (by (with_reducible repeat (first | refine blk_drewN ?_ _ | refine blk_drew ?_ | refine blk_alloc ?_ _)); exact BK101.out) hb); have n1_ := Aside0.mk (below_step (by repeat (first | (with_reducible first | exact HB.out | apply below_alloc | apply pw_below_drewN | apply below_drew1 | refine below_set ?_ GE101.out) | exact HB.out)) hb); clear BK101; clear HB; have BK101 := n0_; have HB := n1_; clear n0_ n1_; (try clear hb); (try clear hb2); (try clear hk); (try clear hi); have hcz13_0 : w12.cell? ⟨gb101, 0, none⟩ = some (.slice A0_0 l0_0.length c0_0) := (blk_cell BK101.out 0).trans rfl; have hfz13_0 := blk_frozen BK101.out 0))
          go_ret
          exact ⟨by first | rfl | (simp [errW_none, errW_some] <;> rfl) | (simp [*, errW_none, errW_some] <;> rfl), by repeat (first | (with_reducible first | exact HB.out | apply below_alloc | apply pw_below_drewN | apply below_drew1 | refine below_set ?_ GE101.out) | exact HB.out)⟩
        · replace c10 := Bool.eq_false_iff.mpr c10
          subst c10
          have H1 : (some false) = some r := by rw [if_neg (show ¬ (false = true) by decide)] at H; exact H
          clear H
          have H := H1
          clear H1
          obtain rfl := yey H
          have hcz14_0 : wr.cell? ⟨gb101, 0, none⟩ = some (.slice A0_0 l0_0.length c0_0) := (blk_cell BK101.out 0).trans rfl
          have hfz14_0 := blk_frozen BK101.out 0
          go_wp2_with (first | ((with_reducible refine gate_callee (f := 131) rfl ?_); refine goesL_ (some 24) rfl rfl Try.func131 (by kernel_rfl) rfl #[.slice A1 l1.length c1, .int .i64 (l0_0.length : Int)] rfl (by (try simp only [yiy, yjy, yky]); first | done | rfl | (simp only [yly, ymy]; rfl)) ?_; (with_reducible refine (spec_l07Permutation.calls k1 _ _ l1 (l0_0.length : Int) false _ ?side1 ?side2 A9.out).mono ?_); (case side1 => repeat (first | exact (Kd.C_below HR1.out HB.out) | (with_reducible refine Kd.C_alloc ?_ _) | (with_reducible refine Kd.C_drewN ?_ _) | (with_reducible refine Kd.C_drew ?_))); (case side2 => exact HC1.out); rintro e w15 ⟨rfl, hb⟩; refine ⟨_, rfl, ?_⟩; have n0_ := Aside0.mk (blk_below (g := gb101) (o := .cells #[.slice A0_0 l0_0.length c0_0] 28 (0, 0)) (by (with_reducible repeat (first | refine blk_drewN ?_ _ | refine blk_drew ?_ | refine blk_alloc ?_ _)); exact BK101.out) hb); have n1_ := Aside0.mk (below_step (by repeat (first | (with_reducible first | exact HB.out | apply below_alloc | apply pw_below_drewN | apply below_drew1 | refine below_set ?_ GE101.out) | exact HB.out)) hb); clear BK101; clear HB; have BK101 := n0_; have HB := n1_; clear n0_ n1_; (try clear hb); (try clear hb2); (try clear hk); (try clear hi)))
          go_ret
          exact ⟨by first | rfl | (simp [errW_none, errW_some] <;> rfl) | (simp [*, errW_none, errW_some] <;> rfl), by repeat (first | (with_reducible first | exact HB.out | apply below_alloc | apply pw_below_drewN | apply below_drew1 | refine below_set ?_ GE101.out) | exact HB.out)⟩
/-! ### spec_l06Then: function 132 -/
def spec_l06Then.f (k : Nat) (a0 : Int) (a1 : Int) : Option (Int) := (spec_l06Images.f k a0).bind fun t101 => ((spec_l06Images.f k a1).bind fun t104 => (if 0 < (t101.length : Int) then (if 0 ≤ (rd t101 0) then (if (rd t101 0) < (t104.length : Int) then (if 1 < (t101.length : Int) then (if 0 ≤ (rd t101 1) then (if (rd t101 1) < (t104.length : Int) then (if 2 < (t101.length : Int) then (if 0 ≤ (rd t101 2) then (if (rd t101 2) < (t104.length : Int) then (if 3 < (t101.length : Int) then (if 0 ≤ (rd t101 3) then (if (rd t101 3) < (t104.length : Int) then ((spec_l06Index.f k (([rd t104 (rd t101 0), rd t104 (rd t101 1), rd t104 (rd t101 2), rd t104 (rd t101 3)] : List Int))).bind fun t118 => (some t118)) else (none)) else (none)) else (none)) else (none)) else (none)) else (none)) else (none)) else (none)) else (none)) else (none)) else (none)) else (none)))
theorem spec_l06Then.mono : ∀ a0 a1 k, LeO (spec_l06Then.f k a0 a1) (spec_l06Then.f (k + 1) a0 a1) := by
 intro a0 a1 k
 unfold spec_l06Then.f
 repeat' first
  | (with_reducible exact spec_l06Images.mono _ _)
  | (with_reducible exact spec_l06Index.mono _ _)
  | (with_reducible exact LeO.refl _)
  | (with_reducible exact LeO.none _)
  | (with_reducible refine LeO.ite ?_ ?_)
  | (with_reducible refine LeO.bind ?_ (fun _ => ?_))
  | exact spec_l06Images.mono _ _
  | exact spec_l06Index.mono _ _
  | exact LeO.none _
  | refine LeO.ite ?_ ?_
  | refine LeO.bind ?_ (fun _ => ?_)
def spec_l06Then.T3 : Bool × List (List Nat × List Nat) := (true, [([], []), ([], []), ([1], [1]), ([2], [2]), ([0, 3], [0, 3]), ([4], [4]), ([], []), ([], []), ([7], [7]), ([8], [8]), ([6, 9], [6, 9]), ([10], [10]), ([], []), ([], []), ([13], [13]), ([14], [14]), ([12, 15], [12, 15]), ([16], [16]), ([], []), ([], []), ([19], [19]), ([20], [20]), ([18, 21], [18, 21]), ([22], [22]), ([5, 11, 17, 23], [5, 11, 17, 23]), ([24], [24]), ([25, 25, 0, 1, 2, 3, 4, 5, 6, 7, 8, 9, 10, 11, 12, 13, 14, 15, 16, 17, 18, 19, 20, 21, 22, 23, 24, 25], [25])])
def spec_l06Then.B3 : List Nat := [0, 0, 2, 6, 15, 31, 0, 0, 128, 384, 960, 1984, 0, 0, 8192, 24576, 61440, 126976, 0, 0, 524288, 1572864, 3932160, 8126464, 16777215, 33554431, 67108863]
theorem spec_l06Then.tab3 : rtab .any (opsOf Try.f132 3) = spec_l06Then.T3 := by kernel_rfl
theorem spec_l06Then.bits3 : waitsOk spec_l06Then.T3.2 spec_l06Then.B3 = true := by kernel_rfl
set_option maxHeartbeats 8000000 in
set_option maxRecDepth 100000 in
theorem spec_l06Then.calls (k : Nat) (a0 : Int) (a1 : Int) (r : Int) (w : World) (h : spec_l06Then.f k a0 a1 = some r) :
 Calls Try.prog 132 #[.int .i64 a0, .int .i64 a1] w fun e w' => e = .returned (.int .i64 r) ∧ Below w.heap.size w w' := by
 have HB := Aside0.mk (ypy w.heap.size w)
 have H : ((spec_l06Images.f k a0).bind fun t101 => ((spec_l06Images.f k a1).bind fun t104 => (if 0 < (t101.length : Int) then (if 0 ≤ (rd t101 0) then (if (rd t101 0) < (t104.length : Int) then (if 1 < (t101.length : Int) then (if 0 ≤ (rd t101 1) then (if (rd t101 1) < (t104.length : Int) then (if 2 < (t101.length : Int) then (if 0 ≤ (rd t101 2) then (if (rd t101 2) < (t104.length : Int) then (if 3 < (t101.length : Int) then (if 0 ≤ (rd t101 3) then (if (rd t101 3) < (t104.length : Int) then ((spec_l06Index.f k (([rd t104 (rd t101 0), rd t104 (rd t101 1), rd t104 (rd t101 2), rd t104 (rd t101 3)] : List Int))).bind fun t118 => (some t118)) else (none)) else (none)) else (none)) else (none)) else (none)) else (none)) else (none)) else (none)) else (none)) else (none)) else (none)) else (none)))) = some r := h
 clear h
 replace H := ydy.mp H
 obtain ⟨t101, A30, H⟩ := H
 replace H : ((spec_l06Images.f k a1).bind fun t104 => (if 0 < (t101.length : Int) then (if 0 ≤ (rd t101 0) then (if (rd t101 0) < (t104.length : Int) then (if 1 < (t101.length : Int) then (if 0 ≤ (rd t101 1) then (if (rd t101 1) < (t104.length : Int) then (if 2 < (t101.length : Int) then (if 0 ≤ (rd t101 2) then (if (rd t101 2) < (t104.length : Int) then (if 3 < (t101.length : Int) then (if 0 ≤ (rd t101 3) then (if (rd t101 3) < (t104.length : Int) then ((spec_l06Index.f k (([rd t104 (rd t101 0), rd t104 (rd t101 1), rd t104 (rd t101 2), rd t104 (rd t101 3)] : List Int))).bind fun t118 => (some t118)) else (none)) else (none)) else (none)) else (none)) else (none)) else (none)) else (none)) else (none)) else (none)) else (none)) else (none)) else (none))) = some r := H
 have A3 := Aside0.mk A30
 clear A30
 replace H := ydy.mp H
 obtain ⟨t104, A40, H⟩ := H
 replace H : (if 0 < (t101.length : Int) then (if 0 ≤ (rd t101 0) then (if (rd t101 0) < (t104.length : Int) then (if 1 < (t101.length : Int) then (if 0 ≤ (rd t101 1) then (if (rd t101 1) < (t104.length : Int) then (if 2 < (t101.length : Int) then (if 0 ≤ (rd t101 2) then (if (rd t101 2) < (t104.length : Int) then (if 3 < (t101.length : Int) then (if 0 ≤ (rd t101 3) then (if (rd t101 3) < (t104.length : Int) then ((spec_l06Index.f k (([rd t104 (rd t101 0), rd t104 (rd t101 1), rd t104 (rd t101 2), rd t104 (rd t101 3)] : List Int))).bind fun t118 => (some t118)) else (none)) else (none)) else (none)) else (none)) else (none)) else (none)) else (none)) else (none)) else (none)) else (none)) else (none)) else (none)) = some r := H
 have A4 := Aside0.mk A40
 clear A40
 by_cases c5 : 0 < (t101.length : Int)
 rotate_left
 next =>
  rw [if_neg c5] at H
  exact absurd H (by simp)
 rw [if_pos c5] at H
 have c5b0 : decide (0 < (t101.length : Int)) = true := ygy c5
 have c5b1 : decide (0 < t101.length) = true := ygy (by omega)
 clear c5
 by_cases c6 : 0 ≤ (rd t101 0)
 rotate_left
 next =>
  rw [if_neg c6] at H
  exact absurd H (by simp)
 rw [if_pos c6] at H
 have c6b0 : decide (0 ≤ (rd t101 0)) = true := ygy c6
 clear c6
 by_cases c7 : (rd t101 0) < (t104.length : Int)
 rotate_left
 next =>
  rw [if_neg c7] at H
  exact absurd H (by simp)
 rw [if_pos c7] at H
 have c7b0 : decide ((rd t101 0) < (t104.length : Int)) = true := ygy c7
 clear c7
 by_cases c8 : 1 < (t101.length : Int)
 rotate_left
 next =>
  rw [if_neg c8] at H
  exact absurd H (by simp)
 rw [if_pos c8] at H
 have c8b0 : decide (1 < (t101.length : Int)) = true := ygy c8
 have c8b1 : decide (1 < t101.length) = true := ygy (by omega)
 clear c8
 by_cases c9 : 0 ≤ (rd t101 1)
 rotate_left
 next =>
  rw [if_neg c9] at H
  exact absurd H (by simp)
 rw [if_pos c9] at H
 have c9b0 : decide (0 ≤ (rd t101 1)) = true := ygy c9
 clear c9
 by_cases c10 : (rd t101 1) < (t104.length : Int)
 rotate_left
 next =>
  rw [if_neg c10] at H
  exact absurd H (by simp)
 rw [if_pos c10] at H
 have c10b0 : decide ((rd t101 1) < (t104.length : Int)) = true := ygy c10
 clear c10
 by_cases c11 : 2 < (t101.length : Int)
 rotate_left
 next =>
  rw [if_neg c11] at H
  exact absurd H (by simp)
 rw [if_pos c11] at H
 have c11b0 : decide (2 < (t101.length : Int)) = true := ygy c11
 have c11b1 : decide (2 < t101.length) = true := ygy (by omega)
 clear c11
 by_cases c12 : 0 ≤ (rd t101 2)
 rotate_left
 next =>
  rw [if_neg c12] at H
  exact absurd H (by simp)
 rw [if_pos c12] at H
 have c12b0 : decide (0 ≤ (rd t101 2)) = true := ygy c12
 clear c12
 by_cases c13 : (rd t101 2) < (t104.length : Int)
 rotate_left
 next =>
  rw [if_neg c13] at H
  exact absurd H (by simp)
 rw [if_pos c13] at H
 have c13b0 : decide ((rd t101 2) < (t104.length : Int)) = true := ygy c13
 clear c13
 by_cases c14 : 3 < (t101.length : Int)
 rotate_left
 next =>
  rw [if_neg c14] at H
  exact absurd H (by simp)
 rw [if_pos c14] at H
 have c14b0 : decide (3 < (t101.length : Int)) = true := ygy c14
 have c14b1 : decide (3 < t101.length) = true := ygy (by omega)
 clear c14
 by_cases c15 : 0 ≤ (rd t101 3)
 rotate_left
 next =>
  rw [if_neg c15] at H
  exact absurd H (by simp)
 rw [if_pos c15] at H
 have c15b0 : decide (0 ≤ (rd t101 3)) = true := ygy c15
 clear c15
 by_cases c16 : (rd t101 3) < (t104.length : Int)
 rotate_left
 next =>
  rw [if_neg c16] at H
  exact absurd H (by simp)
 rw [if_pos c16] at H
 have c16b0 : decide ((rd t101 3) < (t104.length : Int)) = true := ygy c16
 clear c16
 obtain ⟨y115, hy115⟩ : ∃ y_ : List Int, y_ = (([rd t104 (rd t101 0), rd t104 (rd t101 1), rd t104 (rd t101 2), rd t104 (rd t101 3)] : List Int)) := ⟨_, rfl⟩
 replace H : ((spec_l06Index.f k y115).bind fun t118 => (some t118)) = some r := by first | (rw [hy115]; with_reducible exact H) | (have H2_ := (yfy _ _).symm.trans H; rw [hy115]; with_reducible exact H2_) | (have H2_ := (yfy _ _).symm.trans H; with_reducible exact H2_) | with_reducible exact H | (rw [hy115]; exact H) | exact H
 have Ny115 := Aside0.mk hy115
 clear hy115
 replace H := ydy.mp H
 obtain ⟨t118, A170, H⟩ := H
 replace H : (some t118) = some r := H
 have A17 := Aside0.mk A170
 clear A170
 obtain rfl := yey H
 go_enter Try.func132, Try.ntmps132
 try go_wp2_with (first | ((with_reducible refine gate_callee (f := 126) rfl ?_); refine goesL_ (some 8) rfl rfl Try.func126 (by kernel_rfl) rfl #[.int .i64 a0] rfl (by (try simp only [yiy, yjy, yky]); first | done | rfl | (simp only [yly, ymy]; rfl)) ?_; (with_reducible refine (spec_l06Images.calls k a0 t101 _ A3.out).mono ?_); rintro e w18 ⟨v102, rfl, ho0, hb⟩; refine ⟨_, rfl, ?_⟩; have n0_ := Aside0.mk (Kd.R_lower ho0 (below_size (by repeat (first | (with_reducible first | exact HB.out | apply below_alloc | apply pw_below_drewN | apply below_drew1) | exact HB.out)))); have n1_ := Aside0.mk (below_step (by repeat (first | (with_reducible first | exact HB.out | apply below_alloc | apply pw_below_drewN | apply below_drew1) | exact HB.out)) hb); clear HB; have HO103 := n0_; have HB := n1_; clear n0_ n1_; (try clear hb); (try clear hb2); (try clear hk); (try clear hi); (try clear ho0)) | ((with_reducible refine gate_callee (f := 126) rfl ?_); refine goesL_ (some 10) rfl rfl Try.func126 (by kernel_rfl) rfl #[.int .i64 a1] rfl (by (try simp only [yiy, yjy, yky]); first | done | rfl | (simp only [yly, ymy]; rfl)) ?_; (with_reducible refine (spec_l06Images.calls k a1 t104 _ A4.out).mono ?_); rintro e w19 ⟨v105, rfl, ho0, hb⟩; refine ⟨_, rfl, ?_⟩; have n0_ := Aside0.mk (Kd.R_elder' (by (with_reducible repeat (first | apply Kd.R_alloc | apply Kd.R_drewN | apply Kd.R_drew)); exact HO103.out) (Kd.R_base ho0) hb); have n1_ := Aside0.mk (Kd.R_lower (Kd.R_new' ho0 (Kd.R_lt (by (with_reducible repeat (first | apply Kd.R_alloc | apply Kd.R_drewN | apply Kd.R_drew)); exact HO103.out))) (below_size (by repeat (first | (with_reducible first | exact HB.out | apply below_alloc | apply pw_below_drewN | apply below_drew1) | exact HB.out)))); have n2_ := Aside0.mk (below_step (by repeat (first | (with_reducible first | exact HB.out | apply below_alloc | apply pw_below_drewN | apply below_drew1) | exact HB.out)) hb); clear HO103; clear HB; have HO103 := n0_; have HO106 := n1_; have HB := n2_; clear n0_ n1_ n2_; (try clear hb); (try clear hb2); (try clear hk); (try clear hi); (try clear ho0)))
 have n0_ := Aside0.mk (Kd.R_drew HO103.out)
 have n1_ := Aside0.mk (Kd.R_drew HO106.out)
 have n2_ := Aside0.mk (below_drew1 HB.out)
 clear HO103
 clear HO106
 clear HB
 have HO103 := n0_
 have HO106 := n1_
 have HB := n2_
 clear n0_ n1_ n2_
 obtain ⟨Ao21, co21, eo21⟩ := Kd.R_slice HO103.out
 (first | subst eo21 | (injection eo21 with f1_ f2_ f3_; have f4_ := f1_.symm; have f5_ := f3_.symm; clear f1_ f2_ f3_; subst f4_; subst f5_))
 have p107 : 0 ≤ (0 : Int) := (by omega)
 have q107 : 0 < (t101.length : Int) := of_decide_eq_true (by first | (with_reducible assumption) | assumption)
 obtain ⟨ad107, e107, hx107_0⟩ := Kd.at_int (Kd.R_reads' HO103.out).2.2 0 p107 q107
 cases e107
 have qi107 : (0 < t101.length) = True := eq_true (by omega)
 (try rw [show ((0 : Int)).toNat = 0 from rfl] at hx107_0)
 (try rw [Addr.add_zero'] at hx107_0)
 replace p107 := eq_true p107
 replace q107 := eq_true q107
 obtain ⟨Ao22, co22, eo22⟩ := Kd.R_slice HO106.out
 (first | subst eo22 | (injection eo22 with f1_ f2_ f3_; have f4_ := f1_.symm; have f5_ := f3_.symm; clear f1_ f2_ f3_; subst f4_; subst f5_))
 have p108 : 0 ≤ ((rd t101 0) : Int) := of_decide_eq_true (by first | (with_reducible assumption) | assumption)
 have q108 : (rd t101 0) < (t104.length : Int) := of_decide_eq_true (by first | (with_reducible assumption) | assumption)
 obtain ⟨ad108, e108, hx108_0⟩ := Kd.at_int (Kd.R_reads' HO106.out).2.2 (rd t101 0) p108 q108
 cases e108
 replace p108 := eq_true p108
 replace q108 := eq_true q108
 have p109 : 0 ≤ (1 : Int) := (by omega)
 have q109 : 1 < (t101.length : Int) := of_decide_eq_true (by first | (with_reducible assumption) | assumption)
 obtain ⟨ad109, e109, hx109_0⟩ := Kd.at_int (Kd.R_reads' HO103.out).2.2 1 p109 q109
 obtain rfl : ad107 = ad109 := (by injection e109)
 (try simp only [show (1 : Int).toNat = 1 from rfl, Nat.reduceMul, Nat.reduceEqDiff, Go.Addr.add, ↓reduceIte] at hx109_0)
 have qi109 : (1 < t101.length) = True := eq_true (by omega)
 (try rw [show ((1 : Int)).toNat = 1 from rfl] at hx109_0)
 replace p109 := eq_true p109
 replace q109 := eq_true q109
 have p110 : 0 ≤ ((rd t101 1) : Int) := of_decide_eq_true (by first | (with_reducible assumption) | assumption)
 have q110 : (rd t101 1) < (t104.length : Int) := of_decide_eq_true (by first | (with_reducible assumption) | assumption)
 obtain ⟨ad110, e110, hx110_0⟩ := Kd.at_int (Kd.R_reads' HO106.out).2.2 (rd t101 1) p110 q110
 obtain rfl : ad108 = ad110 := (by injection e110)
 replace p110 := eq_true p110
 replace q110 := eq_true q110
 have p111 : 0 ≤ (2 : Int) := (by omega)
 have q111 : 2 < (t101.length : Int) := of_decide_eq_true (by first | (with_reducible assumption) | assumption)
 obtain ⟨ad111, e111, hx111_0⟩ := Kd.at_int (Kd.R_reads' HO103.out).2.2 2 p111 q111
 obtain rfl : ad107 = ad111 := (by injection e111)
 (try simp only [show (2 : Int).toNat = 2 from rfl, Nat.reduceMul, Nat.reduceEqDiff, Go.Addr.add, ↓reduceIte] at hx111_0)
 have qi111 : (2 < t101.length) = True := eq_true (by omega)
 (try rw [show ((2 : Int)).toNat = 2 from rfl] at hx111_0)
 replace p111 := eq_true p111
 replace q111 := eq_true q111
 have p112 : 0 ≤ ((rd t101 2) : Int) := of_decide_eq_true (by first | (with_reducible assumption) | assumption)
 have q112 : (rd t101 2) < (t104.length : Int) := of_decide_eq_true (by first | (with_reducible assumption) | assumption)
 obtain ⟨ad112, e112, hx112_0⟩ := Kd.at_int (Kd.R_reads' HO106.out).2.2 (rd t101 2) p112 q112
 obtain rfl : ad108 = ad112 := (by injection e112)
 replace p112 := eq_true p112
 replace q112 := eq_true q112
 have p113 : 0 ≤ (3 : Int) := (by omega)
 have q113 : 3 < (t101.length : Int) := of_decide_eq_true (by first | (with_reducible assumption) | assumption)
 obtain ⟨ad113, e113, hx113_0⟩ := Kd.at_int (Kd.R_reads' HO103.out).2.2 3 p113 q113
 obtain rfl : ad107 = ad113 := (by injection e113)
 (try simp only [show (3 : Int).toNat = 3 from rfl, Nat.reduceMul, Nat.reduceEqDiff, Go.Addr.add, ↓reduceIte] at hx113_0)
 have qi113 : (3 < t101.length) = True := eq_true (by omega)
 (try rw [show ((3 : Int)).toNat = 3 from rfl] at hx113_0)
 replace p113 := eq_true p113
 replace q113 := eq_true q113
 have p114 : 0 ≤ ((rd t101 3) : Int) := of_decide_eq_true (by first | (with_reducible assumption) | assumption)
 have q114 : (rd t101 3) < (t104.length : Int) := of_decide_eq_true (by first | (with_reducible assumption) | assumption)
 obtain ⟨ad114, e114, hx114_0⟩ := Kd.at_int (Kd.R_reads' HO106.out).2.2 (rd t101 3) p114 q114
 obtain rfl : ad108 = ad114 := (by injection e114)
 replace p114 := eq_true p114
 replace q114 := eq_true q114
 refine start_ (n := 27) (S := fun w' => w'.cell? ad107 = some (.int .i64 (rd t101 0)) ∧ w'.cell? (ad108.add ((rd t101 0)).toNat) = some (.int .i64 (rd t104 (rd t101 0))) ∧ w'.cell? ⟨ad107.block, ad107.off + 1, none⟩ = some (.int .i64 (rd t101 1)) ∧ w'.cell? (ad108.add ((rd t101 1)).toNat) = some (.int .i64 (rd t104 (rd t101 1))) ∧ w'.cell? ⟨ad107.block, ad107.off + 2, none⟩ = some (.int .i64 (rd t101 2)) ∧ w'.cell? (ad108.add ((rd t101 2)).toNat) = some (.int .i64 (rd t104 (rd t101 2))) ∧ w'.cell? ⟨ad107.block, ad107.off + 3, none⟩ = some (.int .i64 (rd t101 3)) ∧ w'.cell? (ad108.add ((rd t101 3)).toNat) = some (.int .i64 (rd t104 (rd t101 3)))) (ds := []) #[false, false, false, false, false, false, false, false, false, false, false, false, false, false, false, false, false, false, false, false, false, false, false, false, false, false, false] (by kernel_rfl) rfl rfl ⟨hx107_0, hx108_0, hx109_0, hx110_0, hx111_0, hx112_0, hx113_0, hx114_0⟩ (fun hHeld => ?_); refine with_tabW spec_l06Then.tab3 spec_l06Then.bits3 (fun HT_ HW_ => ?_)
 generalize w19.drew = w20 at HO103 HO106 HB hx107_0 hx108_0 hx109_0 hx110_0 hx111_0 hx112_0 hx113_0 hx114_0 hHeld ⊢
 refine pure_ (i := 0) (N := some 11) (v := ?_) (a' := ?_) #[true, false, false, false, false, false, false, false, false, false, false, false, false, false, false, false, false, false, false, false, false, false, false, false, false, false, false] rfl rfl (any_of HT_.out (by kernel_rfl)) (fun _ _ _ h => h) (Or.inl ⟨by rfl, ?_⟩) ?_ ?_
 rotate_left
 next =>
  intro w'
  go_simp
  with_reducible rfl
 rotate_left
 next =>
  simp only [Act.put, yay, yby, ycy, i64_w, i32_w]
  rfl
 refine pure_ (i := 1) (N := some 12) (v := ?_) (a' := ?_) #[true, true, false, false, false, false, false, false, false, false, false, false, false, false, false, false, false, false, false, false, false, false, false, false, false, false, false] rfl rfl (any_of HT_.out (by kernel_rfl)) (fun _ _ _ h => h) (Or.inl ⟨by rfl, ?_⟩) ?_ ?_
 rotate_left
 next =>
  intro w'
  go_simp
  with_reducible rfl
 rotate_left
 next =>
  simp only [Act.put, yay, yby, ycy, i64_w, i32_w]
  rfl
 refine pure_ (i := 2) (N := some 13) (v := ?_) (a' := ?_) #[true, true, true, false, false, false, false, false, false, false, false, false, false, false, false, false, false, false, false, false, false, false, false, false, false, false, false] rfl rfl (any_of HT_.out (by kernel_rfl)) (fun _ _ _ h => h) (Or.inl ⟨by rfl, ?_⟩) ?_ ?_
 rotate_left
 next =>
  intro w'
  go_simp
  with_reducible rfl
 rotate_left
 next =>
  simp only [Act.put, yay, yby, ycy, i64_w, i32_w]
  rfl
 refine pure_ (i := 6) (N := some 17) (v := ?_) (a' := ?_) #[true, true, true, false, false, false, true, false, false, false, false, false, false, false, false, false, false, false, false, false, false, false, false, false, false, false, false] rfl rfl (any_of HT_.out (by kernel_rfl)) (fun _ _ _ h => h) (Or.inl ⟨by rfl, ?_⟩) ?_ ?_
 rotate_left
 next =>
  intro w'
  go_simp
  with_reducible rfl
 rotate_left
 next =>
  simp only [Act.put, yay, yby, ycy, i64_w, i32_w]
  rfl
 refine pure_ (i := 7) (N := some 18) (v := ?_) (a' := ?_) #[true, true, true, false, false, false, true, true, false, false, false, false, false, false, false, false, false, false, false, false, false, false, false, false, false, false, false] rfl rfl (any_of HT_.out (by kernel_rfl)) (fun _ _ _ h => h) (Or.inl ⟨by rfl, ?_⟩) ?_ ?_
 rotate_left
 next =>
  intro w'
  go_simp
  with_reducible rfl
 rotate_left
 next =>
  simp only [Act.put, yay, yby, ycy, i64_w, i32_w]
  rfl
 refine pure_ (i := 8) (N := some 19) (v := ?_) (a' := ?_) #[true, true, true, false, false, false, true, true, true, false, false, false, false, false, false, false, false, false, false, false, false, false, false, false, false, false, false] rfl rfl (any_of HT_.out (by kernel_rfl)) (fun _ _ _ h => h) (Or.inl ⟨by rfl, ?_⟩) ?_ ?_
 rotate_left
 next =>
  intro w'
  go_simp
  with_reducible rfl
 rotate_left
 next =>
  simp only [Act.put, yay, yby, ycy, i64_w, i32_w]
  rfl
 refine pure_ (i := 12) (N := some 23) (v := ?_) (a' := ?_) #[true, true, true, false, false, false, true, true, true, false, false, false, true, false, false, false, false, false, false, false, false, false, false, false, false, false, false] rfl rfl (any_of HT_.out (by kernel_rfl)) (fun _ _ _ h => h) (Or.inl ⟨by rfl, ?_⟩) ?_ ?_
 rotate_left
 next =>
  intro w'
  go_simp
  with_reducible rfl
 rotate_left
 next =>
  simp only [Act.put, yay, yby, ycy, i64_w, i32_w]
  rfl
 refine pure_ (i := 13) (N := some 24) (v := ?_) (a' := ?_) #[true, true, true, false, false, false, true, true, true, false, false, false, true, true, false, false, false, false, false, false, false, false, false, false, false, false, false] rfl rfl (any_of HT_.out (by kernel_rfl)) (fun _ _ _ h => h) (Or.inl ⟨by rfl, ?_⟩) ?_ ?_
 rotate_left
 next =>
  intro w'
  go_simp
  with_reducible rfl
 rotate_left
 next =>
  simp only [Act.put, yay, yby, ycy, i64_w, i32_w]
  rfl
 refine pure_ (i := 14) (N := some 25) (v := ?_) (a' := ?_) #[true, true, true, false, false, false, true, true, true, false, false, false, true, true, true, false, false, false, false, false, false, false, false, false, false, false, false] rfl rfl (any_of HT_.out (by kernel_rfl)) (fun _ _ _ h => h) (Or.inl ⟨by rfl, ?_⟩) ?_ ?_
 rotate_left
 next =>
  intro w'
  go_simp
  with_reducible rfl
 rotate_left
 next =>
  simp only [Act.put, yay, yby, ycy, i64_w, i32_w]
  rfl
 refine pure_ (i := 18) (N := some 29) (v := ?_) (a' := ?_) #[true, true, true, false, false, false, true, true, true, false, false, false, true, true, true, false, false, false, true, false, false, false, false, false, false, false, false] rfl rfl (any_of HT_.out (by kernel_rfl)) (fun _ _ _ h => h) (Or.inl ⟨by rfl, ?_⟩) ?_ ?_
 rotate_left
 next =>
  intro w'
  go_simp
  with_reducible rfl
 rotate_left
 next =>
  simp only [Act.put, yay, yby, ycy, i64_w, i32_w]
  rfl
 refine pure_ (i := 19) (N := some 30) (v := ?_) (a' := ?_) #[true, true, true, false, false, false, true, true, true, false, false, false, true, true, true, false, false, false, true, true, false, false, false, false, false, false, false] rfl rfl (any_of HT_.out (by kernel_rfl)) (fun _ _ _ h => h) (Or.inl ⟨by rfl, ?_⟩) ?_ ?_
 rotate_left
 next =>
  intro w'
  go_simp
  with_reducible rfl
 rotate_left
 next =>
  simp only [Act.put, yay, yby, ycy, i64_w, i32_w]
  rfl
 refine pure_ (i := 20) (N := some 31) (v := ?_) (a' := ?_) #[true, true, true, false, false, false, true, true, true, false, false, false, true, true, true, false, false, false, true, true, true, false, false, false, false, false, false] rfl rfl (any_of HT_.out (by kernel_rfl)) (fun _ _ _ h => h) (Or.inl ⟨by rfl, ?_⟩) ?_ ?_
 rotate_left
 next =>
  intro w'
  go_simp
  with_reducible rfl
 rotate_left
 next =>
  simp only [Act.put, yay, yby, ycy, i64_w, i32_w]
  rfl
 refine take_ (i := 3) (N := some 14) (v := ?_) (a' := ?_) #[true, true, true, true, false, false, true, true, true, false, false, false, true, true, true, false, false, false, true, true, true, false, false, false, false, false, false] rfl rfl (take_ofW HT_.out HW_.out (by kernel_rfl)) (fun _ _ _ h => h) (Or.inl ⟨by rfl, ?_⟩) hHeld ?_ ?_
 rotate_left
 next =>
  rintro w' ⟨s0, s1, s2, s3, s4, s5, s6, s7⟩
  go_simp
  with_reducible rfl
 rotate_left
 next =>
  simp only [Act.put, yay, yby, ycy, i64_w, i32_w]
  rfl
 refine pure_ (i := 4) (N := some 15) (v := ?_) (a' := ?_) #[true, true, true, true, true, false, true, true, true, false, false, false, true, true, true, false, false, false, true, true, true, false, false, false, false, false, false] rfl rfl (any_of HT_.out (by kernel_rfl)) (fun _ _ _ h => h) (Or.inl ⟨by rfl, ?_⟩) ?_ ?_
 rotate_left
 next =>
  intro w'
  go_simp
  with_reducible rfl
 rotate_left
 next =>
  simp only [Act.put, yay, yby, ycy, i64_w, i32_w]
  rfl
 refine take_ (i := 5) (N := some 16) (v := ?_) (a' := ?_) #[true, true, true, true, true, true, true, true, true, false, false, false, true, true, true, false, false, false, true, true, true, false, false, false, false, false, false] rfl rfl (take_ofW HT_.out HW_.out (by kernel_rfl)) (fun _ _ _ h => h) (Or.inl ⟨by rfl, ?_⟩) hHeld ?_ ?_
 rotate_left
 next =>
  rintro w' ⟨s0, s1, s2, s3, s4, s5, s6, s7⟩
  go_simp
  with_reducible rfl
 rotate_left
 next =>
  simp only [Act.put, yay, yby, ycy, i64_w, i32_w]
  rfl
 refine take_ (i := 9) (N := some 20) (v := ?_) (a' := ?_) #[true, true, true, true, true, true, true, true, true, true, false, false, true, true, true, false, false, false, true, true, true, false, false, false, false, false, false] rfl rfl (take_ofW HT_.out HW_.out (by kernel_rfl)) (fun _ _ _ h => h) (Or.inl ⟨by rfl, ?_⟩) hHeld ?_ ?_
 rotate_left
 next =>
  rintro w' ⟨s0, s1, s2, s3, s4, s5, s6, s7⟩
  go_simp
  with_reducible rfl
 rotate_left
 next =>
  simp only [Act.put, yay, yby, ycy, i64_w, i32_w]
  rfl
 refine pure_ (i := 10) (N := some 21) (v := ?_) (a' := ?_) #[true, true, true, true, true, true, true, true, true, true, true, false, true, true, true, false, false, false, true, true, true, false, false, false, false, false, false] rfl rfl (any_of HT_.out (by kernel_rfl)) (fun _ _ _ h => h) (Or.inl ⟨by rfl, ?_⟩) ?_ ?_
 rotate_left
 next =>
  intro w'
  go_simp
  with_reducible rfl
 rotate_left
 next =>
  simp only [Act.put, yay, yby, ycy, i64_w, i32_w]
  rfl
 refine take_ (i := 11) (N := some 22) (v := ?_) (a' := ?_) #[true, true, true, true, true, true, true, true, true, true, true, true, true, true, true, false, false, false, true, true, true, false, false, false, false, false, false] rfl rfl (take_ofW HT_.out HW_.out (by kernel_rfl)) (fun _ _ _ h => h) (Or.inl ⟨by rfl, ?_⟩) hHeld ?_ ?_
 rotate_left
 next =>
  rintro w' ⟨s0, s1, s2, s3, s4, s5, s6, s7⟩
  go_simp
  with_reducible rfl
 rotate_left
 next =>
  simp only [Act.put, yay, yby, ycy, i64_w, i32_w]
  rfl
 refine take_ (i := 15) (N := some 26) (v := ?_) (a' := ?_) #[true, true, true, true, true, true, true, true, true, true, true, true, true, true, true, true, false, false, true, true, true, false, false, false, false, false, false] rfl rfl (take_ofW HT_.out HW_.out (by kernel_rfl)) (fun _ _ _ h => h) (Or.inl ⟨by rfl, ?_⟩) hHeld ?_ ?_
 rotate_left
 next =>
  rintro w' ⟨s0, s1, s2, s3, s4, s5, s6, s7⟩
  go_simp
  with_reducible rfl
 rotate_left
 next =>
  simp only [Act.put, yay, yby, ycy, i64_w, i32_w]
  rfl
 refine pure_ (i := 16) (N := some 27) (v := ?_) (a' := ?_) #[true, true, true, true, true, true, true, true, true, true, true, true, true, true, true, true, true, false, true, true, true, false, false, false, false, false, false] rfl rfl (any_of HT_.out (by kernel_rfl)) (fun _ _ _ h => h) (Or.inl ⟨by rfl, ?_⟩) ?_ ?_
 rotate_left
 next =>
  intro w'
  go_simp
  with_reducible rfl
 rotate_left
 next =>
  simp only [Act.put, yay, yby, ycy, i64_w, i32_w]
  rfl
 refine take_ (i := 17) (N := some 28) (v := ?_) (a' := ?_) #[true, true, true, true, true, true, true, true, true, true, true, true, true, true, true, true, true, true, true, true, true, false, false, false, false, false, false] rfl rfl (take_ofW HT_.out HW_.out (by kernel_rfl)) (fun _ _ _ h => h) (Or.inl ⟨by rfl, ?_⟩) hHeld ?_ ?_
 rotate_left
 next =>
  rintro w' ⟨s0, s1, s2, s3, s4, s5, s6, s7⟩
  go_simp
  with_reducible rfl
 rotate_left
 next =>
  simp only [Act.put, yay, yby, ycy, i64_w, i32_w]
  rfl
 refine take_ (i := 21) (N := some 32) (v := ?_) (a' := ?_) #[true, true, true, true, true, true, true, true, true, true, true, true, true, true, true, true, true, true, true, true, true, true, false, false, false, false, false] rfl rfl (take_ofW HT_.out HW_.out (by kernel_rfl)) (fun _ _ _ h => h) (Or.inl ⟨by rfl, ?_⟩) hHeld ?_ ?_
 rotate_left
 next =>
  rintro w' ⟨s0, s1, s2, s3, s4, s5, s6, s7⟩
  go_simp
  with_reducible rfl
 rotate_left
 next =>
  simp only [Act.put, yay, yby, ycy, i64_w, i32_w]
  rfl
 refine pure_ (i := 22) (N := some 33) (v := ?_) (a' := ?_) #[true, true, true, true, true, true, true, true, true, true, true, true, true, true, true, true, true, true, true, true, true, true, true, false, false, false, false] rfl rfl (any_of HT_.out (by kernel_rfl)) (fun _ _ _ h => h) (Or.inl ⟨by rfl, ?_⟩) ?_ ?_
 rotate_left
 next =>
  intro w'
  go_simp
  with_reducible rfl
 rotate_left
 next =>
  simp only [Act.put, yay, yby, ycy, i64_w, i32_w]
  rfl
 refine take_ (i := 23) (N := some 34) (v := ?_) (a' := ?_) #[true, true, true, true, true, true, true, true, true, true, true, true, true, true, true, true, true, true, true, true, true, true, true, true, false, false, false] rfl rfl (take_ofW HT_.out HW_.out (by kernel_rfl)) (fun _ _ _ h => h) (Or.inl ⟨by rfl, ?_⟩) hHeld ?_ ?_
 rotate_left
 next =>
  rintro w' ⟨s0, s1, s2, s3, s4, s5, s6, s7⟩
  go_simp
  with_reducible rfl
 rotate_left
 next =>
  simp only [Act.put, yay, yby, ycy, i64_w, i32_w]
  rfl
 refine one_ (i := 24) (N := some 35) #[true, true, true, true, true, true, true, true, true, true, true, true, true, true, true, true, true, true, true, true, true, true, true, true, true, false, false] rfl rfl (one_of HT_.out (by kernel_rfl)) (by decide) (fun K hK => ?_)
 refine Kd.R_lit_step (Kd.int .i64) _ 2 ?hg (N := 35) ?hd (xs := ([rd t104 (rd t101 0), rd t104 (rd t101 1), rd t104 (rd t101 2), rd t104 (rd t101 3)] : List Int)) (inner := [.int .i64 (rd t104 (rd t101 0)), .int .i64 (rd t104 (rd t101 1)), .int .i64 (rd t104 (rd t101 2)), .int .i64 (rd t104 (rd t101 3))]) (ok := fun _ => True) (okp := fun _ => True) ?hr ?hp (fun _ hk => hk) trivial (ypy _ _) (yoy _) (by simp) ?_; (case hd => rfl); (case hg => rfl); (case hr => first | (go_simp; done) | (go_simp; rfl)); (case hp => exact (Reps.one (show Kd.M (Kd.int .i64) _ _ _ (rd t104 (rd t101 0)) [.int .i64 (rd t104 (rd t101 0))] from rfl) (Reps.one (show Kd.M (Kd.int .i64) _ _ _ (rd t104 (rd t101 1)) [.int .i64 (rd t104 (rd t101 1))] from rfl) (Reps.one (show Kd.M (Kd.int .i64) _ _ _ (rd t104 (rd t101 2)) [.int .i64 (rd t104 (rd t101 2))] from rfl) (Reps.one (show Kd.M (Kd.int .i64) _ _ _ (rd t104 (rd t101 3)) [.int .i64 (rd t104 (rd t101 3))] from rfl) (Reps.none _ _))))))
 intro v116 w23 ho24 hb hg_ hnew_
 have HS0_ := (hb.cell (yny _ _ (hHeld.1))).trans (hHeld.1)
 have HS1_ := (hb.cell (yny _ _ (hHeld.2.1))).trans (hHeld.2.1)
 have HS2_ := (hb.cell (yny _ _ (hHeld.2.2.1))).trans (hHeld.2.2.1)
 have HS3_ := (hb.cell (yny _ _ (hHeld.2.2.2.1))).trans (hHeld.2.2.2.1)
 have HS4_ := (hb.cell (yny _ _ (hHeld.2.2.2.2.1))).trans (hHeld.2.2.2.2.1)
 have HS5_ := (hb.cell (yny _ _ (hHeld.2.2.2.2.2.1))).trans (hHeld.2.2.2.2.2.1)
 have HS6_ := (hb.cell (yny _ _ (hHeld.2.2.2.2.2.2.1))).trans (hHeld.2.2.2.2.2.2.1)
 have HS7_ := (hb.cell (yny _ _ (hHeld.2.2.2.2.2.2.2))).trans (hHeld.2.2.2.2.2.2.2)
 clear hg_ hnew_
 (first | rw [← Ny115.out] at ho24 | (simp only [Int.reduceToNat] at ho24; rw [← Ny115.out] at ho24))
 have n0_ := Aside0.mk (Kd.R_elder' (by (with_reducible repeat (first | apply Kd.R_alloc | apply Kd.R_drewN | apply Kd.R_drew)); exact HO103.out) (Kd.R_base ho24) hb)
 have n1_ := Aside0.mk (Kd.R_elder' (by (with_reducible repeat (first | apply Kd.R_alloc | apply Kd.R_drewN | apply Kd.R_drew)); exact HO106.out) (Kd.R_base ho24) hb)
 have n2_ := Aside0.mk (Kd.R_lower (Kd.R_new' (Kd.R_new' ho24 (Kd.R_lt (by (with_reducible repeat (first | apply Kd.R_alloc | apply Kd.R_drewN | apply Kd.R_drew)); exact HO103.out))) (Kd.R_lt (by (with_reducible repeat (first | apply Kd.R_alloc | apply Kd.R_drewN | apply Kd.R_drew)); exact HO106.out))) (below_size (by repeat (first | (with_reducible first | exact HB.out | apply below_alloc | apply pw_below_drewN | apply below_drew1) | exact HB.out))))
 have n3_ := Aside0.mk (below_step (by repeat (first | (with_reducible first | exact HB.out | apply below_alloc | apply pw_below_drewN | apply below_drew1) | exact HB.out)) hb)
 clear HO103
 clear HO106
 clear HB
 have HO103 := n0_
 have HO106 := n1_
 have HO117 := n2_
 have HB := n3_
 clear n0_ n1_ n2_ n3_
 clear hb ho24
 obtain ⟨Ao25, co25, eo25⟩ := Kd.R_slice HO117.out
 (first | subst eo25 | (injection eo25 with f1_ f2_ f3_; have f4_ := f1_.symm; have f5_ := f3_.symm; clear f1_ f2_ f3_; subst f4_; subst f5_))
 refine hK.out _ _ ⟨HS0_, HS1_, HS2_, HS3_, HS4_, HS5_, HS6_, HS7_⟩ (fun hHeld => ?_)
 clear hK K
 refine norm_ (a' := ?_) ?_ ?_
 rotate_left
 next =>
  show Act.put _ (some 35) _ = _
  simp only [Act.put, yay, yby, ycy, i64_w, i32_w]
  rfl
 refine one_ (i := 25) (N := some 36) #[true, true, true, true, true, true, true, true, true, true, true, true, true, true, true, true, true, true, true, true, true, true, true, true, true, true, false] rfl rfl (one_of HT_.out (by kernel_rfl)) (by decide) (fun K hK => ?_)
 refine goes_ Try.func165 (by kernel_rfl) rfl #[.slice Ao25 y115.length co25] (by rfl) rfl rfl (by (try simp only [yiy, yjy, yky]); first | done | rfl | (simp only [yly, ymy]; rfl)) ?_
 with_reducible refine (spec_l06Index.calls k _ _ y115 t118 _ ?side1 ?side2 A17.out).mono ?_
 (case side1 => repeat (first | exact (Kd.R_reads' HO117.out).2.2 | (with_reducible refine Kd.C_alloc ?_ _) | (with_reducible refine Kd.C_drewN ?_ _) | (with_reducible refine Kd.C_drew ?_)))
 (case side2 => exact (Kd.R_reads' HO117.out).2.1)
 rintro e w' ⟨rfl, ⟨nd, rfl⟩⟩
 refine ⟨_, rfl, ?_⟩
 refine hK.out _ _ ⟨hHeld.1, hHeld.2.1, hHeld.2.2.1, hHeld.2.2.2.1, hHeld.2.2.2.2.1, hHeld.2.2.2.2.2.1, hHeld.2.2.2.2.2.2.1, hHeld.2.2.2.2.2.2.2⟩ (fun hHeld => ?_)
 clear hK K
 refine norm_ (a' := ?_) ?_ ?_
 rotate_left
 next =>
  show Act.put _ (some 36) _ = _
  simp only [Act.put, yay, yby, ycy, i64_w, i32_w]
  rfl
 refine pure_ (i := 26) (N := some 4) (v := ?_) (a' := ?_) #[true, true, true, true, true, true, true, true, true, true, true, true, true, true, true, true, true, true, true, true, true, true, true, true, true, true, true] rfl rfl (any_of HT_.out (by kernel_rfl)) (fun _ _ _ h => h) (Or.inl ⟨by rfl, ?_⟩) ?_ ?_
 rotate_left
 next =>
  intro w'
  go_simp
  with_reducible rfl
 rotate_left
 next =>
  simp only [Act.put, yay, yby, ycy, i64_w, i32_w]
  rfl
 refine done_ (done_of HT_.out (by kernel_rfl)) ?_
 try go_wp2
 go_ret
 exact ⟨by first | rfl | (simp [errW_none, errW_some] <;> rfl) | (simp [*, errW_none, errW_some] <;> rfl), by repeat (first | (with_reducible first | exact HB.out | apply below_alloc | apply pw_below_drewN | apply below_drew1) | exact HB.out)⟩
/-! ### spec_l07Free: function 80 -/
def spec_l07Free.f  : Option ((List (SFace))) := some (([(⟨(-1), 0⟩ : SFace), (⟨(-1), 0⟩ : SFace), (⟨(-1), 0⟩ : SFace), (⟨(-1), 0⟩ : SFace)] : List (SFace)))
set_option maxHeartbeats 8000000 in
set_option maxRecDepth 100000 in
theorem spec_l07Free.calls  (r : List (SFace)) (w : World) (h : spec_l07Free.f  = some r) :
    Calls Try.prog 80 #[] w fun e w' => ∃ v0_ : Value, e = .returned (v0_) ∧ Kd.R kFace 74 w' w.heap.size (fun _ => True) v0_ r ∧ Below w.heap.size w w' := by
  have hu74 := Try.underlying74
  have HB := Aside0.mk (ypy w.heap.size w)
  have H : (some (([(⟨(-1), 0⟩ : SFace), (⟨(-1), 0⟩ : SFace), (⟨(-1), 0⟩ : SFace), (⟨(-1), 0⟩ : SFace)] : List (SFace)))) = some r := h
  clear h
  obtain ⟨y101, hy101⟩ : ∃ y_ : List (SFace), y_ = (([(⟨(-1), 0⟩ : SFace), (⟨(-1), 0⟩ : SFace), (⟨(-1), 0⟩ : SFace), (⟨(-1), 0⟩ : SFace)] : List (SFace))) := ⟨_, rfl⟩
  replace H : (some y101) = some r := by first | (rw [hy101]; with_reducible exact H) | (have H2_ := (yfy _ _).symm.trans H; rw [hy101]; with_reducible exact H2_) | (have H2_ := (yfy _ _).symm.trans H; with_reducible exact H2_) | with_reducible exact H | (rw [hy101]; exact H) | exact H
  have Ny101 := Aside0.mk hy101
  clear hy101
  obtain rfl := yey H
  go_enter Try.func80, Try.ntmps80
  go_wp2_with (first | ((with_reducible refine gate_dst (N := 5) rfl ?_); refine Kd.R_lit kFace _ 74 ?hg (N := 5) ?hd (xs := ([(⟨(-1), 0⟩ : SFace), (⟨(-1), 0⟩ : SFace), (⟨(-1), 0⟩ : SFace), (⟨(-1), 0⟩ : SFace)] : List (SFace))) (inner := [.int .i64 (-1), .int .i64 0, .int .i64 (-1), .int .i64 0, .int .i64 (-1), .int .i64 0, .int .i64 (-1), .int .i64 0]) (ok := fun _ => True) (okp := fun _ => True) ?hr ?hp (fun _ hk => hk) trivial (ypy _ _) (yoy _) (by simp) ?_; (case hd => rfl); (case hg => rfl); (case hr => first | (go_simp; done) | (go_simp; rfl)); (case hp => exact (Reps.c2 (show Kd.M kFace _ _ _ (⟨(-1), 0⟩ : SFace) [.int .i64 (-1), .int .i64 0] from (kFace_mkM _ _ _ (⟨(-1), 0⟩ : SFace) )) (Reps.c2 (show Kd.M kFace _ _ _ (⟨(-1), 0⟩ : SFace) [.int .i64 (-1), .int .i64 0] from (kFace_mkM _ _ _ (⟨(-1), 0⟩ : SFace) )) (Reps.c2 (show Kd.M kFace _ _ _ (⟨(-1), 0⟩ : SFace) [.int .i64 (-1), .int .i64 0] from (kFace_mkM _ _ _ (⟨(-1), 0⟩ : SFace) )) (Reps.c2 (show Kd.M kFace _ _ _ (⟨(-1), 0⟩ : SFace) [.int .i64 (-1), .int .i64 0] from (kFace_mkM _ _ _ (⟨(-1), 0⟩ : SFace) )) (Reps.none _ _)))))); intro v102 w1 ho2 hb hg_ hnew_; clear hg_ hnew_; (first | rw [← Ny101.out] at ho2 | (simp only [Int.reduceToNat] at ho2; rw [← Ny101.out] at ho2)); have n0_ := Aside0.mk (Kd.R_lower ho2 (below_size (by repeat (first | (with_reducible first | exact HB.out | apply below_alloc | apply pw_below_drewN | apply below_drew1) | exact HB.out)))); have n1_ := Aside0.mk (below_step (by repeat (first | (with_reducible first | exact HB.out | apply below_alloc | apply pw_below_drewN | apply below_drew1) | exact HB.out)) hb); clear HB; have HO103 := n0_; have HB := n1_; clear n0_ n1_; clear hb ho2))
  go_ret
  exact ⟨_, by first | rfl | (simp [errW_none, errW_some] <;> rfl) | (simp [*, errW_none, errW_some] <;> rfl), by (with_reducible repeat (first | apply Kd.R_alloc | apply Kd.R_drewN | apply Kd.R_drew)); exact HO103.out, by repeat (first | (with_reducible first | exact HB.out | apply below_alloc | apply pw_below_drewN | apply below_drew1) | exact HB.out)⟩
/-! ### spec_l07Own: function 69 -/
def spec_l07Own.l0 : Nat → Int → List (List (SFace)) → List (List (SFace)) → Option ((List (List (SFace))))
 | 0, _, _, _ => none
 | k + 1, x4, x102000, x104000 => if x4 < (x102000.length : Int) then ((some (([] : List (SFace)) : List (SFace))).bind fun y104 => (if 0 ≤ x4 then (if y104.length + (rd_LFace x102000 x4).length < 8796093022208 then (if x104000.length < 5864062014805 then (spec_l07Own.l0 k (wrap64 (x4 + 1)) x102000 (x104000 ++ [(y104 ++ (rd_LFace x102000 x4))])) else (none)) else (none)) else (none))) else (some x104000)
def spec_l07Own.f (k : Nat) (l0_0 : List (List (SFace))) : Option ((List (List (SFace)))) := spec_l07Own.l0 k 0 l0_0 ([] : List (List (SFace)))
def spec_l07Own.T5 : Bool × List (List Nat × List Nat) := (true, [([], []), ([0], [0]), ([], []), ([], []), ([3], [3]), ([], []), ([4, 5], [4, 5]), ([6], [6]), ([2, 7], [2, 7]), ([8], [8]), ([1, 9, 8], [1, 9]), ([0, 1, 2, 3, 4, 5, 6, 7, 8, 9, 10], []), ([11, 10, 10, 0, 1, 2, 3, 4, 5, 6, 7, 8, 9, 10], [10, 11])])
def spec_l07Own.B5 : List Nat := [0, 1, 0, 0, 8, 0, 56, 120, 252, 508, 1023, 2047, 4095]
theorem spec_l07Own.tab5 : rtab .any (opsOf Try.f69 5) = spec_l07Own.T5 := by kernel_rfl
theorem spec_l07Own.bits5 : waitsOk spec_l07Own.T5.2 spec_l07Own.B5 = true := by kernel_rfl
set_option maxHeartbeats 8000000 in
set_option maxRecDepth 100000 in
theorem spec_l07Own.calls (k : Nat) (A0_0 : Option Addr) (c0_0 : Nat) (l0_0 : List (List (SFace))) (r : List (List (SFace))) (w : World) (hr0_0 : Kd.C (Kd.slice 74 kFace) w A0_0 l0_0.length l0_0) (hc0_0 : l0_0.length ≤ c0_0) (h : spec_l07Own.f k l0_0 = some r) :
 Calls Try.prog 69 #[.agg #[.slice A0_0 l0_0.length c0_0]] w fun e w' => ∃ v0_ : Value, e = .returned (.agg #[v0_]) ∧ Kd.S (Kd.slice 74 kFace) 75 w' w.heap.size (fun _ => True) v0_ r ∧ Below w.heap.size w w' := by
 have hu28 := Try.underlying28
 have HR0_0 := Aside0.mk hr0_0
 have HC0_0 := Aside0.mk hc0_0
 clear hr0_0 hc0_0
 have HB := Aside0.mk (ypy w.heap.size w)
 have H : (spec_l07Own.l0 k 0 l0_0 ([] : List (List (SFace)))) = some r := h
 clear h
 have H' := Aside0.mk H
 clear H
 go_enter Try.func69, Try.ntmps69
 go_wp2_with (first | ((with_reducible refine gate_dst (N := 1) rfl ?_); refine box_event ?hg (N := 1) ?hd (cs := #[.slice A0_0 l0_0.length c0_0]) (t := 28) ?hr ?_; (case hd => rfl); (case hg => rfl); (case hr => first | (go_simp; done) | (go_simp; rfl)); intro gb101 hg w2 hbox hb; have n0_ := Aside0.mk (below_step (by repeat (first | (with_reducible first | exact HB.out | apply below_alloc | apply pw_below_drewN | apply below_drew1) | exact HB.out)) hb); have n1_ := Aside0.mk (hbox); have n2_ := Aside0.mk ((by rw [hg]; exact (below_size (by repeat (first | (with_reducible first | exact HB.out | apply below_alloc | apply pw_below_drewN | apply below_drew1) | exact HB.out))) : w.heap.size ≤ gb101)); have n3_ := Aside0.mk ((by rw [hg]; exact (below_size (by repeat (first | (with_reducible first | exact HB.out | apply below_alloc | apply pw_below_drewN | apply below_drew1) | exact HB.out))) : w.heap.size ≤ gb101)); clear HB; have HB := n0_; have BK101 := n1_; have GW101 := n2_; have GE101 := n3_; clear n0_ n1_ n2_ n3_; clear hb hbox hg) | ((with_reducible refine gate_dst (N := 2) rfl ?_); refine box_event ?hg (N := 2) ?hd (cs := #[.slice none 0 0]) (t := 28) ?hr ?_; (case hd => rfl); (case hg => rfl); (case hr => first | (go_simp; done) | (go_simp; rfl)); intro gb102 hg w3 hbox hb; have n0_ := Aside0.mk (blk_below (g := gb101) (o := .cells #[.slice A0_0 l0_0.length c0_0] 28 (0, 0)) (by (with_reducible repeat (first | refine blk_drewN ?_ _ | refine blk_drew ?_ | refine blk_alloc ?_ _)); exact BK101.out) hb); have n1_ := Aside0.mk (below_step (by repeat (first | (with_reducible first | exact HB.out | apply below_alloc | apply pw_below_drewN | apply below_drew1 | refine below_set ?_ GE101.out) | exact HB.out)) hb); have n2_ := Aside0.mk (hbox); have n3_ := Aside0.mk ((by rw [hg]; exact (below_size (by repeat (first | (with_reducible first | exact HB.out | apply below_alloc | apply pw_below_drewN | apply below_drew1 | refine below_set ?_ GE101.out) | exact HB.out))) : w.heap.size ≤ gb102)); have n4_ := Aside0.mk ((by rw [hg]; exact (below_size (by repeat (first | (with_reducible first | exact HB.out | apply below_alloc | apply pw_below_drewN | apply below_drew1 | refine below_set ?_ GE101.out) | exact HB.out))) : w.heap.size ≤ gb102)); have n5_ := Aside0.mk ((by rw [hg]; exact Nat.ne_of_lt (blk_lt (g := gb101) (o := .cells #[.slice A0_0 l0_0.length c0_0] 28 (0, 0)) (by (with_reducible repeat (first | refine blk_drewN ?_ _ | refine blk_drew ?_ | refine blk_alloc ?_ _)); exact BK101.out)) : gb101 ≠ gb102)); have n6_ := Aside0.mk ((by rw [hg]; exact Nat.ne_of_gt (blk_lt (g := gb101) (o := .cells #[.slice A0_0 l0_0.length c0_0] 28 (0, 0)) (by (with_reducible repeat (first | refine blk_drewN ?_ _ | refine blk_drew ?_ | refine blk_alloc ?_ _)); exact BK101.out)) : gb102 ≠ gb101)); clear BK101; clear HB; have BK101 := n0_; have HB := n1_; have BK102 := n2_; have GW102 := n3_; have GE102 := n4_; have NB101_102 := n5_; have NB102_101 := n6_; clear n0_ n1_ n2_ n3_ n4_ n5_ n6_; clear hb hbox hg) | ((with_reducible refine gate_dst (N := 3) rfl ?_); refine box_event ?hg (N := 3) ?hd (cs := #[.slice none 0 0]) (t := 28) ?hr ?_; (case hd => rfl); (case hg => rfl); (case hr => first | (go_simp; done) | (go_simp; rfl)); intro gb103 hg w4 hbox hb; have n0_ := Aside0.mk (blk_below (g := gb101) (o := .cells #[.slice A0_0 l0_0.length c0_0] 28 (0, 0)) (by (with_reducible repeat (first | refine blk_drewN ?_ _ | refine blk_drew ?_ | refine blk_alloc ?_ _)); exact BK101.out) hb); have n1_ := Aside0.mk (blk_below (g := gb102) (o := .cells #[.slice none 0 0] 28 (0, 0)) (by (with_reducible repeat (first | refine blk_drewN ?_ _ | refine blk_drew ?_ | refine blk_alloc ?_ _)); exact BK102.out) hb); have n2_ := Aside0.mk (below_step (by repeat (first | (with_reducible first | exact HB.out | apply below_alloc | apply pw_below_drewN | apply below_drew1 | refine below_set ?_ GE101.out | refine below_set ?_ GE102.out) | exact HB.out)) hb); have n3_ := Aside0.mk (hbox); have n4_ := Aside0.mk ((by rw [hg]; exact (below_size (by repeat (first | (with_reducible first | exact HB.out | apply below_alloc | apply pw_below_drewN | apply below_drew1 | refine below_set ?_ GE101.out | refine below_set ?_ GE102.out) | exact HB.out))) : w.heap.size ≤ gb103)); have n5_ := Aside0.mk ((by rw [hg]; exact (below_size (by repeat (first | (with_reducible first | exact HB.out | apply below_alloc | apply pw_below_drewN | apply below_drew1 | refine below_set ?_ GE101.out | refine below_set ?_ GE102.out) | exact HB.out))) : w.heap.size ≤ gb103)); have n6_ := Aside0.mk ((by rw [hg]; exact Nat.ne_of_lt (blk_lt (g := gb101) (o := .cells #[.slice A0_0 l0_0.length c0_0] 28 (0, 0)) (by (with_reducible repeat (first | refine blk_drewN ?_ _ | refine blk_drew ?_ | refine blk_alloc ?_ _)); exact BK101.out)) : gb101 ≠ gb103)); have n7_ := Aside0.mk ((by rw [hg]; exact Nat.ne_of_gt (blk_lt (g := gb101) (o := .cells #[.slice A0_0 l0_0.length c0_0] 28 (0, 0)) (by (with_reducible repeat (first | refine blk_drewN ?_ _ | refine blk_drew ?_ | refine blk_alloc ?_ _)); exact BK101.out)) : gb103 ≠ gb101)); have n8_ := Aside0.mk ((by rw [hg]; exact Nat.ne_of_lt (blk_lt (g := gb102) (o := .cells #[.slice none 0 0] 28 (0, 0)) (by (with_reducible repeat (first | refine blk_drewN ?_ _ | refine blk_drew ?_ | refine blk_alloc ?_ _)); exact BK102.out)) : gb102 ≠ gb103)); have n9_ := Aside0.mk ((by rw [hg]; exact Nat.ne_of_gt (blk_lt (g := gb102) (o := .cells #[.slice none 0 0] 28 (0, 0)) (by (with_reducible repeat (first | refine blk_drewN ?_ _ | refine blk_drew ?_ | refine blk_alloc ?_ _)); exact BK102.out)) : gb103 ≠ gb102)); clear BK101; clear BK102; clear HB; have BK101 := n0_; have BK102 := n1_; have HB := n2_; have BK103 := n3_; have GW103 := n4_; have GE103 := n5_; have NB101_103 := n6_; have NB103_101 := n7_; have NB102_103 := n8_; have NB103_102 := n9_; clear n0_ n1_ n2_ n3_ n4_ n5_ n6_ n7_ n8_ n9_; clear hb hbox hg; have hnb5 := NB103_101.out; have hnc5 := NB101_103.out; have hnb6 := NB103_102.out; have hnc6 := NB102_103.out; have hcz7_0 : w4.cell? ⟨gb103, 0, none⟩ = some (.slice none 0 0) := (blk_cell BK103.out 0).trans rfl; have hfz7_0 := blk_frozen BK103.out 0))
 go_loopg [4] k (fun kq v4 w' => ∃ (x4_1 : Int) (x104000_1 : List (List (SFace))) (u104000 : Value), v4 = .int .i64 x4_1 ∧ Aside0 (spec_l07Own.l0 kq x4_1 l0_0 x104000_1 = some r) ∧ Aside0 (kq ≤ k) ∧ Aside0 (Kd.S (Kd.slice 74 kFace) 75 w' w.heap.size (fun _ => True) u104000 x104000_1) ∧ Aside0 (w'.heap[gb101]? = some (.cells #[(.slice A0_0 l0_0.length c0_0)] 28 (0, 0))) ∧ Aside0 (w'.heap[gb102]? = some (.cells #[(.slice none 0 0)] 28 (0, 0))) ∧ Aside0 (w'.heap[gb103]? = some (.cells #[u104000] 28 (0, 0))) ∧ Aside0 (Below w.heap.size w w'))
 case atStart => exact ⟨(0), (([] : List (List (SFace)))), (.slice none 0 0), (by first | rfl | (simp; done) | (simp [*]; done)), H', ⟨yoy _⟩, ⟨by first | exact Kd.S_nil _ _ _ _ _ | exact Kd.N_nil _ _ _ _ _ | exact Kd.V_nil _ _ _ _ _ | exact Kd.Q_nil _ _ _ _ _ | exact Kd.R_nil _ _ _ _ _⟩, ⟨by (with_reducible repeat (first | refine blk_drewN ?_ _ | refine blk_drew ?_ | refine blk_alloc ?_ _)); refine blk_far ?_ NB101_103.out _; (with_reducible repeat (first | refine blk_drewN ?_ _ | refine blk_drew ?_ | refine blk_alloc ?_ _)); exact BK101.out⟩, ⟨by (with_reducible repeat (first | refine blk_drewN ?_ _ | refine blk_drew ?_ | refine blk_alloc ?_ _)); refine blk_far ?_ NB102_103.out _; (with_reducible repeat (first | refine blk_drewN ?_ _ | refine blk_drew ?_ | refine blk_alloc ?_ _)); exact BK102.out⟩, ⟨by (with_reducible repeat (first | refine blk_drewN ?_ _ | refine blk_drew ?_ | refine blk_alloc ?_ _)); refine blk_put (cs := #[.slice none 0 0]) ?_ 0 _ rfl; (with_reducible repeat (first | refine blk_drewN ?_ _ | refine blk_drew ?_ | refine blk_alloc ?_ _)); exact BK103.out⟩, ⟨by repeat (first | (with_reducible first | exact HB.out | apply below_alloc | apply pw_below_drewN | apply below_drew1 | refine below_set ?_ GE101.out | refine below_set ?_ GE102.out | refine below_set ?_ GE103.out) | exact HB.out)⟩⟩
 case round =>
  clear H'
  try clear p2
  try clear c5
  try clear c6
  try clear hcz7_0
  try clear hfz7_0
  obtain ⟨x4_1, x104000_1, u104000, rfl, HA, HK1, HO_104000, BK101, BK102, BK103, HB⟩ := hrel
  cases gk with
  | zero => exact absurd HA.out (by simp [spec_l07Own.l0])
  | succ k1 =>
   have H := HA.out
   clear HA
   simp only [spec_l07Own.l0] at H
   by_cases c8 : x4_1 < (l0_0.length : Int)
   rotate_left
   next =>
    rw [if_neg c8] at H
    have c8b0 : decide (x4_1 < (l0_0.length : Int)) = false := yhy c8
    clear c8
    obtain rfl := yey H
    have hnb23 := NB101_102.out
    have hnc23 := NB102_101.out
    have hnb24 := NB101_103.out
    have hnc24 := NB103_101.out
    have hcz25_0 : wr.cell? ⟨gb101, 0, none⟩ = some (.slice A0_0 l0_0.length c0_0) := (blk_cell BK101.out 0).trans rfl
    have hfz25_0 := blk_frozen BK101.out 0
    have hnb26 := NB103_102.out
    have hnc26 := NB102_103.out
    have hcz27_0 : wr.cell? ⟨gb103, 0, none⟩ = some (u104000) := (blk_cell BK103.out 0).trans rfl
    have hfz27_0 := blk_frozen BK103.out 0
    obtain ⟨Ao28, co28, eo28⟩ := Kd.S_slice HO_104000.out
    subst eo28
    have hcz29_0 : wr.cell? ⟨gb102, 0, none⟩ = some (.slice none 0 0) := (blk_cell BK102.out 0).trans rfl
    have hfz29_0 := blk_frozen BK102.out 0
    go_wp2
    refine bodyPost_ret (results_cell_row rfl _ _ gb102 28 #[.slice Ao28 x104000_1.length co28] (0, 0) _ rfl (by (with_reducible repeat (first | refine blk_drewN ?_ _ | refine blk_drew ?_ | refine blk_alloc ?_ _)); refine blk_put (cs := #[.slice none 0 0]) ?_ 0 _ rfl; (with_reducible repeat (first | refine blk_drewN ?_ _ | refine blk_drew ?_ | refine blk_alloc ?_ _)); exact BK102.out) Try.underlying28 rfl (by kernel_rfl)) rfl ?_
    exact ⟨_, by first | rfl | (simp [errW_none, errW_some] <;> rfl) | (simp [*, errW_none, errW_some] <;> rfl), by (with_reducible repeat (first | apply Kd.S_alloc | apply Kd.S_drewN | apply Kd.S_drew)); exact Kd.S_mono (Kd.S_far (p := ⟨gb102, 0, none⟩) (Kd.S_types HO_104000.out BK102.out (by decide)) (fun _ hk => hk.2) (.slice Ao28 x104000_1.length co28)) (fun _ hk => trivial), by repeat (first | (with_reducible first | exact HB.out | apply below_alloc | apply pw_below_drewN | apply below_drew1 | refine below_set ?_ GE101.out | refine below_set ?_ GE102.out | refine below_set ?_ GE103.out) | exact HB.out)⟩
   rw [if_pos c8] at H
   have c8b0 : decide (x4_1 < (l0_0.length : Int)) = true := ygy c8
   clear c8
   obtain ⟨y104, hy104⟩ : ∃ y_ : List (SFace), y_ = (([] : List (SFace))) := ⟨_, rfl⟩
   replace H : (if 0 ≤ x4_1 then (if y104.length + (rd_LFace l0_0 x4_1).length < 8796093022208 then (if x104000_1.length < 5864062014805 then (spec_l07Own.l0 k1 (wrap64 (x4_1 + 1)) l0_0 (x104000_1 ++ [(y104 ++ (rd_LFace l0_0 x4_1))])) else (none)) else (none)) else (none)) = some r := by first | (rw [hy104]; with_reducible exact H) | (have H2_ := (yfy _ _).symm.trans H; rw [hy104]; with_reducible exact H2_) | (have H2_ := (yfy _ _).symm.trans H; with_reducible exact H2_) | with_reducible exact H | (rw [hy104]; exact H) | exact H
   have Ny104 := Aside0.mk hy104
   clear hy104
   by_cases c9 : 0 ≤ x4_1
   rotate_left
   next =>
    rw [if_neg c9] at H
    exact absurd H (by simp)
   rw [if_pos c9] at H
   have c9b0 : decide (0 ≤ x4_1) = true := ygy c9
   clear c9
   by_cases c10 : y104.length + (rd_LFace l0_0 x4_1).length < 8796093022208
   rotate_left
   next =>
    rw [if_neg c10] at H
    exact absurd H (by simp)
   rw [if_pos c10] at H
   have LMc10 := Aside0.mk c10
   clear c10
   obtain ⟨y108, hy108⟩ : ∃ y_ : List (SFace), y_ = (y104 ++ (rd_LFace l0_0 x4_1)) := ⟨_, rfl⟩
   replace H : (if x104000_1.length < 5864062014805 then (spec_l07Own.l0 k1 (wrap64 (x4_1 + 1)) l0_0 (x104000_1 ++ [y108])) else (none)) = some r := by first | (rw [hy108]; with_reducible exact H) | (have H2_ := (yfy _ _).symm.trans H; rw [hy108]; with_reducible exact H2_) | (have H2_ := (yfy _ _).symm.trans H; with_reducible exact H2_) | with_reducible exact H | (rw [hy108]; exact H) | exact H
   have Ny108 := Aside0.mk hy108
   clear hy108
   by_cases c11 : x104000_1.length < 5864062014805
   rotate_left
   next =>
    rw [if_neg c11] at H
    exact absurd H (by simp)
   rw [if_pos c11] at H
   have LMc11 := Aside0.mk c11
   clear c11
   obtain ⟨y111, hy111⟩ : ∃ y_ : List (List (SFace)), y_ = (x104000_1 ++ [y108]) := ⟨_, rfl⟩
   replace H : (spec_l07Own.l0 k1 (wrap64 (x4_1 + 1)) l0_0 y111) = some r := by first | (rw [hy111]; with_reducible exact H) | (have H2_ := (yfy _ _).symm.trans H; rw [hy111]; with_reducible exact H2_) | (have H2_ := (yfy _ _).symm.trans H; with_reducible exact H2_) | with_reducible exact H | (rw [hy111]; exact H) | exact H
   have Ny111 := Aside0.mk hy111
   clear hy111
   have H' := Aside0.mk H
   clear H
   have hnb12 := NB101_102.out
   have hnc12 := NB102_101.out
   have hnb13 := NB101_103.out
   have hnc13 := NB103_101.out
   have hcz14_0 : wr.cell? ⟨gb101, 0, none⟩ = some (.slice A0_0 l0_0.length c0_0) := (blk_cell BK101.out 0).trans rfl
   have hfz14_0 := blk_frozen BK101.out 0
   try go_wp2
   have n0_ := Aside0.mk (Kd.S_drew HO_104000.out)
   have n1_ := Aside0.mk (blk_drew BK101.out)
   have n2_ := Aside0.mk (blk_drew BK102.out)
   have n3_ := Aside0.mk (blk_drew BK103.out)
   have n4_ := Aside0.mk (below_drew1 HB.out)
   clear HO_104000
   clear BK101
   clear BK102
   clear BK103
   clear HB
   have HO_104000 := n0_
   have BK101 := n1_
   have BK102 := n2_
   have BK103 := n3_
   have HB := n4_
   clear n0_ n1_ n2_ n3_ n4_
   have p107 : 0 ≤ (x4_1 : Int) := of_decide_eq_true (by first | (with_reducible assumption) | assumption)
   have q107 : x4_1 < (l0_0.length : Int) := of_decide_eq_true (by first | (with_reducible assumption) | assumption)
   obtain ⟨ad107, A107_0, c107_0, e107, hx107_0, hl107_0, hi107_0⟩ := at_LFace HR0_0.out x4_1 p107 q107
   have hw107_0 := hx107_0
   cases e107
   replace hx107_0 := (HB.out.cell (yny w _ hx107_0)).trans hx107_0
   have HR107_0 := Aside0.mk hi107_0
   have HC107_0 := Aside0.mk hl107_0
   clear hi107_0 hl107_0
   replace p107 := eq_true p107
   replace q107 := eq_true q107
   refine start_ (n := 13) (S := fun w' => w'.cell? ⟨gb103, 0, none⟩ = some (u104000) ∧ w'.cell? ⟨gb101, 0, none⟩ = some (.slice (some ad107) l0_0.length c0_0) ∧ w'.cell? (ad107.add (x4_1).toNat) = some (.slice A107_0 (rd_LFace l0_0 x4_1).length c107_0)) (ds := [12]) #[false, false, false, false, false, false, false, false, false, false, false, false, false] (by kernel_rfl) rfl rfl ⟨(blk_cell BK103.out 0).trans rfl, (blk_cell BK101.out 0).trans rfl, ((HB.out.cell (yny w _ hw107_0)).trans hw107_0)⟩ (fun hHeld => ?_); refine with_tabW spec_l07Own.tab5 spec_l07Own.bits5 (fun HT_ HW_ => ?_)
   generalize wr.drew = w15 at HO_104000 BK101 BK102 BK103 HB HR107_0 hx107_0 hHeld ⊢
   refine pure_ (i := 0) (N := some 13) (v := ?_) (a' := ?_) #[true, false, false, false, false, false, false, false, false, false, false, false, false] rfl rfl (any_of HT_.out (by kernel_rfl)) (fun _ _ _ h => h) (Or.inl ⟨by rfl, ?_⟩) ?_ ?_
   rotate_left
   next =>
    intro w'
    go_simp
    with_reducible rfl
   rotate_left
   next =>
    simp only [Act.put, yay, yby, ycy, i64_w, i32_w]
    rfl
   refine pure_ (i := 3) (N := some 16) (v := ?_) (a' := ?_) #[true, false, false, true, false, false, false, false, false, false, false, false, false] rfl rfl (any_of HT_.out (by kernel_rfl)) (fun _ _ _ h => h) (Or.inl ⟨by rfl, ?_⟩) ?_ ?_
   rotate_left
   next =>
    intro w'
    go_simp
    with_reducible rfl
   rotate_left
   next =>
    simp only [Act.put, yay, yby, ycy, i64_w, i32_w]
    rfl
   refine pure_ (i := 5) (N := some 18) (v := ?_) (a' := ?_) #[true, false, false, true, false, true, false, false, false, false, false, false, false] rfl rfl (any_of HT_.out (by kernel_rfl)) (fun _ _ _ h => h) (Or.inl ⟨by rfl, ?_⟩) ?_ ?_
   rotate_left
   next =>
    intro w'
    go_simp
    with_reducible rfl
   rotate_left
   next =>
    simp only [Act.put, yay, yby, ycy, i64_w, i32_w]
    rfl
   refine take_ (i := 1) (N := some 14) (v := ?_) (a' := ?_) #[true, true, false, true, false, true, false, false, false, false, false, false, false] rfl rfl (take_ofW HT_.out HW_.out (by kernel_rfl)) (fun _ _ _ h => h) (Or.inl ⟨by rfl, ?_⟩) hHeld ?_ ?_
   rotate_left
   next =>
    rintro w' ⟨s0, s1, s2⟩
    go_simp
    with_reducible rfl
   rotate_left
   next =>
    simp only [Act.put, yay, yby, ycy, i64_w, i32_w]
    rfl
   refine take_ (i := 4) (N := some 17) (v := ?_) (a' := ?_) #[true, true, false, true, true, true, false, false, false, false, false, false, false] rfl rfl (take_ofW HT_.out HW_.out (by kernel_rfl)) (fun _ _ _ h => h) (Or.inl ⟨by rfl, ?_⟩) hHeld ?_ ?_
   rotate_left
   next =>
    rintro w' ⟨s0, s1, s2⟩
    go_simp
    with_reducible rfl
   rotate_left
   next =>
    simp only [Act.put, yay, yby, ycy, i64_w, i32_w]
    rfl
   refine pure_ (i := 6) (N := some 19) (v := ?_) (a' := ?_) #[true, true, false, true, true, true, true, false, false, false, false, false, false] rfl rfl (any_of HT_.out (by kernel_rfl)) (fun _ _ _ h => h) (Or.inl ⟨by rfl, ?_⟩) ?_ ?_
   rotate_left
   next =>
    intro w'
    go_simp
    with_reducible rfl
   rotate_left
   next =>
    simp only [Act.put, yay, yby, ycy, i64_w, i32_w]
    rfl
   refine take_ (i := 7) (N := some 20) (v := ?_) (a' := ?_) #[true, true, false, true, true, true, true, true, false, false, false, false, false] rfl rfl (take_ofW HT_.out HW_.out (by kernel_rfl)) (fun _ _ _ h => h) (Or.inl ⟨by rfl, ?_⟩) hHeld ?_ ?_
   rotate_left
   next =>
    rintro w' ⟨s0, s1, s2⟩
    go_simp
    with_reducible rfl
   rotate_left
   next =>
    simp only [Act.put, yay, yby, ycy, i64_w, i32_w]
    rfl
   refine one_ (i := 2) (N := some 15) #[true, true, true, true, true, true, true, true, false, false, false, false, false] rfl rfl (one_of HT_.out (by kernel_rfl)) (by decide) (fun K hK => ?_)
   refine Kd.R_lit_step kFace _ 74 ?hg (N := 15) ?hd (xs := ([] : List (SFace))) (inner := []) (ok := fun _ => True) (okp := fun _ => True) ?hr ?hp (fun _ hk => hk) trivial (ypy _ _) (yoy _) (by simp) ?_; (case hd => rfl); (case hg => rfl); (case hr => first | (go_simp; done) | (go_simp; rfl)); (case hp => exact (Reps.none _ _))
   intro v105 w16 ho17 hb hg_ hnew_
   clear hg_ hnew_
   (first | rw [← Ny104.out] at ho17 | (simp only [Int.reduceToNat] at ho17; rw [← Ny104.out] at ho17))
   have n0_ := Aside0.mk (Kd.S_elder' (by (with_reducible repeat (first | apply Kd.S_alloc | apply Kd.S_drewN | apply Kd.S_drew)); exact HO_104000.out) (Kd.R_base ho17) hb)
   have n1_ := Aside0.mk (Kd.R_lower ho17 (below_size (by repeat (first | (with_reducible first | exact HB.out | apply below_alloc | apply pw_below_drewN | apply below_drew1 | refine below_set ?_ GE101.out | refine below_set ?_ GE102.out | refine below_set ?_ GE103.out) | exact HB.out))))
   have n2_ := Aside0.mk (blk_below (g := gb101) (o := .cells #[.slice (some ad107) l0_0.length c0_0] 28 (0, 0)) (by (with_reducible repeat (first | refine blk_drewN ?_ _ | refine blk_drew ?_ | refine blk_alloc ?_ _)); exact BK101.out) hb)
   have n3_ := Aside0.mk (blk_below (g := gb102) (o := .cells #[.slice none 0 0] 28 (0, 0)) (by (with_reducible repeat (first | refine blk_drewN ?_ _ | refine blk_drew ?_ | refine blk_alloc ?_ _)); exact BK102.out) hb)
   have n4_ := Aside0.mk (blk_below (g := gb103) (o := .cells #[u104000] 28 (0, 0)) (by (with_reducible repeat (first | refine blk_drewN ?_ _ | refine blk_drew ?_ | refine blk_alloc ?_ _)); exact BK103.out) hb)
   have n5_ := Aside0.mk (below_step (by repeat (first | (with_reducible first | exact HB.out | apply below_alloc | apply pw_below_drewN | apply below_drew1 | refine below_set ?_ GE101.out | refine below_set ?_ GE102.out | refine below_set ?_ GE103.out) | exact HB.out)) hb)
   clear HO_104000
   clear BK101
   clear BK102
   clear BK103
   clear HB
   have HO_104000 := n0_
   have HO106 := n1_
   have BK101 := n2_
   have BK102 := n3_
   have BK103 := n4_
   have HB := n5_
   clear n0_ n1_ n2_ n3_ n4_ n5_
   clear hb ho17
   refine hK.out _ _ ⟨(blk_cell BK103.out 0).trans rfl, (blk_cell BK101.out 0).trans rfl, ((HB.out.cell (yny w _ hw107_0)).trans hw107_0)⟩ (fun hHeld => ?_)
   clear hK K
   refine norm_ (a' := ?_) ?_ ?_
   rotate_left
   next =>
    show Act.put _ (some 15) _ = _
    simp only [Act.put, yay, yby, ycy, i64_w, i32_w]
    rfl
   refine one_ (i := 8) (N := some 21) #[true, true, true, true, true, true, true, true, true, false, false, false, false] rfl rfl (one_of HT_.out (by kernel_rfl)) (by decide) (fun K hK => ?_)
   refine Kd.R_append_rows_step kFace (w0 := w) w.heap.size (by rfl) (.tmp 15) (.tmp 20) 75 74 (.agg #[(.int .i64 0), (.int .i64 0)]) 16 rfl Try.underlying75 info74 rfl (by decide) (by omega) v105 y104 (rd_LFace l0_0 x4_1) _ _ _ (fun _ => True) (fun _ => False) rfl rfl ?aO ?aR (fun _ _ h => h) (fun _ h => h.elim) ?aF ?aB ?aS ?aL ?_
   (case aR => repeat (first | exact (Kd.C_below HR107_0.out HB.out) | (with_reducible refine Kd.C_alloc ?_ _) | (with_reducible refine Kd.C_drewN ?_ _) | (with_reducible refine Kd.C_drew ?_)))
   (case aB => exact (by repeat (first | (with_reducible first | exact HB.out | apply below_alloc | apply pw_below_drewN | apply below_drew1 | refine below_set ?_ GE101.out | refine below_set ?_ GE102.out | refine below_set ?_ GE103.out) | exact HB.out)))
   (case aF => exact (fun _ _ => trivial))
   (case aO => exact (by (with_reducible repeat (first | apply Kd.R_alloc | apply Kd.R_drewN | apply Kd.R_drew)); exact HO106.out))
   (case aS => exact (below_size (by repeat (first | (with_reducible first | exact HB.out | apply below_alloc | apply pw_below_drewN | apply below_drew1 | refine below_set ?_ GE101.out | refine below_set ?_ GE102.out | refine below_set ?_ GE103.out) | exact HB.out))))
   (case aL => have := LMc10.out; omega)
   intro v109 w18 ho hb hg hat
   rw [← Ny108.out] at ho
   have n0_ := Aside0.mk (Kd.S_after (ok := (fun _ => True)) (by (with_reducible repeat (first | apply Kd.S_alloc | apply Kd.S_drewN | apply Kd.S_drew)); exact HO_104000.out) hg hat)
   have n1_ := Aside0.mk (blk_grown (g := gb101) (o := .cells #[.slice (some ad107) l0_0.length c0_0] 28 (0, 0)) (by (with_reducible repeat (first | refine blk_drewN ?_ _ | refine blk_drew ?_ | refine blk_alloc ?_ _)); exact BK101.out) hg (Kd.R_ne HO106.out BK101.out (by decide)))
   have n2_ := Aside0.mk (blk_grown (g := gb102) (o := .cells #[.slice none 0 0] 28 (0, 0)) (by (with_reducible repeat (first | refine blk_drewN ?_ _ | refine blk_drew ?_ | refine blk_alloc ?_ _)); exact BK102.out) hg (Kd.R_ne HO106.out BK102.out (by decide)))
   have n3_ := Aside0.mk (blk_grown (g := gb103) (o := .cells #[u104000] 28 (0, 0)) (by (with_reducible repeat (first | refine blk_drewN ?_ _ | refine blk_drew ?_ | refine blk_alloc ?_ _)); exact BK103.out) hg (Kd.R_ne HO106.out BK103.out (by decide)))
   have n4_ := Aside0.mk (hb)
   have n5_ := Aside0.mk (ho)
   clear HO_104000
   clear BK101
   clear BK102
   clear BK103
   clear HB
   clear HO106
   have HO_104000 := n0_
   have BK101 := n1_
   have BK102 := n2_
   have BK103 := n3_
   have HB := n4_
   have HO110 := n5_
   clear n0_ n1_ n2_ n3_ n4_ n5_
   clear ho hb hg hat
   obtain ⟨Ao20, co20, eo20⟩ := Kd.R_slice HO110.out
   (first | subst eo20 | (injection eo20 with f1_ f2_ f3_; have f4_ := f1_.symm; have f5_ := f3_.symm; clear f1_ f2_ f3_; subst f4_; subst f5_))
   refine hK.out _ _ ⟨(blk_cell BK103.out 0).trans rfl, (blk_cell BK101.out 0).trans rfl, ((HB.out.cell (yny w _ hw107_0)).trans hw107_0)⟩ (fun hHeld => ?_)
   clear hK K
   refine norm_ (a' := ?_) ?_ ?_
   rotate_left
   next =>
    show Act.put _ (some 21) _ = _
    simp only [Act.put, yay, yby, ycy, i64_w, i32_w]
    rfl
   refine one_ (i := 9) (N := some 22) #[true, true, true, true, true, true, true, true, true, true, false, false, false] rfl rfl (one_of HT_.out (by kernel_rfl)) (by decide) (fun K hK => ?_)
   refine value_ (w1 := ?_) (v := ?_) (by rfl) rfl ?_ ?_
   rotate_left 2
   next =>
    go_simp
    constructor
    next =>
     rfl
    next =>
     rfl
   refine hK.out _ _ ⟨(blk_cell (blk_alloc BK103.out _) 0).trans rfl, (blk_cell (blk_alloc BK101.out _) 0).trans rfl, (World.cell?_alloc_lt _ _ _ (yny _ _ (((HB.out.cell (yny w _ hw107_0)).trans hw107_0)))).trans (((HB.out.cell (yny w _ hw107_0)).trans hw107_0))⟩ (fun hHeld => ?_)
   clear hK K
   refine norm_ (a' := ?_) ?_ ?_
   rotate_left
   next =>
    show Act.put _ (some 22) _ = _
    simp only [Act.put, yay, yby, ycy, i64_w, i32_w]
    rfl
   refine one_ (i := 10) (N := some 23) #[true, true, true, true, true, true, true, true, true, true, true, false, false] rfl rfl (one_of HT_.out (by kernel_rfl)) (by decide) (fun K hK => ?_)
   refine Kd.S_append_step (Kd.slice 74 kFace) (w0 := w) w.heap.size (by rfl) (.tmp 14) (.tmp 22) 26 75 (.slice none 0 0) 24 rfl Try.underlying26 info75 rfl (by decide) (by omega) u104000 x104000_1 y108 [.slice Ao20 y108.length co20] (fun _ => True) (fun k_ => some k_ = (.slice Ao20 y108.length co20 : Value).ownBlock) rfl rfl ?aP (fun k_ hk_ => ((Kd.R_mono (ok' := fun k_ => ((fun _ => True)) k_ ∧ some k_ ≠ (u104000 : Value).ownBlock) (Kd.R_apart' (HO110.out) (Kd.S_typed HO_104000.out) (by decide)) (fun k_ hk => ⟨trivial, hk.2⟩))).1 k_ hk_.symm) ?aF ?aO ?aB ?aS ?aL ?_
   (case aP => exact Kd.M_row (Kd.R_mono (Kd.R_tight rfl (Kd.R_mono (ok' := fun k_ => ((fun _ => True)) k_ ∧ some k_ ≠ (u104000 : Value).ownBlock) (Kd.R_apart' (HO110.out) (Kd.S_typed HO_104000.out) (by decide)) (fun k_ hk => ⟨trivial, hk.2⟩))) (fun _ h_ => h_)))
   (case aB => exact (by repeat (first | (with_reducible first | exact HB.out | apply below_alloc | apply pw_below_drewN | apply below_drew1 | refine below_set ?_ GE101.out | refine below_set ?_ GE102.out | refine below_set ?_ GE103.out) | exact HB.out)))
   (case aF => exact (fun _ _ => trivial))
   (case aO => exact (by (with_reducible repeat (first | apply Kd.S_alloc | apply Kd.S_drewN | apply Kd.S_drew)); exact Kd.S_mono HO_104000.out (fun k_ hk => ⟨trivial, fun e_ => hk.2 e_⟩)))
   (case aS => exact (below_size (by repeat (first | (with_reducible first | exact HB.out | apply below_alloc | apply pw_below_drewN | apply below_drew1 | refine below_set ?_ GE101.out | refine below_set ?_ GE102.out | refine below_set ?_ GE103.out) | exact HB.out))))
   (case aL => have := LMc11.out; omega)
   intro v112 w19 ho hb hg hat
   rw [← Ny111.out] at ho
   have n0_ := Aside0.mk (blk_grown (g := gb101) (o := .cells #[.slice (some ad107) l0_0.length c0_0] 28 (0, 0)) (by (with_reducible repeat (first | refine blk_drewN ?_ _ | refine blk_drew ?_ | refine blk_alloc ?_ _)); exact BK101.out) hg (Kd.S_ne HO_104000.out BK101.out (by decide)))
   have n1_ := Aside0.mk (blk_grown (g := gb102) (o := .cells #[.slice none 0 0] 28 (0, 0)) (by (with_reducible repeat (first | refine blk_drewN ?_ _ | refine blk_drew ?_ | refine blk_alloc ?_ _)); exact BK102.out) hg (Kd.S_ne HO_104000.out BK102.out (by decide)))
   have n2_ := Aside0.mk (blk_grown (g := gb103) (o := .cells #[u104000] 28 (0, 0)) (by (with_reducible repeat (first | refine blk_drewN ?_ _ | refine blk_drew ?_ | refine blk_alloc ?_ _)); exact BK103.out) hg (Kd.S_ne HO_104000.out BK103.out (by decide)))
   have n3_ := Aside0.mk (hb)
   have n4_ := Aside0.mk (ho)
   clear BK101
   clear BK102
   clear BK103
   clear HB
   clear HO_104000
   clear HO110
   have BK101 := n0_
   have BK102 := n1_
   have BK103 := n2_
   have HB := n3_
   have HO113 := n4_
   clear n0_ n1_ n2_ n3_ n4_
   clear ho hb hg hat
   obtain ⟨Ao21, co21, eo21⟩ := Kd.S_slice HO113.out
   (first | subst eo21 | (injection eo21 with f1_ f2_ f3_; have f4_ := f1_.symm; have f5_ := f3_.symm; clear f1_ f2_ f3_; subst f4_; subst f5_))
   refine hK.out _ _ ⟨(blk_cell BK103.out 0).trans rfl, (blk_cell BK101.out 0).trans rfl, ((HB.out.cell (yny w _ hw107_0)).trans hw107_0)⟩ (fun hHeld => ?_)
   clear hK K
   refine norm_ (a' := ?_) ?_ ?_
   rotate_left
   next =>
    show Act.put _ (some 23) _ = _
    simp only [Act.put, yay, yby, ycy, i64_w, i32_w]
    rfl
   refine pure_ (i := 11) (N := some 24) (v := ?_) (a' := ?_) #[true, true, true, true, true, true, true, true, true, true, true, true, false] rfl rfl (any_of HT_.out (by kernel_rfl)) (fun _ _ _ h => h) (Or.inl ⟨by rfl, ?_⟩) ?_ ?_
   rotate_left
   next =>
    intro w'
    go_simp
    with_reducible rfl
   rotate_left
   next =>
    simp only [Act.put, yay, yby, ycy, i64_w, i32_w]
    rfl
   refine last_ (i := 12) (N := none) #[true, true, true, true, true, true, true, true, true, true, true, true, true] rfl rfl (one_of HT_.out (by kernel_rfl)) (by decide) (fun K hK => ?_)
   have hs22 : w19.cell? ⟨gb103, 0, none⟩ = some (u104000) := (blk_cell BK103.out 0).trans rfl
   have hfs22 := blk_frozen BK103.out 0
   have hns22_0 := NB101_103.out
   have hns22_1 := NB102_103.out
   have hms22_0 := NB103_101.out
   have hms22_1 := NB103_102.out
   refine skip_ (w1 := ?_) (by rfl) rfl ?_ ?_
   rotate_left
   next =>
    go_simp
    rfl
   refine hK.out _ _ ?_
   clear hK K
   refine done_ (done_of HT_.out (by kernel_rfl)) ?_
   try go_wp2
   go_roundg k1
   case measure => have := HK1.out; omega
   case rel => exact ⟨(wrap64 (x4_1 + 1)), (y111), (.slice Ao21 y111.length co21), (by first | rfl | (simp; done) | (simp [*]; done)), H', ⟨by have := HK1.out; omega⟩, ⟨by (with_reducible repeat (first | apply Kd.S_alloc | apply Kd.S_drewN | apply Kd.S_drew)); exact Kd.S_mono (Kd.S_far (p := ⟨gb103, 0, none⟩) (Kd.S_types HO113.out BK103.out (by decide)) (fun _ hk => hk.2) (.slice Ao21 y111.length co21)) (fun _ hk => trivial)⟩, ⟨by (with_reducible repeat (first | refine blk_drewN ?_ _ | refine blk_drew ?_ | refine blk_alloc ?_ _)); refine blk_far ?_ NB101_103.out _; (with_reducible repeat (first | refine blk_drewN ?_ _ | refine blk_drew ?_ | refine blk_alloc ?_ _)); exact BK101.out⟩, ⟨by (with_reducible repeat (first | refine blk_drewN ?_ _ | refine blk_drew ?_ | refine blk_alloc ?_ _)); refine blk_far ?_ NB102_103.out _; (with_reducible repeat (first | refine blk_drewN ?_ _ | refine blk_drew ?_ | refine blk_alloc ?_ _)); exact BK102.out⟩, ⟨by (with_reducible repeat (first | refine blk_drewN ?_ _ | refine blk_drew ?_ | refine blk_alloc ?_ _)); refine blk_put (cs := #[u104000]) ?_ 0 _ rfl; (with_reducible repeat (first | refine blk_drewN ?_ _ | refine blk_drew ?_ | refine blk_alloc ?_ _)); exact BK103.out⟩, ⟨by repeat (first | (with_reducible first | exact HB.out | apply below_alloc | apply pw_below_drewN | apply below_drew1 | refine below_set ?_ GE101.out | refine below_set ?_ GE102.out | refine below_set ?_ GE103.out) | exact HB.out)⟩⟩
/-! l07Relabel: the reference's triangulation with other numbers. -/
/-- So many rounds serve for all permutations. -/
def permsOk (k : Nat) : Bool := decide (∀ m : Fin 24, spec_l06Back.f k (m.val : Int) = some (invP (m.val : Int))) && (decide (∀ m n : Fin 24, spec_l06Then.f k (m.val : Int) (n.val : Int) = some (compP (m.val : Int) (n.val : Int))) && decide (∀ (m : Fin 24) (f : Fin 4), spec_l06At.f k (m.val : Int) (f.val : Int) = some (rd (permL (m.val : Int)) (f.val : Int))))
theorem fin_of' {p : Int} (h0 : 0 ≤ p) (h1 : p ≤ 23) : ∃ m : Fin 24, p = (m.val : Int) := ⟨⟨p.toNat, by omega⟩, by simp; omega⟩
theorem permsOk_h {k : Nat} (h : permsOk k = true) : (∀ m : Fin 24, spec_l06Back.f k (m.val : Int) = some (invP (m.val : Int))) ∧ (∀ m n : Fin 24, spec_l06Then.f k (m.val : Int) (n.val : Int) = some (compP (m.val : Int) (n.val : Int))) ∧ (∀ (m : Fin 24) (f : Fin 4), spec_l06At.f k (m.val : Int) (f.val : Int) = some (rd (permL (m.val : Int)) (f.val : Int))) := by
 unfold permsOk at h
 rw [Bool.and_eq_true, Bool.and_eq_true, decide_eq_true_eq, decide_eq_true_eq, decide_eq_true_eq] at h
 exact h
theorem permsOk_mono {k : Nat} (h : permsOk k = true) : permsOk (k + 1) = true := by
 obtain ⟨a, b, c⟩ := permsOk_h h
 unfold permsOk
 rw [Bool.and_eq_true, Bool.and_eq_true, decide_eq_true_eq, decide_eq_true_eq, decide_eq_true_eq]
 exact ⟨fun m => spec_l06Back.mono _ k _ (a m), fun m n => spec_l06Then.mono _ _ k _ (b m n), fun m f => spec_l06At.mono _ _ k _ (c m f)⟩
theorem permsOk_back {k : Nat} (h : permsOk k = true) {p : Int} (h0 : 0 ≤ p) (h1 : p ≤ 23) : spec_l06Back.f k p = some (invP p) := by
 obtain ⟨m, rfl⟩ := fin_of' h0 h1; exact (permsOk_h h).1 m
theorem permsOk_then {k : Nat} (h : permsOk k = true) {p q : Int} (h0 : 0 ≤ p) (h1 : p ≤ 23) (h2 : 0 ≤ q) (h3 : q ≤ 23) : spec_l06Then.f k p q = some (compP p q) := by
 obtain ⟨m, rfl⟩ := fin_of' h0 h1; obtain ⟨n, rfl⟩ := fin_of' h2 h3; exact (permsOk_h h).2.1 m n
theorem permsOk_at {k : Nat} (h : permsOk k = true) {p f : Int} (h0 : 0 ≤ p) (h1 : p ≤ 23) (h2 : 0 ≤ f) (h3 : f < 4) : spec_l06At.f k p f = some (rd (permL p) f) := by
 obtain ⟨m, rfl⟩ := fin_of' h0 h1
 obtain ⟨n, rfl⟩ : ∃ m : Fin 4, f = (m.val : Int) := ⟨⟨f.toNat, by omega⟩, by simp; omega⟩
 exact (permsOk_h h).2.2 m n
def spec_l07Relabel.f (k : Nat) (t : List (List SFace)) (ts ps : List Int) : Option (List (List SFace)) := (spec_l07Own.f k t).bind fun u => if okRel t ts ps = true then (if permsOk k = true then (if u.length = t.length then some (relN t ts ps t.length u) else none) else none) else none
set_option maxHeartbeats 8000000 in
set_option maxRecDepth 100000 in
theorem spec_l07Relabel.calls (k : Nat) (A0_0 : Option Addr) (c0_0 : Nat) (l0_0 : List (List SFace)) (A1 : Option Addr) (c1 : Nat) (l1 : List Int) (A2 : Option Addr) (c2 : Nat) (l2 : List Int) (r : List (List SFace)) (w : World) (hr0_0 : Kd.C (Kd.slice 74 kFace) w A0_0 l0_0.length l0_0) (hc0_0 : l0_0.length ≤ c0_0) (hr1 : Kd.C (Kd.int .i64) w A1 l1.length l1) (hc1 : l1.length ≤ c1) (hr2 : Kd.C (Kd.int .i64) w A2 l2.length l2) (hc2 : l2.length ≤ c2) (h : spec_l07Relabel.f k l0_0 l1 l2 = some r) :
 Calls Try.prog 85 #[.agg #[.slice A0_0 l0_0.length c0_0], .slice A1 l1.length c1, .slice A2 l2.length c2] w fun e w' => ∃ v0_ : Value, e = .returned (.agg #[v0_]) ∧ Kd.S (Kd.slice 74 kFace) 75 w' w.heap.size (fun _ => True) v0_ r ∧ Below w.heap.size w w' := by
 unfold spec_l07Relabel.f at h
 obtain ⟨u0, how, h⟩ := ydy.mp h
 by_cases hok : okRel l0_0 l1 l2 = true
 case neg => rw [if_neg hok] at h; cases h
 rw [if_pos hok] at h
 by_cases hpk : permsOk k = true
 case neg => rw [if_neg hpk] at h; cases h
 rw [if_pos hpk] at h
 by_cases hul : u0.length = l0_0.length
 case neg => rw [if_neg hul] at h; cases h
 rw [if_pos hul] at h
 have hr := yey h
 clear h
 obtain ⟨hbig, h4, hf, ht, hts, hp, hps⟩ := okRel_h hok
 clear hok
 have HR := Aside0.mk hr0_0
 have HC := Aside0.mk hc0_0
 have HT := Aside0.mk hr1
 have HP := Aside0.mk hr2
 have H4 := Aside0.mk h4
 have HF := Aside0.mk hf
 have HTS := Aside0.mk hts
 have HPS := Aside0.mk hps
 have HRR := Aside0.mk hr
 have L1 := Aside0.mk ht
 have L2 := Aside0.mk hp
 have HOW := Aside0.mk how
 have HPK := Aside0.mk hpk
 have HU := Aside0.mk hul
 clear hr0_0 hr1 hr2 h4 hf hts hps hr hc0_0 hc1 hc2 ht hp how hpk hul
 have B3 := Aside0.mk (blk_alloc (new_at4 (W := w) rfl (.cells #[.slice A0_0 l0_0.length c0_0] 28)) (.cells #[.slice none 0 0] 28))
 have B6 := Aside0.mk (new_at4 (W := w.alloc (.cells #[.slice A0_0 l0_0.length c0_0] 28)) (n := w.heap.size + 1) (by simp) (.cells #[.slice none 0 0] 28))
 have HB := Aside0.mk (below_alloc (below_alloc (ypy w.heap.size w) (.cells #[.slice A0_0 l0_0.length c0_0] 28)) (.cells #[.slice none 0 0] 28))
 go_enter Try.func85, Try.ntmps85
 go_wp2_with fail
 generalize World.alloc (World.alloc w _) _ = w0 at B3 B6 HB ⊢
 refine (spec_l07Own.calls k A0_0 c0_0 l0_0 u0 w0 (Kd.C_below HR.out HB.out) HC.out HOW.out).mono ?_
 rintro e w3 ⟨v1, rfl, ho, hb⟩
 have HO := Aside0.mk (Kd.S_lower ho (below_size HB.out))
 have B32 := Aside0.mk (blk_below B3.out hb)
 have B62 := Aside0.mk (blk_below B6.out hb)
 have HB2 := Aside0.mk (below_step HB.out hb)
 clear ho hb B3 B6 HB HOW
 have B3 := B32
 have B6 := B62
 have HB := HB2
 clear B32 B62 HB2
 obtain ⟨A7, c7, ev⟩ := Kd.S_slice HO.out
 rw [HU.out] at ev
 subst ev
 have B7 := Aside0.mk (new_at4 (W := w3) rfl (.cells #[.slice A7 l0_0.length c7] 28))
 have HO2 := Aside0.mk (Kd.S_alloc HO.out (.cells #[.slice A7 l0_0.length c7] 28))
 have B32 := Aside0.mk (blk_alloc B3.out (.cells #[.slice A7 l0_0.length c7] 28))
 have B62 := Aside0.mk (blk_alloc B6.out (.cells #[.slice A7 l0_0.length c7] 28))
 have HB2 := Aside0.mk (below_alloc HB.out (.cells #[.slice A7 l0_0.length c7] 28))
 have G7 := Aside0.mk (show w.heap.size + 1 < w3.heap.size from blk_lt B6.out)
 clear HO B3 B6 HB
 have HO := HO2
 have B3 := B32
 have B6 := B62
 have HB := HB2
 clear HO2 B32 B62 HB2
 go_wp2
 generalize hg7 : w3.heap.size = g7 at *
 have GG := G7.out
 go_loopg [8] l0_0.length (fun gg v8 w' => ∃ i : Nat, i ≤ l0_0.length ∧ l0_0.length - i ≤ gg ∧ v8 = .int .i64 i ∧ Aside0 (Kd.S (Kd.slice 74 kFace) 75 w' w.heap.size (fun _ => True) (.slice A7 l0_0.length c7) (relN l0_0 l1 l2 i u0)) ∧ Aside0 (w'.heap[w.heap.size]? = some (.cells #[.slice A0_0 l0_0.length c0_0] 28 (0, 0))) ∧ Aside0 (w'.heap[w.heap.size + 1]? = some (.cells #[.slice none 0 0] 28 (0, 0))) ∧ Aside0 (w'.heap[g7]? = some (.cells #[.slice A7 l0_0.length c7] 28 (0, 0))) ∧ Aside0 (Below w.heap.size w w'))
 case atStart => exact ⟨0, Nat.zero_le _, by omega, rfl, HO, B3, B6, B7, HB⟩
 case round =>
  clear HO B3 B6 B7 HB hg7
  obtain ⟨i, hi, hg, rfl, HO, B3, B6, B7, HB⟩ := hrel
  have hx3 : wr.cell? ⟨w.heap.size, 0, none⟩ = some (.slice A0_0 l0_0.length c0_0) := (blk_cell B3.out 0).trans rfl
  by_cases hlt : i < l0_0.length
  rotate_left
  next =>
   obtain rfl : i = l0_0.length := by omega
   have hcz7 : wr.cell? ⟨g7, 0, none⟩ = some (.slice A7 l0_0.length c7) := (blk_cell B7.out 0).trans rfl
   have hcz6 : wr.cell? ⟨w.heap.size + 1, 0, none⟩ = some (.slice none 0 0) := (blk_cell B6.out 0).trans rfl
   have hfz6 := blk_frozen B6.out 0
   go_wp2
   refine bodyPost_ret (results_cell_row rfl _ _ (w.heap.size + 1) 28 #[.slice A7 l0_0.length c7] (0, 0) _ rfl (blk_put (cs := #[.slice none 0 0]) B6.out 0 _ rfl) Try.underlying28 rfl (by kernel_rfl)) rfl ?_
   refine ⟨_, rfl, ?_, below_set HB.out (by omega)⟩
   rw [← HRR.out]
   exact Kd.S_set HO.out B6.out (by decide) 0 _
  have hltz : (i : Int) < (l0_0.length : Int) := by omega
  have hl1z : (i : Int) < (l1.length : Int) := by have := L1.out; omega
  have hl2z : (i : Int) < (l2.length : Int) := by have := L2.out; omega
  obtain ⟨ay, A3, c3, e4, hy, hl3, hi3⟩ := at_LFace HR.out (i : Int) (by omega) hltz
  subst e4
  rw [Int.toNat_natCast] at hy
  have ex : rd_LFace l0_0 (i : Int) = l0_0[i] := by simp [rd_LFace, hlt]
  have h4 := H4.out l0_0[i] (List.getElem_mem hlt)
  have HFR := Aside0.mk (HF.out l0_0[i] (List.getElem_mem hlt))
  have HPB := Aside0.mk (rd_memR HPS.out (i := (i : Int)) (by omega) hl2z)
  have HTB := Aside0.mk (rd_memR HTS.out (i := (i : Int)) (by omega) hl1z)
  rw [← ex] at h4 HFR
  obtain ⟨aps, eps, hps0⟩ := Kd.at_int HP.out (i : Int) (by omega) hl2z
  obtain ⟨ats, ets, hts0⟩ := Kd.at_int HT.out (i : Int) (by omega) hl1z
  subst eps
  subst ets
  rw [Int.toNat_natCast] at hps0 hts0
  have HY := Aside0.mk hi3
  rw [h4] at hy
  clear hl3 hi3 ex
  have HYC := Aside0.mk hy
  have HPS0 := Aside0.mk hps0
  have HTS0 := Aside0.mk hts0
  have H4R := Aside0.mk h4
  clear hps0 hts0 h4 hy
  have HRK := Aside0.mk (show relN l0_0 l1 l2 (i + 1) u0 = (relN l0_0 l1 l2 i u0).set (rd l1 (i : Int)).toNat (relK l0_0 l1 l2 (i : Int) 4) from rfl)
  generalize rd l1 (i : Int) = tsi at *
  generalize hpsi : rd l2 (i : Int) = ps at *
  have HPSI := Aside0.mk hpsi
  clear hpsi
  go_wp2_with fail
  refine (spec_l07Free.calls (List.replicate 4 (⟨-1, 0⟩ : SFace)) _ rfl).mono ?_
  rintro e w7 ⟨v10, rfl, ho10, hb⟩
  have HM := Aside0.mk (Kd.R_lower ho10 (below_size HB.out))
  have HO2 := Aside0.mk (Kd.S_mono (ok' := fun k => some k ≠ v10.ownBlock) (Kd.S_elder' HO.out (Kd.R_base ho10) hb) (fun k hk => hk.2))
  have B32 := Aside0.mk (blk_below B3.out hb)
  have B62 := Aside0.mk (blk_below B6.out hb)
  have B72 := Aside0.mk (blk_below B7.out hb)
  have HB2 := Aside0.mk (below_step HB.out hb)
  clear HO B3 B6 B7 HB
  have HO := HO2
  have B3 := B32
  have B6 := B62
  have B7 := B72
  have HB := HB2
  clear HO2 B32 B62 B72 HB2
  clear hb ho10 hx3
  obtain ⟨gm, cm, ev, hgm, hgl, cells, hcl⟩ := Kd.R_form HM.out (by decide)
  replace ev : v10 = .slice (some ⟨gm, 0, none⟩) 4 cm := ev
  subst ev
  have GM := Aside0.mk hgm
  clear hgm hgl hcl cells
  go_wp2
  go_loopg [10] 4 (fun gg v10 w' => ∃ f : Nat, f ≤ 4 ∧ 4 - f ≤ gg ∧ v10 = .int .i64 f ∧ Aside0 (Kd.R kFace 74 w' w.heap.size (fun _ => True) (.slice (some ⟨gm, 0, none⟩) 4 cm) (relK l0_0 l1 l2 (i : Int) f)) ∧ Aside0 (Kd.S (Kd.slice 74 kFace) 75 w' w.heap.size (fun k => some k ≠ (Value.slice (some ⟨gm, 0, none⟩) 4 cm).ownBlock) (.slice A7 l0_0.length c7) (relN l0_0 l1 l2 i u0)) ∧ Aside0 (w'.heap[w.heap.size]? = some (.cells #[.slice (some ay) l0_0.length c0_0] 28 (0, 0))) ∧ Aside0 (w'.heap[w.heap.size + 1]? = some (.cells #[.slice none 0 0] 28 (0, 0))) ∧ Aside0 (w'.heap[g7]? = some (.cells #[.slice A7 l0_0.length c7] 28 (0, 0))) ∧ Aside0 (Below w.heap.size w w'))
  case atStart => exact ⟨0, by omega, by omega, rfl, HM, HO, B3, B6, B7, HB⟩
  case round =>
   clear HM HO B3 B6 B7 HB
   obtain ⟨f, hf4, hgf, rfl, HM, HO, B3, B6, B7, HB⟩ := hrel
   by_cases hlf : f < 4
   rotate_left
   next =>
    obtain rfl : f = 4 := by omega
    obtain ⟨go, co, ev, hgo, hgl, cells, hcl⟩ := Kd.S_form HO.out (by rw [relN_length, HU.out]; omega)
    injection ev with e1 e2 e3
    subst e1
    subst e3
    clear e2 hgl hcl cells
    have GO := Aside0.mk hgo
    clear hgo
    have ht0 := (HB.out.cell (yny w _ HTS0.out)).trans HTS0.out
    have t0 := eq_true HTB.out.1
    have t1 := eq_true HTB.out.2
    have t2 := eq_true (show 0 ≤ (i : Int) by omega)
    have t3 := eq_true hl1z
    go_wp2
    refine start_ (n := 9) (S := fun w' => w'.cell? ⟨g7, 0, none⟩ = some (.slice (some ⟨go, 0, none⟩) l0_0.length c7) ∧ w'.cell? (ats.add i) = some (.int .i64 tsi)) (ds := [8]) #[false, false, false, false, false, false, false, false, false] (by kernel_rfl) rfl rfl ⟨(blk_cell B7.out 0).trans rfl, ht0⟩ (fun hHeld => ?_)
    have HO2 := Aside0.mk (Kd.S_drew HO.out)
    have HM2 := Aside0.mk (Kd.R_drew HM.out)
    have B32 := Aside0.mk (blk_drew B3.out)
    have B62 := Aside0.mk (blk_drew B6.out)
    have B72 := Aside0.mk (blk_drew B7.out)
    have HB2 := Aside0.mk (below_drew1 HB.out)
    clear HO HM B3 B6 B7 HB
    have HO := HO2
    have HM := HM2
    have B3 := B32
    have B6 := B62
    have B7 := B72
    have HB := HB2
    clear HO2 HM2 B32 B62 B72 HB2
    generalize wr.drew = w16 at HO HM B3 B6 B7 HB hHeld ⊢
    refine pure_ (i := 0) (N := some 67) (v := ?_) (a' := ?_) #[true, false, false, false, false, false, false, false, false] rfl rfl (by kernel_rfl) (fun _ _ _ h => h) (Or.inl ⟨by rfl, ?_⟩) ?_ ?_
    rotate_left
    next =>
     intro w'
     go_simp
     with_reducible rfl
    rotate_left
    next =>
     simp only [Act.put, yay, yby, ycy, i64_w, i32_w]
     rfl
    refine take_ (i := 1) (N := some 68) (v := ?_) (a' := ?_) #[true, true, false, false, false, false, false, false, false] rfl rfl (by kernel_rfl) (fun _ _ _ h => h) (Or.inl ⟨by rfl, ?_⟩) hHeld ?_ ?_
    rotate_left
    next =>
     rintro w' ⟨s0, s1⟩
     go_simp
     with_reducible rfl
    rotate_left
    next =>
     simp only [Act.put, yay, yby, ycy, i64_w, i32_w]
     rfl
    refine pure_ (i := 2) (N := some 69) (v := ?_) (a' := ?_) #[true, true, true, false, false, false, false, false, false] rfl rfl (by kernel_rfl) (fun _ _ _ h => h) (Or.inl ⟨by rfl, ?_⟩) ?_ ?_
    rotate_left
    next =>
     intro w'
     go_simp
     with_reducible rfl
    rotate_left
    next =>
     simp only [Act.put, yay, yby, ycy, i64_w, i32_w]
     rfl
    refine pure_ (i := 3) (N := some 70) (v := ?_) (a' := ?_) #[true, true, true, true, false, false, false, false, false] rfl rfl (by kernel_rfl) (fun _ _ _ h => h) (Or.inl ⟨by rfl, ?_⟩) ?_ ?_
    rotate_left
    next =>
     intro w'
     go_simp
     with_reducible rfl
    rotate_left
    next =>
     simp only [Act.put, yay, yby, ycy, i64_w, i32_w]
     rfl
    refine pure_ (i := 4) (N := some 71) (v := ?_) (a' := ?_) #[true, true, true, true, true, false, false, false, false] rfl rfl (by kernel_rfl) (fun _ _ _ h => h) (Or.inl ⟨by rfl, ?_⟩) ?_ ?_
    rotate_left
    next =>
     intro w'
     go_simp
     with_reducible rfl
    rotate_left
    next =>
     simp only [Act.put, yay, yby, ycy, i64_w, i32_w]
     rfl
    refine take_ (i := 5) (N := some 72) (v := ?_) (a' := ?_) #[true, true, true, true, true, true, false, false, false] rfl rfl (by kernel_rfl) (fun _ _ _ h => h) (Or.inl ⟨by rfl, ?_⟩) hHeld ?_ ?_
    rotate_left
    next =>
     rintro w' ⟨s0, s1⟩
     go_simp
     with_reducible rfl
    rotate_left
    next =>
     simp only [Act.put, yay, yby, ycy, i64_w, i32_w]
     rfl
    refine pure_ (i := 6) (N := some 73) (v := ?_) (a' := ?_) #[true, true, true, true, true, true, true, false, false] rfl rfl (by kernel_rfl) (fun _ _ _ h => h) (Or.inl ⟨by rfl, ?_⟩) ?_ ?_
    rotate_left
    next =>
     intro w'
     go_simp
     with_reducible rfl
    rotate_left
    next =>
     simp only [Act.put, yay, yby, ycy, i64_w, i32_w]
     rfl
    refine pure_ (i := 7) (N := some 74) (v := ?_) (a' := ?_) #[true, true, true, true, true, true, true, true, false] rfl rfl (by kernel_rfl) (fun _ _ _ h => h) (Or.inl ⟨by rfl, ?_⟩) ?_ ?_
    rotate_left
    next =>
     intro w'
     go_simp
     with_reducible rfl
    rotate_left
    next =>
     simp only [Act.put, yay, yby, ycy, i64_w, i32_w]
     rfl
    obtain ⟨⟨old, hx0⟩, hz0, hSS, hgr⟩ := row_put HO.out HM.out tsi HTB.out.1 HTB.out.2
    refine last_ (i := 8) (N := none) #[true, true, true, true, true, true, true, true, true] rfl rfl (by kernel_rfl) (by decide) (fun K hK => ?_)
    refine skip_ (w1 := ?_) (by rfl) rfl ?_ ?_
    rotate_left
    next =>
     go_simp
     rfl
    refine hK.out _ _ ?_
    clear hK K
    refine done_ (by kernel_rfl) ?_
    have HO2 := Aside0.mk hSS
    have B32 := Aside0.mk (blk_grown B3.out hgr (Kd.S_ne HO.out B3.out (by decide)))
    have B62 := Aside0.mk (blk_grown B6.out hgr (Kd.S_ne HO.out B6.out (by decide)))
    have B72 := Aside0.mk (blk_grown B7.out hgr (Kd.S_ne HO.out B7.out (by decide)))
    have HB2 := Aside0.mk (below_set (j := tsi.toNat) (v := .slice (some ⟨gm, 0, none⟩) 4 cm) HB.out GO.out)
    clear hSS hgr hx0 hz0 HM
    clear HO B3 B6 B7 HB
    have HO := HO2
    have B3 := B32
    have B6 := B62
    have B7 := B72
    have HB := HB2
    clear HO2 B32 B62 B72 HB2
    generalize w16.setCell ⟨go, tsi.toNat, none⟩ (.slice (some ⟨gm, 0, none⟩) 4 cm) = w17 at HO B3 B6 B7 HB ⊢
    go_wp2
    go_roundg (l0_0.length - (i + 1))
    case measure => omega
    case rel => exact ⟨i + 1, by omega, yoy _, by go_num, ⟨by rw [HRK.out]; exact HO.out⟩, B3, B6, B7, HB⟩
   have hlfz : (f : Int) < 4 := by omega
   have hlr : (f : Int) < ((rd_LFace l0_0 (i : Int)).length : Int) := by have := H4R.out; omega
   obtain ⟨ad2, e2, hy2, hy3⟩ := at_Face HY.out (f : Int) (by omega) hlr
   subst e2
   have hx3 : wr.cell? ⟨w.heap.size, 0, none⟩ = some (.slice (some ay) l0_0.length c0_0) := (blk_cell B3.out 0).trans rfl
   have hy := (HB.out.cell (yny w _ HYC.out)).trans HYC.out
   replace hy2 := (HB.out.cell (yny w _ hy2)).trans hy2
   replace hy3 := (HB.out.cell (yny w _ hy3)).trans hy3
   rw [Int.toNat_natCast] at hy2 hy3
   have HK := Aside0.mk (show relK l0_0 l1 l2 (i : Int) (f + 1) = if (rd_Face (rd_LFace l0_0 (i : Int)) (f : Int)).f0 < 0 then relK l0_0 l1 l2 (i : Int) f else (relK l0_0 l1 l2 (i : Int) f).set (rd (permL ps) (f : Int)).toNat ⟨rd l1 (rd_Face (rd_LFace l0_0 (i : Int)) (f : Int)).f0, compP (compP (invP ps) (rd_Face (rd_LFace l0_0 (i : Int)) (f : Int)).f1) (rd l2 (rd_Face (rd_LFace l0_0 (i : Int)) (f : Int)).f0)⟩ from by rw [← HPSI.out]; rfl)
   have hlt2 : f < (rd_LFace l0_0 (i : Int)).length := by omega
   have exf : rd_Face (rd_LFace l0_0 (i : Int)) (f : Int) = (rd_LFace l0_0 (i : Int))[f] := by simp [rd_Face, hlt2]
   have HFB := Aside0.mk (HFR.out (rd_Face (rd_LFace l0_0 (i : Int)) (f : Int)) (by rw [exf]; exact List.getElem_mem hlt2))
   clear exf hlt2
   generalize rd_Face (rd_LFace l0_0 (i : Int)) (f : Int) = y at hy2 hy3 HK HFB
   obtain ⟨f0, f1⟩ := y
   clear hlr
   have BF := Aside0.mk (new_at4 (W := wr) rfl (.cells #[.int .i64 f0, .int .i64 f1] 74))
   have G8 := Aside0.mk (show w.heap.size ≤ wr.heap.size from below_size HB.out)
   have HO2 := Aside0.mk (Kd.S_alloc HO.out (.cells #[.int .i64 f0, .int .i64 f1] 74))
   have HM2 := Aside0.mk (Kd.R_alloc HM.out (.cells #[.int .i64 f0, .int .i64 f1] 74))
   have B32 := Aside0.mk (blk_alloc B3.out (.cells #[.int .i64 f0, .int .i64 f1] 74))
   have B62 := Aside0.mk (blk_alloc B6.out (.cells #[.int .i64 f0, .int .i64 f1] 74))
   have B72 := Aside0.mk (blk_alloc B7.out (.cells #[.int .i64 f0, .int .i64 f1] 74))
   have HB2 := Aside0.mk (below_alloc HB.out (.cells #[.int .i64 f0, .int .i64 f1] 74))
   clear HO HM B3 B6 B7 HB
   have HO := HO2
   have HM := HM2
   have B3 := B32
   have B6 := B62
   have B7 := B72
   have HB := HB2
   clear HO2 HM2 B32 B62 B72 HB2
   by_cases hb : f0 < 0
   next =>
    have HK2 := Aside0.mk (HK.out.trans (if_pos hb))
    have d0 : decide (0 ≤ f0) = false := yhy (by omega)
    clear HK HFB
    go_wp2
    go_roundg (4 - (f + 1))
    case measure => omega
    case rel => exact ⟨f + 1, by omega, by omega, by go_num, ⟨by rw [HK2.out]; exact HM.out⟩, HO, B3, B6, B7, HB⟩
   next =>
    have HK2 := Aside0.mk (HK.out.trans (if_neg hb))
    have d0 : decide (0 ≤ f0) = true := ygy (by omega)
    have HFB9 := Aside0.mk (show 0 ≤ f0 ∧ f0 < (l0_0.length : Int) ∧ 0 ≤ f1 ∧ f1 ≤ 23 from HFB.out (by first | exact hb | (show (0 : Int) ≤ f0; omega)))
    clear HK HFB
    have HFB := HFB9
    clear HFB9
    go_wp2
    have g0 := HFB.out.1
    have g1 : f0 < (l1.length : Int) := by have := HFB.out.2.1; have := L1.out; omega
    have g2 : f0 < (l2.length : Int) := by have := HFB.out.2.1; have := L2.out; omega
    obtain ⟨apx, epx, hp1⟩ := Kd.at_int HP.out f0 g0 g2
    obtain rfl : aps = apx := by injection epx
    obtain ⟨atx, etx, ht1⟩ := Kd.at_int HT.out f0 g0 g1
    obtain rfl : ats = atx := by injection etx
    have HPB2 := Aside0.mk (invP_bd' HPB.out.1 HPB.out.2)
    have HPB3 := Aside0.mk (compP_bd HPB2.out.1 HPB2.out.2 HFB.out.2.2.1 HFB.out.2.2.2)
    have HPT := Aside0.mk (rd_memR HPS.out g0 g2)
    clear epx etx hy hy2 hy3 hx3 hb d0
    generalize hw9 : wr.alloc (.cells #[.int .i64 f0, .int .i64 f1] 74) = w9 at HO HM B3 B6 B7 BF HB ⊢
    generalize wr.heap.size = gf at BF ⊢
    clear hw9
    generalize rd l1 f0 = tt at *
    generalize rd l2 f0 = pt at *
    replace hp1 := (HB.out.cell (yny w _ hp1)).trans hp1
    replace ht1 := (HB.out.cell (yny w _ ht1)).trans ht1
    have hp0 := (HB.out.cell (yny w _ HPS0.out)).trans HPS0.out
    have p0 := eq_true g0
    have p1 := eq_true g1
    have p2 := eq_true g2
    refine start_ (n := 15) (S := fun w' => w'.cell? (aps.add i) = some (.int .i64 ps) ∧ w'.cell? ⟨gf, 0, none⟩ = some (.int .i64 f0) ∧ w'.cell? ⟨gf, 1, none⟩ = some (.int .i64 f1) ∧ w'.cell? (aps.add f0.toNat) = some (.int .i64 pt)) (ds := []) #[false, false, false, false, false, false, false, false, false, false, false, false, false, false, false] (by kernel_rfl) rfl rfl ⟨hp0, (blk_cell BF.out 0).trans rfl, (blk_cell BF.out 1).trans rfl, hp1⟩ (fun hHeld => ?_)
    have HO2 := Aside0.mk (Kd.S_drew HO.out)
    have HM2 := Aside0.mk (Kd.R_drew HM.out)
    have B32 := Aside0.mk (blk_drew B3.out)
    have B62 := Aside0.mk (blk_drew B6.out)
    have B72 := Aside0.mk (blk_drew B7.out)
    have BF2 := Aside0.mk (blk_drew BF.out)
    have HB2 := Aside0.mk (below_drew1 HB.out)
    clear HO HM B3 B6 B7 BF HB
    have HO := HO2
    have HM := HM2
    have B3 := B32
    have B6 := B62
    have B7 := B72
    have BF := BF2
    have HB := HB2
    clear HO2 HM2 B32 B62 B72 BF2 HB2
    replace hp0 : w9.drew.cell? (aps.add i) = some (.int .i64 ps) := hp0
    replace hp1 : w9.drew.cell? (aps.add f0.toNat) = some (.int .i64 pt) := hp1
    replace ht1 : w9.drew.cell? (ats.add f0.toNat) = some (.int .i64 tt) := ht1
    generalize w9.drew = w10 at HO HM B3 B6 B7 BF HB hp0 hp1 ht1 hHeld ⊢
    refine pure_ (i := 0) (N := some 38) (v := ?_) (a' := ?_) #[true, false, false, false, false, false, false, false, false, false, false, false, false, false, false] rfl rfl (by kernel_rfl) (fun _ _ _ h => h) (Or.inl ⟨by rfl, ?_⟩) ?_ ?_
    rotate_left
    next =>
     intro w'
     go_simp
     with_reducible rfl
    rotate_left
    next =>
     simp only [Act.put, yay, yby, ycy, i64_w, i32_w]
     rfl
    refine pure_ (i := 1) (N := some 39) (v := ?_) (a' := ?_) #[true, true, false, false, false, false, false, false, false, false, false, false, false, false, false] rfl rfl (by kernel_rfl) (fun _ _ _ h => h) (Or.inl ⟨by rfl, ?_⟩) ?_ ?_
    rotate_left
    next =>
     intro w'
     go_simp
     with_reducible rfl
    rotate_left
    next =>
     simp only [Act.put, yay, yby, ycy, i64_w, i32_w]
     rfl
    refine pure_ (i := 2) (N := some 40) (v := ?_) (a' := ?_) #[true, true, true, false, false, false, false, false, false, false, false, false, false, false, false] rfl rfl (by kernel_rfl) (fun _ _ _ h => h) (Or.inl ⟨by rfl, ?_⟩) ?_ ?_
    rotate_left
    next =>
     intro w'
     go_simp
     with_reducible rfl
    rotate_left
    next =>
     simp only [Act.put, yay, yby, ycy, i64_w, i32_w]
     rfl
    refine take_ (i := 3) (N := some 41) (v := ?_) (a' := ?_) #[true, true, true, true, false, false, false, false, false, false, false, false, false, false, false] rfl rfl (by kernel_rfl) (fun _ _ _ h => h) (Or.inl ⟨by rfl, ?_⟩) hHeld ?_ ?_
    rotate_left
    next =>
     rintro w' ⟨s0, s1, s2, s3⟩
     go_simp
     with_reducible rfl
    rotate_left
    next =>
     simp only [Act.put, yay, yby, ycy, i64_w, i32_w]
     rfl
    refine pure_ (i := 5) (N := some 43) (v := ?_) (a' := ?_) #[true, true, true, true, false, true, false, false, false, false, false, false, false, false, false] rfl rfl (by kernel_rfl) (fun _ _ _ h => h) (Or.inl ⟨by rfl, ?_⟩) ?_ ?_
    rotate_left
    next =>
     intro w'
     go_simp
     with_reducible rfl
    rotate_left
    next =>
     simp only [Act.put, yay, yby, ycy, i64_w, i32_w]
     rfl
    refine take_ (i := 6) (N := some 44) (v := ?_) (a' := ?_) #[true, true, true, true, false, true, true, false, false, false, false, false, false, false, false] rfl rfl (by kernel_rfl) (fun _ _ _ h => h) (Or.inl ⟨by rfl, ?_⟩) hHeld ?_ ?_
    rotate_left
    next =>
     rintro w' ⟨s0, s1, s2, s3⟩
     go_simp
     with_reducible rfl
    rotate_left
    next =>
     simp only [Act.put, yay, yby, ycy, i64_w, i32_w]
     rfl
    refine pure_ (i := 8) (N := some 46) (v := ?_) (a' := ?_) #[true, true, true, true, false, true, true, false, true, false, false, false, false, false, false] rfl rfl (by kernel_rfl) (fun _ _ _ h => h) (Or.inl ⟨by rfl, ?_⟩) ?_ ?_
    rotate_left
    next =>
     intro w'
     go_simp
     with_reducible rfl
    rotate_left
    next =>
     simp only [Act.put, yay, yby, ycy, i64_w, i32_w]
     rfl
    refine pure_ (i := 9) (N := some 47) (v := ?_) (a' := ?_) #[true, true, true, true, false, true, true, false, true, true, false, false, false, false, false] rfl rfl (by kernel_rfl) (fun _ _ _ h => h) (Or.inl ⟨by rfl, ?_⟩) ?_ ?_
    rotate_left
    next =>
     intro w'
     go_simp
     with_reducible rfl
    rotate_left
    next =>
     simp only [Act.put, yay, yby, ycy, i64_w, i32_w]
     rfl
    refine take_ (i := 10) (N := some 48) (v := ?_) (a' := ?_) #[true, true, true, true, false, true, true, false, true, true, true, false, false, false, false] rfl rfl (by kernel_rfl) (fun _ _ _ h => h) (Or.inl ⟨by rfl, ?_⟩) hHeld ?_ ?_
    rotate_left
    next =>
     rintro w' ⟨s0, s1, s2, s3⟩
     go_simp
     with_reducible rfl
    rotate_left
    next =>
     simp only [Act.put, yay, yby, ycy, i64_w, i32_w]
     rfl
    refine pure_ (i := 11) (N := some 49) (v := ?_) (a' := ?_) #[true, true, true, true, false, true, true, false, true, true, true, true, false, false, false] rfl rfl (by kernel_rfl) (fun _ _ _ h => h) (Or.inl ⟨by rfl, ?_⟩) ?_ ?_
    rotate_left
    next =>
     intro w'
     go_simp
     with_reducible rfl
    rotate_left
    next =>
     simp only [Act.put, yay, yby, ycy, i64_w, i32_w]
     rfl
    refine take_ (i := 12) (N := some 50) (v := ?_) (a' := ?_) #[true, true, true, true, false, true, true, false, true, true, true, true, true, false, false] rfl rfl (by kernel_rfl) (fun _ _ _ h => h) (Or.inl ⟨by rfl, ?_⟩) hHeld ?_ ?_
    rotate_left
    next =>
     rintro w' ⟨s0, s1, s2, s3⟩
     go_simp
     with_reducible rfl
    rotate_left
    next =>
     simp only [Act.put, yay, yby, ycy, i64_w, i32_w]
     rfl
    refine one_ (i := 4) (N := some 42) #[true, true, true, true, true, true, true, false, true, true, true, true, true, false, false] rfl rfl (by kernel_rfl) (by decide) (fun K hK => ?_)
    refine goes_ Try.func113 (by kernel_rfl) rfl #[.int .i64 ps] (by rfl) rfl rfl (by (try simp only [yiy, yjy, yky]); first | done | rfl) ?_
    refine (spec_l06Back.calls k ps (invP ps) _ (permsOk_back HPK.out HPB.out.1 HPB.out.2)).mono ?_
    rintro e w11 ⟨rfl, hb⟩
    refine ⟨_, rfl, ?_⟩
    replace hp0 := (hb.cell (yny _ _ hp0)).trans hp0
    replace hp1 := (hb.cell (yny _ _ hp1)).trans hp1
    replace ht1 := (hb.cell (yny _ _ ht1)).trans ht1
    have HO2 := Aside0.mk (Kd.S_below HO.out hb)
    have HM2 := Aside0.mk (Kd.R_below HM.out hb)
    have B32 := Aside0.mk (blk_below B3.out hb)
    have B62 := Aside0.mk (blk_below B6.out hb)
    have B72 := Aside0.mk (blk_below B7.out hb)
    have BF2 := Aside0.mk (blk_below BF.out hb)
    have HB2 := Aside0.mk (below_step HB.out hb)
    clear HO HM B3 B6 B7 BF HB
    have HO := HO2
    have HM := HM2
    have B3 := B32
    have B6 := B62
    have B7 := B72
    have BF := BF2
    have HB := HB2
    clear HO2 HM2 B32 B62 B72 BF2 HB2
    clear hb
    refine hK.out _ _ ⟨hp0, (blk_cell BF.out 0).trans rfl, (blk_cell BF.out 1).trans rfl, hp1⟩ (fun hHeld => ?_)
    clear hK K
    refine norm_ (a' := ?_) ?_ ?_
    rotate_left
    next =>
     show Act.put _ (some 42) _ = _
     simp only [Act.put, yay, yby, ycy, i64_w, i32_w]
     rfl
    refine one_ (i := 7) (N := some 45) #[true, true, true, true, true, true, true, true, true, true, true, true, true, false, false] rfl rfl (by kernel_rfl) (by decide) (fun K hK => ?_)
    refine goes_ Try.func132 (by kernel_rfl) rfl #[.int .i64 (invP ps), .int .i64 f1] (by rfl) rfl rfl (by (try simp only [yiy, yjy, yky]); first | done | rfl) ?_
    refine (spec_l06Then.calls k (invP ps) f1 (compP (invP ps) f1) _ (permsOk_then HPK.out HPB2.out.1 HPB2.out.2 HFB.out.2.2.1 HFB.out.2.2.2)).mono ?_
    rintro e w12 ⟨rfl, hb⟩
    refine ⟨_, rfl, ?_⟩
    replace hp0 := (hb.cell (yny _ _ hp0)).trans hp0
    replace hp1 := (hb.cell (yny _ _ hp1)).trans hp1
    replace ht1 := (hb.cell (yny _ _ ht1)).trans ht1
    have HO2 := Aside0.mk (Kd.S_below HO.out hb)
    have HM2 := Aside0.mk (Kd.R_below HM.out hb)
    have B32 := Aside0.mk (blk_below B3.out hb)
    have B62 := Aside0.mk (blk_below B6.out hb)
    have B72 := Aside0.mk (blk_below B7.out hb)
    have BF2 := Aside0.mk (blk_below BF.out hb)
    have HB2 := Aside0.mk (below_step HB.out hb)
    clear HO HM B3 B6 B7 BF HB
    have HO := HO2
    have HM := HM2
    have B3 := B32
    have B6 := B62
    have B7 := B72
    have BF := BF2
    have HB := HB2
    clear HO2 HM2 B32 B62 B72 BF2 HB2
    clear hb
    refine hK.out _ _ ⟨hp0, (blk_cell BF.out 0).trans rfl, (blk_cell BF.out 1).trans rfl, hp1⟩ (fun hHeld => ?_)
    clear hK K
    refine norm_ (a' := ?_) ?_ ?_
    rotate_left
    next =>
     show Act.put _ (some 45) _ = _
     simp only [Act.put, yay, yby, ycy, i64_w, i32_w]
     rfl
    refine one_ (i := 13) (N := some 51) #[true, true, true, true, true, true, true, true, true, true, true, true, true, true, false] rfl rfl (by kernel_rfl) (by decide) (fun K hK => ?_)
    refine goes_ Try.func132 (by kernel_rfl) rfl #[.int .i64 (compP (invP ps) f1), .int .i64 pt] (by rfl) rfl rfl (by (try simp only [yiy, yjy, yky]); first | done | rfl) ?_
    refine (spec_l06Then.calls k (compP (invP ps) f1) pt (compP (compP (invP ps) f1) pt) _ (permsOk_then HPK.out HPB3.out.1 HPB3.out.2 HPT.out.1 HPT.out.2)).mono ?_
    rintro e w13 ⟨rfl, hb⟩
    refine ⟨_, rfl, ?_⟩
    replace hp0 := (hb.cell (yny _ _ hp0)).trans hp0
    replace hp1 := (hb.cell (yny _ _ hp1)).trans hp1
    replace ht1 := (hb.cell (yny _ _ ht1)).trans ht1
    have HO2 := Aside0.mk (Kd.S_below HO.out hb)
    have HM2 := Aside0.mk (Kd.R_below HM.out hb)
    have B32 := Aside0.mk (blk_below B3.out hb)
    have B62 := Aside0.mk (blk_below B6.out hb)
    have B72 := Aside0.mk (blk_below B7.out hb)
    have BF2 := Aside0.mk (blk_below BF.out hb)
    have HB2 := Aside0.mk (below_step HB.out hb)
    clear HO HM B3 B6 B7 BF HB
    have HO := HO2
    have HM := HM2
    have B3 := B32
    have B6 := B62
    have B7 := B72
    have BF := BF2
    have HB := HB2
    clear HO2 HM2 B32 B62 B72 BF2 HB2
    clear hb
    refine hK.out _ _ ⟨hp0, (blk_cell BF.out 0).trans rfl, (blk_cell BF.out 1).trans rfl, hp1⟩ (fun hHeld => ?_)
    clear hK K
    refine norm_ (a' := ?_) ?_ ?_
    rotate_left
    next =>
     show Act.put _ (some 51) _ = _
     simp only [Act.put, yay, yby, ycy, i64_w, i32_w]
     rfl
    refine pure_ (i := 14) (N := some 12) (v := ?_) (a' := ?_) #[true, true, true, true, true, true, true, true, true, true, true, true, true, true, true] rfl rfl (by kernel_rfl) (fun _ _ _ h => h) (Or.inl ⟨by rfl, ?_⟩) ?_ ?_
    rotate_left
    next =>
     intro w'
     go_simp
     with_reducible rfl
    rotate_left
    next =>
     simp only [Act.put, yay, yby, ycy, i64_w, i32_w]
     rfl
    refine done_ (by kernel_rfl) ?_
    generalize hpp : compP (compP (invP ps) f1) pt = pp at *
    clear hpp hHeld hp1 HPB3 HPT
    go_wp2
    have HAT := Aside0.mk (permsOk_at HPK.out (f := (f : Int)) HPB.out.1 HPB.out.2 (by omega) hlfz)
    have HIM := Aside0.mk (show 0 ≤ rd (permL ps) (f : Int) ∧ rd (permL ps) (f : Int) ≤ 3 from by obtain ⟨a, b, c, d⟩ := permAt_sm ps HPB.out.1 HPB.out.2; exact rd_four_sm a b c d (f : Int) (by omega) (by omega))
    generalize rd (permL ps) (f : Int) = im at HAT HIM HK2
    have q0 := eq_true HIM.out.1
    have q1 := eq_true (show im < 4 by have := HIM.out.2; omega)
    refine start_ (n := 16) (S := fun w' => w'.cell? (aps.add i) = some (.int .i64 ps) ∧ w'.cell? ⟨gf, 0, none⟩ = some (.int .i64 f0) ∧ w'.cell? (ats.add f0.toNat) = some (.int .i64 tt)) (ds := [15]) #[false, false, false, false, false, false, false, false, false, false, false, false, false, false, false, false] (by kernel_rfl) rfl rfl ⟨hp0, (blk_cell BF.out 0).trans rfl, ht1⟩ (fun hHeld => ?_)
    have HO2 := Aside0.mk (Kd.S_drew HO.out)
    have HM2 := Aside0.mk (Kd.R_drew HM.out)
    have B32 := Aside0.mk (blk_drew B3.out)
    have B62 := Aside0.mk (blk_drew B6.out)
    have B72 := Aside0.mk (blk_drew B7.out)
    have BF2 := Aside0.mk (blk_drew BF.out)
    have HB2 := Aside0.mk (below_drew1 HB.out)
    clear HO HM B3 B6 B7 BF HB
    have HO := HO2
    have HM := HM2
    have B3 := B32
    have B6 := B62
    have B7 := B72
    have BF := BF2
    have HB := HB2
    clear HO2 HM2 B32 B62 B72 BF2 HB2
    replace hp0 : w13.drew.cell? (aps.add i) = some (.int .i64 ps) := hp0
    replace ht1 : w13.drew.cell? (ats.add f0.toNat) = some (.int .i64 tt) := ht1
    generalize w13.drew = w19 at HO HM B3 B6 B7 BF HB hp0 ht1 hHeld ⊢
    refine pure_ (i := 0) (N := some 52) (v := ?_) (a' := ?_) #[true, false, false, false, false, false, false, false, false, false, false, false, false, false, false, false] rfl rfl (by kernel_rfl) (fun _ _ _ h => h) (Or.inl ⟨by rfl, ?_⟩) ?_ ?_
    rotate_left
    next =>
     intro w'
     go_simp
     with_reducible rfl
    rotate_left
    next =>
     simp only [Act.put, yay, yby, ycy, i64_w, i32_w]
     rfl
    refine pure_ (i := 1) (N := some 53) (v := ?_) (a' := ?_) #[true, true, false, false, false, false, false, false, false, false, false, false, false, false, false, false] rfl rfl (by kernel_rfl) (fun _ _ _ h => h) (Or.inl ⟨by rfl, ?_⟩) ?_ ?_
    rotate_left
    next =>
     intro w'
     go_simp
     with_reducible rfl
    rotate_left
    next =>
     simp only [Act.put, yay, yby, ycy, i64_w, i32_w]
     rfl
    refine pure_ (i := 2) (N := some 54) (v := ?_) (a' := ?_) #[true, true, true, false, false, false, false, false, false, false, false, false, false, false, false, false] rfl rfl (by kernel_rfl) (fun _ _ _ h => h) (Or.inl ⟨by rfl, ?_⟩) ?_ ?_
    rotate_left
    next =>
     intro w'
     go_simp
     with_reducible rfl
    rotate_left
    next =>
     simp only [Act.put, yay, yby, ycy, i64_w, i32_w]
     rfl
    refine pure_ (i := 3) (N := some 55) (v := ?_) (a' := ?_) #[true, true, true, true, false, false, false, false, false, false, false, false, false, false, false, false] rfl rfl (by kernel_rfl) (fun _ _ _ h => h) (Or.inl ⟨by rfl, ?_⟩) ?_ ?_
    rotate_left
    next =>
     intro w'
     go_simp
     with_reducible rfl
    rotate_left
    next =>
     simp only [Act.put, yay, yby, ycy, i64_w, i32_w]
     rfl
    refine take_ (i := 4) (N := some 56) (v := ?_) (a' := ?_) #[true, true, true, true, true, false, false, false, false, false, false, false, false, false, false, false] rfl rfl (by kernel_rfl) (fun _ _ _ h => h) (Or.inl ⟨by rfl, ?_⟩) hHeld ?_ ?_
    rotate_left
    next =>
     rintro w' ⟨s0, s1, s2⟩
     go_simp
     with_reducible rfl
    rotate_left
    next =>
     simp only [Act.put, yay, yby, ycy, i64_w, i32_w]
     rfl
    refine pure_ (i := 5) (N := some 57) (v := ?_) (a' := ?_) #[true, true, true, true, true, true, false, false, false, false, false, false, false, false, false, false] rfl rfl (by kernel_rfl) (fun _ _ _ h => h) (Or.inl ⟨by rfl, ?_⟩) ?_ ?_
    rotate_left
    next =>
     intro w'
     go_simp
     with_reducible rfl
    rotate_left
    next =>
     simp only [Act.put, yay, yby, ycy, i64_w, i32_w]
     rfl
    refine pure_ (i := 7) (N := some 59) (v := ?_) (a' := ?_) #[true, true, true, true, true, true, false, true, false, false, false, false, false, false, false, false] rfl rfl (by kernel_rfl) (fun _ _ _ h => h) (Or.inl ⟨by rfl, ?_⟩) ?_ ?_
    rotate_left
    next =>
     intro w'
     go_simp
     with_reducible rfl
    rotate_left
    next =>
     simp only [Act.put, yay, yby, ycy, i64_w, i32_w]
     rfl
    refine pure_ (i := 8) (N := some 60) (v := ?_) (a' := ?_) #[true, true, true, true, true, true, false, true, true, false, false, false, false, false, false, false] rfl rfl (by kernel_rfl) (fun _ _ _ h => h) (Or.inl ⟨by rfl, ?_⟩) ?_ ?_
    rotate_left
    next =>
     intro w'
     go_simp
     with_reducible rfl
    rotate_left
    next =>
     simp only [Act.put, yay, yby, ycy, i64_w, i32_w]
     rfl
    refine take_ (i := 9) (N := some 61) (v := ?_) (a' := ?_) #[true, true, true, true, true, true, false, true, true, true, false, false, false, false, false, false] rfl rfl (by kernel_rfl) (fun _ _ _ h => h) (Or.inl ⟨by rfl, ?_⟩) hHeld ?_ ?_
    rotate_left
    next =>
     rintro w' ⟨s0, s1, s2⟩
     go_simp
     with_reducible rfl
    rotate_left
    next =>
     simp only [Act.put, yay, yby, ycy, i64_w, i32_w]
     rfl
    refine pure_ (i := 10) (N := some 62) (v := ?_) (a' := ?_) #[true, true, true, true, true, true, false, true, true, true, true, false, false, false, false, false] rfl rfl (by kernel_rfl) (fun _ _ _ h => h) (Or.inl ⟨by rfl, ?_⟩) ?_ ?_
    rotate_left
    next =>
     intro w'
     go_simp
     with_reducible rfl
    rotate_left
    next =>
     simp only [Act.put, yay, yby, ycy, i64_w, i32_w]
     rfl
    refine take_ (i := 11) (N := some 63) (v := ?_) (a' := ?_) #[true, true, true, true, true, true, false, true, true, true, true, true, false, false, false, false] rfl rfl (by kernel_rfl) (fun _ _ _ h => h) (Or.inl ⟨by rfl, ?_⟩) hHeld ?_ ?_
    rotate_left
    next =>
     rintro w' ⟨s0, s1, s2⟩
     go_simp
     with_reducible rfl
    rotate_left
    next =>
     simp only [Act.put, yay, yby, ycy, i64_w, i32_w]
     rfl
    refine pure_ (i := 12) (N := some 64) (v := ?_) (a' := ?_) #[true, true, true, true, true, true, false, true, true, true, true, true, true, false, false, false] rfl rfl (by kernel_rfl) (fun _ _ _ h => h) (Or.inl ⟨by rfl, ?_⟩) ?_ ?_
    rotate_left
    next =>
     intro w'
     go_simp
     with_reducible rfl
    rotate_left
    next =>
     simp only [Act.put, yay, yby, ycy, i64_w, i32_w]
     rfl
    refine pure_ (i := 13) (N := some 65) (v := ?_) (a' := ?_) #[true, true, true, true, true, true, false, true, true, true, true, true, true, true, false, false] rfl rfl (by kernel_rfl) (fun _ _ _ h => h) (Or.inl ⟨by rfl, ?_⟩) ?_ ?_
    rotate_left
    next =>
     intro w'
     go_simp
     with_reducible rfl
    rotate_left
    next =>
     simp only [Act.put, yay, yby, ycy, i64_w, i32_w]
     rfl
    refine one_ (i := 6) (N := some 58) #[true, true, true, true, true, true, true, true, true, true, true, true, true, true, false, false] rfl rfl (by kernel_rfl) (by decide) (fun K hK => ?_)
    refine goes_ Try.func68 (by kernel_rfl) rfl #[.int .i64 ps, .int .i64 (f : Int)] (by rfl) rfl rfl (by (try simp only [yiy, yjy, yky]); first | done | rfl) ?_
    refine (spec_l06At.calls k ps (f : Int) im _ HAT.out).mono ?_
    rintro e w14 ⟨rfl, hb⟩
    refine ⟨_, rfl, ?_⟩
    replace hp0 := (hb.cell (yny _ _ hp0)).trans hp0
    replace ht1 := (hb.cell (yny _ _ ht1)).trans ht1
    have HO2 := Aside0.mk (Kd.S_below HO.out hb)
    have HM2 := Aside0.mk (Kd.R_below HM.out hb)
    have B32 := Aside0.mk (blk_below B3.out hb)
    have B62 := Aside0.mk (blk_below B6.out hb)
    have B72 := Aside0.mk (blk_below B7.out hb)
    have BF2 := Aside0.mk (blk_below BF.out hb)
    have HB2 := Aside0.mk (below_step HB.out hb)
    clear HO HM B3 B6 B7 BF HB
    have HO := HO2
    have HM := HM2
    have B3 := B32
    have B6 := B62
    have B7 := B72
    have BF := BF2
    have HB := HB2
    clear HO2 HM2 B32 B62 B72 BF2 HB2
    clear hb
    refine hK.out _ _ ⟨hp0, (blk_cell BF.out 0).trans rfl, ht1⟩ (fun hHeld => ?_)
    clear hK K
    refine norm_ (a' := ?_) ?_ ?_
    rotate_left
    next =>
     show Act.put _ (some 58) _ = _
     simp only [Act.put, yay, yby, ycy, i64_w, i32_w]
     rfl
    refine pure_ (i := 14) (N := some 66) (v := ?_) (a' := ?_) #[true, true, true, true, true, true, true, true, true, true, true, true, true, true, true, false] rfl rfl (by kernel_rfl) (fun _ _ _ h => h) (Or.inl ⟨by rfl, ?_⟩) ?_ ?_
    rotate_left
    next =>
     intro w'
     go_simp
     with_reducible rfl
    rotate_left
    next =>
     simp only [Act.put, yay, yby, ycy, i64_w, i32_w]
     rfl
    obtain ⟨⟨u1_, hx0⟩, ⟨u2_, hx1⟩, hz0, hz1, hMS, hgr⟩ := face_put HM.out im HIM.out.1 (by have := HIM.out.2; omega) ⟨tt, pp⟩
    refine last_ (i := 15) (N := none) #[true, true, true, true, true, true, true, true, true, true, true, true, true, true, true, true] rfl rfl (by kernel_rfl) (by decide) (fun K hK => ?_)
    refine skip_ (w1 := ?_) (by rfl) rfl ?_ ?_
    rotate_left
    next =>
     go_simp
     rfl
    refine hK.out _ _ ?_
    clear hK K
    refine done_ (by kernel_rfl) ?_
    have HM2 := Aside0.mk hMS
    have HO2 := Aside0.mk (Kd.S_grown HO.out hgr (fun k hk => hk))
    have B32 := Aside0.mk (blk_grown B3.out hgr (Kd.R_ne HM.out B3.out (by decide)))
    have B62 := Aside0.mk (blk_grown B6.out hgr (Kd.R_ne HM.out B6.out (by decide)))
    have B72 := Aside0.mk (blk_grown B7.out hgr (Kd.R_ne HM.out B7.out (by decide)))
    have HB2 := Aside0.mk (below_set (j := im.toNat * 2 + 1) (v := .int .i64 pp) (below_set (j := im.toNat * 2) (v := .int .i64 tt) HB.out GM.out) GM.out)
    clear hMS hgr hx0 hx1 hz0 hz1
    clear HM HO B3 B6 B7 HB
    have HM := HM2
    have HO := HO2
    have B3 := B32
    have B6 := B62
    have B7 := B72
    have HB := HB2
    clear HM2 HO2 B32 B62 B72 HB2
    generalize (w14.setCell ⟨gm, im.toNat * 2, none⟩ (.int .i64 tt)).setCell ⟨gm, im.toNat * 2 + 1, none⟩ (.int .i64 pp) = w15 at HO HM B3 B6 B7 HB ⊢
    go_wp2
    go_roundg (4 - (f + 1))
    case measure => omega
    case rel => exact ⟨f + 1, by omega, by omega, by go_num, ⟨by rw [HK2.out]; exact HM.out⟩, HO, B3, B6, B7, HB⟩
end Go.Proofs.Ytdgdnnjigigkcaa.P
