/- The statement FnExactReversesOrientationSaid, proved: part 6 of 8 (texts of this session and of the kit's print, put together and cut to what is used by a program of it). -/
import Derived.Test.YtembbpalgfikiaaMFnExactReversesOrientation5
namespace Go.Proofs.Ytembbpalgfikiaa.P
open Go.RowKit Go.Proofs.YtembbpalgfikiaaW.PrintWords Go.Proofs.YtembbpalgfikiaaW.PrintLast Go.Proofs.YtembbpalgfikiaaW.PrintMore
attribute [local go_sem] max2_int min2_int max_two min_two max_three min_three max_four min_four   -- for this text's walks alone
set_option linter.unusedVariables false
set_option linter.unusedSimpArgs false
/-! ### spec_ReversesOrientation: function 38 -/
mutual
def spec_ReversesOrientation.l0 : Nat → List (List Int) → Int → List (List (SFace)) → Option (Bool × Int)
 | 0, _, _, _ => none
 | k + 1, x1, x6, x102000 => if x6 < (x1.length : Int) then (if 0 ≤ x6 then (if ((rd_LInt x1 x6).length : Int) = 2 then (if 0 < ((rd_LInt x1 x6).length : Int) then ((spec_l07Tets.f x102000).bind fun t106 => ((spec_l07In.f (rd (rd_LInt x1 x6) 0) 0 (wrap64 (t106 - 1))).bind fun t107 => (if t107 = true then (if 1 < ((rd_LInt x1 x6).length : Int) then ((spec_l07In.f (rd (rd_LInt x1 x6) 1) 0 3).bind fun t110 => (if t110 = true then (spec_ReversesOrientation.l0 k x1 (wrap64 (x6 + 1)) x102000) else (some (false, 2)))) else (none)) else (some (false, 2))))) else (none)) else (some (false, 2))) else (none)) else (spec_ReversesOrientation.l1 k x1 false 0 x102000)
def spec_ReversesOrientation.l1 : Nat → List (List Int) → Bool → Int → List (List (SFace)) → Option (Bool × Int)
 | 0, _, _, _, _ => none
 | k + 1, x1, x7, x8, x102000 => if x8 < (x1.length : Int) then (if 0 ≤ x8 then (if 0 < ((rd_LInt x1 x8).length : Int) then (if 0 ≤ (rd (rd_LInt x1 x8) 0) then (if (rd (rd_LInt x1 x8) 0) < (x102000.length : Int) then (if 1 < ((rd_LInt x1 x8).length : Int) then (if 0 ≤ (rd (rd_LInt x1 x8) 1) then (if (rd (rd_LInt x1 x8) 1) < ((rd_LFace x102000 (rd (rd_LInt x1 x8) 0)).length : Int) then (if ((rd_Face (rd_LFace x102000 (rd (rd_LInt x1 x8) 0)) (rd (rd_LInt x1 x8) 1)).f0) < 0 then (spec_ReversesOrientation.j2 k x1 x7 x8 true x102000 ((rd_Face (rd_LFace x102000 (rd (rd_LInt x1 x8) 0)) (rd (rd_LInt x1 x8) 1)).f0) ((rd_Face (rd_LFace x102000 (rd (rd_LInt x1 x8) 0)) (rd (rd_LInt x1 x8) 1)).f1)) else (if (x1.length : Int) = 0 then (none) else (if 0 ≤ (Int.tmod (wrap64 (x8 + 1)) (x1.length : Int)) then (if (Int.tmod (wrap64 (x8 + 1)) (x1.length : Int)) < (x1.length : Int) then (if 0 < ((rd_LInt x1 (Int.tmod (wrap64 (x8 + 1)) (x1.length : Int))).length : Int) then (spec_ReversesOrientation.j2 k x1 x7 x8 (((rd_Face (rd_LFace x102000 (rd (rd_LInt x1 x8) 0)) (rd (rd_LInt x1 x8) 1)).f0) != (rd (rd_LInt x1 (Int.tmod (wrap64 (x8 + 1)) (x1.length : Int))) 0)) x102000 ((rd_Face (rd_LFace x102000 (rd (rd_LInt x1 x8) 0)) (rd (rd_LInt x1 x8) 1)).f0) ((rd_Face (rd_LFace x102000 (rd (rd_LInt x1 x8) 0)) (rd (rd_LInt x1 x8) 1)).f1)) else (none)) else (none)) else (none)))) else (none)) else (none)) else (none)) else (none)) else (none)) else (none)) else (none)) else (if (x1.length : Int) = 0 then (some (false, 5)) else (some (x7, 0)))
def spec_ReversesOrientation.j2 : Nat → List (List Int) → Bool → Int → Bool → List (List (SFace)) → Int → Int → Option (Bool × Int)
 | 0, _, _, _, _, _, _, _ => none
 | k + 1, x1, x7, x8, x92, x102000, x118000, x118001 => if x92 = true then (some (false, 5)) else ((spec_SignPerm4.f k x118001).bind fun t120 => (if t120 = 1 then (spec_ReversesOrientation.l1 k x1 (!x7) (wrap64 (x8 + 1)) x102000) else (spec_ReversesOrientation.l1 k x1 x7 (wrap64 (x8 + 1)) x102000)))
end
def spec_ReversesOrientation.f (k : Nat) (l0_0 : List (List (SFace))) (l1 : List (List Int)) : Option (Bool × Int) := (spec_IsTriangulation.f k l0_0).bind fun t102 => (if t102 = true then (if (l1.length : Int) > 16 then (some (false, 2)) else (spec_ReversesOrientation.l0 k l1 0 l0_0)) else (some (false, 1)))
def spec_ReversesOrientation.T8 : Bool × List (List Nat × List Nat) := (true, [([], []), ([], []), ([0, 1], [0, 1]), ([2], [2]), ([3], [3]), ([4], [4]), ([5], [5]), ([6], [6]), ([6], [6]), ([7, 8, 6], [6, 7, 8]), ([9, 6], [6, 9]), ([10, 6], [6, 10]), ([11, 6], [6, 11]), ([6], [6]), ([13, 6, 6], [6, 13]), ([14, 6], [6, 14]), ([12, 15, 14, 6], [6, 12, 15]), ([16, 6], [6, 16]), ([6, 17], [6, 17]), ([18, 16], [18]), ([19], [19]), ([19], [19]), ([20, 21, 19], [19, 20, 21]), ([22, 19], [19, 22]), ([23, 19], [19, 23]), ([24, 19], [19, 24]), ([25, 19, 19], [19, 25]), ([26, 19], [19, 26]), ([19, 27], [19, 27])])
def spec_ReversesOrientation.B8 : List Nat := [0, 0, 3, 7, 15, 31, 63, 127, 127, 511, 1023, 2047, 4095, 127, 8319, 24703, 65535, 131071, 262143, 524287, 1048575, 1048575, 4194303, 8388607, 16777215, 33554431, 67108863, 134217727, 268435455]
theorem spec_ReversesOrientation.tab8 : rtab .any (opsOf Try.f38 8) = spec_ReversesOrientation.T8 := by kernel_rfl
theorem spec_ReversesOrientation.bits8 : waitsOk spec_ReversesOrientation.T8.2 spec_ReversesOrientation.B8 = true := by kernel_rfl
def spec_ReversesOrientation.T14 : Bool × List (List Nat × List Nat) := (true, [([], []), ([0], [0]), ([], []), ([], []), ([2, 3], [2, 3]), ([4], [4]), ([5], [5]), ([6], [6]), ([1, 7], [1, 7]), ([8], [8]), ([], []), ([], []), ([10, 11], [10, 11]), ([12], [12]), ([13], [13]), ([14], [14]), ([9, 15], [9, 15]), ([16], [16]), ([], []), ([18, 17, 0, 1, 2, 3, 4, 5, 6, 7, 8, 9, 10, 11, 12, 13, 14, 15, 16, 17, 18], [17, 18])])
def spec_ReversesOrientation.B14 : List Nat := [0, 1, 0, 0, 12, 28, 60, 124, 255, 511, 0, 0, 3072, 7168, 15360, 31744, 65535, 131071, 0, 524287]
theorem spec_ReversesOrientation.tab14 : rtab .any (opsOf Try.f38 14) = spec_ReversesOrientation.T14 := by kernel_rfl
theorem spec_ReversesOrientation.bits14 : waitsOk spec_ReversesOrientation.T14.2 spec_ReversesOrientation.B14 = true := by kernel_rfl
set_option maxHeartbeats 8000000 in
set_option maxRecDepth 100000 in
theorem spec_ReversesOrientation.calls (k : Nat) (A0_0 : Option Addr) (c0_0 : Nat) (l0_0 : List (List (SFace))) (A1 : Option Addr) (c1 : Nat) (l1 : List (List Int)) (r1 : Bool) (r2 : Int) (w : World) (hr0_0 : Kd.C (Kd.slice 75 kFace) w A0_0 l0_0.length l0_0) (hc0_0 : l0_0.length ≤ c0_0) (hr1 : Kd.C (Kd.slice 2 (Kd.int .i64)) w A1 l1.length l1) (hc1 : l1.length ≤ c1) (h : spec_ReversesOrientation.f k l0_0 l1 = some (r1, r2)) :
 Calls Try.prog 38 #[.agg #[.slice A0_0 l0_0.length c0_0], .slice A1 l1.length c1] w fun e w' => e = .returned (.tuple #[.bool r1, .int .i64 r2]) ∧ Below w.heap.size w w' := by
 have hu35 := Try.underlying35
 have hu75 := Try.underlying75
 have HR0_0 := Aside0.mk hr0_0
 have HC0_0 := Aside0.mk hc0_0
 clear hr0_0 hc0_0
 have HR1 := Aside0.mk hr1
 have HC1 := Aside0.mk hc1
 clear hr1 hc1
 have HB := Aside0.mk (Below.refl w.heap.size w)
 have H : ((spec_IsTriangulation.f k l0_0).bind fun t102 => (if t102 = true then (if (l1.length : Int) > 16 then (some (false, 2)) else (spec_ReversesOrientation.l0 k l1 0 l0_0)) else (some (false, 1)))) = some (r1, r2) := h
 clear h
 replace H := ydy.mp H
 obtain ⟨t102, A30, H⟩ := H
 replace H : (if t102 = true then (if (l1.length : Int) > 16 then (some (false, 2)) else (spec_ReversesOrientation.l0 k l1 0 l0_0)) else (some (false, 1))) = some (r1, r2) := H
 have A3 := Aside0.mk A30
 clear A30
 by_cases c4 : t102 = true
 rotate_left
 next =>
  replace c4 := Bool.eq_false_iff.mpr c4
  subst c4
  have H1 : (some (false, 1)) = some (r1, r2) := by rw [if_neg (show ¬ (false = true) by decide)] at H; exact H
  clear H
  have H := H1
  clear H1
  simp only [Option.some.injEq, Prod.mk.injEq] at H
  obtain ⟨rfl, rfl⟩ := H
  go_enter Try.func38, Try.ntmps38
  go_wp2_with (first | ((with_reducible refine gate_dst (N := 2) rfl ?_); (try (refine gate_guard (by rfl) ?_; dsimp only)); refine box_event ?hg (N := 2) ?hd (cs := #[.slice A0_0 l0_0.length c0_0]) (t := 35) ?hr ?_; (case hd => rfl); (case hg => rfl); (case hr => first | (go_simp; done) | (go_simp; rfl)); intro gb101 hg w62 hbox hb; have n0_ := Aside0.mk (below_step (by repeat (first | (with_reducible first | exact HB.out | apply below_alloc | apply pw_below_drewN | apply below_drew1) | exact HB.out)) hb); have n1_ := Aside0.mk (hbox); have n2_ := Aside0.mk ((by rw [hg]; exact (below_size (by repeat (first | (with_reducible first | exact HB.out | apply below_alloc | apply pw_below_drewN | apply below_drew1) | exact HB.out))) : w.heap.size ≤ gb101)); have n3_ := Aside0.mk ((by rw [hg]; exact (below_size (by repeat (first | (with_reducible first | exact HB.out | apply below_alloc | apply pw_below_drewN | apply below_drew1) | exact HB.out))) : w.heap.size ≤ gb101)); clear HB; have HB := n0_; have BK101 := n1_; have GW101 := n2_; have GE101 := n3_; clear n0_ n1_ n2_ n3_; clear hb hbox hg; have hcz63_0 : w62.cell? ⟨gb101, 0, none⟩ = some (.slice A0_0 l0_0.length c0_0) := (blk_cell BK101.out 0).trans rfl; have hfz63_0 := blk_frozen BK101.out 0) | ((with_reducible refine gate_callee (f := 47) rfl ?_); refine goesL_ (some 11) rfl rfl Try.func47 (by kernel_rfl) rfl #[.agg #[.slice A0_0 l0_0.length c0_0]] rfl (by (try simp only [yiy, yjy, yky]); first | done | rfl | (simp only [yly, ymy]; rfl)) ?_; (with_reducible refine (spec_IsTriangulation.calls k _ _ l0_0 false _ ?side1 ?side2 A3.out).mono ?_); (case side1 => repeat (first | exact (Kd.C_below HR0_0.out HB.out) | (with_reducible refine Kd.C_alloc ?_ _) | (with_reducible refine Kd.C_drewN ?_ _) | (with_reducible refine Kd.C_drew ?_))); (case side2 => exact HC0_0.out); rintro e w64 ⟨rfl, hb⟩; refine ⟨_, rfl, ?_⟩; have n0_ := Aside0.mk (blk_below (g := gb101) (o := .cells #[.slice A0_0 l0_0.length c0_0] 35 (0, 0)) (by (with_reducible repeat (first | refine blk_drewN ?_ _ | refine blk_drew ?_ | refine blk_alloc ?_ _)); exact BK101.out) hb); have n1_ := Aside0.mk (below_step (by repeat (first | (with_reducible first | exact HB.out | apply below_alloc | apply pw_below_drewN | apply below_drew1 | refine below_set ?_ GE101.out) | exact HB.out)) hb); clear BK101; clear HB; have BK101 := n0_; have HB := n1_; clear n0_ n1_; (try clear hb); (try clear hb2); (try clear hk); (try clear hi)))
  go_ret2
  exact ⟨by first | rfl | (simp [errW_none, errW_some] <;> rfl) | (simp [*, errW_none, errW_some] <;> rfl), by repeat (first | (with_reducible first | exact HB.out | apply below_alloc | apply pw_below_drewN | apply below_drew1 | refine below_set ?_ GE101.out) | exact HB.out)⟩
 subst c4
 have H1 : (if (l1.length : Int) > 16 then (some (false, 2)) else (spec_ReversesOrientation.l0 k l1 0 l0_0)) = some (r1, r2) := by rw [if_pos rfl] at H; exact H
 clear H
 have H := H1
 clear H1
 by_cases c5 : (l1.length : Int) > 16
 next =>
  rw [if_pos c5] at H
  have c5b0 : decide (16 < (l1.length : Int)) = true := ygy c5
  have c5b1 : decide (16 < l1.length) = true := ygy (by omega)
  clear c5
  simp only [Option.some.injEq, Prod.mk.injEq] at H
  obtain ⟨rfl, rfl⟩ := H
  go_enter Try.func38, Try.ntmps38
  go_wp2_with (first | ((with_reducible refine gate_dst (N := 2) rfl ?_); (try (refine gate_guard (by rfl) ?_; dsimp only)); refine box_event ?hg (N := 2) ?hd (cs := #[.slice A0_0 l0_0.length c0_0]) (t := 35) ?hr ?_; (case hd => rfl); (case hg => rfl); (case hr => first | (go_simp; done) | (go_simp; rfl)); intro gb101 hg w6 hbox hb; have n0_ := Aside0.mk (below_step (by repeat (first | (with_reducible first | exact HB.out | apply below_alloc | apply pw_below_drewN | apply below_drew1) | exact HB.out)) hb); have n1_ := Aside0.mk (hbox); have n2_ := Aside0.mk ((by rw [hg]; exact (below_size (by repeat (first | (with_reducible first | exact HB.out | apply below_alloc | apply pw_below_drewN | apply below_drew1) | exact HB.out))) : w.heap.size ≤ gb101)); have n3_ := Aside0.mk ((by rw [hg]; exact (below_size (by repeat (first | (with_reducible first | exact HB.out | apply below_alloc | apply pw_below_drewN | apply below_drew1) | exact HB.out))) : w.heap.size ≤ gb101)); clear HB; have HB := n0_; have BK101 := n1_; have GW101 := n2_; have GE101 := n3_; clear n0_ n1_ n2_ n3_; clear hb hbox hg; have hcz7_0 : w6.cell? ⟨gb101, 0, none⟩ = some (.slice A0_0 l0_0.length c0_0) := (blk_cell BK101.out 0).trans rfl; have hfz7_0 := blk_frozen BK101.out 0) | ((with_reducible refine gate_callee (f := 47) rfl ?_); refine goesL_ (some 11) rfl rfl Try.func47 (by kernel_rfl) rfl #[.agg #[.slice A0_0 l0_0.length c0_0]] rfl (by (try simp only [yiy, yjy, yky]); first | done | rfl | (simp only [yly, ymy]; rfl)) ?_; (with_reducible refine (spec_IsTriangulation.calls k _ _ l0_0 true _ ?side1 ?side2 A3.out).mono ?_); (case side1 => repeat (first | exact (Kd.C_below HR0_0.out HB.out) | (with_reducible refine Kd.C_alloc ?_ _) | (with_reducible refine Kd.C_drewN ?_ _) | (with_reducible refine Kd.C_drew ?_))); (case side2 => exact HC0_0.out); rintro e w8 ⟨rfl, hb⟩; refine ⟨_, rfl, ?_⟩; have n0_ := Aside0.mk (blk_below (g := gb101) (o := .cells #[.slice A0_0 l0_0.length c0_0] 35 (0, 0)) (by (with_reducible repeat (first | refine blk_drewN ?_ _ | refine blk_drew ?_ | refine blk_alloc ?_ _)); exact BK101.out) hb); have n1_ := Aside0.mk (below_step (by repeat (first | (with_reducible first | exact HB.out | apply below_alloc | apply pw_below_drewN | apply below_drew1 | refine below_set ?_ GE101.out) | exact HB.out)) hb); clear BK101; clear HB; have BK101 := n0_; have HB := n1_; clear n0_ n1_; (try clear hb); (try clear hb2); (try clear hk); (try clear hi)))
  go_ret2
  exact ⟨by first | rfl | (simp [errW_none, errW_some] <;> rfl) | (simp [*, errW_none, errW_some] <;> rfl), by repeat (first | (with_reducible first | exact HB.out | apply below_alloc | apply pw_below_drewN | apply below_drew1 | refine below_set ?_ GE101.out) | exact HB.out)⟩
 next =>
  rw [if_neg c5] at H
  have c5b0 : decide (16 < (l1.length : Int)) = false := yhy c5
  have c5b1 : decide (16 < l1.length) = false := yhy (by omega)
  clear c5
  have H' := Aside0.mk H
  clear H
  go_enter Try.func38, Try.ntmps38
  go_wp2_with (first | ((with_reducible refine gate_dst (N := 2) rfl ?_); (try (refine gate_guard (by rfl) ?_; dsimp only)); refine box_event ?hg (N := 2) ?hd (cs := #[.slice A0_0 l0_0.length c0_0]) (t := 35) ?hr ?_; (case hd => rfl); (case hg => rfl); (case hr => first | (go_simp; done) | (go_simp; rfl)); intro gb101 hg w9 hbox hb; have n0_ := Aside0.mk (below_step (by repeat (first | (with_reducible first | exact HB.out | apply below_alloc | apply pw_below_drewN | apply below_drew1) | exact HB.out)) hb); have n1_ := Aside0.mk (hbox); have n2_ := Aside0.mk ((by rw [hg]; exact (below_size (by repeat (first | (with_reducible first | exact HB.out | apply below_alloc | apply pw_below_drewN | apply below_drew1) | exact HB.out))) : w.heap.size ≤ gb101)); have n3_ := Aside0.mk ((by rw [hg]; exact (below_size (by repeat (first | (with_reducible first | exact HB.out | apply below_alloc | apply pw_below_drewN | apply below_drew1) | exact HB.out))) : w.heap.size ≤ gb101)); clear HB; have HB := n0_; have BK101 := n1_; have GW101 := n2_; have GE101 := n3_; clear n0_ n1_ n2_ n3_; clear hb hbox hg; have hcz10_0 : w9.cell? ⟨gb101, 0, none⟩ = some (.slice A0_0 l0_0.length c0_0) := (blk_cell BK101.out 0).trans rfl; have hfz10_0 := blk_frozen BK101.out 0) | ((with_reducible refine gate_callee (f := 47) rfl ?_); refine goesL_ (some 11) rfl rfl Try.func47 (by kernel_rfl) rfl #[.agg #[.slice A0_0 l0_0.length c0_0]] rfl (by (try simp only [yiy, yjy, yky]); first | done | rfl | (simp only [yly, ymy]; rfl)) ?_; (with_reducible refine (spec_IsTriangulation.calls k _ _ l0_0 true _ ?side1 ?side2 A3.out).mono ?_); (case side1 => repeat (first | exact (Kd.C_below HR0_0.out HB.out) | (with_reducible refine Kd.C_alloc ?_ _) | (with_reducible refine Kd.C_drewN ?_ _) | (with_reducible refine Kd.C_drew ?_))); (case side2 => exact HC0_0.out); rintro e w11 ⟨rfl, hb⟩; refine ⟨_, rfl, ?_⟩; have n0_ := Aside0.mk (blk_below (g := gb101) (o := .cells #[.slice A0_0 l0_0.length c0_0] 35 (0, 0)) (by (with_reducible repeat (first | refine blk_drewN ?_ _ | refine blk_drew ?_ | refine blk_alloc ?_ _)); exact BK101.out) hb); have n1_ := Aside0.mk (below_step (by repeat (first | (with_reducible first | exact HB.out | apply below_alloc | apply pw_below_drewN | apply below_drew1 | refine below_set ?_ GE101.out) | exact HB.out)) hb); clear BK101; clear HB; have BK101 := n0_; have HB := n1_; clear n0_ n1_; (try clear hb); (try clear hb2); (try clear hk); (try clear hi)))
  go_loopg [6] k (fun kq v6 w' => ∃ (x6_1 : Int), v6 = .int .i64 x6_1 ∧ Aside0 (spec_ReversesOrientation.l0 kq l1 x6_1 l0_0 = some (r1, r2)) ∧ Aside0 (kq ≤ k) ∧ Aside0 (w'.heap[gb101]? = some (.cells #[(.slice A0_0 l0_0.length c0_0)] 35 (0, 0))) ∧ Aside0 (Below w.heap.size w w'))
  case atStart => exact ⟨(0), (by first | rfl | (simp; done) | (simp [*]; done)), H', ⟨yoy _⟩, ⟨by (with_reducible repeat (first | refine blk_drewN ?_ _ | refine blk_drew ?_ | refine blk_alloc ?_ _)); exact BK101.out⟩, ⟨by repeat (first | (with_reducible first | exact HB.out | apply below_alloc | apply pw_below_drewN | apply below_drew1 | refine below_set ?_ GE101.out) | exact HB.out)⟩⟩
  case round =>
   clear H'
   try clear c1
   try clear p2
   try clear c3
   try clear c4
   try clear c5
   try clear c5b0
   try clear c5b1
   try clear hcz10_0
   try clear hcz7_0
   try clear hfz10_0
   try clear hfz7_0
   obtain ⟨x6_1, rfl, HA, HK1, BK101, HB⟩ := hrel
   cases gk with
   | zero => exact absurd HA.out (by simp [spec_ReversesOrientation.l0])
   | succ k1 =>
    have H := HA.out
    clear HA
    simp only [spec_ReversesOrientation.l0] at H
    by_cases c12 : x6_1 < (l1.length : Int)
    next =>
     rw [if_pos c12] at H
     have c12b0 : decide (x6_1 < (l1.length : Int)) = true := ygy c12
     clear c12
     by_cases c13 : 0 ≤ x6_1
     rotate_left
     next =>
      rw [if_neg c13] at H
      exact absurd H (by simp)
     rw [if_pos c13] at H
     have c13b0 : decide (0 ≤ x6_1) = true := ygy c13
     clear c13
     by_cases c14 : ((rd_LInt l1 x6_1).length : Int) = 2
     rotate_left
     next =>
      rw [if_neg c14] at H
      have c14b0 : (((rd_LInt l1 x6_1).length : Int) == 2) = false := beq_eq_false_iff_ne.mpr c14
      have c14b1 : (((rd_LInt l1 x6_1).length : Int) != 2) = true := bne_iff_ne.mpr c14
      simp only [Option.some.injEq, Prod.mk.injEq] at H
      obtain ⟨rfl, rfl⟩ := H
      try go_wp2
      have n0_ := Aside0.mk (blk_drew BK101.out)
      have n1_ := Aside0.mk (below_drew1 HB.out)
      clear BK101
      clear HB
      have BK101 := n0_
      have HB := n1_
      clear n0_ n1_
      have p103 : 0 ≤ (x6_1 : Int) := of_decide_eq_true (by first | (with_reducible assumption) | assumption)
      have q103 : x6_1 < (l1.length : Int) := of_decide_eq_true (by first | (with_reducible assumption) | assumption)
      obtain ⟨ad103, A103_0, c103_0, e103, hx103_0, hl103_0, hi103_0⟩ := at_LInt HR1.out x6_1 p103 q103
      have hw103_0 := hx103_0
      cases e103
      replace hx103_0 := (HB.out.cell (yny w _ hx103_0)).trans hx103_0
      have HR103_0 := Aside0.mk hi103_0
      have HC103_0 := Aside0.mk hl103_0
      clear hi103_0 hl103_0
      replace p103 := eq_true p103
      replace q103 := eq_true q103
      refine start_ (n := 29) (S := fun w' => w'.cell? (ad103.add (x6_1).toNat) = some (.slice A103_0 (rd_LInt l1 x6_1).length c103_0)) (ds := []) #[false, false, false, false, false, false, false, false, false, false, false, false, false, false, false, false, false, false, false, false, false, false, false, false, false, false, false, false, false] (by kernel_rfl) rfl rfl (((HB.out.cell (yny w _ hw103_0)).trans hw103_0)) (fun hHeld => ?_); refine with_tabW spec_ReversesOrientation.tab8 spec_ReversesOrientation.bits8 (fun HT_ HW_ => ?_)
      generalize wr.drew = w28 at BK101 HB HR103_0 hx103_0 hHeld ⊢
      refine pure_ (i := 0) (N := some 22) (v := ?_) (a' := ?_) #[true, false, false, false, false, false, false, false, false, false, false, false, false, false, false, false, false, false, false, false, false, false, false, false, false, false, false, false, false] rfl rfl (any_of HT_.out (by kernel_rfl)) (fun _ _ _ h => h) (Or.inl ⟨by rfl, ?_⟩) ?_ ?_
      rotate_left
      next =>
       intro w'
       go_simp
       with_reducible rfl
      rotate_left
      next =>
       simp only [Act.put, yay, yby, ycy, i64_w, i32_w]
       rfl
      refine pure_ (i := 1) (N := some 23) (v := ?_) (a' := ?_) #[true, true, false, false, false, false, false, false, false, false, false, false, false, false, false, false, false, false, false, false, false, false, false, false, false, false, false, false, false] rfl rfl (any_of HT_.out (by kernel_rfl)) (fun _ _ _ h => h) (Or.inl ⟨by rfl, ?_⟩) ?_ ?_
      rotate_left
      next =>
       intro w'
       go_simp
       with_reducible rfl
      rotate_left
      next =>
       simp only [Act.put, yay, yby, ycy, i64_w, i32_w]
       rfl
      refine pure_ (i := 2) (N := some 24) (v := ?_) (a' := ?_) #[true, true, true, false, false, false, false, false, false, false, false, false, false, false, false, false, false, false, false, false, false, false, false, false, false, false, false, false, false] rfl rfl (any_of HT_.out (by kernel_rfl)) (fun _ _ _ h => h) (Or.inl ⟨by rfl, ?_⟩) ?_ ?_
      rotate_left
      next =>
       intro w'
       go_simp
       with_reducible rfl
      rotate_left
      next =>
       simp only [Act.put, yay, yby, ycy, i64_w, i32_w]
       rfl
      refine take_ (i := 3) (N := some 25) (v := ?_) (a' := ?_) #[true, true, true, true, false, false, false, false, false, false, false, false, false, false, false, false, false, false, false, false, false, false, false, false, false, false, false, false, false] rfl rfl (take_ofW HT_.out HW_.out (by kernel_rfl)) (fun _ _ _ h => h) (Or.inl ⟨by rfl, ?_⟩) hHeld ?_ ?_
      rotate_left
      next =>
       intro w' s0
       go_simp
       with_reducible rfl
      rotate_left
      next =>
       simp only [Act.put, yay, yby, ycy, i64_w, i32_w]
       rfl
      refine pure_ (i := 4) (N := some 26) (v := ?_) (a' := ?_) #[true, true, true, true, true, false, false, false, false, false, false, false, false, false, false, false, false, false, false, false, false, false, false, false, false, false, false, false, false] rfl rfl (any_of HT_.out (by kernel_rfl)) (fun _ _ _ h => h) (Or.inl ⟨by rfl, ?_⟩) ?_ ?_
      rotate_left
      next =>
       intro w'
       go_simp
       with_reducible rfl
      rotate_left
      next =>
       simp only [Act.put, yay, yby, ycy, i64_w, i32_w]
       rfl
      refine pure_ (i := 5) (N := some 27) (v := ?_) (a' := ?_) #[true, true, true, true, true, true, false, false, false, false, false, false, false, false, false, false, false, false, false, false, false, false, false, false, false, false, false, false, false] rfl rfl (any_of HT_.out (by kernel_rfl)) (fun _ _ _ h => h) (Or.inl ⟨by rfl, ?_⟩) ?_ ?_
      rotate_left
      next =>
       intro w'
       go_simp
       with_reducible rfl
      rotate_left
      next =>
       simp only [Act.put, yay, yby, ycy, i64_w, i32_w]
       rfl
      refine pure_ (i := 6) (N := some 28) (v := ?_) (a' := ?_) #[true, true, true, true, true, true, true, false, false, false, false, false, false, false, false, false, false, false, false, false, false, false, false, false, false, false, false, false, false] rfl rfl (any_of HT_.out (by kernel_rfl)) (fun _ _ _ h => h) (Or.inl ⟨by rfl, ?_⟩) ?_ ?_
      rotate_left
      next =>
       intro w'
       go_simp
       with_reducible rfl
      rotate_left
      next =>
       simp only [Act.put, yay, yby, ycy, i64_w, i32_w]
       rfl
      refine pure_ (i := 7) (N := some 29) (v := undef) (a' := ?_) #[true, true, true, true, true, true, true, true, false, false, false, false, false, false, false, false, false, false, false, false, false, false, false, false, false, false, false, false, false] rfl rfl (any_of HT_.out (by kernel_rfl)) (fun _ _ _ h => h) (Or.inr ⟨by rfl, rfl⟩) ?_ ?_
      rotate_left
      next =>
       simp only [Act.put, yay, yby, ycy, i64_w, i32_w]
       rfl
      refine pure_ (i := 8) (N := some 30) (v := undef) (a' := ?_) #[true, true, true, true, true, true, true, true, true, false, false, false, false, false, false, false, false, false, false, false, false, false, false, false, false, false, false, false, false] rfl rfl (any_of HT_.out (by kernel_rfl)) (fun _ _ _ h => h) (Or.inr ⟨by rfl, rfl⟩) ?_ ?_
      rotate_left
      next =>
       simp only [Act.put, yay, yby, ycy, i64_w, i32_w]
       rfl
      refine pure_ (i := 9) (N := some 31) (v := undef) (a' := ?_) #[true, true, true, true, true, true, true, true, true, true, false, false, false, false, false, false, false, false, false, false, false, false, false, false, false, false, false, false, false] rfl rfl (any_of HT_.out (by kernel_rfl)) (fun _ _ _ h => h) (Or.inr ⟨by rfl, rfl⟩) ?_ ?_
      rotate_left
      next =>
       simp only [Act.put, yay, yby, ycy, i64_w, i32_w]
       rfl
      refine pure_ (i := 10) (N := some 32) (v := undef) (a' := ?_) #[true, true, true, true, true, true, true, true, true, true, true, false, false, false, false, false, false, false, false, false, false, false, false, false, false, false, false, false, false] rfl rfl (any_of HT_.out (by kernel_rfl)) (fun _ _ _ h => h) (Or.inr ⟨by rfl, rfl⟩) ?_ ?_
      rotate_left
      next =>
       simp only [Act.put, yay, yby, ycy, i64_w, i32_w]
       rfl
      refine pure_ (i := 11) (N := some 33) (v := undef) (a' := ?_) #[true, true, true, true, true, true, true, true, true, true, true, true, false, false, false, false, false, false, false, false, false, false, false, false, false, false, false, false, false] rfl rfl (any_of HT_.out (by kernel_rfl)) (fun _ _ _ h => h) (Or.inr ⟨by rfl, rfl⟩) ?_ ?_
      rotate_left
      next =>
       simp only [Act.put, yay, yby, ycy, i64_w, i32_w]
       rfl
      refine pure_ (i := 12) (N := some 34) (v := undef) (a' := ?_) #[true, true, true, true, true, true, true, true, true, true, true, true, true, false, false, false, false, false, false, false, false, false, false, false, false, false, false, false, false] rfl rfl (any_of HT_.out (by kernel_rfl)) (fun _ _ _ h => h) (Or.inr ⟨by rfl, rfl⟩) ?_ ?_
      rotate_left
      next =>
       simp only [Act.put, yay, yby, ycy, i64_w, i32_w]
       rfl
      refine pure_ (i := 13) (N := some 35) (v := undef) (a' := ?_) #[true, true, true, true, true, true, true, true, true, true, true, true, true, true, false, false, false, false, false, false, false, false, false, false, false, false, false, false, false] rfl rfl (any_of HT_.out (by kernel_rfl)) (fun _ _ _ h => h) (Or.inr ⟨by rfl, rfl⟩) ?_ ?_
      rotate_left
      next =>
       simp only [Act.put, yay, yby, ycy, i64_w, i32_w]
       rfl
      refine pure_ (i := 14) (N := some 36) (v := undef) (a' := ?_) #[true, true, true, true, true, true, true, true, true, true, true, true, true, true, true, false, false, false, false, false, false, false, false, false, false, false, false, false, false] rfl rfl (any_of HT_.out (by kernel_rfl)) (fun _ _ _ h => h) (Or.inr ⟨by rfl, rfl⟩) ?_ ?_
      rotate_left
      next =>
       simp only [Act.put, yay, yby, ycy, i64_w, i32_w]
       rfl
      refine pure_ (i := 15) (N := some 37) (v := undef) (a' := ?_) #[true, true, true, true, true, true, true, true, true, true, true, true, true, true, true, true, false, false, false, false, false, false, false, false, false, false, false, false, false] rfl rfl (any_of HT_.out (by kernel_rfl)) (fun _ _ _ h => h) (Or.inr ⟨by rfl, rfl⟩) ?_ ?_
      rotate_left
      next =>
       simp only [Act.put, yay, yby, ycy, i64_w, i32_w]
       rfl
      refine pure_ (i := 16) (N := some 38) (v := undef) (a' := ?_) #[true, true, true, true, true, true, true, true, true, true, true, true, true, true, true, true, true, false, false, false, false, false, false, false, false, false, false, false, false] rfl rfl (any_of HT_.out (by kernel_rfl)) (fun _ _ _ h => h) (Or.inr ⟨by rfl, rfl⟩) ?_ ?_
      rotate_left
      next =>
       simp only [Act.put, yay, yby, ycy, i64_w, i32_w]
       rfl
      refine pure_ (i := 17) (N := some 39) (v := undef) (a' := ?_) #[true, true, true, true, true, true, true, true, true, true, true, true, true, true, true, true, true, true, false, false, false, false, false, false, false, false, false, false, false] rfl rfl (any_of HT_.out (by kernel_rfl)) (fun _ _ _ h => h) (Or.inr ⟨by rfl, rfl⟩) ?_ ?_
      rotate_left
      next =>
       simp only [Act.put, yay, yby, ycy, i64_w, i32_w]
       rfl
      refine pure_ (i := 18) (N := some 40) (v := ?_) (a' := ?_) #[true, true, true, true, true, true, true, true, true, true, true, true, true, true, true, true, true, true, true, false, false, false, false, false, false, false, false, false, false] rfl rfl (any_of HT_.out (by kernel_rfl)) (fun _ _ _ h => h) (Or.inl ⟨by rfl, ?_⟩) ?_ ?_
      rotate_left
      next =>
       intro w'
       go_simp
       with_reducible rfl
      rotate_left
      next =>
       simp only [Act.put, yay, yby, ycy, i64_w, i32_w]
       rfl
      refine pure_ (i := 19) (N := some 41) (v := ?_) (a' := ?_) #[true, true, true, true, true, true, true, true, true, true, true, true, true, true, true, true, true, true, true, true, false, false, false, false, false, false, false, false, false] rfl rfl (any_of HT_.out (by kernel_rfl)) (fun _ _ _ h => h) (Or.inl ⟨by rfl, ?_⟩) ?_ ?_
      rotate_left
      next =>
       intro w'
       go_simp
       with_reducible rfl
      rotate_left
      next =>
       simp only [Act.put, yay, yby, ycy, i64_w, i32_w]
       rfl
      refine pure_ (i := 20) (N := some 42) (v := undef) (a' := ?_) #[true, true, true, true, true, true, true, true, true, true, true, true, true, true, true, true, true, true, true, true, true, false, false, false, false, false, false, false, false] rfl rfl (any_of HT_.out (by kernel_rfl)) (fun _ _ _ h => h) (Or.inr ⟨by rfl, rfl⟩) ?_ ?_
      rotate_left
      next =>
       simp only [Act.put, yay, yby, ycy, i64_w, i32_w]
       rfl
      refine pure_ (i := 21) (N := some 43) (v := undef) (a' := ?_) #[true, true, true, true, true, true, true, true, true, true, true, true, true, true, true, true, true, true, true, true, true, true, false, false, false, false, false, false, false] rfl rfl (any_of HT_.out (by kernel_rfl)) (fun _ _ _ h => h) (Or.inr ⟨by rfl, rfl⟩) ?_ ?_
      rotate_left
      next =>
       simp only [Act.put, yay, yby, ycy, i64_w, i32_w]
       rfl
      refine pure_ (i := 22) (N := some 44) (v := undef) (a' := ?_) #[true, true, true, true, true, true, true, true, true, true, true, true, true, true, true, true, true, true, true, true, true, true, true, false, false, false, false, false, false] rfl rfl (any_of HT_.out (by kernel_rfl)) (fun _ _ _ h => h) (Or.inr ⟨by rfl, rfl⟩) ?_ ?_
      rotate_left
      next =>
       simp only [Act.put, yay, yby, ycy, i64_w, i32_w]
       rfl
      refine pure_ (i := 23) (N := some 45) (v := undef) (a' := ?_) #[true, true, true, true, true, true, true, true, true, true, true, true, true, true, true, true, true, true, true, true, true, true, true, true, false, false, false, false, false] rfl rfl (any_of HT_.out (by kernel_rfl)) (fun _ _ _ h => h) (Or.inr ⟨by rfl, rfl⟩) ?_ ?_
      rotate_left
      next =>
       simp only [Act.put, yay, yby, ycy, i64_w, i32_w]
       rfl
      refine pure_ (i := 24) (N := some 46) (v := undef) (a' := ?_) #[true, true, true, true, true, true, true, true, true, true, true, true, true, true, true, true, true, true, true, true, true, true, true, true, true, false, false, false, false] rfl rfl (any_of HT_.out (by kernel_rfl)) (fun _ _ _ h => h) (Or.inr ⟨by rfl, rfl⟩) ?_ ?_
      rotate_left
      next =>
       simp only [Act.put, yay, yby, ycy, i64_w, i32_w]
       rfl
      refine pure_ (i := 25) (N := some 47) (v := undef) (a' := ?_) #[true, true, true, true, true, true, true, true, true, true, true, true, true, true, true, true, true, true, true, true, true, true, true, true, true, true, false, false, false] rfl rfl (any_of HT_.out (by kernel_rfl)) (fun _ _ _ h => h) (Or.inr ⟨by rfl, rfl⟩) ?_ ?_
      rotate_left
      next =>
       simp only [Act.put, yay, yby, ycy, i64_w, i32_w]
       rfl
      refine pure_ (i := 26) (N := some 48) (v := undef) (a' := ?_) #[true, true, true, true, true, true, true, true, true, true, true, true, true, true, true, true, true, true, true, true, true, true, true, true, true, true, true, false, false] rfl rfl (any_of HT_.out (by kernel_rfl)) (fun _ _ _ h => h) (Or.inr ⟨by rfl, rfl⟩) ?_ ?_
      rotate_left
      next =>
       simp only [Act.put, yay, yby, ycy, i64_w, i32_w]
       rfl
      refine pure_ (i := 27) (N := some 49) (v := undef) (a' := ?_) #[true, true, true, true, true, true, true, true, true, true, true, true, true, true, true, true, true, true, true, true, true, true, true, true, true, true, true, true, false] rfl rfl (any_of HT_.out (by kernel_rfl)) (fun _ _ _ h => h) (Or.inr ⟨by rfl, rfl⟩) ?_ ?_
      rotate_left
      next =>
       simp only [Act.put, yay, yby, ycy, i64_w, i32_w]
       rfl
      refine pure_ (i := 28) (N := some 50) (v := ?_) (a' := ?_) #[true, true, true, true, true, true, true, true, true, true, true, true, true, true, true, true, true, true, true, true, true, true, true, true, true, true, true, true, true] rfl rfl (any_of HT_.out (by kernel_rfl)) (fun _ _ _ h => h) (Or.inl ⟨by rfl, ?_⟩) ?_ ?_
      rotate_left
      next =>
       intro w'
       go_simp
       with_reducible rfl
      rotate_left
      next =>
       simp only [Act.put, yay, yby, ycy, i64_w, i32_w]
       rfl
      refine done_ (done_of HT_.out (by kernel_rfl)) ?_
      try go_wp2
      go_ret2
      exact ⟨by first | rfl | (simp [errW_none, errW_some] <;> rfl) | (simp [*, errW_none, errW_some] <;> rfl), by repeat (first | (with_reducible first | exact HB.out | apply below_alloc | apply pw_below_drewN | apply below_drew1 | refine below_set ?_ GE101.out) | exact HB.out)⟩
     rw [if_pos c14] at H
     have c14b0 : (((rd_LInt l1 x6_1).length : Int) == 2) = true := beq_iff_eq.mpr c14
     have c14b1 : (((rd_LInt l1 x6_1).length : Int) != 2) = false := bne_eq_false_iff_eq.mpr c14
     clear c14
     by_cases c15 : 0 < ((rd_LInt l1 x6_1).length : Int)
     rotate_left
     next =>
      rw [if_neg c15] at H
      exact absurd H (by simp)
     rw [if_pos c15] at H
     have c15b0 : decide (0 < ((rd_LInt l1 x6_1).length : Int)) = true := ygy c15
     have c15b1 : decide (0 < (rd_LInt l1 x6_1).length) = true := ygy (by omega)
     clear c15
     replace H := ydy.mp H
     obtain ⟨t106, A160, H⟩ := H
     replace H : ((spec_l07In.f (rd (rd_LInt l1 x6_1) 0) 0 (wrap64 (t106 - 1))).bind fun t107 => (if t107 = true then (if 1 < ((rd_LInt l1 x6_1).length : Int) then ((spec_l07In.f (rd (rd_LInt l1 x6_1) 1) 0 3).bind fun t110 => (if t110 = true then (spec_ReversesOrientation.l0 k1 l1 (wrap64 (x6_1 + 1)) l0_0) else (some (false, 2)))) else (none)) else (some (false, 2)))) = some (r1, r2) := H
     have A16 := Aside0.mk A160
     clear A160
     replace H := ydy.mp H
     obtain ⟨t107, A170, H⟩ := H
     replace H : (if t107 = true then (if 1 < ((rd_LInt l1 x6_1).length : Int) then ((spec_l07In.f (rd (rd_LInt l1 x6_1) 1) 0 3).bind fun t110 => (if t110 = true then (spec_ReversesOrientation.l0 k1 l1 (wrap64 (x6_1 + 1)) l0_0) else (some (false, 2)))) else (none)) else (some (false, 2))) = some (r1, r2) := H
     have A17 := Aside0.mk A170
     clear A170
     by_cases c18 : t107 = true
     rotate_left
     next =>
      replace c18 := Bool.eq_false_iff.mpr c18
      subst c18
      have H1 : (some (false, 2)) = some (r1, r2) := by rw [if_neg (show ¬ (false = true) by decide)] at H; exact H
      clear H
      have H := H1
      clear H1
      simp only [Option.some.injEq, Prod.mk.injEq] at H
      obtain ⟨rfl, rfl⟩ := H
      try go_wp2
      have n0_ := Aside0.mk (blk_drew BK101.out)
      have n1_ := Aside0.mk (below_drew1 HB.out)
      clear BK101
      clear HB
      have BK101 := n0_
      have HB := n1_
      clear n0_ n1_
      have p103 : 0 ≤ (x6_1 : Int) := of_decide_eq_true (by first | (with_reducible assumption) | assumption)
      have q103 : x6_1 < (l1.length : Int) := of_decide_eq_true (by first | (with_reducible assumption) | assumption)
      obtain ⟨ad103, A103_0, c103_0, e103, hx103_0, hl103_0, hi103_0⟩ := at_LInt HR1.out x6_1 p103 q103
      have hw103_0 := hx103_0
      cases e103
      replace hx103_0 := (HB.out.cell (yny w _ hx103_0)).trans hx103_0
      have HR103_0 := Aside0.mk hi103_0
      have HC103_0 := Aside0.mk hl103_0
      clear hi103_0 hl103_0
      replace p103 := eq_true p103
      replace q103 := eq_true q103
      have p104 : 0 ≤ (x6_1 : Int) := of_decide_eq_true (by first | (with_reducible assumption) | assumption)
      have q104 : x6_1 < (l1.length : Int) := of_decide_eq_true (by first | (with_reducible assumption) | assumption)
      obtain ⟨ad104, A104_0, c104_0, e104, hx104_0, hl104_0, hi104_0⟩ := at_LInt HR1.out x6_1 p104 q104
      have hw104_0 := hx104_0
      obtain rfl : ad103 = ad104 := (by injection e104)
      replace hx104_0 := (HB.out.cell (yny w _ hx104_0)).trans hx104_0
      have HR104_0 := Aside0.mk hi104_0
      have HC104_0 := Aside0.mk hl104_0
      clear hi104_0 hl104_0
      replace p104 := eq_true p104
      replace q104 := eq_true q104
      have ea_ := yey (hx103_0.symm.trans hx104_0)
      injection ea_ with ea_ en_ ec_
      subst ea_
      subst ec_
      clear en_
      have p105 : 0 ≤ (0 : Int) := (by omega)
      have q105 : 0 < ((rd_LInt l1 x6_1).length : Int) := of_decide_eq_true (by first | (with_reducible assumption) | assumption)
      obtain ⟨ad105, e105, hx105_0⟩ := Kd.at_int HR104_0.out 0 p105 q105
      have hw105_0 := hx105_0
      (try rw [show ((0 : Int)).toNat = 0 from rfl] at hw105_0)
      (try rw [show 0 * 1 = 0 from rfl] at hw105_0)
      (try rw [Addr.add_zero'] at hw105_0)
      cases e105
      have qi105 : (0 < (rd_LInt l1 x6_1).length) = True := eq_true (by omega)
      (try rw [show ((0 : Int)).toNat = 0 from rfl] at hx105_0)
      (try rw [Addr.add_zero'] at hx105_0)
      replace hx105_0 := (HB.out.cell (yny w _ hx105_0)).trans hx105_0
      replace p105 := eq_true p105
      replace q105 := eq_true q105
      refine start_ (n := 29) (S := fun w' => w'.cell? ⟨gb101, 0, none⟩ = some (.slice A0_0 l0_0.length c0_0) ∧ w'.cell? (ad103.add (x6_1).toNat) = some (.slice (some ad105) (rd_LInt l1 x6_1).length c103_0) ∧ w'.cell? (ad103.add (x6_1).toNat) = some (.slice (some ad105) (rd_LInt l1 x6_1).length c103_0) ∧ w'.cell? ad105 = some (.int .i64 (rd (rd_LInt l1 x6_1) 0))) (ds := []) #[false, false, false, false, false, false, false, false, false, false, false, false, false, false, false, false, false, false, false, false, false, false, false, false, false, false, false, false, false] (by kernel_rfl) rfl rfl ⟨(blk_cell BK101.out 0).trans rfl, ((HB.out.cell (yny w _ hw103_0)).trans hw103_0), ((HB.out.cell (yny w _ hw104_0)).trans hw104_0), ((HB.out.cell (yny w _ hw105_0)).trans hw105_0)⟩ (fun hHeld => ?_); refine with_tabW spec_ReversesOrientation.tab8 spec_ReversesOrientation.bits8 (fun HT_ HW_ => ?_)
      generalize wr.drew = w26 at BK101 HB HR103_0 HR104_0 hx103_0 hx104_0 hx105_0 hHeld ⊢
      refine pure_ (i := 0) (N := some 22) (v := ?_) (a' := ?_) #[true, false, false, false, false, false, false, false, false, false, false, false, false, false, false, false, false, false, false, false, false, false, false, false, false, false, false, false, false] rfl rfl (any_of HT_.out (by kernel_rfl)) (fun _ _ _ h => h) (Or.inl ⟨by rfl, ?_⟩) ?_ ?_
      rotate_left
      next =>
       intro w'
       go_simp
       with_reducible rfl
      rotate_left
      next =>
       simp only [Act.put, yay, yby, ycy, i64_w, i32_w]
       rfl
      refine pure_ (i := 1) (N := some 23) (v := ?_) (a' := ?_) #[true, true, false, false, false, false, false, false, false, false, false, false, false, false, false, false, false, false, false, false, false, false, false, false, false, false, false, false, false] rfl rfl (any_of HT_.out (by kernel_rfl)) (fun _ _ _ h => h) (Or.inl ⟨by rfl, ?_⟩) ?_ ?_
      rotate_left
      next =>
       intro w'
       go_simp
       with_reducible rfl
      rotate_left
      next =>
       simp only [Act.put, yay, yby, ycy, i64_w, i32_w]
       rfl
      refine pure_ (i := 2) (N := some 24) (v := ?_) (a' := ?_) #[true, true, true, false, false, false, false, false, false, false, false, false, false, false, false, false, false, false, false, false, false, false, false, false, false, false, false, false, false] rfl rfl (any_of HT_.out (by kernel_rfl)) (fun _ _ _ h => h) (Or.inl ⟨by rfl, ?_⟩) ?_ ?_
      rotate_left
      next =>
       intro w'
       go_simp
       with_reducible rfl
      rotate_left
      next =>
       simp only [Act.put, yay, yby, ycy, i64_w, i32_w]
       rfl
      refine take_ (i := 3) (N := some 25) (v := ?_) (a' := ?_) #[true, true, true, true, false, false, false, false, false, false, false, false, false, false, false, false, false, false, false, false, false, false, false, false, false, false, false, false, false] rfl rfl (take_ofW HT_.out HW_.out (by kernel_rfl)) (fun _ _ _ h => h) (Or.inl ⟨by rfl, ?_⟩) hHeld ?_ ?_
      rotate_left
      next =>
       rintro w' ⟨s0, s1, s2, s3⟩
       go_simp
       with_reducible rfl
      rotate_left
      next =>
       simp only [Act.put, yay, yby, ycy, i64_w, i32_w]
       rfl
      refine pure_ (i := 4) (N := some 26) (v := ?_) (a' := ?_) #[true, true, true, true, true, false, false, false, false, false, false, false, false, false, false, false, false, false, false, false, false, false, false, false, false, false, false, false, false] rfl rfl (any_of HT_.out (by kernel_rfl)) (fun _ _ _ h => h) (Or.inl ⟨by rfl, ?_⟩) ?_ ?_
      rotate_left
      next =>
       intro w'
       go_simp
       with_reducible rfl
      rotate_left
      next =>
       simp only [Act.put, yay, yby, ycy, i64_w, i32_w]
       rfl
      refine pure_ (i := 5) (N := some 27) (v := ?_) (a' := ?_) #[true, true, true, true, true, true, false, false, false, false, false, false, false, false, false, false, false, false, false, false, false, false, false, false, false, false, false, false, false] rfl rfl (any_of HT_.out (by kernel_rfl)) (fun _ _ _ h => h) (Or.inl ⟨by rfl, ?_⟩) ?_ ?_
      rotate_left
      next =>
       intro w'
       go_simp
       with_reducible rfl
      rotate_left
      next =>
       simp only [Act.put, yay, yby, ycy, i64_w, i32_w]
       rfl
      refine pure_ (i := 6) (N := some 28) (v := ?_) (a' := ?_) #[true, true, true, true, true, true, true, false, false, false, false, false, false, false, false, false, false, false, false, false, false, false, false, false, false, false, false, false, false] rfl rfl (any_of HT_.out (by kernel_rfl)) (fun _ _ _ h => h) (Or.inl ⟨by rfl, ?_⟩) ?_ ?_
      rotate_left
      next =>
       intro w'
       go_simp
       with_reducible rfl
      rotate_left
      next =>
       simp only [Act.put, yay, yby, ycy, i64_w, i32_w]
       rfl
      refine pure_ (i := 7) (N := some 29) (v := ?_) (a' := ?_) #[true, true, true, true, true, true, true, true, false, false, false, false, false, false, false, false, false, false, false, false, false, false, false, false, false, false, false, false, false] rfl rfl (any_of HT_.out (by kernel_rfl)) (fun _ _ _ h => h) (Or.inl ⟨by rfl, ?_⟩) ?_ ?_
      rotate_left
      next =>
       intro w'
       go_simp
       with_reducible rfl
      rotate_left
      next =>
       simp only [Act.put, yay, yby, ycy, i64_w, i32_w]
       rfl
      refine pure_ (i := 8) (N := some 30) (v := ?_) (a' := ?_) #[true, true, true, true, true, true, true, true, true, false, false, false, false, false, false, false, false, false, false, false, false, false, false, false, false, false, false, false, false] rfl rfl (any_of HT_.out (by kernel_rfl)) (fun _ _ _ h => h) (Or.inl ⟨by rfl, ?_⟩) ?_ ?_
      rotate_left
      next =>
       intro w'
       go_simp
       with_reducible rfl
      rotate_left
      next =>
       simp only [Act.put, yay, yby, ycy, i64_w, i32_w]
       rfl
      refine pure_ (i := 9) (N := some 31) (v := ?_) (a' := ?_) #[true, true, true, true, true, true, true, true, true, true, false, false, false, false, false, false, false, false, false, false, false, false, false, false, false, false, false, false, false] rfl rfl (any_of HT_.out (by kernel_rfl)) (fun _ _ _ h => h) (Or.inl ⟨by rfl, ?_⟩) ?_ ?_
      rotate_left
      next =>
       intro w'
       go_simp
       with_reducible rfl
      rotate_left
      next =>
       simp only [Act.put, yay, yby, ycy, i64_w, i32_w]
       rfl
      refine take_ (i := 10) (N := some 32) (v := ?_) (a' := ?_) #[true, true, true, true, true, true, true, true, true, true, true, false, false, false, false, false, false, false, false, false, false, false, false, false, false, false, false, false, false] rfl rfl (take_ofW HT_.out HW_.out (by kernel_rfl)) (fun _ _ _ h => h) (Or.inl ⟨by rfl, ?_⟩) hHeld ?_ ?_
      rotate_left
      next =>
       rintro w' ⟨s0, s1, s2, s3⟩
       go_simp
       with_reducible rfl
      rotate_left
      next =>
       simp only [Act.put, yay, yby, ycy, i64_w, i32_w]
       rfl
      refine pure_ (i := 11) (N := some 33) (v := ?_) (a' := ?_) #[true, true, true, true, true, true, true, true, true, true, true, true, false, false, false, false, false, false, false, false, false, false, false, false, false, false, false, false, false] rfl rfl (any_of HT_.out (by kernel_rfl)) (fun _ _ _ h => h) (Or.inl ⟨by rfl, ?_⟩) ?_ ?_
      rotate_left
      next =>
       intro w'
       go_simp
       with_reducible rfl
      rotate_left
      next =>
       simp only [Act.put, yay, yby, ycy, i64_w, i32_w]
       rfl
      refine take_ (i := 12) (N := some 34) (v := ?_) (a' := ?_) #[true, true, true, true, true, true, true, true, true, true, true, true, true, false, false, false, false, false, false, false, false, false, false, false, false, false, false, false, false] rfl rfl (take_ofW HT_.out HW_.out (by kernel_rfl)) (fun _ _ _ h => h) (Or.inl ⟨by rfl, ?_⟩) hHeld ?_ ?_
      rotate_left
      next =>
       rintro w' ⟨s0, s1, s2, s3⟩
       go_simp
       with_reducible rfl
      rotate_left
      next =>
       simp only [Act.put, yay, yby, ycy, i64_w, i32_w]
       rfl
      refine take_ (i := 13) (N := some 35) (v := ?_) (a' := ?_) #[true, true, true, true, true, true, true, true, true, true, true, true, true, true, false, false, false, false, false, false, false, false, false, false, false, false, false, false, false] rfl rfl (take_ofW HT_.out HW_.out (by kernel_rfl)) (fun _ _ _ h => h) (Or.inl ⟨by rfl, ?_⟩) hHeld ?_ ?_
      rotate_left
      next =>
       rintro w' ⟨s0, s1, s2, s3⟩
       go_simp
       with_reducible rfl
      rotate_left
      next =>
       simp only [Act.put, yay, yby, ycy, i64_w, i32_w]
       rfl
      refine one_ (i := 14) (N := some 36) #[true, true, true, true, true, true, true, true, true, true, true, true, true, true, true, false, false, false, false, false, false, false, false, false, false, false, false, false, false] rfl rfl (one_of HT_.out (by kernel_rfl)) (by decide) (fun K hK => ?_)
      refine goes_ Try.func66 (by kernel_rfl) rfl #[.agg #[.slice A0_0 l0_0.length c0_0]] (by rfl) rfl rfl (by (try simp only [yiy, yjy, yky]); first | done | rfl | (simp only [yly, ymy]; rfl)) ?_
      with_reducible refine (spec_l07Tets.calls _ _ l0_0 t106 _ ?side1 ?side2 A16.out).mono ?_
      (case side1 => repeat (first | exact (Kd.C_below HR0_0.out HB.out) | (with_reducible refine Kd.C_alloc ?_ _) | (with_reducible refine Kd.C_drewN ?_ _) | (with_reducible refine Kd.C_drew ?_)))
      (case side2 => exact HC0_0.out)
      rintro e w27 ⟨rfl, hb⟩
      refine ⟨_, rfl, ?_⟩
      have n0_ := Aside0.mk (blk_below (g := gb101) (o := .cells #[.slice A0_0 l0_0.length c0_0] 35 (0, 0)) (by (with_reducible repeat (first | refine blk_drewN ?_ _ | refine blk_drew ?_ | refine blk_alloc ?_ _)); exact BK101.out) hb)
      have n1_ := Aside0.mk (below_step (by repeat (first | (with_reducible first | exact HB.out | apply below_alloc | apply pw_below_drewN | apply below_drew1 | refine below_set ?_ GE101.out) | exact HB.out)) hb)
      clear BK101
      clear HB
      have BK101 := n0_
      have HB := n1_
      clear n0_ n1_
      (try clear hb)
      (try clear hb2)
      (try clear hk)
      (try clear hi)
      refine hK.out _ _ ⟨(blk_cell BK101.out 0).trans rfl, ((HB.out.cell (yny w _ hw103_0)).trans hw103_0), ((HB.out.cell (yny w _ hw104_0)).trans hw104_0), ((HB.out.cell (yny w _ hw105_0)).trans hw105_0)⟩ (fun hHeld => ?_)
      clear hK K
      refine norm_ (a' := ?_) ?_ ?_
      rotate_left
      next =>
       show Act.put _ (some 36) _ = _
       simp only [Act.put, yay, yby, ycy, i64_w, i32_w]
       rfl
      refine pure_ (i := 15) (N := some 37) (v := ?_) (a' := ?_) #[true, true, true, true, true, true, true, true, true, true, true, true, true, true, true, true, false, false, false, false, false, false, false, false, false, false, false, false, false] rfl rfl (any_of HT_.out (by kernel_rfl)) (fun _ _ _ h => h) (Or.inl ⟨by rfl, ?_⟩) ?_ ?_
      rotate_left
      next =>
       intro w'
       go_simp
       with_reducible rfl
      rotate_left
      next =>
       simp only [Act.put, yay, yby, ycy, i64_w, i32_w]
       rfl
      refine one_ (i := 16) (N := some 38) #[true, true, true, true, true, true, true, true, true, true, true, true, true, true, true, true, true, false, false, false, false, false, false, false, false, false, false, false, false] rfl rfl (one_of HT_.out (by kernel_rfl)) (by decide) (fun K hK => ?_)
      refine goes_ Try.func65 (by kernel_rfl) rfl #[.int .i64 (rd (rd_LInt l1 x6_1) 0), .int .i64 0, .int .i64 (wrap64 (t106 - 1))] (by rfl) rfl rfl (by (try simp only [yiy, yjy, yky]); first | done | rfl | (simp only [yly, ymy]; rfl)) ?_
      with_reducible refine (spec_l07In.calls (rd (rd_LInt l1 x6_1) 0) 0 (wrap64 (t106 - 1)) false _ A17.out).mono ?_
      rintro e w' ⟨rfl, ⟨nd, rfl⟩⟩
      refine ⟨_, rfl, ?_⟩
      refine hK.out _ _ ⟨(blk_cell BK101.out 0).trans rfl, ((HB.out.cell (yny w _ hw103_0)).trans hw103_0), ((HB.out.cell (yny w _ hw104_0)).trans hw104_0), ((HB.out.cell (yny w _ hw105_0)).trans hw105_0)⟩ (fun hHeld => ?_)
      clear hK K
      refine norm_ (a' := ?_) ?_ ?_
      rotate_left
      next =>
       show Act.put _ (some 38) _ = _
       simp only [Act.put, yay, yby, ycy, i64_w, i32_w]
       rfl
      refine pure_ (i := 17) (N := some 39) (v := ?_) (a' := ?_) #[true, true, true, true, true, true, true, true, true, true, true, true, true, true, true, true, true, true, false, false, false, false, false, false, false, false, false, false, false] rfl rfl (any_of HT_.out (by kernel_rfl)) (fun _ _ _ h => h) (Or.inl ⟨by rfl, ?_⟩) ?_ ?_
      rotate_left
      next =>
       intro w'
       go_simp
       with_reducible rfl
      rotate_left
      next =>
       simp only [Act.put, yay, yby, ycy, i64_w, i32_w]
       rfl
      refine pure_ (i := 18) (N := some 40) (v := ?_) (a' := ?_) #[true, true, true, true, true, true, true, true, true, true, true, true, true, true, true, true, true, true, true, false, false, false, false, false, false, false, false, false, false] rfl rfl (any_of HT_.out (by kernel_rfl)) (fun _ _ _ h => h) (Or.inl ⟨by rfl, ?_⟩) ?_ ?_
      rotate_left
      next =>
       intro w'
       go_simp
       with_reducible rfl
      rotate_left
      next =>
       simp only [Act.put, yay, yby, ycy, i64_w, i32_w]
       rfl
      refine pure_ (i := 19) (N := some 41) (v := ?_) (a' := ?_) #[true, true, true, true, true, true, true, true, true, true, true, true, true, true, true, true, true, true, true, true, false, false, false, false, false, false, false, false, false] rfl rfl (any_of HT_.out (by kernel_rfl)) (fun _ _ _ h => h) (Or.inl ⟨by rfl, ?_⟩) ?_ ?_
      rotate_left
      next =>
       intro w'
       go_simp
       with_reducible rfl
      rotate_left
      next =>
       simp only [Act.put, yay, yby, ycy, i64_w, i32_w]
       rfl
      refine pure_ (i := 20) (N := some 42) (v := undef) (a' := ?_) #[true, true, true, true, true, true, true, true, true, true, true, true, true, true, true, true, true, true, true, true, true, false, false, false, false, false, false, false, false] rfl rfl (any_of HT_.out (by kernel_rfl)) (fun _ _ _ h => h) (Or.inr ⟨by rfl, rfl⟩) ?_ ?_
      rotate_left
      next =>
       simp only [Act.put, yay, yby, ycy, i64_w, i32_w]
       rfl
      refine pure_ (i := 21) (N := some 43) (v := undef) (a' := ?_) #[true, true, true, true, true, true, true, true, true, true, true, true, true, true, true, true, true, true, true, true, true, true, false, false, false, false, false, false, false] rfl rfl (any_of HT_.out (by kernel_rfl)) (fun _ _ _ h => h) (Or.inr ⟨by rfl, rfl⟩) ?_ ?_
      rotate_left
      next =>
       simp only [Act.put, yay, yby, ycy, i64_w, i32_w]
       rfl
      refine pure_ (i := 22) (N := some 44) (v := undef) (a' := ?_) #[true, true, true, true, true, true, true, true, true, true, true, true, true, true, true, true, true, true, true, true, true, true, true, false, false, false, false, false, false] rfl rfl (any_of HT_.out (by kernel_rfl)) (fun _ _ _ h => h) (Or.inr ⟨by rfl, rfl⟩) ?_ ?_
      rotate_left
      next =>
       simp only [Act.put, yay, yby, ycy, i64_w, i32_w]
       rfl
      refine pure_ (i := 23) (N := some 45) (v := undef) (a' := ?_) #[true, true, true, true, true, true, true, true, true, true, true, true, true, true, true, true, true, true, true, true, true, true, true, true, false, false, false, false, false] rfl rfl (any_of HT_.out (by kernel_rfl)) (fun _ _ _ h => h) (Or.inr ⟨by rfl, rfl⟩) ?_ ?_
      rotate_left
      next =>
       simp only [Act.put, yay, yby, ycy, i64_w, i32_w]
       rfl
      refine pure_ (i := 24) (N := some 46) (v := undef) (a' := ?_) #[true, true, true, true, true, true, true, true, true, true, true, true, true, true, true, true, true, true, true, true, true, true, true, true, true, false, false, false, false] rfl rfl (any_of HT_.out (by kernel_rfl)) (fun _ _ _ h => h) (Or.inr ⟨by rfl, rfl⟩) ?_ ?_
      rotate_left
      next =>
       simp only [Act.put, yay, yby, ycy, i64_w, i32_w]
       rfl
      refine pure_ (i := 25) (N := some 47) (v := undef) (a' := ?_) #[true, true, true, true, true, true, true, true, true, true, true, true, true, true, true, true, true, true, true, true, true, true, true, true, true, true, false, false, false] rfl rfl (any_of HT_.out (by kernel_rfl)) (fun _ _ _ h => h) (Or.inr ⟨by rfl, rfl⟩) ?_ ?_
      rotate_left
      next =>
       simp only [Act.put, yay, yby, ycy, i64_w, i32_w]
       rfl
      refine pure_ (i := 26) (N := some 48) (v := undef) (a' := ?_) #[true, true, true, true, true, true, true, true, true, true, true, true, true, true, true, true, true, true, true, true, true, true, true, true, true, true, true, false, false] rfl rfl (any_of HT_.out (by kernel_rfl)) (fun _ _ _ h => h) (Or.inr ⟨by rfl, rfl⟩) ?_ ?_
      rotate_left
      next =>
       simp only [Act.put, yay, yby, ycy, i64_w, i32_w]
       rfl
      refine pure_ (i := 27) (N := some 49) (v := undef) (a' := ?_) #[true, true, true, true, true, true, true, true, true, true, true, true, true, true, true, true, true, true, true, true, true, true, true, true, true, true, true, true, false] rfl rfl (any_of HT_.out (by kernel_rfl)) (fun _ _ _ h => h) (Or.inr ⟨by rfl, rfl⟩) ?_ ?_
      rotate_left
      next =>
       simp only [Act.put, yay, yby, ycy, i64_w, i32_w]
       rfl
      refine pure_ (i := 28) (N := some 50) (v := ?_) (a' := ?_) #[true, true, true, true, true, true, true, true, true, true, true, true, true, true, true, true, true, true, true, true, true, true, true, true, true, true, true, true, true] rfl rfl (any_of HT_.out (by kernel_rfl)) (fun _ _ _ h => h) (Or.inl ⟨by rfl, ?_⟩) ?_ ?_
      rotate_left
      next =>
       intro w'
       go_simp
       with_reducible rfl
      rotate_left
      next =>
       simp only [Act.put, yay, yby, ycy, i64_w, i32_w]
       rfl
      refine done_ (done_of HT_.out (by kernel_rfl)) ?_
      try go_wp2
      go_ret2
      exact ⟨by first | rfl | (simp [errW_none, errW_some] <;> rfl) | (simp [*, errW_none, errW_some] <;> rfl), by repeat (first | (with_reducible first | exact HB.out | apply below_alloc | apply pw_below_drewN | apply below_drew1 | refine below_set ?_ GE101.out) | exact HB.out)⟩
     subst c18
     have H1 : (if 1 < ((rd_LInt l1 x6_1).length : Int) then ((spec_l07In.f (rd (rd_LInt l1 x6_1) 1) 0 3).bind fun t110 => (if t110 = true then (spec_ReversesOrientation.l0 k1 l1 (wrap64 (x6_1 + 1)) l0_0) else (some (false, 2)))) else (none)) = some (r1, r2) := by rw [if_pos rfl] at H; exact H
     clear H
     have H := H1
     clear H1
     by_cases c19 : 1 < ((rd_LInt l1 x6_1).length : Int)
     rotate_left
     next =>
      rw [if_neg c19] at H
      exact absurd H (by simp)
     rw [if_pos c19] at H
     have c19b0 : decide (1 < ((rd_LInt l1 x6_1).length : Int)) = true := ygy c19
     have c19b1 : decide (1 < (rd_LInt l1 x6_1).length) = true := ygy (by omega)
     clear c19
     replace H := ydy.mp H
     obtain ⟨t110, A200, H⟩ := H
     replace H : (if t110 = true then (spec_ReversesOrientation.l0 k1 l1 (wrap64 (x6_1 + 1)) l0_0) else (some (false, 2))) = some (r1, r2) := H
     have A20 := Aside0.mk A200
     clear A200
     by_cases c21 : t110 = true
     next =>
      subst c21
      have H1 : (spec_ReversesOrientation.l0 k1 l1 (wrap64 (x6_1 + 1)) l0_0) = some (r1, r2) := by rw [if_pos rfl] at H; exact H
      clear H
      have H := H1
      clear H1
      have H' := Aside0.mk H
      clear H
      try go_wp2
      have n0_ := Aside0.mk (blk_drew BK101.out)
      have n1_ := Aside0.mk (below_drew1 HB.out)
      clear BK101
      clear HB
      have BK101 := n0_
      have HB := n1_
      clear n0_ n1_
      have p103 : 0 ≤ (x6_1 : Int) := of_decide_eq_true (by first | (with_reducible assumption) | assumption)
      have q103 : x6_1 < (l1.length : Int) := of_decide_eq_true (by first | (with_reducible assumption) | assumption)
      obtain ⟨ad103, A103_0, c103_0, e103, hx103_0, hl103_0, hi103_0⟩ := at_LInt HR1.out x6_1 p103 q103
      have hw103_0 := hx103_0
      cases e103
      replace hx103_0 := (HB.out.cell (yny w _ hx103_0)).trans hx103_0
      have HR103_0 := Aside0.mk hi103_0
      have HC103_0 := Aside0.mk hl103_0
      clear hi103_0 hl103_0
      replace p103 := eq_true p103
      replace q103 := eq_true q103
      have p104 : 0 ≤ (x6_1 : Int) := of_decide_eq_true (by first | (with_reducible assumption) | assumption)
      have q104 : x6_1 < (l1.length : Int) := of_decide_eq_true (by first | (with_reducible assumption) | assumption)
      obtain ⟨ad104, A104_0, c104_0, e104, hx104_0, hl104_0, hi104_0⟩ := at_LInt HR1.out x6_1 p104 q104
      have hw104_0 := hx104_0
      obtain rfl : ad103 = ad104 := (by injection e104)
      replace hx104_0 := (HB.out.cell (yny w _ hx104_0)).trans hx104_0
      have HR104_0 := Aside0.mk hi104_0
      have HC104_0 := Aside0.mk hl104_0
      clear hi104_0 hl104_0
      replace p104 := eq_true p104
      replace q104 := eq_true q104
      have ea_ := yey (hx103_0.symm.trans hx104_0)
      injection ea_ with ea_ en_ ec_
      subst ea_
      subst ec_
      clear en_
      have p105 : 0 ≤ (0 : Int) := (by omega)
      have q105 : 0 < ((rd_LInt l1 x6_1).length : Int) := of_decide_eq_true (by first | (with_reducible assumption) | assumption)
      obtain ⟨ad105, e105, hx105_0⟩ := Kd.at_int HR104_0.out 0 p105 q105
      have hw105_0 := hx105_0
      (try rw [show ((0 : Int)).toNat = 0 from rfl] at hw105_0)
      (try rw [show 0 * 1 = 0 from rfl] at hw105_0)
      (try rw [Addr.add_zero'] at hw105_0)
      cases e105
      have qi105 : (0 < (rd_LInt l1 x6_1).length) = True := eq_true (by omega)
      (try rw [show ((0 : Int)).toNat = 0 from rfl] at hx105_0)
      (try rw [Addr.add_zero'] at hx105_0)
      replace hx105_0 := (HB.out.cell (yny w _ hx105_0)).trans hx105_0
      replace p105 := eq_true p105
      replace q105 := eq_true q105
      have p108 : 0 ≤ (x6_1 : Int) := of_decide_eq_true (by first | (with_reducible assumption) | assumption)
      have q108 : x6_1 < (l1.length : Int) := of_decide_eq_true (by first | (with_reducible assumption) | assumption)
      obtain ⟨ad108, A108_0, c108_0, e108, hx108_0, hl108_0, hi108_0⟩ := at_LInt HR1.out x6_1 p108 q108
      have hw108_0 := hx108_0
      obtain rfl : ad103 = ad108 := (by injection e108)
      replace hx108_0 := (HB.out.cell (yny w _ hx108_0)).trans hx108_0
      have HR108_0 := Aside0.mk hi108_0
      have HC108_0 := Aside0.mk hl108_0
      clear hi108_0 hl108_0
      replace p108 := eq_true p108
      replace q108 := eq_true q108
      have p109 : 0 ≤ (1 : Int) := (by omega)
      have q109 : 1 < ((rd_LInt l1 x6_1).length : Int) := of_decide_eq_true (by first | (with_reducible assumption) | assumption)
      obtain ⟨ad109, e109, hx109_0⟩ := Kd.at_int HR108_0.out 1 p109 q109
      have hw109_0 := hx109_0
      (try rw [show ((1 : Int)).toNat = 1 from rfl] at hw109_0)
      (try rw [show 1 * 1 = 1 from rfl] at hw109_0)
      (try simp only [Nat.reduceMul, Nat.reduceEqDiff, Go.Addr.add, ↓reduceIte] at hw109_0)
      cases e109
      have ea_ := yey (hx103_0.symm.trans hx108_0)
      injection ea_ with ea_ en_ ec_
      injection ea_ with ea_
      subst ea_
      clear en_ ec_
      (try simp only [show (1 : Int).toNat = 1 from rfl, Nat.reduceMul, Nat.reduceEqDiff, Go.Addr.add, ↓reduceIte] at hx109_0)
      have qi109 : (1 < (rd_LInt l1 x6_1).length) = True := eq_true (by omega)
      (try rw [show ((1 : Int)).toNat = 1 from rfl] at hx109_0)
      replace hx109_0 := (HB.out.cell (yny w _ hx109_0)).trans hx109_0
      replace p109 := eq_true p109
      replace q109 := eq_true q109
      refine start_ (n := 29) (S := fun w' => w'.cell? ⟨gb101, 0, none⟩ = some (.slice A0_0 l0_0.length c0_0) ∧ w'.cell? (ad103.add (x6_1).toNat) = some (.slice (some ad105) (rd_LInt l1 x6_1).length c103_0) ∧ w'.cell? (ad103.add (x6_1).toNat) = some (.slice (some ad105) (rd_LInt l1 x6_1).length c103_0) ∧ w'.cell? ad105 = some (.int .i64 (rd (rd_LInt l1 x6_1) 0)) ∧ w'.cell? (ad103.add (x6_1).toNat) = some (.slice (some ad105) (rd_LInt l1 x6_1).length c108_0) ∧ w'.cell? ⟨ad105.block, ad105.off + 1, none⟩ = some (.int .i64 (rd (rd_LInt l1 x6_1) 1))) (ds := []) #[false, false, false, false, false, false, false, false, false, false, false, false, false, false, false, false, false, false, false, false, false, false, false, false, false, false, false, false, false] (by kernel_rfl) rfl rfl ⟨(blk_cell BK101.out 0).trans rfl, ((HB.out.cell (yny w _ hw103_0)).trans hw103_0), ((HB.out.cell (yny w _ hw104_0)).trans hw104_0), ((HB.out.cell (yny w _ hw105_0)).trans hw105_0), ((HB.out.cell (yny w _ hw108_0)).trans hw108_0), ((HB.out.cell (yny w _ hw109_0)).trans hw109_0)⟩ (fun hHeld => ?_); refine with_tabW spec_ReversesOrientation.tab8 spec_ReversesOrientation.bits8 (fun HT_ HW_ => ?_)
      generalize wr.drew = w22 at BK101 HB HR103_0 HR104_0 HR108_0 hx103_0 hx104_0 hx105_0 hx108_0 hx109_0 hHeld ⊢
      refine pure_ (i := 0) (N := some 22) (v := ?_) (a' := ?_) #[true, false, false, false, false, false, false, false, false, false, false, false, false, false, false, false, false, false, false, false, false, false, false, false, false, false, false, false, false] rfl rfl (any_of HT_.out (by kernel_rfl)) (fun _ _ _ h => h) (Or.inl ⟨by rfl, ?_⟩) ?_ ?_
      rotate_left
      next =>
       intro w'
       go_simp
       with_reducible rfl
      rotate_left
      next =>
       simp only [Act.put, yay, yby, ycy, i64_w, i32_w]
       rfl
      refine pure_ (i := 1) (N := some 23) (v := ?_) (a' := ?_) #[true, true, false, false, false, false, false, false, false, false, false, false, false, false, false, false, false, false, false, false, false, false, false, false, false, false, false, false, false] rfl rfl (any_of HT_.out (by kernel_rfl)) (fun _ _ _ h => h) (Or.inl ⟨by rfl, ?_⟩) ?_ ?_
      rotate_left
      next =>
       intro w'
       go_simp
       with_reducible rfl
      rotate_left
      next =>
       simp only [Act.put, yay, yby, ycy, i64_w, i32_w]
       rfl
      refine pure_ (i := 2) (N := some 24) (v := ?_) (a' := ?_) #[true, true, true, false, false, false, false, false, false, false, false, false, false, false, false, false, false, false, false, false, false, false, false, false, false, false, false, false, false] rfl rfl (any_of HT_.out (by kernel_rfl)) (fun _ _ _ h => h) (Or.inl ⟨by rfl, ?_⟩) ?_ ?_
      rotate_left
      next =>
       intro w'
       go_simp
       with_reducible rfl
      rotate_left
      next =>
       simp only [Act.put, yay, yby, ycy, i64_w, i32_w]
       rfl
      refine take_ (i := 3) (N := some 25) (v := ?_) (a' := ?_) #[true, true, true, true, false, false, false, false, false, false, false, false, false, false, false, false, false, false, false, false, false, false, false, false, false, false, false, false, false] rfl rfl (take_ofW HT_.out HW_.out (by kernel_rfl)) (fun _ _ _ h => h) (Or.inl ⟨by rfl, ?_⟩) hHeld ?_ ?_
      rotate_left
      next =>
       rintro w' ⟨s0, s1, s2, s3, s4, s5⟩
       go_simp
       with_reducible rfl
      rotate_left
      next =>
       simp only [Act.put, yay, yby, ycy, i64_w, i32_w]
       rfl
      refine pure_ (i := 4) (N := some 26) (v := ?_) (a' := ?_) #[true, true, true, true, true, false, false, false, false, false, false, false, false, false, false, false, false, false, false, false, false, false, false, false, false, false, false, false, false] rfl rfl (any_of HT_.out (by kernel_rfl)) (fun _ _ _ h => h) (Or.inl ⟨by rfl, ?_⟩) ?_ ?_
      rotate_left
      next =>
       intro w'
       go_simp
       with_reducible rfl
      rotate_left
      next =>
       simp only [Act.put, yay, yby, ycy, i64_w, i32_w]
       rfl
      refine pure_ (i := 5) (N := some 27) (v := ?_) (a' := ?_) #[true, true, true, true, true, true, false, false, false, false, false, false, false, false, false, false, false, false, false, false, false, false, false, false, false, false, false, false, false] rfl rfl (any_of HT_.out (by kernel_rfl)) (fun _ _ _ h => h) (Or.inl ⟨by rfl, ?_⟩) ?_ ?_
      rotate_left
      next =>
       intro w'
       go_simp
       with_reducible rfl
      rotate_left
      next =>
       simp only [Act.put, yay, yby, ycy, i64_w, i32_w]
       rfl
      refine pure_ (i := 6) (N := some 28) (v := ?_) (a' := ?_) #[true, true, true, true, true, true, true, false, false, false, false, false, false, false, false, false, false, false, false, false, false, false, false, false, false, false, false, false, false] rfl rfl (any_of HT_.out (by kernel_rfl)) (fun _ _ _ h => h) (Or.inl ⟨by rfl, ?_⟩) ?_ ?_
      rotate_left
      next =>
       intro w'
       go_simp
       with_reducible rfl
      rotate_left
      next =>
       simp only [Act.put, yay, yby, ycy, i64_w, i32_w]
       rfl
      refine pure_ (i := 7) (N := some 29) (v := ?_) (a' := ?_) #[true, true, true, true, true, true, true, true, false, false, false, false, false, false, false, false, false, false, false, false, false, false, false, false, false, false, false, false, false] rfl rfl (any_of HT_.out (by kernel_rfl)) (fun _ _ _ h => h) (Or.inl ⟨by rfl, ?_⟩) ?_ ?_
      rotate_left
      next =>
       intro w'
       go_simp
       with_reducible rfl
      rotate_left
      next =>
       simp only [Act.put, yay, yby, ycy, i64_w, i32_w]
       rfl
      refine pure_ (i := 8) (N := some 30) (v := ?_) (a' := ?_) #[true, true, true, true, true, true, true, true, true, false, false, false, false, false, false, false, false, false, false, false, false, false, false, false, false, false, false, false, false] rfl rfl (any_of HT_.out (by kernel_rfl)) (fun _ _ _ h => h) (Or.inl ⟨by rfl, ?_⟩) ?_ ?_
      rotate_left
      next =>
       intro w'
       go_simp
       with_reducible rfl
      rotate_left
      next =>
       simp only [Act.put, yay, yby, ycy, i64_w, i32_w]
       rfl
      refine pure_ (i := 9) (N := some 31) (v := ?_) (a' := ?_) #[true, true, true, true, true, true, true, true, true, true, false, false, false, false, false, false, false, false, false, false, false, false, false, false, false, false, false, false, false] rfl rfl (any_of HT_.out (by kernel_rfl)) (fun _ _ _ h => h) (Or.inl ⟨by rfl, ?_⟩) ?_ ?_
      rotate_left
      next =>
       intro w'
       go_simp
       with_reducible rfl
      rotate_left
      next =>
       simp only [Act.put, yay, yby, ycy, i64_w, i32_w]
       rfl
      refine take_ (i := 10) (N := some 32) (v := ?_) (a' := ?_) #[true, true, true, true, true, true, true, true, true, true, true, false, false, false, false, false, false, false, false, false, false, false, false, false, false, false, false, false, false] rfl rfl (take_ofW HT_.out HW_.out (by kernel_rfl)) (fun _ _ _ h => h) (Or.inl ⟨by rfl, ?_⟩) hHeld ?_ ?_
      rotate_left
      next =>
       rintro w' ⟨s0, s1, s2, s3, s4, s5⟩
       go_simp
       with_reducible rfl
      rotate_left
      next =>
       simp only [Act.put, yay, yby, ycy, i64_w, i32_w]
       rfl
      refine pure_ (i := 11) (N := some 33) (v := ?_) (a' := ?_) #[true, true, true, true, true, true, true, true, true, true, true, true, false, false, false, false, false, false, false, false, false, false, false, false, false, false, false, false, false] rfl rfl (any_of HT_.out (by kernel_rfl)) (fun _ _ _ h => h) (Or.inl ⟨by rfl, ?_⟩) ?_ ?_
      rotate_left
      next =>
       intro w'
       go_simp
       with_reducible rfl
      rotate_left
      next =>
       simp only [Act.put, yay, yby, ycy, i64_w, i32_w]
       rfl
      refine take_ (i := 12) (N := some 34) (v := ?_) (a' := ?_) #[true, true, true, true, true, true, true, true, true, true, true, true, true, false, false, false, false, false, false, false, false, false, false, false, false, false, false, false, false] rfl rfl (take_ofW HT_.out HW_.out (by kernel_rfl)) (fun _ _ _ h => h) (Or.inl ⟨by rfl, ?_⟩) hHeld ?_ ?_
      rotate_left
      next =>
       rintro w' ⟨s0, s1, s2, s3, s4, s5⟩
       go_simp
       with_reducible rfl
      rotate_left
      next =>
       simp only [Act.put, yay, yby, ycy, i64_w, i32_w]
       rfl
      refine take_ (i := 13) (N := some 35) (v := ?_) (a' := ?_) #[true, true, true, true, true, true, true, true, true, true, true, true, true, true, false, false, false, false, false, false, false, false, false, false, false, false, false, false, false] rfl rfl (take_ofW HT_.out HW_.out (by kernel_rfl)) (fun _ _ _ h => h) (Or.inl ⟨by rfl, ?_⟩) hHeld ?_ ?_
      rotate_left
      next =>
       rintro w' ⟨s0, s1, s2, s3, s4, s5⟩
       go_simp
       with_reducible rfl
      rotate_left
      next =>
       simp only [Act.put, yay, yby, ycy, i64_w, i32_w]
       rfl
      refine one_ (i := 14) (N := some 36) #[true, true, true, true, true, true, true, true, true, true, true, true, true, true, true, false, false, false, false, false, false, false, false, false, false, false, false, false, false] rfl rfl (one_of HT_.out (by kernel_rfl)) (by decide) (fun K hK => ?_)
      refine goes_ Try.func66 (by kernel_rfl) rfl #[.agg #[.slice A0_0 l0_0.length c0_0]] (by rfl) rfl rfl (by (try simp only [yiy, yjy, yky]); first | done | rfl | (simp only [yly, ymy]; rfl)) ?_
      with_reducible refine (spec_l07Tets.calls _ _ l0_0 t106 _ ?side1 ?side2 A16.out).mono ?_
      (case side1 => repeat (first | exact (Kd.C_below HR0_0.out HB.out) | (with_reducible refine Kd.C_alloc ?_ _) | (with_reducible refine Kd.C_drewN ?_ _) | (with_reducible refine Kd.C_drew ?_)))
      (case side2 => exact HC0_0.out)
      rintro e w23 ⟨rfl, hb⟩
      refine ⟨_, rfl, ?_⟩
      have n0_ := Aside0.mk (blk_below (g := gb101) (o := .cells #[.slice A0_0 l0_0.length c0_0] 35 (0, 0)) (by (with_reducible repeat (first | refine blk_drewN ?_ _ | refine blk_drew ?_ | refine blk_alloc ?_ _)); exact BK101.out) hb)
      have n1_ := Aside0.mk (below_step (by repeat (first | (with_reducible first | exact HB.out | apply below_alloc | apply pw_below_drewN | apply below_drew1 | refine below_set ?_ GE101.out) | exact HB.out)) hb)
      clear BK101
      clear HB
      have BK101 := n0_
      have HB := n1_
      clear n0_ n1_
      (try clear hb)
      (try clear hb2)
      (try clear hk)
      (try clear hi)
      refine hK.out _ _ ⟨(blk_cell BK101.out 0).trans rfl, ((HB.out.cell (yny w _ hw103_0)).trans hw103_0), ((HB.out.cell (yny w _ hw104_0)).trans hw104_0), ((HB.out.cell (yny w _ hw105_0)).trans hw105_0), ((HB.out.cell (yny w _ hw108_0)).trans hw108_0), ((HB.out.cell (yny w _ hw109_0)).trans hw109_0)⟩ (fun hHeld => ?_)
      clear hK K
      refine norm_ (a' := ?_) ?_ ?_
      rotate_left
      next =>
       show Act.put _ (some 36) _ = _
       simp only [Act.put, yay, yby, ycy, i64_w, i32_w]
       rfl
      refine pure_ (i := 15) (N := some 37) (v := ?_) (a' := ?_) #[true, true, true, true, true, true, true, true, true, true, true, true, true, true, true, true, false, false, false, false, false, false, false, false, false, false, false, false, false] rfl rfl (any_of HT_.out (by kernel_rfl)) (fun _ _ _ h => h) (Or.inl ⟨by rfl, ?_⟩) ?_ ?_
      rotate_left
      next =>
       intro w'
       go_simp
       with_reducible rfl
      rotate_left
      next =>
       simp only [Act.put, yay, yby, ycy, i64_w, i32_w]
       rfl
      refine one_ (i := 16) (N := some 38) #[true, true, true, true, true, true, true, true, true, true, true, true, true, true, true, true, true, false, false, false, false, false, false, false, false, false, false, false, false] rfl rfl (one_of HT_.out (by kernel_rfl)) (by decide) (fun K hK => ?_)
      refine goes_ Try.func65 (by kernel_rfl) rfl #[.int .i64 (rd (rd_LInt l1 x6_1) 0), .int .i64 0, .int .i64 (wrap64 (t106 - 1))] (by rfl) rfl rfl (by (try simp only [yiy, yjy, yky]); first | done | rfl | (simp only [yly, ymy]; rfl)) ?_
      with_reducible refine (spec_l07In.calls (rd (rd_LInt l1 x6_1) 0) 0 (wrap64 (t106 - 1)) true _ A17.out).mono ?_
      rintro e w' ⟨rfl, ⟨nd, rfl⟩⟩
      refine ⟨_, rfl, ?_⟩
      refine hK.out _ _ ⟨(blk_cell BK101.out 0).trans rfl, ((HB.out.cell (yny w _ hw103_0)).trans hw103_0), ((HB.out.cell (yny w _ hw104_0)).trans hw104_0), ((HB.out.cell (yny w _ hw105_0)).trans hw105_0), ((HB.out.cell (yny w _ hw108_0)).trans hw108_0), ((HB.out.cell (yny w _ hw109_0)).trans hw109_0)⟩ (fun hHeld => ?_)
      clear hK K
      refine norm_ (a' := ?_) ?_ ?_
      rotate_left
      next =>
       show Act.put _ (some 38) _ = _
       simp only [Act.put, yay, yby, ycy, i64_w, i32_w]
       rfl
      refine pure_ (i := 17) (N := some 39) (v := ?_) (a' := ?_) #[true, true, true, true, true, true, true, true, true, true, true, true, true, true, true, true, true, true, false, false, false, false, false, false, false, false, false, false, false] rfl rfl (any_of HT_.out (by kernel_rfl)) (fun _ _ _ h => h) (Or.inl ⟨by rfl, ?_⟩) ?_ ?_
      rotate_left
      next =>
       intro w'
       go_simp
       with_reducible rfl
      rotate_left
      next =>
       simp only [Act.put, yay, yby, ycy, i64_w, i32_w]
       rfl
      refine pure_ (i := 18) (N := some 40) (v := ?_) (a' := ?_) #[true, true, true, true, true, true, true, true, true, true, true, true, true, true, true, true, true, true, true, false, false, false, false, false, false, false, false, false, false] rfl rfl (any_of HT_.out (by kernel_rfl)) (fun _ _ _ h => h) (Or.inl ⟨by rfl, ?_⟩) ?_ ?_
      rotate_left
      next =>
       intro w'
       go_simp
       with_reducible rfl
      rotate_left
      next =>
       simp only [Act.put, yay, yby, ycy, i64_w, i32_w]
       rfl
      refine pure_ (i := 19) (N := some 41) (v := ?_) (a' := ?_) #[true, true, true, true, true, true, true, true, true, true, true, true, true, true, true, true, true, true, true, true, false, false, false, false, false, false, false, false, false] rfl rfl (any_of HT_.out (by kernel_rfl)) (fun _ _ _ h => h) (Or.inl ⟨by rfl, ?_⟩) ?_ ?_
      rotate_left
      next =>
       intro w'
       go_simp
       with_reducible rfl
      rotate_left
      next =>
       simp only [Act.put, yay, yby, ycy, i64_w, i32_w]
       rfl
      refine pure_ (i := 20) (N := some 42) (v := ?_) (a' := ?_) #[true, true, true, true, true, true, true, true, true, true, true, true, true, true, true, true, true, true, true, true, true, false, false, false, false, false, false, false, false] rfl rfl (any_of HT_.out (by kernel_rfl)) (fun _ _ _ h => h) (Or.inl ⟨by rfl, ?_⟩) ?_ ?_
      rotate_left
      next =>
       intro w'
       go_simp
       with_reducible rfl
      rotate_left
      next =>
       simp only [Act.put, yay, yby, ycy, i64_w, i32_w]
       rfl
      refine pure_ (i := 21) (N := some 43) (v := ?_) (a' := ?_) #[true, true, true, true, true, true, true, true, true, true, true, true, true, true, true, true, true, true, true, true, true, true, false, false, false, false, false, false, false] rfl rfl (any_of HT_.out (by kernel_rfl)) (fun _ _ _ h => h) (Or.inl ⟨by rfl, ?_⟩) ?_ ?_
      rotate_left
      next =>
       intro w'
       go_simp
       with_reducible rfl
      rotate_left
      next =>
       simp only [Act.put, yay, yby, ycy, i64_w, i32_w]
       rfl
      refine pure_ (i := 22) (N := some 44) (v := ?_) (a' := ?_) #[true, true, true, true, true, true, true, true, true, true, true, true, true, true, true, true, true, true, true, true, true, true, true, false, false, false, false, false, false] rfl rfl (any_of HT_.out (by kernel_rfl)) (fun _ _ _ h => h) (Or.inl ⟨by rfl, ?_⟩) ?_ ?_
      rotate_left
      next =>
       intro w'
       go_simp
       with_reducible rfl
      rotate_left
      next =>
       simp only [Act.put, yay, yby, ycy, i64_w, i32_w]
       rfl
      refine take_ (i := 23) (N := some 45) (v := ?_) (a' := ?_) #[true, true, true, true, true, true, true, true, true, true, true, true, true, true, true, true, true, true, true, true, true, true, true, true, false, false, false, false, false] rfl rfl (take_ofW HT_.out HW_.out (by kernel_rfl)) (fun _ _ _ h => h) (Or.inl ⟨by rfl, ?_⟩) hHeld ?_ ?_
      rotate_left
      next =>
       rintro w' ⟨s0, s1, s2, s3, s4, s5⟩
       go_simp
       with_reducible rfl
      rotate_left
      next =>
       simp only [Act.put, yay, yby, ycy, i64_w, i32_w]
       rfl
      refine pure_ (i := 24) (N := some 46) (v := ?_) (a' := ?_) #[true, true, true, true, true, true, true, true, true, true, true, true, true, true, true, true, true, true, true, true, true, true, true, true, true, false, false, false, false] rfl rfl (any_of HT_.out (by kernel_rfl)) (fun _ _ _ h => h) (Or.inl ⟨by rfl, ?_⟩) ?_ ?_
      rotate_left
      next =>
       intro w'
       go_simp
       with_reducible rfl
      rotate_left
      next =>
       simp only [Act.put, yay, yby, ycy, i64_w, i32_w]
       rfl
      refine take_ (i := 25) (N := some 47) (v := ?_) (a' := ?_) #[true, true, true, true, true, true, true, true, true, true, true, true, true, true, true, true, true, true, true, true, true, true, true, true, true, true, false, false, false] rfl rfl (take_ofW HT_.out HW_.out (by kernel_rfl)) (fun _ _ _ h => h) (Or.inl ⟨by rfl, ?_⟩) hHeld ?_ ?_
      rotate_left
      next =>
       rintro w' ⟨s0, s1, s2, s3, s4, s5⟩
       go_simp
       with_reducible rfl
      rotate_left
      next =>
       simp only [Act.put, yay, yby, ycy, i64_w, i32_w]
       rfl
      refine one_ (i := 26) (N := some 48) #[true, true, true, true, true, true, true, true, true, true, true, true, true, true, true, true, true, true, true, true, true, true, true, true, true, true, true, false, false] rfl rfl (one_of HT_.out (by kernel_rfl)) (by decide) (fun K hK => ?_)
      refine goes_ Try.func65 (by kernel_rfl) rfl #[.int .i64 (rd (rd_LInt l1 x6_1) 1), .int .i64 0, .int .i64 3] (by rfl) rfl rfl (by (try simp only [yiy, yjy, yky]); first | done | rfl | (simp only [yly, ymy]; rfl)) ?_
      with_reducible refine (spec_l07In.calls (rd (rd_LInt l1 x6_1) 1) 0 3 true _ A20.out).mono ?_
      rintro e w' ⟨rfl, ⟨nd, rfl⟩⟩
      refine ⟨_, rfl, ?_⟩
      refine hK.out _ _ ⟨(blk_cell BK101.out 0).trans rfl, ((HB.out.cell (yny w _ hw103_0)).trans hw103_0), ((HB.out.cell (yny w _ hw104_0)).trans hw104_0), ((HB.out.cell (yny w _ hw105_0)).trans hw105_0), ((HB.out.cell (yny w _ hw108_0)).trans hw108_0), ((HB.out.cell (yny w _ hw109_0)).trans hw109_0)⟩ (fun hHeld => ?_)
      clear hK K
      refine norm_ (a' := ?_) ?_ ?_
      rotate_left
      next =>
       show Act.put _ (some 48) _ = _
       simp only [Act.put, yay, yby, ycy, i64_w, i32_w]
       rfl
      refine pure_ (i := 27) (N := some 49) (v := ?_) (a' := ?_) #[true, true, true, true, true, true, true, true, true, true, true, true, true, true, true, true, true, true, true, true, true, true, true, true, true, true, true, true, false] rfl rfl (any_of HT_.out (by kernel_rfl)) (fun _ _ _ h => h) (Or.inl ⟨by rfl, ?_⟩) ?_ ?_
      rotate_left
      next =>
       intro w'
       go_simp
       with_reducible rfl
      rotate_left
      next =>
       simp only [Act.put, yay, yby, ycy, i64_w, i32_w]
       rfl
      refine pure_ (i := 28) (N := some 50) (v := ?_) (a' := ?_) #[true, true, true, true, true, true, true, true, true, true, true, true, true, true, true, true, true, true, true, true, true, true, true, true, true, true, true, true, true] rfl rfl (any_of HT_.out (by kernel_rfl)) (fun _ _ _ h => h) (Or.inl ⟨by rfl, ?_⟩) ?_ ?_
      rotate_left
      next =>
       intro w'
       go_simp
       with_reducible rfl
      rotate_left
      next =>
       simp only [Act.put, yay, yby, ycy, i64_w, i32_w]
       rfl
      refine done_ (done_of HT_.out (by kernel_rfl)) ?_
      try go_wp2
      go_roundg k1
      case measure => have := HK1.out; omega
      case rel => exact ⟨(wrap64 (x6_1 + 1)), (by first | rfl | (simp; done) | (simp [*]; done)), H', ⟨by have := HK1.out; omega⟩, ⟨by (with_reducible repeat (first | refine blk_drewN ?_ _ | refine blk_drew ?_ | refine blk_alloc ?_ _)); exact BK101.out⟩, ⟨by repeat (first | (with_reducible first | exact HB.out | apply below_alloc | apply pw_below_drewN | apply below_drew1 | refine below_set ?_ GE101.out) | exact HB.out)⟩⟩
     next =>
      replace c21 := Bool.eq_false_iff.mpr c21
      subst c21
      have H1 : (some (false, 2)) = some (r1, r2) := by rw [if_neg (show ¬ (false = true) by decide)] at H; exact H
      clear H
      have H := H1
      clear H1
      simp only [Option.some.injEq, Prod.mk.injEq] at H
      obtain ⟨rfl, rfl⟩ := H
      try go_wp2
      have n0_ := Aside0.mk (blk_drew BK101.out)
      have n1_ := Aside0.mk (below_drew1 HB.out)
      clear BK101
      clear HB
      have BK101 := n0_
      have HB := n1_
      clear n0_ n1_
      have p103 : 0 ≤ (x6_1 : Int) := of_decide_eq_true (by first | (with_reducible assumption) | assumption)
      have q103 : x6_1 < (l1.length : Int) := of_decide_eq_true (by first | (with_reducible assumption) | assumption)
      obtain ⟨ad103, A103_0, c103_0, e103, hx103_0, hl103_0, hi103_0⟩ := at_LInt HR1.out x6_1 p103 q103
      have hw103_0 := hx103_0
      cases e103
      replace hx103_0 := (HB.out.cell (yny w _ hx103_0)).trans hx103_0
      have HR103_0 := Aside0.mk hi103_0
      have HC103_0 := Aside0.mk hl103_0
      clear hi103_0 hl103_0
      replace p103 := eq_true p103
      replace q103 := eq_true q103
      have p104 : 0 ≤ (x6_1 : Int) := of_decide_eq_true (by first | (with_reducible assumption) | assumption)
      have q104 : x6_1 < (l1.length : Int) := of_decide_eq_true (by first | (with_reducible assumption) | assumption)
      obtain ⟨ad104, A104_0, c104_0, e104, hx104_0, hl104_0, hi104_0⟩ := at_LInt HR1.out x6_1 p104 q104
      have hw104_0 := hx104_0
      obtain rfl : ad103 = ad104 := (by injection e104)
      replace hx104_0 := (HB.out.cell (yny w _ hx104_0)).trans hx104_0
      have HR104_0 := Aside0.mk hi104_0
      have HC104_0 := Aside0.mk hl104_0
      clear hi104_0 hl104_0
      replace p104 := eq_true p104
      replace q104 := eq_true q104
      have ea_ := yey (hx103_0.symm.trans hx104_0)
      injection ea_ with ea_ en_ ec_
      subst ea_
      subst ec_
      clear en_
      have p105 : 0 ≤ (0 : Int) := (by omega)
      have q105 : 0 < ((rd_LInt l1 x6_1).length : Int) := of_decide_eq_true (by first | (with_reducible assumption) | assumption)
      obtain ⟨ad105, e105, hx105_0⟩ := Kd.at_int HR104_0.out 0 p105 q105
      have hw105_0 := hx105_0
      (try rw [show ((0 : Int)).toNat = 0 from rfl] at hw105_0)
      (try rw [show 0 * 1 = 0 from rfl] at hw105_0)
      (try rw [Addr.add_zero'] at hw105_0)
      cases e105
      have qi105 : (0 < (rd_LInt l1 x6_1).length) = True := eq_true (by omega)
      (try rw [show ((0 : Int)).toNat = 0 from rfl] at hx105_0)
      (try rw [Addr.add_zero'] at hx105_0)
      replace hx105_0 := (HB.out.cell (yny w _ hx105_0)).trans hx105_0
      replace p105 := eq_true p105
      replace q105 := eq_true q105
      have p108 : 0 ≤ (x6_1 : Int) := of_decide_eq_true (by first | (with_reducible assumption) | assumption)
      have q108 : x6_1 < (l1.length : Int) := of_decide_eq_true (by first | (with_reducible assumption) | assumption)
      obtain ⟨ad108, A108_0, c108_0, e108, hx108_0, hl108_0, hi108_0⟩ := at_LInt HR1.out x6_1 p108 q108
      have hw108_0 := hx108_0
      obtain rfl : ad103 = ad108 := (by injection e108)
      replace hx108_0 := (HB.out.cell (yny w _ hx108_0)).trans hx108_0
      have HR108_0 := Aside0.mk hi108_0
      have HC108_0 := Aside0.mk hl108_0
      clear hi108_0 hl108_0
      replace p108 := eq_true p108
      replace q108 := eq_true q108
      have p109 : 0 ≤ (1 : Int) := (by omega)
      have q109 : 1 < ((rd_LInt l1 x6_1).length : Int) := of_decide_eq_true (by first | (with_reducible assumption) | assumption)
      obtain ⟨ad109, e109, hx109_0⟩ := Kd.at_int HR108_0.out 1 p109 q109
      have hw109_0 := hx109_0
      (try rw [show ((1 : Int)).toNat = 1 from rfl] at hw109_0)
      (try rw [show 1 * 1 = 1 from rfl] at hw109_0)
      (try simp only [Nat.reduceMul, Nat.reduceEqDiff, Go.Addr.add, ↓reduceIte] at hw109_0)
      cases e109
      have ea_ := yey (hx103_0.symm.trans hx108_0)
      injection ea_ with ea_ en_ ec_
      injection ea_ with ea_
      subst ea_
      clear en_ ec_
      (try simp only [show (1 : Int).toNat = 1 from rfl, Nat.reduceMul, Nat.reduceEqDiff, Go.Addr.add, ↓reduceIte] at hx109_0)
      have qi109 : (1 < (rd_LInt l1 x6_1).length) = True := eq_true (by omega)
      (try rw [show ((1 : Int)).toNat = 1 from rfl] at hx109_0)
      replace hx109_0 := (HB.out.cell (yny w _ hx109_0)).trans hx109_0
      replace p109 := eq_true p109
      replace q109 := eq_true q109
      refine start_ (n := 29) (S := fun w' => w'.cell? ⟨gb101, 0, none⟩ = some (.slice A0_0 l0_0.length c0_0) ∧ w'.cell? (ad103.add (x6_1).toNat) = some (.slice (some ad105) (rd_LInt l1 x6_1).length c103_0) ∧ w'.cell? (ad103.add (x6_1).toNat) = some (.slice (some ad105) (rd_LInt l1 x6_1).length c103_0) ∧ w'.cell? ad105 = some (.int .i64 (rd (rd_LInt l1 x6_1) 0)) ∧ w'.cell? (ad103.add (x6_1).toNat) = some (.slice (some ad105) (rd_LInt l1 x6_1).length c108_0) ∧ w'.cell? ⟨ad105.block, ad105.off + 1, none⟩ = some (.int .i64 (rd (rd_LInt l1 x6_1) 1))) (ds := []) #[false, false, false, false, false, false, false, false, false, false, false, false, false, false, false, false, false, false, false, false, false, false, false, false, false, false, false, false, false] (by kernel_rfl) rfl rfl ⟨(blk_cell BK101.out 0).trans rfl, ((HB.out.cell (yny w _ hw103_0)).trans hw103_0), ((HB.out.cell (yny w _ hw104_0)).trans hw104_0), ((HB.out.cell (yny w _ hw105_0)).trans hw105_0), ((HB.out.cell (yny w _ hw108_0)).trans hw108_0), ((HB.out.cell (yny w _ hw109_0)).trans hw109_0)⟩ (fun hHeld => ?_); refine with_tabW spec_ReversesOrientation.tab8 spec_ReversesOrientation.bits8 (fun HT_ HW_ => ?_)
      generalize wr.drew = w24 at BK101 HB HR103_0 HR104_0 HR108_0 hx103_0 hx104_0 hx105_0 hx108_0 hx109_0 hHeld ⊢
      refine pure_ (i := 0) (N := some 22) (v := ?_) (a' := ?_) #[true, false, false, false, false, false, false, false, false, false, false, false, false, false, false, false, false, false, false, false, false, false, false, false, false, false, false, false, false] rfl rfl (any_of HT_.out (by kernel_rfl)) (fun _ _ _ h => h) (Or.inl ⟨by rfl, ?_⟩) ?_ ?_
      rotate_left
      next =>
       intro w'
       go_simp
       with_reducible rfl
      rotate_left
      next =>
       simp only [Act.put, yay, yby, ycy, i64_w, i32_w]
       rfl
      refine pure_ (i := 1) (N := some 23) (v := ?_) (a' := ?_) #[true, true, false, false, false, false, false, false, false, false, false, false, false, false, false, false, false, false, false, false, false, false, false, false, false, false, false, false, false] rfl rfl (any_of HT_.out (by kernel_rfl)) (fun _ _ _ h => h) (Or.inl ⟨by rfl, ?_⟩) ?_ ?_
      rotate_left
      next =>
       intro w'
       go_simp
       with_reducible rfl
      rotate_left
      next =>
       simp only [Act.put, yay, yby, ycy, i64_w, i32_w]
       rfl
      refine pure_ (i := 2) (N := some 24) (v := ?_) (a' := ?_) #[true, true, true, false, false, false, false, false, false, false, false, false, false, false, false, false, false, false, false, false, false, false, false, false, false, false, false, false, false] rfl rfl (any_of HT_.out (by kernel_rfl)) (fun _ _ _ h => h) (Or.inl ⟨by rfl, ?_⟩) ?_ ?_
      rotate_left
      next =>
       intro w'
       go_simp
       with_reducible rfl
      rotate_left
      next =>
       simp only [Act.put, yay, yby, ycy, i64_w, i32_w]
       rfl
      refine take_ (i := 3) (N := some 25) (v := ?_) (a' := ?_) #[true, true, true, true, false, false, false, false, false, false, false, false, false, false, false, false, false, false, false, false, false, false, false, false, false, false, false, false, false] rfl rfl (take_ofW HT_.out HW_.out (by kernel_rfl)) (fun _ _ _ h => h) (Or.inl ⟨by rfl, ?_⟩) hHeld ?_ ?_
      rotate_left
      next =>
       rintro w' ⟨s0, s1, s2, s3, s4, s5⟩
       go_simp
       with_reducible rfl
      rotate_left
      next =>
       simp only [Act.put, yay, yby, ycy, i64_w, i32_w]
       rfl
      refine pure_ (i := 4) (N := some 26) (v := ?_) (a' := ?_) #[true, true, true, true, true, false, false, false, false, false, false, false, false, false, false, false, false, false, false, false, false, false, false, false, false, false, false, false, false] rfl rfl (any_of HT_.out (by kernel_rfl)) (fun _ _ _ h => h) (Or.inl ⟨by rfl, ?_⟩) ?_ ?_
      rotate_left
      next =>
       intro w'
       go_simp
       with_reducible rfl
      rotate_left
      next =>
       simp only [Act.put, yay, yby, ycy, i64_w, i32_w]
       rfl
      refine pure_ (i := 5) (N := some 27) (v := ?_) (a' := ?_) #[true, true, true, true, true, true, false, false, false, false, false, false, false, false, false, false, false, false, false, false, false, false, false, false, false, false, false, false, false] rfl rfl (any_of HT_.out (by kernel_rfl)) (fun _ _ _ h => h) (Or.inl ⟨by rfl, ?_⟩) ?_ ?_
      rotate_left
      next =>
       intro w'
       go_simp
       with_reducible rfl
      rotate_left
      next =>
       simp only [Act.put, yay, yby, ycy, i64_w, i32_w]
       rfl
      refine pure_ (i := 6) (N := some 28) (v := ?_) (a' := ?_) #[true, true, true, true, true, true, true, false, false, false, false, false, false, false, false, false, false, false, false, false, false, false, false, false, false, false, false, false, false] rfl rfl (any_of HT_.out (by kernel_rfl)) (fun _ _ _ h => h) (Or.inl ⟨by rfl, ?_⟩) ?_ ?_
      rotate_left
      next =>
       intro w'
       go_simp
       with_reducible rfl
      rotate_left
      next =>
       simp only [Act.put, yay, yby, ycy, i64_w, i32_w]
       rfl
      refine pure_ (i := 7) (N := some 29) (v := ?_) (a' := ?_) #[true, true, true, true, true, true, true, true, false, false, false, false, false, false, false, false, false, false, false, false, false, false, false, false, false, false, false, false, false] rfl rfl (any_of HT_.out (by kernel_rfl)) (fun _ _ _ h => h) (Or.inl ⟨by rfl, ?_⟩) ?_ ?_
      rotate_left
      next =>
       intro w'
       go_simp
       with_reducible rfl
      rotate_left
      next =>
       simp only [Act.put, yay, yby, ycy, i64_w, i32_w]
       rfl
      refine pure_ (i := 8) (N := some 30) (v := ?_) (a' := ?_) #[true, true, true, true, true, true, true, true, true, false, false, false, false, false, false, false, false, false, false, false, false, false, false, false, false, false, false, false, false] rfl rfl (any_of HT_.out (by kernel_rfl)) (fun _ _ _ h => h) (Or.inl ⟨by rfl, ?_⟩) ?_ ?_
      rotate_left
      next =>
       intro w'
       go_simp
       with_reducible rfl
      rotate_left
      next =>
       simp only [Act.put, yay, yby, ycy, i64_w, i32_w]
       rfl
      refine pure_ (i := 9) (N := some 31) (v := ?_) (a' := ?_) #[true, true, true, true, true, true, true, true, true, true, false, false, false, false, false, false, false, false, false, false, false, false, false, false, false, false, false, false, false] rfl rfl (any_of HT_.out (by kernel_rfl)) (fun _ _ _ h => h) (Or.inl ⟨by rfl, ?_⟩) ?_ ?_
      rotate_left
      next =>
       intro w'
       go_simp
       with_reducible rfl
      rotate_left
      next =>
       simp only [Act.put, yay, yby, ycy, i64_w, i32_w]
       rfl
      refine take_ (i := 10) (N := some 32) (v := ?_) (a' := ?_) #[true, true, true, true, true, true, true, true, true, true, true, false, false, false, false, false, false, false, false, false, false, false, false, false, false, false, false, false, false] rfl rfl (take_ofW HT_.out HW_.out (by kernel_rfl)) (fun _ _ _ h => h) (Or.inl ⟨by rfl, ?_⟩) hHeld ?_ ?_
      rotate_left
      next =>
       rintro w' ⟨s0, s1, s2, s3, s4, s5⟩
       go_simp
       with_reducible rfl
      rotate_left
      next =>
       simp only [Act.put, yay, yby, ycy, i64_w, i32_w]
       rfl
      refine pure_ (i := 11) (N := some 33) (v := ?_) (a' := ?_) #[true, true, true, true, true, true, true, true, true, true, true, true, false, false, false, false, false, false, false, false, false, false, false, false, false, false, false, false, false] rfl rfl (any_of HT_.out (by kernel_rfl)) (fun _ _ _ h => h) (Or.inl ⟨by rfl, ?_⟩) ?_ ?_
      rotate_left
      next =>
       intro w'
       go_simp
       with_reducible rfl
      rotate_left
      next =>
       simp only [Act.put, yay, yby, ycy, i64_w, i32_w]
       rfl
      refine take_ (i := 12) (N := some 34) (v := ?_) (a' := ?_) #[true, true, true, true, true, true, true, true, true, true, true, true, true, false, false, false, false, false, false, false, false, false, false, false, false, false, false, false, false] rfl rfl (take_ofW HT_.out HW_.out (by kernel_rfl)) (fun _ _ _ h => h) (Or.inl ⟨by rfl, ?_⟩) hHeld ?_ ?_
      rotate_left
      next =>
       rintro w' ⟨s0, s1, s2, s3, s4, s5⟩
       go_simp
       with_reducible rfl
      rotate_left
      next =>
       simp only [Act.put, yay, yby, ycy, i64_w, i32_w]
       rfl
      refine take_ (i := 13) (N := some 35) (v := ?_) (a' := ?_) #[true, true, true, true, true, true, true, true, true, true, true, true, true, true, false, false, false, false, false, false, false, false, false, false, false, false, false, false, false] rfl rfl (take_ofW HT_.out HW_.out (by kernel_rfl)) (fun _ _ _ h => h) (Or.inl ⟨by rfl, ?_⟩) hHeld ?_ ?_
      rotate_left
      next =>
       rintro w' ⟨s0, s1, s2, s3, s4, s5⟩
       go_simp
       with_reducible rfl
      rotate_left
      next =>
       simp only [Act.put, yay, yby, ycy, i64_w, i32_w]
       rfl
      refine one_ (i := 14) (N := some 36) #[true, true, true, true, true, true, true, true, true, true, true, true, true, true, true, false, false, false, false, false, false, false, false, false, false, false, false, false, false] rfl rfl (one_of HT_.out (by kernel_rfl)) (by decide) (fun K hK => ?_)
      refine goes_ Try.func66 (by kernel_rfl) rfl #[.agg #[.slice A0_0 l0_0.length c0_0]] (by rfl) rfl rfl (by (try simp only [yiy, yjy, yky]); first | done | rfl | (simp only [yly, ymy]; rfl)) ?_
      with_reducible refine (spec_l07Tets.calls _ _ l0_0 t106 _ ?side1 ?side2 A16.out).mono ?_
      (case side1 => repeat (first | exact (Kd.C_below HR0_0.out HB.out) | (with_reducible refine Kd.C_alloc ?_ _) | (with_reducible refine Kd.C_drewN ?_ _) | (with_reducible refine Kd.C_drew ?_)))
      (case side2 => exact HC0_0.out)
      rintro e w25 ⟨rfl, hb⟩
      refine ⟨_, rfl, ?_⟩
      have n0_ := Aside0.mk (blk_below (g := gb101) (o := .cells #[.slice A0_0 l0_0.length c0_0] 35 (0, 0)) (by (with_reducible repeat (first | refine blk_drewN ?_ _ | refine blk_drew ?_ | refine blk_alloc ?_ _)); exact BK101.out) hb)
      have n1_ := Aside0.mk (below_step (by repeat (first | (with_reducible first | exact HB.out | apply below_alloc | apply pw_below_drewN | apply below_drew1 | refine below_set ?_ GE101.out) | exact HB.out)) hb)
      clear BK101
      clear HB
      have BK101 := n0_
      have HB := n1_
      clear n0_ n1_
      (try clear hb)
      (try clear hb2)
      (try clear hk)
      (try clear hi)
      refine hK.out _ _ ⟨(blk_cell BK101.out 0).trans rfl, ((HB.out.cell (yny w _ hw103_0)).trans hw103_0), ((HB.out.cell (yny w _ hw104_0)).trans hw104_0), ((HB.out.cell (yny w _ hw105_0)).trans hw105_0), ((HB.out.cell (yny w _ hw108_0)).trans hw108_0), ((HB.out.cell (yny w _ hw109_0)).trans hw109_0)⟩ (fun hHeld => ?_)
      clear hK K
      refine norm_ (a' := ?_) ?_ ?_
      rotate_left
      next =>
       show Act.put _ (some 36) _ = _
       simp only [Act.put, yay, yby, ycy, i64_w, i32_w]
       rfl
      refine pure_ (i := 15) (N := some 37) (v := ?_) (a' := ?_) #[true, true, true, true, true, true, true, true, true, true, true, true, true, true, true, true, false, false, false, false, false, false, false, false, false, false, false, false, false] rfl rfl (any_of HT_.out (by kernel_rfl)) (fun _ _ _ h => h) (Or.inl ⟨by rfl, ?_⟩) ?_ ?_
      rotate_left
      next =>
       intro w'
       go_simp
       with_reducible rfl
      rotate_left
      next =>
       simp only [Act.put, yay, yby, ycy, i64_w, i32_w]
       rfl
      refine one_ (i := 16) (N := some 38) #[true, true, true, true, true, true, true, true, true, true, true, true, true, true, true, true, true, false, false, false, false, false, false, false, false, false, false, false, false] rfl rfl (one_of HT_.out (by kernel_rfl)) (by decide) (fun K hK => ?_)
      refine goes_ Try.func65 (by kernel_rfl) rfl #[.int .i64 (rd (rd_LInt l1 x6_1) 0), .int .i64 0, .int .i64 (wrap64 (t106 - 1))] (by rfl) rfl rfl (by (try simp only [yiy, yjy, yky]); first | done | rfl | (simp only [yly, ymy]; rfl)) ?_
      with_reducible refine (spec_l07In.calls (rd (rd_LInt l1 x6_1) 0) 0 (wrap64 (t106 - 1)) true _ A17.out).mono ?_
      rintro e w' ⟨rfl, ⟨nd, rfl⟩⟩
      refine ⟨_, rfl, ?_⟩
      refine hK.out _ _ ⟨(blk_cell BK101.out 0).trans rfl, ((HB.out.cell (yny w _ hw103_0)).trans hw103_0), ((HB.out.cell (yny w _ hw104_0)).trans hw104_0), ((HB.out.cell (yny w _ hw105_0)).trans hw105_0), ((HB.out.cell (yny w _ hw108_0)).trans hw108_0), ((HB.out.cell (yny w _ hw109_0)).trans hw109_0)⟩ (fun hHeld => ?_)
      clear hK K
      refine norm_ (a' := ?_) ?_ ?_
      rotate_left
      next =>
       show Act.put _ (some 38) _ = _
       simp only [Act.put, yay, yby, ycy, i64_w, i32_w]
       rfl
      refine pure_ (i := 17) (N := some 39) (v := ?_) (a' := ?_) #[true, true, true, true, true, true, true, true, true, true, true, true, true, true, true, true, true, true, false, false, false, false, false, false, false, false, false, false, false] rfl rfl (any_of HT_.out (by kernel_rfl)) (fun _ _ _ h => h) (Or.inl ⟨by rfl, ?_⟩) ?_ ?_
      rotate_left
      next =>
       intro w'
       go_simp
       with_reducible rfl
      rotate_left
      next =>
       simp only [Act.put, yay, yby, ycy, i64_w, i32_w]
       rfl
      refine pure_ (i := 18) (N := some 40) (v := ?_) (a' := ?_) #[true, true, true, true, true, true, true, true, true, true, true, true, true, true, true, true, true, true, true, false, false, false, false, false, false, false, false, false, false] rfl rfl (any_of HT_.out (by kernel_rfl)) (fun _ _ _ h => h) (Or.inl ⟨by rfl, ?_⟩) ?_ ?_
      rotate_left
      next =>
       intro w'
       go_simp
       with_reducible rfl
      rotate_left
      next =>
       simp only [Act.put, yay, yby, ycy, i64_w, i32_w]
       rfl
      refine pure_ (i := 19) (N := some 41) (v := ?_) (a' := ?_) #[true, true, true, true, true, true, true, true, true, true, true, true, true, true, true, true, true, true, true, true, false, false, false, false, false, false, false, false, false] rfl rfl (any_of HT_.out (by kernel_rfl)) (fun _ _ _ h => h) (Or.inl ⟨by rfl, ?_⟩) ?_ ?_
      rotate_left
      next =>
       intro w'
       go_simp
       with_reducible rfl
      rotate_left
      next =>
       simp only [Act.put, yay, yby, ycy, i64_w, i32_w]
       rfl
      refine pure_ (i := 20) (N := some 42) (v := ?_) (a' := ?_) #[true, true, true, true, true, true, true, true, true, true, true, true, true, true, true, true, true, true, true, true, true, false, false, false, false, false, false, false, false] rfl rfl (any_of HT_.out (by kernel_rfl)) (fun _ _ _ h => h) (Or.inl ⟨by rfl, ?_⟩) ?_ ?_
      rotate_left
      next =>
       intro w'
       go_simp
       with_reducible rfl
      rotate_left
      next =>
       simp only [Act.put, yay, yby, ycy, i64_w, i32_w]
       rfl
      refine pure_ (i := 21) (N := some 43) (v := ?_) (a' := ?_) #[true, true, true, true, true, true, true, true, true, true, true, true, true, true, true, true, true, true, true, true, true, true, false, false, false, false, false, false, false] rfl rfl (any_of HT_.out (by kernel_rfl)) (fun _ _ _ h => h) (Or.inl ⟨by rfl, ?_⟩) ?_ ?_
      rotate_left
      next =>
       intro w'
       go_simp
       with_reducible rfl
      rotate_left
      next =>
       simp only [Act.put, yay, yby, ycy, i64_w, i32_w]
       rfl
      refine pure_ (i := 22) (N := some 44) (v := ?_) (a' := ?_) #[true, true, true, true, true, true, true, true, true, true, true, true, true, true, true, true, true, true, true, true, true, true, true, false, false, false, false, false, false] rfl rfl (any_of HT_.out (by kernel_rfl)) (fun _ _ _ h => h) (Or.inl ⟨by rfl, ?_⟩) ?_ ?_
      rotate_left
      next =>
       intro w'
       go_simp
       with_reducible rfl
      rotate_left
      next =>
       simp only [Act.put, yay, yby, ycy, i64_w, i32_w]
       rfl
      refine take_ (i := 23) (N := some 45) (v := ?_) (a' := ?_) #[true, true, true, true, true, true, true, true, true, true, true, true, true, true, true, true, true, true, true, true, true, true, true, true, false, false, false, false, false] rfl rfl (take_ofW HT_.out HW_.out (by kernel_rfl)) (fun _ _ _ h => h) (Or.inl ⟨by rfl, ?_⟩) hHeld ?_ ?_
      rotate_left
      next =>
       rintro w' ⟨s0, s1, s2, s3, s4, s5⟩
       go_simp
       with_reducible rfl
      rotate_left
      next =>
       simp only [Act.put, yay, yby, ycy, i64_w, i32_w]
       rfl
      refine pure_ (i := 24) (N := some 46) (v := ?_) (a' := ?_) #[true, true, true, true, true, true, true, true, true, true, true, true, true, true, true, true, true, true, true, true, true, true, true, true, true, false, false, false, false] rfl rfl (any_of HT_.out (by kernel_rfl)) (fun _ _ _ h => h) (Or.inl ⟨by rfl, ?_⟩) ?_ ?_
      rotate_left
      next =>
       intro w'
       go_simp
       with_reducible rfl
      rotate_left
      next =>
       simp only [Act.put, yay, yby, ycy, i64_w, i32_w]
       rfl
      refine take_ (i := 25) (N := some 47) (v := ?_) (a' := ?_) #[true, true, true, true, true, true, true, true, true, true, true, true, true, true, true, true, true, true, true, true, true, true, true, true, true, true, false, false, false] rfl rfl (take_ofW HT_.out HW_.out (by kernel_rfl)) (fun _ _ _ h => h) (Or.inl ⟨by rfl, ?_⟩) hHeld ?_ ?_
      rotate_left
      next =>
       rintro w' ⟨s0, s1, s2, s3, s4, s5⟩
       go_simp
       with_reducible rfl
      rotate_left
      next =>
       simp only [Act.put, yay, yby, ycy, i64_w, i32_w]
       rfl
      refine one_ (i := 26) (N := some 48) #[true, true, true, true, true, true, true, true, true, true, true, true, true, true, true, true, true, true, true, true, true, true, true, true, true, true, true, false, false] rfl rfl (one_of HT_.out (by kernel_rfl)) (by decide) (fun K hK => ?_)
      refine goes_ Try.func65 (by kernel_rfl) rfl #[.int .i64 (rd (rd_LInt l1 x6_1) 1), .int .i64 0, .int .i64 3] (by rfl) rfl rfl (by (try simp only [yiy, yjy, yky]); first | done | rfl | (simp only [yly, ymy]; rfl)) ?_
      with_reducible refine (spec_l07In.calls (rd (rd_LInt l1 x6_1) 1) 0 3 false _ A20.out).mono ?_
      rintro e w' ⟨rfl, ⟨nd, rfl⟩⟩
      refine ⟨_, rfl, ?_⟩
      refine hK.out _ _ ⟨(blk_cell BK101.out 0).trans rfl, ((HB.out.cell (yny w _ hw103_0)).trans hw103_0), ((HB.out.cell (yny w _ hw104_0)).trans hw104_0), ((HB.out.cell (yny w _ hw105_0)).trans hw105_0), ((HB.out.cell (yny w _ hw108_0)).trans hw108_0), ((HB.out.cell (yny w _ hw109_0)).trans hw109_0)⟩ (fun hHeld => ?_)
      clear hK K
      refine norm_ (a' := ?_) ?_ ?_
      rotate_left
      next =>
       show Act.put _ (some 48) _ = _
       simp only [Act.put, yay, yby, ycy, i64_w, i32_w]
       rfl
      refine pure_ (i := 27) (N := some 49) (v := ?_) (a' := ?_) #[true, true, true, true, true, true, true, true, true, true, true, true, true, true, true, true, true, true, true, true, true, true, true, true, true, true, true, true, false] rfl rfl (any_of HT_.out (by kernel_rfl)) (fun _ _ _ h => h) (Or.inl ⟨by rfl, ?_⟩) ?_ ?_
      rotate_left
      next =>
       intro w'
       go_simp
       with_reducible rfl
      rotate_left
      next =>
       simp only [Act.put, yay, yby, ycy, i64_w, i32_w]
       rfl
      refine pure_ (i := 28) (N := some 50) (v := ?_) (a' := ?_) #[true, true, true, true, true, true, true, true, true, true, true, true, true, true, true, true, true, true, true, true, true, true, true, true, true, true, true, true, true] rfl rfl (any_of HT_.out (by kernel_rfl)) (fun _ _ _ h => h) (Or.inl ⟨by rfl, ?_⟩) ?_ ?_
      rotate_left
      next =>
       intro w'
       go_simp
       with_reducible rfl
      rotate_left
      next =>
       simp only [Act.put, yay, yby, ycy, i64_w, i32_w]
       rfl
      refine done_ (done_of HT_.out (by kernel_rfl)) ?_
      try go_wp2
      go_ret2
      exact ⟨by first | rfl | (simp [errW_none, errW_some] <;> rfl) | (simp [*, errW_none, errW_some] <;> rfl), by repeat (first | (with_reducible first | exact HB.out | apply below_alloc | apply pw_below_drewN | apply below_drew1 | refine below_set ?_ GE101.out) | exact HB.out)⟩
    next =>
     rw [if_neg c12] at H
     have c12b0 : decide (x6_1 < (l1.length : Int)) = false := yhy c12
     clear c12
     have H' := Aside0.mk H
     clear H
     go_wp2
     go_loopg [7, 8] k1 (fun kq v7 v8 w' => ∃ (x7_2 : Bool) (x8_2 : Int), v7 = .bool x7_2 ∧ v8 = .int .i64 x8_2 ∧ Aside0 (spec_ReversesOrientation.l1 kq l1 x7_2 x8_2 l0_0 = some (r1, r2)) ∧ Aside0 (kq ≤ k1) ∧ Aside0 (w'.heap[gb101]? = some (.cells #[(.slice A0_0 l0_0.length c0_0)] 35 (0, 0))) ∧ Aside0 (Below w.heap.size w w'))
     case atStart => exact ⟨(false), (0), (by first | rfl | (simp; done) | (simp [*]; done)), (by first | rfl | (simp; done) | (simp [*]; done)), H', ⟨yoy _⟩, ⟨by (with_reducible repeat (first | refine blk_drewN ?_ _ | refine blk_drew ?_ | refine blk_alloc ?_ _)); exact BK101.out⟩, ⟨by repeat (first | (with_reducible first | exact HB.out | apply below_alloc | apply pw_below_drewN | apply below_drew1 | refine below_set ?_ GE101.out) | exact HB.out)⟩⟩
     case round =>
      clear H'
      try clear c1
      try clear p1
      try clear q1
      try clear hx1
      try clear qi1
      try clear p2
      try clear c6
      try clear p6
      try clear c10
      try clear p10
      try clear q10
      try clear hx10
      try clear qi10
      try clear c12
      try clear c12b0
      try clear c13
      try clear c14
      try clear c14b0
      try clear c14b1
      try clear c15
      try clear c18
      try clear c19
      try clear hx103_0
      try clear hx104_0
      try clear hx105_0
      try clear p103
      try clear p104
      try clear p105
      try clear q103
      try clear q104
      try clear q105
      obtain ⟨x7_2, x8_2, rfl, rfl, HA, HK2, BK101, HB⟩ := hrel
      cases gk with
      | zero => exact absurd HA.out (by simp [spec_ReversesOrientation.l1])
      | succ k2 =>
       have H := HA.out
       clear HA
       simp only [spec_ReversesOrientation.l1] at H
       by_cases c29 : x8_2 < (l1.length : Int)
       rotate_left
       next =>
        rw [if_neg c29] at H
        have c29b0 : decide (x8_2 < (l1.length : Int)) = false := yhy c29
        clear c29
        by_cases c61 : (l1.length : Int) = 0
        next =>
         rw [if_pos c61] at H
         have c61b0 : ((l1.length : Int) == 0) = true := beq_iff_eq.mpr c61
         have c61b1 : ((l1.length : Int) != 0) = false := bne_eq_false_iff_eq.mpr c61
         clear c61
         simp only [Option.some.injEq, Prod.mk.injEq] at H
         obtain ⟨rfl, rfl⟩ := H
         go_wp2
         go_ret2
         exact ⟨by first | rfl | (simp [errW_none, errW_some] <;> rfl) | (simp [*, errW_none, errW_some] <;> rfl), by repeat (first | (with_reducible first | exact HB.out | apply below_alloc | apply pw_below_drewN | apply below_drew1 | refine below_set ?_ GE101.out) | exact HB.out)⟩
        next =>
         rw [if_neg c61] at H
         have c61b0 : ((l1.length : Int) == 0) = false := beq_eq_false_iff_ne.mpr c61
         have c61b1 : ((l1.length : Int) != 0) = true := bne_iff_ne.mpr c61
         have c61b2 : ¬ (l1 = []) := fun h_ => c61 (by rw [h_]; rfl)
         simp only [Option.some.injEq, Prod.mk.injEq] at H
         obtain ⟨rfl, rfl⟩ := H
         go_wp2
         go_ret2
         exact ⟨by first | rfl | (simp [errW_none, errW_some] <;> rfl) | (simp [*, errW_none, errW_some] <;> rfl), by repeat (first | (with_reducible first | exact HB.out | apply below_alloc | apply pw_below_drewN | apply below_drew1 | refine below_set ?_ GE101.out) | exact HB.out)⟩
       rw [if_pos c29] at H
       have c29b0 : decide (x8_2 < (l1.length : Int)) = true := ygy c29
       clear c29
       by_cases c30 : 0 ≤ x8_2
       rotate_left
       next =>
        rw [if_neg c30] at H
        exact absurd H (by simp)
       rw [if_pos c30] at H
       have c30b0 : decide (0 ≤ x8_2) = true := ygy c30
       clear c30
       by_cases c31 : 0 < ((rd_LInt l1 x8_2).length : Int)
       rotate_left
       next =>
        rw [if_neg c31] at H
        exact absurd H (by simp)
       rw [if_pos c31] at H
       have c31b0 : decide (0 < ((rd_LInt l1 x8_2).length : Int)) = true := ygy c31
       have c31b1 : decide (0 < (rd_LInt l1 x8_2).length) = true := ygy (by omega)
       clear c31
       by_cases c32 : 0 ≤ (rd (rd_LInt l1 x8_2) 0)
       rotate_left
       next =>
        rw [if_neg c32] at H
        exact absurd H (by simp)
       rw [if_pos c32] at H
       have c32b0 : decide (0 ≤ (rd (rd_LInt l1 x8_2) 0)) = true := ygy c32
       clear c32
       by_cases c33 : (rd (rd_LInt l1 x8_2) 0) < (l0_0.length : Int)
       rotate_left
       next =>
        rw [if_neg c33] at H
        exact absurd H (by simp)
       rw [if_pos c33] at H
       have c33b0 : decide ((rd (rd_LInt l1 x8_2) 0) < (l0_0.length : Int)) = true := ygy c33
       clear c33
       by_cases c34 : 1 < ((rd_LInt l1 x8_2).length : Int)
       rotate_left
       next =>
        rw [if_neg c34] at H
        exact absurd H (by simp)
       rw [if_pos c34] at H
       have c34b0 : decide (1 < ((rd_LInt l1 x8_2).length : Int)) = true := ygy c34
       have c34b1 : decide (1 < (rd_LInt l1 x8_2).length) = true := ygy (by omega)
       clear c34
       by_cases c35 : 0 ≤ (rd (rd_LInt l1 x8_2) 1)
       rotate_left
       next =>
        rw [if_neg c35] at H
        exact absurd H (by simp)
       rw [if_pos c35] at H
       have c35b0 : decide (0 ≤ (rd (rd_LInt l1 x8_2) 1)) = true := ygy c35
       clear c35
       by_cases c36 : (rd (rd_LInt l1 x8_2) 1) < ((rd_LFace l0_0 (rd (rd_LInt l1 x8_2) 0)).length : Int)
       rotate_left
       next =>
        rw [if_neg c36] at H
        exact absurd H (by simp)
       rw [if_pos c36] at H
       have c36b0 : decide ((rd (rd_LInt l1 x8_2) 1) < ((rd_LFace l0_0 (rd (rd_LInt l1 x8_2) 0)).length : Int)) = true := ygy c36
       clear c36
       have HC37 := Aside0.mk H
       clear H
       try go_wp2
       have n0_ := Aside0.mk (blk_drew BK101.out)
       have n1_ := Aside0.mk (below_drew1 HB.out)
       clear BK101
       clear HB
       have BK101 := n0_
       have HB := n1_
       clear n0_ n1_
       have p111 : 0 ≤ (x8_2 : Int) := of_decide_eq_true (by first | (with_reducible assumption) | assumption)
       have q111 : x8_2 < (l1.length : Int) := of_decide_eq_true (by first | (with_reducible assumption) | assumption)
       obtain ⟨ad111, A111_0, c111_0, e111, hx111_0, hl111_0, hi111_0⟩ := at_LInt HR1.out x8_2 p111 q111
       have hw111_0 := hx111_0
       cases e111
       replace hx111_0 := (HB.out.cell (yny w _ hx111_0)).trans hx111_0
       have HR111_0 := Aside0.mk hi111_0
       have HC111_0 := Aside0.mk hl111_0
       clear hi111_0 hl111_0
       replace p111 := eq_true p111
       replace q111 := eq_true q111
       have p112 : 0 ≤ (0 : Int) := (by omega)
       have q112 : 0 < ((rd_LInt l1 x8_2).length : Int) := of_decide_eq_true (by first | (with_reducible assumption) | assumption)
       obtain ⟨ad112, e112, hx112_0⟩ := Kd.at_int HR111_0.out 0 p112 q112
       have hw112_0 := hx112_0
       (try rw [show ((0 : Int)).toNat = 0 from rfl] at hw112_0)
       (try rw [show 0 * 1 = 0 from rfl] at hw112_0)
       (try rw [Addr.add_zero'] at hw112_0)
       cases e112
       have qi112 : (0 < (rd_LInt l1 x8_2).length) = True := eq_true (by omega)
       (try rw [show ((0 : Int)).toNat = 0 from rfl] at hx112_0)
       (try rw [Addr.add_zero'] at hx112_0)
       replace hx112_0 := (HB.out.cell (yny w _ hx112_0)).trans hx112_0
       replace p112 := eq_true p112
       replace q112 := eq_true q112
       have p113 : 0 ≤ ((rd (rd_LInt l1 x8_2) 0) : Int) := of_decide_eq_true (by first | (with_reducible assumption) | assumption)
       have q113 : (rd (rd_LInt l1 x8_2) 0) < (l0_0.length : Int) := of_decide_eq_true (by first | (with_reducible assumption) | assumption)
       obtain ⟨ad113, A113_0, c113_0, e113, hx113_0, hl113_0, hi113_0⟩ := at_LFace HR0_0.out (rd (rd_LInt l1 x8_2) 0) p113 q113
       have hw113_0 := hx113_0
       cases e113
       replace hx113_0 := (HB.out.cell (yny w _ hx113_0)).trans hx113_0
       have HR113_0 := Aside0.mk hi113_0
       have HC113_0 := Aside0.mk hl113_0
       clear hi113_0 hl113_0
       replace p113 := eq_true p113
       replace q113 := eq_true q113
       have p114 : 0 ≤ (x8_2 : Int) := of_decide_eq_true (by first | (with_reducible assumption) | assumption)
       have q114 : x8_2 < (l1.length : Int) := of_decide_eq_true (by first | (with_reducible assumption) | assumption)
       obtain ⟨ad114, A114_0, c114_0, e114, hx114_0, hl114_0, hi114_0⟩ := at_LInt HR1.out x8_2 p114 q114
       have hw114_0 := hx114_0
       obtain rfl : ad111 = ad114 := (by injection e114)
       replace hx114_0 := (HB.out.cell (yny w _ hx114_0)).trans hx114_0
       have HR114_0 := Aside0.mk hi114_0
       have HC114_0 := Aside0.mk hl114_0
       clear hi114_0 hl114_0
       replace p114 := eq_true p114
       replace q114 := eq_true q114
       have ea_ := yey (hx111_0.symm.trans hx114_0)
       injection ea_ with ea_ en_ ec_
       subst ea_
       subst ec_
       clear en_
       have p115 : 0 ≤ (1 : Int) := (by omega)
       have q115 : 1 < ((rd_LInt l1 x8_2).length : Int) := of_decide_eq_true (by first | (with_reducible assumption) | assumption)
       obtain ⟨ad115, e115, hx115_0⟩ := Kd.at_int HR114_0.out 1 p115 q115
       have hw115_0 := hx115_0
       (try rw [show ((1 : Int)).toNat = 1 from rfl] at hw115_0)
       (try rw [show 1 * 1 = 1 from rfl] at hw115_0)
       (try simp only [Nat.reduceMul, Nat.reduceEqDiff, Go.Addr.add, ↓reduceIte] at hw115_0)
       cases e115
       (try simp only [show (1 : Int).toNat = 1 from rfl, Nat.reduceMul, Nat.reduceEqDiff, Go.Addr.add, ↓reduceIte] at hx115_0)
       have qi115 : (1 < (rd_LInt l1 x8_2).length) = True := eq_true (by omega)
       (try rw [show ((1 : Int)).toNat = 1 from rfl] at hx115_0)
       replace hx115_0 := (HB.out.cell (yny w _ hx115_0)).trans hx115_0
       replace p115 := eq_true p115
       replace q115 := eq_true q115
       have p116 : 0 ≤ ((rd (rd_LInt l1 x8_2) 1) : Int) := of_decide_eq_true (by first | (with_reducible assumption) | assumption)
       have q116 : (rd (rd_LInt l1 x8_2) 1) < ((rd_LFace l0_0 (rd (rd_LInt l1 x8_2) 0)).length : Int) := of_decide_eq_true (by first | (with_reducible assumption) | assumption)
       obtain ⟨ad116, e116, hx116_0, hx116_1⟩ := at_Face HR113_0.out (rd (rd_LInt l1 x8_2) 1) p116 q116
       have hw116_1 := hx116_1
       have hw116_0 := hx116_0
       cases e116
       replace hx116_0 := (HB.out.cell (yny w _ hx116_0)).trans hx116_0
       replace hx116_1 := (HB.out.cell (yny w _ hx116_1)).trans hx116_1
       replace p116 := eq_true p116
       replace q116 := eq_true q116
       refine start_ (n := 20) (S := fun w' => w'.cell? ⟨gb101, 0, none⟩ = some (.slice (some ad113) l0_0.length c0_0) ∧ w'.cell? (ad111.add (x8_2).toNat) = some (.slice (some ad112) (rd_LInt l1 x8_2).length c111_0) ∧ w'.cell? ad112 = some (.int .i64 (rd (rd_LInt l1 x8_2) 0)) ∧ w'.cell? (ad113.add ((rd (rd_LInt l1 x8_2) 0)).toNat) = some (.slice (some ad116) (rd_LFace l0_0 (rd (rd_LInt l1 x8_2) 0)).length c113_0) ∧ w'.cell? (ad111.add (x8_2).toNat) = some (.slice (some ad112) (rd_LInt l1 x8_2).length c111_0) ∧ w'.cell? ⟨ad112.block, ad112.off + 1, none⟩ = some (.int .i64 (rd (rd_LInt l1 x8_2) 1)) ∧ w'.cell? (ad116.add (((rd (rd_LInt l1 x8_2) 1)).toNat * 2)) = some (.int .i64 ((rd_Face (rd_LFace l0_0 (rd (rd_LInt l1 x8_2) 0)) (rd (rd_LInt l1 x8_2) 1)).f0)) ∧ w'.cell? ⟨(ad116.add (((rd (rd_LInt l1 x8_2) 1)).toNat * 2)).block, (ad116.add (((rd (rd_LInt l1 x8_2) 1)).toNat * 2)).off + 1, none⟩ = some (.int .i64 ((rd_Face (rd_LFace l0_0 (rd (rd_LInt l1 x8_2) 0)) (rd (rd_LInt l1 x8_2) 1)).f1))) (ds := []) #[false, false, false, false, false, false, false, false, false, false, false, false, false, false, false, false, false, false, false, false] (by kernel_rfl) rfl rfl ⟨(blk_cell BK101.out 0).trans rfl, ((HB.out.cell (yny w _ hw111_0)).trans hw111_0), ((HB.out.cell (yny w _ hw112_0)).trans hw112_0), ((HB.out.cell (yny w _ hw113_0)).trans hw113_0), ((HB.out.cell (yny w _ hw114_0)).trans hw114_0), ((HB.out.cell (yny w _ hw115_0)).trans hw115_0), ((HB.out.cell (yny w _ hw116_0)).trans hw116_0), ((HB.out.cell (yny w _ hw116_1)).trans hw116_1)⟩ (fun hHeld => ?_); refine with_tabW spec_ReversesOrientation.tab14 spec_ReversesOrientation.bits14 (fun HT_ HW_ => ?_)
       generalize wr.drew = w38 at BK101 HB HR111_0 HR113_0 HR114_0 hx111_0 hx112_0 hx113_0 hx114_0 hx115_0 hx116_0 hx116_1 hHeld ⊢
       refine pure_ (i := 0) (N := some 57) (v := ?_) (a' := ?_) #[true, false, false, false, false, false, false, false, false, false, false, false, false, false, false, false, false, false, false, false] rfl rfl (any_of HT_.out (by kernel_rfl)) (fun _ _ _ h => h) (Or.inl ⟨by rfl, ?_⟩) ?_ ?_
       rotate_left
       next =>
        intro w'
        go_simp
        with_reducible rfl
       rotate_left
       next =>
        simp only [Act.put, yay, yby, ycy, i64_w, i32_w]
        rfl
       refine pure_ (i := 2) (N := some 59) (v := ?_) (a' := ?_) #[true, false, true, false, false, false, false, false, false, false, false, false, false, false, false, false, false, false, false, false] rfl rfl (any_of HT_.out (by kernel_rfl)) (fun _ _ _ h => h) (Or.inl ⟨by rfl, ?_⟩) ?_ ?_
       rotate_left
       next =>
        intro w'
        go_simp
        with_reducible rfl
       rotate_left
       next =>
        simp only [Act.put, yay, yby, ycy, i64_w, i32_w]
        rfl
       refine pure_ (i := 3) (N := some 60) (v := ?_) (a' := ?_) #[true, false, true, true, false, false, false, false, false, false, false, false, false, false, false, false, false, false, false, false] rfl rfl (any_of HT_.out (by kernel_rfl)) (fun _ _ _ h => h) (Or.inl ⟨by rfl, ?_⟩) ?_ ?_
       rotate_left
       next =>
        intro w'
        go_simp
        with_reducible rfl
       rotate_left
       next =>
        simp only [Act.put, yay, yby, ycy, i64_w, i32_w]
        rfl
       refine pure_ (i := 4) (N := some 61) (v := ?_) (a' := ?_) #[true, false, true, true, true, false, false, false, false, false, false, false, false, false, false, false, false, false, false, false] rfl rfl (any_of HT_.out (by kernel_rfl)) (fun _ _ _ h => h) (Or.inl ⟨by rfl, ?_⟩) ?_ ?_
       rotate_left
       next =>
        intro w'
        go_simp
        with_reducible rfl
       rotate_left
       next =>
        simp only [Act.put, yay, yby, ycy, i64_w, i32_w]
        rfl
       refine pure_ (i := 10) (N := some 67) (v := ?_) (a' := ?_) #[true, false, true, true, true, false, false, false, false, false, true, false, false, false, false, false, false, false, false, false] rfl rfl (any_of HT_.out (by kernel_rfl)) (fun _ _ _ h => h) (Or.inl ⟨by rfl, ?_⟩) ?_ ?_
       rotate_left
       next =>
        intro w'
        go_simp
        with_reducible rfl
       rotate_left
       next =>
        simp only [Act.put, yay, yby, ycy, i64_w, i32_w]
        rfl
       refine pure_ (i := 11) (N := some 68) (v := ?_) (a' := ?_) #[true, false, true, true, true, false, false, false, false, false, true, true, false, false, false, false, false, false, false, false] rfl rfl (any_of HT_.out (by kernel_rfl)) (fun _ _ _ h => h) (Or.inl ⟨by rfl, ?_⟩) ?_ ?_
       rotate_left
       next =>
        intro w'
        go_simp
        with_reducible rfl
       rotate_left
       next =>
        simp only [Act.put, yay, yby, ycy, i64_w, i32_w]
        rfl
       refine pure_ (i := 12) (N := some 69) (v := ?_) (a' := ?_) #[true, false, true, true, true, false, false, false, false, false, true, true, true, false, false, false, false, false, false, false] rfl rfl (any_of HT_.out (by kernel_rfl)) (fun _ _ _ h => h) (Or.inl ⟨by rfl, ?_⟩) ?_ ?_
       rotate_left
       next =>
        intro w'
        go_simp
        with_reducible rfl
       rotate_left
       next =>
        simp only [Act.put, yay, yby, ycy, i64_w, i32_w]
        rfl
       refine take_ (i := 1) (N := some 58) (v := ?_) (a' := ?_) #[true, true, true, true, true, false, false, false, false, false, true, true, true, false, false, false, false, false, false, false] rfl rfl (take_ofW HT_.out HW_.out (by kernel_rfl)) (fun _ _ _ h => h) (Or.inl ⟨by rfl, ?_⟩) hHeld ?_ ?_
       rotate_left
       next =>
        rintro w' ⟨s0, s1, s2, s3, s4, s5, s6, s7⟩
        go_simp
        with_reducible rfl
       rotate_left
       next =>
        simp only [Act.put, yay, yby, ycy, i64_w, i32_w]
        rfl
       refine take_ (i := 5) (N := some 62) (v := ?_) (a' := ?_) #[true, true, true, true, true, true, false, false, false, false, true, true, true, false, false, false, false, false, false, false] rfl rfl (take_ofW HT_.out HW_.out (by kernel_rfl)) (fun _ _ _ h => h) (Or.inl ⟨by rfl, ?_⟩) hHeld ?_ ?_
       rotate_left
       next =>
        rintro w' ⟨s0, s1, s2, s3, s4, s5, s6, s7⟩
        go_simp
        with_reducible rfl
       rotate_left
       next =>
        simp only [Act.put, yay, yby, ycy, i64_w, i32_w]
        rfl
       refine pure_ (i := 6) (N := some 63) (v := ?_) (a' := ?_) #[true, true, true, true, true, true, true, false, false, false, true, true, true, false, false, false, false, false, false, false] rfl rfl (any_of HT_.out (by kernel_rfl)) (fun _ _ _ h => h) (Or.inl ⟨by rfl, ?_⟩) ?_ ?_
       rotate_left
       next =>
        intro w'
        go_simp
        with_reducible rfl
       rotate_left
       next =>
        simp only [Act.put, yay, yby, ycy, i64_w, i32_w]
        rfl
       refine take_ (i := 7) (N := some 64) (v := ?_) (a' := ?_) #[true, true, true, true, true, true, true, true, false, false, true, true, true, false, false, false, false, false, false, false] rfl rfl (take_ofW HT_.out HW_.out (by kernel_rfl)) (fun _ _ _ h => h) (Or.inl ⟨by rfl, ?_⟩) hHeld ?_ ?_
       rotate_left
       next =>
        rintro w' ⟨s0, s1, s2, s3, s4, s5, s6, s7⟩
        go_simp
        with_reducible rfl
       rotate_left
       next =>
        simp only [Act.put, yay, yby, ycy, i64_w, i32_w]
        rfl
       refine pure_ (i := 8) (N := some 65) (v := ?_) (a' := ?_) #[true, true, true, true, true, true, true, true, true, false, true, true, true, false, false, false, false, false, false, false] rfl rfl (any_of HT_.out (by kernel_rfl)) (fun _ _ _ h => h) (Or.inl ⟨by rfl, ?_⟩) ?_ ?_
       rotate_left
       next =>
        intro w'
        go_simp
        with_reducible rfl
       rotate_left
       next =>
        simp only [Act.put, yay, yby, ycy, i64_w, i32_w]
        rfl
       refine take_ (i := 9) (N := some 66) (v := ?_) (a' := ?_) #[true, true, true, true, true, true, true, true, true, true, true, true, true, false, false, false, false, false, false, false] rfl rfl (take_ofW HT_.out HW_.out (by kernel_rfl)) (fun _ _ _ h => h) (Or.inl ⟨by rfl, ?_⟩) hHeld ?_ ?_
       rotate_left
       next =>
        rintro w' ⟨s0, s1, s2, s3, s4, s5, s6, s7⟩
        go_simp
        with_reducible rfl
       rotate_left
       next =>
        simp only [Act.put, yay, yby, ycy, i64_w, i32_w]
        rfl
       refine take_ (i := 13) (N := some 70) (v := ?_) (a' := ?_) #[true, true, true, true, true, true, true, true, true, true, true, true, true, true, false, false, false, false, false, false] rfl rfl (take_ofW HT_.out HW_.out (by kernel_rfl)) (fun _ _ _ h => h) (Or.inl ⟨by rfl, ?_⟩) hHeld ?_ ?_
       rotate_left
       next =>
        rintro w' ⟨s0, s1, s2, s3, s4, s5, s6, s7⟩
        go_simp
        with_reducible rfl
       rotate_left
       next =>
        simp only [Act.put, yay, yby, ycy, i64_w, i32_w]
        rfl
       refine pure_ (i := 14) (N := some 71) (v := ?_) (a' := ?_) #[true, true, true, true, true, true, true, true, true, true, true, true, true, true, true, false, false, false, false, false] rfl rfl (any_of HT_.out (by kernel_rfl)) (fun _ _ _ h => h) (Or.inl ⟨by rfl, ?_⟩) ?_ ?_
       rotate_left
       next =>
        intro w'
        go_simp
        with_reducible rfl
       rotate_left
       next =>
        simp only [Act.put, yay, yby, ycy, i64_w, i32_w]
        rfl
       refine take_ (i := 15) (N := some 72) (v := ?_) (a' := ?_) #[true, true, true, true, true, true, true, true, true, true, true, true, true, true, true, true, false, false, false, false] rfl rfl (take_ofW HT_.out HW_.out (by kernel_rfl)) (fun _ _ _ h => h) (Or.inl ⟨by rfl, ?_⟩) hHeld ?_ ?_
       rotate_left
       next =>
        rintro w' ⟨s0, s1, s2, s3, s4, s5, s6, s7⟩
        go_simp
        with_reducible rfl
       rotate_left
       next =>
        simp only [Act.put, yay, yby, ycy, i64_w, i32_w]
        rfl
       refine pure_ (i := 16) (N := some 73) (v := ?_) (a' := ?_) #[true, true, true, true, true, true, true, true, true, true, true, true, true, true, true, true, true, false, false, false] rfl rfl (any_of HT_.out (by kernel_rfl)) (fun _ _ _ h => h) (Or.inl ⟨by rfl, ?_⟩) ?_ ?_
       rotate_left
       next =>
        intro w'
        go_simp
        with_reducible rfl
       rotate_left
       next =>
        simp only [Act.put, yay, yby, ycy, i64_w, i32_w]
        rfl
       refine take_ (i := 17) (N := some 74) (v := ?_) (a' := ?_) #[true, true, true, true, true, true, true, true, true, true, true, true, true, true, true, true, true, true, false, false] rfl rfl (take_ofW HT_.out HW_.out (by kernel_rfl)) (fun _ _ _ h => h) (Or.inl ⟨by rfl, ?_⟩) hHeld ?_ ?_
       rotate_left
       next =>
        rintro w' ⟨s0, s1, s2, s3, s4, s5, s6, s7⟩
        go_simp
        with_reducible rfl
       rotate_left
       next =>
        simp only [Act.put, yay, yby, ycy, i64_w, i32_w]
        rfl
       refine one_ (i := 18) (N := some 9) #[true, true, true, true, true, true, true, true, true, true, true, true, true, true, true, true, true, true, true, false] rfl rfl (one_of HT_.out (by kernel_rfl)) (by decide) (fun K hK => ?_)
       refine box_step ?hg (N := 9) ?hd (cs := #[.int .i64 0, .int .i64 0]) (t := 75) ?hr ?_; (case hd => rfl); (case hg => rfl); (case hr => first | (go_simp; done) | (go_simp; rfl))
       intro gb117 hg w39 hbox hb
       have n0_ := Aside0.mk (blk_below (g := gb101) (o := .cells #[.slice (some ad113) l0_0.length c0_0] 35 (0, 0)) (by (with_reducible repeat (first | refine blk_drewN ?_ _ | refine blk_drew ?_ | refine blk_alloc ?_ _)); exact BK101.out) hb)
       have n1_ := Aside0.mk (below_step (by repeat (first | (with_reducible first | exact HB.out | apply below_alloc | apply pw_below_drewN | apply below_drew1 | refine below_set ?_ GE101.out) | exact HB.out)) hb)
       have n2_ := Aside0.mk (hbox)
       have n3_ := Aside0.mk ((by rw [hg]; exact (below_size (by repeat (first | (with_reducible first | exact HB.out | apply below_alloc | apply pw_below_drewN | apply below_drew1 | refine below_set ?_ GE101.out) | exact HB.out))) : w.heap.size ≤ gb117))
       have n4_ := Aside0.mk ((by rw [hg]; exact (below_size (by repeat (first | (with_reducible first | exact HB.out | apply below_alloc | apply pw_below_drewN | apply below_drew1 | refine below_set ?_ GE101.out) | exact HB.out))) : w.heap.size ≤ gb117))
       have n5_ := Aside0.mk ((by rw [hg]; exact Nat.ne_of_lt (blk_lt (g := gb101) (o := .cells #[.slice (some ad113) l0_0.length c0_0] 35 (0, 0)) (by (with_reducible repeat (first | refine blk_drewN ?_ _ | refine blk_drew ?_ | refine blk_alloc ?_ _)); exact BK101.out)) : gb101 ≠ gb117))
       have n6_ := Aside0.mk ((by rw [hg]; exact Nat.ne_of_gt (blk_lt (g := gb101) (o := .cells #[.slice (some ad113) l0_0.length c0_0] 35 (0, 0)) (by (with_reducible repeat (first | refine blk_drewN ?_ _ | refine blk_drew ?_ | refine blk_alloc ?_ _)); exact BK101.out)) : gb117 ≠ gb101))
       clear BK101
       clear HB
       have BK101 := n0_
       have HB := n1_
       have BK117 := n2_
       have GW117 := n3_
       have GE117 := n4_
       have NB101_117 := n5_
       have NB117_101 := n6_
       clear n0_ n1_ n2_ n3_ n4_ n5_ n6_
       clear hb hbox hg
       refine hK.out _ _ ⟨(blk_cell BK101.out 0).trans rfl, ((HB.out.cell (yny w _ hw111_0)).trans hw111_0), ((HB.out.cell (yny w _ hw112_0)).trans hw112_0), ((HB.out.cell (yny w _ hw113_0)).trans hw113_0), ((HB.out.cell (yny w _ hw114_0)).trans hw114_0), ((HB.out.cell (yny w _ hw115_0)).trans hw115_0), ((HB.out.cell (yny w _ hw116_0)).trans hw116_0), ((HB.out.cell (yny w _ hw116_1)).trans hw116_1)⟩ (fun hHeld => ?_)
       clear hK K
       refine norm_ (a' := ?_) ?_ ?_
       rotate_left
       next =>
        show Act.put _ (some 9) _ = _
        simp only [Act.put, yay, yby, ycy, i64_w, i32_w]
        rfl
       refine one_ (i := 19) (N := none) #[true, true, true, true, true, true, true, true, true, true, true, true, true, true, true, true, true, true, true, true] rfl rfl (one_of HT_.out (by kernel_rfl)) (by decide) (fun K hK => ?_)
       have hs40 : w39.cell? ⟨gb117, 0, none⟩ = some (.int .i64 0) := (blk_cell BK117.out 0).trans rfl
       have hfs40 := blk_frozen BK117.out 0
       have hns40_0 := NB101_117.out
       have hms40_0 := NB117_101.out
       have hs41 : w39.cell? ⟨gb117, 1, none⟩ = some (.int .i64 0) := (blk_cell BK117.out 1).trans rfl
       have hfs41 := blk_frozen BK117.out 1
       have hns41_0 := NB101_117.out
       have hms41_0 := NB117_101.out
       refine skip_ (w1 := ?_) (by rfl) rfl ?_ ?_
       rotate_left
       next =>
        go_simp
        rfl
       refine hK.out _ _ ⟨((cell_far (p := ⟨gb117, _, none⟩) NB101_117.out _).trans (((cell_far (p := ⟨gb117, _, none⟩) NB101_117.out _).trans (hHeld.1)))), ((cell_far (p := ⟨gb117, _, none⟩) (by first | exact Nat.ne_of_lt (Nat.lt_of_lt_of_le (by have := yny _ _ hw111_0; first | rwa [add_block] at this | exact this) GW117.out) | (rw [add_block]; exact Nat.ne_of_lt (Nat.lt_of_lt_of_le (by have := yny _ _ hw111_0; first | rwa [add_block] at this | exact this) GW117.out)) | (show (Addr.add _ _).block ≠ _; rw [add_block]; exact Nat.ne_of_lt (Nat.lt_of_lt_of_le (by have := yny _ _ hw111_0; first | rwa [add_block] at this | exact this) GW117.out)) | (dsimp only; exact Nat.ne_of_lt (Nat.lt_of_lt_of_le (by have := yny _ _ hw111_0; first | rwa [add_block] at this | exact this) GW117.out))) _).trans (((cell_far (p := ⟨gb117, _, none⟩) (by first | exact Nat.ne_of_lt (Nat.lt_of_lt_of_le (by have := yny _ _ hw111_0; first | rwa [add_block] at this | exact this) GW117.out) | (rw [add_block]; exact Nat.ne_of_lt (Nat.lt_of_lt_of_le (by have := yny _ _ hw111_0; first | rwa [add_block] at this | exact this) GW117.out)) | (show (Addr.add _ _).block ≠ _; rw [add_block]; exact Nat.ne_of_lt (Nat.lt_of_lt_of_le (by have := yny _ _ hw111_0; first | rwa [add_block] at this | exact this) GW117.out)) | (dsimp only; exact Nat.ne_of_lt (Nat.lt_of_lt_of_le (by have := yny _ _ hw111_0; first | rwa [add_block] at this | exact this) GW117.out))) _).trans (hHeld.2.1)))), ((cell_far (p := ⟨gb117, _, none⟩) (by first | exact Nat.ne_of_lt (Nat.lt_of_lt_of_le (by have := yny _ _ hw112_0; first | rwa [add_block] at this | exact this) GW117.out) | (rw [add_block]; exact Nat.ne_of_lt (Nat.lt_of_lt_of_le (by have := yny _ _ hw112_0; first | rwa [add_block] at this | exact this) GW117.out)) | (show (Addr.add _ _).block ≠ _; rw [add_block]; exact Nat.ne_of_lt (Nat.lt_of_lt_of_le (by have := yny _ _ hw112_0; first | rwa [add_block] at this | exact this) GW117.out)) | (dsimp only; exact Nat.ne_of_lt (Nat.lt_of_lt_of_le (by have := yny _ _ hw112_0; first | rwa [add_block] at this | exact this) GW117.out))) _).trans (((cell_far (p := ⟨gb117, _, none⟩) (by first | exact Nat.ne_of_lt (Nat.lt_of_lt_of_le (by have := yny _ _ hw112_0; first | rwa [add_block] at this | exact this) GW117.out) | (rw [add_block]; exact Nat.ne_of_lt (Nat.lt_of_lt_of_le (by have := yny _ _ hw112_0; first | rwa [add_block] at this | exact this) GW117.out)) | (show (Addr.add _ _).block ≠ _; rw [add_block]; exact Nat.ne_of_lt (Nat.lt_of_lt_of_le (by have := yny _ _ hw112_0; first | rwa [add_block] at this | exact this) GW117.out)) | (dsimp only; exact Nat.ne_of_lt (Nat.lt_of_lt_of_le (by have := yny _ _ hw112_0; first | rwa [add_block] at this | exact this) GW117.out))) _).trans (hHeld.2.2.1)))), ((cell_far (p := ⟨gb117, _, none⟩) (by first | exact Nat.ne_of_lt (Nat.lt_of_lt_of_le (by have := yny _ _ hw113_0; first | rwa [add_block] at this | exact this) GW117.out) | (rw [add_block]; exact Nat.ne_of_lt (Nat.lt_of_lt_of_le (by have := yny _ _ hw113_0; first | rwa [add_block] at this | exact this) GW117.out)) | (show (Addr.add _ _).block ≠ _; rw [add_block]; exact Nat.ne_of_lt (Nat.lt_of_lt_of_le (by have := yny _ _ hw113_0; first | rwa [add_block] at this | exact this) GW117.out)) | (dsimp only; exact Nat.ne_of_lt (Nat.lt_of_lt_of_le (by have := yny _ _ hw113_0; first | rwa [add_block] at this | exact this) GW117.out))) _).trans (((cell_far (p := ⟨gb117, _, none⟩) (by first | exact Nat.ne_of_lt (Nat.lt_of_lt_of_le (by have := yny _ _ hw113_0; first | rwa [add_block] at this | exact this) GW117.out) | (rw [add_block]; exact Nat.ne_of_lt (Nat.lt_of_lt_of_le (by have := yny _ _ hw113_0; first | rwa [add_block] at this | exact this) GW117.out)) | (show (Addr.add _ _).block ≠ _; rw [add_block]; exact Nat.ne_of_lt (Nat.lt_of_lt_of_le (by have := yny _ _ hw113_0; first | rwa [add_block] at this | exact this) GW117.out)) | (dsimp only; exact Nat.ne_of_lt (Nat.lt_of_lt_of_le (by have := yny _ _ hw113_0; first | rwa [add_block] at this | exact this) GW117.out))) _).trans (hHeld.2.2.2.1)))), ((cell_far (p := ⟨gb117, _, none⟩) (by first | exact Nat.ne_of_lt (Nat.lt_of_lt_of_le (by have := yny _ _ hw114_0; first | rwa [add_block] at this | exact this) GW117.out) | (rw [add_block]; exact Nat.ne_of_lt (Nat.lt_of_lt_of_le (by have := yny _ _ hw114_0; first | rwa [add_block] at this | exact this) GW117.out)) | (show (Addr.add _ _).block ≠ _; rw [add_block]; exact Nat.ne_of_lt (Nat.lt_of_lt_of_le (by have := yny _ _ hw114_0; first | rwa [add_block] at this | exact this) GW117.out)) | (dsimp only; exact Nat.ne_of_lt (Nat.lt_of_lt_of_le (by have := yny _ _ hw114_0; first | rwa [add_block] at this | exact this) GW117.out))) _).trans (((cell_far (p := ⟨gb117, _, none⟩) (by first | exact Nat.ne_of_lt (Nat.lt_of_lt_of_le (by have := yny _ _ hw114_0; first | rwa [add_block] at this | exact this) GW117.out) | (rw [add_block]; exact Nat.ne_of_lt (Nat.lt_of_lt_of_le (by have := yny _ _ hw114_0; first | rwa [add_block] at this | exact this) GW117.out)) | (show (Addr.add _ _).block ≠ _; rw [add_block]; exact Nat.ne_of_lt (Nat.lt_of_lt_of_le (by have := yny _ _ hw114_0; first | rwa [add_block] at this | exact this) GW117.out)) | (dsimp only; exact Nat.ne_of_lt (Nat.lt_of_lt_of_le (by have := yny _ _ hw114_0; first | rwa [add_block] at this | exact this) GW117.out))) _).trans (hHeld.2.2.2.2.1)))), ((cell_far (p := ⟨gb117, _, none⟩) (by first | exact Nat.ne_of_lt (Nat.lt_of_lt_of_le (by have := yny _ _ hw115_0; first | rwa [add_block] at this | exact this) GW117.out) | (rw [add_block]; exact Nat.ne_of_lt (Nat.lt_of_lt_of_le (by have := yny _ _ hw115_0; first | rwa [add_block] at this | exact this) GW117.out)) | (show (Addr.add _ _).block ≠ _; rw [add_block]; exact Nat.ne_of_lt (Nat.lt_of_lt_of_le (by have := yny _ _ hw115_0; first | rwa [add_block] at this | exact this) GW117.out)) | (dsimp only; exact Nat.ne_of_lt (Nat.lt_of_lt_of_le (by have := yny _ _ hw115_0; first | rwa [add_block] at this | exact this) GW117.out))) _).trans (((cell_far (p := ⟨gb117, _, none⟩) (by first | exact Nat.ne_of_lt (Nat.lt_of_lt_of_le (by have := yny _ _ hw115_0; first | rwa [add_block] at this | exact this) GW117.out) | (rw [add_block]; exact Nat.ne_of_lt (Nat.lt_of_lt_of_le (by have := yny _ _ hw115_0; first | rwa [add_block] at this | exact this) GW117.out)) | (show (Addr.add _ _).block ≠ _; rw [add_block]; exact Nat.ne_of_lt (Nat.lt_of_lt_of_le (by have := yny _ _ hw115_0; first | rwa [add_block] at this | exact this) GW117.out)) | (dsimp only; exact Nat.ne_of_lt (Nat.lt_of_lt_of_le (by have := yny _ _ hw115_0; first | rwa [add_block] at this | exact this) GW117.out))) _).trans (hHeld.2.2.2.2.2.1)))), ((cell_far (p := ⟨gb117, _, none⟩) (by first | exact Nat.ne_of_lt (Nat.lt_of_lt_of_le (by have := yny _ _ hw116_0; first | rwa [add_block] at this | exact this) GW117.out) | (rw [add_block]; exact Nat.ne_of_lt (Nat.lt_of_lt_of_le (by have := yny _ _ hw116_0; first | rwa [add_block] at this | exact this) GW117.out)) | (show (Addr.add _ _).block ≠ _; rw [add_block]; exact Nat.ne_of_lt (Nat.lt_of_lt_of_le (by have := yny _ _ hw116_0; first | rwa [add_block] at this | exact this) GW117.out)) | (dsimp only; exact Nat.ne_of_lt (Nat.lt_of_lt_of_le (by have := yny _ _ hw116_0; first | rwa [add_block] at this | exact this) GW117.out))) _).trans (((cell_far (p := ⟨gb117, _, none⟩) (by first | exact Nat.ne_of_lt (Nat.lt_of_lt_of_le (by have := yny _ _ hw116_0; first | rwa [add_block] at this | exact this) GW117.out) | (rw [add_block]; exact Nat.ne_of_lt (Nat.lt_of_lt_of_le (by have := yny _ _ hw116_0; first | rwa [add_block] at this | exact this) GW117.out)) | (show (Addr.add _ _).block ≠ _; rw [add_block]; exact Nat.ne_of_lt (Nat.lt_of_lt_of_le (by have := yny _ _ hw116_0; first | rwa [add_block] at this | exact this) GW117.out)) | (dsimp only; exact Nat.ne_of_lt (Nat.lt_of_lt_of_le (by have := yny _ _ hw116_0; first | rwa [add_block] at this | exact this) GW117.out))) _).trans (hHeld.2.2.2.2.2.2.1)))), ((cell_far (p := ⟨gb117, _, none⟩) (by first | exact Nat.ne_of_lt (Nat.lt_of_lt_of_le (by have := yny _ _ hw116_1; first | rwa [add_block] at this | exact this) GW117.out) | (rw [add_block]; exact Nat.ne_of_lt (Nat.lt_of_lt_of_le (by have := yny _ _ hw116_1; first | rwa [add_block] at this | exact this) GW117.out)) | (show (Addr.add _ _).block ≠ _; rw [add_block]; exact Nat.ne_of_lt (Nat.lt_of_lt_of_le (by have := yny _ _ hw116_1; first | rwa [add_block] at this | exact this) GW117.out)) | (dsimp only; exact Nat.ne_of_lt (Nat.lt_of_lt_of_le (by have := yny _ _ hw116_1; first | rwa [add_block] at this | exact this) GW117.out))) _).trans (((cell_far (p := ⟨gb117, _, none⟩) (by first | exact Nat.ne_of_lt (Nat.lt_of_lt_of_le (by have := yny _ _ hw116_1; first | rwa [add_block] at this | exact this) GW117.out) | (rw [add_block]; exact Nat.ne_of_lt (Nat.lt_of_lt_of_le (by have := yny _ _ hw116_1; first | rwa [add_block] at this | exact this) GW117.out)) | (show (Addr.add _ _).block ≠ _; rw [add_block]; exact Nat.ne_of_lt (Nat.lt_of_lt_of_le (by have := yny _ _ hw116_1; first | rwa [add_block] at this | exact this) GW117.out)) | (dsimp only; exact Nat.ne_of_lt (Nat.lt_of_lt_of_le (by have := yny _ _ hw116_1; first | rwa [add_block] at this | exact this) GW117.out))) _).trans (hHeld.2.2.2.2.2.2.2))))⟩ (fun hHeld => ?_)
       clear hK K
       refine done_ (done_of HT_.out (by kernel_rfl)) ?_
       go_upto_region 15 with (fail)
       go_cut [92] (fun v92 wc => ∃ (kq : Nat) (x92_36 : Bool), v92 = .bool x92_36 ∧ Aside0 (spec_ReversesOrientation.j2 kq l1 x7_2 x8_2 x92_36 l0_0 ((rd_Face (rd_LFace l0_0 (rd (rd_LInt l1 x8_2) 0)) (rd (rd_LInt l1 x8_2) 1)).f0) ((rd_Face (rd_LFace l0_0 (rd (rd_LInt l1 x8_2) 0)) (rd (rd_LInt l1 x8_2) 1)).f1) = some (r1, r2)) ∧ Aside0 (kq ≤ k2) ∧ Aside0 (wc.heap[gb101]? = some (.cells #[(.slice (some ad113) l0_0.length c0_0)] 35 (0, 0))) ∧ Aside0 (wc.heap[gb117]? = some (.cells #[.int .i64 ((rd_Face (rd_LFace l0_0 (rd (rd_LInt l1 x8_2) 0)) (rd (rd_LInt l1 x8_2) 1)).f0), .int .i64 ((rd_Face (rd_LFace l0_0 (rd (rd_LInt l1 x8_2) 0)) (rd (rd_LInt l1 x8_2) 1)).f1)] 75 (0, 0))) ∧ Aside0 (Below w.heap.size w wc))
       case first =>
        have H := HC37.out
        clear HC37
        by_cases c42 : ((rd_Face (rd_LFace l0_0 (rd (rd_LInt l1 x8_2) 0)) (rd (rd_LInt l1 x8_2) 1)).f0) < 0
        next =>
         rw [if_pos c42] at H
         have c42b0 : decide (((rd_Face (rd_LFace l0_0 (rd (rd_LInt l1 x8_2) 0)) (rd (rd_LInt l1 x8_2) 1)).f0) < 0) = true := ygy c42
         clear c42
         (first | rw [c42b0] | (simp only [i64_w, i32_w]; rw [c42b0]) | skip)
         have H' := Aside0.mk H
         clear H
         try go_wp2
         have n0_ : Aside0 (((w39.setCell ⟨gb117, 0, none⟩ (.int .i64 ((rd_Face (rd_LFace l0_0 (rd (rd_LInt l1 x8_2) 0)) (rd (rd_LInt l1 x8_2) 1)).f0))).setCell ⟨gb117, 1, none⟩ (.int .i64 ((rd_Face (rd_LFace l0_0 (rd (rd_LInt l1 x8_2) 0)) (rd (rd_LInt l1 x8_2) 1)).f1))).heap[gb101]? = some (.cells #[.slice (some ad113) l0_0.length c0_0] 35 (0, 0))) := ⟨by (with_reducible repeat (first | refine blk_drewN ?_ _ | refine blk_drew ?_ | refine blk_alloc ?_ _)); refine blk_far ?_ NB101_117.out _; (with_reducible repeat (first | refine blk_drewN ?_ _ | refine blk_drew ?_ | refine blk_alloc ?_ _)); refine blk_far ?_ NB101_117.out _; (with_reducible repeat (first | refine blk_drewN ?_ _ | refine blk_drew ?_ | refine blk_alloc ?_ _)); exact BK101.out⟩
         have n1_ : Aside0 (((w39.setCell ⟨gb117, 0, none⟩ (.int .i64 ((rd_Face (rd_LFace l0_0 (rd (rd_LInt l1 x8_2) 0)) (rd (rd_LInt l1 x8_2) 1)).f0))).setCell ⟨gb117, 1, none⟩ (.int .i64 ((rd_Face (rd_LFace l0_0 (rd (rd_LInt l1 x8_2) 0)) (rd (rd_LInt l1 x8_2) 1)).f1))).heap[gb117]? = some (.cells #[.int .i64 ((rd_Face (rd_LFace l0_0 (rd (rd_LInt l1 x8_2) 0)) (rd (rd_LInt l1 x8_2) 1)).f0), .int .i64 ((rd_Face (rd_LFace l0_0 (rd (rd_LInt l1 x8_2) 0)) (rd (rd_LInt l1 x8_2) 1)).f1)] 75 (0, 0))) := ⟨by (with_reducible repeat (first | refine blk_drewN ?_ _ | refine blk_drew ?_ | refine blk_alloc ?_ _)); refine blk_put (cs := #[.int .i64 ((rd_Face (rd_LFace l0_0 (rd (rd_LInt l1 x8_2) 0)) (rd (rd_LInt l1 x8_2) 1)).f0), .int .i64 0]) ?_ 1 _ rfl; (with_reducible repeat (first | refine blk_drewN ?_ _ | refine blk_drew ?_ | refine blk_alloc ?_ _)); refine blk_put (cs := #[.int .i64 0, .int .i64 0]) ?_ 0 _ rfl; (with_reducible repeat (first | refine blk_drewN ?_ _ | refine blk_drew ?_ | refine blk_alloc ?_ _)); exact BK117.out⟩
         have n2_ : Aside0 (Below w.heap.size w ((w39.setCell ⟨gb117, 0, none⟩ (.int .i64 ((rd_Face (rd_LFace l0_0 (rd (rd_LInt l1 x8_2) 0)) (rd (rd_LInt l1 x8_2) 1)).f0))).setCell ⟨gb117, 1, none⟩ (.int .i64 ((rd_Face (rd_LFace l0_0 (rd (rd_LInt l1 x8_2) 0)) (rd (rd_LInt l1 x8_2) 1)).f1)))) := ⟨by repeat (first | (with_reducible first | exact HB.out | apply below_alloc | apply pw_below_drewN | apply below_drew1 | refine below_set ?_ GE101.out | refine below_set ?_ GE117.out) | exact HB.out)⟩
         (try clear BK101)
         (try clear BK117)
         (try clear HB)
         generalize ((w39.setCell ⟨gb117, 0, none⟩ (.int .i64 ((rd_Face (rd_LFace l0_0 (rd (rd_LInt l1 x8_2) 0)) (rd (rd_LInt l1 x8_2) 1)).f0))).setCell ⟨gb117, 1, none⟩ (.int .i64 ((rd_Face (rd_LFace l0_0 (rd (rd_LInt l1 x8_2) 0)) (rd (rd_LInt l1 x8_2) 1)).f1))) = w43 at n0_ n1_ n2_ ⊢
         have BK101 := n0_
         have BK117 := n1_
         have HB := n2_
         clear n0_ n1_ n2_
         have sq0_ : w43.cell? ⟨gb117, 0, none⟩ = some (.int .i64 ((rd_Face (rd_LFace l0_0 (rd (rd_LInt l1 x8_2) 0)) (rd (rd_LInt l1 x8_2) 1)).f0)) := (blk_cell BK117.out 0).trans rfl
         have sq1_ : w43.cell? ⟨gb117, 1, none⟩ = some (.int .i64 ((rd_Face (rd_LFace l0_0 (rd (rd_LInt l1 x8_2) 0)) (rd (rd_LInt l1 x8_2) 1)).f1)) := (blk_cell BK117.out 1).trans rfl
         go_quiet (fail)
         generalize hq_ : World.drewN w43 _ = w44
         have n0_ := Aside0.mk (blk_at hq_ BK101.out)
         have n1_ := Aside0.mk (blk_at hq_ BK117.out)
         have n2_ := Aside0.mk (below_at hq_ HB.out)
         clear BK101 BK117 HB hq_ sq0_ sq1_
         have BK101 := n0_
         have BK117 := n1_
         have HB := n2_
         clear n0_ n1_ n2_
         try go_wp2
         go_meet
         case rel => exact ⟨_, (true), (by first | rfl | (simp; done) | (simp [*]; done)), H', ⟨by have := HK1.out; have := HK2.out; first | omega | exact yoy _⟩, ⟨by (with_reducible repeat (first | refine blk_drewN ?_ _ | refine blk_drew ?_ | refine blk_alloc ?_ _)); exact BK101.out⟩, ⟨by (with_reducible repeat (first | refine blk_drewN ?_ _ | refine blk_drew ?_ | refine blk_alloc ?_ _)); exact BK117.out⟩, ⟨by repeat (first | (with_reducible first | exact HB.out | apply below_alloc | apply pw_below_drewN | apply below_drew1 | refine below_set ?_ GE101.out | refine below_set ?_ GE117.out) | exact HB.out)⟩⟩
        next =>
         rw [if_neg c42] at H
         have c42b0 : decide (((rd_Face (rd_LFace l0_0 (rd (rd_LInt l1 x8_2) 0)) (rd (rd_LInt l1 x8_2) 1)).f0) < 0) = false := yhy c42
         clear c42
         (first | rw [c42b0] | (simp only [i64_w, i32_w]; rw [c42b0]) | skip)
         by_cases c45 : (l1.length : Int) = 0
         next =>
          rw [if_pos c45] at H
          exact absurd H (by simp)
         next =>
          rw [if_neg c45] at H
          have c45b0 : ((l1.length : Int) == 0) = false := beq_eq_false_iff_ne.mpr c45
          have c45b1 : ((l1.length : Int) != 0) = true := bne_iff_ne.mpr c45
          have c45b2 : ¬ (l1 = []) := fun h_ => c45 (by rw [h_]; rfl)
          obtain ⟨ji46, hji46⟩ : ∃ j_ : Int, (Int.tmod (wrap64 (x8_2 + 1)) (l1.length : Int)) = j_ := ⟨_, rfl⟩
          replace H : (if 0 ≤ (ji46) then (if (ji46) < (l1.length : Int) then (if 0 < ((rd_LInt l1 (ji46)).length : Int) then (spec_ReversesOrientation.j2 k2 l1 x7_2 x8_2 (((rd_Face (rd_LFace l0_0 (rd (rd_LInt l1 x8_2) 0)) (rd (rd_LInt l1 x8_2) 1)).f0) != (rd (rd_LInt l1 (ji46)) 0)) l0_0 ((rd_Face (rd_LFace l0_0 (rd (rd_LInt l1 x8_2) 0)) (rd (rd_LInt l1 x8_2) 1)).f0) ((rd_Face (rd_LFace l0_0 (rd (rd_LInt l1 x8_2) 0)) (rd (rd_LInt l1 x8_2) 1)).f1)) else (none)) else (none)) else (none)) = some (r1, r2) := by first | (rw [hji46] at H; exact H) | (simp only [hji46] at H ⊢; exact H)
          by_cases c47 : 0 ≤ (ji46)
          rotate_left
          next =>
           rw [if_neg c47] at H
           exact absurd H (by simp)
          rw [if_pos c47] at H
          have c47b0 : decide (0 ≤ (ji46)) = true := ygy c47
          clear c47
          by_cases c48 : (ji46) < (l1.length : Int)
          rotate_left
          next =>
           rw [if_neg c48] at H
           exact absurd H (by simp)
          rw [if_pos c48] at H
          have c48b0 : decide ((ji46) < (l1.length : Int)) = true := ygy c48
          clear c48
          by_cases c49 : 0 < ((rd_LInt l1 (ji46)).length : Int)
          rotate_left
          next =>
           rw [if_neg c49] at H
           exact absurd H (by simp)
          rw [if_pos c49] at H
          have c49b0 : decide (0 < ((rd_LInt l1 (ji46)).length : Int)) = true := ygy c49
          have c49b1 : decide (0 < (rd_LInt l1 (ji46)).length) = true := ygy (by omega)
          clear c49
          have H' := Aside0.mk H
          clear H
          try go_wp2
          have n0_ : Aside0 (((w39.setCell ⟨gb117, 0, none⟩ (.int .i64 ((rd_Face (rd_LFace l0_0 (rd (rd_LInt l1 x8_2) 0)) (rd (rd_LInt l1 x8_2) 1)).f0))).setCell ⟨gb117, 1, none⟩ (.int .i64 ((rd_Face (rd_LFace l0_0 (rd (rd_LInt l1 x8_2) 0)) (rd (rd_LInt l1 x8_2) 1)).f1))).heap[gb101]? = some (.cells #[.slice (some ad113) l0_0.length c0_0] 35 (0, 0))) := ⟨by (with_reducible repeat (first | refine blk_drewN ?_ _ | refine blk_drew ?_ | refine blk_alloc ?_ _)); refine blk_far ?_ NB101_117.out _; (with_reducible repeat (first | refine blk_drewN ?_ _ | refine blk_drew ?_ | refine blk_alloc ?_ _)); refine blk_far ?_ NB101_117.out _; (with_reducible repeat (first | refine blk_drewN ?_ _ | refine blk_drew ?_ | refine blk_alloc ?_ _)); exact BK101.out⟩
          have n1_ : Aside0 (((w39.setCell ⟨gb117, 0, none⟩ (.int .i64 ((rd_Face (rd_LFace l0_0 (rd (rd_LInt l1 x8_2) 0)) (rd (rd_LInt l1 x8_2) 1)).f0))).setCell ⟨gb117, 1, none⟩ (.int .i64 ((rd_Face (rd_LFace l0_0 (rd (rd_LInt l1 x8_2) 0)) (rd (rd_LInt l1 x8_2) 1)).f1))).heap[gb117]? = some (.cells #[.int .i64 ((rd_Face (rd_LFace l0_0 (rd (rd_LInt l1 x8_2) 0)) (rd (rd_LInt l1 x8_2) 1)).f0), .int .i64 ((rd_Face (rd_LFace l0_0 (rd (rd_LInt l1 x8_2) 0)) (rd (rd_LInt l1 x8_2) 1)).f1)] 75 (0, 0))) := ⟨by (with_reducible repeat (first | refine blk_drewN ?_ _ | refine blk_drew ?_ | refine blk_alloc ?_ _)); refine blk_put (cs := #[.int .i64 ((rd_Face (rd_LFace l0_0 (rd (rd_LInt l1 x8_2) 0)) (rd (rd_LInt l1 x8_2) 1)).f0), .int .i64 0]) ?_ 1 _ rfl; (with_reducible repeat (first | refine blk_drewN ?_ _ | refine blk_drew ?_ | refine blk_alloc ?_ _)); refine blk_put (cs := #[.int .i64 0, .int .i64 0]) ?_ 0 _ rfl; (with_reducible repeat (first | refine blk_drewN ?_ _ | refine blk_drew ?_ | refine blk_alloc ?_ _)); exact BK117.out⟩
          have n2_ : Aside0 (Below w.heap.size w ((w39.setCell ⟨gb117, 0, none⟩ (.int .i64 ((rd_Face (rd_LFace l0_0 (rd (rd_LInt l1 x8_2) 0)) (rd (rd_LInt l1 x8_2) 1)).f0))).setCell ⟨gb117, 1, none⟩ (.int .i64 ((rd_Face (rd_LFace l0_0 (rd (rd_LInt l1 x8_2) 0)) (rd (rd_LInt l1 x8_2) 1)).f1)))) := ⟨by repeat (first | (with_reducible first | exact HB.out | apply below_alloc | apply pw_below_drewN | apply below_drew1 | refine below_set ?_ GE101.out | refine below_set ?_ GE117.out) | exact HB.out)⟩
          (try clear BK101)
          (try clear BK117)
          (try clear HB)
          generalize ((w39.setCell ⟨gb117, 0, none⟩ (.int .i64 ((rd_Face (rd_LFace l0_0 (rd (rd_LInt l1 x8_2) 0)) (rd (rd_LInt l1 x8_2) 1)).f0))).setCell ⟨gb117, 1, none⟩ (.int .i64 ((rd_Face (rd_LFace l0_0 (rd (rd_LInt l1 x8_2) 0)) (rd (rd_LInt l1 x8_2) 1)).f1))) = w50 at n0_ n1_ n2_ ⊢
          have BK101 := n0_
          have BK117 := n1_
          have HB := n2_
          clear n0_ n1_ n2_
          have p118 : 0 ≤ ((ji46) : Int) := of_decide_eq_true (by first | (with_reducible assumption) | assumption)
          have q118 : (ji46) < (l1.length : Int) := of_decide_eq_true (by first | (with_reducible assumption) | assumption)
          obtain ⟨ad118, A118_0, c118_0, e118, hx118_0, hl118_0, hi118_0⟩ := at_LInt HR1.out (ji46) p118 q118
          have hw118_0 := hx118_0
          obtain rfl : ad111 = ad118 := (by injection e118)
          replace hx118_0 := (HB.out.cell (yny w _ hx118_0)).trans hx118_0
          have HR118_0 := Aside0.mk hi118_0
          have HC118_0 := Aside0.mk hl118_0
          clear hi118_0 hl118_0
          replace p118 := eq_true p118
          replace q118 := eq_true q118
          have p119 : 0 ≤ (0 : Int) := (by omega)
          have q119 : 0 < ((rd_LInt l1 (ji46)).length : Int) := of_decide_eq_true (by first | (with_reducible assumption) | assumption)
          obtain ⟨ad119, e119, hx119_0⟩ := Kd.at_int HR118_0.out 0 p119 q119
          have hw119_0 := hx119_0
          (try rw [show ((0 : Int)).toNat = 0 from rfl] at hw119_0)
          (try rw [show 0 * 1 = 0 from rfl] at hw119_0)
          (try rw [Addr.add_zero'] at hw119_0)
          cases e119
          have qi119 : (0 < (rd_LInt l1 (ji46)).length) = True := eq_true (by omega)
          (try rw [show ((0 : Int)).toNat = 0 from rfl] at hx119_0)
          (try rw [Addr.add_zero'] at hx119_0)
          replace hx119_0 := (HB.out.cell (yny w _ hx119_0)).trans hx119_0
          replace p119 := eq_true p119
          replace q119 := eq_true q119
          have sq0_ : w50.cell? ⟨gb117, 0, none⟩ = some (.int .i64 ((rd_Face (rd_LFace l0_0 (rd (rd_LInt l1 x8_2) 0)) (rd (rd_LInt l1 x8_2) 1)).f0)) := (blk_cell BK117.out 0).trans rfl
          have sq1_ : w50.cell? ⟨gb117, 1, none⟩ = some (.int .i64 ((rd_Face (rd_LFace l0_0 (rd (rd_LInt l1 x8_2) 0)) (rd (rd_LInt l1 x8_2) 1)).f1)) := (blk_cell BK117.out 1).trans rfl
          have sq2_ : w50.cell? (ad111.add ((ji46)).toNat) = some (.slice (some ad119) (rd_LInt l1 (ji46)).length c118_0) := ((HB.out.cell (yny w _ hw118_0)).trans hw118_0)
          have sq3_ : w50.cell? ad119 = some (.int .i64 (rd (rd_LInt l1 (ji46)) 0)) := ((HB.out.cell (yny w _ hw119_0)).trans hw119_0)
          go_quiet (fail)
          generalize hq_ : World.drewN w50 _ = w51
          have n0_ := Aside0.mk (blk_at hq_ BK101.out)
          have n1_ := Aside0.mk (blk_at hq_ BK117.out)
          have n2_ := Aside0.mk (below_at hq_ HB.out)
          clear BK101 BK117 HB hq_ sq0_ sq1_ sq2_ sq3_
          have BK101 := n0_
          have BK117 := n1_
          have HB := n2_
          clear n0_ n1_ n2_
          try go_wp2
          go_meet
          case rel => exact ⟨_, ((((rd_Face (rd_LFace l0_0 (rd (rd_LInt l1 x8_2) 0)) (rd (rd_LInt l1 x8_2) 1)).f0) != (rd (rd_LInt l1 (ji46)) 0))), (by first | rfl | (simp; done) | (simp only [← hji46] <;> (first | rfl | simp)) | (simp [*]; done)), H', ⟨by have := HK1.out; have := HK2.out; first | omega | exact yoy _⟩, ⟨by (with_reducible repeat (first | refine blk_drewN ?_ _ | refine blk_drew ?_ | refine blk_alloc ?_ _)); exact BK101.out⟩, ⟨by (with_reducible repeat (first | refine blk_drewN ?_ _ | refine blk_drew ?_ | refine blk_alloc ?_ _)); exact BK117.out⟩, ⟨by repeat (first | (with_reducible first | exact HB.out | apply below_alloc | apply pw_below_drewN | apply below_drew1 | refine below_set ?_ GE101.out | refine below_set ?_ GE117.out) | exact HB.out)⟩⟩
       case rest =>
        clear HC37
        try clear c1
        try clear p1
        try clear q1
        try clear hx1
        try clear qi1
        try clear p2
        try clear c4
        try clear p6
        try clear c11
        try clear p11
        try clear q11
        try clear hx11
        try clear qi11
        try clear c42
        try clear c42b0
        try clear c45
        try clear c45b0
        try clear c45b1
        try clear c45b2
        try clear c47
        try clear c47b0
        try clear c48
        try clear c48b0
        try clear c49
        try clear c49b0
        try clear c49b1
        try clear hx111_0
        try clear hx112_0
        try clear hx113_0
        try clear hx114_0
        try clear hx115_0
        try clear hx116_0
        try clear hx116_1
        try clear hx118_0
        try clear hx119_0
        try clear p113
        try clear p114
        try clear p115
        try clear p116
        try clear p118
        try clear p119
        try clear q113
        try clear q114
        try clear q115
        try clear q116
        try clear q118
        try clear q119
        obtain ⟨kq, x92_36, rfl, HA, HJ36, BK101, BK117, HB⟩ := hcut
        cases kq with
        | zero => exact absurd HA.out (by simp [spec_ReversesOrientation.j2])
        | succ kj36 =>
         have H := HA.out
         clear HA
         simp only [spec_ReversesOrientation.j2] at H
         by_cases c52 : x92_36 = true
         next =>
          subst c52
          have H1 : (some (false, 5)) = some (r1, r2) := by rw [if_pos rfl] at H; exact H
          clear H
          have H := H1
          clear H1
          simp only [Option.some.injEq, Prod.mk.injEq] at H
          obtain ⟨rfl, rfl⟩ := H
          go_wp2
          go_ret2
          exact ⟨by first | rfl | (simp [errW_none, errW_some] <;> rfl) | (simp [*, errW_none, errW_some] <;> rfl), by repeat (first | (with_reducible first | exact HB.out | apply below_alloc | apply pw_below_drewN | apply below_drew1 | refine below_set ?_ GE101.out | refine below_set ?_ GE117.out) | exact HB.out)⟩
         next =>
          replace c52 := Bool.eq_false_iff.mpr c52
          subst c52
          have H1 : ((spec_SignPerm4.f kj36 ((rd_Face (rd_LFace l0_0 (rd (rd_LInt l1 x8_2) 0)) (rd (rd_LInt l1 x8_2) 1)).f1)).bind fun t120 => (if t120 = 1 then (spec_ReversesOrientation.l1 kj36 l1 (!x7_2) (wrap64 (x8_2 + 1)) l0_0) else (spec_ReversesOrientation.l1 kj36 l1 x7_2 (wrap64 (x8_2 + 1)) l0_0))) = some (r1, r2) := by rw [if_neg (show ¬ (false = true) by decide)] at H; exact H
          clear H
          have H := H1
          clear H1
          replace H := ydy.mp H
          obtain ⟨t120, A530, H⟩ := H
          replace H : (if t120 = 1 then (spec_ReversesOrientation.l1 kj36 l1 (!x7_2) (wrap64 (x8_2 + 1)) l0_0) else (spec_ReversesOrientation.l1 kj36 l1 x7_2 (wrap64 (x8_2 + 1)) l0_0)) = some (r1, r2) := H
          have A53 := Aside0.mk A530
          clear A530
          by_cases c54 : t120 = 1
          rotate_left
          next =>
           rw [if_neg c54] at H
           have c54b0 : (t120 == 1) = false := beq_eq_false_iff_ne.mpr c54
           have c54b1 : (t120 != 1) = true := bne_iff_ne.mpr c54
           have H' := Aside0.mk H
           clear H
           have hnb58 := NB117_101.out
           have hnc58 := NB101_117.out
           have hcz59_0 : wc.cell? ⟨gb117, 0, none⟩ = some (.int .i64 ((rd_Face (rd_LFace l0_0 (rd (rd_LInt l1 x8_2) 0)) (rd (rd_LInt l1 x8_2) 1)).f0)) := (blk_cell BK117.out 0).trans rfl
           have hcz59_1 : wc.cell? ⟨gb117, 1, none⟩ = some (.int .i64 ((rd_Face (rd_LFace l0_0 (rd (rd_LInt l1 x8_2) 0)) (rd (rd_LInt l1 x8_2) 1)).f1)) := (blk_cell BK117.out 1).trans rfl
           have hfz59_0 := blk_frozen BK117.out 0
           have hfz59_1 := blk_frozen BK117.out 1
           go_wp2_with (first | ((with_reducible refine gate_callee (f := 67) rfl ?_); refine goesL_ (some 95) rfl rfl Try.func67 (by kernel_rfl) rfl #[.int .i64 ((rd_Face (rd_LFace l0_0 (rd (rd_LInt l1 x8_2) 0)) (rd (rd_LInt l1 x8_2) 1)).f1)] rfl (by (try simp only [yiy, yjy, yky]); first | done | rfl | (simp only [yly, ymy]; rfl)) ?_; (with_reducible refine (spec_SignPerm4.calls kj36 ((rd_Face (rd_LFace l0_0 (rd (rd_LInt l1 x8_2) 0)) (rd (rd_LInt l1 x8_2) 1)).f1) t120 _ A53.out).mono ?_); rintro e w60 ⟨rfl, hb⟩; refine ⟨_, rfl, ?_⟩; have n0_ := Aside0.mk (blk_below (g := gb101) (o := .cells #[.slice (some ad113) l0_0.length c0_0] 35 (0, 0)) (by (with_reducible repeat (first | refine blk_drewN ?_ _ | refine blk_drew ?_ | refine blk_alloc ?_ _)); exact BK101.out) hb); have n1_ := Aside0.mk (blk_below (g := gb117) (o := .cells #[.int .i64 ((rd_Face (rd_LFace l0_0 (rd (rd_LInt l1 x8_2) 0)) (rd (rd_LInt l1 x8_2) 1)).f0), .int .i64 ((rd_Face (rd_LFace l0_0 (rd (rd_LInt l1 x8_2) 0)) (rd (rd_LInt l1 x8_2) 1)).f1)] 75 (0, 0)) (by (with_reducible repeat (first | refine blk_drewN ?_ _ | refine blk_drew ?_ | refine blk_alloc ?_ _)); exact BK117.out) hb); have n2_ := Aside0.mk (below_step (by repeat (first | (with_reducible first | exact HB.out | apply below_alloc | apply pw_below_drewN | apply below_drew1 | refine below_set ?_ GE101.out | refine below_set ?_ GE117.out) | exact HB.out)) hb); clear BK101; clear BK117; clear HB; have BK101 := n0_; have BK117 := n1_; have HB := n2_; clear n0_ n1_ n2_; (try clear hb); (try clear hb2); (try clear hk); (try clear hi)))
           go_roundg kj36
           case measure => have := HK1.out; have := HK2.out; have := HJ36.out; omega
           case rel => exact ⟨(x7_2), (wrap64 (x8_2 + 1)), (by first | rfl | (simp; done) | (simp [*]; done)), (by first | rfl | (simp; done) | (simp [*]; done)), H', ⟨by have := HK1.out; have := HK2.out; have := HJ36.out; omega⟩, ⟨by (with_reducible repeat (first | refine blk_drewN ?_ _ | refine blk_drew ?_ | refine blk_alloc ?_ _)); exact BK101.out⟩, ⟨by repeat (first | (with_reducible first | exact HB.out | apply below_alloc | apply pw_below_drewN | apply below_drew1 | refine below_set ?_ GE101.out | refine below_set ?_ GE117.out) | exact HB.out)⟩⟩
          rw [if_pos c54] at H
          have c54b0 : (t120 == 1) = true := beq_iff_eq.mpr c54
          have c54b1 : (t120 != 1) = false := bne_eq_false_iff_eq.mpr c54
          clear c54
          have H' := Aside0.mk H
          clear H
          have hnb55 := NB117_101.out
          have hnc55 := NB101_117.out
          have hcz56_0 : wc.cell? ⟨gb117, 0, none⟩ = some (.int .i64 ((rd_Face (rd_LFace l0_0 (rd (rd_LInt l1 x8_2) 0)) (rd (rd_LInt l1 x8_2) 1)).f0)) := (blk_cell BK117.out 0).trans rfl
          have hcz56_1 : wc.cell? ⟨gb117, 1, none⟩ = some (.int .i64 ((rd_Face (rd_LFace l0_0 (rd (rd_LInt l1 x8_2) 0)) (rd (rd_LInt l1 x8_2) 1)).f1)) := (blk_cell BK117.out 1).trans rfl
          have hfz56_0 := blk_frozen BK117.out 0
          have hfz56_1 := blk_frozen BK117.out 1
          go_wp2_with (first | ((with_reducible refine gate_callee (f := 67) rfl ?_); refine goesL_ (some 95) rfl rfl Try.func67 (by kernel_rfl) rfl #[.int .i64 ((rd_Face (rd_LFace l0_0 (rd (rd_LInt l1 x8_2) 0)) (rd (rd_LInt l1 x8_2) 1)).f1)] rfl (by (try simp only [yiy, yjy, yky]); first | done | rfl | (simp only [yly, ymy]; rfl)) ?_; (with_reducible refine (spec_SignPerm4.calls kj36 ((rd_Face (rd_LFace l0_0 (rd (rd_LInt l1 x8_2) 0)) (rd (rd_LInt l1 x8_2) 1)).f1) t120 _ A53.out).mono ?_); rintro e w57 ⟨rfl, hb⟩; refine ⟨_, rfl, ?_⟩; have n0_ := Aside0.mk (blk_below (g := gb101) (o := .cells #[.slice (some ad113) l0_0.length c0_0] 35 (0, 0)) (by (with_reducible repeat (first | refine blk_drewN ?_ _ | refine blk_drew ?_ | refine blk_alloc ?_ _)); exact BK101.out) hb); have n1_ := Aside0.mk (blk_below (g := gb117) (o := .cells #[.int .i64 ((rd_Face (rd_LFace l0_0 (rd (rd_LInt l1 x8_2) 0)) (rd (rd_LInt l1 x8_2) 1)).f0), .int .i64 ((rd_Face (rd_LFace l0_0 (rd (rd_LInt l1 x8_2) 0)) (rd (rd_LInt l1 x8_2) 1)).f1)] 75 (0, 0)) (by (with_reducible repeat (first | refine blk_drewN ?_ _ | refine blk_drew ?_ | refine blk_alloc ?_ _)); exact BK117.out) hb); have n2_ := Aside0.mk (below_step (by repeat (first | (with_reducible first | exact HB.out | apply below_alloc | apply pw_below_drewN | apply below_drew1 | refine below_set ?_ GE101.out | refine below_set ?_ GE117.out) | exact HB.out)) hb); clear BK101; clear BK117; clear HB; have BK101 := n0_; have BK117 := n1_; have HB := n2_; clear n0_ n1_ n2_; (try clear hb); (try clear hb2); (try clear hk); (try clear hi)))
          go_roundg kj36
          case measure => have := HK1.out; have := HK2.out; have := HJ36.out; omega
          case rel => exact ⟨(!x7_2), (wrap64 (x8_2 + 1)), (by first | rfl | (simp; done) | (simp [*]; done)), (by first | rfl | (simp; done) | (simp [*]; done)), H', ⟨by have := HK1.out; have := HK2.out; have := HJ36.out; omega⟩, ⟨by (with_reducible repeat (first | refine blk_drewN ?_ _ | refine blk_drew ?_ | refine blk_alloc ?_ _)); exact BK101.out⟩, ⟨by repeat (first | (with_reducible first | exact HB.out | apply below_alloc | apply pw_below_drewN | apply below_drew1 | refine below_set ?_ GE101.out | refine below_set ?_ GE117.out) | exact HB.out)⟩⟩
/-! ### laws_FnExactReversesOrientation: function 10 -/
def laws_FnExactReversesOrientation.j0 : Nat → List (List Int) → List (List Int) → Bool → List (List (SLawFace)) → List (List (SFace)) → Option (Bool)
 | 0, _, _, _, _, _ => none
 | k + 1, x1, x9, x47, x102000, x116000 => if x47 = true then (some false) else ((laws_toTriangulation.f k x102000).bind fun t121 => ((laws_eqTriangulation.f k x116000 t121).bind fun t124 => (if t124 = true then ((laws_toInt64SS.f k x1).bind fun t125 => ((laws_eqInt64SS.f k x9 t125).bind fun t128 => (if t128 = true then (some true) else (some false)))) else (some false))))
def laws_FnExactReversesOrientation.f (k : Nat) (l0_0 : List (List (SLawFace))) (l1 : List (List Int)) : Option (Bool) := (laws_szTriangulation.f k l0_0 1048576).bind fun t102 => (if t102 < 0 then (some true) else ((laws_szInt64SS.f k l1 t102).bind fun t103 => (if t103 < 0 then (some true) else ((laws_toTriangulation.f k l0_0).bind fun t104 => ((laws_toInt64SS.f k l1).bind fun t107 => ((spec_ReversesOrientation.f k t104 t107).bind fun bt110 => ((laws_toTriangulation.f k l0_0).bind fun t112 => ((laws_toInt64SS.f k l1).bind fun t116 => ((impl_ReversesOrientation.f k t112 t116).bind fun bt119 => (if (bt119.1 != bt110.1) = true then (laws_FnExactReversesOrientation.j0 k l1 t116 true l0_0 t112) else (laws_FnExactReversesOrientation.j0 k l1 t116 (bt119.2 != bt110.2) l0_0 t112)))))))))))
set_option maxHeartbeats 8000000 in
set_option maxRecDepth 100000 in
theorem laws_FnExactReversesOrientation.calls (k : Nat) (A0_0 : Option Addr) (c0_0 : Nat) (l0_0 : List (List (SLawFace))) (A1 : Option Addr) (c1 : Nat) (l1 : List (List Int)) (r : Bool) (w : World) (hr0_0 : Kd.C (Kd.slice 118 kLawFace) w A0_0 l0_0.length l0_0) (hc0_0 : l0_0.length ≤ c0_0) (hr1 : Kd.C (Kd.slice 2 (Kd.int .i64)) w A1 l1.length l1) (hc1 : l1.length ≤ c1) (h : laws_FnExactReversesOrientation.f k l0_0 l1 = some r) :
 Calls Try.prog 10 #[.agg #[.slice A0_0 l0_0.length c0_0], .slice A1 l1.length c1] w fun e w' => e = .returned (.bool r) ∧ Below w.heap.size w w' := by
 have hu28 := Try.underlying28
 have hu35 := Try.underlying35
 have HR0_0 := Aside0.mk hr0_0
 have HC0_0 := Aside0.mk hc0_0
 clear hr0_0 hc0_0
 have HR1 := Aside0.mk hr1
 have HC1 := Aside0.mk hc1
 clear hr1 hc1
 have HB := Aside0.mk (Below.refl w.heap.size w)
 have H : ((laws_szTriangulation.f k l0_0 1048576).bind fun t102 => (if t102 < 0 then (some true) else ((laws_szInt64SS.f k l1 t102).bind fun t103 => (if t103 < 0 then (some true) else ((laws_toTriangulation.f k l0_0).bind fun t104 => ((laws_toInt64SS.f k l1).bind fun t107 => ((spec_ReversesOrientation.f k t104 t107).bind fun bt110 => ((laws_toTriangulation.f k l0_0).bind fun t112 => ((laws_toInt64SS.f k l1).bind fun t116 => ((impl_ReversesOrientation.f k t112 t116).bind fun bt119 => (if (bt119.1 != bt110.1) = true then (laws_FnExactReversesOrientation.j0 k l1 t116 true l0_0 t112) else (laws_FnExactReversesOrientation.j0 k l1 t116 (bt119.2 != bt110.2) l0_0 t112)))))))))))) = some r := h
 clear h
 replace H := ydy.mp H
 obtain ⟨t102, A30, H⟩ := H
 replace H : (if t102 < 0 then (some true) else ((laws_szInt64SS.f k l1 t102).bind fun t103 => (if t103 < 0 then (some true) else ((laws_toTriangulation.f k l0_0).bind fun t104 => ((laws_toInt64SS.f k l1).bind fun t107 => ((spec_ReversesOrientation.f k t104 t107).bind fun bt110 => ((laws_toTriangulation.f k l0_0).bind fun t112 => ((laws_toInt64SS.f k l1).bind fun t116 => ((impl_ReversesOrientation.f k t112 t116).bind fun bt119 => (if (bt119.1 != bt110.1) = true then (laws_FnExactReversesOrientation.j0 k l1 t116 true l0_0 t112) else (laws_FnExactReversesOrientation.j0 k l1 t116 (bt119.2 != bt110.2) l0_0 t112))))))))))) = some r := H
 have A3 := Aside0.mk A30
 clear A30
 by_cases c4 : t102 < 0
 next =>
  rw [if_pos c4] at H
  have c4b0 : decide (t102 < 0) = true := ygy c4
  clear c4
  obtain rfl := yey H
  go_enter Try.func10, Try.ntmps10
  go_wp2_with (first | ((with_reducible refine gate_dst (N := 2) rfl ?_); refine box_event ?hg (N := 2) ?hd (cs := #[.slice A0_0 l0_0.length c0_0]) (t := 28) ?hr ?_; (case hd => rfl); (case hg => rfl); (case hr => first | (go_simp; done) | (go_simp; rfl)); intro gb101 hg w5 hbox hb; have n0_ := Aside0.mk (below_step (by repeat (first | (with_reducible first | exact HB.out | apply below_alloc | apply pw_below_drewN | apply below_drew1) | exact HB.out)) hb); have n1_ := Aside0.mk (hbox); have n2_ := Aside0.mk ((by rw [hg]; exact (below_size (by repeat (first | (with_reducible first | exact HB.out | apply below_alloc | apply pw_below_drewN | apply below_drew1) | exact HB.out))) : w.heap.size ≤ gb101)); have n3_ := Aside0.mk ((by rw [hg]; exact (below_size (by repeat (first | (with_reducible first | exact HB.out | apply below_alloc | apply pw_below_drewN | apply below_drew1) | exact HB.out))) : w.heap.size ≤ gb101)); clear HB; have HB := n0_; have BK101 := n1_; have GW101 := n2_; have GE101 := n3_; clear n0_ n1_ n2_ n3_; clear hb hbox hg; have hcz6_0 : w5.cell? ⟨gb101, 0, none⟩ = some (.slice A0_0 l0_0.length c0_0) := (blk_cell BK101.out 0).trans rfl; have hfz6_0 := blk_frozen BK101.out 0) | ((with_reducible refine gate_callee (f := 16) rfl ?_); refine goesL_ (some 14) rfl rfl Try.func16 (by kernel_rfl) rfl #[.agg #[.slice A0_0 l0_0.length c0_0], .int .i64 1048576] rfl (by (try simp only [yiy, yjy, yky]); first | done | rfl | (simp only [yly, ymy]; rfl)) ?_; (with_reducible refine (laws_szTriangulation.calls k _ _ l0_0 1048576 t102 _ ?side1 ?side2 A3.out).mono ?_); (case side1 => repeat (first | exact (Kd.C_below HR0_0.out HB.out) | (with_reducible refine Kd.C_alloc ?_ _) | (with_reducible refine Kd.C_drewN ?_ _) | (with_reducible refine Kd.C_drew ?_))); (case side2 => exact HC0_0.out); rintro e w7 ⟨rfl, hb⟩; refine ⟨_, rfl, ?_⟩; have n0_ := Aside0.mk (blk_below (g := gb101) (o := .cells #[.slice A0_0 l0_0.length c0_0] 28 (0, 0)) (by (with_reducible repeat (first | refine blk_drewN ?_ _ | refine blk_drew ?_ | refine blk_alloc ?_ _)); exact BK101.out) hb); have n1_ := Aside0.mk (below_step (by repeat (first | (with_reducible first | exact HB.out | apply below_alloc | apply pw_below_drewN | apply below_drew1 | refine below_set ?_ GE101.out) | exact HB.out)) hb); clear BK101; clear HB; have BK101 := n0_; have HB := n1_; clear n0_ n1_; (try clear hb); (try clear hb2); (try clear hk); (try clear hi)))
  go_ret
  exact ⟨by first | rfl | (simp [errW_none, errW_some] <;> rfl) | (simp [*, errW_none, errW_some] <;> rfl), by repeat (first | (with_reducible first | exact HB.out | apply below_alloc | apply pw_below_drewN | apply below_drew1 | refine below_set ?_ GE101.out) | exact HB.out)⟩
 next =>
  rw [if_neg c4] at H
  have c4b0 : decide (t102 < 0) = false := yhy c4
  clear c4
  replace H := ydy.mp H
  obtain ⟨t103, A80, H⟩ := H
  replace H : (if t103 < 0 then (some true) else ((laws_toTriangulation.f k l0_0).bind fun t104 => ((laws_toInt64SS.f k l1).bind fun t107 => ((spec_ReversesOrientation.f k t104 t107).bind fun bt110 => ((laws_toTriangulation.f k l0_0).bind fun t112 => ((laws_toInt64SS.f k l1).bind fun t116 => ((impl_ReversesOrientation.f k t112 t116).bind fun bt119 => (if (bt119.1 != bt110.1) = true then (laws_FnExactReversesOrientation.j0 k l1 t116 true l0_0 t112) else (laws_FnExactReversesOrientation.j0 k l1 t116 (bt119.2 != bt110.2) l0_0 t112))))))))) = some r := H
  have A8 := Aside0.mk A80
  clear A80
  by_cases c9 : t103 < 0
  next =>
   rw [if_pos c9] at H
   have c9b0 : decide (t103 < 0) = true := ygy c9
   clear c9
   obtain rfl := yey H
   go_enter Try.func10, Try.ntmps10
   go_wp2_with (first | ((with_reducible refine gate_dst (N := 2) rfl ?_); refine box_event ?hg (N := 2) ?hd (cs := #[.slice A0_0 l0_0.length c0_0]) (t := 28) ?hr ?_; (case hd => rfl); (case hg => rfl); (case hr => first | (go_simp; done) | (go_simp; rfl)); intro gb101 hg w10 hbox hb; have n0_ := Aside0.mk (below_step (by repeat (first | (with_reducible first | exact HB.out | apply below_alloc | apply pw_below_drewN | apply below_drew1) | exact HB.out)) hb); have n1_ := Aside0.mk (hbox); have n2_ := Aside0.mk ((by rw [hg]; exact (below_size (by repeat (first | (with_reducible first | exact HB.out | apply below_alloc | apply pw_below_drewN | apply below_drew1) | exact HB.out))) : w.heap.size ≤ gb101)); have n3_ := Aside0.mk ((by rw [hg]; exact (below_size (by repeat (first | (with_reducible first | exact HB.out | apply below_alloc | apply pw_below_drewN | apply below_drew1) | exact HB.out))) : w.heap.size ≤ gb101)); clear HB; have HB := n0_; have BK101 := n1_; have GW101 := n2_; have GE101 := n3_; clear n0_ n1_ n2_ n3_; clear hb hbox hg; have hcz11_0 : w10.cell? ⟨gb101, 0, none⟩ = some (.slice A0_0 l0_0.length c0_0) := (blk_cell BK101.out 0).trans rfl; have hfz11_0 := blk_frozen BK101.out 0) | ((with_reducible refine gate_callee (f := 16) rfl ?_); refine goesL_ (some 14) rfl rfl Try.func16 (by kernel_rfl) rfl #[.agg #[.slice A0_0 l0_0.length c0_0], .int .i64 1048576] rfl (by (try simp only [yiy, yjy, yky]); first | done | rfl | (simp only [yly, ymy]; rfl)) ?_; (with_reducible refine (laws_szTriangulation.calls k _ _ l0_0 1048576 t102 _ ?side1 ?side2 A3.out).mono ?_); (case side1 => repeat (first | exact (Kd.C_below HR0_0.out HB.out) | (with_reducible refine Kd.C_alloc ?_ _) | (with_reducible refine Kd.C_drewN ?_ _) | (with_reducible refine Kd.C_drew ?_))); (case side2 => exact HC0_0.out); rintro e w12 ⟨rfl, hb⟩; refine ⟨_, rfl, ?_⟩; have n0_ := Aside0.mk (blk_below (g := gb101) (o := .cells #[.slice A0_0 l0_0.length c0_0] 28 (0, 0)) (by (with_reducible repeat (first | refine blk_drewN ?_ _ | refine blk_drew ?_ | refine blk_alloc ?_ _)); exact BK101.out) hb); have n1_ := Aside0.mk (below_step (by repeat (first | (with_reducible first | exact HB.out | apply below_alloc | apply pw_below_drewN | apply below_drew1 | refine below_set ?_ GE101.out) | exact HB.out)) hb); clear BK101; clear HB; have BK101 := n0_; have HB := n1_; clear n0_ n1_; (try clear hb); (try clear hb2); (try clear hk); (try clear hi)) | ((with_reducible refine gate_callee (f := 37) rfl ?_); refine goesL_ (some 19) rfl rfl Try.func37 (by kernel_rfl) rfl #[.slice A1 l1.length c1, .int .i64 t102] rfl (by (try simp only [yiy, yjy, yky]); first | done | rfl | (simp only [yly, ymy]; rfl)) ?_; (with_reducible refine (laws_szInt64SS.calls k _ _ l1 t102 t103 _ ?side1 ?side2 A8.out).mono ?_); (case side1 => repeat (first | exact (Kd.C_below HR1.out HB.out) | (with_reducible refine Kd.C_alloc ?_ _) | (with_reducible refine Kd.C_drewN ?_ _) | (with_reducible refine Kd.C_drew ?_))); (case side2 => exact HC1.out); rintro e w' ⟨rfl, ⟨nd, rfl⟩⟩; refine ⟨_, rfl, ?_⟩))
   go_ret
   exact ⟨by first | rfl | (simp [errW_none, errW_some] <;> rfl) | (simp [*, errW_none, errW_some] <;> rfl), by repeat (first | (with_reducible first | exact HB.out | apply below_alloc | apply pw_below_drewN | apply below_drew1 | refine below_set ?_ GE101.out) | exact HB.out)⟩
  next =>
   rw [if_neg c9] at H
   have c9b0 : decide (t103 < 0) = false := yhy c9
   clear c9
   replace H := ydy.mp H
   obtain ⟨t104, A130, H⟩ := H
   replace H : ((laws_toInt64SS.f k l1).bind fun t107 => ((spec_ReversesOrientation.f k t104 t107).bind fun bt110 => ((laws_toTriangulation.f k l0_0).bind fun t112 => ((laws_toInt64SS.f k l1).bind fun t116 => ((impl_ReversesOrientation.f k t112 t116).bind fun bt119 => (if (bt119.1 != bt110.1) = true then (laws_FnExactReversesOrientation.j0 k l1 t116 true l0_0 t112) else (laws_FnExactReversesOrientation.j0 k l1 t116 (bt119.2 != bt110.2) l0_0 t112))))))) = some r := H
   have A13 := Aside0.mk A130
   clear A130
   replace H := ydy.mp H
   obtain ⟨t107, A140, H⟩ := H
   replace H : ((spec_ReversesOrientation.f k t104 t107).bind fun bt110 => ((laws_toTriangulation.f k l0_0).bind fun t112 => ((laws_toInt64SS.f k l1).bind fun t116 => ((impl_ReversesOrientation.f k t112 t116).bind fun bt119 => (if (bt119.1 != bt110.1) = true then (laws_FnExactReversesOrientation.j0 k l1 t116 true l0_0 t112) else (laws_FnExactReversesOrientation.j0 k l1 t116 (bt119.2 != bt110.2) l0_0 t112)))))) = some r := H
   have A14 := Aside0.mk A140
   clear A140
   replace H := ydy.mp H
   obtain ⟨⟨t110, t111⟩, A150, H⟩ := H
   replace H : ((laws_toTriangulation.f k l0_0).bind fun t112 => ((laws_toInt64SS.f k l1).bind fun t116 => ((impl_ReversesOrientation.f k t112 t116).bind fun bt119 => (if (bt119.1 != t110) = true then (laws_FnExactReversesOrientation.j0 k l1 t116 true l0_0 t112) else (laws_FnExactReversesOrientation.j0 k l1 t116 (bt119.2 != t111) l0_0 t112))))) = some r := H
   have A15 := Aside0.mk A150
   clear A150
   replace H := ydy.mp H
   obtain ⟨t112, A160, H⟩ := H
   replace H : ((laws_toInt64SS.f k l1).bind fun t116 => ((impl_ReversesOrientation.f k t112 t116).bind fun bt119 => (if (bt119.1 != t110) = true then (laws_FnExactReversesOrientation.j0 k l1 t116 true l0_0 t112) else (laws_FnExactReversesOrientation.j0 k l1 t116 (bt119.2 != t111) l0_0 t112)))) = some r := H
   have A16 := Aside0.mk A160
   clear A160
   replace H := ydy.mp H
   obtain ⟨t116, A170, H⟩ := H
   replace H : ((impl_ReversesOrientation.f k t112 t116).bind fun bt119 => (if (bt119.1 != t110) = true then (laws_FnExactReversesOrientation.j0 k l1 t116 true l0_0 t112) else (laws_FnExactReversesOrientation.j0 k l1 t116 (bt119.2 != t111) l0_0 t112))) = some r := H
   have A17 := Aside0.mk A170
   clear A170
   replace H := ydy.mp H
   obtain ⟨⟨t119, t120⟩, A180, H⟩ := H
   replace H : (if (t119 != t110) = true then (laws_FnExactReversesOrientation.j0 k l1 t116 true l0_0 t112) else (laws_FnExactReversesOrientation.j0 k l1 t116 (t120 != t111) l0_0 t112)) = some r := H
   have A18 := Aside0.mk A180
   clear A180
   have HC19 := Aside0.mk H
   clear H
   go_enter Try.func10, Try.ntmps10
   go_upto_region 12 with (first | ((with_reducible refine gate_dst (N := 2) rfl ?_); refine box_event ?hg (N := 2) ?hd (cs := #[.slice A0_0 l0_0.length c0_0]) (t := 28) ?hr ?_; (case hd => rfl); (case hg => rfl); (case hr => first | (go_simp; done) | (go_simp; rfl)); intro gb101 hg w20 hbox hb; have n0_ := Aside0.mk (below_step (by repeat (first | (with_reducible first | exact HB.out | apply below_alloc | apply pw_below_drewN | apply below_drew1) | exact HB.out)) hb); have n1_ := Aside0.mk (hbox); have n2_ := Aside0.mk ((by rw [hg]; exact (below_size (by repeat (first | (with_reducible first | exact HB.out | apply below_alloc | apply pw_below_drewN | apply below_drew1) | exact HB.out))) : w.heap.size ≤ gb101)); have n3_ := Aside0.mk ((by rw [hg]; exact (below_size (by repeat (first | (with_reducible first | exact HB.out | apply below_alloc | apply pw_below_drewN | apply below_drew1) | exact HB.out))) : w.heap.size ≤ gb101)); clear HB; have HB := n0_; have BK101 := n1_; have GW101 := n2_; have GE101 := n3_; clear n0_ n1_ n2_ n3_; clear hb hbox hg; have hcz21_0 : w20.cell? ⟨gb101, 0, none⟩ = some (.slice A0_0 l0_0.length c0_0) := (blk_cell BK101.out 0).trans rfl; have hfz21_0 := blk_frozen BK101.out 0) | ((with_reducible refine gate_callee (f := 16) rfl ?_); refine goesL_ (some 14) rfl rfl Try.func16 (by kernel_rfl) rfl #[.agg #[.slice A0_0 l0_0.length c0_0], .int .i64 1048576] rfl (by (try simp only [yiy, yjy, yky]); first | done | rfl | (simp only [yly, ymy]; rfl)) ?_; (with_reducible refine (laws_szTriangulation.calls k _ _ l0_0 1048576 t102 _ ?side1 ?side2 A3.out).mono ?_); (case side1 => repeat (first | exact (Kd.C_below HR0_0.out HB.out) | (with_reducible refine Kd.C_alloc ?_ _) | (with_reducible refine Kd.C_drewN ?_ _) | (with_reducible refine Kd.C_drew ?_))); (case side2 => exact HC0_0.out); rintro e w22 ⟨rfl, hb⟩; refine ⟨_, rfl, ?_⟩; have n0_ := Aside0.mk (blk_below (g := gb101) (o := .cells #[.slice A0_0 l0_0.length c0_0] 28 (0, 0)) (by (with_reducible repeat (first | refine blk_drewN ?_ _ | refine blk_drew ?_ | refine blk_alloc ?_ _)); exact BK101.out) hb); have n1_ := Aside0.mk (below_step (by repeat (first | (with_reducible first | exact HB.out | apply below_alloc | apply pw_below_drewN | apply below_drew1 | refine below_set ?_ GE101.out) | exact HB.out)) hb); clear BK101; clear HB; have BK101 := n0_; have HB := n1_; clear n0_ n1_; (try clear hb); (try clear hb2); (try clear hk); (try clear hi)) | ((with_reducible refine gate_callee (f := 37) rfl ?_); refine goesL_ (some 19) rfl rfl Try.func37 (by kernel_rfl) rfl #[.slice A1 l1.length c1, .int .i64 t102] rfl (by (try simp only [yiy, yjy, yky]); first | done | rfl | (simp only [yly, ymy]; rfl)) ?_; (with_reducible refine (laws_szInt64SS.calls k _ _ l1 t102 t103 _ ?side1 ?side2 A8.out).mono ?_); (case side1 => repeat (first | exact (Kd.C_below HR1.out HB.out) | (with_reducible refine Kd.C_alloc ?_ _) | (with_reducible refine Kd.C_drewN ?_ _) | (with_reducible refine Kd.C_drew ?_))); (case side2 => exact HC1.out); rintro e w' ⟨rfl, ⟨nd, rfl⟩⟩; refine ⟨_, rfl, ?_⟩; (try (rw [drewN_self w22]; generalize hq_ : World.drewN w22 _ = w22; have n0_ : Aside0 (w22.heap[gb101]? = some (.cells #[.slice A0_0 l0_0.length c0_0] 28 (0, 0))) := ⟨by rw [← hq_]; exact (by (with_reducible repeat (first | refine blk_drewN ?_ _ | refine blk_drew ?_ | refine blk_alloc ?_ _)); exact BK101.out)⟩; have n1_ : Aside0 (Below w.heap.size w w22) := ⟨by rw [← hq_]; exact (by repeat (first | (with_reducible first | exact HB.out | apply below_alloc | apply pw_below_drewN | apply below_drew1 | refine below_set ?_ GE101.out) | exact HB.out))⟩; clear BK101 HB hq_; have BK101 := n0_; have HB := n1_; clear n0_ n1_)); have hcz23_0 : w22.cell? ⟨gb101, 0, none⟩ = some (.slice A0_0 l0_0.length c0_0) := (blk_cell BK101.out 0).trans rfl; have hfz23_0 := blk_frozen BK101.out 0) | ((with_reducible refine gate_callee (f := 18) rfl ?_); refine goesL_ (some 24) rfl rfl Try.func18 (by kernel_rfl) rfl #[.agg #[.slice A0_0 l0_0.length c0_0]] rfl (by (try simp only [yiy, yjy, yky]); first | done | rfl | (simp only [yly, ymy]; rfl)) ?_; (with_reducible refine (laws_toTriangulation.calls k _ _ l0_0 t104 _ ?side1 ?side2 A13.out).mono ?_); (case side1 => repeat (first | exact (Kd.C_below HR0_0.out HB.out) | (with_reducible refine Kd.C_alloc ?_ _) | (with_reducible refine Kd.C_drewN ?_ _) | (with_reducible refine Kd.C_drew ?_))); (case side2 => exact HC0_0.out); rintro e w24 ⟨v105, rfl, ho0, hb⟩; refine ⟨_, rfl, ?_⟩; have n0_ := Aside0.mk (Kd.S_lower ho0 (below_size (by repeat (first | (with_reducible first | exact HB.out | apply below_alloc | apply pw_below_drewN | apply below_drew1 | refine below_set ?_ GE101.out) | exact HB.out)))); have n1_ := Aside0.mk (blk_below (g := gb101) (o := .cells #[.slice A0_0 l0_0.length c0_0] 28 (0, 0)) (by (with_reducible repeat (first | refine blk_drewN ?_ _ | refine blk_drew ?_ | refine blk_alloc ?_ _)); exact BK101.out) hb); have n2_ := Aside0.mk (below_step (by repeat (first | (with_reducible first | exact HB.out | apply below_alloc | apply pw_below_drewN | apply below_drew1 | refine below_set ?_ GE101.out) | exact HB.out)) hb); clear BK101; clear HB; have HO106 := n0_; have BK101 := n1_; have HB := n2_; clear n0_ n1_ n2_; (try clear hb); (try clear hb2); (try clear hk); (try clear hi); (try clear ho0)) | ((with_reducible refine gate_callee (f := 39) rfl ?_); refine goesL_ (some 26) rfl rfl Try.func39 (by kernel_rfl) rfl #[.slice A1 l1.length c1] rfl (by (try simp only [yiy, yjy, yky]); first | done | rfl | (simp only [yly, ymy]; rfl)) ?_; (with_reducible refine (laws_toInt64SS.calls k _ _ l1 t107 _ ?side1 ?side2 A14.out).mono ?_); (case side1 => repeat (first | exact (Kd.C_below HR1.out HB.out) | (with_reducible refine Kd.C_alloc ?_ _) | (with_reducible refine Kd.C_drewN ?_ _) | (with_reducible refine Kd.C_drew ?_))); (case side2 => exact HC1.out); rintro e w25 ⟨v108, rfl, ho0, hb⟩; refine ⟨_, rfl, ?_⟩; have n0_ := Aside0.mk (Kd.S_below (by (with_reducible repeat (first | apply Kd.S_alloc | apply Kd.S_drewN | apply Kd.S_drew)); exact HO106.out) hb); have n1_ := Aside0.mk (Kd.S_lower ho0 (below_size (by repeat (first | (with_reducible first | exact HB.out | apply below_alloc | apply pw_below_drewN | apply below_drew1 | refine below_set ?_ GE101.out) | exact HB.out)))); have n2_ := Aside0.mk (blk_below (g := gb101) (o := .cells #[.slice A0_0 l0_0.length c0_0] 28 (0, 0)) (by (with_reducible repeat (first | refine blk_drewN ?_ _ | refine blk_drew ?_ | refine blk_alloc ?_ _)); exact BK101.out) hb); have n3_ := Aside0.mk (below_step (by repeat (first | (with_reducible first | exact HB.out | apply below_alloc | apply pw_below_drewN | apply below_drew1 | refine below_set ?_ GE101.out) | exact HB.out)) hb); clear HO106; clear BK101; clear HB; have HO106 := n0_; have HO109 := n1_; have BK101 := n2_; have HB := n3_; clear n0_ n1_ n2_ n3_; (try clear hb); (try clear hb2); (try clear hk); (try clear hi); (try clear ho0); obtain ⟨Ao26, co26, eo26⟩ := Kd.S_slice HO106.out; subst eo26; obtain ⟨Ao27, co27, eo27⟩ := Kd.S_slice HO109.out; subst eo27) | ((with_reducible refine gate_callee (f := 38) rfl ?_); refine goesL_ (some 27) rfl rfl Try.func38 (by kernel_rfl) rfl #[.agg #[.slice Ao26 t104.length co26], .slice Ao27 t107.length co27] rfl (by (try simp only [yiy, yjy, yky]); first | done | rfl | (simp only [yly, ymy]; rfl)) ?_; (with_reducible refine (spec_ReversesOrientation.calls k _ _ t104 _ _ t107 t110 t111 _ ?side1 ?side2 ?side3 ?side4 A15.out).mono ?_); (case side1 => repeat (first | exact (Kd.S_reads' HO106.out).2.2 | (with_reducible refine Kd.C_alloc ?_ _) | (with_reducible refine Kd.C_drewN ?_ _) | (with_reducible refine Kd.C_drew ?_))); (case side2 => exact (Kd.S_reads' HO106.out).2.1); (case side3 => repeat (first | exact (Kd.S_reads' HO109.out).2.2 | (with_reducible refine Kd.C_alloc ?_ _) | (with_reducible refine Kd.C_drewN ?_ _) | (with_reducible refine Kd.C_drew ?_))); (case side4 => exact (Kd.S_reads' HO109.out).2.1); rintro e w28 ⟨rfl, hb⟩; refine ⟨_, rfl, ?_⟩; have n0_ := Aside0.mk (Kd.S_below (by (with_reducible repeat (first | apply Kd.S_alloc | apply Kd.S_drewN | apply Kd.S_drew)); exact HO106.out) hb); have n1_ := Aside0.mk (Kd.S_below (by (with_reducible repeat (first | apply Kd.S_alloc | apply Kd.S_drewN | apply Kd.S_drew)); exact HO109.out) hb); have n2_ := Aside0.mk (blk_below (g := gb101) (o := .cells #[.slice A0_0 l0_0.length c0_0] 28 (0, 0)) (by (with_reducible repeat (first | refine blk_drewN ?_ _ | refine blk_drew ?_ | refine blk_alloc ?_ _)); exact BK101.out) hb); have n3_ := Aside0.mk (below_step (by repeat (first | (with_reducible first | exact HB.out | apply below_alloc | apply pw_below_drewN | apply below_drew1 | refine below_set ?_ GE101.out) | exact HB.out)) hb); clear HO106; clear HO109; clear BK101; clear HB; have HO106 := n0_; have HO109 := n1_; have BK101 := n2_; have HB := n3_; clear n0_ n1_ n2_ n3_; (try clear hb); (try clear hb2); (try clear hk); (try clear hi); have hcz29_0 : w28.cell? ⟨gb101, 0, none⟩ = some (.slice A0_0 l0_0.length c0_0) := (blk_cell BK101.out 0).trans rfl; have hfz29_0 := blk_frozen BK101.out 0) | ((with_reducible refine gate_callee (f := 18) rfl ?_); refine goesL_ (some 31) rfl rfl Try.func18 (by kernel_rfl) rfl #[.agg #[.slice A0_0 l0_0.length c0_0]] rfl (by (try simp only [yiy, yjy, yky]); first | done | rfl | (simp only [yly, ymy]; rfl)) ?_; (with_reducible refine (laws_toTriangulation.calls k _ _ l0_0 t112 _ ?side1 ?side2 A16.out).mono ?_); (case side1 => repeat (first | exact (Kd.C_below HR0_0.out HB.out) | (with_reducible refine Kd.C_alloc ?_ _) | (with_reducible refine Kd.C_drewN ?_ _) | (with_reducible refine Kd.C_drew ?_))); (case side2 => exact HC0_0.out); rintro e w30 ⟨v113, rfl, ho0, hb⟩; refine ⟨_, rfl, ?_⟩; have n0_ := Aside0.mk (Kd.S_elder' (by (with_reducible repeat (first | apply Kd.S_alloc | apply Kd.S_drewN | apply Kd.S_drew)); exact HO106.out) (Kd.S_base ho0) hb); have n1_ := Aside0.mk (Kd.S_below (by (with_reducible repeat (first | apply Kd.S_alloc | apply Kd.S_drewN | apply Kd.S_drew)); exact HO109.out) hb); have n2_ := Aside0.mk (Kd.S_lower (Kd.S_new' ho0 (Kd.S_lt (by (with_reducible repeat (first | apply Kd.S_alloc | apply Kd.S_drewN | apply Kd.S_drew)); exact HO106.out))) (below_size (by repeat (first | (with_reducible first | exact HB.out | apply below_alloc | apply pw_below_drewN | apply below_drew1 | refine below_set ?_ GE101.out) | exact HB.out)))); have n3_ := Aside0.mk (blk_below (g := gb101) (o := .cells #[.slice A0_0 l0_0.length c0_0] 28 (0, 0)) (by (with_reducible repeat (first | refine blk_drewN ?_ _ | refine blk_drew ?_ | refine blk_alloc ?_ _)); exact BK101.out) hb); have n4_ := Aside0.mk (below_step (by repeat (first | (with_reducible first | exact HB.out | apply below_alloc | apply pw_below_drewN | apply below_drew1 | refine below_set ?_ GE101.out) | exact HB.out)) hb); clear HO106; clear HO109; clear BK101; clear HB; have HO106 := n0_; have HO109 := n1_; have HO114 := n2_; have BK101 := n3_; have HB := n4_; clear n0_ n1_ n2_ n3_ n4_; (try clear hb); (try clear hb2); (try clear hk); (try clear hi); (try clear ho0)) | ((with_reducible refine gate_dst (N := 8) rfl ?_); refine box_event ?hg (N := 8) ?hd (cs := #[.slice none 0 0]) (t := 35) ?hr ?_; (case hd => rfl); (case hg => rfl); (case hr => first | (go_simp; done) | (go_simp; rfl)); intro gb115 hg w31 hbox hb; have n0_ := Aside0.mk (Kd.S_below (by (with_reducible repeat (first | apply Kd.S_alloc | apply Kd.S_drewN | apply Kd.S_drew)); exact HO106.out) hb); have n1_ := Aside0.mk (Kd.S_below (by (with_reducible repeat (first | apply Kd.S_alloc | apply Kd.S_drewN | apply Kd.S_drew)); exact HO109.out) hb); have n2_ := Aside0.mk (Kd.S_below (by (with_reducible repeat (first | apply Kd.S_alloc | apply Kd.S_drewN | apply Kd.S_drew)); exact HO114.out) hb); have n3_ := Aside0.mk (blk_below (g := gb101) (o := .cells #[.slice A0_0 l0_0.length c0_0] 28 (0, 0)) (by (with_reducible repeat (first | refine blk_drewN ?_ _ | refine blk_drew ?_ | refine blk_alloc ?_ _)); exact BK101.out) hb); have n4_ := Aside0.mk (below_step (by repeat (first | (with_reducible first | exact HB.out | apply below_alloc | apply pw_below_drewN | apply below_drew1 | refine below_set ?_ GE101.out) | exact HB.out)) hb); have n5_ := Aside0.mk (hbox); have n6_ := Aside0.mk ((by rw [hg]; exact (below_size (by repeat (first | (with_reducible first | exact HB.out | apply below_alloc | apply pw_below_drewN | apply below_drew1 | refine below_set ?_ GE101.out) | exact HB.out))) : w.heap.size ≤ gb115)); have n7_ := Aside0.mk ((by rw [hg]; exact (below_size (by repeat (first | (with_reducible first | exact HB.out | apply below_alloc | apply pw_below_drewN | apply below_drew1 | refine below_set ?_ GE101.out) | exact HB.out))) : w.heap.size ≤ gb115)); have n8_ := Aside0.mk ((by rw [hg]; exact Nat.ne_of_lt (blk_lt (g := gb101) (o := .cells #[.slice A0_0 l0_0.length c0_0] 28 (0, 0)) (by (with_reducible repeat (first | refine blk_drewN ?_ _ | refine blk_drew ?_ | refine blk_alloc ?_ _)); exact BK101.out)) : gb101 ≠ gb115)); have n9_ := Aside0.mk ((by rw [hg]; exact Nat.ne_of_gt (blk_lt (g := gb101) (o := .cells #[.slice A0_0 l0_0.length c0_0] 28 (0, 0)) (by (with_reducible repeat (first | refine blk_drewN ?_ _ | refine blk_drew ?_ | refine blk_alloc ?_ _)); exact BK101.out)) : gb115 ≠ gb101)); clear HO106; clear HO109; clear HO114; clear BK101; clear HB; have HO106 := n0_; have HO109 := n1_; have HO114 := n2_; have BK101 := n3_; have HB := n4_; have BK115 := n5_; have GW115 := n6_; have GE115 := n7_; have NB101_115 := n8_; have NB115_101 := n9_; clear n0_ n1_ n2_ n3_ n4_ n5_ n6_ n7_ n8_ n9_; clear hb hbox hg; obtain ⟨Ao32, co32, eo32⟩ := Kd.S_slice HO114.out; subst eo32; have hnb33 := NB115_101.out; have hnc33 := NB101_115.out; have hcz34_0 : w31.cell? ⟨gb115, 0, none⟩ = some (.slice none 0 0) := (blk_cell BK115.out 0).trans rfl; have hfz34_0 := blk_frozen BK115.out 0) | ((with_reducible refine gate_callee (f := 39) rfl ?_); refine goesL_ (some 33) rfl rfl Try.func39 (by kernel_rfl) rfl #[.slice A1 l1.length c1] rfl (by (try simp only [yiy, yjy, yky]); first | done | rfl | (simp only [yly, ymy]; rfl)) ?_; (with_reducible refine (laws_toInt64SS.calls k _ _ l1 t116 _ ?side1 ?side2 A17.out).mono ?_); (case side1 => exact Kd.C_below HR1.out (by repeat (first | (with_reducible first | exact HB.out | apply below_alloc | apply pw_below_drewN | apply below_drew1 | refine below_set ?_ GE101.out | refine below_set ?_ GE115.out) | exact HB.out))); (case side2 => exact HC1.out); rintro e w35 ⟨v117, rfl, ho0, hb⟩; refine ⟨_, rfl, ?_⟩; have n0_ := Aside0.mk (Kd.S_below (by (with_reducible repeat (first | apply Kd.S_alloc | apply Kd.S_drewN | apply Kd.S_drew)); exact (Kd.S_mono (Kd.S_far (p := ⟨gb115, 0, none⟩) (Kd.S_types HO106.out BK115.out (by decide)) (fun _ hk => hk.2) (.slice Ao32 t112.length co32)) (fun _ h_ => h_.1))) hb); have n1_ := Aside0.mk (Kd.S_elder' (by (with_reducible repeat (first | apply Kd.S_alloc | apply Kd.S_drewN | apply Kd.S_drew)); exact (Kd.S_mono (Kd.S_far (p := ⟨gb115, 0, none⟩) (Kd.S_types HO109.out BK115.out (by decide)) (fun _ hk => hk.2) (.slice Ao32 t112.length co32)) (fun _ h_ => h_.1))) (Kd.S_base ho0) hb); have n2_ := Aside0.mk (Kd.S_below (by (with_reducible repeat (first | apply Kd.S_alloc | apply Kd.S_drewN | apply Kd.S_drew)); exact (Kd.S_mono (Kd.S_far (p := ⟨gb115, 0, none⟩) (Kd.S_types HO114.out BK115.out (by decide)) (fun _ hk => hk.2) (.slice Ao32 t112.length co32)) (fun _ h_ => h_.1))) hb); have n3_ := Aside0.mk (Kd.S_lower (Kd.S_new' ho0 (Kd.S_lt (by (with_reducible repeat (first | apply Kd.S_alloc | apply Kd.S_drewN | apply Kd.S_drew)); exact (Kd.S_mono (Kd.S_far (p := ⟨gb115, 0, none⟩) (Kd.S_types HO109.out BK115.out (by decide)) (fun _ hk => hk.2) (.slice Ao32 t112.length co32)) (fun _ h_ => h_.1))))) (below_size (by repeat (first | (with_reducible first | exact HB.out | apply below_alloc | apply pw_below_drewN | apply below_drew1 | refine below_set ?_ GE101.out | refine below_set ?_ GE115.out) | exact HB.out)))); have n4_ := Aside0.mk (blk_below (g := gb101) (o := .cells #[.slice A0_0 l0_0.length c0_0] 28 (0, 0)) (by (with_reducible repeat (first | refine blk_drewN ?_ _ | refine blk_drew ?_ | refine blk_alloc ?_ _)); refine blk_far ?_ NB101_115.out _; (with_reducible repeat (first | refine blk_drewN ?_ _ | refine blk_drew ?_ | refine blk_alloc ?_ _)); exact BK101.out) hb); have n5_ := Aside0.mk (blk_below (g := gb115) (o := .cells #[.slice Ao32 t112.length co32] 35 (0, 0)) (by (with_reducible repeat (first | refine blk_drewN ?_ _ | refine blk_drew ?_ | refine blk_alloc ?_ _)); refine blk_put (cs := #[.slice none 0 0]) ?_ 0 _ rfl; (with_reducible repeat (first | refine blk_drewN ?_ _ | refine blk_drew ?_ | refine blk_alloc ?_ _)); exact BK115.out) hb); have n6_ := Aside0.mk (below_step (by repeat (first | (with_reducible first | exact HB.out | apply below_alloc | apply pw_below_drewN | apply below_drew1 | refine below_set ?_ GE101.out | refine below_set ?_ GE115.out) | exact HB.out)) hb); clear HO106; clear HO109; clear HO114; clear BK101; clear BK115; clear HB; have HO106 := n0_; have HO109 := n1_; have HO114 := n2_; have HO118 := n3_; have BK101 := n4_; have BK115 := n5_; have HB := n6_; clear n0_ n1_ n2_ n3_ n4_ n5_ n6_; (try clear hb); (try clear hb2); (try clear hk); (try clear hi); (try clear ho0); have hcz36_0 : w35.cell? ⟨gb115, 0, none⟩ = some (.slice Ao32 t112.length co32) := (blk_cell BK115.out 0).trans rfl; have hfz36_0 := blk_frozen BK115.out 0; obtain ⟨Ao37, co37, eo37⟩ := Kd.S_slice HO118.out; subst eo37) | ((with_reducible refine gate_callee (f := 40) rfl ?_); refine goesL_ (some 37) rfl rfl Try.func40 (by kernel_rfl) rfl #[.agg #[.slice Ao32 t112.length co32], .slice Ao37 t116.length co37] rfl (by (try simp only [yiy, yjy, yky]); first | done | rfl | (simp only [yly, ymy]; rfl)) ?_; (with_reducible refine (impl_ReversesOrientation.calls k _ _ t112 _ _ t116 t119 t120 _ ?side1 ?side2 ?side3 ?side4 A18.out).mono ?_); (case side1 => repeat (first | exact (Kd.S_reads' HO114.out).2.2 | (with_reducible refine Kd.C_alloc ?_ _) | (with_reducible refine Kd.C_drewN ?_ _) | (with_reducible refine Kd.C_drew ?_))); (case side2 => exact (Kd.S_reads' HO114.out).2.1); (case side3 => repeat (first | exact (Kd.S_reads' HO118.out).2.2 | (with_reducible refine Kd.C_alloc ?_ _) | (with_reducible refine Kd.C_drewN ?_ _) | (with_reducible refine Kd.C_drew ?_))); (case side4 => exact (Kd.S_reads' HO118.out).2.1); rintro e w38 ⟨rfl, hb⟩; refine ⟨_, rfl, ?_⟩; have n0_ := Aside0.mk (Kd.S_below (by (with_reducible repeat (first | apply Kd.S_alloc | apply Kd.S_drewN | apply Kd.S_drew)); exact HO106.out) hb); have n1_ := Aside0.mk (Kd.S_below (by (with_reducible repeat (first | apply Kd.S_alloc | apply Kd.S_drewN | apply Kd.S_drew)); exact HO109.out) hb); have n2_ := Aside0.mk (Kd.S_below (by (with_reducible repeat (first | apply Kd.S_alloc | apply Kd.S_drewN | apply Kd.S_drew)); exact HO114.out) hb); have n3_ := Aside0.mk (Kd.S_below (by (with_reducible repeat (first | apply Kd.S_alloc | apply Kd.S_drewN | apply Kd.S_drew)); exact HO118.out) hb); have n4_ := Aside0.mk (blk_below (g := gb101) (o := .cells #[.slice A0_0 l0_0.length c0_0] 28 (0, 0)) (by (with_reducible repeat (first | refine blk_drewN ?_ _ | refine blk_drew ?_ | refine blk_alloc ?_ _)); exact BK101.out) hb); have n5_ := Aside0.mk (blk_below (g := gb115) (o := .cells #[.slice Ao32 t112.length co32] 35 (0, 0)) (by (with_reducible repeat (first | refine blk_drewN ?_ _ | refine blk_drew ?_ | refine blk_alloc ?_ _)); exact BK115.out) hb); have n6_ := Aside0.mk (below_step (by repeat (first | (with_reducible first | exact HB.out | apply below_alloc | apply pw_below_drewN | apply below_drew1 | refine below_set ?_ GE101.out | refine below_set ?_ GE115.out) | exact HB.out)) hb); clear HO106; clear HO109; clear HO114; clear HO118; clear BK101; clear BK115; clear HB; have HO106 := n0_; have HO109 := n1_; have HO114 := n2_; have HO118 := n3_; have BK101 := n4_; have BK115 := n5_; have HB := n6_; clear n0_ n1_ n2_ n3_ n4_ n5_ n6_; (try clear hb); (try clear hb2); (try clear hk); (try clear hi)))
   (try simp only [Act.put, yay, yby, ycy])
   go_cut [47] (fun v47 wc => ∃ (kq : Nat) (x47_18 : Bool), v47 = .bool x47_18 ∧ Aside0 (laws_FnExactReversesOrientation.j0 kq l1 t116 x47_18 l0_0 t112 = some r) ∧ Aside0 (kq ≤ k) ∧ Aside0 (Kd.S (Kd.slice 2 (Kd.int .i64)) 22 wc w.heap.size (fun _ => True) (.slice Ao37 t116.length co37) t116) ∧ Aside0 (Kd.S (Kd.slice 75 kFace) 76 wc w.heap.size (fun _ => True) (.slice Ao32 t112.length co32) t112) ∧ Aside0 (wc.heap[gb101]? = some (.cells #[(.slice A0_0 l0_0.length c0_0)] 28 (0, 0))) ∧ Aside0 (wc.heap[gb115]? = some (.cells #[(.slice Ao32 t112.length co32)] 35 (0, 0))) ∧ Aside0 (Below w.heap.size w wc))
   case first =>
    have H := HC19.out
    clear HC19
    by_cases c39 : (t119 != t110) = true
    rotate_left
    next =>
     rw [if_neg c39] at H
     have c39b0 : (t119 != t110) = false := by simpa using c39
     (try (have c39b1 : decide (t119 = t110) = true := by simpa using c39))
     (try (have c39b2 : (t119 == t110) = true := by simpa using c39))
     clear c39
     (first | rw [c39b0] | (simp only [i64_w, i32_w]; rw [c39b0]) | skip)
     have H' := Aside0.mk H
     clear H
     go_wp2
     go_meet
     case rel => exact ⟨_, ((t120 != t111)), (by first | rfl | (simp; done) | (simp [*]; done)), H', ⟨by first | omega | exact yoy _⟩, ⟨by (with_reducible repeat (first | apply Kd.S_alloc | apply Kd.S_drewN | apply Kd.S_drew)); exact Kd.S_mono HO118.out (fun _ hk => trivial)⟩, ⟨by (with_reducible repeat (first | apply Kd.S_alloc | apply Kd.S_drewN | apply Kd.S_drew)); exact Kd.S_mono HO114.out (fun _ hk => trivial)⟩, ⟨by (with_reducible repeat (first | refine blk_drewN ?_ _ | refine blk_drew ?_ | refine blk_alloc ?_ _)); exact BK101.out⟩, ⟨by (with_reducible repeat (first | refine blk_drewN ?_ _ | refine blk_drew ?_ | refine blk_alloc ?_ _)); exact BK115.out⟩, ⟨by repeat (first | (with_reducible first | exact HB.out | apply below_alloc | apply pw_below_drewN | apply below_drew1 | refine below_set ?_ GE101.out | refine below_set ?_ GE115.out) | exact HB.out)⟩⟩
    rw [if_pos c39] at H
    have c39b0 : (t119 != t110) = true := c39
    (try (have c39b1 : decide (t119 = t110) = false := by simpa using c39))
    (try (have c39b2 : (t119 == t110) = false := by simpa using c39))
    (try (have c39b3 : ¬ (t119 = t110) := by simpa using c39))
    clear c39
    (first | rw [c39b0] | (simp only [i64_w, i32_w]; rw [c39b0]) | skip)
    have H' := Aside0.mk H
    clear H
    go_wp2
    go_meet
    case rel => exact ⟨_, (true), (by first | rfl | (simp; done) | (simp [*]; done)), H', ⟨by first | omega | exact yoy _⟩, ⟨by (with_reducible repeat (first | apply Kd.S_alloc | apply Kd.S_drewN | apply Kd.S_drew)); exact Kd.S_mono HO118.out (fun _ hk => trivial)⟩, ⟨by (with_reducible repeat (first | apply Kd.S_alloc | apply Kd.S_drewN | apply Kd.S_drew)); exact Kd.S_mono HO114.out (fun _ hk => trivial)⟩, ⟨by (with_reducible repeat (first | refine blk_drewN ?_ _ | refine blk_drew ?_ | refine blk_alloc ?_ _)); exact BK101.out⟩, ⟨by (with_reducible repeat (first | refine blk_drewN ?_ _ | refine blk_drew ?_ | refine blk_alloc ?_ _)); exact BK115.out⟩, ⟨by repeat (first | (with_reducible first | exact HB.out | apply below_alloc | apply pw_below_drewN | apply below_drew1 | refine below_set ?_ GE101.out | refine below_set ?_ GE115.out) | exact HB.out)⟩⟩
   case rest =>
    clear HC19
    try clear c1
    try clear p2
    try clear c3
    try clear c4
    try clear c4b0
    try clear c9
    try clear c9b0
    try clear c10
    try clear c16
    try clear c18
    try clear c33
    try clear c37
    try clear c38
    try clear c39
    try clear c39b0
    try clear c39b1
    try clear c39b2
    try clear hcz11_0
    try clear hcz21_0
    try clear hcz23_0
    try clear hcz29_0
    try clear hcz34_0
    try clear hcz36_0
    try clear hcz6_0
    try clear hfz11_0
    try clear hfz21_0
    try clear hfz23_0
    try clear hfz29_0
    try clear hfz34_0
    try clear hfz36_0
    try clear hfz6_0
    obtain ⟨kq, x47_18, rfl, HA, HJ18, HO_9, HO_116000, BK101, BK115, HB⟩ := hcut
    cases kq with
    | zero => exact absurd HA.out (by simp [laws_FnExactReversesOrientation.j0])
    | succ kj18 =>
     have H := HA.out
     clear HA
     simp only [laws_FnExactReversesOrientation.j0] at H
     by_cases c40 : x47_18 = true
     next =>
      subst c40
      have H1 : (some false) = some r := by rw [if_pos rfl] at H; exact H
      clear H
      have H := H1
      clear H1
      obtain rfl := yey H
      go_wp2
      go_ret
      exact ⟨by first | rfl | (simp [errW_none, errW_some] <;> rfl) | (simp [*, errW_none, errW_some] <;> rfl), by repeat (first | (with_reducible first | exact HB.out | apply below_alloc | apply pw_below_drewN | apply below_drew1 | refine below_set ?_ GE101.out | refine below_set ?_ GE115.out) | exact HB.out)⟩
     next =>
      replace c40 := Bool.eq_false_iff.mpr c40
      subst c40
      have H1 : ((laws_toTriangulation.f kj18 l0_0).bind fun t121 => ((laws_eqTriangulation.f kj18 t112 t121).bind fun t124 => (if t124 = true then ((laws_toInt64SS.f kj18 l1).bind fun t125 => ((laws_eqInt64SS.f kj18 t116 t125).bind fun t128 => (if t128 = true then (some true) else (some false)))) else (some false)))) = some r := by rw [if_neg (show ¬ (false = true) by decide)] at H; exact H
      clear H
      have H := H1
      clear H1
      replace H := ydy.mp H
      obtain ⟨t121, A410, H⟩ := H
      replace H : ((laws_eqTriangulation.f kj18 t112 t121).bind fun t124 => (if t124 = true then ((laws_toInt64SS.f kj18 l1).bind fun t125 => ((laws_eqInt64SS.f kj18 t116 t125).bind fun t128 => (if t128 = true then (some true) else (some false)))) else (some false))) = some r := H
      have A41 := Aside0.mk A410
      clear A410
      replace H := ydy.mp H
      obtain ⟨t124, A420, H⟩ := H
      replace H : (if t124 = true then ((laws_toInt64SS.f kj18 l1).bind fun t125 => ((laws_eqInt64SS.f kj18 t116 t125).bind fun t128 => (if t128 = true then (some true) else (some false)))) else (some false)) = some r := H
      have A42 := Aside0.mk A420
      clear A420
      by_cases c43 : t124 = true
      rotate_left
      next =>
       replace c43 := Bool.eq_false_iff.mpr c43
       subst c43
       have H1 : (some false) = some r := by rw [if_neg (show ¬ (false = true) by decide)] at H; exact H
       clear H
       have H := H1
       clear H1
       obtain rfl := yey H
       try go_wp2
       have n0_ := Aside0.mk (Kd.S_drew HO_9.out)
       have n1_ := Aside0.mk (Kd.S_drew HO_116000.out)
       have n2_ := Aside0.mk (blk_drew BK101.out)
       have n3_ := Aside0.mk (blk_drew BK115.out)
       have n4_ := Aside0.mk (below_drew1 HB.out)
       clear HO_9
       clear HO_116000
       clear BK101
       clear BK115
       clear HB
       have HO_9 := n0_
       have HO_116000 := n1_
       have BK101 := n2_
       have BK115 := n3_
       have HB := n4_
       clear n0_ n1_ n2_ n3_ n4_
       refine start_ (n := 5) (S := fun w' => w'.cell? ⟨gb115, 0, none⟩ = some (.slice Ao32 t112.length co32) ∧ w'.cell? ⟨gb101, 0, none⟩ = some (.slice A0_0 l0_0.length c0_0)) (ds := []) #[false, false, false, false, false] (by kernel_rfl) rfl rfl ⟨(blk_cell BK115.out 0).trans rfl, (blk_cell BK101.out 0).trans rfl⟩ (fun hHeld => ?_)
       generalize wc.drew = w59 at HO_9 HO_116000 BK101 BK115 HB hHeld ⊢
       refine take_ (i := 0) (N := some 48) (v := ?_) (a' := ?_) #[true, false, false, false, false] rfl rfl (by kernel_rfl) (fun _ _ _ h => h) (Or.inl ⟨by rfl, ?_⟩) hHeld ?_ ?_
       rotate_left
       next =>
        rintro w' ⟨s0, s1⟩
        go_simp
        with_reducible rfl
       rotate_left
       next =>
        simp only [Act.put, yay, yby, ycy, i64_w, i32_w]
        rfl
       refine take_ (i := 1) (N := some 49) (v := ?_) (a' := ?_) #[true, true, false, false, false] rfl rfl (by kernel_rfl) (fun _ _ _ h => h) (Or.inl ⟨by rfl, ?_⟩) hHeld ?_ ?_
       rotate_left
       next =>
        rintro w' ⟨s0, s1⟩
        go_simp
        with_reducible rfl
       rotate_left
       next =>
        simp only [Act.put, yay, yby, ycy, i64_w, i32_w]
        rfl
       refine one_ (i := 2) (N := some 50) #[true, true, true, false, false] rfl rfl (by kernel_rfl) (by decide) (fun K hK => ?_)
       refine goes_ Try.func18 (by kernel_rfl) rfl #[.agg #[.slice A0_0 l0_0.length c0_0]] (by rfl) rfl rfl (by (try simp only [yiy, yjy, yky]); first | done | rfl | (simp only [yly, ymy]; rfl)) ?_
       with_reducible refine (laws_toTriangulation.calls kj18 _ _ l0_0 t121 _ ?side1 ?side2 A41.out).mono ?_
       (case side1 => repeat (first | exact (Kd.C_below HR0_0.out HB.out) | (with_reducible refine Kd.C_alloc ?_ _) | (with_reducible refine Kd.C_drewN ?_ _) | (with_reducible refine Kd.C_drew ?_)))
       (case side2 => exact HC0_0.out)
       rintro e w60 ⟨v122, rfl, ho0, hb⟩
       refine ⟨_, rfl, ?_⟩
       have n0_ := Aside0.mk (Kd.S_below (by (with_reducible repeat (first | apply Kd.S_alloc | apply Kd.S_drewN | apply Kd.S_drew)); exact HO_9.out) hb)
       have n1_ := Aside0.mk (Kd.S_elder' (by (with_reducible repeat (first | apply Kd.S_alloc | apply Kd.S_drewN | apply Kd.S_drew)); exact HO_116000.out) (Kd.S_base ho0) hb)
       have n2_ := Aside0.mk (Kd.S_lower (Kd.S_new' ho0 (Kd.S_lt (by (with_reducible repeat (first | apply Kd.S_alloc | apply Kd.S_drewN | apply Kd.S_drew)); exact HO_116000.out))) (below_size (by repeat (first | (with_reducible first | exact HB.out | apply below_alloc | apply pw_below_drewN | apply below_drew1 | refine below_set ?_ GE101.out | refine below_set ?_ GE115.out) | exact HB.out))))
       have n3_ := Aside0.mk (blk_below (g := gb101) (o := .cells #[.slice A0_0 l0_0.length c0_0] 28 (0, 0)) (by (with_reducible repeat (first | refine blk_drewN ?_ _ | refine blk_drew ?_ | refine blk_alloc ?_ _)); exact BK101.out) hb)
       have n4_ := Aside0.mk (blk_below (g := gb115) (o := .cells #[.slice Ao32 t112.length co32] 35 (0, 0)) (by (with_reducible repeat (first | refine blk_drewN ?_ _ | refine blk_drew ?_ | refine blk_alloc ?_ _)); exact BK115.out) hb)
       have n5_ := Aside0.mk (below_step (by repeat (first | (with_reducible first | exact HB.out | apply below_alloc | apply pw_below_drewN | apply below_drew1 | refine below_set ?_ GE101.out | refine below_set ?_ GE115.out) | exact HB.out)) hb)
       clear HO_9
       clear HO_116000
       clear BK101
       clear BK115
       clear HB
       have HO_9 := n0_
       have HO_116000 := n1_
       have HO123 := n2_
       have BK101 := n3_
       have BK115 := n4_
       have HB := n5_
       clear n0_ n1_ n2_ n3_ n4_ n5_
       (try clear hb)
       (try clear hb2)
       (try clear hk)
       (try clear hi)
       (try clear ho0)
       obtain ⟨Ao61, co61, eo61⟩ := Kd.S_slice HO123.out
       (first | subst eo61 | (injection eo61 with f1_ f2_ f3_; have f4_ := f1_.symm; have f5_ := f3_.symm; clear f1_ f2_ f3_; subst f4_; subst f5_))
       refine hK.out _ _ ⟨(blk_cell BK115.out 0).trans rfl, (blk_cell BK101.out 0).trans rfl⟩ (fun hHeld => ?_)
       clear hK K
       refine norm_ (a' := ?_) ?_ ?_
       rotate_left
       next =>
        show Act.put _ (some 50) _ = _
        simp only [Act.put, yay, yby, ycy, i64_w, i32_w]
        rfl
       refine one_ (i := 3) (N := some 51) #[true, true, true, true, false] rfl rfl (by kernel_rfl) (by decide) (fun K hK => ?_)
       refine goes_ Try.func21 (by kernel_rfl) rfl #[.agg #[.slice Ao32 t112.length co32], .agg #[.slice Ao61 t121.length co61]] (by rfl) rfl rfl (by (try simp only [yiy, yjy, yky]); first | done | rfl | (simp only [yly, ymy]; rfl)) ?_
       with_reducible refine (laws_eqTriangulation.calls kj18 _ _ t112 _ _ t121 false _ ?side1 ?side2 ?side3 ?side4 A42.out).mono ?_
       (case side1 => repeat (first | exact (Kd.S_reads' HO_116000.out).2.2 | (with_reducible refine Kd.C_alloc ?_ _) | (with_reducible refine Kd.C_drewN ?_ _) | (with_reducible refine Kd.C_drew ?_)))
       (case side2 => exact (Kd.S_reads' HO_116000.out).2.1)
       (case side3 => repeat (first | exact (Kd.S_reads' HO123.out).2.2 | (with_reducible refine Kd.C_alloc ?_ _) | (with_reducible refine Kd.C_drewN ?_ _) | (with_reducible refine Kd.C_drew ?_)))
       (case side4 => exact (Kd.S_reads' HO123.out).2.1)
       rintro e w62 ⟨rfl, hb⟩
       refine ⟨_, rfl, ?_⟩
       have n0_ := Aside0.mk (Kd.S_below (by (with_reducible repeat (first | apply Kd.S_alloc | apply Kd.S_drewN | apply Kd.S_drew)); exact HO_9.out) hb)
       have n1_ := Aside0.mk (Kd.S_below (by (with_reducible repeat (first | apply Kd.S_alloc | apply Kd.S_drewN | apply Kd.S_drew)); exact HO_116000.out) hb)
       have n2_ := Aside0.mk (Kd.S_below (by (with_reducible repeat (first | apply Kd.S_alloc | apply Kd.S_drewN | apply Kd.S_drew)); exact HO123.out) hb)
       have n3_ := Aside0.mk (blk_below (g := gb101) (o := .cells #[.slice A0_0 l0_0.length c0_0] 28 (0, 0)) (by (with_reducible repeat (first | refine blk_drewN ?_ _ | refine blk_drew ?_ | refine blk_alloc ?_ _)); exact BK101.out) hb)
       have n4_ := Aside0.mk (blk_below (g := gb115) (o := .cells #[.slice Ao32 t112.length co32] 35 (0, 0)) (by (with_reducible repeat (first | refine blk_drewN ?_ _ | refine blk_drew ?_ | refine blk_alloc ?_ _)); exact BK115.out) hb)
       have n5_ := Aside0.mk (below_step (by repeat (first | (with_reducible first | exact HB.out | apply below_alloc | apply pw_below_drewN | apply below_drew1 | refine below_set ?_ GE101.out | refine below_set ?_ GE115.out) | exact HB.out)) hb)
       clear HO_9
       clear HO_116000
       clear HO123
       clear BK101
       clear BK115
       clear HB
       have HO_9 := n0_
       have HO_116000 := n1_
       have HO123 := n2_
       have BK101 := n3_
       have BK115 := n4_
       have HB := n5_
       clear n0_ n1_ n2_ n3_ n4_ n5_
       (try clear hb)
       (try clear hb2)
       (try clear hk)
       (try clear hi)
       refine hK.out _ _ ⟨(blk_cell BK115.out 0).trans rfl, (blk_cell BK101.out 0).trans rfl⟩ (fun hHeld => ?_)
       clear hK K
       refine norm_ (a' := ?_) ?_ ?_
       rotate_left
       next =>
        show Act.put _ (some 51) _ = _
        simp only [Act.put, yay, yby, ycy, i64_w, i32_w]
        rfl
       refine pure_ (i := 4) (N := some 52) (v := ?_) (a' := ?_) #[true, true, true, true, true] rfl rfl (by kernel_rfl) (fun _ _ _ h => h) (Or.inl ⟨by rfl, ?_⟩) ?_ ?_
       rotate_left
       next =>
        intro w'
        go_simp
        with_reducible rfl
       rotate_left
       next =>
        simp only [Act.put, yay, yby, ycy, i64_w, i32_w]
        rfl
       refine done_ (by kernel_rfl) ?_
       try go_wp2
       go_ret
       exact ⟨by first | rfl | (simp [errW_none, errW_some] <;> rfl) | (simp [*, errW_none, errW_some] <;> rfl), by repeat (first | (with_reducible first | exact HB.out | apply below_alloc | apply pw_below_drewN | apply below_drew1 | refine below_set ?_ GE101.out | refine below_set ?_ GE115.out) | exact HB.out)⟩
      subst c43
      have H1 : ((laws_toInt64SS.f kj18 l1).bind fun t125 => ((laws_eqInt64SS.f kj18 t116 t125).bind fun t128 => (if t128 = true then (some true) else (some false)))) = some r := by rw [if_pos rfl] at H; exact H
      clear H
      have H := H1
      clear H1
      replace H := ydy.mp H
      obtain ⟨t125, A440, H⟩ := H
      replace H : ((laws_eqInt64SS.f kj18 t116 t125).bind fun t128 => (if t128 = true then (some true) else (some false))) = some r := H
      have A44 := Aside0.mk A440
      clear A440
      replace H := ydy.mp H
      obtain ⟨t128, A450, H⟩ := H
      replace H : (if t128 = true then (some true) else (some false)) = some r := H
      have A45 := Aside0.mk A450
      clear A450
      by_cases c46 : t128 = true
      next =>
       subst c46
       have H1 : (some true) = some r := by rw [if_pos rfl] at H; exact H
       clear H
       have H := H1
       clear H1
       obtain rfl := yey H
       try go_wp2
       have n0_ := Aside0.mk (Kd.S_drew HO_9.out)
       have n1_ := Aside0.mk (Kd.S_drew HO_116000.out)
       have n2_ := Aside0.mk (blk_drew BK101.out)
       have n3_ := Aside0.mk (blk_drew BK115.out)
       have n4_ := Aside0.mk (below_drew1 HB.out)
       clear HO_9
       clear HO_116000
       clear BK101
       clear BK115
       clear HB
       have HO_9 := n0_
       have HO_116000 := n1_
       have BK101 := n2_
       have BK115 := n3_
       have HB := n4_
       clear n0_ n1_ n2_ n3_ n4_
       refine start_ (n := 5) (S := fun w' => w'.cell? ⟨gb115, 0, none⟩ = some (.slice Ao32 t112.length co32) ∧ w'.cell? ⟨gb101, 0, none⟩ = some (.slice A0_0 l0_0.length c0_0)) (ds := []) #[false, false, false, false, false] (by kernel_rfl) rfl rfl ⟨(blk_cell BK115.out 0).trans rfl, (blk_cell BK101.out 0).trans rfl⟩ (fun hHeld => ?_)
       generalize wc.drew = w47 at HO_9 HO_116000 BK101 BK115 HB hHeld ⊢
       refine take_ (i := 0) (N := some 48) (v := ?_) (a' := ?_) #[true, false, false, false, false] rfl rfl (by kernel_rfl) (fun _ _ _ h => h) (Or.inl ⟨by rfl, ?_⟩) hHeld ?_ ?_
       rotate_left
       next =>
        rintro w' ⟨s0, s1⟩
        go_simp
        with_reducible rfl
       rotate_left
       next =>
        simp only [Act.put, yay, yby, ycy, i64_w, i32_w]
        rfl
       refine take_ (i := 1) (N := some 49) (v := ?_) (a' := ?_) #[true, true, false, false, false] rfl rfl (by kernel_rfl) (fun _ _ _ h => h) (Or.inl ⟨by rfl, ?_⟩) hHeld ?_ ?_
       rotate_left
       next =>
        rintro w' ⟨s0, s1⟩
        go_simp
        with_reducible rfl
       rotate_left
       next =>
        simp only [Act.put, yay, yby, ycy, i64_w, i32_w]
        rfl
       refine one_ (i := 2) (N := some 50) #[true, true, true, false, false] rfl rfl (by kernel_rfl) (by decide) (fun K hK => ?_)
       refine goes_ Try.func18 (by kernel_rfl) rfl #[.agg #[.slice A0_0 l0_0.length c0_0]] (by rfl) rfl rfl (by (try simp only [yiy, yjy, yky]); first | done | rfl | (simp only [yly, ymy]; rfl)) ?_
       with_reducible refine (laws_toTriangulation.calls kj18 _ _ l0_0 t121 _ ?side1 ?side2 A41.out).mono ?_
       (case side1 => repeat (first | exact (Kd.C_below HR0_0.out HB.out) | (with_reducible refine Kd.C_alloc ?_ _) | (with_reducible refine Kd.C_drewN ?_ _) | (with_reducible refine Kd.C_drew ?_)))
       (case side2 => exact HC0_0.out)
       rintro e w48 ⟨v122, rfl, ho0, hb⟩
       refine ⟨_, rfl, ?_⟩
       have n0_ := Aside0.mk (Kd.S_below (by (with_reducible repeat (first | apply Kd.S_alloc | apply Kd.S_drewN | apply Kd.S_drew)); exact HO_9.out) hb)
       have n1_ := Aside0.mk (Kd.S_elder' (by (with_reducible repeat (first | apply Kd.S_alloc | apply Kd.S_drewN | apply Kd.S_drew)); exact HO_116000.out) (Kd.S_base ho0) hb)
       have n2_ := Aside0.mk (Kd.S_lower (Kd.S_new' ho0 (Kd.S_lt (by (with_reducible repeat (first | apply Kd.S_alloc | apply Kd.S_drewN | apply Kd.S_drew)); exact HO_116000.out))) (below_size (by repeat (first | (with_reducible first | exact HB.out | apply below_alloc | apply pw_below_drewN | apply below_drew1 | refine below_set ?_ GE101.out | refine below_set ?_ GE115.out) | exact HB.out))))
       have n3_ := Aside0.mk (blk_below (g := gb101) (o := .cells #[.slice A0_0 l0_0.length c0_0] 28 (0, 0)) (by (with_reducible repeat (first | refine blk_drewN ?_ _ | refine blk_drew ?_ | refine blk_alloc ?_ _)); exact BK101.out) hb)
       have n4_ := Aside0.mk (blk_below (g := gb115) (o := .cells #[.slice Ao32 t112.length co32] 35 (0, 0)) (by (with_reducible repeat (first | refine blk_drewN ?_ _ | refine blk_drew ?_ | refine blk_alloc ?_ _)); exact BK115.out) hb)
       have n5_ := Aside0.mk (below_step (by repeat (first | (with_reducible first | exact HB.out | apply below_alloc | apply pw_below_drewN | apply below_drew1 | refine below_set ?_ GE101.out | refine below_set ?_ GE115.out) | exact HB.out)) hb)
       clear HO_9
       clear HO_116000
       clear BK101
       clear BK115
       clear HB
       have HO_9 := n0_
       have HO_116000 := n1_
       have HO123 := n2_
       have BK101 := n3_
       have BK115 := n4_
       have HB := n5_
       clear n0_ n1_ n2_ n3_ n4_ n5_
       (try clear hb)
       (try clear hb2)
       (try clear hk)
       (try clear hi)
       (try clear ho0)
       obtain ⟨Ao49, co49, eo49⟩ := Kd.S_slice HO123.out
       (first | subst eo49 | (injection eo49 with f1_ f2_ f3_; have f4_ := f1_.symm; have f5_ := f3_.symm; clear f1_ f2_ f3_; subst f4_; subst f5_))
       refine hK.out _ _ ⟨(blk_cell BK115.out 0).trans rfl, (blk_cell BK101.out 0).trans rfl⟩ (fun hHeld => ?_)
       clear hK K
       refine norm_ (a' := ?_) ?_ ?_
       rotate_left
       next =>
        show Act.put _ (some 50) _ = _
        simp only [Act.put, yay, yby, ycy, i64_w, i32_w]
        rfl
       refine one_ (i := 3) (N := some 51) #[true, true, true, true, false] rfl rfl (by kernel_rfl) (by decide) (fun K hK => ?_)
       refine goes_ Try.func21 (by kernel_rfl) rfl #[.agg #[.slice Ao32 t112.length co32], .agg #[.slice Ao49 t121.length co49]] (by rfl) rfl rfl (by (try simp only [yiy, yjy, yky]); first | done | rfl | (simp only [yly, ymy]; rfl)) ?_
       with_reducible refine (laws_eqTriangulation.calls kj18 _ _ t112 _ _ t121 true _ ?side1 ?side2 ?side3 ?side4 A42.out).mono ?_
       (case side1 => repeat (first | exact (Kd.S_reads' HO_116000.out).2.2 | (with_reducible refine Kd.C_alloc ?_ _) | (with_reducible refine Kd.C_drewN ?_ _) | (with_reducible refine Kd.C_drew ?_)))
       (case side2 => exact (Kd.S_reads' HO_116000.out).2.1)
       (case side3 => repeat (first | exact (Kd.S_reads' HO123.out).2.2 | (with_reducible refine Kd.C_alloc ?_ _) | (with_reducible refine Kd.C_drewN ?_ _) | (with_reducible refine Kd.C_drew ?_)))
       (case side4 => exact (Kd.S_reads' HO123.out).2.1)
       rintro e w50 ⟨rfl, hb⟩
       refine ⟨_, rfl, ?_⟩
       have n0_ := Aside0.mk (Kd.S_below (by (with_reducible repeat (first | apply Kd.S_alloc | apply Kd.S_drewN | apply Kd.S_drew)); exact HO_9.out) hb)
       have n1_ := Aside0.mk (Kd.S_below (by (with_reducible repeat (first | apply Kd.S_alloc | apply Kd.S_drewN | apply Kd.S_drew)); exact HO_116000.out) hb)
       have n2_ := Aside0.mk (Kd.S_below (by (with_reducible repeat (first | apply Kd.S_alloc | apply Kd.S_drewN | apply Kd.S_drew)); exact HO123.out) hb)
       have n3_ := Aside0.mk (blk_below (g := gb101) (o := .cells #[.slice A0_0 l0_0.length c0_0] 28 (0, 0)) (by (with_reducible repeat (first | refine blk_drewN ?_ _ | refine blk_drew ?_ | refine blk_alloc ?_ _)); exact BK101.out) hb)
       have n4_ := Aside0.mk (blk_below (g := gb115) (o := .cells #[.slice Ao32 t112.length co32] 35 (0, 0)) (by (with_reducible repeat (first | refine blk_drewN ?_ _ | refine blk_drew ?_ | refine blk_alloc ?_ _)); exact BK115.out) hb)
       have n5_ := Aside0.mk (below_step (by repeat (first | (with_reducible first | exact HB.out | apply below_alloc | apply pw_below_drewN | apply below_drew1 | refine below_set ?_ GE101.out | refine below_set ?_ GE115.out) | exact HB.out)) hb)
       clear HO_9
       clear HO_116000
       clear HO123
       clear BK101
       clear BK115
       clear HB
       have HO_9 := n0_
       have HO_116000 := n1_
       have HO123 := n2_
       have BK101 := n3_
       have BK115 := n4_
       have HB := n5_
       clear n0_ n1_ n2_ n3_ n4_ n5_
       (try clear hb)
       (try clear hb2)
       (try clear hk)
       (try clear hi)
       refine hK.out _ _ ⟨(blk_cell BK115.out 0).trans rfl, (blk_cell BK101.out 0).trans rfl⟩ (fun hHeld => ?_)
       clear hK K
       refine norm_ (a' := ?_) ?_ ?_
       rotate_left
       next =>
        show Act.put _ (some 51) _ = _
        simp only [Act.put, yay, yby, ycy, i64_w, i32_w]
        rfl
       refine pure_ (i := 4) (N := some 52) (v := ?_) (a' := ?_) #[true, true, true, true, true] rfl rfl (by kernel_rfl) (fun _ _ _ h => h) (Or.inl ⟨by rfl, ?_⟩) ?_ ?_
       rotate_left
       next =>
        intro w'
        go_simp
        with_reducible rfl
       rotate_left
       next =>
        simp only [Act.put, yay, yby, ycy, i64_w, i32_w]
        rfl
       refine done_ (by kernel_rfl) ?_
       try go_wp2_with (first | ((with_reducible refine gate_callee (f := 39) rfl ?_); refine goesL_ (some 55) rfl rfl Try.func39 (by kernel_rfl) rfl #[.slice A1 l1.length c1] rfl (by (try simp only [yiy, yjy, yky]); first | done | rfl | (simp only [yly, ymy]; rfl)) ?_; (with_reducible refine (laws_toInt64SS.calls kj18 _ _ l1 t125 _ ?side1 ?side2 A44.out).mono ?_); (case side1 => repeat (first | exact (Kd.C_below HR1.out HB.out) | (with_reducible refine Kd.C_alloc ?_ _) | (with_reducible refine Kd.C_drewN ?_ _) | (with_reducible refine Kd.C_drew ?_))); (case side2 => exact HC1.out); rintro e w51 ⟨v126, rfl, ho0, hb⟩; refine ⟨_, rfl, ?_⟩; have n0_ := Aside0.mk (Kd.S_elder' (by (with_reducible repeat (first | apply Kd.S_alloc | apply Kd.S_drewN | apply Kd.S_drew)); exact HO_9.out) (Kd.S_base ho0) hb); have n1_ := Aside0.mk (Kd.S_below (by (with_reducible repeat (first | apply Kd.S_alloc | apply Kd.S_drewN | apply Kd.S_drew)); exact HO_116000.out) hb); have n2_ := Aside0.mk (Kd.S_below (by (with_reducible repeat (first | apply Kd.S_alloc | apply Kd.S_drewN | apply Kd.S_drew)); exact HO123.out) hb); have n3_ := Aside0.mk (Kd.S_lower (Kd.S_new' ho0 (Kd.S_lt (by (with_reducible repeat (first | apply Kd.S_alloc | apply Kd.S_drewN | apply Kd.S_drew)); exact HO_9.out))) (below_size (by repeat (first | (with_reducible first | exact HB.out | apply below_alloc | apply pw_below_drewN | apply below_drew1 | refine below_set ?_ GE101.out | refine below_set ?_ GE115.out) | exact HB.out)))); have n4_ := Aside0.mk (blk_below (g := gb101) (o := .cells #[.slice A0_0 l0_0.length c0_0] 28 (0, 0)) (by (with_reducible repeat (first | refine blk_drewN ?_ _ | refine blk_drew ?_ | refine blk_alloc ?_ _)); exact BK101.out) hb); have n5_ := Aside0.mk (blk_below (g := gb115) (o := .cells #[.slice Ao32 t112.length co32] 35 (0, 0)) (by (with_reducible repeat (first | refine blk_drewN ?_ _ | refine blk_drew ?_ | refine blk_alloc ?_ _)); exact BK115.out) hb); have n6_ := Aside0.mk (below_step (by repeat (first | (with_reducible first | exact HB.out | apply below_alloc | apply pw_below_drewN | apply below_drew1 | refine below_set ?_ GE101.out | refine below_set ?_ GE115.out) | exact HB.out)) hb); clear HO_9; clear HO_116000; clear HO123; clear BK101; clear BK115; clear HB; have HO_9 := n0_; have HO_116000 := n1_; have HO123 := n2_; have HO127 := n3_; have BK101 := n4_; have BK115 := n5_; have HB := n6_; clear n0_ n1_ n2_ n3_ n4_ n5_ n6_; (try clear hb); (try clear hb2); (try clear hk); (try clear hi); (try clear ho0); obtain ⟨Ao52, co52, eo52⟩ := Kd.S_slice HO127.out; subst eo52) | ((with_reducible refine gate_callee (f := 20) rfl ?_); refine goesL_ (some 56) rfl rfl Try.func20 (by kernel_rfl) rfl #[.slice Ao37 t116.length co37, .slice Ao52 t125.length co52] rfl (by (try simp only [yiy, yjy, yky]); first | done | rfl | (simp only [yly, ymy]; rfl)) ?_; (with_reducible refine (laws_eqInt64SS.calls kj18 _ _ t116 _ _ t125 true _ ?side1 ?side2 ?side3 ?side4 A45.out).mono ?_); (case side1 => repeat (first | exact (Kd.S_reads' HO_9.out).2.2 | (with_reducible refine Kd.C_alloc ?_ _) | (with_reducible refine Kd.C_drewN ?_ _) | (with_reducible refine Kd.C_drew ?_))); (case side2 => exact (Kd.S_reads' HO_9.out).2.1); (case side3 => repeat (first | exact (Kd.S_reads' HO127.out).2.2 | (with_reducible refine Kd.C_alloc ?_ _) | (with_reducible refine Kd.C_drewN ?_ _) | (with_reducible refine Kd.C_drew ?_))); (case side4 => exact (Kd.S_reads' HO127.out).2.1); rintro e w' ⟨rfl, ⟨nd, rfl⟩⟩; refine ⟨_, rfl, ?_⟩))
       go_ret
       exact ⟨by first | rfl | (simp [errW_none, errW_some] <;> rfl) | (simp [*, errW_none, errW_some] <;> rfl), by repeat (first | (with_reducible first | exact HB.out | apply below_alloc | apply pw_below_drewN | apply below_drew1 | refine below_set ?_ GE101.out | refine below_set ?_ GE115.out) | exact HB.out)⟩
      next =>
       replace c46 := Bool.eq_false_iff.mpr c46
       subst c46
       have H1 : (some false) = some r := by rw [if_neg (show ¬ (false = true) by decide)] at H; exact H
       clear H
       have H := H1
       clear H1
       obtain rfl := yey H
       try go_wp2
       have n0_ := Aside0.mk (Kd.S_drew HO_9.out)
       have n1_ := Aside0.mk (Kd.S_drew HO_116000.out)
       have n2_ := Aside0.mk (blk_drew BK101.out)
       have n3_ := Aside0.mk (blk_drew BK115.out)
       have n4_ := Aside0.mk (below_drew1 HB.out)
       clear HO_9
       clear HO_116000
       clear BK101
       clear BK115
       clear HB
       have HO_9 := n0_
       have HO_116000 := n1_
       have BK101 := n2_
       have BK115 := n3_
       have HB := n4_
       clear n0_ n1_ n2_ n3_ n4_
       refine start_ (n := 5) (S := fun w' => w'.cell? ⟨gb115, 0, none⟩ = some (.slice Ao32 t112.length co32) ∧ w'.cell? ⟨gb101, 0, none⟩ = some (.slice A0_0 l0_0.length c0_0)) (ds := []) #[false, false, false, false, false] (by kernel_rfl) rfl rfl ⟨(blk_cell BK115.out 0).trans rfl, (blk_cell BK101.out 0).trans rfl⟩ (fun hHeld => ?_)
       generalize wc.drew = w53 at HO_9 HO_116000 BK101 BK115 HB hHeld ⊢
       refine take_ (i := 0) (N := some 48) (v := ?_) (a' := ?_) #[true, false, false, false, false] rfl rfl (by kernel_rfl) (fun _ _ _ h => h) (Or.inl ⟨by rfl, ?_⟩) hHeld ?_ ?_
       rotate_left
       next =>
        rintro w' ⟨s0, s1⟩
        go_simp
        with_reducible rfl
       rotate_left
       next =>
        simp only [Act.put, yay, yby, ycy, i64_w, i32_w]
        rfl
       refine take_ (i := 1) (N := some 49) (v := ?_) (a' := ?_) #[true, true, false, false, false] rfl rfl (by kernel_rfl) (fun _ _ _ h => h) (Or.inl ⟨by rfl, ?_⟩) hHeld ?_ ?_
       rotate_left
       next =>
        rintro w' ⟨s0, s1⟩
        go_simp
        with_reducible rfl
       rotate_left
       next =>
        simp only [Act.put, yay, yby, ycy, i64_w, i32_w]
        rfl
       refine one_ (i := 2) (N := some 50) #[true, true, true, false, false] rfl rfl (by kernel_rfl) (by decide) (fun K hK => ?_)
       refine goes_ Try.func18 (by kernel_rfl) rfl #[.agg #[.slice A0_0 l0_0.length c0_0]] (by rfl) rfl rfl (by (try simp only [yiy, yjy, yky]); first | done | rfl | (simp only [yly, ymy]; rfl)) ?_
       with_reducible refine (laws_toTriangulation.calls kj18 _ _ l0_0 t121 _ ?side1 ?side2 A41.out).mono ?_
       (case side1 => repeat (first | exact (Kd.C_below HR0_0.out HB.out) | (with_reducible refine Kd.C_alloc ?_ _) | (with_reducible refine Kd.C_drewN ?_ _) | (with_reducible refine Kd.C_drew ?_)))
       (case side2 => exact HC0_0.out)
       rintro e w54 ⟨v122, rfl, ho0, hb⟩
       refine ⟨_, rfl, ?_⟩
       have n0_ := Aside0.mk (Kd.S_below (by (with_reducible repeat (first | apply Kd.S_alloc | apply Kd.S_drewN | apply Kd.S_drew)); exact HO_9.out) hb)
       have n1_ := Aside0.mk (Kd.S_elder' (by (with_reducible repeat (first | apply Kd.S_alloc | apply Kd.S_drewN | apply Kd.S_drew)); exact HO_116000.out) (Kd.S_base ho0) hb)
       have n2_ := Aside0.mk (Kd.S_lower (Kd.S_new' ho0 (Kd.S_lt (by (with_reducible repeat (first | apply Kd.S_alloc | apply Kd.S_drewN | apply Kd.S_drew)); exact HO_116000.out))) (below_size (by repeat (first | (with_reducible first | exact HB.out | apply below_alloc | apply pw_below_drewN | apply below_drew1 | refine below_set ?_ GE101.out | refine below_set ?_ GE115.out) | exact HB.out))))
       have n3_ := Aside0.mk (blk_below (g := gb101) (o := .cells #[.slice A0_0 l0_0.length c0_0] 28 (0, 0)) (by (with_reducible repeat (first | refine blk_drewN ?_ _ | refine blk_drew ?_ | refine blk_alloc ?_ _)); exact BK101.out) hb)
       have n4_ := Aside0.mk (blk_below (g := gb115) (o := .cells #[.slice Ao32 t112.length co32] 35 (0, 0)) (by (with_reducible repeat (first | refine blk_drewN ?_ _ | refine blk_drew ?_ | refine blk_alloc ?_ _)); exact BK115.out) hb)
       have n5_ := Aside0.mk (below_step (by repeat (first | (with_reducible first | exact HB.out | apply below_alloc | apply pw_below_drewN | apply below_drew1 | refine below_set ?_ GE101.out | refine below_set ?_ GE115.out) | exact HB.out)) hb)
       clear HO_9
       clear HO_116000
       clear BK101
       clear BK115
       clear HB
       have HO_9 := n0_
       have HO_116000 := n1_
       have HO123 := n2_
       have BK101 := n3_
       have BK115 := n4_
       have HB := n5_
       clear n0_ n1_ n2_ n3_ n4_ n5_
       (try clear hb)
       (try clear hb2)
       (try clear hk)
       (try clear hi)
       (try clear ho0)
       obtain ⟨Ao55, co55, eo55⟩ := Kd.S_slice HO123.out
       (first | subst eo55 | (injection eo55 with f1_ f2_ f3_; have f4_ := f1_.symm; have f5_ := f3_.symm; clear f1_ f2_ f3_; subst f4_; subst f5_))
       refine hK.out _ _ ⟨(blk_cell BK115.out 0).trans rfl, (blk_cell BK101.out 0).trans rfl⟩ (fun hHeld => ?_)
       clear hK K
       refine norm_ (a' := ?_) ?_ ?_
       rotate_left
       next =>
        show Act.put _ (some 50) _ = _
        simp only [Act.put, yay, yby, ycy, i64_w, i32_w]
        rfl
       refine one_ (i := 3) (N := some 51) #[true, true, true, true, false] rfl rfl (by kernel_rfl) (by decide) (fun K hK => ?_)
       refine goes_ Try.func21 (by kernel_rfl) rfl #[.agg #[.slice Ao32 t112.length co32], .agg #[.slice Ao55 t121.length co55]] (by rfl) rfl rfl (by (try simp only [yiy, yjy, yky]); first | done | rfl | (simp only [yly, ymy]; rfl)) ?_
       with_reducible refine (laws_eqTriangulation.calls kj18 _ _ t112 _ _ t121 true _ ?side1 ?side2 ?side3 ?side4 A42.out).mono ?_
       (case side1 => repeat (first | exact (Kd.S_reads' HO_116000.out).2.2 | (with_reducible refine Kd.C_alloc ?_ _) | (with_reducible refine Kd.C_drewN ?_ _) | (with_reducible refine Kd.C_drew ?_)))
       (case side2 => exact (Kd.S_reads' HO_116000.out).2.1)
       (case side3 => repeat (first | exact (Kd.S_reads' HO123.out).2.2 | (with_reducible refine Kd.C_alloc ?_ _) | (with_reducible refine Kd.C_drewN ?_ _) | (with_reducible refine Kd.C_drew ?_)))
       (case side4 => exact (Kd.S_reads' HO123.out).2.1)
       rintro e w56 ⟨rfl, hb⟩
       refine ⟨_, rfl, ?_⟩
       have n0_ := Aside0.mk (Kd.S_below (by (with_reducible repeat (first | apply Kd.S_alloc | apply Kd.S_drewN | apply Kd.S_drew)); exact HO_9.out) hb)
       have n1_ := Aside0.mk (Kd.S_below (by (with_reducible repeat (first | apply Kd.S_alloc | apply Kd.S_drewN | apply Kd.S_drew)); exact HO_116000.out) hb)
       have n2_ := Aside0.mk (Kd.S_below (by (with_reducible repeat (first | apply Kd.S_alloc | apply Kd.S_drewN | apply Kd.S_drew)); exact HO123.out) hb)
       have n3_ := Aside0.mk (blk_below (g := gb101) (o := .cells #[.slice A0_0 l0_0.length c0_0] 28 (0, 0)) (by (with_reducible repeat (first | refine blk_drewN ?_ _ | refine blk_drew ?_ | refine blk_alloc ?_ _)); exact BK101.out) hb)
       have n4_ := Aside0.mk (blk_below (g := gb115) (o := .cells #[.slice Ao32 t112.length co32] 35 (0, 0)) (by (with_reducible repeat (first | refine blk_drewN ?_ _ | refine blk_drew ?_ | refine blk_alloc ?_ _)); exact BK115.out) hb)
       have n5_ := Aside0.mk (below_step (by repeat (first | (with_reducible first | exact HB.out | apply below_alloc | apply pw_below_drewN | apply below_drew1 | refine below_set ?_ GE101.out | refine below_set ?_ GE115.out) | exact HB.out)) hb)
       clear HO_9
       clear HO_116000
       clear HO123
       clear BK101
       clear BK115
       clear HB
       have HO_9 := n0_
       have HO_116000 := n1_
       have HO123 := n2_
       have BK101 := n3_
       have BK115 := n4_
       have HB := n5_
       clear n0_ n1_ n2_ n3_ n4_ n5_
       (try clear hb)
       (try clear hb2)
       (try clear hk)
       (try clear hi)
       refine hK.out _ _ ⟨(blk_cell BK115.out 0).trans rfl, (blk_cell BK101.out 0).trans rfl⟩ (fun hHeld => ?_)
       clear hK K
       refine norm_ (a' := ?_) ?_ ?_
       rotate_left
       next =>
        show Act.put _ (some 51) _ = _
        simp only [Act.put, yay, yby, ycy, i64_w, i32_w]
        rfl
       refine pure_ (i := 4) (N := some 52) (v := ?_) (a' := ?_) #[true, true, true, true, true] rfl rfl (by kernel_rfl) (fun _ _ _ h => h) (Or.inl ⟨by rfl, ?_⟩) ?_ ?_
       rotate_left
       next =>
        intro w'
        go_simp
        with_reducible rfl
       rotate_left
       next =>
        simp only [Act.put, yay, yby, ycy, i64_w, i32_w]
        rfl
       refine done_ (by kernel_rfl) ?_
       try go_wp2_with (first | ((with_reducible refine gate_callee (f := 39) rfl ?_); refine goesL_ (some 55) rfl rfl Try.func39 (by kernel_rfl) rfl #[.slice A1 l1.length c1] rfl (by (try simp only [yiy, yjy, yky]); first | done | rfl | (simp only [yly, ymy]; rfl)) ?_; (with_reducible refine (laws_toInt64SS.calls kj18 _ _ l1 t125 _ ?side1 ?side2 A44.out).mono ?_); (case side1 => repeat (first | exact (Kd.C_below HR1.out HB.out) | (with_reducible refine Kd.C_alloc ?_ _) | (with_reducible refine Kd.C_drewN ?_ _) | (with_reducible refine Kd.C_drew ?_))); (case side2 => exact HC1.out); rintro e w57 ⟨v126, rfl, ho0, hb⟩; refine ⟨_, rfl, ?_⟩; have n0_ := Aside0.mk (Kd.S_elder' (by (with_reducible repeat (first | apply Kd.S_alloc | apply Kd.S_drewN | apply Kd.S_drew)); exact HO_9.out) (Kd.S_base ho0) hb); have n1_ := Aside0.mk (Kd.S_below (by (with_reducible repeat (first | apply Kd.S_alloc | apply Kd.S_drewN | apply Kd.S_drew)); exact HO_116000.out) hb); have n2_ := Aside0.mk (Kd.S_below (by (with_reducible repeat (first | apply Kd.S_alloc | apply Kd.S_drewN | apply Kd.S_drew)); exact HO123.out) hb); have n3_ := Aside0.mk (Kd.S_lower (Kd.S_new' ho0 (Kd.S_lt (by (with_reducible repeat (first | apply Kd.S_alloc | apply Kd.S_drewN | apply Kd.S_drew)); exact HO_9.out))) (below_size (by repeat (first | (with_reducible first | exact HB.out | apply below_alloc | apply pw_below_drewN | apply below_drew1 | refine below_set ?_ GE101.out | refine below_set ?_ GE115.out) | exact HB.out)))); have n4_ := Aside0.mk (blk_below (g := gb101) (o := .cells #[.slice A0_0 l0_0.length c0_0] 28 (0, 0)) (by (with_reducible repeat (first | refine blk_drewN ?_ _ | refine blk_drew ?_ | refine blk_alloc ?_ _)); exact BK101.out) hb); have n5_ := Aside0.mk (blk_below (g := gb115) (o := .cells #[.slice Ao32 t112.length co32] 35 (0, 0)) (by (with_reducible repeat (first | refine blk_drewN ?_ _ | refine blk_drew ?_ | refine blk_alloc ?_ _)); exact BK115.out) hb); have n6_ := Aside0.mk (below_step (by repeat (first | (with_reducible first | exact HB.out | apply below_alloc | apply pw_below_drewN | apply below_drew1 | refine below_set ?_ GE101.out | refine below_set ?_ GE115.out) | exact HB.out)) hb); clear HO_9; clear HO_116000; clear HO123; clear BK101; clear BK115; clear HB; have HO_9 := n0_; have HO_116000 := n1_; have HO123 := n2_; have HO127 := n3_; have BK101 := n4_; have BK115 := n5_; have HB := n6_; clear n0_ n1_ n2_ n3_ n4_ n5_ n6_; (try clear hb); (try clear hb2); (try clear hk); (try clear hi); (try clear ho0); obtain ⟨Ao58, co58, eo58⟩ := Kd.S_slice HO127.out; subst eo58) | ((with_reducible refine gate_callee (f := 20) rfl ?_); refine goesL_ (some 56) rfl rfl Try.func20 (by kernel_rfl) rfl #[.slice Ao37 t116.length co37, .slice Ao58 t125.length co58] rfl (by (try simp only [yiy, yjy, yky]); first | done | rfl | (simp only [yly, ymy]; rfl)) ?_; (with_reducible refine (laws_eqInt64SS.calls kj18 _ _ t116 _ _ t125 false _ ?side1 ?side2 ?side3 ?side4 A45.out).mono ?_); (case side1 => repeat (first | exact (Kd.S_reads' HO_9.out).2.2 | (with_reducible refine Kd.C_alloc ?_ _) | (with_reducible refine Kd.C_drewN ?_ _) | (with_reducible refine Kd.C_drew ?_))); (case side2 => exact (Kd.S_reads' HO_9.out).2.1); (case side3 => repeat (first | exact (Kd.S_reads' HO127.out).2.2 | (with_reducible refine Kd.C_alloc ?_ _) | (with_reducible refine Kd.C_drewN ?_ _) | (with_reducible refine Kd.C_drew ?_))); (case side4 => exact (Kd.S_reads' HO127.out).2.1); rintro e w' ⟨rfl, ⟨nd, rfl⟩⟩; refine ⟨_, rfl, ?_⟩))
       go_ret
       exact ⟨by first | rfl | (simp [errW_none, errW_some] <;> rfl) | (simp [*, errW_none, errW_some] <;> rfl), by repeat (first | (with_reducible first | exact HB.out | apply below_alloc | apply pw_below_drewN | apply below_drew1 | refine below_set ?_ GE101.out | refine below_set ?_ GE115.out) | exact HB.out)⟩
end Go.Proofs.Ytembbpalgfikiaa.P
namespace Go.Proofs.Ytembbpalgfikiaa.Lib
set_option linter.unusedVariables false
open Go.RowKit Go.Proofs.YtembbpalgfikiaaW.PrintWords
/-- A loop comes to g of its first state: at each state it ends with g, or goes on at a smaller state of the same g. -/
theorem ev_loop {σ ρ : Type} (L : Nat → σ → Option ρ) (I : σ → Prop) (m : σ → Nat) (g : σ → ρ)
    (h : ∀ s, I s → (∃ K, ∀ k, K ≤ k → L (k + 1) s = some (g s)) ∨ (∃ s' K, I s' ∧ m s' < m s ∧ g s' = g s ∧ ∀ k, K ≤ k → L (k + 1) s = L k s')) :
    ∀ s, I s → Ev (fun k => L k s) (g s) := by
  have key : ∀ (n : Nat) (s : σ), m s < n → I s → Ev (fun k => L k s) (g s) := by
    intro n
    induction n with
    | zero => intro s hs; omega
    | succ n ih =>
      intro s hs hi
      rcases h s hi with ⟨K, hK⟩ | ⟨s', K, hi', hm, hg, hK⟩
      · refine ⟨K + 1, fun k hk => ?_⟩
        obtain ⟨j, rfl⟩ : ∃ j, k = j + 1 := ⟨k - 1, by omega⟩
        exact hK j (by omega)
      · obtain ⟨K', hK'⟩ := ih s' (by omega) hi'
        refine ⟨max K K' + 1, fun k hk => ?_⟩
        obtain ⟨j, rfl⟩ : ∃ j, k = j + 1 := ⟨k - 1, by omega⟩
        show L (j + 1) s = some (g s)
        rw [hK j (by omega), ← hg]
        exact hK' j (by omega)
  intro s hi
  exact key (m s + 1) s (by omega) hi
/-- The same, where a round asks for no number of rounds. -/
theorem ev_loop0 {σ ρ : Type} (L : Nat → σ → Option ρ) (I : σ → Prop) (m : σ → Nat) (g : σ → ρ)
    (h : ∀ s, I s → (∀ k, L (k + 1) s = some (g s)) ∨ (∃ s', I s' ∧ m s' < m s ∧ g s' = g s ∧ ∀ k, L (k + 1) s = L k s')) :
    ∀ s, I s → Ev (fun k => L k s) (g s) :=
  ev_loop L I m g fun s hi => by
    rcases h s hi with h1 | ⟨s', h1, h2, h3, h4⟩
    · exact .inl ⟨0, fun k _ => h1 k⟩
    · exact .inr ⟨s', 0, h1, h2, h3, fun k _ => h4 k⟩
theorem wrap_id {x : Int} (h0 : -9223372036854775808 ≤ x) (h1 : x ≤ 9223372036854775807) : wrap64 x = x := by
  unfold wrap64; omega
theorem wrap_succ {n : Nat} (h : n ≤ 4611686018427387904) : wrap64 ((n : Int) + 1) = ((n + 1 : Nat) : Int) := by
  rw [wrap_id (by omega) (by omega)]; rfl
theorem rd_lt (xs : List Int) (n : Nat) (h : n < xs.length) : rd xs (n : Int) = xs[n] := by simp [rd, h]
theorem ev_neg {α : Type} {c : Prop} [Decidable c] {f g : Nat → Option α} {r : α} (h : ¬ c) (k : Ev g r) : Ev (fun n => if c then f n else g n) r := Ev.congr (fun _ => if_neg h) k
theorem ev_pos {α : Type} {c : Prop} [Decidable c] {f g : Nat → Option α} {r : α} (h : c) (k : Ev f r) : Ev (fun n => if c then f n else g n) r := Ev.congr (fun _ => if_pos h) k
theorem ev_some {α : Type} {r r' : α} (h : r = r') : Ev (fun _ => some r) r' := h ▸ Ev.now r
theorem ev_const {α : Type} {o : Option α} {r : α} (h : o = some r) : Ev (fun _ => o) r := ⟨0, fun _ _ => h⟩
theorem ev_const' {α : Type} {g : Nat → Option α} {r : α} (h : ∀ k, g k = some r) : Ev g r := ⟨0, fun k _ => h k⟩
/-- A function whose first step takes one round. -/
theorem ev_step {α : Type} {g f : Nat → Option α} {r : α} (h : ∀ k, g (k + 1) = f k) (k : Ev f r) : Ev g r := Ev.step h k
theorem idxO_any {α : Type} {f : α → Option Bool} {p : α → Bool} : ∀ (i : Nat) (l : List α), (∀ x ∈ l, f x = some (p x)) → ∃ r, idxO f i l = some r ∧ decide (0 ≤ r) = l.any p
  | i, [], _ => ⟨-1, rfl, rfl⟩
  | i, x :: xs, h => by
    rw [idxO_cons, h x (List.mem_cons_self ..), yfy]
    cases hp : p x with
    | true => exact ⟨i, by rw [if_pos rfl], by simp [hp]⟩
    | false =>
      obtain ⟨r, h1, h2⟩ := idxO_any (i + 1) xs (fun y hy => h y (List.mem_cons_of_mem _ hy))
      exact ⟨r, by rw [if_neg (by simp)]; exact h1, by rw [h2]; simp [hp]⟩
theorem contO {α : Type} {f : α → Option Bool} {p : α → Bool} (l : List α) (h : ∀ x ∈ l, f x = some (p x)) : (idxO f 0 l).bind (fun i => some (decide (0 ≤ i))) = some (l.any p) := by
  obtain ⟨r, h1, h2⟩ := idxO_any 0 l h
  rw [h1, yfy, h2]
end Go.Proofs.Ytembbpalgfikiaa.Lib
namespace Go.Proofs.Ytembbpalgfikiaa.P
open Go.RowKit Go.Proofs.YtembbpalgfikiaaW.PrintWords Go.Proofs.Ytembbpalgfikiaa.Lib
set_option linter.unusedVariables false
theorem inRange_eq (a b c : Int) : impl_inRange.f a b c = some (decide (b ≤ a) && decide (a ≤ c)) := by
  unfold impl_inRange.f
  by_cases h : b ≤ a <;> simp [h]
theorem l07In_eq (a b c : Int) : spec_l07In.f a b c = some (decide (b ≤ a) && decide (a ≤ c)) := by
  unfold spec_l07In.f
  by_cases h : b ≤ a <;> simp [h]
theorem l06Valid_eq (a : Int) : spec_l06Valid.f a = some (decide (0 ≤ a) && decide (a ≤ 23)) := by
  unfold spec_l06Valid.f
  by_cases h : 0 ≤ a
  · rw [if_pos h]; simp [h]; omega
  · rw [if_neg h]; simp [h]
theorem isPerm_eq (a : Int) : impl_isPerm.f a = some (decide (0 ≤ a) && decide (a ≤ 23)) := by
  unfold impl_isPerm.f; rw [inRange_eq]; rfl
/-- A number that is the index of a permutation. -/
theorem fin_of {p : Int} (h0 : 0 ≤ p) (h1 : p ≤ 23) : ∃ m : Fin 24, p = (m.val : Int) := ⟨⟨p.toNat, by omega⟩, by simp; omega⟩
theorem l06Images_ev {p : Int} (h0 : 0 ≤ p) (h1 : p ≤ 23) : Ev (fun k => spec_l06Images.f k p) (permL p) := by
  obtain ⟨m, rfl⟩ := fin_of h0 h1
  have key : ∀ m : Fin 24, spec_l06Images.f 5 (m.val : Int) = some (permL (m.val : Int)) := by decide +kernel
  exact Ev.of (fun k => spec_l06Images.mono _ k) (key m)
theorem permL_len (p : Int) : (permL p).length = 4 := rfl
theorem permL_sm {p f : Int} (h0 : 0 ≤ p) (h1 : p ≤ 23) (hf0 : 0 ≤ f) (hf1 : f ≤ 3) : 0 ≤ rd (permL p) f ∧ rd (permL p) f ≤ 3 := by
  obtain ⟨a, b, c, d⟩ := permAt_sm p h0 h1
  exact rd_four_sm a b c d f hf0 hf1
theorem l06At_ev {p f : Int} (h0 : 0 ≤ p) (h1 : p ≤ 23) (hf0 : 0 ≤ f) (hf1 : f ≤ 3) : Ev (fun k => spec_l06At.f k p f) (rd (permL p) f) := by
  refine Ev.bind (l06Images_ev h0 h1) ?_
  exact ev_pos hf0 (ev_pos (by rw [permL_len]; omega) (Ev.now _))
theorem l06Back_ev {p : Int} (h0 : 0 ≤ p) (h1 : p ≤ 23) : Ev (fun k => spec_l06Back.f k p) (invP p) := by
  obtain ⟨m, rfl⟩ := fin_of h0 h1
  have key : ∀ m : Fin 24, spec_l06Back.f 40 (m.val : Int) = some (invP (m.val : Int)) := by decide +kernel
  exact Ev.of (fun k => spec_l06Back.mono _ k) (key m)
theorem target_eq {q p f : Int} (h0 : 0 ≤ p) (h1 : p ≤ 23) (hf0 : 0 ≤ f) (hf1 : f ≤ 3) : impl_Face_target.f q p f = some (rd (permL p) f) := if_pos ⟨h0, h1, hf0, hf1⟩
theorem partner_eq {q p a : Int} (h0 : 0 ≤ p) (h1 : p ≤ 23) : impl_Face_partner.f q p a = some (a, invP p) := by
  unfold impl_Face_partner.f impl_invert.f
  rw [if_pos ⟨h0, h1⟩]; rfl
abbrev Tri := List (List SFace)
/-- No list of t is longer than a million. -/
def Small (t : Tri) : Prop := t.length ≤ 1048576 ∧ ∀ r ∈ t, r.length ≤ 1048576
def SmallL (t : List (List SLawFace)) : Prop := t.length ≤ 1048576 ∧ ∀ r ∈ t, r.length ≤ 1048576
def Fits (t : List (List SLawFace)) : Prop := t.length ≤ 9223372036854775807 ∧ ∀ r ∈ t, r.length ≤ 9223372036854775807
theorem rd_LLawFace_lt (t : List (List SLawFace)) (n : Nat) (h : n < t.length) : rd_LLawFace t (n : Int) = t[n] := by simp [rd_LLawFace, h]
theorem rd_LFace_lt (t : Tri) (n : Nat) (h : n < t.length) : rd_LFace t (n : Int) = t[n] := by simp [rd_LFace, h]
theorem rd_LawFace_lt (t : List SLawFace) (n : Nat) (h : n < t.length) : rd_LawFace t (n : Int) = t[n] := by simp [rd_LawFace, h]
theorem szFaceS_eq (r : List SLawFace) (a : Int) (h0 : 0 ≤ a) (h1 : a ≤ 1048576) (h : r.length ≤ 9223372036854775807) : laws_szFaceS.f r a = some (if a - r.length < 0 then -1 else a - r.length) := by
  unfold laws_szFaceS.f
  rw [wrap_id (by omega) (by omega)]
  split <;> rfl
/-- The copies of the law's values. -/
def cvF (x : SLawFace) : SFace := ⟨x.f0, x.f1⟩
def cvR (r : List SLawFace) : List SFace := r.map cvF
def cvT (t : List (List SLawFace)) : Tri := t.map cvR
theorem cvT_small {t : List (List SLawFace)} (h : SmallL t) : Small (cvT t) := by
  refine ⟨by simp [cvT]; exact h.1, fun r hr => ?_⟩
  obtain ⟨s, hs, rfl⟩ := List.mem_map.1 hr
  simp [cvR]; exact h.2 s hs
theorem map_take_set {α β : Type} (f : α → β) (l : List α) (z : β) (n : Nat) (h : n < l.length) :
    ((l.take n).map f ++ List.replicate (l.length - n) z).set n (f l[n]) = (l.take (n + 1)).map f ++ List.replicate (l.length - (n + 1)) z := by
  have e : l.length - n = (l.length - (n + 1)) + 1 := by omega
  rw [e, List.replicate_succ, List.set_append_right _ _ (by simp; omega)]
  have : n - ((l.take n).map f).length = 0 := by simp; omega
  rw [this, yby, List.take_succ_eq_append_getElem h, List.map_append, List.append_assoc]
  rfl
theorem toFaceS_ev (l : List SLawFace) (h : l.length ≤ 1048576) : Ev (fun k => laws_toFaceS.f k l) (cvR l) := by
  have hl : Ev (fun k => laws_toFaceS.l0 k l (List.replicate l.length zFace) 0) (cvR l) := by
    refine ev_loop0 (fun k (s : List SFace × Int) => laws_toFaceS.l0 k l s.1 s.2) (fun s => ∃ n : Nat, n ≤ l.length ∧ s.2 = n ∧ s.1 = (l.take n).map cvF ++ List.replicate (l.length - n) zFace) (fun s => l.length - s.2.toNat) (fun _ => cvR l) ?_ (List.replicate l.length zFace, 0) ⟨0, by omega, rfl, by simp⟩
    rintro ⟨a, i⟩ ⟨n, hn, rfl, rfl⟩
    dsimp only
    by_cases hlt : n < l.length
    · refine .inr ⟨((l.take (n + 1)).map cvF ++ List.replicate (l.length - (n + 1)) zFace, ((n + 1 : Nat) : Int)), ⟨n + 1, by omega, rfl, rfl⟩, by simp; omega, rfl, fun k => ?_⟩
      simp only [laws_toFaceS.l0, laws_toFace.f, yfy]
      rw [if_pos (by omega), if_pos (by omega), if_pos (by simp; omega), wrap_succ (by omega), Int.toNat_natCast, rd_LawFace_lt l n hlt]
      have := map_take_set cvF l zFace n hlt
      rw [← this]
      rfl
    · obtain rfl : n = l.length := by omega
      refine .inl fun k => ?_
      simp only [laws_toFaceS.l0]
      rw [if_neg (by omega)]
      simp [cvR]
  refine Ev.congr (fun k => ?_) hl
  unfold laws_toFaceS.f
  rw [if_pos (by omega), if_pos (by simp; omega), Int.toNat_natCast]
theorem toFaceSS_ev (l : List (List SLawFace)) (h : SmallL l) : Ev (fun k => laws_toFaceSS.f k l) (cvT l) := by
  have hl : Ev (fun k => laws_toFaceSS.l0 k l (List.replicate l.length []) 0) (cvT l) := by
    refine ev_loop (fun k (s : Tri × Int) => laws_toFaceSS.l0 k l s.1 s.2) (fun s => ∃ n : Nat, n ≤ l.length ∧ s.2 = n ∧ s.1 = (l.take n).map cvR ++ List.replicate (l.length - n) []) (fun s => l.length - s.2.toNat) (fun _ => cvT l) ?_ (List.replicate l.length [], 0) ⟨0, by omega, rfl, by simp⟩
    rintro ⟨a, i⟩ ⟨n, hn, rfl, rfl⟩
    dsimp only
    by_cases hlt : n < l.length
    · obtain ⟨K, hK⟩ := toFaceS_ev l[n] (h.2 _ (List.getElem_mem hlt))
      refine .inr ⟨((l.take (n + 1)).map cvR ++ List.replicate (l.length - (n + 1)) [], ((n + 1 : Nat) : Int)), K, ⟨n + 1, by omega, rfl, rfl⟩, by simp; omega, rfl, fun k hk => ?_⟩
      have e : laws_toFaceS.f k l[n] = some _ := hK k hk
      have h1 := h.1
      simp only [laws_toFaceSS.l0]
      rw [if_pos (by omega), if_pos (by omega), rd_LLawFace_lt l n hlt, e, yfy, if_pos (by simp; omega), wrap_succ (by omega), Int.toNat_natCast, map_take_set cvR l [] n hlt]
    · obtain rfl : n = l.length := by omega
      refine .inl ⟨0, fun k _ => ?_⟩
      simp only [laws_toFaceSS.l0]
      rw [if_neg (by omega)]
      simp [cvT]
  have h1 := h.1
  refine Ev.congr (fun k => ?_) hl
  unfold laws_toFaceSS.f
  rw [if_pos (by omega), if_pos (by simp; omega), Int.toNat_natCast]
theorem toTriangulation_ev (l : List (List SLawFace)) (h : SmallL l) : Ev (fun k => laws_toTriangulation.f k l) (cvT l) := Ev.bind (toFaceSS_ev l h) (Ev.now _)
theorem eqFaceS_ev (l : List SFace) (h : l.length ≤ 1048576) : Ev (fun k => laws_eqFaceS.f k l l) true := by
  have hl : Ev (fun k => laws_eqFaceS.l0 k l l 0) true := by
    refine ev_loop0 (fun k (s : Int) => laws_eqFaceS.l0 k l l s) (fun s => ∃ n : Nat, n ≤ l.length ∧ s = n) (fun s => l.length - s.toNat) (fun _ => true) ?_ 0 ⟨0, by omega, rfl⟩
    rintro i ⟨n, hn, rfl⟩
    by_cases hlt : n < l.length
    · refine .inr ⟨((n + 1 : Nat) : Int), ⟨n + 1, by omega, rfl⟩, by simp; omega, rfl, fun k => ?_⟩
      simp only [laws_eqFaceS.l0, laws_eqFace.f]
      rw [if_pos (by omega), if_pos (by omega), if_pos (by omega), if_pos trivial, if_pos trivial, yfy, if_pos rfl, wrap_succ (by omega)]
    · refine .inl fun k => ?_
      simp only [laws_eqFaceS.l0]
      rw [if_neg (by omega)]
  refine Ev.congr (fun k => ?_) hl
  unfold laws_eqFaceS.f
  rw [if_pos rfl]
theorem eqTriangulation_ev (l : Tri) (h : Small l) : Ev (fun k => laws_eqTriangulation.f k l l) true := by
  have hl : Ev (fun k => laws_eqFaceSS.l0 k l l 0) true := by
    refine ev_loop (fun k (s : Int) => laws_eqFaceSS.l0 k l l s) (fun s => ∃ n : Nat, n ≤ l.length ∧ s = n) (fun s => l.length - s.toNat) (fun _ => true) ?_ 0 ⟨0, by omega, rfl⟩
    rintro i ⟨n, hn, rfl⟩
    by_cases hlt : n < l.length
    · obtain ⟨K, hK⟩ := eqFaceS_ev l[n] (h.2 _ (List.getElem_mem hlt))
      refine .inr ⟨((n + 1 : Nat) : Int), K, ⟨n + 1, by omega, rfl⟩, by simp; omega, rfl, fun k hk => ?_⟩
      have e : laws_eqFaceS.f k l[n] l[n] = some _ := hK k hk
      have h1 := h.1
      simp only [laws_eqFaceSS.l0]
      rw [if_pos (by omega), if_pos (by omega), if_pos (by omega), rd_LFace_lt l n hlt, e, yfy, if_pos rfl, wrap_succ (by omega)]
    · refine .inl ⟨0, fun k _ => ?_⟩
      simp only [laws_eqFaceSS.l0]
      rw [if_neg (by omega)]
  have h2 : Ev (fun k => laws_eqFaceSS.f k l l) true := by
    refine Ev.congr (fun k => ?_) hl
    unfold laws_eqFaceSS.f
    rw [if_pos rfl]
  exact Ev.bind h2 (ev_pos rfl (Ev.now _))
/-- The face f of the tetrahedron a. -/
abbrev fc (t : Tri) (a f : Int) : SFace := rd_Face (rd_LFace t a) f
/-- Is a face as in a valid triangulation? -/
def goodF (t : Tri) (a f : Int) : Bool :=
  if (fc t a f).f0 = -1 then (fc t a f).f1 == 0
  else if 0 ≤ (fc t a f).f0 ∧ (fc t a f).f0 < (t.length : Int) ∧ 0 ≤ (fc t a f).f1 ∧ (fc t a f).f1 ≤ 23 then
    ((fc t (fc t a f).f0 (rd (permL (fc t a f).f1) f)).f0 == a && (fc t (fc t a f).f0 (rd (permL (fc t a f).f1) f)).f1 == invP (fc t a f).f1) && !((fc t a f).f0 == a && rd (permL (fc t a f).f1) f == f)
  else false
/-- d faces of a from f on are good. -/
def goodFs (t : Tri) (a : Int) : Int → Nat → Bool
  | _, 0 => true
  | f, d + 1 => goodF t a f && goodFs t a (f + 1) d
/-- d tetrahedra from a on are good. -/
def goodTs (t : Tri) : Int → Nat → Bool
  | _, 0 => true
  | a, d + 1 => goodFs t a 0 4 && goodTs t (a + 1) d
/-- A valid triangulation. -/
def isTri (t : Tri) : Bool := decide (t.length ≤ 8) && (t.all (fun r => decide (r.length = 4)) && goodTs t 0 t.length)
section
variable {t : Tri}
theorem row4 (h4 : ∀ r ∈ t, r.length = 4) {a : Int} (h0 : 0 ≤ a) (h1 : a < t.length) : (rd_LFace t a).length = 4 := by
  obtain ⟨n, rfl⟩ := Int.eq_ofNat_of_zero_le h0
  rw [rd_LFace_lt t n (by omega)]
  exact h4 _ (List.getElem_mem _)
theorem impl_isGood_ev (h4 : ∀ r ∈ t, r.length = 4) (hn : t.length ≤ 8) {a f : Int} (h0 : 0 ≤ a) (h1 : a < t.length) (hf0 : 0 ≤ f) (hf1 : f ≤ 3) : Ev (fun k => impl_Triangulation_isGood.f k t a f) (goodF t a f) := by
  have hr := row4 h4 h0 h1
  refine Ev.congr (fun k => by unfold impl_Triangulation_isGood.f; rw [if_pos h0, if_pos h1, if_pos hf0, if_pos (by omega)]) ?_
  change Ev (fun k => if (fc t a f).f0 = -1 then some ((fc t a f).f1 == 0) else _) (goodF t a f)
  unfold goodF
  by_cases hb : (fc t a f).f0 = -1
  · rw [if_pos hb]; exact ev_pos hb (Ev.now _)
  · refine ev_neg hb ?_
    rw [if_neg hb]
    have hix : impl_hasIndex_Simpl_Face.f t (fc t a f).f0 = some (decide (0 ≤ (fc t a f).f0) && decide ((fc t a f).f0 ≤ (t.length : Int) - 1)) := by
      unfold impl_hasIndex_Simpl_Face.f impl_size_Simpl_Face.f
      rw [yfy, wrap_id (by omega) (by omega), inRange_eq]; rfl
    have hfalse : Ev (fun k => impl_Triangulation_isGood.j0 k a f true t (fc t a f).f0 (fc t a f).f1) false := ev_step (fun k => by rw [impl_Triangulation_isGood.j0, if_pos rfl]) (Ev.now false)
    refine Ev.bind (ev_const hix) ?_
    by_cases hi : 0 ≤ (fc t a f).f0 ∧ (fc t a f).f0 < (t.length : Int)
    · refine ev_pos (by simp; omega) ?_
      refine Ev.bind (ev_const (isPerm_eq _)) ?_
      by_cases hp : 0 ≤ (fc t a f).f1 ∧ (fc t a f).f1 ≤ 23
      · rw [if_pos ⟨hi.1, hi.2, hp.1, hp.2⟩]
        have e : (!(decide (0 ≤ (fc t a f).f1) && decide ((fc t a f).f1 ≤ 23))) = false := by simp [hp]
        rw [e]
        refine ev_step (fun k => by rw [impl_Triangulation_isGood.j0, if_neg (by simp), target_eq hp.1 hp.2 hf0 hf1, yfy]) ?_
        obtain ⟨hg0, hg1⟩ := permL_sm hp.1 hp.2 hf0 hf1
        have hr2 := row4 h4 hi.1 hi.2
        refine ev_pos hi.1 (ev_pos hi.2 (ev_pos hg0 (ev_pos (by rw [hr2]; omega) ?_)))
        refine Ev.bind (ev_const (partner_eq hp.1 hp.2)) ?_
        change Ev (fun k => if ((fc t (fc t a f).f0 (rd (permL (fc t a f).f1) f)).f0 == a && (fc t (fc t a f).f0 (rd (permL (fc t a f).f1) f)).f1 == invP (fc t a f).f1) = true then _ else _) _
        generalize ((fc t (fc t a f).f0 (rd (permL (fc t a f).f1) f)).f0 == a && (fc t (fc t a f).f0 (rd (permL (fc t a f).f1) f)).f1 == invP (fc t a f).f1) = b
        cases b with
        | false => refine ev_neg (by simp) ?_; rw [Bool.false_and]; exact Ev.now false
        | true =>
          refine ev_pos rfl ?_
          rw [Bool.true_and]
          by_cases ha : (fc t a f).f0 = a
          · refine ev_pos ha (ev_some ?_)
            rw [ha]; simp [bne]
          · refine ev_neg ha (ev_some ?_)
            simp [ha]
      · rw [if_neg (by omega)]
        have e : (!(decide (0 ≤ (fc t a f).f1) && decide ((fc t a f).f1 ≤ 23))) = true := by
          rw [Bool.not_eq_true', Bool.and_eq_false_iff, decide_eq_false_iff_not, decide_eq_false_iff_not]; omega
        rw [e]
        exact hfalse
    · rw [if_neg (by omega)]
      refine ev_neg ?_ hfalse
      rw [Bool.and_eq_true, decide_eq_true_eq, decide_eq_true_eq]; omega
theorem impl_l1_ev (h4 : ∀ r ∈ t, r.length = 4) (hn : t.length ≤ 8) {a : Int} (h0 : 0 ≤ a) (h1 : a < t.length) {R : Bool} (hR : Ev (fun k => impl_isTriangulation.l0 k (t.length : Int) (a + 1) t) R) :
    ∀ (d : Nat) (f : Int), 0 ≤ f → f + d = 4 → Ev (fun k => impl_isTriangulation.l1 k a (t.length : Int) a f t) (goodFs t a f d && R)
  | 0, f, hf, he => by
    refine ev_step (fun k => by rw [impl_isTriangulation.l1, if_neg (by omega), wrap_id (by omega) (by omega)]) ?_
    rw [goodFs, Bool.true_and]; exact hR
  | d + 1, f, hf, he => by
    refine ev_step (fun k => by rw [impl_isTriangulation.l1, if_pos (by omega)]) ?_
    refine Ev.bind (impl_isGood_ev h4 hn h0 h1 hf (by omega)) ?_
    rw [goodFs]
    cases hg : goodF t a f with
    | false => exact ev_neg (by simp) (by rw [Bool.false_and, Bool.false_and]; exact Ev.now false)
    | true =>
      refine ev_pos rfl ?_
      rw [Bool.true_and]
      exact Ev.congr (fun k => by rw [wrap_id (by omega) (by omega)]) (impl_l1_ev h4 hn h0 h1 hR d (f + 1) (by omega) (by omega))
theorem impl_l0_ev (h4 : ∀ r ∈ t, r.length = 4) (hn : t.length ≤ 8) : ∀ (d : Nat) (a : Int), 0 ≤ a → a + d = t.length → Ev (fun k => impl_isTriangulation.l0 k (t.length : Int) a t) (goodTs t a d)
  | 0, a, ha, he => by
    refine ev_step (fun k => by rw [impl_isTriangulation.l0, if_neg (by omega)]) ?_
    exact Ev.now true
  | d + 1, a, ha, he => by
    refine ev_step (fun k => by rw [impl_isTriangulation.l0, if_pos (by omega)]) ?_
    rw [goodTs]
    exact impl_l1_ev h4 hn ha (by omega) (impl_l0_ev h4 hn d (a + 1) (by omega) (by omega)) 4 0 (by omega) (by omega)
theorem all4_iff : t.all (fun r => decide (r.length = 4)) = true ↔ ∀ r ∈ t, r.length = 4 := by simp
theorem contains4 (h : Small t) : slices_ContainsFunc_SSimpl_Face_at_impl_isTriangulation_1.f t = some (!(t.all fun r => decide (r.length = 4))) := by
  unfold slices_ContainsFunc_SSimpl_Face_at_impl_isTriangulation_1.f slices_IndexFunc_SSimpl_Face_at_impl_isTriangulation_1.f
  rw [contO (p := fun r => !(decide (r.length = 4))) t (fun r _ => by
    show impl_isTriangulation_1.f r = _
    unfold impl_isTriangulation_1.f
    congr 1
    by_cases h : r.length = 4
    · simp [h]
    · have : ¬ ((r.length : Int) = 4) := by omega
      simp [h, this]), List.not_all_eq_any_not]
theorem impl_isTri_ev (h : Small t) : Ev (fun k => impl_isTriangulation.f k t) (isTri t) := by
  have hfalse : Ev (fun k => impl_isTriangulation.j0 k true t) false := ev_step (fun k => by rw [impl_isTriangulation.j0, if_pos rfl]) (Ev.now false)
  unfold isTri
  by_cases h8 : t.length ≤ 8
  · refine Ev.congr (fun k => by unfold impl_isTriangulation.f; rw [if_neg (by omega), contains4 h, yfy]) ?_
    rw [ygy h8, Bool.true_and]
    cases hall : t.all (fun r => decide (r.length = 4)) with
    | false => rw [Bool.false_and]; exact hfalse
    | true =>
      rw [Bool.true_and]
      refine ev_step (fun k => by rw [impl_isTriangulation.j0, if_neg (by simp)]) ?_
      exact impl_l0_ev (all4_iff.1 hall) h8 t.length 0 (by omega) (by omega)
  · refine Ev.congr (fun k => by unfold impl_isTriangulation.f; rw [if_pos (by omega)]) ?_
    rw [yhy h8, Bool.false_and]; exact hfalse
theorem spec_l2_ev (h4 : ∀ r ∈ t, r.length = 4) (hn : t.length ≤ 8) {a : Int} (h0 : 0 ≤ a) (h1 : a < t.length) {R : Bool} (hR : Ev (fun k => spec_IsTriangulation.l1 k (a + 1) t) R) :
    ∀ (d : Nat) (f : Int), 0 ≤ f → f + d = 4 → Ev (fun k => spec_IsTriangulation.l2 k a f t) (goodFs t a f d && R)
  | 0, f, hf, he => by
    refine ev_step (fun k => by rw [spec_IsTriangulation.l2, if_neg (by omega), wrap_id (by omega) (by omega)]) ?_
    rw [goodFs, Bool.true_and]; exact hR
  | d + 1, f, hf, he => by
    have hr := row4 h4 h0 h1
    have ih : Ev (fun k => spec_IsTriangulation.l2 k a (wrap64 (f + 1)) t) (goodFs t a (f + 1) d && R) := Ev.congr (fun k => by rw [wrap_id (by omega) (by omega)]) (spec_l2_ev h4 hn h0 h1 hR d (f + 1) (by omega) (by omega))
    refine ev_step (fun k => by rw [spec_IsTriangulation.l2, if_pos (by omega), if_pos h0, if_pos h1, if_pos hf, if_pos (by omega)]) ?_
    change Ev (fun k => if (fc t a f).f0 = -1 then spec_IsTriangulation.j3 k a f ((fc t a f).f1 == 0) t (fc t a f).f0 (fc t a f).f1 else spec_IsTriangulation.j3 k a f false t (fc t a f).f0 (fc t a f).f1) _
    rw [goodFs]
    have hstop : ∀ b, Ev (fun k => spec_IsTriangulation.j4 k a f true t (fc t a f).f0 (fc t a f).f1) (false && b) := fun b => by
      rw [Bool.false_and]; exact ev_step (fun k => by rw [spec_IsTriangulation.j4, if_pos rfl]) (Ev.now false)
    have hgo : Ev (fun k => spec_IsTriangulation.j3 k a f true t (fc t a f).f0 (fc t a f).f1) (goodFs t a (f + 1) d && R) := ev_step (fun k => by rw [spec_IsTriangulation.j3, if_pos rfl]) ih
    have hrest : (¬ ((fc t a f).f0 = -1 ∧ (fc t a f).f1 = 0)) → Ev (fun k => spec_IsTriangulation.j3 k a f false t (fc t a f).f0 (fc t a f).f1) (goodF t a f && goodFs t a (f + 1) d && R) := by
      intro hnb
      refine ev_step (fun k => by rw [spec_IsTriangulation.j3, spec_l07Tets.f, if_neg (by simp), yfy, l07In_eq, yfy, wrap_id (by omega) (by omega)]) ?_
      unfold goodF
      by_cases hi : 0 ≤ (fc t a f).f0 ∧ (fc t a f).f0 < (t.length : Int)
      · refine ev_pos (by simp; omega) ?_
        refine Ev.bind (ev_const (l06Valid_eq _)) ?_
        rw [if_neg (by omega)]
        by_cases hp : 0 ≤ (fc t a f).f1 ∧ (fc t a f).f1 ≤ 23
        · rw [if_pos ⟨hi.1, hi.2, hp.1, hp.2⟩]
          have e : (!(decide (0 ≤ (fc t a f).f1) && decide ((fc t a f).f1 ≤ 23))) = false := by simp [hp]
          rw [e]
          obtain ⟨hg0, hg1⟩ := permL_sm hp.1 hp.2 hf (by omega)
          have hr2 := row4 h4 hi.1 hi.2
          refine ev_step (fun k => by rw [spec_IsTriangulation.j4, if_neg (by simp)]) ?_
          refine Ev.bind (l06At_ev hp.1 hp.2 hf (by omega)) ?_
          refine Ev.bind (l06Back_ev hp.1 hp.2) ?_
          refine ev_pos hi.1 (ev_pos hi.2 (ev_pos hg0 (ev_pos (by rw [hr2]; omega) ?_)))
          change Ev (fun k => if (!((fc t (fc t a f).f0 (rd (permL (fc t a f).f1) f)).f0 == a) || !((fc t (fc t a f).f0 (rd (permL (fc t a f).f1) f)).f1 == invP (fc t a f).f1)) = true then _ else _) _
          generalize ((fc t (fc t a f).f0 (rd (permL (fc t a f).f1) f)).f0 == a) = b1
          generalize ((fc t (fc t a f).f0 (rd (permL (fc t a f).f1) f)).f1 == invP (fc t a f).f1) = b2
          cases b1 with
          | false => exact ev_pos rfl (by rw [Bool.false_and, Bool.false_and, Bool.false_and, Bool.false_and]; exact Ev.now false)
          | true =>
            cases b2 with
            | false => exact ev_pos rfl (by rw [Bool.true_and, Bool.false_and, Bool.false_and, Bool.false_and]; exact Ev.now false)
            | true =>
              refine ev_neg (by simp) ?_
              rw [Bool.true_and, Bool.true_and]
              by_cases ha : (fc t a f).f0 = a
              · refine ev_pos ha ?_
                by_cases hg : rd (permL (fc t a f).f1) f = f
                · refine ev_pos hg ?_
                  rw [ha, hg]
                  simp
                  exact Ev.now false
                · refine ev_neg hg ?_
                  have : (rd (permL (fc t a f).f1) f == f) = false := by simp [hg]
                  rw [this, Bool.and_false, Bool.not_false, Bool.true_and]
                  exact ih
              · refine ev_neg ha ?_
                have : ((fc t a f).f0 == a) = false := by simp [ha]
                rw [this, Bool.false_and, Bool.not_false, Bool.true_and]
                exact ih
        · rw [if_neg (by omega)]
          have e : (!(decide (0 ≤ (fc t a f).f1) && decide ((fc t a f).f1 ≤ 23))) = true := by
            rw [Bool.not_eq_true', Bool.and_eq_false_iff, decide_eq_false_iff_not, decide_eq_false_iff_not]; omega
          rw [e, Bool.false_and]
          exact hstop R
      · have hg : (if (fc t a f).f0 = -1 then ((fc t a f).f1 == 0) else if 0 ≤ (fc t a f).f0 ∧ (fc t a f).f0 < (t.length : Int) ∧ 0 ≤ (fc t a f).f1 ∧ (fc t a f).f1 ≤ 23 then
            ((fc t (fc t a f).f0 (rd (permL (fc t a f).f1) f)).f0 == a && (fc t (fc t a f).f0 (rd (permL (fc t a f).f1) f)).f1 == invP (fc t a f).f1) && !((fc t a f).f0 == a && rd (permL (fc t a f).f1) f == f) else false) = false := by
          by_cases hb : (fc t a f).f0 = -1
          · rw [if_pos hb]; simp; intro h; exact hnb ⟨hb, h⟩
          · rw [if_neg hb, if_neg (by omega)]
        rw [hg, Bool.false_and]
        refine ev_neg ?_ (hstop R)
        rw [Bool.and_eq_true, decide_eq_true_eq, decide_eq_true_eq]; omega
    by_cases hb : (fc t a f).f0 = -1
    · refine ev_pos hb ?_
      by_cases h0' : (fc t a f).f1 = 0
      · have e : goodF t a f = true := by unfold goodF; rw [if_pos hb]; simp [h0']
        rw [e, Bool.true_and]
        have e2 : ((fc t a f).f1 == 0) = true := by simp [h0']
        rw [e2]; exact hgo
      · have e2 : ((fc t a f).f1 == 0) = false := by simp [h0']
        rw [e2]; exact hrest (fun h => h0' h.2)
    · exact ev_neg hb (hrest (fun h => hb h.1))
theorem spec_l1_ev (h4 : ∀ r ∈ t, r.length = 4) (hn : t.length ≤ 8) : ∀ (d : Nat) (a : Int), 0 ≤ a → a + d = t.length → Ev (fun k => spec_IsTriangulation.l1 k a t) (goodTs t a d)
  | 0, a, ha, he => by
    refine ev_step (fun k => by rw [spec_IsTriangulation.l1, spec_l07Tets.f, yfy, if_neg (by omega)]) ?_
    exact Ev.now true
  | d + 1, a, ha, he => by
    refine ev_step (fun k => by rw [spec_IsTriangulation.l1, spec_l07Tets.f, yfy, if_pos (by omega)]) ?_
    rw [goodTs]
    exact spec_l2_ev h4 hn ha (by omega) (spec_l1_ev h4 hn d (a + 1) (by omega) (by omega)) 4 0 (by omega) (by omega)
theorem spec_l0_ev (h8 : t.length ≤ 8) (d : Nat) : ∀ n : Nat, n + d = t.length → (t.all (fun r => decide (r.length = 4)) = (t.drop n).all (fun r => decide (r.length = 4))) → Ev (fun k => spec_IsTriangulation.l0 k (n : Int) t) (t.all (fun r => decide (r.length = 4)) && goodTs t 0 t.length) := by
  induction d with
  | zero =>
    intro n hn ha
    refine ev_step (fun k => by rw [spec_IsTriangulation.l0, if_neg (by omega)]) ?_
    have hall : t.all (fun r => decide (r.length = 4)) = true := by rw [ha, List.drop_eq_nil_of_le (by omega)]; rfl
    rw [hall, Bool.true_and]
    exact spec_l1_ev (all4_iff.1 hall) h8 t.length 0 (by omega) (by omega)
  | succ d ih =>
    intro n hn ha
    have hlt : n < t.length := by omega
    refine ev_step (fun k => by rw [spec_IsTriangulation.l0, if_pos (by omega), if_pos (by omega), rd_LFace_lt t n hlt]) ?_
    rw [List.drop_eq_getElem_cons hlt, List.all_cons] at ha
    by_cases h : t[n].length = 4
    · refine ev_pos (by omega) ?_
      refine Ev.congr (fun k => by rw [wrap_succ (by omega)]) (ih (n + 1) (by omega) ?_)
      rw [ha, ygy h, Bool.true_and]
    · refine ev_neg (by omega) ?_
      rw [ha, yhy h, Bool.false_and, Bool.false_and]
      exact Ev.now false
theorem spec_isTri_ev (t : Tri) : Ev (fun k => spec_IsTriangulation.f k t) (isTri t) := by
  refine Ev.congr (fun k => by unfold spec_IsTriangulation.f spec_l07Tets.f; rw [yfy]) ?_
  unfold isTri
  by_cases h8 : t.length ≤ 8
  · refine ev_neg (by omega) ?_
    rw [ygy h8, Bool.true_and]
    exact spec_l0_ev h8 t.length 0 (by omega) (by rw [List.drop_zero])
  · refine ev_pos (by omega) ?_
    rw [yhy h8, Bool.false_and]
    exact Ev.now false
end
theorem isTri_good {t : Tri} (h : isTri t = true) : t.length ≤ 8 ∧ (∀ r ∈ t, r.length = 4) ∧ goodTs t 0 t.length = true := by
  unfold isTri at h
  rw [Bool.and_eq_true, Bool.and_eq_true, decide_eq_true_eq] at h
  exact ⟨h.1, all4_iff.1 h.2.1, h.2.2⟩
theorem goodFs_at (t : Tri) (a : Int) (d : Nat) : ∀ f, goodFs t a f d = true → ∀ g, f ≤ g → g < f + d → goodF t a g = true := by
  induction d with
  | zero => intro f _ g h1 h2; omega
  | succ d ih =>
    intro f h g h1 h2
    rw [goodFs, Bool.and_eq_true] at h
    by_cases e : g = f
    · rw [e]; exact h.1
    · exact ih (f + 1) h.2 g (by omega) (by omega)
theorem goodTs_at (t : Tri) (d : Nat) : ∀ a, goodTs t a d = true → ∀ b, a ≤ b → b < a + d → ∀ g, 0 ≤ g → g ≤ 3 → goodF t b g = true := by
  induction d with
  | zero => intro a _ b h1 h2; omega
  | succ d ih =>
    intro a h b h1 h2 g hg0 hg1
    rw [goodTs, Bool.and_eq_true] at h
    by_cases e : b = a
    · rw [e]; exact goodFs_at t a 4 0 h.1 g hg0 (by omega)
    · exact ih (a + 1) h.2 b (by omega) (by omega) g hg0 hg1
/-- A face of a valid triangulation: the boundary, or glued to a face that is glued back. -/
theorem face_good {t : Tri} (h : isTri t = true) {a f : Int} (h0 : 0 ≤ a) (h1 : a < t.length) (hf0 : 0 ≤ f) (hf1 : f ≤ 3) :
    ((fc t a f).f0 = -1 ∧ (fc t a f).f1 = 0) ∨
    ((0 ≤ (fc t a f).f0 ∧ (fc t a f).f0 < (t.length : Int) ∧ 0 ≤ (fc t a f).f1 ∧ (fc t a f).f1 ≤ 23) ∧
      (fc t (fc t a f).f0 (rd (permL (fc t a f).f1) f)).f0 = a ∧ (fc t (fc t a f).f0 (rd (permL (fc t a f).f1) f)).f1 = invP (fc t a f).f1 ∧ ¬ ((fc t a f).f0 = a ∧ rd (permL (fc t a f).f1) f = f)) := by
  have hg := goodTs_at t t.length 0 (isTri_good h).2.2 a h0 (by omega) f hf0 hf1
  unfold goodF at hg
  by_cases hb : (fc t a f).f0 = -1
  · rw [if_pos hb] at hg
    exact .inl ⟨hb, by simpa using hg⟩
  · rw [if_neg hb] at hg
    by_cases hi : 0 ≤ (fc t a f).f0 ∧ (fc t a f).f0 < (t.length : Int) ∧ 0 ≤ (fc t a f).f1 ∧ (fc t a f).f1 ≤ 23
    · rw [if_pos hi, Bool.and_eq_true, Bool.and_eq_true, Bool.not_eq_true'] at hg
      refine .inr ⟨hi, eq_of_beq hg.1.1, eq_of_beq hg.1.2, fun hc => ?_⟩
      have := hg.2
      rw [Bool.and_eq_false_iff] at this
      rcases this with h2 | h2
      · exact absurd hc.1 (by simpa using h2)
      · exact absurd hc.2 (by simpa using h2)
    · rw [if_neg hi] at hg; cases hg
theorem rowlen {t : Tri} (h : isTri t = true) {a : Int} (h0 : 0 ≤ a) (h1 : a < t.length) : (rd_LFace t a).length = 4 := row4 (isTri_good h).2.1 h0 h1
end Go.Proofs.Ytembbpalgfikiaa.P
