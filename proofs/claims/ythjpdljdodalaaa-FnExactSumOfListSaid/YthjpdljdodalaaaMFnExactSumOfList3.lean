/- The statement FnExactSumOfListSaid, proved: part 3 of 7 (texts of this session and of the kit's print, put together and cut to what is used by a program of it). -/
import Derived.Test.YthjpdljdodalaaaMFnExactSumOfList2
import Derived.WalkSpells
import Derived.Lib.SliceRun
namespace Go.Proofs.Ythjpdljdodalaaa.P
open Go.RowKit Go.Proofs.YthjpdljdodalaaaW.PrintWords Go.Proofs.YthjpdljdodalaaaW.PrintLast Go.Proofs.YthjpdljdodalaaaW.PrintMore
attribute [local go_sem] QS QT Qz JA QD QE QU QV
set_option linter.unusedVariables false
set_option linter.unusedSimpArgs false
section
attribute [local go_sem high] zGE
def zS.j0 : Nat → Int → Int → Bool → List (List (zq)) → Int → Int → Option (Bool)
 | 0, _, _, _, _, _, _ => none
 | k + 1, x1, x2, x34, x102000, x105000, x105001 => if x34 = true then (some false) else ((ZJ.f x105000 x105001 x2).bind fun t107 => (if 0 ≤ x105000 then (if x105000 < (x102000.length : Int) then (if 0 ≤ t107 then (if t107 < ((zE x102000 x105000).length : Int) then ((qz.f x105000 x105001 x1).bind fun bt110 => (if (((zG (zE x102000 x105000) t107).f0) == bt110.1 && (((zG (zE x102000 x105000) t107).f1) == bt110.2)) = true then (if x105000 = x1 then (some (t107 != x2)) else (some true)) else (some false))) else (none)) else (none)) else (none)) else (none)))
def zS.f (k : Nat) (l0_0 : List (List (zq))) (a1 : Int) (a2 : Int) : Option (Bool) := if 0 ≤ a1 then (if a1 < (l0_0.length : Int) then (if 0 ≤ a2 then (if a2 < ((zE l0_0 a1).length : Int) then (if ((zG (zE l0_0 a1) a2).f0) = (-1) then (some (((zG (zE l0_0 a1) a2).f1) == 0)) else ((ql.f l0_0 ((zG (zE l0_0 a1) a2).f0)).bind fun t105 => (if t105 = true then ((Zw.f ((zG (zE l0_0 a1) a2).f1)).bind fun t106 => (zS.j0 k a1 a2 (!t106) l0_0 ((zG (zE l0_0 a1) a2).f0) ((zG (zE l0_0 a1) a2).f1))) else (zS.j0 k a1 a2 true l0_0 ((zG (zE l0_0 a1) a2).f0) ((zG (zE l0_0 a1) a2).f1))))) else (none)) else (none)) else (none)) else (none)
def zS.T7 : Bool × List (List Nat × List Nat) := (true, [([], []), ([0], [0]), ([], []), ([2], [2]), ([1, 3], [1, 3]), ([4], [4]), ([], []), ([5, 6], [5, 6]), ([7], [7]), ([], []), ([], []), ([9, 10], [9, 10]), ([8, 11], [8, 11]), ([12, 11], [12]), ([13], [13]), ([14, 13], [13, 14]), ([13], [13]), ([15, 16, 13], [13, 15, 16]), ([17, 13, 13], [13, 17]), ([18], [18]), ([18], [18]), ([19, 20, 18], [18, 19, 20]), ([18, 21, 13], [13, 18, 21]), ([13, 22], [13, 22]), ([23, 18, 0, 1, 2, 3, 4, 5, 6, 7, 8, 9, 10, 11, 12, 13, 14, 15, 16, 17, 18, 19, 20, 21, 22, 23], [23])])
def zS.B7 : List Nat := [0, 1, 0, 4, 15, 31, 0, 127, 255, 0, 0, 1536, 4095, 8191, 16383, 32767, 16383, 131071, 262143, 524287, 524287, 2097151, 4194303, 8388607, 16777215]
theorem zS.tab7 : zAf .any (opsOf Try.f145 7) = zS.T7 := by kernel_rfl
theorem zS.zGZ : Qx zS.T7.2 zS.B7 = true := by kernel_rfl
set_option maxHeartbeats 8000000 in
set_option maxRecDepth 100000 in
theorem zS.calls (k : Nat) (A0_0 : Option Addr) (c0_0 : Nat) (l0_0 : List (List (zq))) (a1 : Int) (a2 : Int) (r : Bool) (w : World) (hr0_0 : Kd.C (Kd.slice 115 ZB) w A0_0 l0_0.length l0_0) (hc0_0 : l0_0.length ≤ c0_0) (h : zS.f k l0_0 a1 a2 = some r) :
 Calls Try.prog 145 #[.agg #[.slice A0_0 l0_0.length c0_0], .int .i64 a1, .int .i64 a2] w fun e w' => e = .returned (.bool r) ∧ Below w.heap.size w w' := by
 have hu30 := Try.underlying30
 have hu115 := Try.underlying115
 have HR0_0 := zA.mk hr0_0
 have HC0_0 := zA.mk hc0_0
 clear hr0_0 hc0_0
 have HB := zA.mk (yry w.heap.size w)
 have H : (if 0 ≤ a1 then (if a1 < (l0_0.length : Int) then (if 0 ≤ a2 then (if a2 < ((zE l0_0 a1).length : Int) then (if ((zG (zE l0_0 a1) a2).f0) = (-1) then (some (((zG (zE l0_0 a1) a2).f1) == 0)) else ((ql.f l0_0 ((zG (zE l0_0 a1) a2).f0)).bind fun t105 => (if t105 = true then ((Zw.f ((zG (zE l0_0 a1) a2).f1)).bind fun t106 => (zS.j0 k a1 a2 (!t106) l0_0 ((zG (zE l0_0 a1) a2).f0) ((zG (zE l0_0 a1) a2).f1))) else (zS.j0 k a1 a2 true l0_0 ((zG (zE l0_0 a1) a2).f0) ((zG (zE l0_0 a1) a2).f1))))) else (none)) else (none)) else (none)) else (none)) = some r := h
 clear h
 by_cases c4 : 0 ≤ a1
 rotate_left
 next =>
  rw [if_neg c4] at H
  exact absurd H (by simp)
 rw [if_pos c4] at H
 have c4b0 : decide (0 ≤ a1) = true := ygy c4
 clear c4
 by_cases c5 : a1 < (l0_0.length : Int)
 rotate_left
 next =>
  rw [if_neg c5] at H
  exact absurd H (by simp)
 rw [if_pos c5] at H
 have c5b0 : decide (a1 < (l0_0.length : Int)) = true := ygy c5
 clear c5
 by_cases c6 : 0 ≤ a2
 rotate_left
 next =>
  rw [if_neg c6] at H
  exact absurd H (by simp)
 rw [if_pos c6] at H
 have c6b0 : decide (0 ≤ a2) = true := ygy c6
 clear c6
 by_cases c7 : a2 < ((zE l0_0 a1).length : Int)
 rotate_left
 next =>
  rw [if_neg c7] at H
  exact absurd H (by simp)
 rw [if_pos c7] at H
 have c7b0 : decide (a2 < ((zE l0_0 a1).length : Int)) = true := ygy c7
 clear c7
 by_cases c8 : ((zG (zE l0_0 a1) a2).f0) = (-1)
 next =>
  rw [if_pos c8] at H
  have c8b0 : (((zG (zE l0_0 a1) a2).f0) == (-1)) = true := beq_iff_eq.mpr c8
  have c8b1 : (((zG (zE l0_0 a1) a2).f0) != (-1)) = false := bne_eq_false_iff_eq.mpr c8
  clear c8
  obtain rfl := yey H
  go_enter Try.func145, Try.ntmps145
  go_wp2_with (first | ((with_reducible refine zm (N := 3) rfl ?_); refine zo ?hg (N := 3) ?hd (cs := #[.slice A0_0 l0_0.length c0_0]) (t := 30) ?hr ?_; (case hd => rfl); (case hg => rfl); (case hr => first | (go_simp; done) | (go_simp; rfl)); intro gb101 hg w9 hbox hb; have n0_ := zA.mk (zN (by repeat (first | (with_reducible first | exact HB.out | apply zC | apply zB | apply zD) | exact HB.out)) hb); have n1_ := zA.mk (hbox); have n2_ := zA.mk ((by rw [hg]; exact (zO (by repeat (first | (with_reducible first | exact HB.out | apply zC | apply zB | apply zD) | exact HB.out))) : w.heap.size ≤ gb101)); have n3_ := zA.mk ((by rw [hg]; exact (zO (by repeat (first | (with_reducible first | exact HB.out | apply zC | apply zB | apply zD) | exact HB.out))) : w.heap.size ≤ gb101)); clear HB; have HB := n0_; have BK101 := n1_; have GW101 := n2_; have GE101 := n3_; clear n0_ n1_ n2_ n3_; clear hb hbox hg; have hcz10_0 : w9.cell? ⟨gb101, 0, none⟩ = some (.slice A0_0 l0_0.length c0_0) := (zK BK101.out 0).trans rfl; have hfz10_0 := zM BK101.out 0; have p102 : 0 ≤ (a1 : Int) := of_decide_eq_true (by first | (with_reducible assumption) | assumption); have q102 : a1 < (l0_0.length : Int) := of_decide_eq_true (by first | (with_reducible assumption) | assumption); obtain ⟨ad102, A102_0, c102_0, e102, hx102_0, hl102_0, hi102_0⟩ := ZP HR0_0.out a1 p102 q102; cases e102; replace hx102_0 := (HB.out.cell (ypy w _ hx102_0)).trans hx102_0; have HR102_0 := zA.mk hi102_0; have HC102_0 := zA.mk hl102_0; clear hi102_0 hl102_0; replace p102 := eq_true p102; replace q102 := eq_true q102; have p103 : 0 ≤ (a2 : Int) := of_decide_eq_true (by first | (with_reducible assumption) | assumption); have q103 : a2 < ((zE l0_0 a1).length : Int) := of_decide_eq_true (by first | (with_reducible assumption) | assumption); obtain ⟨ad103, e103, hx103_0, hx103_1⟩ := Zs HR102_0.out a2 p103 q103; cases e103; replace hx103_0 := (HB.out.cell (ypy w _ hx103_0)).trans hx103_0; replace hx103_1 := (HB.out.cell (ypy w _ hx103_1)).trans hx103_1; replace p103 := eq_true p103; replace q103 := eq_true q103) | ((with_reducible refine zm (N := 7) rfl ?_); refine zo ?hg (N := 7) ?hd (cs := #[.int .i64 0, .int .i64 0]) (t := 115) ?hr ?_; (case hd => rfl); (case hg => rfl); (case hr => first | (go_simp; done) | (go_simp; rfl)); intro gb104 hg w11 hbox hb; have n0_ := zA.mk (zP (g := gb101) (o := .cells #[.slice (some ad102) l0_0.length c0_0] 30 (0, 0)) (by (with_reducible repeat (first | refine zI ?_ _ | refine zJ ?_ | refine zH ?_ _)); exact BK101.out) hb); have n1_ := zA.mk (zN (by repeat (first | (with_reducible first | exact HB.out | apply zC | apply zB | apply zD | refine zF ?_ GE101.out) | exact HB.out)) hb); have n2_ := zA.mk (hbox); have n3_ := zA.mk ((by rw [hg]; exact (zO (by repeat (first | (with_reducible first | exact HB.out | apply zC | apply zB | apply zD | refine zF ?_ GE101.out) | exact HB.out))) : w.heap.size ≤ gb104)); have n4_ := zA.mk ((by rw [hg]; exact (zO (by repeat (first | (with_reducible first | exact HB.out | apply zC | apply zB | apply zD | refine zF ?_ GE101.out) | exact HB.out))) : w.heap.size ≤ gb104)); have n5_ := zA.mk ((by rw [hg]; exact Nat.ne_of_lt (qi (g := gb101) (o := .cells #[.slice (some ad102) l0_0.length c0_0] 30 (0, 0)) (by (with_reducible repeat (first | refine zI ?_ _ | refine zJ ?_ | refine zH ?_ _)); exact BK101.out)) : gb101 ≠ gb104)); have n6_ := zA.mk ((by rw [hg]; exact Nat.ne_of_gt (qi (g := gb101) (o := .cells #[.slice (some ad102) l0_0.length c0_0] 30 (0, 0)) (by (with_reducible repeat (first | refine zI ?_ _ | refine zJ ?_ | refine zH ?_ _)); exact BK101.out)) : gb104 ≠ gb101)); clear BK101; clear HB; have BK101 := n0_; have HB := n1_; have BK104 := n2_; have GW104 := n3_; have GE104 := n4_; have NB101_104 := n5_; have NB104_101 := n6_; clear n0_ n1_ n2_ n3_ n4_ n5_ n6_; clear hb hbox hg; have hnb12 := NB104_101.out; have hnc12 := NB101_104.out; have hcz13_0 : w11.cell? ⟨gb104, 0, none⟩ = some (.int .i64 0) := (zK BK104.out 0).trans rfl; have hcz13_1 : w11.cell? ⟨gb104, 1, none⟩ = some (.int .i64 0) := (zK BK104.out 1).trans rfl; have hfz13_0 := zM BK104.out 0; have hfz13_1 := zM BK104.out 1))
  go_ret
  exact ⟨by first | rfl | (simp [zQ, zR] <;> rfl) | (simp [*, zQ, zR] <;> rfl), by repeat (first | (with_reducible first | exact HB.out | apply zC | apply zB | apply zD | refine zF ?_ GE101.out | refine zF ?_ GE104.out) | exact HB.out)⟩
 next =>
  rw [if_neg c8] at H
  have c8b0 : (((zG (zE l0_0 a1) a2).f0) == (-1)) = false := beq_eq_false_iff_ne.mpr c8
  have c8b1 : (((zG (zE l0_0 a1) a2).f0) != (-1)) = true := bne_iff_ne.mpr c8
  have HC14 := zA.mk H
  clear H
  go_enter Try.func145, Try.ntmps145
  go_upto_region 4 with (first | ((with_reducible refine zm (N := 3) rfl ?_); refine zo ?hg (N := 3) ?hd (cs := #[.slice A0_0 l0_0.length c0_0]) (t := 30) ?hr ?_; (case hd => rfl); (case hg => rfl); (case hr => first | (go_simp; done) | (go_simp; rfl)); intro gb101 hg w15 hbox hb; have n0_ := zA.mk (zN (by repeat (first | (with_reducible first | exact HB.out | apply zC | apply zB | apply zD) | exact HB.out)) hb); have n1_ := zA.mk (hbox); have n2_ := zA.mk ((by rw [hg]; exact (zO (by repeat (first | (with_reducible first | exact HB.out | apply zC | apply zB | apply zD) | exact HB.out))) : w.heap.size ≤ gb101)); have n3_ := zA.mk ((by rw [hg]; exact (zO (by repeat (first | (with_reducible first | exact HB.out | apply zC | apply zB | apply zD) | exact HB.out))) : w.heap.size ≤ gb101)); clear HB; have HB := n0_; have BK101 := n1_; have GW101 := n2_; have GE101 := n3_; clear n0_ n1_ n2_ n3_; clear hb hbox hg; have hcz16_0 : w15.cell? ⟨gb101, 0, none⟩ = some (.slice A0_0 l0_0.length c0_0) := (zK BK101.out 0).trans rfl; have hfz16_0 := zM BK101.out 0; have p102 : 0 ≤ (a1 : Int) := of_decide_eq_true (by first | (with_reducible assumption) | assumption); have q102 : a1 < (l0_0.length : Int) := of_decide_eq_true (by first | (with_reducible assumption) | assumption); obtain ⟨ad102, A102_0, c102_0, e102, hx102_0, hl102_0, hi102_0⟩ := ZP HR0_0.out a1 p102 q102; cases e102; replace hx102_0 := (HB.out.cell (ypy w _ hx102_0)).trans hx102_0; have HR102_0 := zA.mk hi102_0; have HC102_0 := zA.mk hl102_0; clear hi102_0 hl102_0; replace p102 := eq_true p102; replace q102 := eq_true q102; have p103 : 0 ≤ (a2 : Int) := of_decide_eq_true (by first | (with_reducible assumption) | assumption); have q103 : a2 < ((zE l0_0 a1).length : Int) := of_decide_eq_true (by first | (with_reducible assumption) | assumption); obtain ⟨ad103, e103, hx103_0, hx103_1⟩ := Zs HR102_0.out a2 p103 q103; cases e103; replace hx103_0 := (HB.out.cell (ypy w _ hx103_0)).trans hx103_0; replace hx103_1 := (HB.out.cell (ypy w _ hx103_1)).trans hx103_1; replace p103 := eq_true p103; replace q103 := eq_true q103) | ((with_reducible refine zm (N := 7) rfl ?_); refine zo ?hg (N := 7) ?hd (cs := #[.int .i64 0, .int .i64 0]) (t := 115) ?hr ?_; (case hd => rfl); (case hg => rfl); (case hr => first | (go_simp; done) | (go_simp; rfl)); intro gb104 hg w17 hbox hb; have n0_ := zA.mk (zP (g := gb101) (o := .cells #[.slice (some ad102) l0_0.length c0_0] 30 (0, 0)) (by (with_reducible repeat (first | refine zI ?_ _ | refine zJ ?_ | refine zH ?_ _)); exact BK101.out) hb); have n1_ := zA.mk (zN (by repeat (first | (with_reducible first | exact HB.out | apply zC | apply zB | apply zD | refine zF ?_ GE101.out) | exact HB.out)) hb); have n2_ := zA.mk (hbox); have n3_ := zA.mk ((by rw [hg]; exact (zO (by repeat (first | (with_reducible first | exact HB.out | apply zC | apply zB | apply zD | refine zF ?_ GE101.out) | exact HB.out))) : w.heap.size ≤ gb104)); have n4_ := zA.mk ((by rw [hg]; exact (zO (by repeat (first | (with_reducible first | exact HB.out | apply zC | apply zB | apply zD | refine zF ?_ GE101.out) | exact HB.out))) : w.heap.size ≤ gb104)); have n5_ := zA.mk ((by rw [hg]; exact Nat.ne_of_lt (qi (g := gb101) (o := .cells #[.slice (some ad102) l0_0.length c0_0] 30 (0, 0)) (by (with_reducible repeat (first | refine zI ?_ _ | refine zJ ?_ | refine zH ?_ _)); exact BK101.out)) : gb101 ≠ gb104)); have n6_ := zA.mk ((by rw [hg]; exact Nat.ne_of_gt (qi (g := gb101) (o := .cells #[.slice (some ad102) l0_0.length c0_0] 30 (0, 0)) (by (with_reducible repeat (first | refine zI ?_ _ | refine zJ ?_ | refine zH ?_ _)); exact BK101.out)) : gb104 ≠ gb101)); clear BK101; clear HB; have BK101 := n0_; have HB := n1_; have BK104 := n2_; have GW104 := n3_; have GE104 := n4_; have NB101_104 := n5_; have NB104_101 := n6_; clear n0_ n1_ n2_ n3_ n4_ n5_ n6_; clear hb hbox hg; have hnb18 := NB104_101.out; have hnc18 := NB101_104.out; have hcz19_0 : w17.cell? ⟨gb104, 0, none⟩ = some (.int .i64 0) := (zK BK104.out 0).trans rfl; have hcz19_1 : w17.cell? ⟨gb104, 1, none⟩ = some (.int .i64 0) := (zK BK104.out 1).trans rfl; have hfz19_0 := zM BK104.out 0; have hfz19_1 := zM BK104.out 1))
  (try simp only [Act.put, yay, yby, ycy])
  go_cut [34] (fun v34 wc => ∃ (kq : Nat) (x34_13 : Bool), v34 = .bool x34_13 ∧ zA (zS.j0 kq a1 a2 x34_13 l0_0 ((zG (zE l0_0 a1) a2).f0) ((zG (zE l0_0 a1) a2).f1) = some r) ∧ zA (kq ≤ k) ∧ zA (wc.heap[gb101]? = some (.cells #[(.slice (some ad102) l0_0.length c0_0)] 30 (0, 0))) ∧ zA (wc.heap[gb104]? = some (.cells #[.int .i64 ((zG (zE l0_0 a1) a2).f0), .int .i64 ((zG (zE l0_0 a1) a2).f1)] 115 (0, 0))) ∧ zA (Below w.heap.size w wc))
  case first =>
   have H := HC14.out
   clear HC14
   replace H := ydy.mp H
   obtain ⟨t105, A200, H⟩ := H
   replace H : (if t105 = true then ((Zw.f ((zG (zE l0_0 a1) a2).f1)).bind fun t106 => (zS.j0 k a1 a2 (!t106) l0_0 ((zG (zE l0_0 a1) a2).f0) ((zG (zE l0_0 a1) a2).f1))) else (zS.j0 k a1 a2 true l0_0 ((zG (zE l0_0 a1) a2).f0) ((zG (zE l0_0 a1) a2).f1))) = some r := H
   have A20 := zA.mk A200
   clear A200
   by_cases c21 : t105 = true
   rotate_left
   next =>
    replace c21 := Bool.eq_false_iff.mpr c21
    subst c21
    have H1 : (zS.j0 k a1 a2 true l0_0 ((zG (zE l0_0 a1) a2).f0) ((zG (zE l0_0 a1) a2).f1)) = some r := by rw [if_neg (show ¬ (false = true) by decide)] at H; exact H
    clear H
    have H := H1
    clear H1
    have H' := zA.mk H
    clear H
    have hnb26 := NB101_104.out
    have hnc26 := NB104_101.out
    have hcz27_0 : w17.cell? ⟨gb101, 0, none⟩ = some (.slice (some ad102) l0_0.length c0_0) := (zK BK101.out 0).trans rfl
    have hfz27_0 := zM BK101.out 0
    have hcz28_0 : w17.cell? ⟨gb104, 0, none⟩ = some (.int .i64 0) := (zK BK104.out 0).trans rfl
    have hcz28_1 : w17.cell? ⟨gb104, 1, none⟩ = some (.int .i64 0) := (zK BK104.out 1).trans rfl
    have hfz28_0 := zM BK104.out 0
    have hfz28_1 := zM BK104.out 1
    go_wp2_with (first | ((with_reducible refine zT (f := 163) rfl ?_); refine qH (some 27) rfl rfl Try.func163 (by kernel_rfl) rfl #[.slice (some ad102) l0_0.length c0_0, .int .i64 ((zG (zE l0_0 a1) a2).f0)] rfl (by (try simp only [yiy, yjy, yky]); first | done | rfl | (simp only [yly, ymy]; rfl)) ?_; (with_reducible refine (ql.calls _ _ l0_0 ((zG (zE l0_0 a1) a2).f0) false _ ?side1 ?side2 A20.out).mono ?_); (case side1 => exact Kd.zl HR0_0.out (by repeat (first | (with_reducible first | exact HB.out | apply zC | apply zB | apply zD | refine zF ?_ GE101.out | refine zF ?_ GE104.out) | exact HB.out))); (case side2 => exact HC0_0.out); rintro e w' ⟨rfl, ⟨nd, rfl⟩⟩; refine ⟨_, rfl, ?_⟩))
    go_meet
    case rel => exact ⟨_, (true), (by first | rfl | (simp; done) | (simp [*]; done)), H', ⟨by first | omega | exact yqy _⟩, ⟨by (with_reducible repeat (first | refine zI ?_ _ | refine zJ ?_ | refine zH ?_ _)); refine qZ ?_ NB101_104.out _; (with_reducible repeat (first | refine zI ?_ _ | refine zJ ?_ | refine zH ?_ _)); refine qZ ?_ NB101_104.out _; (with_reducible repeat (first | refine zI ?_ _ | refine zJ ?_ | refine zH ?_ _)); exact BK101.out⟩, ⟨by (with_reducible repeat (first | refine zI ?_ _ | refine zJ ?_ | refine zH ?_ _)); refine qg (cs := #[.int .i64 ((zG (zE l0_0 a1) a2).f0), .int .i64 0]) ?_ 1 _ rfl; (with_reducible repeat (first | refine zI ?_ _ | refine zJ ?_ | refine zH ?_ _)); refine qg (cs := #[.int .i64 0, .int .i64 0]) ?_ 0 _ rfl; (with_reducible repeat (first | refine zI ?_ _ | refine zJ ?_ | refine zH ?_ _)); exact BK104.out⟩, ⟨by repeat (first | (with_reducible first | exact HB.out | apply zC | apply zB | apply zD | refine zF ?_ GE101.out | refine zF ?_ GE104.out) | exact HB.out)⟩⟩
   subst c21
   have H1 : ((Zw.f ((zG (zE l0_0 a1) a2).f1)).bind fun t106 => (zS.j0 k a1 a2 (!t106) l0_0 ((zG (zE l0_0 a1) a2).f0) ((zG (zE l0_0 a1) a2).f1))) = some r := by rw [if_pos rfl] at H; exact H
   clear H
   have H := H1
   clear H1
   replace H := ydy.mp H
   obtain ⟨t106, A220, H⟩ := H
   replace H : (zS.j0 k a1 a2 (!t106) l0_0 ((zG (zE l0_0 a1) a2).f0) ((zG (zE l0_0 a1) a2).f1)) = some r := H
   have A22 := zA.mk A220
   clear A220
   have H' := zA.mk H
   clear H
   have hnb23 := NB101_104.out
   have hnc23 := NB104_101.out
   have hcz24_0 : w17.cell? ⟨gb101, 0, none⟩ = some (.slice (some ad102) l0_0.length c0_0) := (zK BK101.out 0).trans rfl
   have hfz24_0 := zM BK101.out 0
   have hcz25_0 : w17.cell? ⟨gb104, 0, none⟩ = some (.int .i64 0) := (zK BK104.out 0).trans rfl
   have hcz25_1 : w17.cell? ⟨gb104, 1, none⟩ = some (.int .i64 0) := (zK BK104.out 1).trans rfl
   have hfz25_0 := zM BK104.out 0
   have hfz25_1 := zM BK104.out 1
   go_wp2_with (first | ((with_reducible refine zT (f := 163) rfl ?_); refine qH (some 27) rfl rfl Try.func163 (by kernel_rfl) rfl #[.slice (some ad102) l0_0.length c0_0, .int .i64 ((zG (zE l0_0 a1) a2).f0)] rfl (by (try simp only [yiy, yjy, yky]); first | done | rfl | (simp only [yly, ymy]; rfl)) ?_; (with_reducible refine (ql.calls _ _ l0_0 ((zG (zE l0_0 a1) a2).f0) true _ ?side1 ?side2 A20.out).mono ?_); (case side1 => exact Kd.zl HR0_0.out (by repeat (first | (with_reducible first | exact HB.out | apply zC | apply zB | apply zD | refine zF ?_ GE101.out | refine zF ?_ GE104.out) | exact HB.out))); (case side2 => exact HC0_0.out); rintro e w' ⟨rfl, ⟨nd, rfl⟩⟩; refine ⟨_, rfl, ?_⟩) | (go_at_call 164; (with_reducible refine (Zw.calls ((zG (zE l0_0 a1) a2).f1) t106 _ A22.out).mono ?_); rintro e w' ⟨rfl, ⟨nd, rfl⟩⟩))
   go_meet
   case rel => exact ⟨_, (!t106), (by first | rfl | (simp; done) | (simp [*]; done)), H', ⟨by first | omega | exact yqy _⟩, ⟨by (with_reducible repeat (first | refine zI ?_ _ | refine zJ ?_ | refine zH ?_ _)); refine qZ ?_ NB101_104.out _; (with_reducible repeat (first | refine zI ?_ _ | refine zJ ?_ | refine zH ?_ _)); refine qZ ?_ NB101_104.out _; (with_reducible repeat (first | refine zI ?_ _ | refine zJ ?_ | refine zH ?_ _)); exact BK101.out⟩, ⟨by (with_reducible repeat (first | refine zI ?_ _ | refine zJ ?_ | refine zH ?_ _)); refine qg (cs := #[.int .i64 ((zG (zE l0_0 a1) a2).f0), .int .i64 0]) ?_ 1 _ rfl; (with_reducible repeat (first | refine zI ?_ _ | refine zJ ?_ | refine zH ?_ _)); refine qg (cs := #[.int .i64 0, .int .i64 0]) ?_ 0 _ rfl; (with_reducible repeat (first | refine zI ?_ _ | refine zJ ?_ | refine zH ?_ _)); exact BK104.out⟩, ⟨by repeat (first | (with_reducible first | exact HB.out | apply zC | apply zB | apply zD | refine zF ?_ GE101.out | refine zF ?_ GE104.out) | exact HB.out)⟩⟩
  case rest =>
   clear HC14
   try clear c1
   try clear p1
   try clear q1
   try clear hx1
   try clear c2
   try clear p2
   try clear c4
   try clear c4b0
   try clear c5
   try clear c5b0
   try clear c6
   try clear c6b0
   try clear c7
   try clear c7b0
   try clear c8
   try clear c8b0
   try clear c8b1
   try clear c10
   try clear p10
   try clear q10
   try clear hx10
   try clear c12
   try clear c14
   try clear c16
   try clear c18
   try clear c21
   try clear c23
   try clear c26
   try clear hcz10_0
   try clear hcz13_0
   try clear hcz13_1
   try clear hcz16_0
   try clear hcz19_0
   try clear hcz19_1
   try clear hcz24_0
   try clear hcz25_0
   try clear hcz25_1
   try clear hcz27_0
   try clear hcz28_0
   try clear hcz28_1
   try clear hfz10_0
   try clear hfz13_0
   try clear hfz13_1
   try clear hfz16_0
   try clear hfz19_0
   try clear hfz19_1
   try clear hfz24_0
   try clear hfz25_0
   try clear hfz25_1
   try clear hfz27_0
   try clear hfz28_0
   try clear hfz28_1
   try clear hx102_0
   try clear hx103_0
   try clear hx103_1
   try clear p102
   try clear p103
   try clear q102
   try clear q103
   obtain ⟨kq, x34_13, rfl, HA, HJ13, BK101, BK104, HB⟩ := hcut
   cases kq with
   | zero => exact absurd HA.out (by simp [zS.j0])
   | succ kj13 =>
    have H := HA.out
    clear HA
    simp only [zS.j0] at H
    by_cases c29 : x34_13 = true
    next =>
     subst c29
     have H1 : (some false) = some r := by rw [if_pos rfl] at H; exact H
     clear H
     have H := H1
     clear H1
     obtain rfl := yey H
     go_wp2
     go_ret
     exact ⟨by first | rfl | (simp [zQ, zR] <;> rfl) | (simp [*, zQ, zR] <;> rfl), by repeat (first | (with_reducible first | exact HB.out | apply zC | apply zB | apply zD | refine zF ?_ GE101.out | refine zF ?_ GE104.out) | exact HB.out)⟩
    next =>
     replace c29 := Bool.eq_false_iff.mpr c29
     subst c29
     have H1 : ((ZJ.f ((zG (zE l0_0 a1) a2).f0) ((zG (zE l0_0 a1) a2).f1) a2).bind fun t107 => (if 0 ≤ ((zG (zE l0_0 a1) a2).f0) then (if ((zG (zE l0_0 a1) a2).f0) < (l0_0.length : Int) then (if 0 ≤ t107 then (if t107 < ((zE l0_0 ((zG (zE l0_0 a1) a2).f0)).length : Int) then ((qz.f ((zG (zE l0_0 a1) a2).f0) ((zG (zE l0_0 a1) a2).f1) a1).bind fun bt110 => (if (((zG (zE l0_0 ((zG (zE l0_0 a1) a2).f0)) t107).f0) == bt110.1 && (((zG (zE l0_0 ((zG (zE l0_0 a1) a2).f0)) t107).f1) == bt110.2)) = true then (if ((zG (zE l0_0 a1) a2).f0) = a1 then (some (t107 != a2)) else (some true)) else (some false))) else (none)) else (none)) else (none)) else (none))) = some r := by rw [if_neg (show ¬ (false = true) by decide)] at H; exact H
     clear H
     have H := H1
     clear H1
     replace H := ydy.mp H
     obtain ⟨t107, A300, H⟩ := H
     replace H : (if 0 ≤ ((zG (zE l0_0 a1) a2).f0) then (if ((zG (zE l0_0 a1) a2).f0) < (l0_0.length : Int) then (if 0 ≤ t107 then (if t107 < ((zE l0_0 ((zG (zE l0_0 a1) a2).f0)).length : Int) then ((qz.f ((zG (zE l0_0 a1) a2).f0) ((zG (zE l0_0 a1) a2).f1) a1).bind fun bt110 => (if (((zG (zE l0_0 ((zG (zE l0_0 a1) a2).f0)) t107).f0) == bt110.1 && (((zG (zE l0_0 ((zG (zE l0_0 a1) a2).f0)) t107).f1) == bt110.2)) = true then (if ((zG (zE l0_0 a1) a2).f0) = a1 then (some (t107 != a2)) else (some true)) else (some false))) else (none)) else (none)) else (none)) else (none)) = some r := H
     have A30 := zA.mk A300
     clear A300
     by_cases c31 : 0 ≤ ((zG (zE l0_0 a1) a2).f0)
     rotate_left
     next =>
      rw [if_neg c31] at H
      exact absurd H (by simp)
     rw [if_pos c31] at H
     have c31b0 : decide (0 ≤ ((zG (zE l0_0 a1) a2).f0)) = true := ygy c31
     clear c31
     by_cases c32 : ((zG (zE l0_0 a1) a2).f0) < (l0_0.length : Int)
     rotate_left
     next =>
      rw [if_neg c32] at H
      exact absurd H (by simp)
     rw [if_pos c32] at H
     have c32b0 : decide (((zG (zE l0_0 a1) a2).f0) < (l0_0.length : Int)) = true := ygy c32
     clear c32
     by_cases c33 : 0 ≤ t107
     rotate_left
     next =>
      rw [if_neg c33] at H
      exact absurd H (by simp)
     rw [if_pos c33] at H
     have c33b0 : decide (0 ≤ t107) = true := ygy c33
     clear c33
     by_cases c34 : t107 < ((zE l0_0 ((zG (zE l0_0 a1) a2).f0)).length : Int)
     rotate_left
     next =>
      rw [if_neg c34] at H
      exact absurd H (by simp)
     rw [if_pos c34] at H
     have c34b0 : decide (t107 < ((zE l0_0 ((zG (zE l0_0 a1) a2).f0)).length : Int)) = true := ygy c34
     clear c34
     replace H := ydy.mp H
     obtain ⟨⟨t110, t111⟩, A350, H⟩ := H
     replace H : (if (((zG (zE l0_0 ((zG (zE l0_0 a1) a2).f0)) t107).f0) == t110 && (((zG (zE l0_0 ((zG (zE l0_0 a1) a2).f0)) t107).f1) == t111)) = true then (if ((zG (zE l0_0 a1) a2).f0) = a1 then (some (t107 != a2)) else (some true)) else (some false)) = some r := H
     have A35 := zA.mk A350
     clear A350
     by_cases c36 : (((zG (zE l0_0 ((zG (zE l0_0 a1) a2).f0)) t107).f0) == t110 && (((zG (zE l0_0 ((zG (zE l0_0 a1) a2).f0)) t107).f1) == t111)) = true
     rotate_left
     next =>
      rw [if_neg c36] at H
      have c36b0 : (((zG (zE l0_0 ((zG (zE l0_0 a1) a2).f0)) t107).f0) == t110 && (((zG (zE l0_0 ((zG (zE l0_0 a1) a2).f0)) t107).f1) == t111)) = false := by simpa using c36
      (try (have c36b1 : decide (((zG (zE l0_0 ((zG (zE l0_0 a1) a2).f0)) t107).f0) = t110 && (((zG (zE l0_0 ((zG (zE l0_0 a1) a2).f0)) t107).f1) == t111)) = false := by simpa using c36))
      (try (have c36b2 : (((zG (zE l0_0 ((zG (zE l0_0 a1) a2).f0)) t107).f0) == t110 && (((zG (zE l0_0 ((zG (zE l0_0 a1) a2).f0)) t107).f1) == t111)) = false := by simpa using c36))
      (try (have c36b3 : ¬ (((zG (zE l0_0 ((zG (zE l0_0 a1) a2).f0)) t107).f0) = t110 && (((zG (zE l0_0 ((zG (zE l0_0 a1) a2).f0)) t107).f1) == t111)) := by simpa using c36))
      clear c36
      obtain rfl := yey H
      have hnb48 := NB104_101.out
      have hnc48 := NB101_104.out
      have hcz49_0 : wc.cell? ⟨gb104, 0, none⟩ = some (.int .i64 ((zG (zE l0_0 a1) a2).f0)) := (zK BK104.out 0).trans rfl
      have hcz49_1 : wc.cell? ⟨gb104, 1, none⟩ = some (.int .i64 ((zG (zE l0_0 a1) a2).f1)) := (zK BK104.out 1).trans rfl
      have hfz49_0 := zM BK104.out 0
      have hfz49_1 := zM BK104.out 1
      try go_wp2_with (first | ((with_reducible refine zT (f := 165) rfl ?_); refine qH (some 37) rfl rfl Try.func165 (by kernel_rfl) rfl #[.agg #[.int .i64 ((zG (zE l0_0 a1) a2).f0), .int .i64 ((zG (zE l0_0 a1) a2).f1)], .int .i64 a2] rfl (by (try simp only [yiy, yjy, yky]); first | done | rfl | (simp only [yly, ymy]; rfl)) ?_; (with_reducible refine (ZJ.calls ((zG (zE l0_0 a1) a2).f0) ((zG (zE l0_0 a1) a2).f1) a2 t107 _ A30.out).mono ?_); rintro e w50 ⟨rfl, hb⟩; refine ⟨_, rfl, ?_⟩; have n0_ := zA.mk (zP (g := gb101) (o := .cells #[.slice (some ad102) l0_0.length c0_0] 30 (0, 0)) (by (with_reducible repeat (first | refine zI ?_ _ | refine zJ ?_ | refine zH ?_ _)); exact BK101.out) hb); have n1_ := zA.mk (zP (g := gb104) (o := .cells #[.int .i64 ((zG (zE l0_0 a1) a2).f0), .int .i64 ((zG (zE l0_0 a1) a2).f1)] 115 (0, 0)) (by (with_reducible repeat (first | refine zI ?_ _ | refine zJ ?_ | refine zH ?_ _)); exact BK104.out) hb); have n2_ := zA.mk (zN (by repeat (first | (with_reducible first | exact HB.out | apply zC | apply zB | apply zD | refine zF ?_ GE101.out | refine zF ?_ GE104.out) | exact HB.out)) hb); clear BK101; clear BK104; clear HB; have BK101 := n0_; have BK104 := n1_; have HB := n2_; clear n0_ n1_ n2_; (try clear hb); (try clear hb2); (try clear hk); (try clear hi)))
      have n0_ := zA.mk (zJ BK101.out)
      have n1_ := zA.mk (zJ BK104.out)
      have n2_ := zA.mk (zD HB.out)
      clear BK101
      clear BK104
      clear HB
      have BK101 := n0_
      have BK104 := n1_
      have HB := n2_
      clear n0_ n1_ n2_
      have p108 : 0 ≤ (((zG (zE l0_0 a1) a2).f0) : Int) := of_decide_eq_true (by first | (with_reducible assumption) | assumption)
      have q108 : ((zG (zE l0_0 a1) a2).f0) < (l0_0.length : Int) := of_decide_eq_true (by first | (with_reducible assumption) | assumption)
      obtain ⟨ad108, A108_0, c108_0, e108, hx108_0, hl108_0, hi108_0⟩ := ZP HR0_0.out ((zG (zE l0_0 a1) a2).f0) p108 q108
      have hw108_0 := hx108_0
      obtain rfl : ad102 = ad108 := (by injection e108)
      replace hx108_0 := (HB.out.cell (ypy w _ hx108_0)).trans hx108_0
      have HR108_0 := zA.mk hi108_0
      have HC108_0 := zA.mk hl108_0
      clear hi108_0 hl108_0
      replace p108 := eq_true p108
      replace q108 := eq_true q108
      have p109 : 0 ≤ (t107 : Int) := of_decide_eq_true (by first | (with_reducible assumption) | assumption)
      have q109 : t107 < ((zE l0_0 ((zG (zE l0_0 a1) a2).f0)).length : Int) := of_decide_eq_true (by first | (with_reducible assumption) | assumption)
      obtain ⟨ad109, e109, hx109_0, hx109_1⟩ := Zs HR108_0.out t107 p109 q109
      have hw109_1 := hx109_1
      have hw109_0 := hx109_0
      cases e109
      replace hx109_0 := (HB.out.cell (ypy w _ hx109_0)).trans hx109_0
      replace hx109_1 := (HB.out.cell (ypy w _ hx109_1)).trans hx109_1
      replace p109 := eq_true p109
      replace q109 := eq_true q109
      refine QN (n := 25) (S := fun w' => w'.cell? ⟨gb101, 0, none⟩ = some (.slice (some ad102) l0_0.length c0_0) ∧ w'.cell? ⟨gb104, 0, none⟩ = some (.int .i64 ((zG (zE l0_0 a1) a2).f0)) ∧ w'.cell? ⟨gb104, 1, none⟩ = some (.int .i64 ((zG (zE l0_0 a1) a2).f1)) ∧ w'.cell? (ad102.add (((zG (zE l0_0 a1) a2).f0)).toNat) = some (.slice (some ad109) (zE l0_0 ((zG (zE l0_0 a1) a2).f0)).length c108_0) ∧ w'.cell? (ad109.add ((t107).toNat * 2)) = some (.int .i64 ((zG (zE l0_0 ((zG (zE l0_0 a1) a2).f0)) t107).f0)) ∧ w'.cell? ⟨(ad109.add ((t107).toNat * 2)).block, (ad109.add ((t107).toNat * 2)).off + 1, none⟩ = some (.int .i64 ((zG (zE l0_0 ((zG (zE l0_0 a1) a2).f0)) t107).f1))) (ds := []) #[false, false, false, false, false, false, false, false, false, false, false, false, false, false, false, false, false, false, false, false, false, false, false, false, false] (by kernel_rfl) rfl rfl ⟨(zK BK101.out 0).trans rfl, (zK BK104.out 0).trans rfl, (zK BK104.out 1).trans rfl, ((HB.out.cell (ypy w _ hw108_0)).trans hw108_0), ((HB.out.cell (ypy w _ hw109_0)).trans hw109_0), ((HB.out.cell (ypy w _ hw109_1)).trans hw109_1)⟩ (fun hHeld => ?_); refine Zr zS.tab7 zS.zGZ (fun HT_ HW_ => ?_)
      generalize w50.drew = w51 at BK101 BK104 HB HR108_0 hx108_0 hx109_0 hx109_1 hHeld ⊢
      refine zp (i := 0) (N := some 38) (v := ?_) (a' := ?_) #[true, false, false, false, false, false, false, false, false, false, false, false, false, false, false, false, false, false, false, false, false, false, false, false, false] rfl rfl (zk HT_.out (by kernel_rfl)) (fun _ _ _ h => h) (Or.inl ⟨by rfl, ?_⟩) ?_ ?_
      rotate_left
      next =>
       intro w'
       go_simp
       with_reducible rfl
      rotate_left
      next =>
       simp only [Act.put, yay, yby, ycy, zY, zZ]
       rfl
      refine zp (i := 2) (N := some 40) (v := ?_) (a' := ?_) #[true, false, true, false, false, false, false, false, false, false, false, false, false, false, false, false, false, false, false, false, false, false, false, false, false] rfl rfl (zk HT_.out (by kernel_rfl)) (fun _ _ _ h => h) (Or.inl ⟨by rfl, ?_⟩) ?_ ?_
      rotate_left
      next =>
       intro w'
       go_simp
       with_reducible rfl
      rotate_left
      next =>
       simp only [Act.put, yay, yby, ycy, zY, zZ]
       rfl
      refine zp (i := 6) (N := some 44) (v := ?_) (a' := ?_) #[true, false, true, false, false, false, true, false, false, false, false, false, false, false, false, false, false, false, false, false, false, false, false, false, false] rfl rfl (zk HT_.out (by kernel_rfl)) (fun _ _ _ h => h) (Or.inl ⟨by rfl, ?_⟩) ?_ ?_
      rotate_left
      next =>
       intro w'
       go_simp
       with_reducible rfl
      rotate_left
      next =>
       simp only [Act.put, yay, yby, ycy, zY, zZ]
       rfl
      refine zp (i := 10) (N := some 48) (v := ?_) (a' := ?_) #[true, false, true, false, false, false, true, false, false, false, true, false, false, false, false, false, false, false, false, false, false, false, false, false, false] rfl rfl (zk HT_.out (by kernel_rfl)) (fun _ _ _ h => h) (Or.inl ⟨by rfl, ?_⟩) ?_ ?_
      rotate_left
      next =>
       intro w'
       go_simp
       with_reducible rfl
      rotate_left
      next =>
       simp only [Act.put, yay, yby, ycy, zY, zZ]
       rfl
      refine ZT (i := 1) (N := some 39) (v := ?_) (a' := ?_) #[true, true, true, false, false, false, true, false, false, false, true, false, false, false, false, false, false, false, false, false, false, false, false, false, false] rfl rfl (qp HT_.out HW_.out (by kernel_rfl)) (fun _ _ _ h => h) (Or.inl ⟨by rfl, ?_⟩) hHeld ?_ ?_
      rotate_left
      next =>
       rintro w' ⟨s0, s1, s2, s3, s4, s5⟩
       go_simp
       with_reducible rfl
      rotate_left
      next =>
       simp only [Act.put, yay, yby, ycy, zY, zZ]
       rfl
      refine ZT (i := 3) (N := some 41) (v := ?_) (a' := ?_) #[true, true, true, true, false, false, true, false, false, false, true, false, false, false, false, false, false, false, false, false, false, false, false, false, false] rfl rfl (qp HT_.out HW_.out (by kernel_rfl)) (fun _ _ _ h => h) (Or.inl ⟨by rfl, ?_⟩) hHeld ?_ ?_
      rotate_left
      next =>
       rintro w' ⟨s0, s1, s2, s3, s4, s5⟩
       go_simp
       with_reducible rfl
      rotate_left
      next =>
       simp only [Act.put, yay, yby, ycy, zY, zZ]
       rfl
      refine zp (i := 4) (N := some 42) (v := ?_) (a' := ?_) #[true, true, true, true, true, false, true, false, false, false, true, false, false, false, false, false, false, false, false, false, false, false, false, false, false] rfl rfl (zk HT_.out (by kernel_rfl)) (fun _ _ _ h => h) (Or.inl ⟨by rfl, ?_⟩) ?_ ?_
      rotate_left
      next =>
       intro w'
       go_simp
       with_reducible rfl
      rotate_left
      next =>
       simp only [Act.put, yay, yby, ycy, zY, zZ]
       rfl
      refine ZT (i := 5) (N := some 43) (v := ?_) (a' := ?_) #[true, true, true, true, true, true, true, false, false, false, true, false, false, false, false, false, false, false, false, false, false, false, false, false, false] rfl rfl (qp HT_.out HW_.out (by kernel_rfl)) (fun _ _ _ h => h) (Or.inl ⟨by rfl, ?_⟩) hHeld ?_ ?_
      rotate_left
      next =>
       rintro w' ⟨s0, s1, s2, s3, s4, s5⟩
       go_simp
       with_reducible rfl
      rotate_left
      next =>
       simp only [Act.put, yay, yby, ycy, zY, zZ]
       rfl
      refine zp (i := 7) (N := some 45) (v := ?_) (a' := ?_) #[true, true, true, true, true, true, true, true, false, false, true, false, false, false, false, false, false, false, false, false, false, false, false, false, false] rfl rfl (zk HT_.out (by kernel_rfl)) (fun _ _ _ h => h) (Or.inl ⟨by rfl, ?_⟩) ?_ ?_
      rotate_left
      next =>
       intro w'
       go_simp
       with_reducible rfl
      rotate_left
      next =>
       simp only [Act.put, yay, yby, ycy, zY, zZ]
       rfl
      refine ZT (i := 8) (N := some 46) (v := ?_) (a' := ?_) #[true, true, true, true, true, true, true, true, true, false, true, false, false, false, false, false, false, false, false, false, false, false, false, false, false] rfl rfl (qp HT_.out HW_.out (by kernel_rfl)) (fun _ _ _ h => h) (Or.inl ⟨by rfl, ?_⟩) hHeld ?_ ?_
      rotate_left
      next =>
       rintro w' ⟨s0, s1, s2, s3, s4, s5⟩
       go_simp
       with_reducible rfl
      rotate_left
      next =>
       simp only [Act.put, yay, yby, ycy, zY, zZ]
       rfl
      refine ZT (i := 9) (N := some 47) (v := ?_) (a' := ?_) #[true, true, true, true, true, true, true, true, true, true, true, false, false, false, false, false, false, false, false, false, false, false, false, false, false] rfl rfl (qp HT_.out HW_.out (by kernel_rfl)) (fun _ _ _ h => h) (Or.inl ⟨by rfl, ?_⟩) hHeld ?_ ?_
      rotate_left
      next =>
       rintro w' ⟨s0, s1, s2, s3, s4, s5⟩
       go_simp
       with_reducible rfl
      rotate_left
      next =>
       simp only [Act.put, yay, yby, ycy, zY, zZ]
       rfl
      refine zAb (i := 11) (N := some 49) #[true, true, true, true, true, true, true, true, true, true, true, true, false, false, false, false, false, false, false, false, false, false, false, false, false] rfl rfl (QK HT_.out (by kernel_rfl)) (by decide) (fun K hK => ?_)
      refine JU Try.func166 (by kernel_rfl) rfl #[.agg #[.int .i64 ((zG (zE l0_0 a1) a2).f0), .int .i64 ((zG (zE l0_0 a1) a2).f1)], .int .i64 a1] (by rfl) rfl rfl (by (try simp only [yiy, yjy, yky]); first | done | rfl | (simp only [yly, ymy]; rfl)) ?_
      with_reducible refine (qz.calls ((zG (zE l0_0 a1) a2).f0) ((zG (zE l0_0 a1) a2).f1) a1 t110 t111 _ A35.out).mono ?_
      rintro e w52 ⟨rfl, hb⟩
      refine ⟨_, rfl, ?_⟩
      have n0_ := zA.mk (zP (g := gb101) (o := .cells #[.slice (some ad102) l0_0.length c0_0] 30 (0, 0)) (by (with_reducible repeat (first | refine zI ?_ _ | refine zJ ?_ | refine zH ?_ _)); exact BK101.out) hb)
      have n1_ := zA.mk (zP (g := gb104) (o := .cells #[.int .i64 ((zG (zE l0_0 a1) a2).f0), .int .i64 ((zG (zE l0_0 a1) a2).f1)] 115 (0, 0)) (by (with_reducible repeat (first | refine zI ?_ _ | refine zJ ?_ | refine zH ?_ _)); exact BK104.out) hb)
      have n2_ := zA.mk (zN (by repeat (first | (with_reducible first | exact HB.out | apply zC | apply zB | apply zD | refine zF ?_ GE101.out | refine zF ?_ GE104.out) | exact HB.out)) hb)
      clear BK101
      clear BK104
      clear HB
      have BK101 := n0_
      have BK104 := n1_
      have HB := n2_
      clear n0_ n1_ n2_
      (try clear hb)
      (try clear hb2)
      (try clear hk)
      (try clear hi)
      refine hK.out _ _ ⟨(zK BK101.out 0).trans rfl, (zK BK104.out 0).trans rfl, (zK BK104.out 1).trans rfl, ((HB.out.cell (ypy w _ hw108_0)).trans hw108_0), ((HB.out.cell (ypy w _ hw109_0)).trans hw109_0), ((HB.out.cell (ypy w _ hw109_1)).trans hw109_1)⟩ (fun hHeld => ?_)
      clear hK K
      refine QQ (a' := ?_) ?_ ?_
      rotate_left
      next =>
       show Act.put _ (some 49) _ = _
       simp only [Act.put, yay, yby, ycy, zY, zZ]
       rfl
      refine zp (i := 12) (N := some 50) (v := ?_) (a' := ?_) #[true, true, true, true, true, true, true, true, true, true, true, true, true, false, false, false, false, false, false, false, false, false, false, false, false] rfl rfl (zk HT_.out (by kernel_rfl)) (fun _ _ _ h => h) (Or.inl ⟨by rfl, ?_⟩) ?_ ?_
      rotate_left
      next =>
       intro w'
       go_simp
       with_reducible rfl
      rotate_left
      next =>
       simp only [Act.put, yay, yby, ycy, zY, zZ]
       rfl
      refine zp (i := 13) (N := some 51) (v := ?_) (a' := ?_) #[true, true, true, true, true, true, true, true, true, true, true, true, true, true, false, false, false, false, false, false, false, false, false, false, false] rfl rfl (zk HT_.out (by kernel_rfl)) (fun _ _ _ h => h) (Or.inl ⟨by rfl, ?_⟩) ?_ ?_
      rotate_left
      next =>
       intro w'
       go_simp
       with_reducible rfl
      rotate_left
      next =>
       simp only [Act.put, yay, yby, ycy, zY, zZ]
       rfl
      refine zp (i := 14) (N := some 52) (v := undef) (a' := ?_) #[true, true, true, true, true, true, true, true, true, true, true, true, true, true, true, false, false, false, false, false, false, false, false, false, false] rfl rfl (zk HT_.out (by kernel_rfl)) (fun _ _ _ h => h) (Or.inr ⟨by rfl, rfl⟩) ?_ ?_
      rotate_left
      next =>
       simp only [Act.put, yay, yby, ycy, zY, zZ]
       rfl
      refine zp (i := 15) (N := some 53) (v := undef) (a' := ?_) #[true, true, true, true, true, true, true, true, true, true, true, true, true, true, true, true, false, false, false, false, false, false, false, false, false] rfl rfl (zk HT_.out (by kernel_rfl)) (fun _ _ _ h => h) (Or.inr ⟨by rfl, rfl⟩) ?_ ?_
      rotate_left
      next =>
       simp only [Act.put, yay, yby, ycy, zY, zZ]
       rfl
      refine zp (i := 16) (N := some 54) (v := undef) (a' := ?_) #[true, true, true, true, true, true, true, true, true, true, true, true, true, true, true, true, true, false, false, false, false, false, false, false, false] rfl rfl (zk HT_.out (by kernel_rfl)) (fun _ _ _ h => h) (Or.inr ⟨by rfl, rfl⟩) ?_ ?_
      rotate_left
      next =>
       simp only [Act.put, yay, yby, ycy, zY, zZ]
       rfl
      refine zp (i := 17) (N := some 55) (v := undef) (a' := ?_) #[true, true, true, true, true, true, true, true, true, true, true, true, true, true, true, true, true, true, false, false, false, false, false, false, false] rfl rfl (zk HT_.out (by kernel_rfl)) (fun _ _ _ h => h) (Or.inr ⟨by rfl, rfl⟩) ?_ ?_
      rotate_left
      next =>
       simp only [Act.put, yay, yby, ycy, zY, zZ]
       rfl
      refine zp (i := 18) (N := some 56) (v := undef) (a' := ?_) #[true, true, true, true, true, true, true, true, true, true, true, true, true, true, true, true, true, true, true, false, false, false, false, false, false] rfl rfl (zk HT_.out (by kernel_rfl)) (fun _ _ _ h => h) (Or.inr ⟨by rfl, rfl⟩) ?_ ?_
      rotate_left
      next =>
       simp only [Act.put, yay, yby, ycy, zY, zZ]
       rfl
      refine zp (i := 19) (N := some 57) (v := undef) (a' := ?_) #[true, true, true, true, true, true, true, true, true, true, true, true, true, true, true, true, true, true, true, true, false, false, false, false, false] rfl rfl (zk HT_.out (by kernel_rfl)) (fun _ _ _ h => h) (Or.inr ⟨by rfl, rfl⟩) ?_ ?_
      rotate_left
      next =>
       simp only [Act.put, yay, yby, ycy, zY, zZ]
       rfl
      refine zp (i := 20) (N := some 58) (v := undef) (a' := ?_) #[true, true, true, true, true, true, true, true, true, true, true, true, true, true, true, true, true, true, true, true, true, false, false, false, false] rfl rfl (zk HT_.out (by kernel_rfl)) (fun _ _ _ h => h) (Or.inr ⟨by rfl, rfl⟩) ?_ ?_
      rotate_left
      next =>
       simp only [Act.put, yay, yby, ycy, zY, zZ]
       rfl
      refine zp (i := 21) (N := some 59) (v := undef) (a' := ?_) #[true, true, true, true, true, true, true, true, true, true, true, true, true, true, true, true, true, true, true, true, true, true, false, false, false] rfl rfl (zk HT_.out (by kernel_rfl)) (fun _ _ _ h => h) (Or.inr ⟨by rfl, rfl⟩) ?_ ?_
      rotate_left
      next =>
       simp only [Act.put, yay, yby, ycy, zY, zZ]
       rfl
      refine zp (i := 22) (N := some 60) (v := undef) (a' := ?_) #[true, true, true, true, true, true, true, true, true, true, true, true, true, true, true, true, true, true, true, true, true, true, true, false, false] rfl rfl (zk HT_.out (by kernel_rfl)) (fun _ _ _ h => h) (Or.inr ⟨by rfl, rfl⟩) ?_ ?_
      rotate_left
      next =>
       simp only [Act.put, yay, yby, ycy, zY, zZ]
       rfl
      refine zp (i := 23) (N := some 61) (v := ?_) (a' := ?_) #[true, true, true, true, true, true, true, true, true, true, true, true, true, true, true, true, true, true, true, true, true, true, true, true, false] rfl rfl (zk HT_.out (by kernel_rfl)) (fun _ _ _ h => h) (Or.inl ⟨by rfl, ?_⟩) ?_ ?_
      rotate_left
      next =>
       intro w'
       go_simp
       with_reducible rfl
      rotate_left
      next =>
       simp only [Act.put, yay, yby, ycy, zY, zZ]
       rfl
      refine zp (i := 24) (N := some 6) (v := ?_) (a' := ?_) #[true, true, true, true, true, true, true, true, true, true, true, true, true, true, true, true, true, true, true, true, true, true, true, true, true] rfl rfl (zk HT_.out (by kernel_rfl)) (fun _ _ _ h => h) (Or.inl ⟨by rfl, ?_⟩) ?_ ?_
      rotate_left
      next =>
       intro w'
       go_simp
       with_reducible rfl
      rotate_left
      next =>
       simp only [Act.put, yay, yby, ycy, zY, zZ]
       rfl
      refine JN (Qc HT_.out (by kernel_rfl)) ?_
      try go_wp2
      go_ret
      exact ⟨by first | rfl | (simp [zQ, zR] <;> rfl) | (simp [*, zQ, zR] <;> rfl), by repeat (first | (with_reducible first | exact HB.out | apply zC | apply zB | apply zD | refine zF ?_ GE101.out | refine zF ?_ GE104.out) | exact HB.out)⟩
     rw [if_pos c36] at H
     have c36b0 : (((zG (zE l0_0 ((zG (zE l0_0 a1) a2).f0)) t107).f0) == t110 && (((zG (zE l0_0 ((zG (zE l0_0 a1) a2).f0)) t107).f1) == t111)) = true := c36
     (try (have c36b1 : decide (((zG (zE l0_0 ((zG (zE l0_0 a1) a2).f0)) t107).f0) = t110 && (((zG (zE l0_0 ((zG (zE l0_0 a1) a2).f0)) t107).f1) == t111)) = true := by simpa using c36))
     (try (have c36b2 : (((zG (zE l0_0 ((zG (zE l0_0 a1) a2).f0)) t107).f0) == t110 && (((zG (zE l0_0 ((zG (zE l0_0 a1) a2).f0)) t107).f1) == t111)) = true := by simpa using c36))
     clear c36
     by_cases c37 : ((zG (zE l0_0 a1) a2).f0) = a1
     rotate_left
     next =>
      rw [if_neg c37] at H
      have c37b0 : (((zG (zE l0_0 a1) a2).f0) == a1) = false := beq_eq_false_iff_ne.mpr c37
      have c37b1 : (((zG (zE l0_0 a1) a2).f0) != a1) = true := bne_iff_ne.mpr c37
      obtain rfl := yey H
      have hnb43 := NB104_101.out
      have hnc43 := NB101_104.out
      have hcz44_0 : wc.cell? ⟨gb104, 0, none⟩ = some (.int .i64 ((zG (zE l0_0 a1) a2).f0)) := (zK BK104.out 0).trans rfl
      have hcz44_1 : wc.cell? ⟨gb104, 1, none⟩ = some (.int .i64 ((zG (zE l0_0 a1) a2).f1)) := (zK BK104.out 1).trans rfl
      have hfz44_0 := zM BK104.out 0
      have hfz44_1 := zM BK104.out 1
      try go_wp2_with (first | ((with_reducible refine zT (f := 165) rfl ?_); refine qH (some 37) rfl rfl Try.func165 (by kernel_rfl) rfl #[.agg #[.int .i64 ((zG (zE l0_0 a1) a2).f0), .int .i64 ((zG (zE l0_0 a1) a2).f1)], .int .i64 a2] rfl (by (try simp only [yiy, yjy, yky]); first | done | rfl | (simp only [yly, ymy]; rfl)) ?_; (with_reducible refine (ZJ.calls ((zG (zE l0_0 a1) a2).f0) ((zG (zE l0_0 a1) a2).f1) a2 t107 _ A30.out).mono ?_); rintro e w45 ⟨rfl, hb⟩; refine ⟨_, rfl, ?_⟩; have n0_ := zA.mk (zP (g := gb101) (o := .cells #[.slice (some ad102) l0_0.length c0_0] 30 (0, 0)) (by (with_reducible repeat (first | refine zI ?_ _ | refine zJ ?_ | refine zH ?_ _)); exact BK101.out) hb); have n1_ := zA.mk (zP (g := gb104) (o := .cells #[.int .i64 ((zG (zE l0_0 a1) a2).f0), .int .i64 ((zG (zE l0_0 a1) a2).f1)] 115 (0, 0)) (by (with_reducible repeat (first | refine zI ?_ _ | refine zJ ?_ | refine zH ?_ _)); exact BK104.out) hb); have n2_ := zA.mk (zN (by repeat (first | (with_reducible first | exact HB.out | apply zC | apply zB | apply zD | refine zF ?_ GE101.out | refine zF ?_ GE104.out) | exact HB.out)) hb); clear BK101; clear BK104; clear HB; have BK101 := n0_; have BK104 := n1_; have HB := n2_; clear n0_ n1_ n2_; (try clear hb); (try clear hb2); (try clear hk); (try clear hi)))
      have n0_ := zA.mk (zJ BK101.out)
      have n1_ := zA.mk (zJ BK104.out)
      have n2_ := zA.mk (zD HB.out)
      clear BK101
      clear BK104
      clear HB
      have BK101 := n0_
      have BK104 := n1_
      have HB := n2_
      clear n0_ n1_ n2_
      have p108 : 0 ≤ (((zG (zE l0_0 a1) a2).f0) : Int) := of_decide_eq_true (by first | (with_reducible assumption) | assumption)
      have q108 : ((zG (zE l0_0 a1) a2).f0) < (l0_0.length : Int) := of_decide_eq_true (by first | (with_reducible assumption) | assumption)
      obtain ⟨ad108, A108_0, c108_0, e108, hx108_0, hl108_0, hi108_0⟩ := ZP HR0_0.out ((zG (zE l0_0 a1) a2).f0) p108 q108
      have hw108_0 := hx108_0
      obtain rfl : ad102 = ad108 := (by injection e108)
      replace hx108_0 := (HB.out.cell (ypy w _ hx108_0)).trans hx108_0
      have HR108_0 := zA.mk hi108_0
      have HC108_0 := zA.mk hl108_0
      clear hi108_0 hl108_0
      replace p108 := eq_true p108
      replace q108 := eq_true q108
      have p109 : 0 ≤ (t107 : Int) := of_decide_eq_true (by first | (with_reducible assumption) | assumption)
      have q109 : t107 < ((zE l0_0 ((zG (zE l0_0 a1) a2).f0)).length : Int) := of_decide_eq_true (by first | (with_reducible assumption) | assumption)
      obtain ⟨ad109, e109, hx109_0, hx109_1⟩ := Zs HR108_0.out t107 p109 q109
      have hw109_1 := hx109_1
      have hw109_0 := hx109_0
      cases e109
      replace hx109_0 := (HB.out.cell (ypy w _ hx109_0)).trans hx109_0
      replace hx109_1 := (HB.out.cell (ypy w _ hx109_1)).trans hx109_1
      replace p109 := eq_true p109
      replace q109 := eq_true q109
      refine QN (n := 25) (S := fun w' => w'.cell? ⟨gb101, 0, none⟩ = some (.slice (some ad102) l0_0.length c0_0) ∧ w'.cell? ⟨gb104, 0, none⟩ = some (.int .i64 ((zG (zE l0_0 a1) a2).f0)) ∧ w'.cell? ⟨gb104, 1, none⟩ = some (.int .i64 ((zG (zE l0_0 a1) a2).f1)) ∧ w'.cell? (ad102.add (((zG (zE l0_0 a1) a2).f0)).toNat) = some (.slice (some ad109) (zE l0_0 ((zG (zE l0_0 a1) a2).f0)).length c108_0) ∧ w'.cell? (ad109.add ((t107).toNat * 2)) = some (.int .i64 ((zG (zE l0_0 ((zG (zE l0_0 a1) a2).f0)) t107).f0)) ∧ w'.cell? ⟨(ad109.add ((t107).toNat * 2)).block, (ad109.add ((t107).toNat * 2)).off + 1, none⟩ = some (.int .i64 ((zG (zE l0_0 ((zG (zE l0_0 a1) a2).f0)) t107).f1))) (ds := []) #[false, false, false, false, false, false, false, false, false, false, false, false, false, false, false, false, false, false, false, false, false, false, false, false, false] (by kernel_rfl) rfl rfl ⟨(zK BK101.out 0).trans rfl, (zK BK104.out 0).trans rfl, (zK BK104.out 1).trans rfl, ((HB.out.cell (ypy w _ hw108_0)).trans hw108_0), ((HB.out.cell (ypy w _ hw109_0)).trans hw109_0), ((HB.out.cell (ypy w _ hw109_1)).trans hw109_1)⟩ (fun hHeld => ?_); refine Zr zS.tab7 zS.zGZ (fun HT_ HW_ => ?_)
      generalize w45.drew = w46 at BK101 BK104 HB HR108_0 hx108_0 hx109_0 hx109_1 hHeld ⊢
      refine zp (i := 0) (N := some 38) (v := ?_) (a' := ?_) #[true, false, false, false, false, false, false, false, false, false, false, false, false, false, false, false, false, false, false, false, false, false, false, false, false] rfl rfl (zk HT_.out (by kernel_rfl)) (fun _ _ _ h => h) (Or.inl ⟨by rfl, ?_⟩) ?_ ?_
      rotate_left
      next =>
       intro w'
       go_simp
       with_reducible rfl
      rotate_left
      next =>
       simp only [Act.put, yay, yby, ycy, zY, zZ]
       rfl
      refine zp (i := 2) (N := some 40) (v := ?_) (a' := ?_) #[true, false, true, false, false, false, false, false, false, false, false, false, false, false, false, false, false, false, false, false, false, false, false, false, false] rfl rfl (zk HT_.out (by kernel_rfl)) (fun _ _ _ h => h) (Or.inl ⟨by rfl, ?_⟩) ?_ ?_
      rotate_left
      next =>
       intro w'
       go_simp
       with_reducible rfl
      rotate_left
      next =>
       simp only [Act.put, yay, yby, ycy, zY, zZ]
       rfl
      refine zp (i := 6) (N := some 44) (v := ?_) (a' := ?_) #[true, false, true, false, false, false, true, false, false, false, false, false, false, false, false, false, false, false, false, false, false, false, false, false, false] rfl rfl (zk HT_.out (by kernel_rfl)) (fun _ _ _ h => h) (Or.inl ⟨by rfl, ?_⟩) ?_ ?_
      rotate_left
      next =>
       intro w'
       go_simp
       with_reducible rfl
      rotate_left
      next =>
       simp only [Act.put, yay, yby, ycy, zY, zZ]
       rfl
      refine zp (i := 10) (N := some 48) (v := ?_) (a' := ?_) #[true, false, true, false, false, false, true, false, false, false, true, false, false, false, false, false, false, false, false, false, false, false, false, false, false] rfl rfl (zk HT_.out (by kernel_rfl)) (fun _ _ _ h => h) (Or.inl ⟨by rfl, ?_⟩) ?_ ?_
      rotate_left
      next =>
       intro w'
       go_simp
       with_reducible rfl
      rotate_left
      next =>
       simp only [Act.put, yay, yby, ycy, zY, zZ]
       rfl
      refine ZT (i := 1) (N := some 39) (v := ?_) (a' := ?_) #[true, true, true, false, false, false, true, false, false, false, true, false, false, false, false, false, false, false, false, false, false, false, false, false, false] rfl rfl (qp HT_.out HW_.out (by kernel_rfl)) (fun _ _ _ h => h) (Or.inl ⟨by rfl, ?_⟩) hHeld ?_ ?_
      rotate_left
      next =>
       rintro w' ⟨s0, s1, s2, s3, s4, s5⟩
       go_simp
       with_reducible rfl
      rotate_left
      next =>
       simp only [Act.put, yay, yby, ycy, zY, zZ]
       rfl
      refine ZT (i := 3) (N := some 41) (v := ?_) (a' := ?_) #[true, true, true, true, false, false, true, false, false, false, true, false, false, false, false, false, false, false, false, false, false, false, false, false, false] rfl rfl (qp HT_.out HW_.out (by kernel_rfl)) (fun _ _ _ h => h) (Or.inl ⟨by rfl, ?_⟩) hHeld ?_ ?_
      rotate_left
      next =>
       rintro w' ⟨s0, s1, s2, s3, s4, s5⟩
       go_simp
       with_reducible rfl
      rotate_left
      next =>
       simp only [Act.put, yay, yby, ycy, zY, zZ]
       rfl
      refine zp (i := 4) (N := some 42) (v := ?_) (a' := ?_) #[true, true, true, true, true, false, true, false, false, false, true, false, false, false, false, false, false, false, false, false, false, false, false, false, false] rfl rfl (zk HT_.out (by kernel_rfl)) (fun _ _ _ h => h) (Or.inl ⟨by rfl, ?_⟩) ?_ ?_
      rotate_left
      next =>
       intro w'
       go_simp
       with_reducible rfl
      rotate_left
      next =>
       simp only [Act.put, yay, yby, ycy, zY, zZ]
       rfl
      refine ZT (i := 5) (N := some 43) (v := ?_) (a' := ?_) #[true, true, true, true, true, true, true, false, false, false, true, false, false, false, false, false, false, false, false, false, false, false, false, false, false] rfl rfl (qp HT_.out HW_.out (by kernel_rfl)) (fun _ _ _ h => h) (Or.inl ⟨by rfl, ?_⟩) hHeld ?_ ?_
      rotate_left
      next =>
       rintro w' ⟨s0, s1, s2, s3, s4, s5⟩
       go_simp
       with_reducible rfl
      rotate_left
      next =>
       simp only [Act.put, yay, yby, ycy, zY, zZ]
       rfl
      refine zp (i := 7) (N := some 45) (v := ?_) (a' := ?_) #[true, true, true, true, true, true, true, true, false, false, true, false, false, false, false, false, false, false, false, false, false, false, false, false, false] rfl rfl (zk HT_.out (by kernel_rfl)) (fun _ _ _ h => h) (Or.inl ⟨by rfl, ?_⟩) ?_ ?_
      rotate_left
      next =>
       intro w'
       go_simp
       with_reducible rfl
      rotate_left
      next =>
       simp only [Act.put, yay, yby, ycy, zY, zZ]
       rfl
      refine ZT (i := 8) (N := some 46) (v := ?_) (a' := ?_) #[true, true, true, true, true, true, true, true, true, false, true, false, false, false, false, false, false, false, false, false, false, false, false, false, false] rfl rfl (qp HT_.out HW_.out (by kernel_rfl)) (fun _ _ _ h => h) (Or.inl ⟨by rfl, ?_⟩) hHeld ?_ ?_
      rotate_left
      next =>
       rintro w' ⟨s0, s1, s2, s3, s4, s5⟩
       go_simp
       with_reducible rfl
      rotate_left
      next =>
       simp only [Act.put, yay, yby, ycy, zY, zZ]
       rfl
      refine ZT (i := 9) (N := some 47) (v := ?_) (a' := ?_) #[true, true, true, true, true, true, true, true, true, true, true, false, false, false, false, false, false, false, false, false, false, false, false, false, false] rfl rfl (qp HT_.out HW_.out (by kernel_rfl)) (fun _ _ _ h => h) (Or.inl ⟨by rfl, ?_⟩) hHeld ?_ ?_
      rotate_left
      next =>
       rintro w' ⟨s0, s1, s2, s3, s4, s5⟩
       go_simp
       with_reducible rfl
      rotate_left
      next =>
       simp only [Act.put, yay, yby, ycy, zY, zZ]
       rfl
      refine zAb (i := 11) (N := some 49) #[true, true, true, true, true, true, true, true, true, true, true, true, false, false, false, false, false, false, false, false, false, false, false, false, false] rfl rfl (QK HT_.out (by kernel_rfl)) (by decide) (fun K hK => ?_)
      refine JU Try.func166 (by kernel_rfl) rfl #[.agg #[.int .i64 ((zG (zE l0_0 a1) a2).f0), .int .i64 ((zG (zE l0_0 a1) a2).f1)], .int .i64 a1] (by rfl) rfl rfl (by (try simp only [yiy, yjy, yky]); first | done | rfl | (simp only [yly, ymy]; rfl)) ?_
      with_reducible refine (qz.calls ((zG (zE l0_0 a1) a2).f0) ((zG (zE l0_0 a1) a2).f1) a1 t110 t111 _ A35.out).mono ?_
      rintro e w47 ⟨rfl, hb⟩
      refine ⟨_, rfl, ?_⟩
      have n0_ := zA.mk (zP (g := gb101) (o := .cells #[.slice (some ad102) l0_0.length c0_0] 30 (0, 0)) (by (with_reducible repeat (first | refine zI ?_ _ | refine zJ ?_ | refine zH ?_ _)); exact BK101.out) hb)
      have n1_ := zA.mk (zP (g := gb104) (o := .cells #[.int .i64 ((zG (zE l0_0 a1) a2).f0), .int .i64 ((zG (zE l0_0 a1) a2).f1)] 115 (0, 0)) (by (with_reducible repeat (first | refine zI ?_ _ | refine zJ ?_ | refine zH ?_ _)); exact BK104.out) hb)
      have n2_ := zA.mk (zN (by repeat (first | (with_reducible first | exact HB.out | apply zC | apply zB | apply zD | refine zF ?_ GE101.out | refine zF ?_ GE104.out) | exact HB.out)) hb)
      clear BK101
      clear BK104
      clear HB
      have BK101 := n0_
      have BK104 := n1_
      have HB := n2_
      clear n0_ n1_ n2_
      (try clear hb)
      (try clear hb2)
      (try clear hk)
      (try clear hi)
      refine hK.out _ _ ⟨(zK BK101.out 0).trans rfl, (zK BK104.out 0).trans rfl, (zK BK104.out 1).trans rfl, ((HB.out.cell (ypy w _ hw108_0)).trans hw108_0), ((HB.out.cell (ypy w _ hw109_0)).trans hw109_0), ((HB.out.cell (ypy w _ hw109_1)).trans hw109_1)⟩ (fun hHeld => ?_)
      clear hK K
      refine QQ (a' := ?_) ?_ ?_
      rotate_left
      next =>
       show Act.put _ (some 49) _ = _
       simp only [Act.put, yay, yby, ycy, zY, zZ]
       rfl
      refine zp (i := 12) (N := some 50) (v := ?_) (a' := ?_) #[true, true, true, true, true, true, true, true, true, true, true, true, true, false, false, false, false, false, false, false, false, false, false, false, false] rfl rfl (zk HT_.out (by kernel_rfl)) (fun _ _ _ h => h) (Or.inl ⟨by rfl, ?_⟩) ?_ ?_
      rotate_left
      next =>
       intro w'
       go_simp
       with_reducible rfl
      rotate_left
      next =>
       simp only [Act.put, yay, yby, ycy, zY, zZ]
       rfl
      refine zp (i := 13) (N := some 51) (v := ?_) (a' := ?_) #[true, true, true, true, true, true, true, true, true, true, true, true, true, true, false, false, false, false, false, false, false, false, false, false, false] rfl rfl (zk HT_.out (by kernel_rfl)) (fun _ _ _ h => h) (Or.inl ⟨by rfl, ?_⟩) ?_ ?_
      rotate_left
      next =>
       intro w'
       go_simp
       with_reducible rfl
      rotate_left
      next =>
       simp only [Act.put, yay, yby, ycy, zY, zZ]
       rfl
      refine zp (i := 14) (N := some 52) (v := ?_) (a' := ?_) #[true, true, true, true, true, true, true, true, true, true, true, true, true, true, true, false, false, false, false, false, false, false, false, false, false] rfl rfl (zk HT_.out (by kernel_rfl)) (fun _ _ _ h => h) (Or.inl ⟨by rfl, ?_⟩) ?_ ?_
      rotate_left
      next =>
       intro w'
       go_simp
       with_reducible rfl
      rotate_left
      next =>
       simp only [Act.put, yay, yby, ycy, zY, zZ]
       rfl
      refine zp (i := 16) (N := some 54) (v := ?_) (a' := ?_) #[true, true, true, true, true, true, true, true, true, true, true, true, true, true, true, false, true, false, false, false, false, false, false, false, false] rfl rfl (zk HT_.out (by kernel_rfl)) (fun _ _ _ h => h) (Or.inl ⟨by rfl, ?_⟩) ?_ ?_
      rotate_left
      next =>
       intro w'
       go_simp
       with_reducible rfl
      rotate_left
      next =>
       simp only [Act.put, yay, yby, ycy, zY, zZ]
       rfl
      refine ZT (i := 15) (N := some 53) (v := ?_) (a' := ?_) #[true, true, true, true, true, true, true, true, true, true, true, true, true, true, true, true, true, false, false, false, false, false, false, false, false] rfl rfl (qp HT_.out HW_.out (by kernel_rfl)) (fun _ _ _ h => h) (Or.inl ⟨by rfl, ?_⟩) hHeld ?_ ?_
      rotate_left
      next =>
       rintro w' ⟨s0, s1, s2, s3, s4, s5⟩
       go_simp
       with_reducible rfl
      rotate_left
      next =>
       simp only [Act.put, yay, yby, ycy, zY, zZ]
       rfl
      refine zp (i := 17) (N := some 55) (v := ?_) (a' := ?_) #[true, true, true, true, true, true, true, true, true, true, true, true, true, true, true, true, true, true, false, false, false, false, false, false, false] rfl rfl (zk HT_.out (by kernel_rfl)) (fun _ _ _ h => h) (Or.inl ⟨by rfl, ?_⟩) ?_ ?_
      rotate_left
      next =>
       intro w'
       go_simp
       with_reducible rfl
      rotate_left
      next =>
       simp only [Act.put, yay, yby, ycy, zY, zZ]
       rfl
      refine zp (i := 18) (N := some 56) (v := ?_) (a' := ?_) #[true, true, true, true, true, true, true, true, true, true, true, true, true, true, true, true, true, true, true, false, false, false, false, false, false] rfl rfl (zk HT_.out (by kernel_rfl)) (fun _ _ _ h => h) (Or.inl ⟨by rfl, ?_⟩) ?_ ?_
      rotate_left
      next =>
       intro w'
       go_simp
       with_reducible rfl
      rotate_left
      next =>
       simp only [Act.put, yay, yby, ycy, zY, zZ]
       rfl
      refine zp (i := 19) (N := some 57) (v := undef) (a' := ?_) #[true, true, true, true, true, true, true, true, true, true, true, true, true, true, true, true, true, true, true, true, false, false, false, false, false] rfl rfl (zk HT_.out (by kernel_rfl)) (fun _ _ _ h => h) (Or.inr ⟨by rfl, rfl⟩) ?_ ?_
      rotate_left
      next =>
       simp only [Act.put, yay, yby, ycy, zY, zZ]
       rfl
      refine zp (i := 20) (N := some 58) (v := undef) (a' := ?_) #[true, true, true, true, true, true, true, true, true, true, true, true, true, true, true, true, true, true, true, true, true, false, false, false, false] rfl rfl (zk HT_.out (by kernel_rfl)) (fun _ _ _ h => h) (Or.inr ⟨by rfl, rfl⟩) ?_ ?_
      rotate_left
      next =>
       simp only [Act.put, yay, yby, ycy, zY, zZ]
       rfl
      refine zp (i := 21) (N := some 59) (v := undef) (a' := ?_) #[true, true, true, true, true, true, true, true, true, true, true, true, true, true, true, true, true, true, true, true, true, true, false, false, false] rfl rfl (zk HT_.out (by kernel_rfl)) (fun _ _ _ h => h) (Or.inr ⟨by rfl, rfl⟩) ?_ ?_
      rotate_left
      next =>
       simp only [Act.put, yay, yby, ycy, zY, zZ]
       rfl
      refine zp (i := 22) (N := some 60) (v := ?_) (a' := ?_) #[true, true, true, true, true, true, true, true, true, true, true, true, true, true, true, true, true, true, true, true, true, true, true, false, false] rfl rfl (zk HT_.out (by kernel_rfl)) (fun _ _ _ h => h) (Or.inl ⟨by rfl, ?_⟩) ?_ ?_
      rotate_left
      next =>
       intro w'
       go_simp
       with_reducible rfl
      rotate_left
      next =>
       simp only [Act.put, yay, yby, ycy, zY, zZ]
       rfl
      refine zp (i := 23) (N := some 61) (v := ?_) (a' := ?_) #[true, true, true, true, true, true, true, true, true, true, true, true, true, true, true, true, true, true, true, true, true, true, true, true, false] rfl rfl (zk HT_.out (by kernel_rfl)) (fun _ _ _ h => h) (Or.inl ⟨by rfl, ?_⟩) ?_ ?_
      rotate_left
      next =>
       intro w'
       go_simp
       with_reducible rfl
      rotate_left
      next =>
       simp only [Act.put, yay, yby, ycy, zY, zZ]
       rfl
      refine zp (i := 24) (N := some 6) (v := ?_) (a' := ?_) #[true, true, true, true, true, true, true, true, true, true, true, true, true, true, true, true, true, true, true, true, true, true, true, true, true] rfl rfl (zk HT_.out (by kernel_rfl)) (fun _ _ _ h => h) (Or.inl ⟨by rfl, ?_⟩) ?_ ?_
      rotate_left
      next =>
       intro w'
       go_simp
       with_reducible rfl
      rotate_left
      next =>
       simp only [Act.put, yay, yby, ycy, zY, zZ]
       rfl
      refine JN (Qc HT_.out (by kernel_rfl)) ?_
      try go_wp2
      go_ret
      exact ⟨by first | rfl | (simp [zQ, zR] <;> rfl) | (simp [*, zQ, zR] <;> rfl), by repeat (first | (with_reducible first | exact HB.out | apply zC | apply zB | apply zD | refine zF ?_ GE101.out | refine zF ?_ GE104.out) | exact HB.out)⟩
     rw [if_pos c37] at H
     have c37b0 : (((zG (zE l0_0 a1) a2).f0) == a1) = true := beq_iff_eq.mpr c37
     have c37b1 : (((zG (zE l0_0 a1) a2).f0) != a1) = false := bne_eq_false_iff_eq.mpr c37
     clear c37
     obtain rfl := yey H
     have hnb38 := NB104_101.out
     have hnc38 := NB101_104.out
     have hcz39_0 : wc.cell? ⟨gb104, 0, none⟩ = some (.int .i64 ((zG (zE l0_0 a1) a2).f0)) := (zK BK104.out 0).trans rfl
     have hcz39_1 : wc.cell? ⟨gb104, 1, none⟩ = some (.int .i64 ((zG (zE l0_0 a1) a2).f1)) := (zK BK104.out 1).trans rfl
     have hfz39_0 := zM BK104.out 0
     have hfz39_1 := zM BK104.out 1
     try go_wp2_with (first | ((with_reducible refine zT (f := 165) rfl ?_); refine qH (some 37) rfl rfl Try.func165 (by kernel_rfl) rfl #[.agg #[.int .i64 ((zG (zE l0_0 a1) a2).f0), .int .i64 ((zG (zE l0_0 a1) a2).f1)], .int .i64 a2] rfl (by (try simp only [yiy, yjy, yky]); first | done | rfl | (simp only [yly, ymy]; rfl)) ?_; (with_reducible refine (ZJ.calls ((zG (zE l0_0 a1) a2).f0) ((zG (zE l0_0 a1) a2).f1) a2 t107 _ A30.out).mono ?_); rintro e w40 ⟨rfl, hb⟩; refine ⟨_, rfl, ?_⟩; have n0_ := zA.mk (zP (g := gb101) (o := .cells #[.slice (some ad102) l0_0.length c0_0] 30 (0, 0)) (by (with_reducible repeat (first | refine zI ?_ _ | refine zJ ?_ | refine zH ?_ _)); exact BK101.out) hb); have n1_ := zA.mk (zP (g := gb104) (o := .cells #[.int .i64 ((zG (zE l0_0 a1) a2).f0), .int .i64 ((zG (zE l0_0 a1) a2).f1)] 115 (0, 0)) (by (with_reducible repeat (first | refine zI ?_ _ | refine zJ ?_ | refine zH ?_ _)); exact BK104.out) hb); have n2_ := zA.mk (zN (by repeat (first | (with_reducible first | exact HB.out | apply zC | apply zB | apply zD | refine zF ?_ GE101.out | refine zF ?_ GE104.out) | exact HB.out)) hb); clear BK101; clear BK104; clear HB; have BK101 := n0_; have BK104 := n1_; have HB := n2_; clear n0_ n1_ n2_; (try clear hb); (try clear hb2); (try clear hk); (try clear hi)))
     have n0_ := zA.mk (zJ BK101.out)
     have n1_ := zA.mk (zJ BK104.out)
     have n2_ := zA.mk (zD HB.out)
     clear BK101
     clear BK104
     clear HB
     have BK101 := n0_
     have BK104 := n1_
     have HB := n2_
     clear n0_ n1_ n2_
     have p108 : 0 ≤ (((zG (zE l0_0 a1) a2).f0) : Int) := of_decide_eq_true (by first | (with_reducible assumption) | assumption)
     have q108 : ((zG (zE l0_0 a1) a2).f0) < (l0_0.length : Int) := of_decide_eq_true (by first | (with_reducible assumption) | assumption)
     obtain ⟨ad108, A108_0, c108_0, e108, hx108_0, hl108_0, hi108_0⟩ := ZP HR0_0.out ((zG (zE l0_0 a1) a2).f0) p108 q108
     have hw108_0 := hx108_0
     obtain rfl : ad102 = ad108 := (by injection e108)
     replace hx108_0 := (HB.out.cell (ypy w _ hx108_0)).trans hx108_0
     have HR108_0 := zA.mk hi108_0
     have HC108_0 := zA.mk hl108_0
     clear hi108_0 hl108_0
     replace p108 := eq_true p108
     replace q108 := eq_true q108
     have p109 : 0 ≤ (t107 : Int) := of_decide_eq_true (by first | (with_reducible assumption) | assumption)
     have q109 : t107 < ((zE l0_0 ((zG (zE l0_0 a1) a2).f0)).length : Int) := of_decide_eq_true (by first | (with_reducible assumption) | assumption)
     obtain ⟨ad109, e109, hx109_0, hx109_1⟩ := Zs HR108_0.out t107 p109 q109
     have hw109_1 := hx109_1
     have hw109_0 := hx109_0
     cases e109
     replace hx109_0 := (HB.out.cell (ypy w _ hx109_0)).trans hx109_0
     replace hx109_1 := (HB.out.cell (ypy w _ hx109_1)).trans hx109_1
     replace p109 := eq_true p109
     replace q109 := eq_true q109
     refine QN (n := 25) (S := fun w' => w'.cell? ⟨gb101, 0, none⟩ = some (.slice (some ad102) l0_0.length c0_0) ∧ w'.cell? ⟨gb104, 0, none⟩ = some (.int .i64 ((zG (zE l0_0 a1) a2).f0)) ∧ w'.cell? ⟨gb104, 1, none⟩ = some (.int .i64 ((zG (zE l0_0 a1) a2).f1)) ∧ w'.cell? (ad102.add (((zG (zE l0_0 a1) a2).f0)).toNat) = some (.slice (some ad109) (zE l0_0 ((zG (zE l0_0 a1) a2).f0)).length c108_0) ∧ w'.cell? (ad109.add ((t107).toNat * 2)) = some (.int .i64 ((zG (zE l0_0 ((zG (zE l0_0 a1) a2).f0)) t107).f0)) ∧ w'.cell? ⟨(ad109.add ((t107).toNat * 2)).block, (ad109.add ((t107).toNat * 2)).off + 1, none⟩ = some (.int .i64 ((zG (zE l0_0 ((zG (zE l0_0 a1) a2).f0)) t107).f1))) (ds := []) #[false, false, false, false, false, false, false, false, false, false, false, false, false, false, false, false, false, false, false, false, false, false, false, false, false] (by kernel_rfl) rfl rfl ⟨(zK BK101.out 0).trans rfl, (zK BK104.out 0).trans rfl, (zK BK104.out 1).trans rfl, ((HB.out.cell (ypy w _ hw108_0)).trans hw108_0), ((HB.out.cell (ypy w _ hw109_0)).trans hw109_0), ((HB.out.cell (ypy w _ hw109_1)).trans hw109_1)⟩ (fun hHeld => ?_); refine Zr zS.tab7 zS.zGZ (fun HT_ HW_ => ?_)
     generalize w40.drew = w41 at BK101 BK104 HB HR108_0 hx108_0 hx109_0 hx109_1 hHeld ⊢
     refine zp (i := 0) (N := some 38) (v := ?_) (a' := ?_) #[true, false, false, false, false, false, false, false, false, false, false, false, false, false, false, false, false, false, false, false, false, false, false, false, false] rfl rfl (zk HT_.out (by kernel_rfl)) (fun _ _ _ h => h) (Or.inl ⟨by rfl, ?_⟩) ?_ ?_
     rotate_left
     next =>
      intro w'
      go_simp
      with_reducible rfl
     rotate_left
     next =>
      simp only [Act.put, yay, yby, ycy, zY, zZ]
      rfl
     refine zp (i := 2) (N := some 40) (v := ?_) (a' := ?_) #[true, false, true, false, false, false, false, false, false, false, false, false, false, false, false, false, false, false, false, false, false, false, false, false, false] rfl rfl (zk HT_.out (by kernel_rfl)) (fun _ _ _ h => h) (Or.inl ⟨by rfl, ?_⟩) ?_ ?_
     rotate_left
     next =>
      intro w'
      go_simp
      with_reducible rfl
     rotate_left
     next =>
      simp only [Act.put, yay, yby, ycy, zY, zZ]
      rfl
     refine zp (i := 6) (N := some 44) (v := ?_) (a' := ?_) #[true, false, true, false, false, false, true, false, false, false, false, false, false, false, false, false, false, false, false, false, false, false, false, false, false] rfl rfl (zk HT_.out (by kernel_rfl)) (fun _ _ _ h => h) (Or.inl ⟨by rfl, ?_⟩) ?_ ?_
     rotate_left
     next =>
      intro w'
      go_simp
      with_reducible rfl
     rotate_left
     next =>
      simp only [Act.put, yay, yby, ycy, zY, zZ]
      rfl
     refine zp (i := 10) (N := some 48) (v := ?_) (a' := ?_) #[true, false, true, false, false, false, true, false, false, false, true, false, false, false, false, false, false, false, false, false, false, false, false, false, false] rfl rfl (zk HT_.out (by kernel_rfl)) (fun _ _ _ h => h) (Or.inl ⟨by rfl, ?_⟩) ?_ ?_
     rotate_left
     next =>
      intro w'
      go_simp
      with_reducible rfl
     rotate_left
     next =>
      simp only [Act.put, yay, yby, ycy, zY, zZ]
      rfl
     refine ZT (i := 1) (N := some 39) (v := ?_) (a' := ?_) #[true, true, true, false, false, false, true, false, false, false, true, false, false, false, false, false, false, false, false, false, false, false, false, false, false] rfl rfl (qp HT_.out HW_.out (by kernel_rfl)) (fun _ _ _ h => h) (Or.inl ⟨by rfl, ?_⟩) hHeld ?_ ?_
     rotate_left
     next =>
      rintro w' ⟨s0, s1, s2, s3, s4, s5⟩
      go_simp
      with_reducible rfl
     rotate_left
     next =>
      simp only [Act.put, yay, yby, ycy, zY, zZ]
      rfl
     refine ZT (i := 3) (N := some 41) (v := ?_) (a' := ?_) #[true, true, true, true, false, false, true, false, false, false, true, false, false, false, false, false, false, false, false, false, false, false, false, false, false] rfl rfl (qp HT_.out HW_.out (by kernel_rfl)) (fun _ _ _ h => h) (Or.inl ⟨by rfl, ?_⟩) hHeld ?_ ?_
     rotate_left
     next =>
      rintro w' ⟨s0, s1, s2, s3, s4, s5⟩
      go_simp
      with_reducible rfl
     rotate_left
     next =>
      simp only [Act.put, yay, yby, ycy, zY, zZ]
      rfl
     refine zp (i := 4) (N := some 42) (v := ?_) (a' := ?_) #[true, true, true, true, true, false, true, false, false, false, true, false, false, false, false, false, false, false, false, false, false, false, false, false, false] rfl rfl (zk HT_.out (by kernel_rfl)) (fun _ _ _ h => h) (Or.inl ⟨by rfl, ?_⟩) ?_ ?_
     rotate_left
     next =>
      intro w'
      go_simp
      with_reducible rfl
     rotate_left
     next =>
      simp only [Act.put, yay, yby, ycy, zY, zZ]
      rfl
     refine ZT (i := 5) (N := some 43) (v := ?_) (a' := ?_) #[true, true, true, true, true, true, true, false, false, false, true, false, false, false, false, false, false, false, false, false, false, false, false, false, false] rfl rfl (qp HT_.out HW_.out (by kernel_rfl)) (fun _ _ _ h => h) (Or.inl ⟨by rfl, ?_⟩) hHeld ?_ ?_
     rotate_left
     next =>
      rintro w' ⟨s0, s1, s2, s3, s4, s5⟩
      go_simp
      with_reducible rfl
     rotate_left
     next =>
      simp only [Act.put, yay, yby, ycy, zY, zZ]
      rfl
     refine zp (i := 7) (N := some 45) (v := ?_) (a' := ?_) #[true, true, true, true, true, true, true, true, false, false, true, false, false, false, false, false, false, false, false, false, false, false, false, false, false] rfl rfl (zk HT_.out (by kernel_rfl)) (fun _ _ _ h => h) (Or.inl ⟨by rfl, ?_⟩) ?_ ?_
     rotate_left
     next =>
      intro w'
      go_simp
      with_reducible rfl
     rotate_left
     next =>
      simp only [Act.put, yay, yby, ycy, zY, zZ]
      rfl
     refine ZT (i := 8) (N := some 46) (v := ?_) (a' := ?_) #[true, true, true, true, true, true, true, true, true, false, true, false, false, false, false, false, false, false, false, false, false, false, false, false, false] rfl rfl (qp HT_.out HW_.out (by kernel_rfl)) (fun _ _ _ h => h) (Or.inl ⟨by rfl, ?_⟩) hHeld ?_ ?_
     rotate_left
     next =>
      rintro w' ⟨s0, s1, s2, s3, s4, s5⟩
      go_simp
      with_reducible rfl
     rotate_left
     next =>
      simp only [Act.put, yay, yby, ycy, zY, zZ]
      rfl
     refine ZT (i := 9) (N := some 47) (v := ?_) (a' := ?_) #[true, true, true, true, true, true, true, true, true, true, true, false, false, false, false, false, false, false, false, false, false, false, false, false, false] rfl rfl (qp HT_.out HW_.out (by kernel_rfl)) (fun _ _ _ h => h) (Or.inl ⟨by rfl, ?_⟩) hHeld ?_ ?_
     rotate_left
     next =>
      rintro w' ⟨s0, s1, s2, s3, s4, s5⟩
      go_simp
      with_reducible rfl
     rotate_left
     next =>
      simp only [Act.put, yay, yby, ycy, zY, zZ]
      rfl
     refine zAb (i := 11) (N := some 49) #[true, true, true, true, true, true, true, true, true, true, true, true, false, false, false, false, false, false, false, false, false, false, false, false, false] rfl rfl (QK HT_.out (by kernel_rfl)) (by decide) (fun K hK => ?_)
     refine JU Try.func166 (by kernel_rfl) rfl #[.agg #[.int .i64 ((zG (zE l0_0 a1) a2).f0), .int .i64 ((zG (zE l0_0 a1) a2).f1)], .int .i64 a1] (by rfl) rfl rfl (by (try simp only [yiy, yjy, yky]); first | done | rfl | (simp only [yly, ymy]; rfl)) ?_
     with_reducible refine (qz.calls ((zG (zE l0_0 a1) a2).f0) ((zG (zE l0_0 a1) a2).f1) a1 t110 t111 _ A35.out).mono ?_
     rintro e w42 ⟨rfl, hb⟩
     refine ⟨_, rfl, ?_⟩
     have n0_ := zA.mk (zP (g := gb101) (o := .cells #[.slice (some ad102) l0_0.length c0_0] 30 (0, 0)) (by (with_reducible repeat (first | refine zI ?_ _ | refine zJ ?_ | refine zH ?_ _)); exact BK101.out) hb)
     have n1_ := zA.mk (zP (g := gb104) (o := .cells #[.int .i64 ((zG (zE l0_0 a1) a2).f0), .int .i64 ((zG (zE l0_0 a1) a2).f1)] 115 (0, 0)) (by (with_reducible repeat (first | refine zI ?_ _ | refine zJ ?_ | refine zH ?_ _)); exact BK104.out) hb)
     have n2_ := zA.mk (zN (by repeat (first | (with_reducible first | exact HB.out | apply zC | apply zB | apply zD | refine zF ?_ GE101.out | refine zF ?_ GE104.out) | exact HB.out)) hb)
     clear BK101
     clear BK104
     clear HB
     have BK101 := n0_
     have BK104 := n1_
     have HB := n2_
     clear n0_ n1_ n2_
     (try clear hb)
     (try clear hb2)
     (try clear hk)
     (try clear hi)
     refine hK.out _ _ ⟨(zK BK101.out 0).trans rfl, (zK BK104.out 0).trans rfl, (zK BK104.out 1).trans rfl, ((HB.out.cell (ypy w _ hw108_0)).trans hw108_0), ((HB.out.cell (ypy w _ hw109_0)).trans hw109_0), ((HB.out.cell (ypy w _ hw109_1)).trans hw109_1)⟩ (fun hHeld => ?_)
     clear hK K
     refine QQ (a' := ?_) ?_ ?_
     rotate_left
     next =>
      show Act.put _ (some 49) _ = _
      simp only [Act.put, yay, yby, ycy, zY, zZ]
      rfl
     refine zp (i := 12) (N := some 50) (v := ?_) (a' := ?_) #[true, true, true, true, true, true, true, true, true, true, true, true, true, false, false, false, false, false, false, false, false, false, false, false, false] rfl rfl (zk HT_.out (by kernel_rfl)) (fun _ _ _ h => h) (Or.inl ⟨by rfl, ?_⟩) ?_ ?_
     rotate_left
     next =>
      intro w'
      go_simp
      with_reducible rfl
     rotate_left
     next =>
      simp only [Act.put, yay, yby, ycy, zY, zZ]
      rfl
     refine zp (i := 13) (N := some 51) (v := ?_) (a' := ?_) #[true, true, true, true, true, true, true, true, true, true, true, true, true, true, false, false, false, false, false, false, false, false, false, false, false] rfl rfl (zk HT_.out (by kernel_rfl)) (fun _ _ _ h => h) (Or.inl ⟨by rfl, ?_⟩) ?_ ?_
     rotate_left
     next =>
      intro w'
      go_simp
      with_reducible rfl
     rotate_left
     next =>
      simp only [Act.put, yay, yby, ycy, zY, zZ]
      rfl
     refine zp (i := 14) (N := some 52) (v := ?_) (a' := ?_) #[true, true, true, true, true, true, true, true, true, true, true, true, true, true, true, false, false, false, false, false, false, false, false, false, false] rfl rfl (zk HT_.out (by kernel_rfl)) (fun _ _ _ h => h) (Or.inl ⟨by rfl, ?_⟩) ?_ ?_
     rotate_left
     next =>
      intro w'
      go_simp
      with_reducible rfl
     rotate_left
     next =>
      simp only [Act.put, yay, yby, ycy, zY, zZ]
      rfl
     refine zp (i := 16) (N := some 54) (v := ?_) (a' := ?_) #[true, true, true, true, true, true, true, true, true, true, true, true, true, true, true, false, true, false, false, false, false, false, false, false, false] rfl rfl (zk HT_.out (by kernel_rfl)) (fun _ _ _ h => h) (Or.inl ⟨by rfl, ?_⟩) ?_ ?_
     rotate_left
     next =>
      intro w'
      go_simp
      with_reducible rfl
     rotate_left
     next =>
      simp only [Act.put, yay, yby, ycy, zY, zZ]
      rfl
     refine ZT (i := 15) (N := some 53) (v := ?_) (a' := ?_) #[true, true, true, true, true, true, true, true, true, true, true, true, true, true, true, true, true, false, false, false, false, false, false, false, false] rfl rfl (qp HT_.out HW_.out (by kernel_rfl)) (fun _ _ _ h => h) (Or.inl ⟨by rfl, ?_⟩) hHeld ?_ ?_
     rotate_left
     next =>
      rintro w' ⟨s0, s1, s2, s3, s4, s5⟩
      go_simp
      with_reducible rfl
     rotate_left
     next =>
      simp only [Act.put, yay, yby, ycy, zY, zZ]
      rfl
     refine zp (i := 17) (N := some 55) (v := ?_) (a' := ?_) #[true, true, true, true, true, true, true, true, true, true, true, true, true, true, true, true, true, true, false, false, false, false, false, false, false] rfl rfl (zk HT_.out (by kernel_rfl)) (fun _ _ _ h => h) (Or.inl ⟨by rfl, ?_⟩) ?_ ?_
     rotate_left
     next =>
      intro w'
      go_simp
      with_reducible rfl
     rotate_left
     next =>
      simp only [Act.put, yay, yby, ycy, zY, zZ]
      rfl
     refine zp (i := 18) (N := some 56) (v := ?_) (a' := ?_) #[true, true, true, true, true, true, true, true, true, true, true, true, true, true, true, true, true, true, true, false, false, false, false, false, false] rfl rfl (zk HT_.out (by kernel_rfl)) (fun _ _ _ h => h) (Or.inl ⟨by rfl, ?_⟩) ?_ ?_
     rotate_left
     next =>
      intro w'
      go_simp
      with_reducible rfl
     rotate_left
     next =>
      simp only [Act.put, yay, yby, ycy, zY, zZ]
      rfl
     refine zp (i := 19) (N := some 57) (v := ?_) (a' := ?_) #[true, true, true, true, true, true, true, true, true, true, true, true, true, true, true, true, true, true, true, true, false, false, false, false, false] rfl rfl (zk HT_.out (by kernel_rfl)) (fun _ _ _ h => h) (Or.inl ⟨by rfl, ?_⟩) ?_ ?_
     rotate_left
     next =>
      intro w'
      go_simp
      with_reducible rfl
     rotate_left
     next =>
      simp only [Act.put, yay, yby, ycy, zY, zZ]
      rfl
     refine zp (i := 20) (N := some 58) (v := ?_) (a' := ?_) #[true, true, true, true, true, true, true, true, true, true, true, true, true, true, true, true, true, true, true, true, true, false, false, false, false] rfl rfl (zk HT_.out (by kernel_rfl)) (fun _ _ _ h => h) (Or.inl ⟨by rfl, ?_⟩) ?_ ?_
     rotate_left
     next =>
      intro w'
      go_simp
      with_reducible rfl
     rotate_left
     next =>
      simp only [Act.put, yay, yby, ycy, zY, zZ]
      rfl
     refine zp (i := 21) (N := some 59) (v := ?_) (a' := ?_) #[true, true, true, true, true, true, true, true, true, true, true, true, true, true, true, true, true, true, true, true, true, true, false, false, false] rfl rfl (zk HT_.out (by kernel_rfl)) (fun _ _ _ h => h) (Or.inl ⟨by rfl, ?_⟩) ?_ ?_
     rotate_left
     next =>
      intro w'
      go_simp
      with_reducible rfl
     rotate_left
     next =>
      simp only [Act.put, yay, yby, ycy, zY, zZ]
      rfl
     refine zp (i := 22) (N := some 60) (v := ?_) (a' := ?_) #[true, true, true, true, true, true, true, true, true, true, true, true, true, true, true, true, true, true, true, true, true, true, true, false, false] rfl rfl (zk HT_.out (by kernel_rfl)) (fun _ _ _ h => h) (Or.inl ⟨by rfl, ?_⟩) ?_ ?_
     rotate_left
     next =>
      intro w'
      go_simp
      with_reducible rfl
     rotate_left
     next =>
      simp only [Act.put, yay, yby, ycy, zY, zZ]
      rfl
     refine zp (i := 23) (N := some 61) (v := ?_) (a' := ?_) #[true, true, true, true, true, true, true, true, true, true, true, true, true, true, true, true, true, true, true, true, true, true, true, true, false] rfl rfl (zk HT_.out (by kernel_rfl)) (fun _ _ _ h => h) (Or.inl ⟨by rfl, ?_⟩) ?_ ?_
     rotate_left
     next =>
      intro w'
      go_simp
      with_reducible rfl
     rotate_left
     next =>
      simp only [Act.put, yay, yby, ycy, zY, zZ]
      rfl
     refine zp (i := 24) (N := some 6) (v := ?_) (a' := ?_) #[true, true, true, true, true, true, true, true, true, true, true, true, true, true, true, true, true, true, true, true, true, true, true, true, true] rfl rfl (zk HT_.out (by kernel_rfl)) (fun _ _ _ h => h) (Or.inl ⟨by rfl, ?_⟩) ?_ ?_
     rotate_left
     next =>
      intro w'
      go_simp
      with_reducible rfl
     rotate_left
     next =>
      simp only [Act.put, yay, yby, ycy, zY, zZ]
      rfl
     refine JN (Qc HT_.out (by kernel_rfl)) ?_
     try go_wp2
     go_ret
     exact ⟨by first | rfl | (simp [zQ, zR] <;> rfl) | (simp [*, zQ, zR] <;> rfl), by repeat (first | (with_reducible first | exact HB.out | apply zC | apply zB | apply zD | refine zF ?_ GE101.out | refine zF ?_ GE104.out) | exact HB.out)⟩
end
def qk.f (l0 : List (zq)) : Option (Bool) := some ((l0.length : Int) != 4)
set_option maxHeartbeats 8000000 in
set_option maxRecDepth 100000 in
theorem qk.calls (A0 : Option Addr) (c0 : Nat) (l0 : List (zq)) (r : Bool) (w : World) (hr0 : Kd.C ZB w A0 l0.length l0) (hc0 : l0.length ≤ c0) (h : qk.f l0 = some r) :
    Calls Try.prog 144 #[.slice A0 l0.length c0] w fun e w' => e = .returned (.bool r) ∧ zX w w' := by
  have HR0 := zA.mk hr0
  have HC0 := zA.mk hc0
  clear hr0 hc0
  have H : (some ((l0.length : Int) != 4)) = some r := h
  clear h
  obtain rfl := yey H
  go_enter Try.func144, Try.ntmps144
  go_wp2
  go_ret
  exact ⟨by first | rfl | (simp; done) | (simp [*]; done), by repeat (first | exact zX.refl _ | apply zX.step)⟩
end Go.Proofs.Ythjpdljdodalaaa.P
namespace Go.Proofs.Ythjpdljdodalaaa.P
open Go.RowKit Go.Proofs.YthjpdljdodalaaaW.PrintWords Go.Proofs.YthjpdljdodalaaaW.PrintLast Go.Proofs.YthjpdljdodalaaaW.PrintMore
attribute [local go_sem] QS QT Qz JA QD QE QU QV
set_option linter.unusedVariables false
set_option linter.unusedSimpArgs false
open Go.Proofs.Ythjpdljdodalaaa.Lib
def qB.f (l0 : List (List (zq))) : Option Int := zEV (fun x => qk.f x) 0 l0
set_option maxHeartbeats 8000000 in
set_option maxRecDepth 100000 in
theorem qB.calls (A0 : Option Addr) (c0 : Nat) (l0 : List (List (zq))) (r : Int) (w : World) (hr0 : Kd.C (Kd.slice 115 ZB) w A0 l0.length l0) (hc0 : l0.length ≤ c0) (h : qB.f l0 = some r) :
    Calls Try.prog 162 #[.slice A0 l0.length c0, .func (.func 144) #[] #[]] w fun e w' => e = .returned (.int .i64 r) ∧ Below w.heap.size w w' := by
  have HR0 := zA.mk hr0
  clear hr0 hc0
  have hbig : l0.length ≤ 9223372036854775807 := HR0.out.2.1
  have HB := zA.mk (yry w.heap.size w)
  have H' := zA.mk (show zEV (fun x => qk.f x) 0 l0 = some r from h)
  clear h
  go_enter Try.func162, Try.ntmps162
  go_wp2
  go_loopg [5, 8] l0.length (fun gg v5 v8 w' => ∃ kk : Nat, kk ≤ l0.length ∧ l0.length - kk ≤ gg ∧ v8 = .int .i64 kk ∧ zA (zEV (fun x => qk.f x) kk (l0.drop kk) = some r) ∧ zA (Below w.heap.size w w'))
  case atStart => exact ⟨0, Nat.zero_le _, by omega, rfl, H', HB⟩
  case round =>
    clear H' HB
    obtain ⟨kk, hkk, hg, rfl, HA, HB⟩ := hrel
    by_cases hlt : kk < l0.length
    · have hltz : (kk : Int) < (l0.length : Int) := by omega
      have H := HA.out
      clear HA
      rw [yoy hlt, zBM] at H
      replace H := ydy.mp H
      obtain ⟨b, hb, H⟩ := H
      obtain ⟨ad, A1, c1, e104, hx, hl1, hi1⟩ := ZP HR0.out (kk : Int) (by omega) (by omega)
      have ex : zE l0 (kk : Int) = l0[kk] := by simp [zE, hlt]
      rw [ex] at hx hl1 hi1
      rw [yny] at hx
      replace hx := (HB.out.cell (ypy w _ hx)).trans hx
      replace hi1 := Kd.zl hi1 HB.out
      generalize l0[kk] = y at hx hl1 hi1 hb
      have HI1 := zA.mk hi1
      have HL1 := zA.mk hl1
      clear ex hi1 hl1
      cases e104
      have HC := zA.mk hb
      clear hb
      cases b with
      | true =>
        have H2 := zA.mk H
        clear H
        go_wp2_with fail
        refine (qk.calls _ _ _ _ _ HI1.out HL1.out HC.out).mono ?_
        rintro e w' ⟨rfl, hd⟩
        have HB2 := zA.mk (zN HB.out hd.below)
        clear hd HB
        go_wp2
        go_ret
        exact ⟨by rw [yey H2.out]; rfl, HB2.out⟩
      | false =>
        have H2 := zA.mk H
        clear H
        go_wp2_with fail
        refine (qk.calls _ _ _ _ _ HI1.out HL1.out HC.out).mono ?_
        rintro e w' ⟨rfl, hd⟩
        have HB2 := zA.mk (zN HB.out hd.below)
        clear hd HB
        go_wp2
        go_roundg (l0.length - (kk + 1))
        case measure => omega
        case rel => exact ⟨kk + 1, by omega, by omega, by go_num, H2, HB2⟩
    · have hltz : ¬ (kk : Int) < (l0.length : Int) := by omega
      have e : kk = l0.length := by omega
      subst e
      have H2 := zA.mk (yey (by simpa [zEV] using HA.out))
      clear HA
      go_wp2
      go_ret
      exact ⟨by rw [← H2.out]; rfl, HB.out⟩
def zd.f (l0 : List (List (zq))) : Option Bool := (qB.f l0).bind fun i => some (decide (0 ≤ i))
set_option maxHeartbeats 8000000 in
set_option maxRecDepth 100000 in
theorem zd.calls (A0 : Option Addr) (c0 : Nat) (l0 : List (List (zq))) (r : Bool) (w : World) (hr0 : Kd.C (Kd.slice 115 ZB) w A0 l0.length l0) (hc0 : l0.length ≤ c0) (h : zd.f l0 = some r) :
    Calls Try.prog 143 #[.slice A0 l0.length c0, .func (.func 144) #[] #[]] w fun e w' => e = .returned (.bool r) ∧ Below w.heap.size w w' := by
  obtain ⟨i, hi, h⟩ := ydy.mp h
  have H := zA.mk (yey h)
  clear h
  have HI := zA.mk hi
  clear hi
  have HR0 := zA.mk hr0
  have HC0 := zA.mk hc0
  clear hr0 hc0
  go_enter Try.func143, Try.ntmps143
  go_wp2_with fail
  refine (qB.calls _ _ _ _ _ HR0.out HC0.out HI.out).mono ?_
  rintro e w' ⟨rfl, hd⟩
  have HB := zA.mk hd
  clear hd
  go_wp2
  go_ret
  exact ⟨by rw [← H.out]; rfl, HB.out⟩
end Go.Proofs.Ythjpdljdodalaaa.P
namespace Go.Proofs.Ythjpdljdodalaaa.P
open Go.RowKit Go.Proofs.YthjpdljdodalaaaW.PrintWords Go.Proofs.YthjpdljdodalaaaW.PrintLast Go.Proofs.YthjpdljdodalaaaW.PrintMore
attribute [local go_sem] QS QT Qz JA QD QE QU QV
set_option linter.unusedVariables false
set_option linter.unusedSimpArgs false
mutual
def zU.j0 : Nat → Bool → List (List (zq)) → Option (Bool)
  | 0, _, _ => none
  | k + 1, x13, x102000 => if x13 = true then (some false) else ((qm.f x102000).bind fun t103 => (zU.l0 k t103 0 x102000))
def zU.l0 : Nat → Int → Int → List (List (zq)) → Option (Bool)
  | 0, _, _, _ => none
  | k + 1, x16, x17, x102000 => if x17 < x16 then (zU.l1 k x17 x16 x17 0 x102000) else (some true)
def zU.l1 : Nat → Int → Int → Int → Int → List (List (zq)) → Option (Bool)
  | 0, _, _, _, _, _ => none
  | k + 1, x3, x16, x17, x20, x102000 => if x20 < 4 then ((zS.f k x102000 x3 x20).bind fun t104 => (if t104 = true then (zU.l1 k x3 x16 x17 (wrap64 (x20 + 1)) x102000) else (some false))) else (zU.l0 k x16 (wrap64 (x17 + 1)) x102000)
end
def zU.f (k : Nat) (l0_0 : List (List (zq))) : Option (Bool) := if (l0_0.length : Int) > 8 then (zU.j0 k true l0_0) else ((zd.f l0_0).bind fun t102 => (zU.j0 k t102 l0_0))
set_option maxHeartbeats 8000000 in
set_option maxRecDepth 100000 in
theorem zU.calls (k : Nat) (A0_0 : Option Addr) (c0_0 : Nat) (l0_0 : List (List (zq))) (r : Bool) (w : World) (hr0_0 : Kd.C (Kd.slice 115 ZB) w A0_0 l0_0.length l0_0) (hc0_0 : l0_0.length ≤ c0_0) (h : zU.f k l0_0 = some r) :
    Calls Try.prog 106 #[.agg #[.slice A0_0 l0_0.length c0_0]] w fun e w' => e = .returned (.bool r) ∧ Below w.heap.size w w' := by
  have hu30 := Try.underlying30
  have HR0_0 := zA.mk hr0_0
  have HC0_0 := zA.mk hc0_0
  clear hr0_0 hc0_0
  have HB := zA.mk (yry w.heap.size w)
  have H : (if (l0_0.length : Int) > 8 then (zU.j0 k true l0_0) else ((zd.f l0_0).bind fun t102 => (zU.j0 k t102 l0_0))) = some r := h
  clear h
  have HC2 := zA.mk H
  clear H
  go_enter Try.func106, Try.ntmps106
  go_upto_region 1 with (first | ((with_reducible refine zm (N := 1) rfl ?_); refine zo ?hg (N := 1) ?hd (cs := #[.slice A0_0 l0_0.length c0_0]) (t := 30) ?hr ?_; (case hd => rfl); (case hg => rfl); (case hr => first | (go_simp; done) | (go_simp; rfl)); intro gb101 hg w3 hbox hb; have n0_ := zA.mk (zN (by repeat (first | (with_reducible first | exact HB.out | apply zC | apply zB | apply zD) | exact HB.out)) hb); have n1_ := zA.mk (hbox); have n2_ := zA.mk ((by rw [hg]; exact (zO (by repeat (first | (with_reducible first | exact HB.out | apply zC | apply zB | apply zD) | exact HB.out))) : w.heap.size ≤ gb101)); have n3_ := zA.mk ((by rw [hg]; exact (zO (by repeat (first | (with_reducible first | exact HB.out | apply zC | apply zB | apply zD) | exact HB.out))) : w.heap.size ≤ gb101)); clear HB; have HB := n0_; have BK101 := n1_; have GW101 := n2_; have GE101 := n3_; clear n0_ n1_ n2_ n3_; clear hb hbox hg))
  (try simp only [Act.put, yay, yby, ycy])
  go_cut [13] (fun v13 wc => ∃ (kq : Nat) (x13_1 : Bool), v13 = .bool x13_1 ∧ zA (zU.j0 kq x13_1 l0_0 = some r) ∧ zA (kq ≤ k) ∧ zA (wc.heap[gb101]? = some (.cells #[(.slice A0_0 l0_0.length c0_0)] 30 (0, 0))) ∧ zA (Below w.heap.size w wc))
  case first =>
    have H := HC2.out
    clear HC2
    by_cases c4 : (l0_0.length : Int) > 8
    · rw [if_pos c4] at H
      have c4b0 : decide (8 < (l0_0.length : Int)) = true := ygy c4
      have c4b1 : decide (8 < l0_0.length) = true := ygy (by omega)
      clear c4
      (first | rw [c4b0] | (simp only [zY, zZ]; rw [c4b0]) | skip)
      have H' := zA.mk H
      clear H
      have hcz5_0 : w3.cell? ⟨gb101, 0, none⟩ = some (.slice A0_0 l0_0.length c0_0) := (zK BK101.out 0).trans rfl
      have hfz5_0 := zM BK101.out 0
      go_wp2
      go_meet
      case rel => exact ⟨_, (true), (by first | rfl | (simp; done) | (simp [*]; done)), H', ⟨by first | omega | exact yqy _⟩, ⟨by (with_reducible repeat (first | refine zI ?_ _ | refine zJ ?_ | refine zH ?_ _)); exact BK101.out⟩, ⟨by repeat (first | (with_reducible first | exact HB.out | apply zC | apply zB | apply zD | refine zF ?_ GE101.out) | exact HB.out)⟩⟩
    · rw [if_neg c4] at H
      have c4b0 : decide (8 < (l0_0.length : Int)) = false := yhy c4
      have c4b1 : decide (8 < l0_0.length) = false := yhy (by omega)
      clear c4
      (first | rw [c4b0] | (simp only [zY, zZ]; rw [c4b0]) | skip)
      replace H := ydy.mp H
      obtain ⟨t102, A60, H⟩ := H
      replace H : (zU.j0 k t102 l0_0) = some r := H
      have A6 := zA.mk A60
      clear A60
      have H' := zA.mk H
      clear H
      have hcz7_0 : w3.cell? ⟨gb101, 0, none⟩ = some (.slice A0_0 l0_0.length c0_0) := (zK BK101.out 0).trans rfl
      have hfz7_0 := zM BK101.out 0
      go_wp2_with (first | (go_at_call 143; (with_reducible refine (zd.calls _ _ l0_0 t102 _ ?side1 ?side2 A6.out).mono ?_); (case side1 => repeat (first | exact (Kd.zl HR0_0.out HB.out) | (with_reducible refine Kd.zh ?_ _) | (with_reducible refine Kd.zi ?_ _) | (with_reducible refine Kd.qA ?_))); (case side2 => exact HC0_0.out); rintro e w8 ⟨rfl, hb⟩; have n0_ := zA.mk (zP (g := gb101) (o := .cells #[.slice A0_0 l0_0.length c0_0] 30 (0, 0)) (by (with_reducible repeat (first | refine zI ?_ _ | refine zJ ?_ | refine zH ?_ _)); exact BK101.out) hb); have n1_ := zA.mk (zN (by repeat (first | (with_reducible first | exact HB.out | apply zC | apply zB | apply zD | refine zF ?_ GE101.out) | exact HB.out)) hb); clear BK101; clear HB; have BK101 := n0_; have HB := n1_; clear n0_ n1_; (try clear hb); (try clear hb2); (try clear hk); (try clear hi)))
      go_meet
      case rel => exact ⟨_, (t102), (by first | rfl | (simp; done) | (simp [*]; done)), H', ⟨by first | omega | exact yqy _⟩, ⟨by (with_reducible repeat (first | refine zI ?_ _ | refine zJ ?_ | refine zH ?_ _)); exact BK101.out⟩, ⟨by repeat (first | (with_reducible first | exact HB.out | apply zC | apply zB | apply zD | refine zF ?_ GE101.out) | exact HB.out)⟩⟩
  case rest =>
    clear HC2
    try clear c1
    try clear p2
    try clear c4
    try clear c4b0
    try clear c4b1
    try clear hcz5_0
    try clear hcz7_0
    try clear hfz5_0
    try clear hfz7_0
    obtain ⟨kq, x13_1, rfl, HA, HJ1, BK101, HB⟩ := hcut
    cases kq with
    | zero => exact absurd HA.out (by simp [zU.j0])
    | succ kj1 =>
      have H := HA.out
      clear HA
      simp only [zU.j0] at H
      by_cases c9 : x13_1 = true
      · subst c9
        have H1 : (some false) = some r := by rw [if_pos rfl] at H; exact H
        clear H
        have H := H1
        clear H1
        obtain rfl := yey H
        go_wp2
        go_ret
        exact ⟨by first | rfl | (simp [zQ, zR] <;> rfl) | (simp [*, zQ, zR] <;> rfl), by repeat (first | (with_reducible first | exact HB.out | apply zC | apply zB | apply zD | refine zF ?_ GE101.out) | exact HB.out)⟩
      · replace c9 := Bool.eq_false_iff.mpr c9
        subst c9
        have H1 : ((qm.f l0_0).bind fun t103 => (zU.l0 kj1 t103 0 l0_0)) = some r := by rw [if_neg (show ¬ (false = true) by decide)] at H; exact H
        clear H
        have H := H1
        clear H1
        replace H := ydy.mp H
        obtain ⟨t103, A100, H⟩ := H
        replace H : (zU.l0 kj1 t103 0 l0_0) = some r := H
        have A10 := zA.mk A100
        clear A100
        have H' := zA.mk H
        clear H
        have hcz11_0 : wc.cell? ⟨gb101, 0, none⟩ = some (.slice A0_0 l0_0.length c0_0) := (zK BK101.out 0).trans rfl
        have hfz11_0 := zM BK101.out 0
        go_wp2_with (first | ((with_reducible refine zT (f := 111) rfl ?_); refine qH (some 16) rfl rfl Try.func111 (by kernel_rfl) rfl #[.slice A0_0 l0_0.length c0_0] rfl (by (try simp only [yiy, yjy, yky]); first | done | rfl | (simp only [yly, ymy]; rfl)) ?_; (with_reducible refine (qm.calls _ _ l0_0 t103 _ ?side1 ?side2 A10.out).mono ?_); (case side1 => repeat (first | exact (Kd.zl HR0_0.out HB.out) | (with_reducible refine Kd.zh ?_ _) | (with_reducible refine Kd.zi ?_ _) | (with_reducible refine Kd.qA ?_))); (case side2 => exact HC0_0.out); rintro e w' ⟨rfl, ⟨nd, rfl⟩⟩; refine ⟨_, rfl, ?_⟩))
        go_loopg [17] kj1 (fun kq v17 w' => ∃ (x17_2 : Int), v17 = .int .i64 x17_2 ∧ zA (zU.l0 kq t103 x17_2 l0_0 = some r) ∧ zA (kq ≤ kj1) ∧ zA (w'.heap[gb101]? = some (.cells #[(.slice A0_0 l0_0.length c0_0)] 30 (0, 0))) ∧ zA (Below w.heap.size w w'))
        case atStart => exact ⟨(0), (by first | rfl | (simp; done) | (simp [*]; done)), H', ⟨yqy _⟩, ⟨by (with_reducible repeat (first | refine zI ?_ _ | refine zJ ?_ | refine zH ?_ _)); exact BK101.out⟩, ⟨by repeat (first | (with_reducible first | exact HB.out | apply zC | apply zB | apply zD | refine zF ?_ GE101.out) | exact HB.out)⟩⟩
        case round =>
          clear H'
          try clear c1
          try clear p2
          try clear c4
          try clear c4b0
          try clear c4b1
          try clear c9
          try clear c10
          try clear c11
          try clear hcz11_0
          try clear hcz5_0
          try clear hcz7_0
          try clear hfz11_0
          try clear hfz5_0
          try clear hfz7_0
          try clear p2
          obtain ⟨x17_2, rfl, HA, HK2, BK101, HB⟩ := hrel
          cases gk with
          | zero => exact absurd HA.out (by simp [zU.l0])
          | succ k2 =>
            have H := HA.out
            clear HA
            simp only [zU.l0] at H
            by_cases c12 : x17_2 < t103
            · rw [if_pos c12] at H
              have c12b0 : decide (x17_2 < t103) = true := ygy c12
              clear c12
              have H' := zA.mk H
              clear H
              go_wp2
              go_loopg [20] k2 (fun kq v20 w' => ∃ (x20_3 : Int), v20 = .int .i64 x20_3 ∧ zA (zU.l1 kq x17_2 t103 x17_2 x20_3 l0_0 = some r) ∧ zA (kq ≤ k2) ∧ zA (w'.heap[gb101]? = some (.cells #[(.slice A0_0 l0_0.length c0_0)] 30 (0, 0))) ∧ zA (Below w.heap.size w w'))
              case atStart => exact ⟨(0), (by first | rfl | (simp; done) | (simp [*]; done)), H', ⟨yqy _⟩, ⟨by (with_reducible repeat (first | refine zI ?_ _ | refine zJ ?_ | refine zH ?_ _)); exact BK101.out⟩, ⟨by repeat (first | (with_reducible first | exact HB.out | apply zC | apply zB | apply zD | refine zF ?_ GE101.out) | exact HB.out)⟩⟩
              case round =>
                clear H'
                try clear c1
                try clear p2
                try clear c4
                try clear c4b0
                try clear c4b1
                try clear c9
                try clear c10
                try clear c11
                try clear c12
                try clear c12b0
                try clear hcz11_0
                try clear hcz5_0
                try clear hcz7_0
                try clear hfz11_0
                try clear hfz5_0
                try clear hfz7_0
                try clear p2
                obtain ⟨x20_3, rfl, HA, HK3, BK101, HB⟩ := hrel
                cases gk with
                | zero => exact absurd HA.out (by simp [zU.l1])
                | succ k3 =>
                  have H := HA.out
                  clear HA
                  simp only [zU.l1] at H
                  by_cases c13 : x20_3 < 4
                  · rw [if_pos c13] at H
                    have c13b0 : decide (x20_3 < 4) = true := ygy c13
                    clear c13
                    replace H := ydy.mp H
                    obtain ⟨t104, A140, H⟩ := H
                    replace H : (if t104 = true then (zU.l1 k3 x17_2 t103 x17_2 (wrap64 (x20_3 + 1)) l0_0) else (some false)) = some r := H
                    have A14 := zA.mk A140
                    clear A140
                    by_cases c15 : t104 = true
                    · subst c15
                      have H1 : (zU.l1 k3 x17_2 t103 x17_2 (wrap64 (x20_3 + 1)) l0_0) = some r := by rw [if_pos rfl] at H; exact H
                      clear H
                      have H := H1
                      clear H1
                      have H' := zA.mk H
                      clear H
                      have hcz16_0 : wr.cell? ⟨gb101, 0, none⟩ = some (.slice A0_0 l0_0.length c0_0) := (zK BK101.out 0).trans rfl
                      have hfz16_0 := zM BK101.out 0
                      go_wp2_with (first | ((with_reducible refine zT (f := 145) rfl ?_); refine qH (some 26) rfl rfl Try.func145 (by kernel_rfl) rfl #[.agg #[.slice A0_0 l0_0.length c0_0], .int .i64 x17_2, .int .i64 x20_3] rfl (by (try simp only [yiy, yjy, yky]); first | done | rfl | (simp only [yly, ymy]; rfl)) ?_; (with_reducible refine (zS.calls k3 _ _ l0_0 x17_2 x20_3 true _ ?side1 ?side2 A14.out).mono ?_); (case side1 => repeat (first | exact (Kd.zl HR0_0.out HB.out) | (with_reducible refine Kd.zh ?_ _) | (with_reducible refine Kd.zi ?_ _) | (with_reducible refine Kd.qA ?_))); (case side2 => exact HC0_0.out); rintro e w17 ⟨rfl, hb⟩; refine ⟨_, rfl, ?_⟩; have n0_ := zA.mk (zP (g := gb101) (o := .cells #[.slice A0_0 l0_0.length c0_0] 30 (0, 0)) (by (with_reducible repeat (first | refine zI ?_ _ | refine zJ ?_ | refine zH ?_ _)); exact BK101.out) hb); have n1_ := zA.mk (zN (by repeat (first | (with_reducible first | exact HB.out | apply zC | apply zB | apply zD | refine zF ?_ GE101.out) | exact HB.out)) hb); clear BK101; clear HB; have BK101 := n0_; have HB := n1_; clear n0_ n1_; (try clear hb); (try clear hb2); (try clear hk); (try clear hi)))
                      go_roundg k3
                      case measure => have := HJ1.out; have := HK2.out; have := HK3.out; omega
                      case rel => exact ⟨(wrap64 (x20_3 + 1)), (by first | rfl | (simp; done) | (simp [*]; done)), H', ⟨by have := HJ1.out; have := HK2.out; have := HK3.out; omega⟩, ⟨by (with_reducible repeat (first | refine zI ?_ _ | refine zJ ?_ | refine zH ?_ _)); exact BK101.out⟩, ⟨by repeat (first | (with_reducible first | exact HB.out | apply zC | apply zB | apply zD | refine zF ?_ GE101.out) | exact HB.out)⟩⟩
                    · replace c15 := Bool.eq_false_iff.mpr c15
                      subst c15
                      have H1 : (some false) = some r := by rw [if_neg (show ¬ (false = true) by decide)] at H; exact H
                      clear H
                      have H := H1
                      clear H1
                      obtain rfl := yey H
                      have hcz18_0 : wr.cell? ⟨gb101, 0, none⟩ = some (.slice A0_0 l0_0.length c0_0) := (zK BK101.out 0).trans rfl
                      have hfz18_0 := zM BK101.out 0
                      go_wp2_with (first | ((with_reducible refine zT (f := 145) rfl ?_); refine qH (some 26) rfl rfl Try.func145 (by kernel_rfl) rfl #[.agg #[.slice A0_0 l0_0.length c0_0], .int .i64 x17_2, .int .i64 x20_3] rfl (by (try simp only [yiy, yjy, yky]); first | done | rfl | (simp only [yly, ymy]; rfl)) ?_; (with_reducible refine (zS.calls k3 _ _ l0_0 x17_2 x20_3 false _ ?side1 ?side2 A14.out).mono ?_); (case side1 => repeat (first | exact (Kd.zl HR0_0.out HB.out) | (with_reducible refine Kd.zh ?_ _) | (with_reducible refine Kd.zi ?_ _) | (with_reducible refine Kd.qA ?_))); (case side2 => exact HC0_0.out); rintro e w19 ⟨rfl, hb⟩; refine ⟨_, rfl, ?_⟩; have n0_ := zA.mk (zP (g := gb101) (o := .cells #[.slice A0_0 l0_0.length c0_0] 30 (0, 0)) (by (with_reducible repeat (first | refine zI ?_ _ | refine zJ ?_ | refine zH ?_ _)); exact BK101.out) hb); have n1_ := zA.mk (zN (by repeat (first | (with_reducible first | exact HB.out | apply zC | apply zB | apply zD | refine zF ?_ GE101.out) | exact HB.out)) hb); clear BK101; clear HB; have BK101 := n0_; have HB := n1_; clear n0_ n1_; (try clear hb); (try clear hb2); (try clear hk); (try clear hi)))
                      go_ret
                      exact ⟨by first | rfl | (simp [zQ, zR] <;> rfl) | (simp [*, zQ, zR] <;> rfl), by repeat (first | (with_reducible first | exact HB.out | apply zC | apply zB | apply zD | refine zF ?_ GE101.out) | exact HB.out)⟩
                  · rw [if_neg c13] at H
                    have c13b0 : decide (x20_3 < 4) = false := yhy c13
                    clear c13
                    have H' := zA.mk H
                    clear H
                    go_wp2
                    go_roundg k3
                    case measure => have := HJ1.out; have := HK2.out; have := HK3.out; omega
                    case rel => exact ⟨(wrap64 (x17_2 + 1)), (by first | rfl | (simp; done) | (simp [*]; done)), H', ⟨by have := HJ1.out; have := HK2.out; have := HK3.out; omega⟩, ⟨by (with_reducible repeat (first | refine zI ?_ _ | refine zJ ?_ | refine zH ?_ _)); exact BK101.out⟩, ⟨by repeat (first | (with_reducible first | exact HB.out | apply zC | apply zB | apply zD | refine zF ?_ GE101.out) | exact HB.out)⟩⟩
            · rw [if_neg c12] at H
              have c12b0 : decide (x17_2 < t103) = false := yhy c12
              clear c12
              obtain rfl := yey H
              go_wp2
              go_ret
              exact ⟨by first | rfl | (simp [zQ, zR] <;> rfl) | (simp [*, zQ, zR] <;> rfl), by repeat (first | (with_reducible first | exact HB.out | apply zC | apply zB | apply zD | refine zF ?_ GE101.out) | exact HB.out)⟩
def QF.f (k : Nat) (l0_0 : List (List (zq))) : Option (Int) := (zU.f k l0_0).bind fun t102 => (if t102 = true then (if (l0_0.length : Int) > 6 then (some 3) else (some 0)) else (some 1))
set_option maxHeartbeats 8000000 in
set_option maxRecDepth 100000 in
theorem QF.calls (k : Nat) (A0_0 : Option Addr) (c0_0 : Nat) (l0_0 : List (List (zq))) (r : Int) (w : World) (hr0_0 : Kd.C (Kd.slice 115 ZB) w A0_0 l0_0.length l0_0) (hc0_0 : l0_0.length ≤ c0_0) (h : QF.f k l0_0 = some r) :
    Calls Try.prog 64 #[.agg #[.slice A0_0 l0_0.length c0_0]] w fun e w' => e = .returned (.int .i64 r) ∧ Below w.heap.size w w' := by
  have hu30 := Try.underlying30
  have HR0_0 := zA.mk hr0_0
  have HC0_0 := zA.mk hc0_0
  clear hr0_0 hc0_0
  have HB := zA.mk (yry w.heap.size w)
  have H : ((zU.f k l0_0).bind fun t102 => (if t102 = true then (if (l0_0.length : Int) > 6 then (some 3) else (some 0)) else (some 1))) = some r := h
  clear h
  replace H := ydy.mp H
  obtain ⟨t102, A20, H⟩ := H
  replace H : (if t102 = true then (if (l0_0.length : Int) > 6 then (some 3) else (some 0)) else (some 1)) = some r := H
  have A2 := zA.mk A20
  clear A20
  by_cases c3 : t102 = true
  · subst c3
    have H1 : (if (l0_0.length : Int) > 6 then (some 3) else (some 0)) = some r := by rw [if_pos rfl] at H; exact H
    clear H
    have H := H1
    clear H1
    by_cases c4 : (l0_0.length : Int) > 6
    · rw [if_pos c4] at H
      have c4b0 : decide (6 < (l0_0.length : Int)) = true := ygy c4
      have c4b1 : decide (6 < l0_0.length) = true := ygy (by omega)
      clear c4
      obtain rfl := yey H
      go_enter Try.func64, Try.ntmps64
      go_wp2_with (first | ((with_reducible refine zm (N := 1) rfl ?_); refine zo ?hg (N := 1) ?hd (cs := #[.slice A0_0 l0_0.length c0_0]) (t := 30) ?hr ?_; (case hd => rfl); (case hg => rfl); (case hr => first | (go_simp; done) | (go_simp; rfl)); intro gb101 hg w5 hbox hb; have n0_ := zA.mk (zN (by repeat (first | (with_reducible first | exact HB.out | apply zC | apply zB | apply zD) | exact HB.out)) hb); have n1_ := zA.mk (hbox); have n2_ := zA.mk ((by rw [hg]; exact (zO (by repeat (first | (with_reducible first | exact HB.out | apply zC | apply zB | apply zD) | exact HB.out))) : w.heap.size ≤ gb101)); have n3_ := zA.mk ((by rw [hg]; exact (zO (by repeat (first | (with_reducible first | exact HB.out | apply zC | apply zB | apply zD) | exact HB.out))) : w.heap.size ≤ gb101)); clear HB; have HB := n0_; have BK101 := n1_; have GW101 := n2_; have GE101 := n3_; clear n0_ n1_ n2_ n3_; clear hb hbox hg; have hcz6_0 : w5.cell? ⟨gb101, 0, none⟩ = some (.slice A0_0 l0_0.length c0_0) := (zK BK101.out 0).trans rfl; have hfz6_0 := zM BK101.out 0) | ((with_reducible refine zT (f := 106) rfl ?_); refine qH (some 5) rfl rfl Try.func106 (by kernel_rfl) rfl #[.agg #[.slice A0_0 l0_0.length c0_0]] rfl (by (try simp only [yiy, yjy, yky]); first | done | rfl | (simp only [yly, ymy]; rfl)) ?_; (with_reducible refine (zU.calls k _ _ l0_0 true _ ?side1 ?side2 A2.out).mono ?_); (case side1 => repeat (first | exact (Kd.zl HR0_0.out HB.out) | (with_reducible refine Kd.zh ?_ _) | (with_reducible refine Kd.zi ?_ _) | (with_reducible refine Kd.qA ?_))); (case side2 => exact HC0_0.out); rintro e w7 ⟨rfl, hb⟩; refine ⟨_, rfl, ?_⟩; have n0_ := zA.mk (zP (g := gb101) (o := .cells #[.slice A0_0 l0_0.length c0_0] 30 (0, 0)) (by (with_reducible repeat (first | refine zI ?_ _ | refine zJ ?_ | refine zH ?_ _)); exact BK101.out) hb); have n1_ := zA.mk (zN (by repeat (first | (with_reducible first | exact HB.out | apply zC | apply zB | apply zD | refine zF ?_ GE101.out) | exact HB.out)) hb); clear BK101; clear HB; have BK101 := n0_; have HB := n1_; clear n0_ n1_; (try clear hb); (try clear hb2); (try clear hk); (try clear hi); have hcz8_0 : w7.cell? ⟨gb101, 0, none⟩ = some (.slice A0_0 l0_0.length c0_0) := (zK BK101.out 0).trans rfl; have hfz8_0 := zM BK101.out 0))
      go_ret
      exact ⟨by first | rfl | (simp [zQ, zR] <;> rfl) | (simp [*, zQ, zR] <;> rfl), by repeat (first | (with_reducible first | exact HB.out | apply zC | apply zB | apply zD | refine zF ?_ GE101.out) | exact HB.out)⟩
    · rw [if_neg c4] at H
      have c4b0 : decide (6 < (l0_0.length : Int)) = false := yhy c4
      have c4b1 : decide (6 < l0_0.length) = false := yhy (by omega)
      clear c4
      obtain rfl := yey H
      go_enter Try.func64, Try.ntmps64
      go_wp2_with (first | ((with_reducible refine zm (N := 1) rfl ?_); refine zo ?hg (N := 1) ?hd (cs := #[.slice A0_0 l0_0.length c0_0]) (t := 30) ?hr ?_; (case hd => rfl); (case hg => rfl); (case hr => first | (go_simp; done) | (go_simp; rfl)); intro gb101 hg w9 hbox hb; have n0_ := zA.mk (zN (by repeat (first | (with_reducible first | exact HB.out | apply zC | apply zB | apply zD) | exact HB.out)) hb); have n1_ := zA.mk (hbox); have n2_ := zA.mk ((by rw [hg]; exact (zO (by repeat (first | (with_reducible first | exact HB.out | apply zC | apply zB | apply zD) | exact HB.out))) : w.heap.size ≤ gb101)); have n3_ := zA.mk ((by rw [hg]; exact (zO (by repeat (first | (with_reducible first | exact HB.out | apply zC | apply zB | apply zD) | exact HB.out))) : w.heap.size ≤ gb101)); clear HB; have HB := n0_; have BK101 := n1_; have GW101 := n2_; have GE101 := n3_; clear n0_ n1_ n2_ n3_; clear hb hbox hg; have hcz10_0 : w9.cell? ⟨gb101, 0, none⟩ = some (.slice A0_0 l0_0.length c0_0) := (zK BK101.out 0).trans rfl; have hfz10_0 := zM BK101.out 0) | ((with_reducible refine zT (f := 106) rfl ?_); refine qH (some 5) rfl rfl Try.func106 (by kernel_rfl) rfl #[.agg #[.slice A0_0 l0_0.length c0_0]] rfl (by (try simp only [yiy, yjy, yky]); first | done | rfl | (simp only [yly, ymy]; rfl)) ?_; (with_reducible refine (zU.calls k _ _ l0_0 true _ ?side1 ?side2 A2.out).mono ?_); (case side1 => repeat (first | exact (Kd.zl HR0_0.out HB.out) | (with_reducible refine Kd.zh ?_ _) | (with_reducible refine Kd.zi ?_ _) | (with_reducible refine Kd.qA ?_))); (case side2 => exact HC0_0.out); rintro e w11 ⟨rfl, hb⟩; refine ⟨_, rfl, ?_⟩; have n0_ := zA.mk (zP (g := gb101) (o := .cells #[.slice A0_0 l0_0.length c0_0] 30 (0, 0)) (by (with_reducible repeat (first | refine zI ?_ _ | refine zJ ?_ | refine zH ?_ _)); exact BK101.out) hb); have n1_ := zA.mk (zN (by repeat (first | (with_reducible first | exact HB.out | apply zC | apply zB | apply zD | refine zF ?_ GE101.out) | exact HB.out)) hb); clear BK101; clear HB; have BK101 := n0_; have HB := n1_; clear n0_ n1_; (try clear hb); (try clear hb2); (try clear hk); (try clear hi); have hcz12_0 : w11.cell? ⟨gb101, 0, none⟩ = some (.slice A0_0 l0_0.length c0_0) := (zK BK101.out 0).trans rfl; have hfz12_0 := zM BK101.out 0))
      go_ret
      exact ⟨by first | rfl | (simp [zQ, zR] <;> rfl) | (simp [*, zQ, zR] <;> rfl), by repeat (first | (with_reducible first | exact HB.out | apply zC | apply zB | apply zD | refine zF ?_ GE101.out) | exact HB.out)⟩
  · replace c3 := Bool.eq_false_iff.mpr c3
    subst c3
    have H1 : (some 1) = some r := by rw [if_neg (show ¬ (false = true) by decide)] at H; exact H
    clear H
    have H := H1
    clear H1
    obtain rfl := yey H
    go_enter Try.func64, Try.ntmps64
    go_wp2_with (first | ((with_reducible refine zm (N := 1) rfl ?_); refine zo ?hg (N := 1) ?hd (cs := #[.slice A0_0 l0_0.length c0_0]) (t := 30) ?hr ?_; (case hd => rfl); (case hg => rfl); (case hr => first | (go_simp; done) | (go_simp; rfl)); intro gb101 hg w13 hbox hb; have n0_ := zA.mk (zN (by repeat (first | (with_reducible first | exact HB.out | apply zC | apply zB | apply zD) | exact HB.out)) hb); have n1_ := zA.mk (hbox); have n2_ := zA.mk ((by rw [hg]; exact (zO (by repeat (first | (with_reducible first | exact HB.out | apply zC | apply zB | apply zD) | exact HB.out))) : w.heap.size ≤ gb101)); have n3_ := zA.mk ((by rw [hg]; exact (zO (by repeat (first | (with_reducible first | exact HB.out | apply zC | apply zB | apply zD) | exact HB.out))) : w.heap.size ≤ gb101)); clear HB; have HB := n0_; have BK101 := n1_; have GW101 := n2_; have GE101 := n3_; clear n0_ n1_ n2_ n3_; clear hb hbox hg; have hcz14_0 : w13.cell? ⟨gb101, 0, none⟩ = some (.slice A0_0 l0_0.length c0_0) := (zK BK101.out 0).trans rfl; have hfz14_0 := zM BK101.out 0) | ((with_reducible refine zT (f := 106) rfl ?_); refine qH (some 5) rfl rfl Try.func106 (by kernel_rfl) rfl #[.agg #[.slice A0_0 l0_0.length c0_0]] rfl (by (try simp only [yiy, yjy, yky]); first | done | rfl | (simp only [yly, ymy]; rfl)) ?_; (with_reducible refine (zU.calls k _ _ l0_0 false _ ?side1 ?side2 A2.out).mono ?_); (case side1 => repeat (first | exact (Kd.zl HR0_0.out HB.out) | (with_reducible refine Kd.zh ?_ _) | (with_reducible refine Kd.zi ?_ _) | (with_reducible refine Kd.qA ?_))); (case side2 => exact HC0_0.out); rintro e w15 ⟨rfl, hb⟩; refine ⟨_, rfl, ?_⟩; have n0_ := zA.mk (zP (g := gb101) (o := .cells #[.slice A0_0 l0_0.length c0_0] 30 (0, 0)) (by (with_reducible repeat (first | refine zI ?_ _ | refine zJ ?_ | refine zH ?_ _)); exact BK101.out) hb); have n1_ := zA.mk (zN (by repeat (first | (with_reducible first | exact HB.out | apply zC | apply zB | apply zD | refine zF ?_ GE101.out) | exact HB.out)) hb); clear BK101; clear HB; have BK101 := n0_; have HB := n1_; clear n0_ n1_; (try clear hb); (try clear hb2); (try clear hk); (try clear hi)))
    go_ret
    exact ⟨by first | rfl | (simp [zQ, zR] <;> rfl) | (simp [*, zQ, zR] <;> rfl), by repeat (first | (with_reducible first | exact HB.out | apply zC | apply zB | apply zD | refine zF ?_ GE101.out) | exact HB.out)⟩
def qw.f (l0 : List Int) : Option (List Int) := if l0.length < 17592186044416 then some l0 else none
set_option maxHeartbeats 8000000 in
set_option maxRecDepth 100000 in
theorem qw.calls (A0 : Option Addr) (c0 : Nat) (l0 : List Int) (r : List Int) (w : World) (hr0 : Kd.C (Kd.int .i64) w A0 l0.length l0) (hc0 : l0.length ≤ c0) (h : qw.f l0 = some r) :
    Calls Try.prog 95 #[.slice A0 l0.length c0] w fun e w' => ∃ v0_ : Value, e = .returned (v0_) ∧ Kd.R (Kd.int .i64) 2 w' w.heap.size (fun _ => True) v0_ r ∧ Below w.heap.size w w' := by
  have hlt : l0.length < 17592186044416 := by
    unfold qw.f at h
    by_cases c : l0.length < 17592186044416
    · exact c
    · rw [if_neg c] at h; exact absurd h (by simp)
  have hr : l0 = r := by
    unfold qw.f at h
    rw [if_pos hlt] at h
    exact yey h
  clear h
  have HL := zA.mk hlt
  clear hlt
  subst hr
  have HR0 := zA.mk hr0
  have HC0 := zA.mk hc0
  clear hr0 hc0
  have HB := zA.mk (yry w.heap.size w)
  have heq := fun (W : World) (n : Nat) => Lib.run_eql_slice_nil (P := Try.prog) W 25 2 A0 n c0 0 0 Try.underlying25
  cases A0 with
  | none =>
    have hz : l0.length = 0 := by
      rcases Nat.eq_zero_or_pos l0.length with h | h
      · exact h
      · obtain ⟨ad, h1, _⟩ := HR0.out.2.2 h
        cases h1
    have hl0 := List.eq_nil_of_length_eq_zero hz
    clear hz
    subst hl0
    simp only [Option.isNone_none] at heq
    go_enter Try.func95, Try.ntmps95
    go_wp2
    go_ret
    exact ⟨_, rfl, Kd.zA9 _ _ _ _ _, HB.out⟩
  | some ad =>
    simp only [Option.isNone_some] at heq
    go_enter Try.func95, Try.ntmps95
    go_wp2_with (first | ((with_reducible refine zm (N := 5) rfl ?_); refine Kd.zCL (Kd.int .i64) _ 2 ?hg (N := 5) ?hd (xs := ([] : List Int)) (inner := []) (ok := fun _ => True) (okp := fun _ => True) ?hr ?hp (fun _ hk => hk) trivial (yry _ _) (yqy _) (by simp) ?_; (case hd => rfl); (case hg => rfl); (case hr => first | (go_simp; done) | (go_simp; rfl)); (case hp => exact (QY.none _ _)); intro v102 w2 ho3 hb hg_ hnew_; clear hg_ hnew_; have n0_ := zA.mk (Kd.ZU ho3 (zO HB.out)); have n1_ := zA.mk (zN HB.out hb); clear HB; have HO103 := n0_; have HB := n1_; clear n0_ n1_; clear hb ho3) | ((with_reducible refine Zn (b := .append) (xs := #[.tmp 5, .tmp 6]) rfl ?_); at_builtin; refine Kd.zAJ (Kd.int .i64) (Rr := fun x cs => cs = [.int .i64 x]) (w0 := w) w.heap.size rfl (.tmp 5) (.tmp 6) 25 2 (.int .i64 0) 8 rfl Try.underlying25 JP rfl (by decide) (by omega) v102 ([] : List Int) l0 (some ad) l0.length c0 (fun _ => True) (fun _ => False) rfl rfl ?aO ?aR (fun _ _ h => h) (fun _ hk => hk.elim) (fun _ _ => trivial) ?aB ?aS ?aL ?_; (case aO => exact HO103.out); (case aR => exact Kd.zl HR0.out HB.out); (case aB => exact HB.out); (case aS => exact zO HB.out); (case aL => have := HL.out; simp; omega); intro v106 w8 ho hb hg hat; rw [List.nil_append] at ho; have n0_ := zA.mk hb; have n1_ := zA.mk ho; clear HB; have HB := n0_; have HO107 := n1_; clear n0_ n1_; clear ho hb hg hat))
    go_ret
    exact ⟨_, rfl, HO107.out, HB.out⟩
def Zb.l0 : Nat → List Int → List Int → Int → Int → Option (List Int)
  | 0, _, _, _, _ => none
  | k + 1, x5, x10, x11, x12 => if x12 < x11 then (if 0 ≤ x12 then (if x12 < (x10.length : Int) then (if x12 < (x5.length : Int) then (Zb.l0 k (x5.set (x12 : Int).toNat (wrap64 ((rd x5 x12) + (rd x10 x12)))) x10 x11 (wrap64 (x12 + 1))) else (none)) else (none)) else (none)) else (some x5)
def Zb.f (k : Nat) (l0 : List Int) (l1 : List Int) : Option (List Int) := (qw.f l0).bind fun t101 => (Zb.l0 k t101 l1 (l1.length : Int) 0)
set_option maxHeartbeats 8000000 in
set_option maxRecDepth 100000 in
theorem Zb.calls (k : Nat) (A0 : Option Addr) (c0 : Nat) (l0 : List Int) (A1 : Option Addr) (c1 : Nat) (l1 : List Int) (r : List Int) (w : World) (hr0 : Kd.C (Kd.int .i64) w A0 l0.length l0) (hc0 : l0.length ≤ c0) (hr1 : Kd.C (Kd.int .i64) w A1 l1.length l1) (hc1 : l1.length ≤ c1) (h : Zb.f k l0 l1 = some r) :
    Calls Try.prog 85 #[.slice A0 l0.length c0, .slice A1 l1.length c1] w fun e w' => ∃ v0_ : Value, e = .returned (v0_) ∧ Kd.R (Kd.int .i64) 2 w' w.heap.size (fun _ => True) v0_ r ∧ Below w.heap.size w w' := by
  have HR0 := zA.mk hr0
  have HC0 := zA.mk hc0
  clear hr0 hc0
  have HR1 := zA.mk hr1
  have HC1 := zA.mk hc1
  clear hr1 hc1
  have HB := zA.mk (yry w.heap.size w)
  have H : ((qw.f l0).bind fun t101 => (Zb.l0 k t101 l1 (l1.length : Int) 0)) = some r := h
  clear h
  replace H := ydy.mp H
  obtain ⟨t101, A30, H⟩ := H
  replace H : (Zb.l0 k t101 l1 (l1.length : Int) 0) = some r := H
  have A3 := zA.mk A30
  clear A30
  have H' := zA.mk H
  clear H
  go_enter Try.func85, Try.ntmps85
  go_wp2_with (first | ((with_reducible refine zT (f := 95) rfl ?_); refine qH (some 9) rfl rfl Try.func95 (by kernel_rfl) rfl #[.slice A0 l0.length c0] rfl (by (try simp only [yiy, yjy, yky]); first | done | rfl | (simp only [yly, ymy]; rfl)) ?_; (with_reducible refine (qw.calls _ _ l0 t101 _ ?side1 ?side2 A3.out).mono ?_); (case side1 => repeat (first | exact HR0.out | (with_reducible refine Kd.zh ?_ _) | (with_reducible refine Kd.zi ?_ _) | (with_reducible refine Kd.qA ?_))); (case side2 => exact HC0.out); rintro e w4 ⟨v102, rfl, ho0, hb⟩; refine ⟨_, rfl, ?_⟩; have n0_ := zA.mk (Kd.ZU ho0 (zO (by repeat (first | (with_reducible first | exact HB.out | apply zC | apply zB | apply zD) | exact HB.out)))); have n1_ := zA.mk (zN (by repeat (first | (with_reducible first | exact HB.out | apply zC | apply zB | apply zD) | exact HB.out)) hb); clear HB; have HO103 := n0_; have HB := n1_; clear n0_ n1_; (try clear hb); (try clear hb2); (try clear hk); (try clear hi); (try clear ho0)))
  go_loopg [12] k (fun kq v12 w' => ∃ (x5_1 : List Int) (x12_1 : Int), v12 = .int .i64 x12_1 ∧ zA (Zb.l0 kq x5_1 l1 (l1.length : Int) x12_1 = some r) ∧ zA (kq ≤ k) ∧ zA (Kd.R (Kd.int .i64) 2 w' w.heap.size (fun _ => True) v102 x5_1) ∧ zA (Below w.heap.size w w'))
  case atStart => exact ⟨(t101), (0), (by first | rfl | (simp; done) | (simp [*]; done)), H', ⟨yqy _⟩, ⟨by (with_reducible repeat (first | apply Kd.zg | apply Kd.zf | apply Kd.zu)); exact HO103.out⟩, ⟨by repeat (first | (with_reducible first | exact HB.out | apply zC | apply zB | apply zD) | exact HB.out)⟩⟩
  case round =>
    clear H'
    try clear c1
    try clear p2
    obtain ⟨x5_1, x12_1, rfl, HA, HK1, HO_5, HB⟩ := hrel
    cases gk with
    | zero => exact absurd HA.out (by simp [Zb.l0])
    | succ k1 =>
      have H := HA.out
      clear HA
      simp only [Zb.l0] at H
      by_cases c5 : x12_1 < (l1.length : Int)
      · rw [if_pos c5] at H
        have c5b0 : decide (x12_1 < (l1.length : Int)) = true := ygy c5
        clear c5
        by_cases c6 : 0 ≤ x12_1
        · rw [if_pos c6] at H
          have c6b0 : decide (0 ≤ x12_1) = true := ygy c6
          clear c6
          by_cases c7 : x12_1 < (l1.length : Int)
          · rw [if_pos c7] at H
            have c7b0 : decide (x12_1 < (l1.length : Int)) = true := ygy c7
            clear c7
            by_cases c8 : x12_1 < (x5_1.length : Int)
            · rw [if_pos c8] at H
              have c8b0 : decide (x12_1 < (x5_1.length : Int)) = true := ygy c8
              clear c8
              obtain ⟨y106, hy106⟩ : ∃ y_ : List Int, y_ = (x5_1.set (x12_1 : Int).toNat (wrap64 ((rd x5_1 x12_1) + (rd l1 x12_1)))) := ⟨_, rfl⟩
              replace H : (Zb.l0 k1 y106 l1 (l1.length : Int) (wrap64 (x12_1 + 1))) = some r := by first | (rw [hy106]; with_reducible exact H) | (have H2_ := (yfy _ _).symm.trans H; rw [hy106]; with_reducible exact H2_) | (have H2_ := (yfy _ _).symm.trans H; with_reducible exact H2_) | with_reducible exact H | (rw [hy106]; exact H) | exact H
              have Ny106 := zA.mk hy106
              clear hy106
              have H' := zA.mk H
              clear H
              have p104 : 0 ≤ (x12_1 : Int) := of_decide_eq_true (by first | (with_reducible assumption) | assumption)
              have q104 : x12_1 < (l1.length : Int) := of_decide_eq_true (by first | (with_reducible assumption) | assumption)
              obtain ⟨ad104, e104, hx104_0⟩ := Kd.ZD HR1.out x12_1 p104 q104
              cases e104
              replace hx104_0 := (HB.out.cell (ypy w _ hx104_0)).trans hx104_0
              replace p104 := eq_true p104
              replace q104 := eq_true q104
              obtain ⟨Ao10, co10, eo10⟩ := Kd.ZN HO_5.out
              subst eo10
              have p105 : 0 ≤ (x12_1 : Int) := of_decide_eq_true (by first | (with_reducible assumption) | assumption)
              have q105 : x12_1 < (x5_1.length : Int) := of_decide_eq_true (by first | (with_reducible assumption) | assumption)
              obtain ⟨ad105, e105, hx105_0⟩ := Kd.ZD (Kd.zv HO_5.out).2.2 x12_1 p105 q105
              cases e105
              replace p105 := eq_true p105
              replace q105 := eq_true q105
              have p9 : 0 ≤ (x12_1 : Int) := of_decide_eq_true (by first | (with_reducible assumption) | assumption)
              have q9 : (x12_1 : Int) < ((x5_1.length : Int) : Int) := of_decide_eq_true (by first | (with_reducible assumption) | assumption)
              obtain ⟨go9, co9, eo9, gb9, gl9, cl9, HG9⟩ := Kd.zA7 HO_5.out (by omega)
              (first | cases eo9 | (injection eo9 with ea_ en_ ec_; (first | subst ea_ | (injection ea_ with ea_; subst ea_)); subst ec_; clear en_))
              have GB9 := zA.mk gb9
              have GG9 := zA.mk HG9
              clear gb9 gl9 HG9
              (first | simp only [add_plain] at hx105_0 | skip)
              obtain ⟨hx9_0, hf9_0⟩ := Kd.QA 0 HO_5.out (x12_1 : Int) p9 q9
              replace p9 := eq_true p9
              replace q9 := eq_true q9
              have HP11 := Kd.Jh HO_5.out (x12_1 : Int) (wrap64 ((rd x5_1 x12_1) + (rd l1 x12_1)))
              go_wp2_with (first | ((with_reducible refine ZK (t := 2) (p := 23) rfl ?_); refine ZE (t := 2) (p := 23) (v := ?vo_w12) (w1 := (wr.setCell ⟨go9, (x12_1 : Int).toNat, none⟩ (.int .i64 (wrap64 ((rd x5_1 x12_1) + (rd l1 x12_1)))))) ?hg ?ho ?hn ?hr ?_; (case ho => rfl); (case hg => rfl); (case hn => rfl); (case hr => first | (go_simp; done) | (go_simp; rfl)); intro w12 hw; have hg : wr.grownBy w12 (some go9) := (by rw [hw]; exact HP11.2); have hp_ : Kd.R (Kd.int .i64) 2 w12 w.heap.size (fun _ => True) (.slice (some ⟨go9, 0, none⟩) x5_1.length co10) y106 := (by rw [hw, Ny106.out]; exact HP11.1); clear HP11; have n0_ := zA.mk (hp_); have n1_ := zA.mk ((by rw [hw]; exact zF (HB.out) GB9.out : Below w.heap.size w w12)); clear HO_5; clear HB; have HO_5 := n0_; have HB := n1_; clear n0_ n1_; clear hg hw hp_))
              go_roundg k1
              case measure => have := HK1.out; omega
              case rel => exact ⟨(y106), (wrap64 (x12_1 + 1)), (by first | rfl | (simp; done) | (simp [*]; done)), H', ⟨by have := HK1.out; omega⟩, ⟨by (with_reducible repeat (first | apply Kd.zg | apply Kd.zf | apply Kd.zu)); exact HO_5.out⟩, ⟨by repeat (first | (with_reducible first | exact HB.out | apply zC | apply zB | apply zD) | exact HB.out)⟩⟩
            · rw [if_neg c8] at H
              exact absurd H (by simp)
          · rw [if_neg c7] at H
            exact absurd H (by simp)
        · rw [if_neg c6] at H
          exact absurd H (by simp)
      · rw [if_neg c5] at H
        have c5b0 : decide (x12_1 < (l1.length : Int)) = false := yhy c5
        clear c5
        obtain rfl := yey H
        go_wp2
        go_ret
        exact ⟨_, by first | rfl | (simp [zQ, zR] <;> rfl) | (simp [*, zQ, zR] <;> rfl), by (with_reducible repeat (first | apply Kd.zg | apply Kd.zf | apply Kd.zu)); exact HO_5.out, by repeat (first | (with_reducible first | exact HB.out | apply zC | apply zB | apply zD) | exact HB.out)⟩
def Zc (p : List Int → Bool) : Nat → List (List Int) → Int
  | _, [] => -1
  | i, x :: xs => if p x = true then (i : Int) else Zc p (i + 1) xs
theorem Jl (p : List Int → Bool) : ∀ (l : List (List Int)) (i : Nat), decide (0 ≤ Zc p i l) = l.any p
  | [], _ => rfl
  | x :: xs, i => by
    rw [Zc, List.any_cons, ← Jl p xs (i + 1)]
    cases p x with
    | true => rw [if_pos rfl]; simp
    | false => rw [if_neg (by simp)]; simp
set_option maxHeartbeats 8000000 in
set_option maxRecDepth 100000 in
theorem JG.calls (p : List Int → Bool) (k1_ : Value) (A0 : Option Addr) (c0 : Nat) (l0 : List (List Int)) (w : World) (hr0 : Kd.C (Kd.slice 2 (Kd.int .i64)) w A0 l0.length l0)
    (hp : ∀ (W : World) (x : List Int) (A1 : Option Addr) (c1 : Nat), x ∈ l0 → Below w.heap.size w W → Kd.C (Kd.int .i64) W A1 x.length x → x.length ≤ c1 → Calls Try.prog 90 #[.slice A1 x.length c1, k1_] W fun e W' => e = .returned (.bool (p x)) ∧ Below W.heap.size W W') :
    Calls Try.prog 129 #[.slice A0 l0.length c0, .func (.func 90) #[] #[k1_]] w fun e w' => e = .returned (.int .i64 (Zc p 0 l0)) ∧ Below w.heap.size w w' := by
  have HR0 := zA.mk hr0
  have HP := zA.mk hp
  clear hr0 hp
  have hbig : l0.length ≤ 9223372036854775807 := HR0.out.2.1
  have HB := zA.mk (yry w.heap.size w)
  have H' : zA (Zc p 0 (l0.drop 0) = Zc p 0 l0) := ⟨by rw [List.drop_zero]⟩
  generalize Zc p 0 l0 = r at H' ⊢
  go_enter Try.func129, Try.ntmps129
  go_wp2
  go_loopg [5, 8] l0.length (fun gg v5 v8 w' => ∃ kk : Nat, kk ≤ l0.length ∧ l0.length - kk ≤ gg ∧ v8 = .int .i64 kk ∧ zA (Zc p kk (l0.drop kk) = r) ∧ zA (Below w.heap.size w w'))
  case atStart => exact ⟨0, Nat.zero_le _, by omega, rfl, H', HB⟩
  case round =>
    clear H' HB
    obtain ⟨kk, hkk, hg, rfl, HA, HB⟩ := hrel
    by_cases hlt : kk < l0.length
    · have hltz : (kk : Int) < (l0.length : Int) := by omega
      have H := HA.out
      clear HA
      rw [yoy hlt, Zc] at H
      obtain ⟨ad, A1, c1, e104, hx, hl1, hi1⟩ := QM HR0.out (kk : Int) (by omega) (by omega)
      have ex : zV l0 (kk : Int) = l0[kk] := by simp [zV, hlt]
      rw [ex] at hx hl1 hi1
      rw [yny] at hx
      replace hx := (HB.out.cell (ypy w _ hx)).trans hx
      replace hi1 := Kd.zl hi1 HB.out
      have HC := zA.mk (HP.out wr l0[kk] A1 c1 (List.getElem_mem hlt) HB.out hi1 hl1)
      generalize l0[kk] = y at hx H HC
      clear ex hl1 hi1
      cases e104
      cases hq : p y with
      | true =>
        rw [hq] at HC H
        rw [if_pos rfl] at H
        have H2 := zA.mk H
        clear H
        go_wp2_with fail
        refine HC.out.mono ?_
        rintro e w' ⟨rfl, hd⟩
        have HB2 := zA.mk (zN HB.out hd)
        clear hd HB HC
        go_wp2
        go_ret
        exact ⟨by rw [← H2.out]; rfl, HB2.out⟩
      | false =>
        rw [hq] at HC H
        rw [if_neg (by simp)] at H
        have H2 := zA.mk H
        clear H
        go_wp2_with fail
        refine HC.out.mono ?_
        rintro e w' ⟨rfl, hd⟩
        have HB2 := zA.mk (zN HB.out hd)
        clear hd HB HC
        go_wp2
        go_roundg (l0.length - (kk + 1))
        case measure => omega
        case rel => exact ⟨kk + 1, by omega, by omega, by go_num, H2, HB2⟩
    · have hltz : ¬ (kk : Int) < (l0.length : Int) := by omega
      have e : kk = l0.length := by omega
      subst e
      have H2 := zA.mk (show (-1 : Int) = r by have := HA.out; rwa [List.drop_length, Zc] at this)
      clear HA
      go_wp2
      go_ret
      exact ⟨by rw [← H2.out]; rfl, HB.out⟩
set_option maxHeartbeats 8000000 in
set_option maxRecDepth 100000 in
theorem Qp.calls (p : List Int → Bool) (k1_ : Value) (A0 : Option Addr) (c0 : Nat) (l0 : List (List Int)) (w : World) (hr0 : Kd.C (Kd.slice 2 (Kd.int .i64)) w A0 l0.length l0)
    (hp : ∀ (W : World) (x : List Int) (A1 : Option Addr) (c1 : Nat), x ∈ l0 → Below w.heap.size w W → Kd.C (Kd.int .i64) W A1 x.length x → x.length ≤ c1 → Calls Try.prog 90 #[.slice A1 x.length c1, k1_] W fun e W' => e = .returned (.bool (p x)) ∧ Below W.heap.size W W') :
    Calls Try.prog 89 #[.slice A0 l0.length c0, .func (.func 90) #[] #[k1_]] w fun e w' => e = .returned (.bool (l0.any p)) ∧ Below w.heap.size w w' := by
  have HR0 := zA.mk hr0
  have HP := zA.mk hp
  have HA := zA.mk (Jl p l0 0)
  clear hr0 hp
  generalize l0.any p = b at HA ⊢
  go_enter Try.func89, Try.ntmps89
  go_wp2_with fail
  refine (JG.calls p k1_ A0 c0 l0 w HR0.out HP.out).mono ?_
  rintro e w' ⟨rfl, hd⟩
  have HB := zA.mk hd
  generalize Zc p 0 l0 = q at HA
  clear hd
  go_wp2
  go_ret
  exact ⟨by rw [← HA.out]; rfl, HB.out⟩
def ZR (p : Int → Bool) : Nat → List (Int) → Int
  | _, [] => -1
  | i, x :: xs => if p x = true then (i : Int) else ZR p (i + 1) xs
theorem JY (p : Int → Bool) : ∀ (l : List (Int)) (i : Nat), decide (0 ≤ ZR p i l) = l.any p
  | [], _ => rfl
  | x :: xs, i => by
    rw [ZR, List.any_cons, ← JY p xs (i + 1)]
    cases p x with
    | true => rw [if_pos rfl]; simp
    | false => rw [if_neg (by simp)]; simp
set_option maxHeartbeats 8000000 in
set_option maxRecDepth 100000 in
theorem JD.calls (p : Int → Bool) (A0 : Option Addr) (c0 : Nat) (l0 : List (Int)) (w : World) (hr0 : Kd.C (Kd.int .i64) w A0 l0.length l0)
    (hp : ∀ (W : World) (x : Int), x ∈ l0 → Below w.heap.size w W → Calls Try.prog 91 #[.int .i64 x] W fun e W' => e = .returned (.bool (p x)) ∧ Below W.heap.size W W') :
    Calls Try.prog 127 #[.slice A0 l0.length c0, .func (.func 91) #[] #[]] w fun e w' => e = .returned (.int .i64 (ZR p 0 l0)) ∧ Below w.heap.size w w' := by
  have HR0 := zA.mk hr0
  have HP := zA.mk hp
  clear hr0 hp
  have hbig : l0.length ≤ 9223372036854775807 := HR0.out.2.1
  have HB := zA.mk (yry w.heap.size w)
  have H' : zA (ZR p 0 (l0.drop 0) = ZR p 0 l0) := ⟨by rw [List.drop_zero]⟩
  generalize ZR p 0 l0 = r at H' ⊢
  go_enter Try.func127, Try.ntmps127
  go_wp2
  go_loopg [5, 8] l0.length (fun gg v5 v8 w' => ∃ kk : Nat, kk ≤ l0.length ∧ l0.length - kk ≤ gg ∧ v8 = .int .i64 kk ∧ zA (ZR p kk (l0.drop kk) = r) ∧ zA (Below w.heap.size w w'))
  case atStart => exact ⟨0, Nat.zero_le _, by omega, rfl, H', HB⟩
  case round =>
    clear H' HB
    obtain ⟨kk, hkk, hg, rfl, HA, HB⟩ := hrel
    by_cases hlt : kk < l0.length
    · have hltz : (kk : Int) < (l0.length : Int) := by omega
      have H := HA.out
      clear HA
      rw [yoy hlt, ZR] at H
      obtain ⟨ad, e104, hx⟩ := Kd.ZD HR0.out (kk : Int) (by omega) (by omega)
      have ex : rd l0 (kk : Int) = l0[kk] := by simp [rd, hlt]
      rw [ex, yny] at hx
      replace hx := (HB.out.cell (ypy w _ hx)).trans hx
      have HC := zA.mk (HP.out wr l0[kk] (List.getElem_mem hlt) HB.out)
      generalize l0[kk] = y at hx H HC
      clear ex
      cases e104
      cases hq : p y with
      | true =>
        rw [hq] at HC H
        rw [if_pos rfl] at H
        have H2 := zA.mk H
        clear H
        go_wp2_with fail
        refine HC.out.mono ?_
        rintro e w' ⟨rfl, hd⟩
        have HB2 := zA.mk (zN HB.out hd)
        clear hd HB HC
        go_wp2
        go_ret
        exact ⟨by rw [← H2.out]; rfl, HB2.out⟩
      | false =>
        rw [hq] at HC H
        rw [if_neg (by simp)] at H
        have H2 := zA.mk H
        clear H
        go_wp2_with fail
        refine HC.out.mono ?_
        rintro e w' ⟨rfl, hd⟩
        have HB2 := zA.mk (zN HB.out hd)
        clear hd HB HC
        go_wp2
        go_roundg (l0.length - (kk + 1))
        case measure => omega
        case rel => exact ⟨kk + 1, by omega, by omega, by go_num, H2, HB2⟩
    · have hltz : ¬ (kk : Int) < (l0.length : Int) := by omega
      have e : kk = l0.length := by omega
      subst e
      have H2 := zA.mk (show (-1 : Int) = r by have := HA.out; rwa [List.drop_length, ZR] at this)
      clear HA
      go_wp2
      go_ret
      exact ⟨by rw [← H2.out]; rfl, HB.out⟩
set_option maxHeartbeats 8000000 in
set_option maxRecDepth 100000 in
theorem Qk.calls (p : Int → Bool) (A0 : Option Addr) (c0 : Nat) (l0 : List (Int)) (w : World) (hr0 : Kd.C (Kd.int .i64) w A0 l0.length l0)
    (hp : ∀ (W : World) (x : Int), x ∈ l0 → Below w.heap.size w W → Calls Try.prog 91 #[.int .i64 x] W fun e W' => e = .returned (.bool (p x)) ∧ Below W.heap.size W W') :
    Calls Try.prog 86 #[.slice A0 l0.length c0, .func (.func 91) #[] #[]] w fun e w' => e = .returned (.bool (l0.any p)) ∧ Below w.heap.size w w' := by
  have HR0 := zA.mk hr0
  have HP := zA.mk hp
  have HA := zA.mk (JY p l0 0)
  clear hr0 hp
  generalize l0.any p = b at HA ⊢
  go_enter Try.func86, Try.ntmps86
  go_wp2_with fail
  refine (JD.calls p A0 c0 l0 w HR0.out HP.out).mono ?_
  rintro e w' ⟨rfl, hd⟩
  have HB := zA.mk hd
  generalize ZR p 0 l0 = q at HA
  clear hd
  go_wp2
  go_ret
  exact ⟨by rw [← HA.out]; rfl, HB.out⟩
def zGa (k : Nat) (t : List (List zq)) (l : List (List Int)) : Bool := l.all fun x => (qI.f k t x).isSome
def zGb (k : Nat) (t : List (List zq)) (x : List Int) : Bool := !((qI.f k t x).getD false)
def zGc (k : Nat) : List Int → List (List Int) → Option (List Int)
  | s, [] => some s
  | s, x :: xs => (Zb.f k s x).bind fun s' => zGc k s' xs
def zAi (l : List Int) : Bool := l.any fun x => decide (x > 1000)
def Zi.f (k : Nat) (t : List (List zq)) (l : List (List Int)) : Option (List Int × Int) :=
  (QF.f k t).bind fun c => if c = 0 then (if zGa k t l = true then (if l.any (zGb k t) = true then some ([], 5) else if t.length ≤ 1000 then (zGc k (List.replicate (7 * t.length) 0) l).bind fun s => (if zAi s = true then some ([], 3) else some (s, 0)) else none) else none) else some ([], c)
set_option maxHeartbeats 8000000 in
set_option maxRecDepth 100000 in
theorem zB1.calls (k : Nat) (gb : Nat) (A0 : Option Addr) (c0 : Nat) (t : List (List zq)) (A1 : Option Addr) (c1 : Nat) (x : List Int) (b : Bool) (w : World) (hb : w.heap[gb]? = some (.cells #[.slice A0 t.length c0] 30 (0, 0))) (hr0 : Kd.C (Kd.slice 115 ZB) w A0 t.length t) (hc0 : t.length ≤ c0) (hr1 : Kd.C (Kd.int .i64) w A1 x.length x) (hc1 : x.length ≤ c1) (h : qI.f k t x = some b) :
    Calls Try.prog 90 #[.slice A1 x.length c1, .pointer (some ⟨gb, 0, none⟩)] w fun e w' => e = .returned (.bool (!b)) ∧ Below w.heap.size w w' := by
  have hx : w.cell? ⟨gb, 0, none⟩ = some (.slice A0 t.length c0) := (zK hb 0).trans rfl
  have HA := zA.mk (qI.calls k A0 c0 t A1 c1 x b w hr0 hc0 hr1 hc1 h)
  clear hb hr0 hc0 hr1 hc1 h
  go_enter Try.func90, Try.ntmps90
  go_wp2_with fail
  refine HA.out.mono ?_
  rintro e w' ⟨rfl, hd⟩
  have HB := zA.mk hd
  clear hd
  go_wp2
  go_ret
  exact ⟨rfl, HB.out⟩
set_option maxHeartbeats 8000000 in
set_option maxRecDepth 100000 in
theorem JK.calls (A0 : Option Addr) (c0 : Nat) (l : List Int) (w : World) (hr0 : Kd.C (Kd.int .i64) w A0 l.length l) :
    Calls Try.prog 86 #[.slice A0 l.length c0, .func (.func 91) #[] #[]] w fun e w' => e = .returned (.bool (zAi l)) ∧ Below w.heap.size w w' :=
  Qk.calls (fun x => decide (x > 1000)) A0 c0 l w hr0 (fun W x hx hB => (Qn.calls x _ W rfl).mono fun e w' ⟨h1, h2⟩ => ⟨h1, zX.below h2⟩)
set_option maxHeartbeats 8000000 in
set_option maxRecDepth 100000 in
theorem Zi.calls (k : Nat) (A0_0 : Option Addr) (c0_0 : Nat) (l0_0 : List (List (zq))) (A1 : Option Addr) (c1 : Nat) (l1 : List (List Int)) (r1 : List Int) (r2 : Int) (w : World) (hr0_0 : Kd.C (Kd.slice 115 ZB) w A0_0 l0_0.length l0_0) (hc0_0 : l0_0.length ≤ c0_0) (hr1 : Kd.C (Kd.slice 2 (Kd.int .i64)) w A1 l1.length l1) (hc1 : l1.length ≤ c1) (h : Zi.f k l0_0 l1 = some (r1, r2)) :
    Calls Try.prog 47 #[.agg #[.slice A0_0 l0_0.length c0_0], .slice A1 l1.length c1] w fun e w' => ∃ v0_ : Value, e = .returned (.tuple #[v0_, .int .i64 r2]) ∧ Kd.R (Kd.int .i64) 2 w' w.heap.size (fun _ => True) v0_ r1 ∧ Below w.heap.size w w' := by
  unfold Zi.f at h
  obtain ⟨c, hn, h⟩ := ydy.mp h
  have HR := zA.mk hr0_0
  have HC := zA.mk hc0_0
  have HL := zA.mk hr1
  have HN := zA.mk hn
  have hlb : l1.length ≤ 9223372036854775807 := hr1.2.1
  clear hr0_0 hc0_0 hr1 hn
  have BB := zA.mk (Qe (W := w) rfl (.cells #[.slice A0_0 l0_0.length c0_0] 30))
  have HB := zA.mk (zC (yry w.heap.size w) (.cells #[.slice A0_0 l0_0.length c0_0] 30))
  have HS := zA.mk (show w.heap.size < (w.alloc (.cells #[.slice A0_0 l0_0.length c0_0] 30)).heap.size by simp)
  go_enter Try.func47, Try.ntmps47
  go_wp2_with fail
  generalize World.alloc _ _ = w0 at BB HB HS ⊢
  refine (QF.calls k A0_0 c0_0 l0_0 c w0 (Kd.zl HR.out HB.out) HC.out HN.out).mono ?_
  rintro e w1 ⟨rfl, hb⟩
  have BB1 := zA.mk (zP BB.out hb)
  have HB1 := zA.mk (zN HB.out hb)
  have HS1 := zA.mk (show w.heap.size < w1.heap.size from Nat.lt_of_lt_of_le HS.out hb.size)
  clear hb BB HB HS HN
  by_cases hc : c = 0
  case neg =>
    rw [if_neg hc] at h
    obtain ⟨rfl, rfl⟩ := Prod.mk.inj (yey h)
    have hc0 : (c != 0) = true := by simpa using hc
    go_wp2
    go_ret2
    exact ⟨_, rfl, Kd.zA9 _ _ _ _ _, HB1.out⟩
  subst hc
  rw [if_pos rfl] at h
  by_cases ha : zGa k l0_0 l1 = true
  case neg => rw [if_neg ha] at h; cases h
  rw [if_pos ha] at h
  have hx : w1.cell? ⟨w.heap.size, 0, none⟩ = some (.slice A0_0 l0_0.length c0_0) := (zK BB1.out 0).trans rfl
  have HCF := zA.mk (Qp.calls (zGb k l0_0) (.pointer (some ⟨w.heap.size, 0, none⟩)) A1 c1 l1 w1 (Kd.zl HL.out HB1.out) (fun W x A2 c2 hxm hbW hC2 hc2 => by
    unfold zGa at ha
    rw [List.all_eq_true] at ha
    obtain ⟨b, hb⟩ := Option.isSome_iff_exists.1 (ha x hxm)
    have hW : Below w.heap.size w W := HB1.out.trans (hbW.mono (by have := HS1.out; omega))
    refine (zB1.calls k w.heap.size A0_0 c0_0 l0_0 A2 c2 x b W ((hbW.block w.heap.size HS1.out).trans BB1.out) (Kd.zl HR.out hW) HC.out hC2 hc2 hb).mono ?_
    rintro e w' ⟨rfl, hd⟩
    exact ⟨by unfold zGb; rw [hb]; rfl, hd⟩))
  clear ha
  by_cases hany : l1.any (zGb k l0_0) = true
  · rw [if_pos hany] at h
    obtain ⟨rfl, rfl⟩ := Prod.mk.inj (yey h)
    rw [hany] at HCF
    go_wp2_with fail
    refine HCF.out.mono ?_
    rintro e w2 ⟨rfl, hb⟩
    have HB2 := zA.mk (zN HB1.out hb)
    clear hb HCF HB1 BB1
    go_wp2
    go_ret2
    exact ⟨_, rfl, Kd.zA9 _ _ _ _ _, HB2.out⟩
  rw [if_neg hany] at h
  rw [Bool.eq_false_iff.mpr hany] at HCF
  by_cases hlen : l0_0.length ≤ 1000
  case neg => rw [if_neg hlen] at h; cases h
  rw [if_pos hlen] at h
  obtain ⟨S, hS, h⟩ := ydy.mp h
  have HSU := zA.mk hS
  clear hS
  go_wp2_with fail
  refine HCF.out.mono ?_
  rintro e w2 ⟨rfl, hb⟩
  have HB2 := zA.mk (zN HB1.out hb)
  have BB2 := zA.mk ((hb.block w.heap.size HS1.out).trans BB1.out)
  clear hb HCF HB1 BB1 hx
  have hx : w2.cell? ⟨w.heap.size, 0, none⟩ = some (.slice A0_0 l0_0.length c0_0) := (zK BB2.out 0).trans rfl
  have hw7 : wrap64 (7 * (l0_0.length : Int)) = 7 * (l0_0.length : Int) := by unfold wrap64; omega
  have h7 : (7 * (l0_0.length : Int)).toNat = 7 * l0_0.length := by omega
  go_wp2_with (first
    | ((with_reducible refine zm (N := 24) rfl ?_); refine Kd.zBA (Kd.int .i64) (w0 := w) w.heap.size 2 rfl (N := 24) rfl 25 _ _ rfl (7 * (l0_0.length : Int)) rfl rfl Try.underlying25 (.int .i64 0) 8 JP rfl (by decide) (by omega) 0 (ok := fun _ => True) (okp := fun _ => True) rfl (fun _ hk => hk) trivial (by omega) (by omega) HB2.out (zO HB2.out) ?_; intro v1 w3 ho hb _ hnew; rw [h7] at ho; have HO := zA.mk ho; have HB3 := zA.mk hb; clear ho hb hnew HB2 BB2 hx))
  clear hlen hw7 h7
  generalize (List.replicate (7 * l0_0.length) 0 : List Int) = s0 at HO HSU
  go_loopg [7, 27] l1.length (fun gg v7 v27 w' => ∃ (i : Nat) (s : List Int), i ≤ l1.length ∧ l1.length - i ≤ gg ∧ v27 = .int .i64 i ∧ zA (zGc k s (l1.drop i) = some S) ∧ zA (Kd.R (Kd.int .i64) 2 w' w.heap.size (fun _ => True) v7 s) ∧ zA (Below w.heap.size w w'))
  case atStart => exact ⟨0, s0, Nat.zero_le _, by omega, rfl, by rw [List.drop_zero]; exact HSU, HO, HB3⟩
  case round =>
    clear HSU HO HB3
    obtain ⟨i, s, hi, hg, rfl, HA, HO, HB⟩ := hrel
    obtain ⟨A7, c7, rfl⟩ := Kd.ZN HO.out
    by_cases hlt : i < l1.length
    · have hltz : (i : Int) < (l1.length : Int) := by omega
      have H := HA.out
      clear HA
      rw [yoy hlt, zGc] at H
      obtain ⟨s', hs', H⟩ := ydy.mp H
      obtain ⟨ad, A2, c2, e104, hx, hl1, hi1⟩ := QM HL.out (i : Int) (by omega) hltz
      have ex : zV l1 (i : Int) = l1[i] := by simp [zV, hlt]
      rw [ex] at hx hl1 hi1
      rw [yny] at hx
      replace hx := (HB.out.cell (ypy w _ hx)).trans hx
      replace hi1 := Kd.zl hi1 HB.out
      have HP := zA.mk (Zb.calls k A7 c7 s A2 c2 l1[i] s' wr (Kd.zv HO.out).2.2 (Kd.zv HO.out).2.1 hi1 hl1 hs')
      have HA2 := zA.mk H
      clear H hs' ex hl1 hi1 HO
      generalize l1[i] = y at hx HP
      cases e104
      go_wp2_with (first | (go_at_call 85; refine HP.out.mono ?_; rintro e w5 ⟨v5, rfl, ho, hb⟩; have HO2 := zA.mk (Kd.ZU ho (zO HB.out)); have HB2 := zA.mk (zN HB.out hb); clear ho hb HP HB hx))
      go_roundg (l1.length - (i + 1))
      case measure => omega
      case rel => exact ⟨i + 1, s', by omega, yqy _, by go_num, HA2, HO2, HB2⟩
    · obtain rfl : i = l1.length := by omega
      have H := HA.out
      rw [List.drop_length, zGc] at H
      obtain rfl := yey H
      clear HA H
      by_cases hb3 : zAi s = true
      · rw [if_pos hb3] at h
        obtain ⟨rfl, rfl⟩ := Prod.mk.inj (yey h)
        have HCF := zA.mk (JK.calls A7 c7 s wr (Kd.zv HO.out).2.2)
        rw [hb3] at HCF
        go_wp2_with (first | (go_at_call 86; refine HCF.out.mono ?_; rintro e w5 ⟨rfl, hb⟩; have HB2 := zA.mk (zN HB.out hb); clear hb HCF HB HO))
        go_ret2
        exact ⟨_, rfl, Kd.zA9 _ _ _ _ _, HB2.out⟩
      · rw [if_neg hb3] at h
        obtain ⟨rfl, rfl⟩ := Prod.mk.inj (yey h)
        have HCF := zA.mk (JK.calls A7 c7 s wr (Kd.zv HO.out).2.2)
        rw [Bool.eq_false_iff.mpr hb3] at HCF
        go_wp2_with (first | (go_at_call 86; refine HCF.out.mono ?_; rintro e w5 ⟨rfl, hb⟩; have HB2 := zA.mk (zN HB.out hb); have HO2 := zA.mk (Kd.Zp HO.out hb); clear hb HCF HB HO))
        go_ret2
        exact ⟨_, rfl, HO2.out, HB2.out⟩
def qD.l0 : Nat → List Int → List Int → Int → Option (Bool)
  | 0, _, _, _ => none
  | k + 1, x0, x1, x5 => if x5 < (x0.length : Int) then (if 0 ≤ x5 then (if x5 < (x1.length : Int) then (if (rd x0 x5) = (rd x1 x5) then (qD.l0 k x0 x1 (wrap64 (x5 + 1))) else (some false)) else (none)) else (none)) else (some true)
def qD.f (k : Nat) (l0 : List Int) (l1 : List Int) : Option (Bool) := if (l0.length : Int) = (l1.length : Int) then (qD.l0 k l0 l1 0) else (some false)
set_option maxHeartbeats 8000000 in
set_option maxRecDepth 100000 in
theorem qD.calls (k : Nat) (A0 : Option Addr) (c0 : Nat) (l0 : List Int) (A1 : Option Addr) (c1 : Nat) (l1 : List Int) (r : Bool) (w : World) (hr0 : Kd.C (Kd.int .i64) w A0 l0.length l0) (hc0 : l0.length ≤ c0) (hr1 : Kd.C (Kd.int .i64) w A1 l1.length l1) (hc1 : l1.length ≤ c1) (h : qD.f k l0 l1 = some r) :
    Calls Try.prog 21 #[.slice A0 l0.length c0, .slice A1 l1.length c1] w fun e w' => e = .returned (.bool r) ∧ zX w w' := by
  have HR0 := zA.mk hr0
  have HC0 := zA.mk hc0
  clear hr0 hc0
  have HR1 := zA.mk hr1
  have HC1 := zA.mk hc1
  clear hr1 hc1
  have H : (if (l0.length : Int) = (l1.length : Int) then (qD.l0 k l0 l1 0) else (some false)) = some r := h
  clear h
  by_cases c3 : (l0.length : Int) = (l1.length : Int)
  · rw [if_pos c3] at H
    have c3b0 : ((l0.length : Int) == (l1.length : Int)) = true := beq_iff_eq.mpr c3
    have c3b1 : ((l0.length : Int) != (l1.length : Int)) = false := bne_eq_false_iff_eq.mpr c3
    have c3b2 : (l0.length == l1.length) = true := by first | simpa using c3 | (simp at c3 ⊢; omega)
    clear c3
    have H' := zA.mk H
    clear H
    go_enter Try.func21, Try.ntmps21
    go_wp2
    repeat (go_quiet (fail); try go_wp2)
    go_loopg [5] k (fun kq v5 w' => ∃ (x5_1 : Int), v5 = .int .i64 x5_1 ∧ zA (qD.l0 kq l0 l1 x5_1 = some r) ∧ zA (kq ≤ k) ∧ zX w w')
    case atStart => exact ⟨(0), (by first | rfl | (simp; done) | (simp [*]; done)), H', ⟨yqy _⟩, by repeat (first | exact zX.refl _ | apply zX.step)⟩
    case round =>
      clear H'
      try clear c1
      try clear c2
      try clear p2
      try clear c3
      try clear c3b0
      try clear c3b1
      try clear c3b2
      obtain ⟨x5_1, rfl, HA, HK1, ⟨m1, rfl⟩⟩ := hrel
      cases gk with
      | zero => exact absurd HA.out (by simp [qD.l0])
      | succ k1 =>
        have H := HA.out
        clear HA
        simp only [qD.l0] at H
        by_cases c4 : x5_1 < (l0.length : Int)
        · rw [if_pos c4] at H
          have c4b0 : decide (x5_1 < (l0.length : Int)) = true := ygy c4
          clear c4
          by_cases c5 : 0 ≤ x5_1
          · rw [if_pos c5] at H
            have c5b0 : decide (0 ≤ x5_1) = true := ygy c5
            clear c5
            by_cases c6 : x5_1 < (l1.length : Int)
            · rw [if_pos c6] at H
              have c6b0 : decide (x5_1 < (l1.length : Int)) = true := ygy c6
              clear c6
              by_cases c7 : (rd l0 x5_1) = (rd l1 x5_1)
              · rw [if_pos c7] at H
                have c7b0 : ((rd l0 x5_1) == (rd l1 x5_1)) = true := beq_iff_eq.mpr c7
                have c7b1 : ((rd l0 x5_1) != (rd l1 x5_1)) = false := bne_eq_false_iff_eq.mpr c7
                clear c7
                have H' := zA.mk H
                clear H
                have p101 : 0 ≤ (x5_1 : Int) := of_decide_eq_true (by first | (with_reducible assumption) | assumption)
                have q101 : x5_1 < (l0.length : Int) := of_decide_eq_true (by first | (with_reducible assumption) | assumption)
                obtain ⟨ad101, e101, hx101_0⟩ := Kd.ZD HR0.out x5_1 p101 q101
                cases e101
                replace p101 := eq_true p101
                replace q101 := eq_true q101
                have p102 : 0 ≤ (x5_1 : Int) := of_decide_eq_true (by first | (with_reducible assumption) | assumption)
                have q102 : x5_1 < (l1.length : Int) := of_decide_eq_true (by first | (with_reducible assumption) | assumption)
                obtain ⟨ad102, e102, hx102_0⟩ := Kd.ZD HR1.out x5_1 p102 q102
                cases e102
                replace p102 := eq_true p102
                replace q102 := eq_true q102
                go_wp2
                repeat (go_quiet (fail); try go_wp2)
                go_roundg k1
                case measure => have := HK1.out; omega
                case rel => exact ⟨(wrap64 (x5_1 + 1)), (by first | rfl | (simp; done) | (simp [*]; done)), H', ⟨by have := HK1.out; omega⟩, by repeat (first | exact zX.refl _ | apply zX.step)⟩
              · rw [if_neg c7] at H
                have c7b0 : ((rd l0 x5_1) == (rd l1 x5_1)) = false := beq_eq_false_iff_ne.mpr c7
                have c7b1 : ((rd l0 x5_1) != (rd l1 x5_1)) = true := bne_iff_ne.mpr c7
                obtain rfl := yey H
                have p101 : 0 ≤ (x5_1 : Int) := of_decide_eq_true (by first | (with_reducible assumption) | assumption)
                have q101 : x5_1 < (l0.length : Int) := of_decide_eq_true (by first | (with_reducible assumption) | assumption)
                obtain ⟨ad101, e101, hx101_0⟩ := Kd.ZD HR0.out x5_1 p101 q101
                cases e101
                replace p101 := eq_true p101
                replace q101 := eq_true q101
                have p102 : 0 ≤ (x5_1 : Int) := of_decide_eq_true (by first | (with_reducible assumption) | assumption)
                have q102 : x5_1 < (l1.length : Int) := of_decide_eq_true (by first | (with_reducible assumption) | assumption)
                obtain ⟨ad102, e102, hx102_0⟩ := Kd.ZD HR1.out x5_1 p102 q102
                cases e102
                replace p102 := eq_true p102
                replace q102 := eq_true q102
                go_wp2
                repeat (go_quiet (fail); try go_wp2)
                go_ret
                exact ⟨by first | rfl | (simp; done) | (simp [*]; done), by repeat (first | exact zX.refl _ | apply zX.step)⟩
            · rw [if_neg c6] at H
              exact absurd H (by simp)
          · rw [if_neg c5] at H
            exact absurd H (by simp)
        · rw [if_neg c4] at H
          have c4b0 : decide (x5_1 < (l0.length : Int)) = false := yhy c4
          clear c4
          obtain rfl := yey H
          go_wp2
          repeat (go_quiet (fail); try go_wp2)
          go_ret
          exact ⟨by first | rfl | (simp; done) | (simp [*]; done), by repeat (first | exact zX.refl _ | apply zX.step)⟩
  · rw [if_neg c3] at H
    have c3b0 : ((l0.length : Int) == (l1.length : Int)) = false := beq_eq_false_iff_ne.mpr c3
    have c3b1 : ((l0.length : Int) != (l1.length : Int)) = true := bne_iff_ne.mpr c3
    have c3b2 : (l0.length == l1.length) = false := by first | simpa using c3 | (simp at c3 ⊢; omega)
    obtain rfl := yey H
    go_enter Try.func21, Try.ntmps21
    go_wp2
    repeat (go_quiet (fail); try go_wp2)
    go_ret
    exact ⟨by first | rfl | (simp; done) | (simp [*]; done), by repeat (first | exact zX.refl _ | apply zX.step)⟩
def qX.l0 : Nat → List (List Int) → List (List Int) → Int → Option (Bool)
  | 0, _, _, _ => none
  | k + 1, x0, x1, x5 => if x5 < (x0.length : Int) then (if 0 ≤ x5 then (if x5 < (x1.length : Int) then ((qD.f k (zV x0 x5) (zV x1 x5)).bind fun t103 => (if t103 = true then (qX.l0 k x0 x1 (wrap64 (x5 + 1))) else (some false))) else (none)) else (none)) else (some true)
def qX.f (k : Nat) (l0 : List (List Int)) (l1 : List (List Int)) : Option (Bool) := if (l0.length : Int) = (l1.length : Int) then (qX.l0 k l0 l1 0) else (some false)
set_option maxHeartbeats 8000000 in
set_option maxRecDepth 100000 in
theorem qX.calls (k : Nat) (A0 : Option Addr) (c0 : Nat) (l0 : List (List Int)) (A1 : Option Addr) (c1 : Nat) (l1 : List (List Int)) (r : Bool) (w : World) (hr0 : Kd.C (Kd.slice 2 (Kd.int .i64)) w A0 l0.length l0) (hc0 : l0.length ≤ c0) (hr1 : Kd.C (Kd.slice 2 (Kd.int .i64)) w A1 l1.length l1) (hc1 : l1.length ≤ c1) (h : qX.f k l0 l1 = some r) :
    Calls Try.prog 48 #[.slice A0 l0.length c0, .slice A1 l1.length c1] w fun e w' => e = .returned (.bool r) ∧ zX w w' := by
  have HR0 := zA.mk hr0
  have HC0 := zA.mk hc0
  clear hr0 hc0
  have HR1 := zA.mk hr1
  have HC1 := zA.mk hc1
  clear hr1 hc1
  have H : (if (l0.length : Int) = (l1.length : Int) then (qX.l0 k l0 l1 0) else (some false)) = some r := h
  clear h
  by_cases c3 : (l0.length : Int) = (l1.length : Int)
  · rw [if_pos c3] at H
    have c3b0 : ((l0.length : Int) == (l1.length : Int)) = true := beq_iff_eq.mpr c3
    have c3b1 : ((l0.length : Int) != (l1.length : Int)) = false := bne_eq_false_iff_eq.mpr c3
    have c3b2 : (l0.length == l1.length) = true := by first | simpa using c3 | (simp at c3 ⊢; omega)
    clear c3
    have H' := zA.mk H
    clear H
    go_enter Try.func48, Try.ntmps48
    go_wp2
    repeat (go_quiet (fail); try go_wp2)
    go_loopg [5] k (fun kq v5 w' => ∃ (x5_1 : Int), v5 = .int .i64 x5_1 ∧ zA (qX.l0 kq l0 l1 x5_1 = some r) ∧ zA (kq ≤ k) ∧ zX w w')
    case atStart => exact ⟨(0), (by first | rfl | (simp; done) | (simp [*]; done)), H', ⟨yqy _⟩, by repeat (first | exact zX.refl _ | apply zX.step)⟩
    case round =>
      clear H'
      try clear c1
      try clear p2
      try clear c3
      try clear c3b0
      try clear c3b1
      try clear c3b2
      obtain ⟨x5_1, rfl, HA, HK1, ⟨m1, rfl⟩⟩ := hrel
      cases gk with
      | zero => exact absurd HA.out (by simp [qX.l0])
      | succ k1 =>
        have H := HA.out
        clear HA
        simp only [qX.l0] at H
        by_cases c4 : x5_1 < (l0.length : Int)
        · rw [if_pos c4] at H
          have c4b0 : decide (x5_1 < (l0.length : Int)) = true := ygy c4
          clear c4
          by_cases c5 : 0 ≤ x5_1
          · rw [if_pos c5] at H
            have c5b0 : decide (0 ≤ x5_1) = true := ygy c5
            clear c5
            by_cases c6 : x5_1 < (l1.length : Int)
            · rw [if_pos c6] at H
              have c6b0 : decide (x5_1 < (l1.length : Int)) = true := ygy c6
              clear c6
              replace H := ydy.mp H
              obtain ⟨t103, A70, H⟩ := H
              replace H : (if t103 = true then (qX.l0 k1 l0 l1 (wrap64 (x5_1 + 1))) else (some false)) = some r := H
              have A7 := zA.mk A70
              clear A70
              by_cases c8 : t103 = true
              · subst c8
                have H1 : (qX.l0 k1 l0 l1 (wrap64 (x5_1 + 1))) = some r := by rw [if_pos rfl] at H; exact H
                clear H
                have H := H1
                clear H1
                have H' := zA.mk H
                clear H
                have p101 : 0 ≤ (x5_1 : Int) := of_decide_eq_true (by first | (with_reducible assumption) | assumption)
                have q101 : x5_1 < (l0.length : Int) := of_decide_eq_true (by first | (with_reducible assumption) | assumption)
                obtain ⟨ad101, A101_0, c101_0, e101, hx101_0, hl101_0, hi101_0⟩ := QM HR0.out x5_1 p101 q101
                cases e101
                have HR101_0 := zA.mk hi101_0
                have HC101_0 := zA.mk hl101_0
                clear hi101_0 hl101_0
                replace p101 := eq_true p101
                replace q101 := eq_true q101
                have p102 : 0 ≤ (x5_1 : Int) := of_decide_eq_true (by first | (with_reducible assumption) | assumption)
                have q102 : x5_1 < (l1.length : Int) := of_decide_eq_true (by first | (with_reducible assumption) | assumption)
                obtain ⟨ad102, A102_0, c102_0, e102, hx102_0, hl102_0, hi102_0⟩ := QM HR1.out x5_1 p102 q102
                cases e102
                have HR102_0 := zA.mk hi102_0
                have HC102_0 := zA.mk hl102_0
                clear hi102_0 hl102_0
                replace p102 := eq_true p102
                replace q102 := eq_true q102
                go_wp2_with (first | (go_at_call 21; (with_reducible refine (qD.calls k1 _ _ (zV l0 x5_1) _ _ (zV l1 x5_1) true _ ?side1 ?side2 ?side3 ?side4 A7.out).mono ?_); (case side1 => repeat (first | exact HR101_0.out | (with_reducible refine Kd.zh ?_ _) | (with_reducible refine Kd.zi ?_ _) | (with_reducible refine Kd.qA ?_))); (case side2 => exact HC101_0.out); (case side3 => repeat (first | exact HR102_0.out | (with_reducible refine Kd.zh ?_ _) | (with_reducible refine Kd.zi ?_ _) | (with_reducible refine Kd.qA ?_))); (case side4 => exact HC102_0.out); rintro e w' ⟨rfl, ⟨nd, rfl⟩⟩; (try first | exact ⟨rfl, _, World.drewN_drewN _ _ _⟩ | exact ⟨rfl, _, Eq.trans (World.drewN_drewN _ _ _) (congrArg (World.drewN _) (Nat.add_assoc _ _ _))⟩)))
                repeat (go_quiet (first | (go_at_call 21; (with_reducible refine (qD.calls k1 _ _ (zV l0 x5_1) _ _ (zV l1 x5_1) true _ ?side1 ?side2 ?side3 ?side4 A7.out).mono ?_); (case side1 => repeat (first | exact HR101_0.out | (with_reducible refine Kd.zh ?_ _) | (with_reducible refine Kd.zi ?_ _) | (with_reducible refine Kd.qA ?_))); (case side2 => exact HC101_0.out); (case side3 => repeat (first | exact HR102_0.out | (with_reducible refine Kd.zh ?_ _) | (with_reducible refine Kd.zi ?_ _) | (with_reducible refine Kd.qA ?_))); (case side4 => exact HC102_0.out); rintro e w' ⟨rfl, ⟨nd, rfl⟩⟩; (try first | exact ⟨rfl, _, World.drewN_drewN _ _ _⟩ | exact ⟨rfl, _, Eq.trans (World.drewN_drewN _ _ _) (congrArg (World.drewN _) (Nat.add_assoc _ _ _))⟩))); try go_wp2_with (first | (go_at_call 21; (with_reducible refine (qD.calls k1 _ _ (zV l0 x5_1) _ _ (zV l1 x5_1) true _ ?side1 ?side2 ?side3 ?side4 A7.out).mono ?_); (case side1 => repeat (first | exact HR101_0.out | (with_reducible refine Kd.zh ?_ _) | (with_reducible refine Kd.zi ?_ _) | (with_reducible refine Kd.qA ?_))); (case side2 => exact HC101_0.out); (case side3 => repeat (first | exact HR102_0.out | (with_reducible refine Kd.zh ?_ _) | (with_reducible refine Kd.zi ?_ _) | (with_reducible refine Kd.qA ?_))); (case side4 => exact HC102_0.out); rintro e w' ⟨rfl, ⟨nd, rfl⟩⟩; (try first | exact ⟨rfl, _, World.drewN_drewN _ _ _⟩ | exact ⟨rfl, _, Eq.trans (World.drewN_drewN _ _ _) (congrArg (World.drewN _) (Nat.add_assoc _ _ _))⟩))))
                go_roundg k1
                case measure => have := HK1.out; omega
                case rel => exact ⟨(wrap64 (x5_1 + 1)), (by first | rfl | (simp; done) | (simp [*]; done)), H', ⟨by have := HK1.out; omega⟩, by repeat (first | exact zX.refl _ | apply zX.step)⟩
              · replace c8 := Bool.eq_false_iff.mpr c8
                subst c8
                have H1 : (some false) = some r := by rw [if_neg (show ¬ (false = true) by decide)] at H; exact H
                clear H
                have H := H1
                clear H1
                obtain rfl := yey H
                have p101 : 0 ≤ (x5_1 : Int) := of_decide_eq_true (by first | (with_reducible assumption) | assumption)
                have q101 : x5_1 < (l0.length : Int) := of_decide_eq_true (by first | (with_reducible assumption) | assumption)
                obtain ⟨ad101, A101_0, c101_0, e101, hx101_0, hl101_0, hi101_0⟩ := QM HR0.out x5_1 p101 q101
                cases e101
                have HR101_0 := zA.mk hi101_0
                have HC101_0 := zA.mk hl101_0
                clear hi101_0 hl101_0
                replace p101 := eq_true p101
                replace q101 := eq_true q101
                have p102 : 0 ≤ (x5_1 : Int) := of_decide_eq_true (by first | (with_reducible assumption) | assumption)
                have q102 : x5_1 < (l1.length : Int) := of_decide_eq_true (by first | (with_reducible assumption) | assumption)
                obtain ⟨ad102, A102_0, c102_0, e102, hx102_0, hl102_0, hi102_0⟩ := QM HR1.out x5_1 p102 q102
                cases e102
                have HR102_0 := zA.mk hi102_0
                have HC102_0 := zA.mk hl102_0
                clear hi102_0 hl102_0
                replace p102 := eq_true p102
                replace q102 := eq_true q102
                go_wp2_with (first | (go_at_call 21; (with_reducible refine (qD.calls k1 _ _ (zV l0 x5_1) _ _ (zV l1 x5_1) false _ ?side1 ?side2 ?side3 ?side4 A7.out).mono ?_); (case side1 => repeat (first | exact HR101_0.out | (with_reducible refine Kd.zh ?_ _) | (with_reducible refine Kd.zi ?_ _) | (with_reducible refine Kd.qA ?_))); (case side2 => exact HC101_0.out); (case side3 => repeat (first | exact HR102_0.out | (with_reducible refine Kd.zh ?_ _) | (with_reducible refine Kd.zi ?_ _) | (with_reducible refine Kd.qA ?_))); (case side4 => exact HC102_0.out); rintro e w' ⟨rfl, ⟨nd, rfl⟩⟩; (try first | exact ⟨rfl, _, World.drewN_drewN _ _ _⟩ | exact ⟨rfl, _, Eq.trans (World.drewN_drewN _ _ _) (congrArg (World.drewN _) (Nat.add_assoc _ _ _))⟩)))
                repeat (go_quiet (first | (go_at_call 21; (with_reducible refine (qD.calls k1 _ _ (zV l0 x5_1) _ _ (zV l1 x5_1) false _ ?side1 ?side2 ?side3 ?side4 A7.out).mono ?_); (case side1 => repeat (first | exact HR101_0.out | (with_reducible refine Kd.zh ?_ _) | (with_reducible refine Kd.zi ?_ _) | (with_reducible refine Kd.qA ?_))); (case side2 => exact HC101_0.out); (case side3 => repeat (first | exact HR102_0.out | (with_reducible refine Kd.zh ?_ _) | (with_reducible refine Kd.zi ?_ _) | (with_reducible refine Kd.qA ?_))); (case side4 => exact HC102_0.out); rintro e w' ⟨rfl, ⟨nd, rfl⟩⟩; (try first | exact ⟨rfl, _, World.drewN_drewN _ _ _⟩ | exact ⟨rfl, _, Eq.trans (World.drewN_drewN _ _ _) (congrArg (World.drewN _) (Nat.add_assoc _ _ _))⟩))); try go_wp2_with (first | (go_at_call 21; (with_reducible refine (qD.calls k1 _ _ (zV l0 x5_1) _ _ (zV l1 x5_1) false _ ?side1 ?side2 ?side3 ?side4 A7.out).mono ?_); (case side1 => repeat (first | exact HR101_0.out | (with_reducible refine Kd.zh ?_ _) | (with_reducible refine Kd.zi ?_ _) | (with_reducible refine Kd.qA ?_))); (case side2 => exact HC101_0.out); (case side3 => repeat (first | exact HR102_0.out | (with_reducible refine Kd.zh ?_ _) | (with_reducible refine Kd.zi ?_ _) | (with_reducible refine Kd.qA ?_))); (case side4 => exact HC102_0.out); rintro e w' ⟨rfl, ⟨nd, rfl⟩⟩; (try first | exact ⟨rfl, _, World.drewN_drewN _ _ _⟩ | exact ⟨rfl, _, Eq.trans (World.drewN_drewN _ _ _) (congrArg (World.drewN _) (Nat.add_assoc _ _ _))⟩))))
                go_ret
                exact ⟨by first | rfl | (simp; done) | (simp [*]; done), by repeat (first | exact zX.refl _ | apply zX.step)⟩
            · rw [if_neg c6] at H
              exact absurd H (by simp)
          · rw [if_neg c5] at H
            exact absurd H (by simp)
        · rw [if_neg c4] at H
          have c4b0 : decide (x5_1 < (l0.length : Int)) = false := yhy c4
          clear c4
          obtain rfl := yey H
          go_wp2
          repeat (go_quiet (fail); try go_wp2)
          go_ret
          exact ⟨by first | rfl | (simp; done) | (simp [*]; done), by repeat (first | exact zX.refl _ | apply zX.step)⟩
  · rw [if_neg c3] at H
    have c3b0 : ((l0.length : Int) == (l1.length : Int)) = false := beq_eq_false_iff_ne.mpr c3
    have c3b1 : ((l0.length : Int) != (l1.length : Int)) = true := bne_iff_ne.mpr c3
    have c3b2 : (l0.length == l1.length) = false := by first | simpa using c3 | (simp at c3 ⊢; omega)
    obtain rfl := yey H
    go_enter Try.func48, Try.ntmps48
    go_wp2
    repeat (go_quiet (fail); try go_wp2)
    go_ret
    exact ⟨by first | rfl | (simp; done) | (simp [*]; done), by repeat (first | exact zX.refl _ | apply zX.step)⟩
def Qf.f (a0_0 : Int) (a0_1 : Int) (a1_0 : Int) (a1_1 : Int) : Option (Bool) := if a0_0 = a1_0 then (if a0_1 = a1_1 then (some true) else (some false)) else (some false)
set_option maxHeartbeats 8000000 in
set_option maxRecDepth 100000 in
theorem Qf.calls (a0_0 : Int) (a0_1 : Int) (a1_0 : Int) (a1_1 : Int) (r : Bool) (w : World) (h : Qf.f a0_0 a0_1 a1_0 a1_1 = some r) :
    Calls Try.prog 147 #[.agg #[.int .i64 a0_0, .int .i64 a0_1], .agg #[.int .i64 a1_0, .int .i64 a1_1]] w fun e w' => e = .returned (.bool r) ∧ Below w.heap.size w w' := by
  have hu115 := Try.underlying115
  have HB := zA.mk (yry w.heap.size w)
  have H : (if a0_0 = a1_0 then (if a0_1 = a1_1 then (some true) else (some false)) else (some false)) = some r := h
  clear h
  by_cases c3 : a0_0 = a1_0
  · rw [if_pos c3] at H
    have c3b0 : (a0_0 == a1_0) = true := beq_iff_eq.mpr c3
    have c3b1 : (a0_0 != a1_0) = false := bne_eq_false_iff_eq.mpr c3
    clear c3
    by_cases c4 : a0_1 = a1_1
    · rw [if_pos c4] at H
      have c4b0 : (a0_1 == a1_1) = true := beq_iff_eq.mpr c4
      have c4b1 : (a0_1 != a1_1) = false := bne_eq_false_iff_eq.mpr c4
      clear c4
      obtain rfl := yey H
      go_enter Try.func147, Try.ntmps147
      go_wp2_with (first | ((with_reducible refine zm (N := 2) rfl ?_); refine zo ?hg (N := 2) ?hd (cs := #[.int .i64 a0_0, .int .i64 a0_1]) (t := 115) ?hr ?_; (case hd => rfl); (case hg => rfl); (case hr => first | (go_simp; done) | (go_simp; rfl)); intro gb101 hg w5 hbox hb; have n0_ := zA.mk (zN (by repeat (first | (with_reducible first | exact HB.out | apply zC | apply zB | apply zD) | exact HB.out)) hb); have n1_ := zA.mk (hbox); have n2_ := zA.mk ((by rw [hg]; exact (zO (by repeat (first | (with_reducible first | exact HB.out | apply zC | apply zB | apply zD) | exact HB.out))) : w.heap.size ≤ gb101)); have n3_ := zA.mk ((by rw [hg]; exact (zO (by repeat (first | (with_reducible first | exact HB.out | apply zC | apply zB | apply zD) | exact HB.out))) : w.heap.size ≤ gb101)); clear HB; have HB := n0_; have BK101 := n1_; have GW101 := n2_; have GE101 := n3_; clear n0_ n1_ n2_ n3_; clear hb hbox hg) | ((with_reducible refine zm (N := 3) rfl ?_); refine zo ?hg (N := 3) ?hd (cs := #[.int .i64 a1_0, .int .i64 a1_1]) (t := 115) ?hr ?_; (case hd => rfl); (case hg => rfl); (case hr => first | (go_simp; done) | (go_simp; rfl)); intro gb102 hg w6 hbox hb; have n0_ := zA.mk (zP (g := gb101) (o := .cells #[.int .i64 a0_0, .int .i64 a0_1] 115 (0, 0)) (by (with_reducible repeat (first | refine zI ?_ _ | refine zJ ?_ | refine zH ?_ _)); exact BK101.out) hb); have n1_ := zA.mk (zN (by repeat (first | (with_reducible first | exact HB.out | apply zC | apply zB | apply zD | refine zF ?_ GE101.out) | exact HB.out)) hb); have n2_ := zA.mk (hbox); have n3_ := zA.mk ((by rw [hg]; exact (zO (by repeat (first | (with_reducible first | exact HB.out | apply zC | apply zB | apply zD | refine zF ?_ GE101.out) | exact HB.out))) : w.heap.size ≤ gb102)); have n4_ := zA.mk ((by rw [hg]; exact (zO (by repeat (first | (with_reducible first | exact HB.out | apply zC | apply zB | apply zD | refine zF ?_ GE101.out) | exact HB.out))) : w.heap.size ≤ gb102)); have n5_ := zA.mk ((by rw [hg]; exact Nat.ne_of_lt (qi (g := gb101) (o := .cells #[.int .i64 a0_0, .int .i64 a0_1] 115 (0, 0)) (by (with_reducible repeat (first | refine zI ?_ _ | refine zJ ?_ | refine zH ?_ _)); exact BK101.out)) : gb101 ≠ gb102)); have n6_ := zA.mk ((by rw [hg]; exact Nat.ne_of_gt (qi (g := gb101) (o := .cells #[.int .i64 a0_0, .int .i64 a0_1] 115 (0, 0)) (by (with_reducible repeat (first | refine zI ?_ _ | refine zJ ?_ | refine zH ?_ _)); exact BK101.out)) : gb102 ≠ gb101)); clear BK101; clear HB; have BK101 := n0_; have HB := n1_; have BK102 := n2_; have GW102 := n3_; have GE102 := n4_; have NB101_102 := n5_; have NB102_101 := n6_; clear n0_ n1_ n2_ n3_ n4_ n5_ n6_; clear hb hbox hg; have hnb7 := NB101_102.out; have hnc7 := NB102_101.out; have hcz8_0 : w6.cell? ⟨gb101, 0, none⟩ = some (.int .i64 a0_0) := (zK BK101.out 0).trans rfl; have hcz8_1 : w6.cell? ⟨gb101, 1, none⟩ = some (.int .i64 a0_1) := (zK BK101.out 1).trans rfl; have hfz8_0 := zM BK101.out 0; have hfz8_1 := zM BK101.out 1; have hcz9_0 : w6.cell? ⟨gb102, 0, none⟩ = some (.int .i64 a1_0) := (zK BK102.out 0).trans rfl; have hcz9_1 : w6.cell? ⟨gb102, 1, none⟩ = some (.int .i64 a1_1) := (zK BK102.out 1).trans rfl; have hfz9_0 := zM BK102.out 0; have hfz9_1 := zM BK102.out 1))
      go_ret
      exact ⟨by first | rfl | (simp [zQ, zR] <;> rfl) | (simp [*, zQ, zR] <;> rfl), by repeat (first | (with_reducible first | exact HB.out | apply zC | apply zB | apply zD | refine zF ?_ GE101.out | refine zF ?_ GE102.out) | exact HB.out)⟩
    · rw [if_neg c4] at H
      have c4b0 : (a0_1 == a1_1) = false := beq_eq_false_iff_ne.mpr c4
      have c4b1 : (a0_1 != a1_1) = true := bne_iff_ne.mpr c4
      obtain rfl := yey H
      go_enter Try.func147, Try.ntmps147
      go_wp2_with (first | ((with_reducible refine zm (N := 2) rfl ?_); refine zo ?hg (N := 2) ?hd (cs := #[.int .i64 a0_0, .int .i64 a0_1]) (t := 115) ?hr ?_; (case hd => rfl); (case hg => rfl); (case hr => first | (go_simp; done) | (go_simp; rfl)); intro gb101 hg w10 hbox hb; have n0_ := zA.mk (zN (by repeat (first | (with_reducible first | exact HB.out | apply zC | apply zB | apply zD) | exact HB.out)) hb); have n1_ := zA.mk (hbox); have n2_ := zA.mk ((by rw [hg]; exact (zO (by repeat (first | (with_reducible first | exact HB.out | apply zC | apply zB | apply zD) | exact HB.out))) : w.heap.size ≤ gb101)); have n3_ := zA.mk ((by rw [hg]; exact (zO (by repeat (first | (with_reducible first | exact HB.out | apply zC | apply zB | apply zD) | exact HB.out))) : w.heap.size ≤ gb101)); clear HB; have HB := n0_; have BK101 := n1_; have GW101 := n2_; have GE101 := n3_; clear n0_ n1_ n2_ n3_; clear hb hbox hg) | ((with_reducible refine zm (N := 3) rfl ?_); refine zo ?hg (N := 3) ?hd (cs := #[.int .i64 a1_0, .int .i64 a1_1]) (t := 115) ?hr ?_; (case hd => rfl); (case hg => rfl); (case hr => first | (go_simp; done) | (go_simp; rfl)); intro gb102 hg w11 hbox hb; have n0_ := zA.mk (zP (g := gb101) (o := .cells #[.int .i64 a0_0, .int .i64 a0_1] 115 (0, 0)) (by (with_reducible repeat (first | refine zI ?_ _ | refine zJ ?_ | refine zH ?_ _)); exact BK101.out) hb); have n1_ := zA.mk (zN (by repeat (first | (with_reducible first | exact HB.out | apply zC | apply zB | apply zD | refine zF ?_ GE101.out) | exact HB.out)) hb); have n2_ := zA.mk (hbox); have n3_ := zA.mk ((by rw [hg]; exact (zO (by repeat (first | (with_reducible first | exact HB.out | apply zC | apply zB | apply zD | refine zF ?_ GE101.out) | exact HB.out))) : w.heap.size ≤ gb102)); have n4_ := zA.mk ((by rw [hg]; exact (zO (by repeat (first | (with_reducible first | exact HB.out | apply zC | apply zB | apply zD | refine zF ?_ GE101.out) | exact HB.out))) : w.heap.size ≤ gb102)); have n5_ := zA.mk ((by rw [hg]; exact Nat.ne_of_lt (qi (g := gb101) (o := .cells #[.int .i64 a0_0, .int .i64 a0_1] 115 (0, 0)) (by (with_reducible repeat (first | refine zI ?_ _ | refine zJ ?_ | refine zH ?_ _)); exact BK101.out)) : gb101 ≠ gb102)); have n6_ := zA.mk ((by rw [hg]; exact Nat.ne_of_gt (qi (g := gb101) (o := .cells #[.int .i64 a0_0, .int .i64 a0_1] 115 (0, 0)) (by (with_reducible repeat (first | refine zI ?_ _ | refine zJ ?_ | refine zH ?_ _)); exact BK101.out)) : gb102 ≠ gb101)); clear BK101; clear HB; have BK101 := n0_; have HB := n1_; have BK102 := n2_; have GW102 := n3_; have GE102 := n4_; have NB101_102 := n5_; have NB102_101 := n6_; clear n0_ n1_ n2_ n3_ n4_ n5_ n6_; clear hb hbox hg; have hnb12 := NB101_102.out; have hnc12 := NB102_101.out; have hcz13_0 : w11.cell? ⟨gb101, 0, none⟩ = some (.int .i64 a0_0) := (zK BK101.out 0).trans rfl; have hcz13_1 : w11.cell? ⟨gb101, 1, none⟩ = some (.int .i64 a0_1) := (zK BK101.out 1).trans rfl; have hfz13_0 := zM BK101.out 0; have hfz13_1 := zM BK101.out 1; have hcz14_0 : w11.cell? ⟨gb102, 0, none⟩ = some (.int .i64 a1_0) := (zK BK102.out 0).trans rfl; have hcz14_1 : w11.cell? ⟨gb102, 1, none⟩ = some (.int .i64 a1_1) := (zK BK102.out 1).trans rfl; have hfz14_0 := zM BK102.out 0; have hfz14_1 := zM BK102.out 1))
      go_ret
      exact ⟨by first | rfl | (simp [zQ, zR] <;> rfl) | (simp [*, zQ, zR] <;> rfl), by repeat (first | (with_reducible first | exact HB.out | apply zC | apply zB | apply zD | refine zF ?_ GE101.out | refine zF ?_ GE102.out) | exact HB.out)⟩
  · rw [if_neg c3] at H
    have c3b0 : (a0_0 == a1_0) = false := beq_eq_false_iff_ne.mpr c3
    have c3b1 : (a0_0 != a1_0) = true := bne_iff_ne.mpr c3
    obtain rfl := yey H
    go_enter Try.func147, Try.ntmps147
    go_wp2_with (first | ((with_reducible refine zm (N := 2) rfl ?_); refine zo ?hg (N := 2) ?hd (cs := #[.int .i64 a0_0, .int .i64 a0_1]) (t := 115) ?hr ?_; (case hd => rfl); (case hg => rfl); (case hr => first | (go_simp; done) | (go_simp; rfl)); intro gb101 hg w15 hbox hb; have n0_ := zA.mk (zN (by repeat (first | (with_reducible first | exact HB.out | apply zC | apply zB | apply zD) | exact HB.out)) hb); have n1_ := zA.mk (hbox); have n2_ := zA.mk ((by rw [hg]; exact (zO (by repeat (first | (with_reducible first | exact HB.out | apply zC | apply zB | apply zD) | exact HB.out))) : w.heap.size ≤ gb101)); have n3_ := zA.mk ((by rw [hg]; exact (zO (by repeat (first | (with_reducible first | exact HB.out | apply zC | apply zB | apply zD) | exact HB.out))) : w.heap.size ≤ gb101)); clear HB; have HB := n0_; have BK101 := n1_; have GW101 := n2_; have GE101 := n3_; clear n0_ n1_ n2_ n3_; clear hb hbox hg) | ((with_reducible refine zm (N := 3) rfl ?_); refine zo ?hg (N := 3) ?hd (cs := #[.int .i64 a1_0, .int .i64 a1_1]) (t := 115) ?hr ?_; (case hd => rfl); (case hg => rfl); (case hr => first | (go_simp; done) | (go_simp; rfl)); intro gb102 hg w16 hbox hb; have n0_ := zA.mk (zP (g := gb101) (o := .cells #[.int .i64 a0_0, .int .i64 a0_1] 115 (0, 0)) (by (with_reducible repeat (first | refine zI ?_ _ | refine zJ ?_ | refine zH ?_ _)); exact BK101.out) hb); have n1_ := zA.mk (zN (by repeat (first | (with_reducible first | exact HB.out | apply zC | apply zB | apply zD | refine zF ?_ GE101.out) | exact HB.out)) hb); have n2_ := zA.mk (hbox); have n3_ := zA.mk ((by rw [hg]; exact (zO (by repeat (first | (with_reducible first | exact HB.out | apply zC | apply zB | apply zD | refine zF ?_ GE101.out) | exact HB.out))) : w.heap.size ≤ gb102)); have n4_ := zA.mk ((by rw [hg]; exact (zO (by repeat (first | (with_reducible first | exact HB.out | apply zC | apply zB | apply zD | refine zF ?_ GE101.out) | exact HB.out))) : w.heap.size ≤ gb102)); have n5_ := zA.mk ((by rw [hg]; exact Nat.ne_of_lt (qi (g := gb101) (o := .cells #[.int .i64 a0_0, .int .i64 a0_1] 115 (0, 0)) (by (with_reducible repeat (first | refine zI ?_ _ | refine zJ ?_ | refine zH ?_ _)); exact BK101.out)) : gb101 ≠ gb102)); have n6_ := zA.mk ((by rw [hg]; exact Nat.ne_of_gt (qi (g := gb101) (o := .cells #[.int .i64 a0_0, .int .i64 a0_1] 115 (0, 0)) (by (with_reducible repeat (first | refine zI ?_ _ | refine zJ ?_ | refine zH ?_ _)); exact BK101.out)) : gb102 ≠ gb101)); clear BK101; clear HB; have BK101 := n0_; have HB := n1_; have BK102 := n2_; have GW102 := n3_; have GE102 := n4_; have NB101_102 := n5_; have NB102_101 := n6_; clear n0_ n1_ n2_ n3_ n4_ n5_ n6_; clear hb hbox hg; have hnb17 := NB101_102.out; have hnc17 := NB102_101.out; have hcz18_0 : w16.cell? ⟨gb101, 0, none⟩ = some (.int .i64 a0_0) := (zK BK101.out 0).trans rfl; have hcz18_1 : w16.cell? ⟨gb101, 1, none⟩ = some (.int .i64 a0_1) := (zK BK101.out 1).trans rfl; have hfz18_0 := zM BK101.out 0; have hfz18_1 := zM BK101.out 1; have hcz19_0 : w16.cell? ⟨gb102, 0, none⟩ = some (.int .i64 a1_0) := (zK BK102.out 0).trans rfl; have hcz19_1 : w16.cell? ⟨gb102, 1, none⟩ = some (.int .i64 a1_1) := (zK BK102.out 1).trans rfl; have hfz19_0 := zM BK102.out 0; have hfz19_1 := zM BK102.out 1))
    go_ret
    exact ⟨by first | rfl | (simp [zQ, zR] <;> rfl) | (simp [*, zQ, zR] <;> rfl), by repeat (first | (with_reducible first | exact HB.out | apply zC | apply zB | apply zD | refine zF ?_ GE101.out | refine zF ?_ GE102.out) | exact HB.out)⟩
def qF.l0 : Nat → List (zq) → List (zq) → Int → Option (Bool)
 | 0, _, _, _ => none
 | k + 1, x0, x1, x5 => if x5 < (x0.length : Int) then (if 0 ≤ x5 then (if x5 < (x1.length : Int) then ((Qf.f ((zG x0 x5).f0) ((zG x0 x5).f1) ((zG x1 x5).f0) ((zG x1 x5).f1)).bind fun t103 => (if t103 = true then (qF.l0 k x0 x1 (wrap64 (x5 + 1))) else (some false))) else (none)) else (none)) else (some true)
def qF.f (k : Nat) (l0 : List (zq)) (l1 : List (zq)) : Option (Bool) := if (l0.length : Int) = (l1.length : Int) then (qF.l0 k l0 l1 0) else (some false)
def qF.T6 : Bool × List (List Nat × List Nat) := (true, [([], []), ([], []), ([0, 1], [0, 1]), ([2], [2]), ([], []), ([], []), ([4, 5], [4, 5]), ([6], [6]), ([3, 7], [3, 7]), ([8], [8])])
def qF.B6 : List Nat := [0, 0, 3, 7, 0, 0, 48, 112, 255, 511]
theorem qF.tab6 : zAf .any (opsOf Try.f110 6) = qF.T6 := by kernel_rfl
theorem qF.zFG : Qx qF.T6.2 qF.B6 = true := by kernel_rfl
set_option maxHeartbeats 8000000 in
set_option maxRecDepth 100000 in
theorem qF.calls (k : Nat) (A0 : Option Addr) (c0 : Nat) (l0 : List (zq)) (A1 : Option Addr) (c1 : Nat) (l1 : List (zq)) (r : Bool) (w : World) (hr0 : Kd.C ZB w A0 l0.length l0) (hc0 : l0.length ≤ c0) (hr1 : Kd.C ZB w A1 l1.length l1) (hc1 : l1.length ≤ c1) (h : qF.f k l0 l1 = some r) :
 Calls Try.prog 110 #[.slice A0 l0.length c0, .slice A1 l1.length c1] w fun e w' => e = .returned (.bool r) ∧ Below w.heap.size w w' := by
 have hu115 := Try.underlying115
 have HR0 := zA.mk hr0
 have HC0 := zA.mk hc0
 clear hr0 hc0
 have HR1 := zA.mk hr1
 have HC1 := zA.mk hc1
 clear hr1 hc1
 have HB := zA.mk (yry w.heap.size w)
 have H : (if (l0.length : Int) = (l1.length : Int) then (qF.l0 k l0 l1 0) else (some false)) = some r := h
 clear h
 by_cases c3 : (l0.length : Int) = (l1.length : Int)
 rotate_left
 next =>
  rw [if_neg c3] at H
  have c3b0 : ((l0.length : Int) == (l1.length : Int)) = false := beq_eq_false_iff_ne.mpr c3
  have c3b1 : ((l0.length : Int) != (l1.length : Int)) = true := bne_iff_ne.mpr c3
  have c3b2 : (l0.length == l1.length) = false := by first | simpa using c3 | (simp at c3 ⊢; omega)
  obtain rfl := yey H
  go_enter Try.func110, Try.ntmps110
  go_wp2
  go_ret
  exact ⟨by first | rfl | (simp [zQ, zR] <;> rfl) | (simp [*, zQ, zR] <;> rfl), by repeat (first | (with_reducible first | exact HB.out | apply zC | apply zB | apply zD) | exact HB.out)⟩
 rw [if_pos c3] at H
 have c3b0 : ((l0.length : Int) == (l1.length : Int)) = true := beq_iff_eq.mpr c3
 have c3b1 : ((l0.length : Int) != (l1.length : Int)) = false := bne_eq_false_iff_eq.mpr c3
 have c3b2 : (l0.length == l1.length) = true := by first | simpa using c3 | (simp at c3 ⊢; omega)
 clear c3
 have H' := zA.mk H
 clear H
 go_enter Try.func110, Try.ntmps110
 go_wp2
 go_loopg [5] k (fun kq v5 w' => ∃ (x5_1 : Int), v5 = .int .i64 x5_1 ∧ zA (qF.l0 kq l0 l1 x5_1 = some r) ∧ zA (kq ≤ k) ∧ zA (Below w.heap.size w w'))
 case atStart => exact ⟨(0), (by first | rfl | (simp; done) | (simp [*]; done)), H', ⟨yqy _⟩, ⟨by repeat (first | (with_reducible first | exact HB.out | apply zC | apply zB | apply zD) | exact HB.out)⟩⟩
 case round =>
  clear H'
  try clear c1
  try clear p2
  try clear c3
  try clear c3b0
  try clear c3b1
  try clear c3b2
  obtain ⟨x5_1, rfl, HA, HK1, HB⟩ := hrel
  cases gk with
  | zero => exact absurd HA.out (by simp [qF.l0])
  | succ k1 =>
   have H := HA.out
   clear HA
   simp only [qF.l0] at H
   by_cases c4 : x5_1 < (l0.length : Int)
   rotate_left
   next =>
    rw [if_neg c4] at H
    have c4b0 : decide (x5_1 < (l0.length : Int)) = false := yhy c4
    clear c4
    obtain rfl := yey H
    go_wp2
    go_ret
    exact ⟨by first | rfl | (simp [zQ, zR] <;> rfl) | (simp [*, zQ, zR] <;> rfl), by repeat (first | (with_reducible first | exact HB.out | apply zC | apply zB | apply zD) | exact HB.out)⟩
   rw [if_pos c4] at H
   have c4b0 : decide (x5_1 < (l0.length : Int)) = true := ygy c4
   clear c4
   by_cases c5 : 0 ≤ x5_1
   rotate_left
   next =>
    rw [if_neg c5] at H
    exact absurd H (by simp)
   rw [if_pos c5] at H
   have c5b0 : decide (0 ≤ x5_1) = true := ygy c5
   clear c5
   by_cases c6 : x5_1 < (l1.length : Int)
   rotate_left
   next =>
    rw [if_neg c6] at H
    exact absurd H (by simp)
   rw [if_pos c6] at H
   have c6b0 : decide (x5_1 < (l1.length : Int)) = true := ygy c6
   clear c6
   replace H := ydy.mp H
   obtain ⟨t103, A70, H⟩ := H
   replace H : (if t103 = true then (qF.l0 k1 l0 l1 (wrap64 (x5_1 + 1))) else (some false)) = some r := H
   have A7 := zA.mk A70
   clear A70
   by_cases c8 : t103 = true
   rotate_left
   next =>
    replace c8 := Bool.eq_false_iff.mpr c8
    subst c8
    have H1 : (some false) = some r := by rw [if_neg (show ¬ (false = true) by decide)] at H; exact H
    clear H
    have H := H1
    clear H1
    obtain rfl := yey H
    try go_wp2
    have n0_ := zA.mk (zD HB.out)
    clear HB
    have HB := n0_
    clear n0_
    have p101 : 0 ≤ (x5_1 : Int) := of_decide_eq_true (by first | (with_reducible assumption) | assumption)
    have q101 : x5_1 < (l0.length : Int) := of_decide_eq_true (by first | (with_reducible assumption) | assumption)
    obtain ⟨ad101, e101, hx101_0, hx101_1⟩ := Zs HR0.out x5_1 p101 q101
    have hw101_1 := hx101_1
    have hw101_0 := hx101_0
    cases e101
    replace hx101_0 := (HB.out.cell (ypy w _ hx101_0)).trans hx101_0
    replace hx101_1 := (HB.out.cell (ypy w _ hx101_1)).trans hx101_1
    replace p101 := eq_true p101
    replace q101 := eq_true q101
    have p102 : 0 ≤ (x5_1 : Int) := of_decide_eq_true (by first | (with_reducible assumption) | assumption)
    have q102 : x5_1 < (l1.length : Int) := of_decide_eq_true (by first | (with_reducible assumption) | assumption)
    obtain ⟨ad102, e102, hx102_0, hx102_1⟩ := Zs HR1.out x5_1 p102 q102
    have hw102_1 := hx102_1
    have hw102_0 := hx102_0
    cases e102
    replace hx102_0 := (HB.out.cell (ypy w _ hx102_0)).trans hx102_0
    replace hx102_1 := (HB.out.cell (ypy w _ hx102_1)).trans hx102_1
    replace p102 := eq_true p102
    replace q102 := eq_true q102
    refine QN (n := 10) (S := fun w' => w'.cell? (ad101.add ((x5_1).toNat * 2)) = some (.int .i64 ((zG l0 x5_1).f0)) ∧ w'.cell? ⟨(ad101.add ((x5_1).toNat * 2)).block, (ad101.add ((x5_1).toNat * 2)).off + 1, none⟩ = some (.int .i64 ((zG l0 x5_1).f1)) ∧ w'.cell? (ad102.add ((x5_1).toNat * 2)) = some (.int .i64 ((zG l1 x5_1).f0)) ∧ w'.cell? ⟨(ad102.add ((x5_1).toNat * 2)).block, (ad102.add ((x5_1).toNat * 2)).off + 1, none⟩ = some (.int .i64 ((zG l1 x5_1).f1))) (ds := []) #[false, false, false, false, false, false, false, false, false, false] (by kernel_rfl) rfl rfl ⟨((HB.out.cell (ypy w _ hw101_0)).trans hw101_0), ((HB.out.cell (ypy w _ hw101_1)).trans hw101_1), ((HB.out.cell (ypy w _ hw102_0)).trans hw102_0), ((HB.out.cell (ypy w _ hw102_1)).trans hw102_1)⟩ (fun hHeld => ?_); refine Zr qF.tab6 qF.zFG (fun HT_ HW_ => ?_)
    generalize wr.drew = w11 at HB hx101_0 hx101_1 hx102_0 hx102_1 hHeld ⊢
    refine zp (i := 0) (N := some 17) (v := ?_) (a' := ?_) #[true, false, false, false, false, false, false, false, false, false] rfl rfl (zk HT_.out (by kernel_rfl)) (fun _ _ _ h => h) (Or.inl ⟨by rfl, ?_⟩) ?_ ?_
    rotate_left
    next =>
     intro w'
     go_simp
     with_reducible rfl
    rotate_left
    next =>
     simp only [Act.put, yay, yby, ycy, zY, zZ]
     rfl
    refine zp (i := 1) (N := some 18) (v := ?_) (a' := ?_) #[true, true, false, false, false, false, false, false, false, false] rfl rfl (zk HT_.out (by kernel_rfl)) (fun _ _ _ h => h) (Or.inl ⟨by rfl, ?_⟩) ?_ ?_
    rotate_left
    next =>
     intro w'
     go_simp
     with_reducible rfl
    rotate_left
    next =>
     simp only [Act.put, yay, yby, ycy, zY, zZ]
     rfl
    refine zp (i := 2) (N := some 19) (v := ?_) (a' := ?_) #[true, true, true, false, false, false, false, false, false, false] rfl rfl (zk HT_.out (by kernel_rfl)) (fun _ _ _ h => h) (Or.inl ⟨by rfl, ?_⟩) ?_ ?_
    rotate_left
    next =>
     intro w'
     go_simp
     with_reducible rfl
    rotate_left
    next =>
     simp only [Act.put, yay, yby, ycy, zY, zZ]
     rfl
    refine zp (i := 4) (N := some 21) (v := ?_) (a' := ?_) #[true, true, true, false, true, false, false, false, false, false] rfl rfl (zk HT_.out (by kernel_rfl)) (fun _ _ _ h => h) (Or.inl ⟨by rfl, ?_⟩) ?_ ?_
    rotate_left
    next =>
     intro w'
     go_simp
     with_reducible rfl
    rotate_left
    next =>
     simp only [Act.put, yay, yby, ycy, zY, zZ]
     rfl
    refine zp (i := 5) (N := some 22) (v := ?_) (a' := ?_) #[true, true, true, false, true, true, false, false, false, false] rfl rfl (zk HT_.out (by kernel_rfl)) (fun _ _ _ h => h) (Or.inl ⟨by rfl, ?_⟩) ?_ ?_
    rotate_left
    next =>
     intro w'
     go_simp
     with_reducible rfl
    rotate_left
    next =>
     simp only [Act.put, yay, yby, ycy, zY, zZ]
     rfl
    refine zp (i := 6) (N := some 23) (v := ?_) (a' := ?_) #[true, true, true, false, true, true, true, false, false, false] rfl rfl (zk HT_.out (by kernel_rfl)) (fun _ _ _ h => h) (Or.inl ⟨by rfl, ?_⟩) ?_ ?_
    rotate_left
    next =>
     intro w'
     go_simp
     with_reducible rfl
    rotate_left
    next =>
     simp only [Act.put, yay, yby, ycy, zY, zZ]
     rfl
    refine ZT (i := 3) (N := some 20) (v := ?_) (a' := ?_) #[true, true, true, true, true, true, true, false, false, false] rfl rfl (qp HT_.out HW_.out (by kernel_rfl)) (fun _ _ _ h => h) (Or.inl ⟨by rfl, ?_⟩) hHeld ?_ ?_
    rotate_left
    next =>
     rintro w' ⟨s0, s1, s2, s3⟩
     go_simp
     with_reducible rfl
    rotate_left
    next =>
     simp only [Act.put, yay, yby, ycy, zY, zZ]
     rfl
    refine ZT (i := 7) (N := some 24) (v := ?_) (a' := ?_) #[true, true, true, true, true, true, true, true, false, false] rfl rfl (qp HT_.out HW_.out (by kernel_rfl)) (fun _ _ _ h => h) (Or.inl ⟨by rfl, ?_⟩) hHeld ?_ ?_
    rotate_left
    next =>
     rintro w' ⟨s0, s1, s2, s3⟩
     go_simp
     with_reducible rfl
    rotate_left
    next =>
     simp only [Act.put, yay, yby, ycy, zY, zZ]
     rfl
    refine zAb (i := 8) (N := some 25) #[true, true, true, true, true, true, true, true, true, false] rfl rfl (QK HT_.out (by kernel_rfl)) (by decide) (fun K hK => ?_)
    refine JU Try.func147 (by kernel_rfl) rfl #[.agg #[.int .i64 ((zG l0 x5_1).f0), .int .i64 ((zG l0 x5_1).f1)], .agg #[.int .i64 ((zG l1 x5_1).f0), .int .i64 ((zG l1 x5_1).f1)]] (by rfl) rfl rfl (by (try simp only [yiy, yjy, yky]); first | done | rfl | (simp only [yly, ymy]; rfl)) ?_
    with_reducible refine (Qf.calls ((zG l0 x5_1).f0) ((zG l0 x5_1).f1) ((zG l1 x5_1).f0) ((zG l1 x5_1).f1) false _ A7.out).mono ?_
    rintro e w12 ⟨rfl, hb⟩
    refine ⟨_, rfl, ?_⟩
    have n0_ := zA.mk (zN (by repeat (first | (with_reducible first | exact HB.out | apply zC | apply zB | apply zD) | exact HB.out)) hb)
    clear HB
    have HB := n0_
    clear n0_
    (try clear hb)
    (try clear hb2)
    (try clear hk)
    (try clear hi)
    refine hK.out _ _ ⟨((HB.out.cell (ypy w _ hw101_0)).trans hw101_0), ((HB.out.cell (ypy w _ hw101_1)).trans hw101_1), ((HB.out.cell (ypy w _ hw102_0)).trans hw102_0), ((HB.out.cell (ypy w _ hw102_1)).trans hw102_1)⟩ (fun hHeld => ?_)
    clear hK K
    refine QQ (a' := ?_) ?_ ?_
    rotate_left
    next =>
     show Act.put _ (some 25) _ = _
     simp only [Act.put, yay, yby, ycy, zY, zZ]
     rfl
    refine zp (i := 9) (N := some 26) (v := ?_) (a' := ?_) #[true, true, true, true, true, true, true, true, true, true] rfl rfl (zk HT_.out (by kernel_rfl)) (fun _ _ _ h => h) (Or.inl ⟨by rfl, ?_⟩) ?_ ?_
    rotate_left
    next =>
     intro w'
     go_simp
     with_reducible rfl
    rotate_left
    next =>
     simp only [Act.put, yay, yby, ycy, zY, zZ]
     rfl
    refine JN (Qc HT_.out (by kernel_rfl)) ?_
    try go_wp2
    go_ret
    exact ⟨by first | rfl | (simp [zQ, zR] <;> rfl) | (simp [*, zQ, zR] <;> rfl), by repeat (first | (with_reducible first | exact HB.out | apply zC | apply zB | apply zD) | exact HB.out)⟩
   subst c8
   have H1 : (qF.l0 k1 l0 l1 (wrap64 (x5_1 + 1))) = some r := by rw [if_pos rfl] at H; exact H
   clear H
   have H := H1
   clear H1
   have H' := zA.mk H
   clear H
   try go_wp2
   have n0_ := zA.mk (zD HB.out)
   clear HB
   have HB := n0_
   clear n0_
   have p101 : 0 ≤ (x5_1 : Int) := of_decide_eq_true (by first | (with_reducible assumption) | assumption)
   have q101 : x5_1 < (l0.length : Int) := of_decide_eq_true (by first | (with_reducible assumption) | assumption)
   obtain ⟨ad101, e101, hx101_0, hx101_1⟩ := Zs HR0.out x5_1 p101 q101
   have hw101_1 := hx101_1
   have hw101_0 := hx101_0
   cases e101
   replace hx101_0 := (HB.out.cell (ypy w _ hx101_0)).trans hx101_0
   replace hx101_1 := (HB.out.cell (ypy w _ hx101_1)).trans hx101_1
   replace p101 := eq_true p101
   replace q101 := eq_true q101
   have p102 : 0 ≤ (x5_1 : Int) := of_decide_eq_true (by first | (with_reducible assumption) | assumption)
   have q102 : x5_1 < (l1.length : Int) := of_decide_eq_true (by first | (with_reducible assumption) | assumption)
   obtain ⟨ad102, e102, hx102_0, hx102_1⟩ := Zs HR1.out x5_1 p102 q102
   have hw102_1 := hx102_1
   have hw102_0 := hx102_0
   cases e102
   replace hx102_0 := (HB.out.cell (ypy w _ hx102_0)).trans hx102_0
   replace hx102_1 := (HB.out.cell (ypy w _ hx102_1)).trans hx102_1
   replace p102 := eq_true p102
   replace q102 := eq_true q102
   refine QN (n := 10) (S := fun w' => w'.cell? (ad101.add ((x5_1).toNat * 2)) = some (.int .i64 ((zG l0 x5_1).f0)) ∧ w'.cell? ⟨(ad101.add ((x5_1).toNat * 2)).block, (ad101.add ((x5_1).toNat * 2)).off + 1, none⟩ = some (.int .i64 ((zG l0 x5_1).f1)) ∧ w'.cell? (ad102.add ((x5_1).toNat * 2)) = some (.int .i64 ((zG l1 x5_1).f0)) ∧ w'.cell? ⟨(ad102.add ((x5_1).toNat * 2)).block, (ad102.add ((x5_1).toNat * 2)).off + 1, none⟩ = some (.int .i64 ((zG l1 x5_1).f1))) (ds := []) #[false, false, false, false, false, false, false, false, false, false] (by kernel_rfl) rfl rfl ⟨((HB.out.cell (ypy w _ hw101_0)).trans hw101_0), ((HB.out.cell (ypy w _ hw101_1)).trans hw101_1), ((HB.out.cell (ypy w _ hw102_0)).trans hw102_0), ((HB.out.cell (ypy w _ hw102_1)).trans hw102_1)⟩ (fun hHeld => ?_); refine Zr qF.tab6 qF.zFG (fun HT_ HW_ => ?_)
   generalize wr.drew = w9 at HB hx101_0 hx101_1 hx102_0 hx102_1 hHeld ⊢
   refine zp (i := 0) (N := some 17) (v := ?_) (a' := ?_) #[true, false, false, false, false, false, false, false, false, false] rfl rfl (zk HT_.out (by kernel_rfl)) (fun _ _ _ h => h) (Or.inl ⟨by rfl, ?_⟩) ?_ ?_
   rotate_left
   next =>
    intro w'
    go_simp
    with_reducible rfl
   rotate_left
   next =>
    simp only [Act.put, yay, yby, ycy, zY, zZ]
    rfl
   refine zp (i := 1) (N := some 18) (v := ?_) (a' := ?_) #[true, true, false, false, false, false, false, false, false, false] rfl rfl (zk HT_.out (by kernel_rfl)) (fun _ _ _ h => h) (Or.inl ⟨by rfl, ?_⟩) ?_ ?_
   rotate_left
   next =>
    intro w'
    go_simp
    with_reducible rfl
   rotate_left
   next =>
    simp only [Act.put, yay, yby, ycy, zY, zZ]
    rfl
   refine zp (i := 2) (N := some 19) (v := ?_) (a' := ?_) #[true, true, true, false, false, false, false, false, false, false] rfl rfl (zk HT_.out (by kernel_rfl)) (fun _ _ _ h => h) (Or.inl ⟨by rfl, ?_⟩) ?_ ?_
   rotate_left
   next =>
    intro w'
    go_simp
    with_reducible rfl
   rotate_left
   next =>
    simp only [Act.put, yay, yby, ycy, zY, zZ]
    rfl
   refine zp (i := 4) (N := some 21) (v := ?_) (a' := ?_) #[true, true, true, false, true, false, false, false, false, false] rfl rfl (zk HT_.out (by kernel_rfl)) (fun _ _ _ h => h) (Or.inl ⟨by rfl, ?_⟩) ?_ ?_
   rotate_left
   next =>
    intro w'
    go_simp
    with_reducible rfl
   rotate_left
   next =>
    simp only [Act.put, yay, yby, ycy, zY, zZ]
    rfl
   refine zp (i := 5) (N := some 22) (v := ?_) (a' := ?_) #[true, true, true, false, true, true, false, false, false, false] rfl rfl (zk HT_.out (by kernel_rfl)) (fun _ _ _ h => h) (Or.inl ⟨by rfl, ?_⟩) ?_ ?_
   rotate_left
   next =>
    intro w'
    go_simp
    with_reducible rfl
   rotate_left
   next =>
    simp only [Act.put, yay, yby, ycy, zY, zZ]
    rfl
   refine zp (i := 6) (N := some 23) (v := ?_) (a' := ?_) #[true, true, true, false, true, true, true, false, false, false] rfl rfl (zk HT_.out (by kernel_rfl)) (fun _ _ _ h => h) (Or.inl ⟨by rfl, ?_⟩) ?_ ?_
   rotate_left
   next =>
    intro w'
    go_simp
    with_reducible rfl
   rotate_left
   next =>
    simp only [Act.put, yay, yby, ycy, zY, zZ]
    rfl
   refine ZT (i := 3) (N := some 20) (v := ?_) (a' := ?_) #[true, true, true, true, true, true, true, false, false, false] rfl rfl (qp HT_.out HW_.out (by kernel_rfl)) (fun _ _ _ h => h) (Or.inl ⟨by rfl, ?_⟩) hHeld ?_ ?_
   rotate_left
   next =>
    rintro w' ⟨s0, s1, s2, s3⟩
    go_simp
    with_reducible rfl
   rotate_left
   next =>
    simp only [Act.put, yay, yby, ycy, zY, zZ]
    rfl
   refine ZT (i := 7) (N := some 24) (v := ?_) (a' := ?_) #[true, true, true, true, true, true, true, true, false, false] rfl rfl (qp HT_.out HW_.out (by kernel_rfl)) (fun _ _ _ h => h) (Or.inl ⟨by rfl, ?_⟩) hHeld ?_ ?_
   rotate_left
   next =>
    rintro w' ⟨s0, s1, s2, s3⟩
    go_simp
    with_reducible rfl
   rotate_left
   next =>
    simp only [Act.put, yay, yby, ycy, zY, zZ]
    rfl
   refine zAb (i := 8) (N := some 25) #[true, true, true, true, true, true, true, true, true, false] rfl rfl (QK HT_.out (by kernel_rfl)) (by decide) (fun K hK => ?_)
   refine JU Try.func147 (by kernel_rfl) rfl #[.agg #[.int .i64 ((zG l0 x5_1).f0), .int .i64 ((zG l0 x5_1).f1)], .agg #[.int .i64 ((zG l1 x5_1).f0), .int .i64 ((zG l1 x5_1).f1)]] (by rfl) rfl rfl (by (try simp only [yiy, yjy, yky]); first | done | rfl | (simp only [yly, ymy]; rfl)) ?_
   with_reducible refine (Qf.calls ((zG l0 x5_1).f0) ((zG l0 x5_1).f1) ((zG l1 x5_1).f0) ((zG l1 x5_1).f1) true _ A7.out).mono ?_
   rintro e w10 ⟨rfl, hb⟩
   refine ⟨_, rfl, ?_⟩
   have n0_ := zA.mk (zN (by repeat (first | (with_reducible first | exact HB.out | apply zC | apply zB | apply zD) | exact HB.out)) hb)
   clear HB
   have HB := n0_
   clear n0_
   (try clear hb)
   (try clear hb2)
   (try clear hk)
   (try clear hi)
   refine hK.out _ _ ⟨((HB.out.cell (ypy w _ hw101_0)).trans hw101_0), ((HB.out.cell (ypy w _ hw101_1)).trans hw101_1), ((HB.out.cell (ypy w _ hw102_0)).trans hw102_0), ((HB.out.cell (ypy w _ hw102_1)).trans hw102_1)⟩ (fun hHeld => ?_)
   clear hK K
   refine QQ (a' := ?_) ?_ ?_
   rotate_left
   next =>
    show Act.put _ (some 25) _ = _
    simp only [Act.put, yay, yby, ycy, zY, zZ]
    rfl
   refine zp (i := 9) (N := some 26) (v := ?_) (a' := ?_) #[true, true, true, true, true, true, true, true, true, true] rfl rfl (zk HT_.out (by kernel_rfl)) (fun _ _ _ h => h) (Or.inl ⟨by rfl, ?_⟩) ?_ ?_
   rotate_left
   next =>
    intro w'
    go_simp
    with_reducible rfl
   rotate_left
   next =>
    simp only [Act.put, yay, yby, ycy, zY, zZ]
    rfl
   refine JN (Qc HT_.out (by kernel_rfl)) ?_
   try go_wp2
   go_roundg k1
   case measure => have := HK1.out; omega
   case rel => exact ⟨(wrap64 (x5_1 + 1)), (by first | rfl | (simp; done) | (simp [*]; done)), H', ⟨by have := HK1.out; omega⟩, ⟨by repeat (first | (with_reducible first | exact HB.out | apply zC | apply zB | apply zD) | exact HB.out)⟩⟩
def zy.l0 : Nat → List (List (zq)) → List (List (zq)) → Int → Option (Bool)
 | 0, _, _, _ => none
 | k + 1, x0, x1, x5 => if x5 < (x0.length : Int) then (if 0 ≤ x5 then (if x5 < (x1.length : Int) then ((qF.f k (zE x0 x5) (zE x1 x5)).bind fun t103 => (if t103 = true then (zy.l0 k x0 x1 (wrap64 (x5 + 1))) else (some false))) else (none)) else (none)) else (some true)
def zy.f (k : Nat) (l0 : List (List (zq))) (l1 : List (List (zq))) : Option (Bool) := if (l0.length : Int) = (l1.length : Int) then (zy.l0 k l0 l1 0) else (some false)
def zy.T6 : Bool × List (List Nat × List Nat) := (true, [([], []), ([], []), ([0, 1], [0, 1]), ([2], [2]), ([], []), ([], []), ([4, 5], [4, 5]), ([6], [6]), ([3, 7], [3, 7]), ([8], [8])])
def zy.B6 : List Nat := [0, 0, 3, 7, 0, 0, 48, 112, 255, 511]
theorem zy.tab6 : zAf .any (opsOf Try.f66 6) = zy.T6 := by kernel_rfl
theorem zy.zFG : Qx zy.T6.2 zy.B6 = true := by kernel_rfl
set_option maxHeartbeats 8000000 in
set_option maxRecDepth 100000 in
theorem zy.calls (k : Nat) (A0 : Option Addr) (c0 : Nat) (l0 : List (List (zq))) (A1 : Option Addr) (c1 : Nat) (l1 : List (List (zq))) (r : Bool) (w : World) (hr0 : Kd.C (Kd.slice 115 ZB) w A0 l0.length l0) (hc0 : l0.length ≤ c0) (hr1 : Kd.C (Kd.slice 115 ZB) w A1 l1.length l1) (hc1 : l1.length ≤ c1) (h : zy.f k l0 l1 = some r) :
 Calls Try.prog 66 #[.slice A0 l0.length c0, .slice A1 l1.length c1] w fun e w' => e = .returned (.bool r) ∧ Below w.heap.size w w' := by
 have HR0 := zA.mk hr0
 have HC0 := zA.mk hc0
 clear hr0 hc0
 have HR1 := zA.mk hr1
 have HC1 := zA.mk hc1
 clear hr1 hc1
 have HB := zA.mk (yry w.heap.size w)
 have H : (if (l0.length : Int) = (l1.length : Int) then (zy.l0 k l0 l1 0) else (some false)) = some r := h
 clear h
 by_cases c3 : (l0.length : Int) = (l1.length : Int)
 rotate_left
 next =>
  rw [if_neg c3] at H
  have c3b0 : ((l0.length : Int) == (l1.length : Int)) = false := beq_eq_false_iff_ne.mpr c3
  have c3b1 : ((l0.length : Int) != (l1.length : Int)) = true := bne_iff_ne.mpr c3
  have c3b2 : (l0.length == l1.length) = false := by first | simpa using c3 | (simp at c3 ⊢; omega)
  obtain rfl := yey H
  go_enter Try.func66, Try.ntmps66
  go_wp2
  go_ret
  exact ⟨by first | rfl | (simp [zQ, zR] <;> rfl) | (simp [*, zQ, zR] <;> rfl), by repeat (first | (with_reducible first | exact HB.out | apply zC | apply zB | apply zD) | exact HB.out)⟩
 rw [if_pos c3] at H
 have c3b0 : ((l0.length : Int) == (l1.length : Int)) = true := beq_iff_eq.mpr c3
 have c3b1 : ((l0.length : Int) != (l1.length : Int)) = false := bne_eq_false_iff_eq.mpr c3
 have c3b2 : (l0.length == l1.length) = true := by first | simpa using c3 | (simp at c3 ⊢; omega)
 clear c3
 have H' := zA.mk H
 clear H
 go_enter Try.func66, Try.ntmps66
 go_wp2
 go_loopg [5] k (fun kq v5 w' => ∃ (x5_1 : Int), v5 = .int .i64 x5_1 ∧ zA (zy.l0 kq l0 l1 x5_1 = some r) ∧ zA (kq ≤ k) ∧ zA (Below w.heap.size w w'))
 case atStart => exact ⟨(0), (by first | rfl | (simp; done) | (simp [*]; done)), H', ⟨yqy _⟩, ⟨by repeat (first | (with_reducible first | exact HB.out | apply zC | apply zB | apply zD) | exact HB.out)⟩⟩
 case round =>
  clear H'
  try clear c1
  try clear p2
  try clear c3
  try clear c3b0
  try clear c3b1
  try clear c3b2
  obtain ⟨x5_1, rfl, HA, HK1, HB⟩ := hrel
  cases gk with
  | zero => exact absurd HA.out (by simp [zy.l0])
  | succ k1 =>
   have H := HA.out
   clear HA
   simp only [zy.l0] at H
   by_cases c4 : x5_1 < (l0.length : Int)
   rotate_left
   next =>
    rw [if_neg c4] at H
    have c4b0 : decide (x5_1 < (l0.length : Int)) = false := yhy c4
    clear c4
    obtain rfl := yey H
    go_wp2
    go_ret
    exact ⟨by first | rfl | (simp [zQ, zR] <;> rfl) | (simp [*, zQ, zR] <;> rfl), by repeat (first | (with_reducible first | exact HB.out | apply zC | apply zB | apply zD) | exact HB.out)⟩
   rw [if_pos c4] at H
   have c4b0 : decide (x5_1 < (l0.length : Int)) = true := ygy c4
   clear c4
   by_cases c5 : 0 ≤ x5_1
   rotate_left
   next =>
    rw [if_neg c5] at H
    exact absurd H (by simp)
   rw [if_pos c5] at H
   have c5b0 : decide (0 ≤ x5_1) = true := ygy c5
   clear c5
   by_cases c6 : x5_1 < (l1.length : Int)
   rotate_left
   next =>
    rw [if_neg c6] at H
    exact absurd H (by simp)
   rw [if_pos c6] at H
   have c6b0 : decide (x5_1 < (l1.length : Int)) = true := ygy c6
   clear c6
   replace H := ydy.mp H
   obtain ⟨t103, A70, H⟩ := H
   replace H : (if t103 = true then (zy.l0 k1 l0 l1 (wrap64 (x5_1 + 1))) else (some false)) = some r := H
   have A7 := zA.mk A70
   clear A70
   by_cases c8 : t103 = true
   rotate_left
   next =>
    replace c8 := Bool.eq_false_iff.mpr c8
    subst c8
    have H1 : (some false) = some r := by rw [if_neg (show ¬ (false = true) by decide)] at H; exact H
    clear H
    have H := H1
    clear H1
    obtain rfl := yey H
    try go_wp2
    have n0_ := zA.mk (zD HB.out)
    clear HB
    have HB := n0_
    clear n0_
    have p101 : 0 ≤ (x5_1 : Int) := of_decide_eq_true (by first | (with_reducible assumption) | assumption)
    have q101 : x5_1 < (l0.length : Int) := of_decide_eq_true (by first | (with_reducible assumption) | assumption)
    obtain ⟨ad101, A101_0, c101_0, e101, hx101_0, hl101_0, hi101_0⟩ := ZP HR0.out x5_1 p101 q101
    have hw101_0 := hx101_0
    cases e101
    replace hx101_0 := (HB.out.cell (ypy w _ hx101_0)).trans hx101_0
    have HR101_0 := zA.mk hi101_0
    have HC101_0 := zA.mk hl101_0
    clear hi101_0 hl101_0
    replace p101 := eq_true p101
    replace q101 := eq_true q101
    have p102 : 0 ≤ (x5_1 : Int) := of_decide_eq_true (by first | (with_reducible assumption) | assumption)
    have q102 : x5_1 < (l1.length : Int) := of_decide_eq_true (by first | (with_reducible assumption) | assumption)
    obtain ⟨ad102, A102_0, c102_0, e102, hx102_0, hl102_0, hi102_0⟩ := ZP HR1.out x5_1 p102 q102
    have hw102_0 := hx102_0
    cases e102
    replace hx102_0 := (HB.out.cell (ypy w _ hx102_0)).trans hx102_0
    have HR102_0 := zA.mk hi102_0
    have HC102_0 := zA.mk hl102_0
    clear hi102_0 hl102_0
    replace p102 := eq_true p102
    replace q102 := eq_true q102
    refine QN (n := 10) (S := fun w' => w'.cell? (ad101.add (x5_1).toNat) = some (.slice A101_0 (zE l0 x5_1).length c101_0) ∧ w'.cell? (ad102.add (x5_1).toNat) = some (.slice A102_0 (zE l1 x5_1).length c102_0)) (ds := []) #[false, false, false, false, false, false, false, false, false, false] (by kernel_rfl) rfl rfl ⟨((HB.out.cell (ypy w _ hw101_0)).trans hw101_0), ((HB.out.cell (ypy w _ hw102_0)).trans hw102_0)⟩ (fun hHeld => ?_); refine Zr zy.tab6 zy.zFG (fun HT_ HW_ => ?_)
    generalize wr.drew = w11 at HB HR101_0 HR102_0 hx101_0 hx102_0 hHeld ⊢
    refine zp (i := 0) (N := some 17) (v := ?_) (a' := ?_) #[true, false, false, false, false, false, false, false, false, false] rfl rfl (zk HT_.out (by kernel_rfl)) (fun _ _ _ h => h) (Or.inl ⟨by rfl, ?_⟩) ?_ ?_
    rotate_left
    next =>
     intro w'
     go_simp
     with_reducible rfl
    rotate_left
    next =>
     simp only [Act.put, yay, yby, ycy, zY, zZ]
     rfl
    refine zp (i := 1) (N := some 18) (v := ?_) (a' := ?_) #[true, true, false, false, false, false, false, false, false, false] rfl rfl (zk HT_.out (by kernel_rfl)) (fun _ _ _ h => h) (Or.inl ⟨by rfl, ?_⟩) ?_ ?_
    rotate_left
    next =>
     intro w'
     go_simp
     with_reducible rfl
    rotate_left
    next =>
     simp only [Act.put, yay, yby, ycy, zY, zZ]
     rfl
    refine zp (i := 2) (N := some 19) (v := ?_) (a' := ?_) #[true, true, true, false, false, false, false, false, false, false] rfl rfl (zk HT_.out (by kernel_rfl)) (fun _ _ _ h => h) (Or.inl ⟨by rfl, ?_⟩) ?_ ?_
    rotate_left
    next =>
     intro w'
     go_simp
     with_reducible rfl
    rotate_left
    next =>
     simp only [Act.put, yay, yby, ycy, zY, zZ]
     rfl
    refine zp (i := 4) (N := some 21) (v := ?_) (a' := ?_) #[true, true, true, false, true, false, false, false, false, false] rfl rfl (zk HT_.out (by kernel_rfl)) (fun _ _ _ h => h) (Or.inl ⟨by rfl, ?_⟩) ?_ ?_
    rotate_left
    next =>
     intro w'
     go_simp
     with_reducible rfl
    rotate_left
    next =>
     simp only [Act.put, yay, yby, ycy, zY, zZ]
     rfl
    refine zp (i := 5) (N := some 22) (v := ?_) (a' := ?_) #[true, true, true, false, true, true, false, false, false, false] rfl rfl (zk HT_.out (by kernel_rfl)) (fun _ _ _ h => h) (Or.inl ⟨by rfl, ?_⟩) ?_ ?_
    rotate_left
    next =>
     intro w'
     go_simp
     with_reducible rfl
    rotate_left
    next =>
     simp only [Act.put, yay, yby, ycy, zY, zZ]
     rfl
    refine zp (i := 6) (N := some 23) (v := ?_) (a' := ?_) #[true, true, true, false, true, true, true, false, false, false] rfl rfl (zk HT_.out (by kernel_rfl)) (fun _ _ _ h => h) (Or.inl ⟨by rfl, ?_⟩) ?_ ?_
    rotate_left
    next =>
     intro w'
     go_simp
     with_reducible rfl
    rotate_left
    next =>
     simp only [Act.put, yay, yby, ycy, zY, zZ]
     rfl
    refine ZT (i := 3) (N := some 20) (v := ?_) (a' := ?_) #[true, true, true, true, true, true, true, false, false, false] rfl rfl (qp HT_.out HW_.out (by kernel_rfl)) (fun _ _ _ h => h) (Or.inl ⟨by rfl, ?_⟩) hHeld ?_ ?_
    rotate_left
    next =>
     rintro w' ⟨s0, s1⟩
     go_simp
     with_reducible rfl
    rotate_left
    next =>
     simp only [Act.put, yay, yby, ycy, zY, zZ]
     rfl
    refine ZT (i := 7) (N := some 24) (v := ?_) (a' := ?_) #[true, true, true, true, true, true, true, true, false, false] rfl rfl (qp HT_.out HW_.out (by kernel_rfl)) (fun _ _ _ h => h) (Or.inl ⟨by rfl, ?_⟩) hHeld ?_ ?_
    rotate_left
    next =>
     rintro w' ⟨s0, s1⟩
     go_simp
     with_reducible rfl
    rotate_left
    next =>
     simp only [Act.put, yay, yby, ycy, zY, zZ]
     rfl
    refine zAb (i := 8) (N := some 25) #[true, true, true, true, true, true, true, true, true, false] rfl rfl (QK HT_.out (by kernel_rfl)) (by decide) (fun K hK => ?_)
    refine JU Try.func110 (by kernel_rfl) rfl #[.slice A101_0 (zE l0 x5_1).length c101_0, .slice A102_0 (zE l1 x5_1).length c102_0] (by rfl) rfl rfl (by (try simp only [yiy, yjy, yky]); first | done | rfl | (simp only [yly, ymy]; rfl)) ?_
    with_reducible refine (qF.calls k1 _ _ (zE l0 x5_1) _ _ (zE l1 x5_1) false _ ?side1 ?side2 ?side3 ?side4 A7.out).mono ?_
    (case side1 => repeat (first | exact (Kd.zl HR101_0.out HB.out) | (with_reducible refine Kd.zh ?_ _) | (with_reducible refine Kd.zi ?_ _) | (with_reducible refine Kd.qA ?_)))
    (case side2 => exact HC101_0.out)
    (case side3 => repeat (first | exact (Kd.zl HR102_0.out HB.out) | (with_reducible refine Kd.zh ?_ _) | (with_reducible refine Kd.zi ?_ _) | (with_reducible refine Kd.qA ?_)))
    (case side4 => exact HC102_0.out)
    rintro e w12 ⟨rfl, hb⟩
    refine ⟨_, rfl, ?_⟩
    have n0_ := zA.mk (zN (by repeat (first | (with_reducible first | exact HB.out | apply zC | apply zB | apply zD) | exact HB.out)) hb)
    clear HB
    have HB := n0_
    clear n0_
    (try clear hb)
    (try clear hb2)
    (try clear hk)
    (try clear hi)
    refine hK.out _ _ ⟨((HB.out.cell (ypy w _ hw101_0)).trans hw101_0), ((HB.out.cell (ypy w _ hw102_0)).trans hw102_0)⟩ (fun hHeld => ?_)
    clear hK K
    refine QQ (a' := ?_) ?_ ?_
    rotate_left
    next =>
     show Act.put _ (some 25) _ = _
     simp only [Act.put, yay, yby, ycy, zY, zZ]
     rfl
    refine zp (i := 9) (N := some 26) (v := ?_) (a' := ?_) #[true, true, true, true, true, true, true, true, true, true] rfl rfl (zk HT_.out (by kernel_rfl)) (fun _ _ _ h => h) (Or.inl ⟨by rfl, ?_⟩) ?_ ?_
    rotate_left
    next =>
     intro w'
     go_simp
     with_reducible rfl
    rotate_left
    next =>
     simp only [Act.put, yay, yby, ycy, zY, zZ]
     rfl
    refine JN (Qc HT_.out (by kernel_rfl)) ?_
    try go_wp2
    go_ret
    exact ⟨by first | rfl | (simp [zQ, zR] <;> rfl) | (simp [*, zQ, zR] <;> rfl), by repeat (first | (with_reducible first | exact HB.out | apply zC | apply zB | apply zD) | exact HB.out)⟩
   subst c8
   have H1 : (zy.l0 k1 l0 l1 (wrap64 (x5_1 + 1))) = some r := by rw [if_pos rfl] at H; exact H
   clear H
   have H := H1
   clear H1
   have H' := zA.mk H
   clear H
   try go_wp2
   have n0_ := zA.mk (zD HB.out)
   clear HB
   have HB := n0_
   clear n0_
   have p101 : 0 ≤ (x5_1 : Int) := of_decide_eq_true (by first | (with_reducible assumption) | assumption)
   have q101 : x5_1 < (l0.length : Int) := of_decide_eq_true (by first | (with_reducible assumption) | assumption)
   obtain ⟨ad101, A101_0, c101_0, e101, hx101_0, hl101_0, hi101_0⟩ := ZP HR0.out x5_1 p101 q101
   have hw101_0 := hx101_0
   cases e101
   replace hx101_0 := (HB.out.cell (ypy w _ hx101_0)).trans hx101_0
   have HR101_0 := zA.mk hi101_0
   have HC101_0 := zA.mk hl101_0
   clear hi101_0 hl101_0
   replace p101 := eq_true p101
   replace q101 := eq_true q101
   have p102 : 0 ≤ (x5_1 : Int) := of_decide_eq_true (by first | (with_reducible assumption) | assumption)
   have q102 : x5_1 < (l1.length : Int) := of_decide_eq_true (by first | (with_reducible assumption) | assumption)
   obtain ⟨ad102, A102_0, c102_0, e102, hx102_0, hl102_0, hi102_0⟩ := ZP HR1.out x5_1 p102 q102
   have hw102_0 := hx102_0
   cases e102
   replace hx102_0 := (HB.out.cell (ypy w _ hx102_0)).trans hx102_0
   have HR102_0 := zA.mk hi102_0
   have HC102_0 := zA.mk hl102_0
   clear hi102_0 hl102_0
   replace p102 := eq_true p102
   replace q102 := eq_true q102
   refine QN (n := 10) (S := fun w' => w'.cell? (ad101.add (x5_1).toNat) = some (.slice A101_0 (zE l0 x5_1).length c101_0) ∧ w'.cell? (ad102.add (x5_1).toNat) = some (.slice A102_0 (zE l1 x5_1).length c102_0)) (ds := []) #[false, false, false, false, false, false, false, false, false, false] (by kernel_rfl) rfl rfl ⟨((HB.out.cell (ypy w _ hw101_0)).trans hw101_0), ((HB.out.cell (ypy w _ hw102_0)).trans hw102_0)⟩ (fun hHeld => ?_); refine Zr zy.tab6 zy.zFG (fun HT_ HW_ => ?_)
   generalize wr.drew = w9 at HB HR101_0 HR102_0 hx101_0 hx102_0 hHeld ⊢
   refine zp (i := 0) (N := some 17) (v := ?_) (a' := ?_) #[true, false, false, false, false, false, false, false, false, false] rfl rfl (zk HT_.out (by kernel_rfl)) (fun _ _ _ h => h) (Or.inl ⟨by rfl, ?_⟩) ?_ ?_
   rotate_left
   next =>
    intro w'
    go_simp
    with_reducible rfl
   rotate_left
   next =>
    simp only [Act.put, yay, yby, ycy, zY, zZ]
    rfl
   refine zp (i := 1) (N := some 18) (v := ?_) (a' := ?_) #[true, true, false, false, false, false, false, false, false, false] rfl rfl (zk HT_.out (by kernel_rfl)) (fun _ _ _ h => h) (Or.inl ⟨by rfl, ?_⟩) ?_ ?_
   rotate_left
   next =>
    intro w'
    go_simp
    with_reducible rfl
   rotate_left
   next =>
    simp only [Act.put, yay, yby, ycy, zY, zZ]
    rfl
   refine zp (i := 2) (N := some 19) (v := ?_) (a' := ?_) #[true, true, true, false, false, false, false, false, false, false] rfl rfl (zk HT_.out (by kernel_rfl)) (fun _ _ _ h => h) (Or.inl ⟨by rfl, ?_⟩) ?_ ?_
   rotate_left
   next =>
    intro w'
    go_simp
    with_reducible rfl
   rotate_left
   next =>
    simp only [Act.put, yay, yby, ycy, zY, zZ]
    rfl
   refine zp (i := 4) (N := some 21) (v := ?_) (a' := ?_) #[true, true, true, false, true, false, false, false, false, false] rfl rfl (zk HT_.out (by kernel_rfl)) (fun _ _ _ h => h) (Or.inl ⟨by rfl, ?_⟩) ?_ ?_
   rotate_left
   next =>
    intro w'
    go_simp
    with_reducible rfl
   rotate_left
   next =>
    simp only [Act.put, yay, yby, ycy, zY, zZ]
    rfl
   refine zp (i := 5) (N := some 22) (v := ?_) (a' := ?_) #[true, true, true, false, true, true, false, false, false, false] rfl rfl (zk HT_.out (by kernel_rfl)) (fun _ _ _ h => h) (Or.inl ⟨by rfl, ?_⟩) ?_ ?_
   rotate_left
   next =>
    intro w'
    go_simp
    with_reducible rfl
   rotate_left
   next =>
    simp only [Act.put, yay, yby, ycy, zY, zZ]
    rfl
   refine zp (i := 6) (N := some 23) (v := ?_) (a' := ?_) #[true, true, true, false, true, true, true, false, false, false] rfl rfl (zk HT_.out (by kernel_rfl)) (fun _ _ _ h => h) (Or.inl ⟨by rfl, ?_⟩) ?_ ?_
   rotate_left
   next =>
    intro w'
    go_simp
    with_reducible rfl
   rotate_left
   next =>
    simp only [Act.put, yay, yby, ycy, zY, zZ]
    rfl
   refine ZT (i := 3) (N := some 20) (v := ?_) (a' := ?_) #[true, true, true, true, true, true, true, false, false, false] rfl rfl (qp HT_.out HW_.out (by kernel_rfl)) (fun _ _ _ h => h) (Or.inl ⟨by rfl, ?_⟩) hHeld ?_ ?_
   rotate_left
   next =>
    rintro w' ⟨s0, s1⟩
    go_simp
    with_reducible rfl
   rotate_left
   next =>
    simp only [Act.put, yay, yby, ycy, zY, zZ]
    rfl
   refine ZT (i := 7) (N := some 24) (v := ?_) (a' := ?_) #[true, true, true, true, true, true, true, true, false, false] rfl rfl (qp HT_.out HW_.out (by kernel_rfl)) (fun _ _ _ h => h) (Or.inl ⟨by rfl, ?_⟩) hHeld ?_ ?_
   rotate_left
   next =>
    rintro w' ⟨s0, s1⟩
    go_simp
    with_reducible rfl
   rotate_left
   next =>
    simp only [Act.put, yay, yby, ycy, zY, zZ]
    rfl
   refine zAb (i := 8) (N := some 25) #[true, true, true, true, true, true, true, true, true, false] rfl rfl (QK HT_.out (by kernel_rfl)) (by decide) (fun K hK => ?_)
   refine JU Try.func110 (by kernel_rfl) rfl #[.slice A101_0 (zE l0 x5_1).length c101_0, .slice A102_0 (zE l1 x5_1).length c102_0] (by rfl) rfl rfl (by (try simp only [yiy, yjy, yky]); first | done | rfl | (simp only [yly, ymy]; rfl)) ?_
   with_reducible refine (qF.calls k1 _ _ (zE l0 x5_1) _ _ (zE l1 x5_1) true _ ?side1 ?side2 ?side3 ?side4 A7.out).mono ?_
   (case side1 => repeat (first | exact (Kd.zl HR101_0.out HB.out) | (with_reducible refine Kd.zh ?_ _) | (with_reducible refine Kd.zi ?_ _) | (with_reducible refine Kd.qA ?_)))
   (case side2 => exact HC101_0.out)
   (case side3 => repeat (first | exact (Kd.zl HR102_0.out HB.out) | (with_reducible refine Kd.zh ?_ _) | (with_reducible refine Kd.zi ?_ _) | (with_reducible refine Kd.qA ?_)))
   (case side4 => exact HC102_0.out)
   rintro e w10 ⟨rfl, hb⟩
   refine ⟨_, rfl, ?_⟩
   have n0_ := zA.mk (zN (by repeat (first | (with_reducible first | exact HB.out | apply zC | apply zB | apply zD) | exact HB.out)) hb)
   clear HB
   have HB := n0_
   clear n0_
   (try clear hb)
   (try clear hb2)
   (try clear hk)
   (try clear hi)
   refine hK.out _ _ ⟨((HB.out.cell (ypy w _ hw101_0)).trans hw101_0), ((HB.out.cell (ypy w _ hw102_0)).trans hw102_0)⟩ (fun hHeld => ?_)
   clear hK K
   refine QQ (a' := ?_) ?_ ?_
   rotate_left
   next =>
    show Act.put _ (some 25) _ = _
    simp only [Act.put, yay, yby, ycy, zY, zZ]
    rfl
   refine zp (i := 9) (N := some 26) (v := ?_) (a' := ?_) #[true, true, true, true, true, true, true, true, true, true] rfl rfl (zk HT_.out (by kernel_rfl)) (fun _ _ _ h => h) (Or.inl ⟨by rfl, ?_⟩) ?_ ?_
   rotate_left
   next =>
    intro w'
    go_simp
    with_reducible rfl
   rotate_left
   next =>
    simp only [Act.put, yay, yby, ycy, zY, zZ]
    rfl
   refine JN (Qc HT_.out (by kernel_rfl)) ?_
   try go_wp2
   go_roundg k1
   case measure => have := HK1.out; omega
   case rel => exact ⟨(wrap64 (x5_1 + 1)), (by first | rfl | (simp; done) | (simp [*]; done)), H', ⟨by have := HK1.out; omega⟩, ⟨by repeat (first | (with_reducible first | exact HB.out | apply zC | apply zB | apply zD) | exact HB.out)⟩⟩
def Zf.f (k : Nat) (l0_0 : List (List (zq))) (l1_0 : List (List (zq))) : Option (Bool) := (zy.f k l0_0 l1_0).bind fun t103 => (if t103 = true then (some true) else (some false))
set_option maxHeartbeats 8000000 in
set_option maxRecDepth 100000 in
theorem Zf.calls (k : Nat) (A0_0 : Option Addr) (c0_0 : Nat) (l0_0 : List (List (zq))) (A1_0 : Option Addr) (c1_0 : Nat) (l1_0 : List (List (zq))) (r : Bool) (w : World) (hr0_0 : Kd.C (Kd.slice 115 ZB) w A0_0 l0_0.length l0_0) (hc0_0 : l0_0.length ≤ c0_0) (hr1_0 : Kd.C (Kd.slice 115 ZB) w A1_0 l1_0.length l1_0) (hc1_0 : l1_0.length ≤ c1_0) (h : Zf.f k l0_0 l1_0 = some r) :
    Calls Try.prog 20 #[.agg #[.slice A0_0 l0_0.length c0_0], .agg #[.slice A1_0 l1_0.length c1_0]] w fun e w' => e = .returned (.bool r) ∧ Below w.heap.size w w' := by
  have hu30 := Try.underlying30
  have HR0_0 := zA.mk hr0_0
  have HC0_0 := zA.mk hc0_0
  clear hr0_0 hc0_0
  have HR1_0 := zA.mk hr1_0
  have HC1_0 := zA.mk hc1_0
  clear hr1_0 hc1_0
  have HB := zA.mk (yry w.heap.size w)
  have H : ((zy.f k l0_0 l1_0).bind fun t103 => (if t103 = true then (some true) else (some false))) = some r := h
  clear h
  replace H := ydy.mp H
  obtain ⟨t103, A30, H⟩ := H
  replace H : (if t103 = true then (some true) else (some false)) = some r := H
  have A3 := zA.mk A30
  clear A30
  by_cases c4 : t103 = true
  · subst c4
    have H1 : (some true) = some r := by rw [if_pos rfl] at H; exact H
    clear H
    have H := H1
    clear H1
    obtain rfl := yey H
    go_enter Try.func20, Try.ntmps20
    go_wp2_with (first | ((with_reducible refine zm (N := 2) rfl ?_); refine zo ?hg (N := 2) ?hd (cs := #[.slice A0_0 l0_0.length c0_0]) (t := 30) ?hr ?_; (case hd => rfl); (case hg => rfl); (case hr => first | (go_simp; done) | (go_simp; rfl)); intro gb101 hg w5 hbox hb; have n0_ := zA.mk (zN (by repeat (first | (with_reducible first | exact HB.out | apply zC | apply zB | apply zD) | exact HB.out)) hb); have n1_ := zA.mk (hbox); have n2_ := zA.mk ((by rw [hg]; exact (zO (by repeat (first | (with_reducible first | exact HB.out | apply zC | apply zB | apply zD) | exact HB.out))) : w.heap.size ≤ gb101)); have n3_ := zA.mk ((by rw [hg]; exact (zO (by repeat (first | (with_reducible first | exact HB.out | apply zC | apply zB | apply zD) | exact HB.out))) : w.heap.size ≤ gb101)); clear HB; have HB := n0_; have BK101 := n1_; have GW101 := n2_; have GE101 := n3_; clear n0_ n1_ n2_ n3_; clear hb hbox hg) | ((with_reducible refine zm (N := 3) rfl ?_); refine zo ?hg (N := 3) ?hd (cs := #[.slice A1_0 l1_0.length c1_0]) (t := 30) ?hr ?_; (case hd => rfl); (case hg => rfl); (case hr => first | (go_simp; done) | (go_simp; rfl)); intro gb102 hg w6 hbox hb; have n0_ := zA.mk (zP (g := gb101) (o := .cells #[.slice A0_0 l0_0.length c0_0] 30 (0, 0)) (by (with_reducible repeat (first | refine zI ?_ _ | refine zJ ?_ | refine zH ?_ _)); exact BK101.out) hb); have n1_ := zA.mk (zN (by repeat (first | (with_reducible first | exact HB.out | apply zC | apply zB | apply zD | refine zF ?_ GE101.out) | exact HB.out)) hb); have n2_ := zA.mk (hbox); have n3_ := zA.mk ((by rw [hg]; exact (zO (by repeat (first | (with_reducible first | exact HB.out | apply zC | apply zB | apply zD | refine zF ?_ GE101.out) | exact HB.out))) : w.heap.size ≤ gb102)); have n4_ := zA.mk ((by rw [hg]; exact (zO (by repeat (first | (with_reducible first | exact HB.out | apply zC | apply zB | apply zD | refine zF ?_ GE101.out) | exact HB.out))) : w.heap.size ≤ gb102)); have n5_ := zA.mk ((by rw [hg]; exact Nat.ne_of_lt (qi (g := gb101) (o := .cells #[.slice A0_0 l0_0.length c0_0] 30 (0, 0)) (by (with_reducible repeat (first | refine zI ?_ _ | refine zJ ?_ | refine zH ?_ _)); exact BK101.out)) : gb101 ≠ gb102)); have n6_ := zA.mk ((by rw [hg]; exact Nat.ne_of_gt (qi (g := gb101) (o := .cells #[.slice A0_0 l0_0.length c0_0] 30 (0, 0)) (by (with_reducible repeat (first | refine zI ?_ _ | refine zJ ?_ | refine zH ?_ _)); exact BK101.out)) : gb102 ≠ gb101)); clear BK101; clear HB; have BK101 := n0_; have HB := n1_; have BK102 := n2_; have GW102 := n3_; have GE102 := n4_; have NB101_102 := n5_; have NB102_101 := n6_; clear n0_ n1_ n2_ n3_ n4_ n5_ n6_; clear hb hbox hg; have hnb7 := NB101_102.out; have hnc7 := NB102_101.out; have hcz8_0 : w6.cell? ⟨gb101, 0, none⟩ = some (.slice A0_0 l0_0.length c0_0) := (zK BK101.out 0).trans rfl; have hfz8_0 := zM BK101.out 0; have hcz9_0 : w6.cell? ⟨gb102, 0, none⟩ = some (.slice A1_0 l1_0.length c1_0) := (zK BK102.out 0).trans rfl; have hfz9_0 := zM BK102.out 0) | ((with_reducible refine zT (f := 66) rfl ?_); refine qH (some 9) rfl rfl Try.func66 (by kernel_rfl) rfl #[.slice A0_0 l0_0.length c0_0, .slice A1_0 l1_0.length c1_0] rfl (by (try simp only [yiy, yjy, yky]); first | done | rfl | (simp only [yly, ymy]; rfl)) ?_; (with_reducible refine (zy.calls k _ _ l0_0 _ _ l1_0 true _ ?side1 ?side2 ?side3 ?side4 A3.out).mono ?_); (case side1 => repeat (first | exact (Kd.zl HR0_0.out HB.out) | (with_reducible refine Kd.zh ?_ _) | (with_reducible refine Kd.zi ?_ _) | (with_reducible refine Kd.qA ?_))); (case side2 => exact HC0_0.out); (case side3 => repeat (first | exact (Kd.zl HR1_0.out HB.out) | (with_reducible refine Kd.zh ?_ _) | (with_reducible refine Kd.zi ?_ _) | (with_reducible refine Kd.qA ?_))); (case side4 => exact HC1_0.out); rintro e w10 ⟨rfl, hb⟩; refine ⟨_, rfl, ?_⟩; have n0_ := zA.mk (zP (g := gb101) (o := .cells #[.slice A0_0 l0_0.length c0_0] 30 (0, 0)) (by (with_reducible repeat (first | refine zI ?_ _ | refine zJ ?_ | refine zH ?_ _)); exact BK101.out) hb); have n1_ := zA.mk (zP (g := gb102) (o := .cells #[.slice A1_0 l1_0.length c1_0] 30 (0, 0)) (by (with_reducible repeat (first | refine zI ?_ _ | refine zJ ?_ | refine zH ?_ _)); exact BK102.out) hb); have n2_ := zA.mk (zN (by repeat (first | (with_reducible first | exact HB.out | apply zC | apply zB | apply zD | refine zF ?_ GE101.out | refine zF ?_ GE102.out) | exact HB.out)) hb); clear BK101; clear BK102; clear HB; have BK101 := n0_; have BK102 := n1_; have HB := n2_; clear n0_ n1_ n2_; (try clear hb); (try clear hb2); (try clear hk); (try clear hi)))
    go_ret
    exact ⟨by first | rfl | (simp [zQ, zR] <;> rfl) | (simp [*, zQ, zR] <;> rfl), by repeat (first | (with_reducible first | exact HB.out | apply zC | apply zB | apply zD | refine zF ?_ GE101.out | refine zF ?_ GE102.out) | exact HB.out)⟩
  · replace c4 := Bool.eq_false_iff.mpr c4
    subst c4
    have H1 : (some false) = some r := by rw [if_neg (show ¬ (false = true) by decide)] at H; exact H
    clear H
    have H := H1
    clear H1
    obtain rfl := yey H
    go_enter Try.func20, Try.ntmps20
    go_wp2_with (first | ((with_reducible refine zm (N := 2) rfl ?_); refine zo ?hg (N := 2) ?hd (cs := #[.slice A0_0 l0_0.length c0_0]) (t := 30) ?hr ?_; (case hd => rfl); (case hg => rfl); (case hr => first | (go_simp; done) | (go_simp; rfl)); intro gb101 hg w11 hbox hb; have n0_ := zA.mk (zN (by repeat (first | (with_reducible first | exact HB.out | apply zC | apply zB | apply zD) | exact HB.out)) hb); have n1_ := zA.mk (hbox); have n2_ := zA.mk ((by rw [hg]; exact (zO (by repeat (first | (with_reducible first | exact HB.out | apply zC | apply zB | apply zD) | exact HB.out))) : w.heap.size ≤ gb101)); have n3_ := zA.mk ((by rw [hg]; exact (zO (by repeat (first | (with_reducible first | exact HB.out | apply zC | apply zB | apply zD) | exact HB.out))) : w.heap.size ≤ gb101)); clear HB; have HB := n0_; have BK101 := n1_; have GW101 := n2_; have GE101 := n3_; clear n0_ n1_ n2_ n3_; clear hb hbox hg) | ((with_reducible refine zm (N := 3) rfl ?_); refine zo ?hg (N := 3) ?hd (cs := #[.slice A1_0 l1_0.length c1_0]) (t := 30) ?hr ?_; (case hd => rfl); (case hg => rfl); (case hr => first | (go_simp; done) | (go_simp; rfl)); intro gb102 hg w12 hbox hb; have n0_ := zA.mk (zP (g := gb101) (o := .cells #[.slice A0_0 l0_0.length c0_0] 30 (0, 0)) (by (with_reducible repeat (first | refine zI ?_ _ | refine zJ ?_ | refine zH ?_ _)); exact BK101.out) hb); have n1_ := zA.mk (zN (by repeat (first | (with_reducible first | exact HB.out | apply zC | apply zB | apply zD | refine zF ?_ GE101.out) | exact HB.out)) hb); have n2_ := zA.mk (hbox); have n3_ := zA.mk ((by rw [hg]; exact (zO (by repeat (first | (with_reducible first | exact HB.out | apply zC | apply zB | apply zD | refine zF ?_ GE101.out) | exact HB.out))) : w.heap.size ≤ gb102)); have n4_ := zA.mk ((by rw [hg]; exact (zO (by repeat (first | (with_reducible first | exact HB.out | apply zC | apply zB | apply zD | refine zF ?_ GE101.out) | exact HB.out))) : w.heap.size ≤ gb102)); have n5_ := zA.mk ((by rw [hg]; exact Nat.ne_of_lt (qi (g := gb101) (o := .cells #[.slice A0_0 l0_0.length c0_0] 30 (0, 0)) (by (with_reducible repeat (first | refine zI ?_ _ | refine zJ ?_ | refine zH ?_ _)); exact BK101.out)) : gb101 ≠ gb102)); have n6_ := zA.mk ((by rw [hg]; exact Nat.ne_of_gt (qi (g := gb101) (o := .cells #[.slice A0_0 l0_0.length c0_0] 30 (0, 0)) (by (with_reducible repeat (first | refine zI ?_ _ | refine zJ ?_ | refine zH ?_ _)); exact BK101.out)) : gb102 ≠ gb101)); clear BK101; clear HB; have BK101 := n0_; have HB := n1_; have BK102 := n2_; have GW102 := n3_; have GE102 := n4_; have NB101_102 := n5_; have NB102_101 := n6_; clear n0_ n1_ n2_ n3_ n4_ n5_ n6_; clear hb hbox hg; have hnb13 := NB101_102.out; have hnc13 := NB102_101.out; have hcz14_0 : w12.cell? ⟨gb101, 0, none⟩ = some (.slice A0_0 l0_0.length c0_0) := (zK BK101.out 0).trans rfl; have hfz14_0 := zM BK101.out 0; have hcz15_0 : w12.cell? ⟨gb102, 0, none⟩ = some (.slice A1_0 l1_0.length c1_0) := (zK BK102.out 0).trans rfl; have hfz15_0 := zM BK102.out 0) | ((with_reducible refine zT (f := 66) rfl ?_); refine qH (some 9) rfl rfl Try.func66 (by kernel_rfl) rfl #[.slice A0_0 l0_0.length c0_0, .slice A1_0 l1_0.length c1_0] rfl (by (try simp only [yiy, yjy, yky]); first | done | rfl | (simp only [yly, ymy]; rfl)) ?_; (with_reducible refine (zy.calls k _ _ l0_0 _ _ l1_0 false _ ?side1 ?side2 ?side3 ?side4 A3.out).mono ?_); (case side1 => repeat (first | exact (Kd.zl HR0_0.out HB.out) | (with_reducible refine Kd.zh ?_ _) | (with_reducible refine Kd.zi ?_ _) | (with_reducible refine Kd.qA ?_))); (case side2 => exact HC0_0.out); (case side3 => repeat (first | exact (Kd.zl HR1_0.out HB.out) | (with_reducible refine Kd.zh ?_ _) | (with_reducible refine Kd.zi ?_ _) | (with_reducible refine Kd.qA ?_))); (case side4 => exact HC1_0.out); rintro e w16 ⟨rfl, hb⟩; refine ⟨_, rfl, ?_⟩; have n0_ := zA.mk (zP (g := gb101) (o := .cells #[.slice A0_0 l0_0.length c0_0] 30 (0, 0)) (by (with_reducible repeat (first | refine zI ?_ _ | refine zJ ?_ | refine zH ?_ _)); exact BK101.out) hb); have n1_ := zA.mk (zP (g := gb102) (o := .cells #[.slice A1_0 l1_0.length c1_0] 30 (0, 0)) (by (with_reducible repeat (first | refine zI ?_ _ | refine zJ ?_ | refine zH ?_ _)); exact BK102.out) hb); have n2_ := zA.mk (zN (by repeat (first | (with_reducible first | exact HB.out | apply zC | apply zB | apply zD | refine zF ?_ GE101.out | refine zF ?_ GE102.out) | exact HB.out)) hb); clear BK101; clear BK102; clear HB; have BK101 := n0_; have BK102 := n1_; have HB := n2_; clear n0_ n1_ n2_; (try clear hb); (try clear hb2); (try clear hk); (try clear hi)))
    go_ret
    exact ⟨by first | rfl | (simp [zQ, zR] <;> rfl) | (simp [*, zQ, zR] <;> rfl), by repeat (first | (with_reducible first | exact HB.out | apply zC | apply zB | apply zD | refine zF ?_ GE101.out | refine zF ?_ GE102.out) | exact HB.out)⟩
def qU.l0 : Nat → List Int → Int → Int → Option (Int)
  | 0, _, _, _ => none
  | k + 1, x0, x1, x5 => if x5 < (x0.length : Int) then (if 0 ≤ x5 then (if (rd x0 x5) = x1 then (qU.l0 k x0 (wrap64 (x1 + 1)) (wrap64 (x5 + 1))) else (some (-1))) else (none)) else (some x1)
def qU.f (k : Nat) (l0 : List Int) (a1 : Int) : Option (Int) := qU.l0 k l0 a1 0
set_option maxHeartbeats 8000000 in
set_option maxRecDepth 100000 in
theorem qU.calls (k : Nat) (A0 : Option Addr) (c0 : Nat) (l0 : List Int) (a1 : Int) (r : Int) (w : World) (hr0 : Kd.C (Kd.int .i64) w A0 l0.length l0) (hc0 : l0.length ≤ c0) (h : qU.f k l0 a1 = some r) :
    Calls Try.prog 35 #[.slice A0 l0.length c0, .int .i64 a1] w fun e w' => e = .returned (.int .i64 r) ∧ zX w w' := by
  have HR0 := zA.mk hr0
  have HC0 := zA.mk hc0
  clear hr0 hc0
  have H : (qU.l0 k l0 a1 0) = some r := h
  clear h
  have H' := zA.mk H
  clear H
  go_enter Try.func35, Try.ntmps35
  go_wp2
  go_loopg [1, 5] k (fun kq v1 v5 w' => ∃ (x1_1 : Int) (x5_1 : Int), v1 = .int .i64 x1_1 ∧ v5 = .int .i64 x5_1 ∧ zA (qU.l0 kq l0 x1_1 x5_1 = some r) ∧ zA (kq ≤ k) ∧ zX w w')
  case atStart => exact ⟨(a1), (0), (by first | rfl | (simp; done) | (simp [*]; done)), (by first | rfl | (simp; done) | (simp [*]; done)), H', ⟨yqy _⟩, by repeat (first | exact zX.refl _ | apply zX.step)⟩
  case round =>
    clear H'
    try clear p2
    obtain ⟨x1_1, x5_1, rfl, rfl, HA, HK1, ⟨m1, rfl⟩⟩ := hrel
    cases gk with
    | zero => exact absurd HA.out (by simp [qU.l0])
    | succ k1 =>
      have H := HA.out
      clear HA
      simp only [qU.l0] at H
      by_cases c3 : x5_1 < (l0.length : Int)
      · rw [if_pos c3] at H
        have c3b0 : decide (x5_1 < (l0.length : Int)) = true := ygy c3
        clear c3
        by_cases c4 : 0 ≤ x5_1
        · rw [if_pos c4] at H
          have c4b0 : decide (0 ≤ x5_1) = true := ygy c4
          clear c4
          by_cases c5 : (rd l0 x5_1) = x1_1
          · rw [if_pos c5] at H
            have c5b0 : ((rd l0 x5_1) == x1_1) = true := beq_iff_eq.mpr c5
            have c5b1 : ((rd l0 x5_1) != x1_1) = false := bne_eq_false_iff_eq.mpr c5
            clear c5
            have H' := zA.mk H
            clear H
            have p101 : 0 ≤ (x5_1 : Int) := of_decide_eq_true (by first | (with_reducible assumption) | assumption)
            have q101 : x5_1 < (l0.length : Int) := of_decide_eq_true (by first | (with_reducible assumption) | assumption)
            obtain ⟨ad101, e101, hx101_0⟩ := Kd.ZD HR0.out x5_1 p101 q101
            cases e101
            replace p101 := eq_true p101
            replace q101 := eq_true q101
            go_wp2
            go_roundg k1
            case measure => have := HK1.out; omega
            case rel => exact ⟨(wrap64 (x1_1 + 1)), (wrap64 (x5_1 + 1)), (by first | rfl | (simp; done) | (simp [*]; done)), (by first | rfl | (simp; done) | (simp [*]; done)), H', ⟨by have := HK1.out; omega⟩, by repeat (first | exact zX.refl _ | apply zX.step)⟩
          · rw [if_neg c5] at H
            have c5b0 : ((rd l0 x5_1) == x1_1) = false := beq_eq_false_iff_ne.mpr c5
            have c5b1 : ((rd l0 x5_1) != x1_1) = true := bne_iff_ne.mpr c5
            obtain rfl := yey H
            have p101 : 0 ≤ (x5_1 : Int) := of_decide_eq_true (by first | (with_reducible assumption) | assumption)
            have q101 : x5_1 < (l0.length : Int) := of_decide_eq_true (by first | (with_reducible assumption) | assumption)
            obtain ⟨ad101, e101, hx101_0⟩ := Kd.ZD HR0.out x5_1 p101 q101
            cases e101
            replace p101 := eq_true p101
            replace q101 := eq_true q101
            go_wp2
            go_ret
            exact ⟨by first | rfl | (simp; done) | (simp [*]; done), by repeat (first | exact zX.refl _ | apply zX.step)⟩
        · rw [if_neg c4] at H
          exact absurd H (by simp)
      · rw [if_neg c3] at H
        have c3b0 : decide (x5_1 < (l0.length : Int)) = false := yhy c3
        clear c3
        obtain rfl := yey H
        go_wp2
        go_ret
        exact ⟨by first | rfl | (simp; done) | (simp [*]; done), by repeat (first | exact zX.refl _ | apply zX.step)⟩
def qQ.l0 : Nat → List Int → Int → Int → Option (Int × List Int)
  | 0, _, _, _ => none
  | k + 1, x0, x1, x5 => if x5 < (x0.length : Int) then (if 0 ≤ x5 then (qQ.l0 k (x0.set (x5 : Int).toNat x1) (wrap64 (x1 + 1)) (wrap64 (x5 + 1))) else (none)) else (some (x1, x0))
def qQ.f (k : Nat) (l0 : List Int) (a1 : Int) : Option (Int × List Int) := qQ.l0 k l0 a1 0
set_option maxHeartbeats 8000000 in
set_option maxRecDepth 100000 in
theorem qQ.calls (k : Nat) (P0_ : Nat → Prop) (u9000_ : Value) (l0 : List Int) (a1 : Int) (r1 : Int) (r2 : List Int) (w0 w : World) (hB : Below w0.heap.size w0 w) (ho0 : Kd.R (Kd.int .i64) 2 w w0.heap.size P0_ u9000_ l0) (h : qQ.f k l0 a1 = some (r1, r2)) :
    Calls Try.prog 34 #[u9000_, .int .i64 a1] w fun e w' => e = .returned (.int .i64 r1) ∧ Kd.R (Kd.int .i64) 2 w' w0.heap.size (fun k_ => (P0_ k_ ∨ w.heap.size ≤ k_)) u9000_ r2 ∧ Below w0.heap.size w0 w' ∧ Kept w w' (fun k_ => P0_ k_) := by
  have HO0 := zA.mk (show Kd.R (Kd.int .i64) 2 w w0.heap.size (fun k_ => (P0_ k_ ∨ w.heap.size ≤ k_)) u9000_ l0 from Kd.qW ho0 (fun k_ hk => (.inl hk)))
  have HK := zA.mk (Kept.refl w (fun k_ => P0_ k_))
  have HW0 := zA.mk hB.size
  have HB := zA.mk hB
  clear hB
  have H : (qQ.l0 k l0 a1 0) = some (r1, r2) := h
  clear h
  have H' := zA.mk H
  clear H
  go_enter Try.func34, Try.ntmps34
  go_wp2
  go_loopg [1, 5] k (fun kq v1 v5 w' => ∃ (x0_1 : List Int) (x1_1 : Int) (x5_1 : Int), v1 = .int .i64 x1_1 ∧ v5 = .int .i64 x5_1 ∧ zA (qQ.l0 kq x0_1 x1_1 x5_1 = some (r1, r2)) ∧ zA (kq ≤ k) ∧ zA (Kd.R (Kd.int .i64) 2 w' w0.heap.size (fun k_ => (P0_ k_ ∨ w.heap.size ≤ k_)) u9000_ x0_1) ∧ zA (Kept w w' (fun k_ => P0_ k_)) ∧ zA (Below w0.heap.size w0 w'))
  case atStart => exact ⟨(l0), (a1), (0), (by first | rfl | (simp; done) | (simp [*]; done)), (by first | rfl | (simp; done) | (simp [*]; done)), H', ⟨yqy _⟩, ⟨by (with_reducible repeat (first | apply Kd.zg | apply Kd.zf | apply Kd.zu)); exact HO0.out⟩, ⟨by repeat (first | (with_reducible first | exact HK.out | apply Kept.alloc | apply Kept.drewN | apply Kept.drew) | exact HK.out)⟩, ⟨by repeat (first | (with_reducible first | exact HB.out | apply zC | apply zB | apply zD) | exact HB.out)⟩⟩
  case round =>
    clear H'
    try clear p2
    obtain ⟨x0_1, x1_1, x5_1, rfl, rfl, HA, HK1, HO_0, HK, HB⟩ := hrel
    cases gk with
    | zero => exact absurd HA.out (by simp [qQ.l0])
    | succ k1 =>
      have H := HA.out
      clear HA
      simp only [qQ.l0] at H
      by_cases c3 : x5_1 < (x0_1.length : Int)
      · rw [if_pos c3] at H
        have c3b0 : decide (x5_1 < (x0_1.length : Int)) = true := ygy c3
        clear c3
        by_cases c4 : 0 ≤ x5_1
        · rw [if_pos c4] at H
          have c4b0 : decide (0 ≤ x5_1) = true := ygy c4
          clear c4
          obtain ⟨y101, hy101⟩ : ∃ y_ : List Int, y_ = (x0_1.set (x5_1 : Int).toNat x1_1) := ⟨_, rfl⟩
          replace H : (qQ.l0 k1 y101 (wrap64 (x1_1 + 1)) (wrap64 (x5_1 + 1))) = some (r1, r2) := by first | (rw [hy101]; with_reducible exact H) | (have H2_ := (yfy _ _).symm.trans H; rw [hy101]; with_reducible exact H2_) | (have H2_ := (yfy _ _).symm.trans H; with_reducible exact H2_) | with_reducible exact H | (rw [hy101]; exact H) | exact H
          have Ny101 := zA.mk hy101
          clear hy101
          have H' := zA.mk H
          clear H
          obtain ⟨Ao6, co6, eo6⟩ := Kd.ZN HO_0.out
          subst eo6
          have p5 : 0 ≤ (x5_1 : Int) := of_decide_eq_true (by first | (with_reducible assumption) | assumption)
          have q5 : (x5_1 : Int) < ((x0_1.length : Int) : Int) := of_decide_eq_true (by first | (with_reducible assumption) | assumption)
          obtain ⟨go5, co5, eo5, gb5, gl5, cl5, HG5⟩ := Kd.zA7 HO_0.out (by omega)
          (first | cases eo5 | (injection eo5 with ea_ en_ ec_; (first | subst ea_ | (injection ea_ with ea_; subst ea_)); subst ec_; clear en_))
          have GB5 := zA.mk gb5
          have GG5 := zA.mk HG5
          clear gb5 gl5 HG5
          have HMgo5 := zA.mk (show (P0_ go5 ∨ w.heap.size ≤ go5) from (HO_0.out.1 _ rfl))
          obtain ⟨hx5_0, hf5_0⟩ := Kd.QA 0 HO_0.out (x5_1 : Int) p5 q5
          replace p5 := eq_true p5
          replace q5 := eq_true q5
          have HP7 := Kd.Jh HO_0.out (x5_1 : Int) x1_1
          go_wp2_with (first | ((with_reducible refine ZK (t := 2) (p := 15) rfl ?_); refine ZE (t := 2) (p := 15) (v := ?vo_w8) (w1 := (wr.setCell ⟨go5, (x5_1 : Int).toNat, none⟩ (.int .i64 x1_1))) ?hg ?ho ?hn ?hr ?_; (case ho => rfl); (case hg => rfl); (case hn => rfl); (case hr => first | (go_simp; done) | (go_simp; rfl)); intro w8 hw; have hg : wr.grownBy w8 (some go5) := (by rw [hw]; exact HP7.2); have hp_ : Kd.R (Kd.int .i64) 2 w8 w0.heap.size (fun k_ => (P0_ k_ ∨ w.heap.size ≤ k_)) (.slice (some ⟨go5, 0, none⟩) x0_1.length co6) y101 := (by rw [hw, Ny101.out]; exact HP7.1); clear HP7; have n0_ := zA.mk (hp_); have n1_ := zA.mk ((by rw [hw]; exact zF (HB.out) GB5.out : Below w0.heap.size w0 w8)); have n2_ := zA.mk (Kept.zCR (S := (fun k_ => P0_ k_)) hg (by repeat (first | (with_reducible first | exact HK.out | apply Kept.alloc | apply Kept.drewN | apply Kept.drew) | exact HK.out)) (fun k_ e_ => (HO_0.out.1 k_ e_))); clear HO_0; clear HB; clear HK; have HO_0 := n0_; have HB := n1_; have HK := n2_; clear n0_ n1_ n2_; clear hg hw hp_))
          go_roundg k1
          case measure => have := HK1.out; omega
          case rel => exact ⟨(y101), (wrap64 (x1_1 + 1)), (wrap64 (x5_1 + 1)), (by first | rfl | (simp; done) | (simp [*]; done)), (by first | rfl | (simp; done) | (simp [*]; done)), H', ⟨by have := HK1.out; omega⟩, ⟨by (with_reducible repeat (first | apply Kd.zg | apply Kd.zf | apply Kd.zu)); exact HO_0.out⟩, ⟨by repeat (first | (with_reducible first | exact HK.out | apply Kept.alloc | apply Kept.drewN | apply Kept.drew) | exact HK.out)⟩, ⟨by repeat (first | (with_reducible first | exact HB.out | apply zC | apply zB | apply zD) | exact HB.out)⟩⟩
        · rw [if_neg c4] at H
          exact absurd H (by simp)
      · rw [if_neg c3] at H
        have c3b0 : decide (x5_1 < (x0_1.length : Int)) = false := yhy c3
        clear c3
        simp only [Option.some.injEq, Prod.mk.injEq] at H
        obtain ⟨rfl, rfl⟩ := H
        obtain ⟨Ao9, co9, eo9⟩ := Kd.ZN HO_0.out
        subst eo9
        go_wp2
        go_ret
        exact ⟨by first | rfl | (simp [zQ, zR] <;> rfl) | (simp [*, zQ, zR] <;> rfl), by (with_reducible repeat (first | apply Kd.zg | apply Kd.zf | apply Kd.zu)); exact HO_0.out, by repeat (first | (with_reducible first | exact HB.out | apply zC | apply zB | apply zD) | exact HB.out), by repeat (first | (with_reducible first | exact HK.out | apply Kept.alloc | apply Kept.drewN | apply Kept.drew) | exact HK.out)⟩
def qo.go (k : Nat) : Nat → List (List Int) → Int → Nat → Option (Int × List (List Int))
  | 0, l, a, _ => some (a, l)
  | d + 1, l, a, i => (qQ.f k (l.getD i []) a).bind fun p => qo.go k d (l.set i p.2) p.1 (i + 1)
def qo.f (k : Nat) (l : List (List Int)) (a : Int) : Option (Int × List (List Int)) := qo.go k l.length l a 0
set_option maxHeartbeats 8000000 in
set_option maxRecDepth 100000 in
theorem qo.calls (k : Nat) (P0_ : Nat → Prop) (v : Value) (l0 : List (List Int)) (a1 r1 : Int) (r2 : List (List Int)) (w0 w : World) (hB : Below w0.heap.size w0 w) (ho0 : Kd.S (Kd.slice 2 (Kd.int .i64)) 25 w w0.heap.size P0_ v l0) (h : qo.f k l0 a1 = some (r1, r2)) :
    Calls Try.prog 49 #[v, .int .i64 a1] w fun e w' => e = .returned (.int .i64 r1) ∧ Kd.S (Kd.slice 2 (Kd.int .i64)) 25 w' w0.heap.size P0_ v r2 ∧ Below w0.heap.size w0 w' ∧ Kept w w' P0_ := by
  obtain ⟨A, c, rfl⟩ := Kd.JO ho0
  have hbig : l0.length ≤ 9223372036854775807 := (Kd.Zt ho0).2.2.2.1
  have HO := zA.mk ho0
  have HB := zA.mk hB
  have HK := zA.mk (Kept.refl w P0_)
  have H' := zA.mk (show qo.go k l0.length l0 a1 0 = some (r1, r2) from h)
  clear h hB ho0
  go_enter Try.func49, Try.ntmps49
  go_wp2
  go_loopg [1, 5] l0.length (fun gg v1 v5 w' => ∃ (d i : Nat) (l : List (List Int)) (a : Int), i + d = l0.length ∧ d ≤ gg ∧ zA (l.length = l0.length) ∧ v1 = .int .i64 a ∧ v5 = .int .i64 i ∧ zA (qo.go k d l a i = some (r1, r2)) ∧ zA (Kd.S (Kd.slice 2 (Kd.int .i64)) 25 w' w0.heap.size P0_ (.slice A l0.length c) l) ∧ zA (Below w0.heap.size w0 w') ∧ zA (Kept w w' P0_))
  case atStart => exact ⟨l0.length, 0, l0, a1, by omega, by omega, ⟨rfl⟩, rfl, rfl, H', HO, HB, HK⟩
  case round =>
    clear H' HO HB HK
    obtain ⟨d, i, l, a, hid, hg, HL, rfl, rfl, HA, HO, HB, HK⟩ := hrel
    cases d with
    | zero =>
      obtain rfl : i = l0.length := by omega
      have H2 := zA.mk (yey HA.out)
      clear HA
      go_wp2
      go_ret
      obtain ⟨e1, e2⟩ := Prod.mk.inj H2.out
      exact ⟨by rw [e1]; rfl, by rw [← e2]; exact HO.out, HB.out, HK.out⟩
    | succ d =>
      have hltz : (i : Int) < (l0.length : Int) := by omega
      have hL := HL.out
      obtain ⟨p, hp, H⟩ := ydy.mp HA.out
      obtain ⟨p1, p2⟩ := p
      have HH := zA.mk H
      have HP := zA.mk hp
      clear HA hp H
      rcases A with _ | ad
      · obtain ⟨g, cap, ev, _, _, _⟩ := Kd.zDp HO.out (by omega)
        cases ev
      obtain ⟨oki, cs, hcl, hM, hcc, hoki, hback⟩ := Kd.zDq (ad := ad) HO.out [] (i : Int) (by omega) (by omega)
      obtain ⟨v1, rfl, hR⟩ := hM
      have hx := hcc 0 v1 rfl
      rw [yny] at hR hx hback
      have hx2 : wr.cell? (ad.add i) = some v1 := by
        have e : i * (Kd.slice 2 (Kd.int .i64)).sz + 0 = i := by show i * 1 + 0 = i; omega
        rw [e] at hx; exact hx
      clear hcl hcc hx
      have HR := zA.mk (Kd.Qy rfl hR)
      have HI := zA.mk (show ∀ k_, v1.ownBlock = some k_ → oki k_ from hR.1)
      have HOK := zA.mk hoki
      have HBK := zA.mk (@hback)
      clear hR hoki hback
      generalize l.getD i [] = y at HP HR
      obtain ⟨A1, c1, rfl⟩ := Kd.ZN HR.out
      clear hL
      go_wp2_with (first | (go_at_call 34; (with_reducible refine (qQ.calls k (fun k_ => some k_ = (.slice A1 y.length c1 : Value).ownBlock) (.slice A1 y.length c1) y a p1 p2 w0 _ HB.out HR.out HP.out).mono ?_); rintro e w' ⟨rfl, hy, hb, hk⟩; have HO2 := zA.mk (HBK.out (w1 := w') (row := (.slice A1 y.length c1 : Value).ownBlock) (x' := p2) ⟨hb.os.trans HB.out.os.symm, hb.tape.trans HB.out.tape.symm, hb.output.trans HB.out.output.symm, hk.1, fun k_ h1 h2 => hk.2 k_ h1 h2⟩ (fun k_ e_ => HI.out k_ e_) ⟨_, rfl, Kd.zFA rfl hy (fun k_ e_ => HI.out k_ e_)⟩); have HB2 := zA.mk hb; have HK2 := zA.mk (HK.out.zF7 hk (fun k_ e_ => .inl (HOK.out k_ (HI.out k_ e_.symm)).1)); clear hy hb hk HB HK HBK HO))
      go_roundg d
      case measure => omega
      case rel => exact ⟨d, i + 1, l.set i p2, p1, by omega, by omega, ⟨by rw [List.length_set]; exact HL.out⟩, rfl, by go_num, HH, HO2, HB2, HK2⟩
end Go.Proofs.Ythjpdljdodalaaa.P
