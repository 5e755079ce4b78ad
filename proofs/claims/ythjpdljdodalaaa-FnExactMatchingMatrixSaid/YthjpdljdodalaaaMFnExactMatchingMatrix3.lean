/- The statement FnExactMatchingMatrixSaid, proved: part 3 of 7 (texts of this session and of the kit's print, put together and cut to what is used by a program of it). -/
import Derived.Test.YthjpdljdodalaaaMFnExactMatchingMatrix2
namespace Go.Proofs.Ythjpdljdodalaaa.P
open Go.RowKit Go.Proofs.YthjpdljdodalaaaW.PrintWords Go.Proofs.YthjpdljdodalaaaW.PrintLast Go.Proofs.YthjpdljdodalaaaW.PrintMore
attribute [local go_sem] QD QE QY QZ Zq Zr QF QG
set_option linter.unusedVariables false
set_option linter.unusedSimpArgs false
section
attribute [local go_sem high] zEB
def zQ.j0 : Nat → Int → Int → Bool → List (List (zo)) → Int → Int → Option (Bool)
 | 0, _, _, _, _, _, _ => none
 | k + 1, x1, x2, x34, x102000, x105000, x105001 => if x34 = true then (some false) else ((qm.f x105000 x105001 x2).bind fun t107 => (if 0 ≤ x105000 then (if x105000 < (x102000.length : Int) then (if 0 ≤ t107 then (if t107 < ((zE x102000 x105000).length : Int) then ((qc.f x105000 x105001 x1).bind fun bt110 => (if (((zJ (zE x102000 x105000) t107).f0) == bt110.1 && (((zJ (zE x102000 x105000) t107).f1) == bt110.2)) = true then (if x105000 = x1 then (some (t107 != x2)) else (some true)) else (some false))) else (none)) else (none)) else (none)) else (none)))
def zQ.f (k : Nat) (l0_0 : List (List (zo))) (a1 : Int) (a2 : Int) : Option (Bool) := if 0 ≤ a1 then (if a1 < (l0_0.length : Int) then (if 0 ≤ a2 then (if a2 < ((zE l0_0 a1).length : Int) then (if ((zJ (zE l0_0 a1) a2).f0) = (-1) then (some (((zJ (zE l0_0 a1) a2).f1) == 0)) else ((qX.f l0_0 ((zJ (zE l0_0 a1) a2).f0)).bind fun t105 => (if t105 = true then ((ZY.f ((zJ (zE l0_0 a1) a2).f1)).bind fun t106 => (zQ.j0 k a1 a2 (!t106) l0_0 ((zJ (zE l0_0 a1) a2).f0) ((zJ (zE l0_0 a1) a2).f1))) else (zQ.j0 k a1 a2 true l0_0 ((zJ (zE l0_0 a1) a2).f0) ((zJ (zE l0_0 a1) a2).f1))))) else (none)) else (none)) else (none)) else (none)
def zQ.T7 : Bool × List (List Nat × List Nat) := (true, [([], []), ([0], [0]), ([], []), ([2], [2]), ([1, 3], [1, 3]), ([4], [4]), ([], []), ([5, 6], [5, 6]), ([7], [7]), ([], []), ([], []), ([9, 10], [9, 10]), ([8, 11], [8, 11]), ([12, 11], [12]), ([13], [13]), ([14, 13], [13, 14]), ([13], [13]), ([15, 16, 13], [13, 15, 16]), ([17, 13, 13], [13, 17]), ([18], [18]), ([18], [18]), ([19, 20, 18], [18, 19, 20]), ([18, 21, 13], [13, 18, 21]), ([13, 22], [13, 22]), ([23, 18, 0, 1, 2, 3, 4, 5, 6, 7, 8, 9, 10, 11, 12, 13, 14, 15, 16, 17, 18, 19, 20, 21, 22, 23], [23])])
def zQ.B7 : List Nat := [0, 1, 0, 4, 15, 31, 0, 127, 255, 0, 0, 1536, 4095, 8191, 16383, 32767, 16383, 131071, 262143, 524287, 524287, 2097151, 4194303, 8388607, 16777215]
theorem zQ.tab7 : Jg .any (opsOf Try.f145 7) = zQ.T7 := by kernel_rfl
theorem zQ.zET : QK zQ.T7.2 zQ.B7 = true := by kernel_rfl
set_option maxHeartbeats 8000000 in
set_option maxRecDepth 100000 in
theorem zQ.calls (k : Nat) (A0_0 : Option Addr) (c0_0 : Nat) (l0_0 : List (List (zo))) (a1 : Int) (a2 : Int) (r : Bool) (w : World) (hr0_0 : Kd.C (Kd.slice 115 qh) w A0_0 l0_0.length l0_0) (hc0_0 : l0_0.length ≤ c0_0) (h : zQ.f k l0_0 a1 a2 = some r) :
 Calls Try.prog 145 #[.agg #[.slice A0_0 l0_0.length c0_0], .int .i64 a1, .int .i64 a2] w fun e w' => e = .returned (.bool r) ∧ Below w.heap.size w w' := by
 have hu30 := Try.underlying30
 have hu115 := Try.underlying115
 have HR0_0 := zA.mk hr0_0
 have HC0_0 := zA.mk hc0_0
 clear hr0_0 hc0_0
 have HB := zA.mk (ypy w.heap.size w)
 have H : (if 0 ≤ a1 then (if a1 < (l0_0.length : Int) then (if 0 ≤ a2 then (if a2 < ((zE l0_0 a1).length : Int) then (if ((zJ (zE l0_0 a1) a2).f0) = (-1) then (some (((zJ (zE l0_0 a1) a2).f1) == 0)) else ((qX.f l0_0 ((zJ (zE l0_0 a1) a2).f0)).bind fun t105 => (if t105 = true then ((ZY.f ((zJ (zE l0_0 a1) a2).f1)).bind fun t106 => (zQ.j0 k a1 a2 (!t106) l0_0 ((zJ (zE l0_0 a1) a2).f0) ((zJ (zE l0_0 a1) a2).f1))) else (zQ.j0 k a1 a2 true l0_0 ((zJ (zE l0_0 a1) a2).f0) ((zJ (zE l0_0 a1) a2).f1))))) else (none)) else (none)) else (none)) else (none)) = some r := h
 clear h
 by_cases c4 : 0 ≤ a1
 next =>
  rw [if_pos c4] at H
  have c4b0 : decide (0 ≤ a1) = true := ygy c4
  clear c4
  by_cases c5 : a1 < (l0_0.length : Int)
  next =>
   rw [if_pos c5] at H
   have c5b0 : decide (a1 < (l0_0.length : Int)) = true := ygy c5
   clear c5
   by_cases c6 : 0 ≤ a2
   next =>
    rw [if_pos c6] at H
    have c6b0 : decide (0 ≤ a2) = true := ygy c6
    clear c6
    by_cases c7 : a2 < ((zE l0_0 a1).length : Int)
    next =>
     rw [if_pos c7] at H
     have c7b0 : decide (a2 < ((zE l0_0 a1).length : Int)) = true := ygy c7
     clear c7
     by_cases c8 : ((zJ (zE l0_0 a1) a2).f0) = (-1)
     next =>
      rw [if_pos c8] at H
      have c8b0 : (((zJ (zE l0_0 a1) a2).f0) == (-1)) = true := beq_iff_eq.mpr c8
      have c8b1 : (((zJ (zE l0_0 a1) a2).f0) != (-1)) = false := bne_eq_false_iff_eq.mpr c8
      clear c8
      obtain rfl := yey H
      go_enter Try.func145, Try.ntmps145
      go_wp2_with (first | ((with_reducible refine ze (N := 3) rfl ?_); refine zc ?hg (N := 3) ?hd (cs := #[.slice A0_0 l0_0.length c0_0]) (t := 30) ?hr ?_; (case hd => rfl); (case hg => rfl); (case hr => first | (go_simp; done) | (go_simp; rfl)); intro gb101 hg w9 hbox hb; have n0_ := zA.mk (zN (by repeat (first | (with_reducible first | exact HB.out | apply zC | apply zB | apply zD) | exact HB.out)) hb); have n1_ := zA.mk (hbox); have n2_ := zA.mk ((by rw [hg]; exact (zP (by repeat (first | (with_reducible first | exact HB.out | apply zC | apply zB | apply zD) | exact HB.out))) : w.heap.size ≤ gb101)); have n3_ := zA.mk ((by rw [hg]; exact (zP (by repeat (first | (with_reducible first | exact HB.out | apply zC | apply zB | apply zD) | exact HB.out))) : w.heap.size ≤ gb101)); clear HB; have HB := n0_; have BK101 := n1_; have GW101 := n2_; have GE101 := n3_; clear n0_ n1_ n2_ n3_; clear hb hbox hg; have hcz10_0 : w9.cell? ⟨gb101, 0, none⟩ = some (.slice A0_0 l0_0.length c0_0) := (zK BK101.out 0).trans rfl; have hfz10_0 := zG BK101.out 0; have p102 : 0 ≤ (a1 : Int) := of_decide_eq_true (by first | (with_reducible assumption) | assumption); have q102 : a1 < (l0_0.length : Int) := of_decide_eq_true (by first | (with_reducible assumption) | assumption); obtain ⟨ad102, A102_0, c102_0, e102, hx102_0, hl102_0, hi102_0⟩ := qv HR0_0.out a1 p102 q102; cases e102; replace hx102_0 := (HB.out.cell (yny w _ hx102_0)).trans hx102_0; have HR102_0 := zA.mk hi102_0; have HC102_0 := zA.mk hl102_0; clear hi102_0 hl102_0; replace p102 := eq_true p102; replace q102 := eq_true q102; have p103 : 0 ≤ (a2 : Int) := of_decide_eq_true (by first | (with_reducible assumption) | assumption); have q103 : a2 < ((zE l0_0 a1).length : Int) := of_decide_eq_true (by first | (with_reducible assumption) | assumption); obtain ⟨ad103, e103, hx103_0, hx103_1⟩ := ZT HR102_0.out a2 p103 q103; cases e103; replace hx103_0 := (HB.out.cell (yny w _ hx103_0)).trans hx103_0; replace hx103_1 := (HB.out.cell (yny w _ hx103_1)).trans hx103_1; replace p103 := eq_true p103; replace q103 := eq_true q103) | ((with_reducible refine ze (N := 7) rfl ?_); refine zc ?hg (N := 7) ?hd (cs := #[.int .i64 0, .int .i64 0]) (t := 115) ?hr ?_; (case hd => rfl); (case hg => rfl); (case hr => first | (go_simp; done) | (go_simp; rfl)); intro gb104 hg w11 hbox hb; have n0_ := zA.mk (zO (g := gb101) (o := .cells #[.slice (some ad102) l0_0.length c0_0] 30 (0, 0)) (by (with_reducible repeat (first | refine zI ?_ _ | refine zL ?_ | refine zH ?_ _)); exact BK101.out) hb); have n1_ := zA.mk (zN (by repeat (first | (with_reducible first | exact HB.out | apply zC | apply zB | apply zD | refine zF ?_ GE101.out) | exact HB.out)) hb); have n2_ := zA.mk (hbox); have n3_ := zA.mk ((by rw [hg]; exact (zP (by repeat (first | (with_reducible first | exact HB.out | apply zC | apply zB | apply zD | refine zF ?_ GE101.out) | exact HB.out))) : w.heap.size ≤ gb104)); have n4_ := zA.mk ((by rw [hg]; exact (zP (by repeat (first | (with_reducible first | exact HB.out | apply zC | apply zB | apply zD | refine zF ?_ GE101.out) | exact HB.out))) : w.heap.size ≤ gb104)); have n5_ := zA.mk ((by rw [hg]; exact Nat.ne_of_lt (qG (g := gb101) (o := .cells #[.slice (some ad102) l0_0.length c0_0] 30 (0, 0)) (by (with_reducible repeat (first | refine zI ?_ _ | refine zL ?_ | refine zH ?_ _)); exact BK101.out)) : gb101 ≠ gb104)); have n6_ := zA.mk ((by rw [hg]; exact Nat.ne_of_gt (qG (g := gb101) (o := .cells #[.slice (some ad102) l0_0.length c0_0] 30 (0, 0)) (by (with_reducible repeat (first | refine zI ?_ _ | refine zL ?_ | refine zH ?_ _)); exact BK101.out)) : gb104 ≠ gb101)); clear BK101; clear HB; have BK101 := n0_; have HB := n1_; have BK104 := n2_; have GW104 := n3_; have GE104 := n4_; have NB101_104 := n5_; have NB104_101 := n6_; clear n0_ n1_ n2_ n3_ n4_ n5_ n6_; clear hb hbox hg; have hnb12 := NB104_101.out; have hnc12 := NB101_104.out; have hcz13_0 : w11.cell? ⟨gb104, 0, none⟩ = some (.int .i64 0) := (zK BK104.out 0).trans rfl; have hcz13_1 : w11.cell? ⟨gb104, 1, none⟩ = some (.int .i64 0) := (zK BK104.out 1).trans rfl; have hfz13_0 := zG BK104.out 0; have hfz13_1 := zG BK104.out 1))
      go_ret
      exact ⟨by first | rfl | (simp [zS, zT] <;> rfl) | (simp [*, zS, zT] <;> rfl), by repeat (first | (with_reducible first | exact HB.out | apply zC | apply zB | apply zD | refine zF ?_ GE101.out | refine zF ?_ GE104.out) | exact HB.out)⟩
     next =>
      rw [if_neg c8] at H
      have c8b0 : (((zJ (zE l0_0 a1) a2).f0) == (-1)) = false := beq_eq_false_iff_ne.mpr c8
      have c8b1 : (((zJ (zE l0_0 a1) a2).f0) != (-1)) = true := bne_iff_ne.mpr c8
      have HC14 := zA.mk H
      clear H
      go_enter Try.func145, Try.ntmps145
      go_upto_region 4 with (first | ((with_reducible refine ze (N := 3) rfl ?_); refine zc ?hg (N := 3) ?hd (cs := #[.slice A0_0 l0_0.length c0_0]) (t := 30) ?hr ?_; (case hd => rfl); (case hg => rfl); (case hr => first | (go_simp; done) | (go_simp; rfl)); intro gb101 hg w15 hbox hb; have n0_ := zA.mk (zN (by repeat (first | (with_reducible first | exact HB.out | apply zC | apply zB | apply zD) | exact HB.out)) hb); have n1_ := zA.mk (hbox); have n2_ := zA.mk ((by rw [hg]; exact (zP (by repeat (first | (with_reducible first | exact HB.out | apply zC | apply zB | apply zD) | exact HB.out))) : w.heap.size ≤ gb101)); have n3_ := zA.mk ((by rw [hg]; exact (zP (by repeat (first | (with_reducible first | exact HB.out | apply zC | apply zB | apply zD) | exact HB.out))) : w.heap.size ≤ gb101)); clear HB; have HB := n0_; have BK101 := n1_; have GW101 := n2_; have GE101 := n3_; clear n0_ n1_ n2_ n3_; clear hb hbox hg; have hcz16_0 : w15.cell? ⟨gb101, 0, none⟩ = some (.slice A0_0 l0_0.length c0_0) := (zK BK101.out 0).trans rfl; have hfz16_0 := zG BK101.out 0; have p102 : 0 ≤ (a1 : Int) := of_decide_eq_true (by first | (with_reducible assumption) | assumption); have q102 : a1 < (l0_0.length : Int) := of_decide_eq_true (by first | (with_reducible assumption) | assumption); obtain ⟨ad102, A102_0, c102_0, e102, hx102_0, hl102_0, hi102_0⟩ := qv HR0_0.out a1 p102 q102; cases e102; replace hx102_0 := (HB.out.cell (yny w _ hx102_0)).trans hx102_0; have HR102_0 := zA.mk hi102_0; have HC102_0 := zA.mk hl102_0; clear hi102_0 hl102_0; replace p102 := eq_true p102; replace q102 := eq_true q102; have p103 : 0 ≤ (a2 : Int) := of_decide_eq_true (by first | (with_reducible assumption) | assumption); have q103 : a2 < ((zE l0_0 a1).length : Int) := of_decide_eq_true (by first | (with_reducible assumption) | assumption); obtain ⟨ad103, e103, hx103_0, hx103_1⟩ := ZT HR102_0.out a2 p103 q103; cases e103; replace hx103_0 := (HB.out.cell (yny w _ hx103_0)).trans hx103_0; replace hx103_1 := (HB.out.cell (yny w _ hx103_1)).trans hx103_1; replace p103 := eq_true p103; replace q103 := eq_true q103) | ((with_reducible refine ze (N := 7) rfl ?_); refine zc ?hg (N := 7) ?hd (cs := #[.int .i64 0, .int .i64 0]) (t := 115) ?hr ?_; (case hd => rfl); (case hg => rfl); (case hr => first | (go_simp; done) | (go_simp; rfl)); intro gb104 hg w17 hbox hb; have n0_ := zA.mk (zO (g := gb101) (o := .cells #[.slice (some ad102) l0_0.length c0_0] 30 (0, 0)) (by (with_reducible repeat (first | refine zI ?_ _ | refine zL ?_ | refine zH ?_ _)); exact BK101.out) hb); have n1_ := zA.mk (zN (by repeat (first | (with_reducible first | exact HB.out | apply zC | apply zB | apply zD | refine zF ?_ GE101.out) | exact HB.out)) hb); have n2_ := zA.mk (hbox); have n3_ := zA.mk ((by rw [hg]; exact (zP (by repeat (first | (with_reducible first | exact HB.out | apply zC | apply zB | apply zD | refine zF ?_ GE101.out) | exact HB.out))) : w.heap.size ≤ gb104)); have n4_ := zA.mk ((by rw [hg]; exact (zP (by repeat (first | (with_reducible first | exact HB.out | apply zC | apply zB | apply zD | refine zF ?_ GE101.out) | exact HB.out))) : w.heap.size ≤ gb104)); have n5_ := zA.mk ((by rw [hg]; exact Nat.ne_of_lt (qG (g := gb101) (o := .cells #[.slice (some ad102) l0_0.length c0_0] 30 (0, 0)) (by (with_reducible repeat (first | refine zI ?_ _ | refine zL ?_ | refine zH ?_ _)); exact BK101.out)) : gb101 ≠ gb104)); have n6_ := zA.mk ((by rw [hg]; exact Nat.ne_of_gt (qG (g := gb101) (o := .cells #[.slice (some ad102) l0_0.length c0_0] 30 (0, 0)) (by (with_reducible repeat (first | refine zI ?_ _ | refine zL ?_ | refine zH ?_ _)); exact BK101.out)) : gb104 ≠ gb101)); clear BK101; clear HB; have BK101 := n0_; have HB := n1_; have BK104 := n2_; have GW104 := n3_; have GE104 := n4_; have NB101_104 := n5_; have NB104_101 := n6_; clear n0_ n1_ n2_ n3_ n4_ n5_ n6_; clear hb hbox hg; have hnb18 := NB104_101.out; have hnc18 := NB101_104.out; have hcz19_0 : w17.cell? ⟨gb104, 0, none⟩ = some (.int .i64 0) := (zK BK104.out 0).trans rfl; have hcz19_1 : w17.cell? ⟨gb104, 1, none⟩ = some (.int .i64 0) := (zK BK104.out 1).trans rfl; have hfz19_0 := zG BK104.out 0; have hfz19_1 := zG BK104.out 1))
      (try simp only [Act.put, yay, yby, ycy])
      go_cut [34] (fun v34 wc => ∃ (kq : Nat) (x34_13 : Bool), v34 = .bool x34_13 ∧ zA (zQ.j0 kq a1 a2 x34_13 l0_0 ((zJ (zE l0_0 a1) a2).f0) ((zJ (zE l0_0 a1) a2).f1) = some r) ∧ zA (kq ≤ k) ∧ zA (wc.heap[gb101]? = some (.cells #[(.slice (some ad102) l0_0.length c0_0)] 30 (0, 0))) ∧ zA (wc.heap[gb104]? = some (.cells #[.int .i64 ((zJ (zE l0_0 a1) a2).f0), .int .i64 ((zJ (zE l0_0 a1) a2).f1)] 115 (0, 0))) ∧ zA (Below w.heap.size w wc))
      case first =>
       have H := HC14.out
       clear HC14
       replace H := ydy.mp H
       obtain ⟨t105, A200, H⟩ := H
       replace H : (if t105 = true then ((ZY.f ((zJ (zE l0_0 a1) a2).f1)).bind fun t106 => (zQ.j0 k a1 a2 (!t106) l0_0 ((zJ (zE l0_0 a1) a2).f0) ((zJ (zE l0_0 a1) a2).f1))) else (zQ.j0 k a1 a2 true l0_0 ((zJ (zE l0_0 a1) a2).f0) ((zJ (zE l0_0 a1) a2).f1))) = some r := H
       have A20 := zA.mk A200
       clear A200
       by_cases c21 : t105 = true
       next =>
        subst c21
        have H1 : ((ZY.f ((zJ (zE l0_0 a1) a2).f1)).bind fun t106 => (zQ.j0 k a1 a2 (!t106) l0_0 ((zJ (zE l0_0 a1) a2).f0) ((zJ (zE l0_0 a1) a2).f1))) = some r := by rw [if_pos rfl] at H; exact H
        clear H
        have H := H1
        clear H1
        replace H := ydy.mp H
        obtain ⟨t106, A220, H⟩ := H
        replace H : (zQ.j0 k a1 a2 (!t106) l0_0 ((zJ (zE l0_0 a1) a2).f0) ((zJ (zE l0_0 a1) a2).f1)) = some r := H
        have A22 := zA.mk A220
        clear A220
        have H' := zA.mk H
        clear H
        have hnb23 := NB101_104.out
        have hnc23 := NB104_101.out
        have hcz24_0 : w17.cell? ⟨gb101, 0, none⟩ = some (.slice (some ad102) l0_0.length c0_0) := (zK BK101.out 0).trans rfl
        have hfz24_0 := zG BK101.out 0
        have hcz25_0 : w17.cell? ⟨gb104, 0, none⟩ = some (.int .i64 0) := (zK BK104.out 0).trans rfl
        have hcz25_1 : w17.cell? ⟨gb104, 1, none⟩ = some (.int .i64 0) := (zK BK104.out 1).trans rfl
        have hfz25_0 := zG BK104.out 0
        have hfz25_1 := zG BK104.out 1
        go_wp2_with (first | ((with_reducible refine zX (f := 163) rfl ?_); refine qI (some 27) rfl rfl Try.func163 (by kernel_rfl) rfl #[.slice (some ad102) l0_0.length c0_0, .int .i64 ((zJ (zE l0_0 a1) a2).f0)] rfl (by (try simp only [yiy, yjy, yky]); first | done | rfl | (simp only [yly, ymy]; rfl)) ?_; (with_reducible refine (qX.calls _ _ l0_0 ((zJ (zE l0_0 a1) a2).f0) true _ ?side1 ?side2 A20.out).mono ?_); (case side1 => exact Kd.qD HR0_0.out (by repeat (first | (with_reducible first | exact HB.out | apply zC | apply zB | apply zD | refine zF ?_ GE101.out | refine zF ?_ GE104.out) | exact HB.out))); (case side2 => exact HC0_0.out); rintro e w' ⟨rfl, ⟨nd, rfl⟩⟩; refine ⟨_, rfl, ?_⟩) | (go_at_call 164; (with_reducible refine (ZY.calls ((zJ (zE l0_0 a1) a2).f1) t106 _ A22.out).mono ?_); rintro e w' ⟨rfl, ⟨nd, rfl⟩⟩))
        go_meet
        case rel => exact ⟨_, (!t106), (by first | rfl | (simp; done) | (simp [*]; done)), H', ⟨by first | omega | exact yoy _⟩, ⟨by (with_reducible repeat (first | refine zI ?_ _ | refine zL ?_ | refine zH ?_ _)); refine zn ?_ NB101_104.out _; (with_reducible repeat (first | refine zI ?_ _ | refine zL ?_ | refine zH ?_ _)); refine zn ?_ NB101_104.out _; (with_reducible repeat (first | refine zI ?_ _ | refine zL ?_ | refine zH ?_ _)); exact BK101.out⟩, ⟨by (with_reducible repeat (first | refine zI ?_ _ | refine zL ?_ | refine zH ?_ _)); refine zu (cs := #[.int .i64 ((zJ (zE l0_0 a1) a2).f0), .int .i64 0]) ?_ 1 _ rfl; (with_reducible repeat (first | refine zI ?_ _ | refine zL ?_ | refine zH ?_ _)); refine zu (cs := #[.int .i64 0, .int .i64 0]) ?_ 0 _ rfl; (with_reducible repeat (first | refine zI ?_ _ | refine zL ?_ | refine zH ?_ _)); exact BK104.out⟩, ⟨by repeat (first | (with_reducible first | exact HB.out | apply zC | apply zB | apply zD | refine zF ?_ GE101.out | refine zF ?_ GE104.out) | exact HB.out)⟩⟩
       next =>
        replace c21 := Bool.eq_false_iff.mpr c21
        subst c21
        have H1 : (zQ.j0 k a1 a2 true l0_0 ((zJ (zE l0_0 a1) a2).f0) ((zJ (zE l0_0 a1) a2).f1)) = some r := by rw [if_neg (show ¬ (false = true) by decide)] at H; exact H
        clear H
        have H := H1
        clear H1
        have H' := zA.mk H
        clear H
        have hnb26 := NB101_104.out
        have hnc26 := NB104_101.out
        have hcz27_0 : w17.cell? ⟨gb101, 0, none⟩ = some (.slice (some ad102) l0_0.length c0_0) := (zK BK101.out 0).trans rfl
        have hfz27_0 := zG BK101.out 0
        have hcz28_0 : w17.cell? ⟨gb104, 0, none⟩ = some (.int .i64 0) := (zK BK104.out 0).trans rfl
        have hcz28_1 : w17.cell? ⟨gb104, 1, none⟩ = some (.int .i64 0) := (zK BK104.out 1).trans rfl
        have hfz28_0 := zG BK104.out 0
        have hfz28_1 := zG BK104.out 1
        go_wp2_with (first | ((with_reducible refine zX (f := 163) rfl ?_); refine qI (some 27) rfl rfl Try.func163 (by kernel_rfl) rfl #[.slice (some ad102) l0_0.length c0_0, .int .i64 ((zJ (zE l0_0 a1) a2).f0)] rfl (by (try simp only [yiy, yjy, yky]); first | done | rfl | (simp only [yly, ymy]; rfl)) ?_; (with_reducible refine (qX.calls _ _ l0_0 ((zJ (zE l0_0 a1) a2).f0) false _ ?side1 ?side2 A20.out).mono ?_); (case side1 => exact Kd.qD HR0_0.out (by repeat (first | (with_reducible first | exact HB.out | apply zC | apply zB | apply zD | refine zF ?_ GE101.out | refine zF ?_ GE104.out) | exact HB.out))); (case side2 => exact HC0_0.out); rintro e w' ⟨rfl, ⟨nd, rfl⟩⟩; refine ⟨_, rfl, ?_⟩))
        go_meet
        case rel => exact ⟨_, (true), (by first | rfl | (simp; done) | (simp [*]; done)), H', ⟨by first | omega | exact yoy _⟩, ⟨by (with_reducible repeat (first | refine zI ?_ _ | refine zL ?_ | refine zH ?_ _)); refine zn ?_ NB101_104.out _; (with_reducible repeat (first | refine zI ?_ _ | refine zL ?_ | refine zH ?_ _)); refine zn ?_ NB101_104.out _; (with_reducible repeat (first | refine zI ?_ _ | refine zL ?_ | refine zH ?_ _)); exact BK101.out⟩, ⟨by (with_reducible repeat (first | refine zI ?_ _ | refine zL ?_ | refine zH ?_ _)); refine zu (cs := #[.int .i64 ((zJ (zE l0_0 a1) a2).f0), .int .i64 0]) ?_ 1 _ rfl; (with_reducible repeat (first | refine zI ?_ _ | refine zL ?_ | refine zH ?_ _)); refine zu (cs := #[.int .i64 0, .int .i64 0]) ?_ 0 _ rfl; (with_reducible repeat (first | refine zI ?_ _ | refine zL ?_ | refine zH ?_ _)); exact BK104.out⟩, ⟨by repeat (first | (with_reducible first | exact HB.out | apply zC | apply zB | apply zD | refine zF ?_ GE101.out | refine zF ?_ GE104.out) | exact HB.out)⟩⟩
      case rest =>
       clear HC14
       try clear c1
       try clear p1
       try clear q1
       try clear hx1
       try clear c2
       try clear p2
       try clear c4
       try clear c4b0
       try clear c5
       try clear c5b0
       try clear c6
       try clear c6b0
       try clear c7
       try clear c7b0
       try clear c8
       try clear c8b0
       try clear c8b1
       try clear c10
       try clear p10
       try clear q10
       try clear hx10
       try clear c12
       try clear c14
       try clear c16
       try clear c18
       try clear c21
       try clear c23
       try clear c26
       try clear hcz10_0
       try clear hcz13_0
       try clear hcz13_1
       try clear hcz16_0
       try clear hcz19_0
       try clear hcz19_1
       try clear hcz24_0
       try clear hcz25_0
       try clear hcz25_1
       try clear hcz27_0
       try clear hcz28_0
       try clear hcz28_1
       try clear hfz10_0
       try clear hfz13_0
       try clear hfz13_1
       try clear hfz16_0
       try clear hfz19_0
       try clear hfz19_1
       try clear hfz24_0
       try clear hfz25_0
       try clear hfz25_1
       try clear hfz27_0
       try clear hfz28_0
       try clear hfz28_1
       try clear hx102_0
       try clear hx103_0
       try clear hx103_1
       try clear p102
       try clear p103
       try clear q102
       try clear q103
       obtain ⟨kq, x34_13, rfl, HA, HJ13, BK101, BK104, HB⟩ := hcut
       cases kq with
       | zero => exact absurd HA.out (by simp [zQ.j0])
       | succ kj13 =>
        have H := HA.out
        clear HA
        simp only [zQ.j0] at H
        by_cases c29 : x34_13 = true
        next =>
         subst c29
         have H1 : (some false) = some r := by rw [if_pos rfl] at H; exact H
         clear H
         have H := H1
         clear H1
         obtain rfl := yey H
         go_wp2
         go_ret
         exact ⟨by first | rfl | (simp [zS, zT] <;> rfl) | (simp [*, zS, zT] <;> rfl), by repeat (first | (with_reducible first | exact HB.out | apply zC | apply zB | apply zD | refine zF ?_ GE101.out | refine zF ?_ GE104.out) | exact HB.out)⟩
        next =>
         replace c29 := Bool.eq_false_iff.mpr c29
         subst c29
         have H1 : ((qm.f ((zJ (zE l0_0 a1) a2).f0) ((zJ (zE l0_0 a1) a2).f1) a2).bind fun t107 => (if 0 ≤ ((zJ (zE l0_0 a1) a2).f0) then (if ((zJ (zE l0_0 a1) a2).f0) < (l0_0.length : Int) then (if 0 ≤ t107 then (if t107 < ((zE l0_0 ((zJ (zE l0_0 a1) a2).f0)).length : Int) then ((qc.f ((zJ (zE l0_0 a1) a2).f0) ((zJ (zE l0_0 a1) a2).f1) a1).bind fun bt110 => (if (((zJ (zE l0_0 ((zJ (zE l0_0 a1) a2).f0)) t107).f0) == bt110.1 && (((zJ (zE l0_0 ((zJ (zE l0_0 a1) a2).f0)) t107).f1) == bt110.2)) = true then (if ((zJ (zE l0_0 a1) a2).f0) = a1 then (some (t107 != a2)) else (some true)) else (some false))) else (none)) else (none)) else (none)) else (none))) = some r := by rw [if_neg (show ¬ (false = true) by decide)] at H; exact H
         clear H
         have H := H1
         clear H1
         replace H := ydy.mp H
         obtain ⟨t107, A300, H⟩ := H
         replace H : (if 0 ≤ ((zJ (zE l0_0 a1) a2).f0) then (if ((zJ (zE l0_0 a1) a2).f0) < (l0_0.length : Int) then (if 0 ≤ t107 then (if t107 < ((zE l0_0 ((zJ (zE l0_0 a1) a2).f0)).length : Int) then ((qc.f ((zJ (zE l0_0 a1) a2).f0) ((zJ (zE l0_0 a1) a2).f1) a1).bind fun bt110 => (if (((zJ (zE l0_0 ((zJ (zE l0_0 a1) a2).f0)) t107).f0) == bt110.1 && (((zJ (zE l0_0 ((zJ (zE l0_0 a1) a2).f0)) t107).f1) == bt110.2)) = true then (if ((zJ (zE l0_0 a1) a2).f0) = a1 then (some (t107 != a2)) else (some true)) else (some false))) else (none)) else (none)) else (none)) else (none)) = some r := H
         have A30 := zA.mk A300
         clear A300
         by_cases c31 : 0 ≤ ((zJ (zE l0_0 a1) a2).f0)
         next =>
          rw [if_pos c31] at H
          have c31b0 : decide (0 ≤ ((zJ (zE l0_0 a1) a2).f0)) = true := ygy c31
          clear c31
          by_cases c32 : ((zJ (zE l0_0 a1) a2).f0) < (l0_0.length : Int)
          next =>
           rw [if_pos c32] at H
           have c32b0 : decide (((zJ (zE l0_0 a1) a2).f0) < (l0_0.length : Int)) = true := ygy c32
           clear c32
           by_cases c33 : 0 ≤ t107
           next =>
            rw [if_pos c33] at H
            have c33b0 : decide (0 ≤ t107) = true := ygy c33
            clear c33
            by_cases c34 : t107 < ((zE l0_0 ((zJ (zE l0_0 a1) a2).f0)).length : Int)
            next =>
             rw [if_pos c34] at H
             have c34b0 : decide (t107 < ((zE l0_0 ((zJ (zE l0_0 a1) a2).f0)).length : Int)) = true := ygy c34
             clear c34
             replace H := ydy.mp H
             obtain ⟨⟨t110, t111⟩, A350, H⟩ := H
             replace H : (if (((zJ (zE l0_0 ((zJ (zE l0_0 a1) a2).f0)) t107).f0) == t110 && (((zJ (zE l0_0 ((zJ (zE l0_0 a1) a2).f0)) t107).f1) == t111)) = true then (if ((zJ (zE l0_0 a1) a2).f0) = a1 then (some (t107 != a2)) else (some true)) else (some false)) = some r := H
             have A35 := zA.mk A350
             clear A350
             by_cases c36 : (((zJ (zE l0_0 ((zJ (zE l0_0 a1) a2).f0)) t107).f0) == t110 && (((zJ (zE l0_0 ((zJ (zE l0_0 a1) a2).f0)) t107).f1) == t111)) = true
             next =>
              rw [if_pos c36] at H
              have c36b0 : (((zJ (zE l0_0 ((zJ (zE l0_0 a1) a2).f0)) t107).f0) == t110 && (((zJ (zE l0_0 ((zJ (zE l0_0 a1) a2).f0)) t107).f1) == t111)) = true := c36
              (try (have c36b1 : decide (((zJ (zE l0_0 ((zJ (zE l0_0 a1) a2).f0)) t107).f0) = t110 && (((zJ (zE l0_0 ((zJ (zE l0_0 a1) a2).f0)) t107).f1) == t111)) = true := by simpa using c36))
              (try (have c36b2 : (((zJ (zE l0_0 ((zJ (zE l0_0 a1) a2).f0)) t107).f0) == t110 && (((zJ (zE l0_0 ((zJ (zE l0_0 a1) a2).f0)) t107).f1) == t111)) = true := by simpa using c36))
              clear c36
              by_cases c37 : ((zJ (zE l0_0 a1) a2).f0) = a1
              next =>
               rw [if_pos c37] at H
               have c37b0 : (((zJ (zE l0_0 a1) a2).f0) == a1) = true := beq_iff_eq.mpr c37
               have c37b1 : (((zJ (zE l0_0 a1) a2).f0) != a1) = false := bne_eq_false_iff_eq.mpr c37
               clear c37
               obtain rfl := yey H
               have hnb38 := NB104_101.out
               have hnc38 := NB101_104.out
               have hcz39_0 : wc.cell? ⟨gb104, 0, none⟩ = some (.int .i64 ((zJ (zE l0_0 a1) a2).f0)) := (zK BK104.out 0).trans rfl
               have hcz39_1 : wc.cell? ⟨gb104, 1, none⟩ = some (.int .i64 ((zJ (zE l0_0 a1) a2).f1)) := (zK BK104.out 1).trans rfl
               have hfz39_0 := zG BK104.out 0
               have hfz39_1 := zG BK104.out 1
               try go_wp2_with (first | ((with_reducible refine zX (f := 165) rfl ?_); refine qI (some 37) rfl rfl Try.func165 (by kernel_rfl) rfl #[.agg #[.int .i64 ((zJ (zE l0_0 a1) a2).f0), .int .i64 ((zJ (zE l0_0 a1) a2).f1)], .int .i64 a2] rfl (by (try simp only [yiy, yjy, yky]); first | done | rfl | (simp only [yly, ymy]; rfl)) ?_; (with_reducible refine (qm.calls ((zJ (zE l0_0 a1) a2).f0) ((zJ (zE l0_0 a1) a2).f1) a2 t107 _ A30.out).mono ?_); rintro e w40 ⟨rfl, hb⟩; refine ⟨_, rfl, ?_⟩; have n0_ := zA.mk (zO (g := gb101) (o := .cells #[.slice (some ad102) l0_0.length c0_0] 30 (0, 0)) (by (with_reducible repeat (first | refine zI ?_ _ | refine zL ?_ | refine zH ?_ _)); exact BK101.out) hb); have n1_ := zA.mk (zO (g := gb104) (o := .cells #[.int .i64 ((zJ (zE l0_0 a1) a2).f0), .int .i64 ((zJ (zE l0_0 a1) a2).f1)] 115 (0, 0)) (by (with_reducible repeat (first | refine zI ?_ _ | refine zL ?_ | refine zH ?_ _)); exact BK104.out) hb); have n2_ := zA.mk (zN (by repeat (first | (with_reducible first | exact HB.out | apply zC | apply zB | apply zD | refine zF ?_ GE101.out | refine zF ?_ GE104.out) | exact HB.out)) hb); clear BK101; clear BK104; clear HB; have BK101 := n0_; have BK104 := n1_; have HB := n2_; clear n0_ n1_ n2_; (try clear hb); (try clear hb2); (try clear hk); (try clear hi)))
               have n0_ := zA.mk (zL BK101.out)
               have n1_ := zA.mk (zL BK104.out)
               have n2_ := zA.mk (zD HB.out)
               clear BK101
               clear BK104
               clear HB
               have BK101 := n0_
               have BK104 := n1_
               have HB := n2_
               clear n0_ n1_ n2_
               have p108 : 0 ≤ (((zJ (zE l0_0 a1) a2).f0) : Int) := of_decide_eq_true (by first | (with_reducible assumption) | assumption)
               have q108 : ((zJ (zE l0_0 a1) a2).f0) < (l0_0.length : Int) := of_decide_eq_true (by first | (with_reducible assumption) | assumption)
               obtain ⟨ad108, A108_0, c108_0, e108, hx108_0, hl108_0, hi108_0⟩ := qv HR0_0.out ((zJ (zE l0_0 a1) a2).f0) p108 q108
               have hw108_0 := hx108_0
               obtain rfl : ad102 = ad108 := (by injection e108)
               replace hx108_0 := (HB.out.cell (yny w _ hx108_0)).trans hx108_0
               have HR108_0 := zA.mk hi108_0
               have HC108_0 := zA.mk hl108_0
               clear hi108_0 hl108_0
               replace p108 := eq_true p108
               replace q108 := eq_true q108
               have p109 : 0 ≤ (t107 : Int) := of_decide_eq_true (by first | (with_reducible assumption) | assumption)
               have q109 : t107 < ((zE l0_0 ((zJ (zE l0_0 a1) a2).f0)).length : Int) := of_decide_eq_true (by first | (with_reducible assumption) | assumption)
               obtain ⟨ad109, e109, hx109_0, hx109_1⟩ := ZT HR108_0.out t107 p109 q109
               have hw109_1 := hx109_1
               have hw109_0 := hx109_0
               cases e109
               replace hx109_0 := (HB.out.cell (yny w _ hx109_0)).trans hx109_0
               replace hx109_1 := (HB.out.cell (yny w _ hx109_1)).trans hx109_1
               replace p109 := eq_true p109
               replace q109 := eq_true q109
               refine Zf (n := 25) (S := fun w' => w'.cell? ⟨gb101, 0, none⟩ = some (.slice (some ad102) l0_0.length c0_0) ∧ w'.cell? ⟨gb104, 0, none⟩ = some (.int .i64 ((zJ (zE l0_0 a1) a2).f0)) ∧ w'.cell? ⟨gb104, 1, none⟩ = some (.int .i64 ((zJ (zE l0_0 a1) a2).f1)) ∧ w'.cell? (ad102.add (((zJ (zE l0_0 a1) a2).f0)).toNat) = some (.slice (some ad109) (zE l0_0 ((zJ (zE l0_0 a1) a2).f0)).length c108_0) ∧ w'.cell? (ad109.add ((t107).toNat * 2)) = some (.int .i64 ((zJ (zE l0_0 ((zJ (zE l0_0 a1) a2).f0)) t107).f0)) ∧ w'.cell? ⟨(ad109.add ((t107).toNat * 2)).block, (ad109.add ((t107).toNat * 2)).off + 1, none⟩ = some (.int .i64 ((zJ (zE l0_0 ((zJ (zE l0_0 a1) a2).f0)) t107).f1))) (ds := []) #[false, false, false, false, false, false, false, false, false, false, false, false, false, false, false, false, false, false, false, false, false, false, false, false, false] (by kernel_rfl) rfl rfl ⟨(zK BK101.out 0).trans rfl, (zK BK104.out 0).trans rfl, (zK BK104.out 1).trans rfl, ((HB.out.cell (yny w _ hw108_0)).trans hw108_0), ((HB.out.cell (yny w _ hw109_0)).trans hw109_0), ((HB.out.cell (yny w _ hw109_1)).trans hw109_1)⟩ (fun hHeld => ?_); refine ZC zQ.tab7 zQ.zET (fun HT_ HW_ => ?_)
               generalize w40.drew = w41 at BK101 BK104 HB HR108_0 hx108_0 hx109_0 hx109_1 hHeld ⊢
               refine za (i := 0) (N := some 38) (v := ?_) (a' := ?_) #[true, false, false, false, false, false, false, false, false, false, false, false, false, false, false, false, false, false, false, false, false, false, false, false, false] rfl rfl (zY HT_.out (by kernel_rfl)) (fun _ _ _ h => h) (Or.inl ⟨by rfl, ?_⟩) ?_ ?_
               rotate_left
               next =>
                intro w'
                go_simp
                with_reducible rfl
               rotate_left
               next =>
                simp only [Act.put, yay, yby, ycy, zV, zW]
                rfl
               refine za (i := 2) (N := some 40) (v := ?_) (a' := ?_) #[true, false, true, false, false, false, false, false, false, false, false, false, false, false, false, false, false, false, false, false, false, false, false, false, false] rfl rfl (zY HT_.out (by kernel_rfl)) (fun _ _ _ h => h) (Or.inl ⟨by rfl, ?_⟩) ?_ ?_
               rotate_left
               next =>
                intro w'
                go_simp
                with_reducible rfl
               rotate_left
               next =>
                simp only [Act.put, yay, yby, ycy, zV, zW]
                rfl
               refine za (i := 6) (N := some 44) (v := ?_) (a' := ?_) #[true, false, true, false, false, false, true, false, false, false, false, false, false, false, false, false, false, false, false, false, false, false, false, false, false] rfl rfl (zY HT_.out (by kernel_rfl)) (fun _ _ _ h => h) (Or.inl ⟨by rfl, ?_⟩) ?_ ?_
               rotate_left
               next =>
                intro w'
                go_simp
                with_reducible rfl
               rotate_left
               next =>
                simp only [Act.put, yay, yby, ycy, zV, zW]
                rfl
               refine za (i := 10) (N := some 48) (v := ?_) (a' := ?_) #[true, false, true, false, false, false, true, false, false, false, true, false, false, false, false, false, false, false, false, false, false, false, false, false, false] rfl rfl (zY HT_.out (by kernel_rfl)) (fun _ _ _ h => h) (Or.inl ⟨by rfl, ?_⟩) ?_ ?_
               rotate_left
               next =>
                intro w'
                go_simp
                with_reducible rfl
               rotate_left
               next =>
                simp only [Act.put, yay, yby, ycy, zV, zW]
                rfl
               refine qf (i := 1) (N := some 39) (v := ?_) (a' := ?_) #[true, true, true, false, false, false, true, false, false, false, true, false, false, false, false, false, false, false, false, false, false, false, false, false, false] rfl rfl (zy HT_.out HW_.out (by kernel_rfl)) (fun _ _ _ h => h) (Or.inl ⟨by rfl, ?_⟩) hHeld ?_ ?_
               rotate_left
               next =>
                rintro w' ⟨s0, s1, s2, s3, s4, s5⟩
                go_simp
                with_reducible rfl
               rotate_left
               next =>
                simp only [Act.put, yay, yby, ycy, zV, zW]
                rfl
               refine qf (i := 3) (N := some 41) (v := ?_) (a' := ?_) #[true, true, true, true, false, false, true, false, false, false, true, false, false, false, false, false, false, false, false, false, false, false, false, false, false] rfl rfl (zy HT_.out HW_.out (by kernel_rfl)) (fun _ _ _ h => h) (Or.inl ⟨by rfl, ?_⟩) hHeld ?_ ?_
               rotate_left
               next =>
                rintro w' ⟨s0, s1, s2, s3, s4, s5⟩
                go_simp
                with_reducible rfl
               rotate_left
               next =>
                simp only [Act.put, yay, yby, ycy, zV, zW]
                rfl
               refine za (i := 4) (N := some 42) (v := ?_) (a' := ?_) #[true, true, true, true, true, false, true, false, false, false, true, false, false, false, false, false, false, false, false, false, false, false, false, false, false] rfl rfl (zY HT_.out (by kernel_rfl)) (fun _ _ _ h => h) (Or.inl ⟨by rfl, ?_⟩) ?_ ?_
               rotate_left
               next =>
                intro w'
                go_simp
                with_reducible rfl
               rotate_left
               next =>
                simp only [Act.put, yay, yby, ycy, zV, zW]
                rfl
               refine qf (i := 5) (N := some 43) (v := ?_) (a' := ?_) #[true, true, true, true, true, true, true, false, false, false, true, false, false, false, false, false, false, false, false, false, false, false, false, false, false] rfl rfl (zy HT_.out HW_.out (by kernel_rfl)) (fun _ _ _ h => h) (Or.inl ⟨by rfl, ?_⟩) hHeld ?_ ?_
               rotate_left
               next =>
                rintro w' ⟨s0, s1, s2, s3, s4, s5⟩
                go_simp
                with_reducible rfl
               rotate_left
               next =>
                simp only [Act.put, yay, yby, ycy, zV, zW]
                rfl
               refine za (i := 7) (N := some 45) (v := ?_) (a' := ?_) #[true, true, true, true, true, true, true, true, false, false, true, false, false, false, false, false, false, false, false, false, false, false, false, false, false] rfl rfl (zY HT_.out (by kernel_rfl)) (fun _ _ _ h => h) (Or.inl ⟨by rfl, ?_⟩) ?_ ?_
               rotate_left
               next =>
                intro w'
                go_simp
                with_reducible rfl
               rotate_left
               next =>
                simp only [Act.put, yay, yby, ycy, zV, zW]
                rfl
               refine qf (i := 8) (N := some 46) (v := ?_) (a' := ?_) #[true, true, true, true, true, true, true, true, true, false, true, false, false, false, false, false, false, false, false, false, false, false, false, false, false] rfl rfl (zy HT_.out HW_.out (by kernel_rfl)) (fun _ _ _ h => h) (Or.inl ⟨by rfl, ?_⟩) hHeld ?_ ?_
               rotate_left
               next =>
                rintro w' ⟨s0, s1, s2, s3, s4, s5⟩
                go_simp
                with_reducible rfl
               rotate_left
               next =>
                simp only [Act.put, yay, yby, ycy, zV, zW]
                rfl
               refine qf (i := 9) (N := some 47) (v := ?_) (a' := ?_) #[true, true, true, true, true, true, true, true, true, true, true, false, false, false, false, false, false, false, false, false, false, false, false, false, false] rfl rfl (zy HT_.out HW_.out (by kernel_rfl)) (fun _ _ _ h => h) (Or.inl ⟨by rfl, ?_⟩) hHeld ?_ ?_
               rotate_left
               next =>
                rintro w' ⟨s0, s1, s2, s3, s4, s5⟩
                go_simp
                with_reducible rfl
               rotate_left
               next =>
                simp only [Act.put, yay, yby, ycy, zV, zW]
                rfl
               refine zA2 (i := 11) (N := some 49) #[true, true, true, true, true, true, true, true, true, true, true, true, false, false, false, false, false, false, false, false, false, false, false, false, false] rfl rfl (Zo HT_.out (by kernel_rfl)) (by decide) (fun K hK => ?_)
               refine Qr Try.func166 (by kernel_rfl) rfl #[.agg #[.int .i64 ((zJ (zE l0_0 a1) a2).f0), .int .i64 ((zJ (zE l0_0 a1) a2).f1)], .int .i64 a1] (by rfl) rfl rfl (by (try simp only [yiy, yjy, yky]); first | done | rfl | (simp only [yly, ymy]; rfl)) ?_
               with_reducible refine (qc.calls ((zJ (zE l0_0 a1) a2).f0) ((zJ (zE l0_0 a1) a2).f1) a1 t110 t111 _ A35.out).mono ?_
               rintro e w42 ⟨rfl, hb⟩
               refine ⟨_, rfl, ?_⟩
               have n0_ := zA.mk (zO (g := gb101) (o := .cells #[.slice (some ad102) l0_0.length c0_0] 30 (0, 0)) (by (with_reducible repeat (first | refine zI ?_ _ | refine zL ?_ | refine zH ?_ _)); exact BK101.out) hb)
               have n1_ := zA.mk (zO (g := gb104) (o := .cells #[.int .i64 ((zJ (zE l0_0 a1) a2).f0), .int .i64 ((zJ (zE l0_0 a1) a2).f1)] 115 (0, 0)) (by (with_reducible repeat (first | refine zI ?_ _ | refine zL ?_ | refine zH ?_ _)); exact BK104.out) hb)
               have n2_ := zA.mk (zN (by repeat (first | (with_reducible first | exact HB.out | apply zC | apply zB | apply zD | refine zF ?_ GE101.out | refine zF ?_ GE104.out) | exact HB.out)) hb)
               clear BK101
               clear BK104
               clear HB
               have BK101 := n0_
               have BK104 := n1_
               have HB := n2_
               clear n0_ n1_ n2_
               (try clear hb)
               (try clear hb2)
               (try clear hk)
               (try clear hi)
               refine hK.out _ _ ⟨(zK BK101.out 0).trans rfl, (zK BK104.out 0).trans rfl, (zK BK104.out 1).trans rfl, ((HB.out.cell (yny w _ hw108_0)).trans hw108_0), ((HB.out.cell (yny w _ hw109_0)).trans hw109_0), ((HB.out.cell (yny w _ hw109_1)).trans hw109_1)⟩ (fun hHeld => ?_)
               clear hK K
               refine QH (a' := ?_) ?_ ?_
               rotate_left
               next =>
                show Act.put _ (some 49) _ = _
                simp only [Act.put, yay, yby, ycy, zV, zW]
                rfl
               refine za (i := 12) (N := some 50) (v := ?_) (a' := ?_) #[true, true, true, true, true, true, true, true, true, true, true, true, true, false, false, false, false, false, false, false, false, false, false, false, false] rfl rfl (zY HT_.out (by kernel_rfl)) (fun _ _ _ h => h) (Or.inl ⟨by rfl, ?_⟩) ?_ ?_
               rotate_left
               next =>
                intro w'
                go_simp
                with_reducible rfl
               rotate_left
               next =>
                simp only [Act.put, yay, yby, ycy, zV, zW]
                rfl
               refine za (i := 13) (N := some 51) (v := ?_) (a' := ?_) #[true, true, true, true, true, true, true, true, true, true, true, true, true, true, false, false, false, false, false, false, false, false, false, false, false] rfl rfl (zY HT_.out (by kernel_rfl)) (fun _ _ _ h => h) (Or.inl ⟨by rfl, ?_⟩) ?_ ?_
               rotate_left
               next =>
                intro w'
                go_simp
                with_reducible rfl
               rotate_left
               next =>
                simp only [Act.put, yay, yby, ycy, zV, zW]
                rfl
               refine za (i := 14) (N := some 52) (v := ?_) (a' := ?_) #[true, true, true, true, true, true, true, true, true, true, true, true, true, true, true, false, false, false, false, false, false, false, false, false, false] rfl rfl (zY HT_.out (by kernel_rfl)) (fun _ _ _ h => h) (Or.inl ⟨by rfl, ?_⟩) ?_ ?_
               rotate_left
               next =>
                intro w'
                go_simp
                with_reducible rfl
               rotate_left
               next =>
                simp only [Act.put, yay, yby, ycy, zV, zW]
                rfl
               refine za (i := 16) (N := some 54) (v := ?_) (a' := ?_) #[true, true, true, true, true, true, true, true, true, true, true, true, true, true, true, false, true, false, false, false, false, false, false, false, false] rfl rfl (zY HT_.out (by kernel_rfl)) (fun _ _ _ h => h) (Or.inl ⟨by rfl, ?_⟩) ?_ ?_
               rotate_left
               next =>
                intro w'
                go_simp
                with_reducible rfl
               rotate_left
               next =>
                simp only [Act.put, yay, yby, ycy, zV, zW]
                rfl
               refine qf (i := 15) (N := some 53) (v := ?_) (a' := ?_) #[true, true, true, true, true, true, true, true, true, true, true, true, true, true, true, true, true, false, false, false, false, false, false, false, false] rfl rfl (zy HT_.out HW_.out (by kernel_rfl)) (fun _ _ _ h => h) (Or.inl ⟨by rfl, ?_⟩) hHeld ?_ ?_
               rotate_left
               next =>
                rintro w' ⟨s0, s1, s2, s3, s4, s5⟩
                go_simp
                with_reducible rfl
               rotate_left
               next =>
                simp only [Act.put, yay, yby, ycy, zV, zW]
                rfl
               refine za (i := 17) (N := some 55) (v := ?_) (a' := ?_) #[true, true, true, true, true, true, true, true, true, true, true, true, true, true, true, true, true, true, false, false, false, false, false, false, false] rfl rfl (zY HT_.out (by kernel_rfl)) (fun _ _ _ h => h) (Or.inl ⟨by rfl, ?_⟩) ?_ ?_
               rotate_left
               next =>
                intro w'
                go_simp
                with_reducible rfl
               rotate_left
               next =>
                simp only [Act.put, yay, yby, ycy, zV, zW]
                rfl
               refine za (i := 18) (N := some 56) (v := ?_) (a' := ?_) #[true, true, true, true, true, true, true, true, true, true, true, true, true, true, true, true, true, true, true, false, false, false, false, false, false] rfl rfl (zY HT_.out (by kernel_rfl)) (fun _ _ _ h => h) (Or.inl ⟨by rfl, ?_⟩) ?_ ?_
               rotate_left
               next =>
                intro w'
                go_simp
                with_reducible rfl
               rotate_left
               next =>
                simp only [Act.put, yay, yby, ycy, zV, zW]
                rfl
               refine za (i := 19) (N := some 57) (v := ?_) (a' := ?_) #[true, true, true, true, true, true, true, true, true, true, true, true, true, true, true, true, true, true, true, true, false, false, false, false, false] rfl rfl (zY HT_.out (by kernel_rfl)) (fun _ _ _ h => h) (Or.inl ⟨by rfl, ?_⟩) ?_ ?_
               rotate_left
               next =>
                intro w'
                go_simp
                with_reducible rfl
               rotate_left
               next =>
                simp only [Act.put, yay, yby, ycy, zV, zW]
                rfl
               refine za (i := 20) (N := some 58) (v := ?_) (a' := ?_) #[true, true, true, true, true, true, true, true, true, true, true, true, true, true, true, true, true, true, true, true, true, false, false, false, false] rfl rfl (zY HT_.out (by kernel_rfl)) (fun _ _ _ h => h) (Or.inl ⟨by rfl, ?_⟩) ?_ ?_
               rotate_left
               next =>
                intro w'
                go_simp
                with_reducible rfl
               rotate_left
               next =>
                simp only [Act.put, yay, yby, ycy, zV, zW]
                rfl
               refine za (i := 21) (N := some 59) (v := ?_) (a' := ?_) #[true, true, true, true, true, true, true, true, true, true, true, true, true, true, true, true, true, true, true, true, true, true, false, false, false] rfl rfl (zY HT_.out (by kernel_rfl)) (fun _ _ _ h => h) (Or.inl ⟨by rfl, ?_⟩) ?_ ?_
               rotate_left
               next =>
                intro w'
                go_simp
                with_reducible rfl
               rotate_left
               next =>
                simp only [Act.put, yay, yby, ycy, zV, zW]
                rfl
               refine za (i := 22) (N := some 60) (v := ?_) (a' := ?_) #[true, true, true, true, true, true, true, true, true, true, true, true, true, true, true, true, true, true, true, true, true, true, true, false, false] rfl rfl (zY HT_.out (by kernel_rfl)) (fun _ _ _ h => h) (Or.inl ⟨by rfl, ?_⟩) ?_ ?_
               rotate_left
               next =>
                intro w'
                go_simp
                with_reducible rfl
               rotate_left
               next =>
                simp only [Act.put, yay, yby, ycy, zV, zW]
                rfl
               refine za (i := 23) (N := some 61) (v := ?_) (a' := ?_) #[true, true, true, true, true, true, true, true, true, true, true, true, true, true, true, true, true, true, true, true, true, true, true, true, false] rfl rfl (zY HT_.out (by kernel_rfl)) (fun _ _ _ h => h) (Or.inl ⟨by rfl, ?_⟩) ?_ ?_
               rotate_left
               next =>
                intro w'
                go_simp
                with_reducible rfl
               rotate_left
               next =>
                simp only [Act.put, yay, yby, ycy, zV, zW]
                rfl
               refine za (i := 24) (N := some 6) (v := ?_) (a' := ?_) #[true, true, true, true, true, true, true, true, true, true, true, true, true, true, true, true, true, true, true, true, true, true, true, true, true] rfl rfl (zY HT_.out (by kernel_rfl)) (fun _ _ _ h => h) (Or.inl ⟨by rfl, ?_⟩) ?_ ?_
               rotate_left
               next =>
                intro w'
                go_simp
                with_reducible rfl
               rotate_left
               next =>
                simp only [Act.put, yay, yby, ycy, zV, zW]
                rfl
               refine QQ (Zg HT_.out (by kernel_rfl)) ?_
               try go_wp2
               go_ret
               exact ⟨by first | rfl | (simp [zS, zT] <;> rfl) | (simp [*, zS, zT] <;> rfl), by repeat (first | (with_reducible first | exact HB.out | apply zC | apply zB | apply zD | refine zF ?_ GE101.out | refine zF ?_ GE104.out) | exact HB.out)⟩
              next =>
               rw [if_neg c37] at H
               have c37b0 : (((zJ (zE l0_0 a1) a2).f0) == a1) = false := beq_eq_false_iff_ne.mpr c37
               have c37b1 : (((zJ (zE l0_0 a1) a2).f0) != a1) = true := bne_iff_ne.mpr c37
               obtain rfl := yey H
               have hnb43 := NB104_101.out
               have hnc43 := NB101_104.out
               have hcz44_0 : wc.cell? ⟨gb104, 0, none⟩ = some (.int .i64 ((zJ (zE l0_0 a1) a2).f0)) := (zK BK104.out 0).trans rfl
               have hcz44_1 : wc.cell? ⟨gb104, 1, none⟩ = some (.int .i64 ((zJ (zE l0_0 a1) a2).f1)) := (zK BK104.out 1).trans rfl
               have hfz44_0 := zG BK104.out 0
               have hfz44_1 := zG BK104.out 1
               try go_wp2_with (first | ((with_reducible refine zX (f := 165) rfl ?_); refine qI (some 37) rfl rfl Try.func165 (by kernel_rfl) rfl #[.agg #[.int .i64 ((zJ (zE l0_0 a1) a2).f0), .int .i64 ((zJ (zE l0_0 a1) a2).f1)], .int .i64 a2] rfl (by (try simp only [yiy, yjy, yky]); first | done | rfl | (simp only [yly, ymy]; rfl)) ?_; (with_reducible refine (qm.calls ((zJ (zE l0_0 a1) a2).f0) ((zJ (zE l0_0 a1) a2).f1) a2 t107 _ A30.out).mono ?_); rintro e w45 ⟨rfl, hb⟩; refine ⟨_, rfl, ?_⟩; have n0_ := zA.mk (zO (g := gb101) (o := .cells #[.slice (some ad102) l0_0.length c0_0] 30 (0, 0)) (by (with_reducible repeat (first | refine zI ?_ _ | refine zL ?_ | refine zH ?_ _)); exact BK101.out) hb); have n1_ := zA.mk (zO (g := gb104) (o := .cells #[.int .i64 ((zJ (zE l0_0 a1) a2).f0), .int .i64 ((zJ (zE l0_0 a1) a2).f1)] 115 (0, 0)) (by (with_reducible repeat (first | refine zI ?_ _ | refine zL ?_ | refine zH ?_ _)); exact BK104.out) hb); have n2_ := zA.mk (zN (by repeat (first | (with_reducible first | exact HB.out | apply zC | apply zB | apply zD | refine zF ?_ GE101.out | refine zF ?_ GE104.out) | exact HB.out)) hb); clear BK101; clear BK104; clear HB; have BK101 := n0_; have BK104 := n1_; have HB := n2_; clear n0_ n1_ n2_; (try clear hb); (try clear hb2); (try clear hk); (try clear hi)))
               have n0_ := zA.mk (zL BK101.out)
               have n1_ := zA.mk (zL BK104.out)
               have n2_ := zA.mk (zD HB.out)
               clear BK101
               clear BK104
               clear HB
               have BK101 := n0_
               have BK104 := n1_
               have HB := n2_
               clear n0_ n1_ n2_
               have p108 : 0 ≤ (((zJ (zE l0_0 a1) a2).f0) : Int) := of_decide_eq_true (by first | (with_reducible assumption) | assumption)
               have q108 : ((zJ (zE l0_0 a1) a2).f0) < (l0_0.length : Int) := of_decide_eq_true (by first | (with_reducible assumption) | assumption)
               obtain ⟨ad108, A108_0, c108_0, e108, hx108_0, hl108_0, hi108_0⟩ := qv HR0_0.out ((zJ (zE l0_0 a1) a2).f0) p108 q108
               have hw108_0 := hx108_0
               obtain rfl : ad102 = ad108 := (by injection e108)
               replace hx108_0 := (HB.out.cell (yny w _ hx108_0)).trans hx108_0
               have HR108_0 := zA.mk hi108_0
               have HC108_0 := zA.mk hl108_0
               clear hi108_0 hl108_0
               replace p108 := eq_true p108
               replace q108 := eq_true q108
               have p109 : 0 ≤ (t107 : Int) := of_decide_eq_true (by first | (with_reducible assumption) | assumption)
               have q109 : t107 < ((zE l0_0 ((zJ (zE l0_0 a1) a2).f0)).length : Int) := of_decide_eq_true (by first | (with_reducible assumption) | assumption)
               obtain ⟨ad109, e109, hx109_0, hx109_1⟩ := ZT HR108_0.out t107 p109 q109
               have hw109_1 := hx109_1
               have hw109_0 := hx109_0
               cases e109
               replace hx109_0 := (HB.out.cell (yny w _ hx109_0)).trans hx109_0
               replace hx109_1 := (HB.out.cell (yny w _ hx109_1)).trans hx109_1
               replace p109 := eq_true p109
               replace q109 := eq_true q109
               refine Zf (n := 25) (S := fun w' => w'.cell? ⟨gb101, 0, none⟩ = some (.slice (some ad102) l0_0.length c0_0) ∧ w'.cell? ⟨gb104, 0, none⟩ = some (.int .i64 ((zJ (zE l0_0 a1) a2).f0)) ∧ w'.cell? ⟨gb104, 1, none⟩ = some (.int .i64 ((zJ (zE l0_0 a1) a2).f1)) ∧ w'.cell? (ad102.add (((zJ (zE l0_0 a1) a2).f0)).toNat) = some (.slice (some ad109) (zE l0_0 ((zJ (zE l0_0 a1) a2).f0)).length c108_0) ∧ w'.cell? (ad109.add ((t107).toNat * 2)) = some (.int .i64 ((zJ (zE l0_0 ((zJ (zE l0_0 a1) a2).f0)) t107).f0)) ∧ w'.cell? ⟨(ad109.add ((t107).toNat * 2)).block, (ad109.add ((t107).toNat * 2)).off + 1, none⟩ = some (.int .i64 ((zJ (zE l0_0 ((zJ (zE l0_0 a1) a2).f0)) t107).f1))) (ds := []) #[false, false, false, false, false, false, false, false, false, false, false, false, false, false, false, false, false, false, false, false, false, false, false, false, false] (by kernel_rfl) rfl rfl ⟨(zK BK101.out 0).trans rfl, (zK BK104.out 0).trans rfl, (zK BK104.out 1).trans rfl, ((HB.out.cell (yny w _ hw108_0)).trans hw108_0), ((HB.out.cell (yny w _ hw109_0)).trans hw109_0), ((HB.out.cell (yny w _ hw109_1)).trans hw109_1)⟩ (fun hHeld => ?_); refine ZC zQ.tab7 zQ.zET (fun HT_ HW_ => ?_)
               generalize w45.drew = w46 at BK101 BK104 HB HR108_0 hx108_0 hx109_0 hx109_1 hHeld ⊢
               refine za (i := 0) (N := some 38) (v := ?_) (a' := ?_) #[true, false, false, false, false, false, false, false, false, false, false, false, false, false, false, false, false, false, false, false, false, false, false, false, false] rfl rfl (zY HT_.out (by kernel_rfl)) (fun _ _ _ h => h) (Or.inl ⟨by rfl, ?_⟩) ?_ ?_
               rotate_left
               next =>
                intro w'
                go_simp
                with_reducible rfl
               rotate_left
               next =>
                simp only [Act.put, yay, yby, ycy, zV, zW]
                rfl
               refine za (i := 2) (N := some 40) (v := ?_) (a' := ?_) #[true, false, true, false, false, false, false, false, false, false, false, false, false, false, false, false, false, false, false, false, false, false, false, false, false] rfl rfl (zY HT_.out (by kernel_rfl)) (fun _ _ _ h => h) (Or.inl ⟨by rfl, ?_⟩) ?_ ?_
               rotate_left
               next =>
                intro w'
                go_simp
                with_reducible rfl
               rotate_left
               next =>
                simp only [Act.put, yay, yby, ycy, zV, zW]
                rfl
               refine za (i := 6) (N := some 44) (v := ?_) (a' := ?_) #[true, false, true, false, false, false, true, false, false, false, false, false, false, false, false, false, false, false, false, false, false, false, false, false, false] rfl rfl (zY HT_.out (by kernel_rfl)) (fun _ _ _ h => h) (Or.inl ⟨by rfl, ?_⟩) ?_ ?_
               rotate_left
               next =>
                intro w'
                go_simp
                with_reducible rfl
               rotate_left
               next =>
                simp only [Act.put, yay, yby, ycy, zV, zW]
                rfl
               refine za (i := 10) (N := some 48) (v := ?_) (a' := ?_) #[true, false, true, false, false, false, true, false, false, false, true, false, false, false, false, false, false, false, false, false, false, false, false, false, false] rfl rfl (zY HT_.out (by kernel_rfl)) (fun _ _ _ h => h) (Or.inl ⟨by rfl, ?_⟩) ?_ ?_
               rotate_left
               next =>
                intro w'
                go_simp
                with_reducible rfl
               rotate_left
               next =>
                simp only [Act.put, yay, yby, ycy, zV, zW]
                rfl
               refine qf (i := 1) (N := some 39) (v := ?_) (a' := ?_) #[true, true, true, false, false, false, true, false, false, false, true, false, false, false, false, false, false, false, false, false, false, false, false, false, false] rfl rfl (zy HT_.out HW_.out (by kernel_rfl)) (fun _ _ _ h => h) (Or.inl ⟨by rfl, ?_⟩) hHeld ?_ ?_
               rotate_left
               next =>
                rintro w' ⟨s0, s1, s2, s3, s4, s5⟩
                go_simp
                with_reducible rfl
               rotate_left
               next =>
                simp only [Act.put, yay, yby, ycy, zV, zW]
                rfl
               refine qf (i := 3) (N := some 41) (v := ?_) (a' := ?_) #[true, true, true, true, false, false, true, false, false, false, true, false, false, false, false, false, false, false, false, false, false, false, false, false, false] rfl rfl (zy HT_.out HW_.out (by kernel_rfl)) (fun _ _ _ h => h) (Or.inl ⟨by rfl, ?_⟩) hHeld ?_ ?_
               rotate_left
               next =>
                rintro w' ⟨s0, s1, s2, s3, s4, s5⟩
                go_simp
                with_reducible rfl
               rotate_left
               next =>
                simp only [Act.put, yay, yby, ycy, zV, zW]
                rfl
               refine za (i := 4) (N := some 42) (v := ?_) (a' := ?_) #[true, true, true, true, true, false, true, false, false, false, true, false, false, false, false, false, false, false, false, false, false, false, false, false, false] rfl rfl (zY HT_.out (by kernel_rfl)) (fun _ _ _ h => h) (Or.inl ⟨by rfl, ?_⟩) ?_ ?_
               rotate_left
               next =>
                intro w'
                go_simp
                with_reducible rfl
               rotate_left
               next =>
                simp only [Act.put, yay, yby, ycy, zV, zW]
                rfl
               refine qf (i := 5) (N := some 43) (v := ?_) (a' := ?_) #[true, true, true, true, true, true, true, false, false, false, true, false, false, false, false, false, false, false, false, false, false, false, false, false, false] rfl rfl (zy HT_.out HW_.out (by kernel_rfl)) (fun _ _ _ h => h) (Or.inl ⟨by rfl, ?_⟩) hHeld ?_ ?_
               rotate_left
               next =>
                rintro w' ⟨s0, s1, s2, s3, s4, s5⟩
                go_simp
                with_reducible rfl
               rotate_left
               next =>
                simp only [Act.put, yay, yby, ycy, zV, zW]
                rfl
               refine za (i := 7) (N := some 45) (v := ?_) (a' := ?_) #[true, true, true, true, true, true, true, true, false, false, true, false, false, false, false, false, false, false, false, false, false, false, false, false, false] rfl rfl (zY HT_.out (by kernel_rfl)) (fun _ _ _ h => h) (Or.inl ⟨by rfl, ?_⟩) ?_ ?_
               rotate_left
               next =>
                intro w'
                go_simp
                with_reducible rfl
               rotate_left
               next =>
                simp only [Act.put, yay, yby, ycy, zV, zW]
                rfl
               refine qf (i := 8) (N := some 46) (v := ?_) (a' := ?_) #[true, true, true, true, true, true, true, true, true, false, true, false, false, false, false, false, false, false, false, false, false, false, false, false, false] rfl rfl (zy HT_.out HW_.out (by kernel_rfl)) (fun _ _ _ h => h) (Or.inl ⟨by rfl, ?_⟩) hHeld ?_ ?_
               rotate_left
               next =>
                rintro w' ⟨s0, s1, s2, s3, s4, s5⟩
                go_simp
                with_reducible rfl
               rotate_left
               next =>
                simp only [Act.put, yay, yby, ycy, zV, zW]
                rfl
               refine qf (i := 9) (N := some 47) (v := ?_) (a' := ?_) #[true, true, true, true, true, true, true, true, true, true, true, false, false, false, false, false, false, false, false, false, false, false, false, false, false] rfl rfl (zy HT_.out HW_.out (by kernel_rfl)) (fun _ _ _ h => h) (Or.inl ⟨by rfl, ?_⟩) hHeld ?_ ?_
               rotate_left
               next =>
                rintro w' ⟨s0, s1, s2, s3, s4, s5⟩
                go_simp
                with_reducible rfl
               rotate_left
               next =>
                simp only [Act.put, yay, yby, ycy, zV, zW]
                rfl
               refine zA2 (i := 11) (N := some 49) #[true, true, true, true, true, true, true, true, true, true, true, true, false, false, false, false, false, false, false, false, false, false, false, false, false] rfl rfl (Zo HT_.out (by kernel_rfl)) (by decide) (fun K hK => ?_)
               refine Qr Try.func166 (by kernel_rfl) rfl #[.agg #[.int .i64 ((zJ (zE l0_0 a1) a2).f0), .int .i64 ((zJ (zE l0_0 a1) a2).f1)], .int .i64 a1] (by rfl) rfl rfl (by (try simp only [yiy, yjy, yky]); first | done | rfl | (simp only [yly, ymy]; rfl)) ?_
               with_reducible refine (qc.calls ((zJ (zE l0_0 a1) a2).f0) ((zJ (zE l0_0 a1) a2).f1) a1 t110 t111 _ A35.out).mono ?_
               rintro e w47 ⟨rfl, hb⟩
               refine ⟨_, rfl, ?_⟩
               have n0_ := zA.mk (zO (g := gb101) (o := .cells #[.slice (some ad102) l0_0.length c0_0] 30 (0, 0)) (by (with_reducible repeat (first | refine zI ?_ _ | refine zL ?_ | refine zH ?_ _)); exact BK101.out) hb)
               have n1_ := zA.mk (zO (g := gb104) (o := .cells #[.int .i64 ((zJ (zE l0_0 a1) a2).f0), .int .i64 ((zJ (zE l0_0 a1) a2).f1)] 115 (0, 0)) (by (with_reducible repeat (first | refine zI ?_ _ | refine zL ?_ | refine zH ?_ _)); exact BK104.out) hb)
               have n2_ := zA.mk (zN (by repeat (first | (with_reducible first | exact HB.out | apply zC | apply zB | apply zD | refine zF ?_ GE101.out | refine zF ?_ GE104.out) | exact HB.out)) hb)
               clear BK101
               clear BK104
               clear HB
               have BK101 := n0_
               have BK104 := n1_
               have HB := n2_
               clear n0_ n1_ n2_
               (try clear hb)
               (try clear hb2)
               (try clear hk)
               (try clear hi)
               refine hK.out _ _ ⟨(zK BK101.out 0).trans rfl, (zK BK104.out 0).trans rfl, (zK BK104.out 1).trans rfl, ((HB.out.cell (yny w _ hw108_0)).trans hw108_0), ((HB.out.cell (yny w _ hw109_0)).trans hw109_0), ((HB.out.cell (yny w _ hw109_1)).trans hw109_1)⟩ (fun hHeld => ?_)
               clear hK K
               refine QH (a' := ?_) ?_ ?_
               rotate_left
               next =>
                show Act.put _ (some 49) _ = _
                simp only [Act.put, yay, yby, ycy, zV, zW]
                rfl
               refine za (i := 12) (N := some 50) (v := ?_) (a' := ?_) #[true, true, true, true, true, true, true, true, true, true, true, true, true, false, false, false, false, false, false, false, false, false, false, false, false] rfl rfl (zY HT_.out (by kernel_rfl)) (fun _ _ _ h => h) (Or.inl ⟨by rfl, ?_⟩) ?_ ?_
               rotate_left
               next =>
                intro w'
                go_simp
                with_reducible rfl
               rotate_left
               next =>
                simp only [Act.put, yay, yby, ycy, zV, zW]
                rfl
               refine za (i := 13) (N := some 51) (v := ?_) (a' := ?_) #[true, true, true, true, true, true, true, true, true, true, true, true, true, true, false, false, false, false, false, false, false, false, false, false, false] rfl rfl (zY HT_.out (by kernel_rfl)) (fun _ _ _ h => h) (Or.inl ⟨by rfl, ?_⟩) ?_ ?_
               rotate_left
               next =>
                intro w'
                go_simp
                with_reducible rfl
               rotate_left
               next =>
                simp only [Act.put, yay, yby, ycy, zV, zW]
                rfl
               refine za (i := 14) (N := some 52) (v := ?_) (a' := ?_) #[true, true, true, true, true, true, true, true, true, true, true, true, true, true, true, false, false, false, false, false, false, false, false, false, false] rfl rfl (zY HT_.out (by kernel_rfl)) (fun _ _ _ h => h) (Or.inl ⟨by rfl, ?_⟩) ?_ ?_
               rotate_left
               next =>
                intro w'
                go_simp
                with_reducible rfl
               rotate_left
               next =>
                simp only [Act.put, yay, yby, ycy, zV, zW]
                rfl
               refine za (i := 16) (N := some 54) (v := ?_) (a' := ?_) #[true, true, true, true, true, true, true, true, true, true, true, true, true, true, true, false, true, false, false, false, false, false, false, false, false] rfl rfl (zY HT_.out (by kernel_rfl)) (fun _ _ _ h => h) (Or.inl ⟨by rfl, ?_⟩) ?_ ?_
               rotate_left
               next =>
                intro w'
                go_simp
                with_reducible rfl
               rotate_left
               next =>
                simp only [Act.put, yay, yby, ycy, zV, zW]
                rfl
               refine qf (i := 15) (N := some 53) (v := ?_) (a' := ?_) #[true, true, true, true, true, true, true, true, true, true, true, true, true, true, true, true, true, false, false, false, false, false, false, false, false] rfl rfl (zy HT_.out HW_.out (by kernel_rfl)) (fun _ _ _ h => h) (Or.inl ⟨by rfl, ?_⟩) hHeld ?_ ?_
               rotate_left
               next =>
                rintro w' ⟨s0, s1, s2, s3, s4, s5⟩
                go_simp
                with_reducible rfl
               rotate_left
               next =>
                simp only [Act.put, yay, yby, ycy, zV, zW]
                rfl
               refine za (i := 17) (N := some 55) (v := ?_) (a' := ?_) #[true, true, true, true, true, true, true, true, true, true, true, true, true, true, true, true, true, true, false, false, false, false, false, false, false] rfl rfl (zY HT_.out (by kernel_rfl)) (fun _ _ _ h => h) (Or.inl ⟨by rfl, ?_⟩) ?_ ?_
               rotate_left
               next =>
                intro w'
                go_simp
                with_reducible rfl
               rotate_left
               next =>
                simp only [Act.put, yay, yby, ycy, zV, zW]
                rfl
               refine za (i := 18) (N := some 56) (v := ?_) (a' := ?_) #[true, true, true, true, true, true, true, true, true, true, true, true, true, true, true, true, true, true, true, false, false, false, false, false, false] rfl rfl (zY HT_.out (by kernel_rfl)) (fun _ _ _ h => h) (Or.inl ⟨by rfl, ?_⟩) ?_ ?_
               rotate_left
               next =>
                intro w'
                go_simp
                with_reducible rfl
               rotate_left
               next =>
                simp only [Act.put, yay, yby, ycy, zV, zW]
                rfl
               refine za (i := 19) (N := some 57) (v := undef) (a' := ?_) #[true, true, true, true, true, true, true, true, true, true, true, true, true, true, true, true, true, true, true, true, false, false, false, false, false] rfl rfl (zY HT_.out (by kernel_rfl)) (fun _ _ _ h => h) (Or.inr ⟨by rfl, rfl⟩) ?_ ?_
               rotate_left
               next =>
                simp only [Act.put, yay, yby, ycy, zV, zW]
                rfl
               refine za (i := 20) (N := some 58) (v := undef) (a' := ?_) #[true, true, true, true, true, true, true, true, true, true, true, true, true, true, true, true, true, true, true, true, true, false, false, false, false] rfl rfl (zY HT_.out (by kernel_rfl)) (fun _ _ _ h => h) (Or.inr ⟨by rfl, rfl⟩) ?_ ?_
               rotate_left
               next =>
                simp only [Act.put, yay, yby, ycy, zV, zW]
                rfl
               refine za (i := 21) (N := some 59) (v := undef) (a' := ?_) #[true, true, true, true, true, true, true, true, true, true, true, true, true, true, true, true, true, true, true, true, true, true, false, false, false] rfl rfl (zY HT_.out (by kernel_rfl)) (fun _ _ _ h => h) (Or.inr ⟨by rfl, rfl⟩) ?_ ?_
               rotate_left
               next =>
                simp only [Act.put, yay, yby, ycy, zV, zW]
                rfl
               refine za (i := 22) (N := some 60) (v := ?_) (a' := ?_) #[true, true, true, true, true, true, true, true, true, true, true, true, true, true, true, true, true, true, true, true, true, true, true, false, false] rfl rfl (zY HT_.out (by kernel_rfl)) (fun _ _ _ h => h) (Or.inl ⟨by rfl, ?_⟩) ?_ ?_
               rotate_left
               next =>
                intro w'
                go_simp
                with_reducible rfl
               rotate_left
               next =>
                simp only [Act.put, yay, yby, ycy, zV, zW]
                rfl
               refine za (i := 23) (N := some 61) (v := ?_) (a' := ?_) #[true, true, true, true, true, true, true, true, true, true, true, true, true, true, true, true, true, true, true, true, true, true, true, true, false] rfl rfl (zY HT_.out (by kernel_rfl)) (fun _ _ _ h => h) (Or.inl ⟨by rfl, ?_⟩) ?_ ?_
               rotate_left
               next =>
                intro w'
                go_simp
                with_reducible rfl
               rotate_left
               next =>
                simp only [Act.put, yay, yby, ycy, zV, zW]
                rfl
               refine za (i := 24) (N := some 6) (v := ?_) (a' := ?_) #[true, true, true, true, true, true, true, true, true, true, true, true, true, true, true, true, true, true, true, true, true, true, true, true, true] rfl rfl (zY HT_.out (by kernel_rfl)) (fun _ _ _ h => h) (Or.inl ⟨by rfl, ?_⟩) ?_ ?_
               rotate_left
               next =>
                intro w'
                go_simp
                with_reducible rfl
               rotate_left
               next =>
                simp only [Act.put, yay, yby, ycy, zV, zW]
                rfl
               refine QQ (Zg HT_.out (by kernel_rfl)) ?_
               try go_wp2
               go_ret
               exact ⟨by first | rfl | (simp [zS, zT] <;> rfl) | (simp [*, zS, zT] <;> rfl), by repeat (first | (with_reducible first | exact HB.out | apply zC | apply zB | apply zD | refine zF ?_ GE101.out | refine zF ?_ GE104.out) | exact HB.out)⟩
             next =>
              rw [if_neg c36] at H
              have c36b0 : (((zJ (zE l0_0 ((zJ (zE l0_0 a1) a2).f0)) t107).f0) == t110 && (((zJ (zE l0_0 ((zJ (zE l0_0 a1) a2).f0)) t107).f1) == t111)) = false := by simpa using c36
              (try (have c36b1 : decide (((zJ (zE l0_0 ((zJ (zE l0_0 a1) a2).f0)) t107).f0) = t110 && (((zJ (zE l0_0 ((zJ (zE l0_0 a1) a2).f0)) t107).f1) == t111)) = false := by simpa using c36))
              (try (have c36b2 : (((zJ (zE l0_0 ((zJ (zE l0_0 a1) a2).f0)) t107).f0) == t110 && (((zJ (zE l0_0 ((zJ (zE l0_0 a1) a2).f0)) t107).f1) == t111)) = false := by simpa using c36))
              (try (have c36b3 : ¬ (((zJ (zE l0_0 ((zJ (zE l0_0 a1) a2).f0)) t107).f0) = t110 && (((zJ (zE l0_0 ((zJ (zE l0_0 a1) a2).f0)) t107).f1) == t111)) := by simpa using c36))
              clear c36
              obtain rfl := yey H
              have hnb48 := NB104_101.out
              have hnc48 := NB101_104.out
              have hcz49_0 : wc.cell? ⟨gb104, 0, none⟩ = some (.int .i64 ((zJ (zE l0_0 a1) a2).f0)) := (zK BK104.out 0).trans rfl
              have hcz49_1 : wc.cell? ⟨gb104, 1, none⟩ = some (.int .i64 ((zJ (zE l0_0 a1) a2).f1)) := (zK BK104.out 1).trans rfl
              have hfz49_0 := zG BK104.out 0
              have hfz49_1 := zG BK104.out 1
              try go_wp2_with (first | ((with_reducible refine zX (f := 165) rfl ?_); refine qI (some 37) rfl rfl Try.func165 (by kernel_rfl) rfl #[.agg #[.int .i64 ((zJ (zE l0_0 a1) a2).f0), .int .i64 ((zJ (zE l0_0 a1) a2).f1)], .int .i64 a2] rfl (by (try simp only [yiy, yjy, yky]); first | done | rfl | (simp only [yly, ymy]; rfl)) ?_; (with_reducible refine (qm.calls ((zJ (zE l0_0 a1) a2).f0) ((zJ (zE l0_0 a1) a2).f1) a2 t107 _ A30.out).mono ?_); rintro e w50 ⟨rfl, hb⟩; refine ⟨_, rfl, ?_⟩; have n0_ := zA.mk (zO (g := gb101) (o := .cells #[.slice (some ad102) l0_0.length c0_0] 30 (0, 0)) (by (with_reducible repeat (first | refine zI ?_ _ | refine zL ?_ | refine zH ?_ _)); exact BK101.out) hb); have n1_ := zA.mk (zO (g := gb104) (o := .cells #[.int .i64 ((zJ (zE l0_0 a1) a2).f0), .int .i64 ((zJ (zE l0_0 a1) a2).f1)] 115 (0, 0)) (by (with_reducible repeat (first | refine zI ?_ _ | refine zL ?_ | refine zH ?_ _)); exact BK104.out) hb); have n2_ := zA.mk (zN (by repeat (first | (with_reducible first | exact HB.out | apply zC | apply zB | apply zD | refine zF ?_ GE101.out | refine zF ?_ GE104.out) | exact HB.out)) hb); clear BK101; clear BK104; clear HB; have BK101 := n0_; have BK104 := n1_; have HB := n2_; clear n0_ n1_ n2_; (try clear hb); (try clear hb2); (try clear hk); (try clear hi)))
              have n0_ := zA.mk (zL BK101.out)
              have n1_ := zA.mk (zL BK104.out)
              have n2_ := zA.mk (zD HB.out)
              clear BK101
              clear BK104
              clear HB
              have BK101 := n0_
              have BK104 := n1_
              have HB := n2_
              clear n0_ n1_ n2_
              have p108 : 0 ≤ (((zJ (zE l0_0 a1) a2).f0) : Int) := of_decide_eq_true (by first | (with_reducible assumption) | assumption)
              have q108 : ((zJ (zE l0_0 a1) a2).f0) < (l0_0.length : Int) := of_decide_eq_true (by first | (with_reducible assumption) | assumption)
              obtain ⟨ad108, A108_0, c108_0, e108, hx108_0, hl108_0, hi108_0⟩ := qv HR0_0.out ((zJ (zE l0_0 a1) a2).f0) p108 q108
              have hw108_0 := hx108_0
              obtain rfl : ad102 = ad108 := (by injection e108)
              replace hx108_0 := (HB.out.cell (yny w _ hx108_0)).trans hx108_0
              have HR108_0 := zA.mk hi108_0
              have HC108_0 := zA.mk hl108_0
              clear hi108_0 hl108_0
              replace p108 := eq_true p108
              replace q108 := eq_true q108
              have p109 : 0 ≤ (t107 : Int) := of_decide_eq_true (by first | (with_reducible assumption) | assumption)
              have q109 : t107 < ((zE l0_0 ((zJ (zE l0_0 a1) a2).f0)).length : Int) := of_decide_eq_true (by first | (with_reducible assumption) | assumption)
              obtain ⟨ad109, e109, hx109_0, hx109_1⟩ := ZT HR108_0.out t107 p109 q109
              have hw109_1 := hx109_1
              have hw109_0 := hx109_0
              cases e109
              replace hx109_0 := (HB.out.cell (yny w _ hx109_0)).trans hx109_0
              replace hx109_1 := (HB.out.cell (yny w _ hx109_1)).trans hx109_1
              replace p109 := eq_true p109
              replace q109 := eq_true q109
              refine Zf (n := 25) (S := fun w' => w'.cell? ⟨gb101, 0, none⟩ = some (.slice (some ad102) l0_0.length c0_0) ∧ w'.cell? ⟨gb104, 0, none⟩ = some (.int .i64 ((zJ (zE l0_0 a1) a2).f0)) ∧ w'.cell? ⟨gb104, 1, none⟩ = some (.int .i64 ((zJ (zE l0_0 a1) a2).f1)) ∧ w'.cell? (ad102.add (((zJ (zE l0_0 a1) a2).f0)).toNat) = some (.slice (some ad109) (zE l0_0 ((zJ (zE l0_0 a1) a2).f0)).length c108_0) ∧ w'.cell? (ad109.add ((t107).toNat * 2)) = some (.int .i64 ((zJ (zE l0_0 ((zJ (zE l0_0 a1) a2).f0)) t107).f0)) ∧ w'.cell? ⟨(ad109.add ((t107).toNat * 2)).block, (ad109.add ((t107).toNat * 2)).off + 1, none⟩ = some (.int .i64 ((zJ (zE l0_0 ((zJ (zE l0_0 a1) a2).f0)) t107).f1))) (ds := []) #[false, false, false, false, false, false, false, false, false, false, false, false, false, false, false, false, false, false, false, false, false, false, false, false, false] (by kernel_rfl) rfl rfl ⟨(zK BK101.out 0).trans rfl, (zK BK104.out 0).trans rfl, (zK BK104.out 1).trans rfl, ((HB.out.cell (yny w _ hw108_0)).trans hw108_0), ((HB.out.cell (yny w _ hw109_0)).trans hw109_0), ((HB.out.cell (yny w _ hw109_1)).trans hw109_1)⟩ (fun hHeld => ?_); refine ZC zQ.tab7 zQ.zET (fun HT_ HW_ => ?_)
              generalize w50.drew = w51 at BK101 BK104 HB HR108_0 hx108_0 hx109_0 hx109_1 hHeld ⊢
              refine za (i := 0) (N := some 38) (v := ?_) (a' := ?_) #[true, false, false, false, false, false, false, false, false, false, false, false, false, false, false, false, false, false, false, false, false, false, false, false, false] rfl rfl (zY HT_.out (by kernel_rfl)) (fun _ _ _ h => h) (Or.inl ⟨by rfl, ?_⟩) ?_ ?_
              rotate_left
              next =>
               intro w'
               go_simp
               with_reducible rfl
              rotate_left
              next =>
               simp only [Act.put, yay, yby, ycy, zV, zW]
               rfl
              refine za (i := 2) (N := some 40) (v := ?_) (a' := ?_) #[true, false, true, false, false, false, false, false, false, false, false, false, false, false, false, false, false, false, false, false, false, false, false, false, false] rfl rfl (zY HT_.out (by kernel_rfl)) (fun _ _ _ h => h) (Or.inl ⟨by rfl, ?_⟩) ?_ ?_
              rotate_left
              next =>
               intro w'
               go_simp
               with_reducible rfl
              rotate_left
              next =>
               simp only [Act.put, yay, yby, ycy, zV, zW]
               rfl
              refine za (i := 6) (N := some 44) (v := ?_) (a' := ?_) #[true, false, true, false, false, false, true, false, false, false, false, false, false, false, false, false, false, false, false, false, false, false, false, false, false] rfl rfl (zY HT_.out (by kernel_rfl)) (fun _ _ _ h => h) (Or.inl ⟨by rfl, ?_⟩) ?_ ?_
              rotate_left
              next =>
               intro w'
               go_simp
               with_reducible rfl
              rotate_left
              next =>
               simp only [Act.put, yay, yby, ycy, zV, zW]
               rfl
              refine za (i := 10) (N := some 48) (v := ?_) (a' := ?_) #[true, false, true, false, false, false, true, false, false, false, true, false, false, false, false, false, false, false, false, false, false, false, false, false, false] rfl rfl (zY HT_.out (by kernel_rfl)) (fun _ _ _ h => h) (Or.inl ⟨by rfl, ?_⟩) ?_ ?_
              rotate_left
              next =>
               intro w'
               go_simp
               with_reducible rfl
              rotate_left
              next =>
               simp only [Act.put, yay, yby, ycy, zV, zW]
               rfl
              refine qf (i := 1) (N := some 39) (v := ?_) (a' := ?_) #[true, true, true, false, false, false, true, false, false, false, true, false, false, false, false, false, false, false, false, false, false, false, false, false, false] rfl rfl (zy HT_.out HW_.out (by kernel_rfl)) (fun _ _ _ h => h) (Or.inl ⟨by rfl, ?_⟩) hHeld ?_ ?_
              rotate_left
              next =>
               rintro w' ⟨s0, s1, s2, s3, s4, s5⟩
               go_simp
               with_reducible rfl
              rotate_left
              next =>
               simp only [Act.put, yay, yby, ycy, zV, zW]
               rfl
              refine qf (i := 3) (N := some 41) (v := ?_) (a' := ?_) #[true, true, true, true, false, false, true, false, false, false, true, false, false, false, false, false, false, false, false, false, false, false, false, false, false] rfl rfl (zy HT_.out HW_.out (by kernel_rfl)) (fun _ _ _ h => h) (Or.inl ⟨by rfl, ?_⟩) hHeld ?_ ?_
              rotate_left
              next =>
               rintro w' ⟨s0, s1, s2, s3, s4, s5⟩
               go_simp
               with_reducible rfl
              rotate_left
              next =>
               simp only [Act.put, yay, yby, ycy, zV, zW]
               rfl
              refine za (i := 4) (N := some 42) (v := ?_) (a' := ?_) #[true, true, true, true, true, false, true, false, false, false, true, false, false, false, false, false, false, false, false, false, false, false, false, false, false] rfl rfl (zY HT_.out (by kernel_rfl)) (fun _ _ _ h => h) (Or.inl ⟨by rfl, ?_⟩) ?_ ?_
              rotate_left
              next =>
               intro w'
               go_simp
               with_reducible rfl
              rotate_left
              next =>
               simp only [Act.put, yay, yby, ycy, zV, zW]
               rfl
              refine qf (i := 5) (N := some 43) (v := ?_) (a' := ?_) #[true, true, true, true, true, true, true, false, false, false, true, false, false, false, false, false, false, false, false, false, false, false, false, false, false] rfl rfl (zy HT_.out HW_.out (by kernel_rfl)) (fun _ _ _ h => h) (Or.inl ⟨by rfl, ?_⟩) hHeld ?_ ?_
              rotate_left
              next =>
               rintro w' ⟨s0, s1, s2, s3, s4, s5⟩
               go_simp
               with_reducible rfl
              rotate_left
              next =>
               simp only [Act.put, yay, yby, ycy, zV, zW]
               rfl
              refine za (i := 7) (N := some 45) (v := ?_) (a' := ?_) #[true, true, true, true, true, true, true, true, false, false, true, false, false, false, false, false, false, false, false, false, false, false, false, false, false] rfl rfl (zY HT_.out (by kernel_rfl)) (fun _ _ _ h => h) (Or.inl ⟨by rfl, ?_⟩) ?_ ?_
              rotate_left
              next =>
               intro w'
               go_simp
               with_reducible rfl
              rotate_left
              next =>
               simp only [Act.put, yay, yby, ycy, zV, zW]
               rfl
              refine qf (i := 8) (N := some 46) (v := ?_) (a' := ?_) #[true, true, true, true, true, true, true, true, true, false, true, false, false, false, false, false, false, false, false, false, false, false, false, false, false] rfl rfl (zy HT_.out HW_.out (by kernel_rfl)) (fun _ _ _ h => h) (Or.inl ⟨by rfl, ?_⟩) hHeld ?_ ?_
              rotate_left
              next =>
               rintro w' ⟨s0, s1, s2, s3, s4, s5⟩
               go_simp
               with_reducible rfl
              rotate_left
              next =>
               simp only [Act.put, yay, yby, ycy, zV, zW]
               rfl
              refine qf (i := 9) (N := some 47) (v := ?_) (a' := ?_) #[true, true, true, true, true, true, true, true, true, true, true, false, false, false, false, false, false, false, false, false, false, false, false, false, false] rfl rfl (zy HT_.out HW_.out (by kernel_rfl)) (fun _ _ _ h => h) (Or.inl ⟨by rfl, ?_⟩) hHeld ?_ ?_
              rotate_left
              next =>
               rintro w' ⟨s0, s1, s2, s3, s4, s5⟩
               go_simp
               with_reducible rfl
              rotate_left
              next =>
               simp only [Act.put, yay, yby, ycy, zV, zW]
               rfl
              refine zA2 (i := 11) (N := some 49) #[true, true, true, true, true, true, true, true, true, true, true, true, false, false, false, false, false, false, false, false, false, false, false, false, false] rfl rfl (Zo HT_.out (by kernel_rfl)) (by decide) (fun K hK => ?_)
              refine Qr Try.func166 (by kernel_rfl) rfl #[.agg #[.int .i64 ((zJ (zE l0_0 a1) a2).f0), .int .i64 ((zJ (zE l0_0 a1) a2).f1)], .int .i64 a1] (by rfl) rfl rfl (by (try simp only [yiy, yjy, yky]); first | done | rfl | (simp only [yly, ymy]; rfl)) ?_
              with_reducible refine (qc.calls ((zJ (zE l0_0 a1) a2).f0) ((zJ (zE l0_0 a1) a2).f1) a1 t110 t111 _ A35.out).mono ?_
              rintro e w52 ⟨rfl, hb⟩
              refine ⟨_, rfl, ?_⟩
              have n0_ := zA.mk (zO (g := gb101) (o := .cells #[.slice (some ad102) l0_0.length c0_0] 30 (0, 0)) (by (with_reducible repeat (first | refine zI ?_ _ | refine zL ?_ | refine zH ?_ _)); exact BK101.out) hb)
              have n1_ := zA.mk (zO (g := gb104) (o := .cells #[.int .i64 ((zJ (zE l0_0 a1) a2).f0), .int .i64 ((zJ (zE l0_0 a1) a2).f1)] 115 (0, 0)) (by (with_reducible repeat (first | refine zI ?_ _ | refine zL ?_ | refine zH ?_ _)); exact BK104.out) hb)
              have n2_ := zA.mk (zN (by repeat (first | (with_reducible first | exact HB.out | apply zC | apply zB | apply zD | refine zF ?_ GE101.out | refine zF ?_ GE104.out) | exact HB.out)) hb)
              clear BK101
              clear BK104
              clear HB
              have BK101 := n0_
              have BK104 := n1_
              have HB := n2_
              clear n0_ n1_ n2_
              (try clear hb)
              (try clear hb2)
              (try clear hk)
              (try clear hi)
              refine hK.out _ _ ⟨(zK BK101.out 0).trans rfl, (zK BK104.out 0).trans rfl, (zK BK104.out 1).trans rfl, ((HB.out.cell (yny w _ hw108_0)).trans hw108_0), ((HB.out.cell (yny w _ hw109_0)).trans hw109_0), ((HB.out.cell (yny w _ hw109_1)).trans hw109_1)⟩ (fun hHeld => ?_)
              clear hK K
              refine QH (a' := ?_) ?_ ?_
              rotate_left
              next =>
               show Act.put _ (some 49) _ = _
               simp only [Act.put, yay, yby, ycy, zV, zW]
               rfl
              refine za (i := 12) (N := some 50) (v := ?_) (a' := ?_) #[true, true, true, true, true, true, true, true, true, true, true, true, true, false, false, false, false, false, false, false, false, false, false, false, false] rfl rfl (zY HT_.out (by kernel_rfl)) (fun _ _ _ h => h) (Or.inl ⟨by rfl, ?_⟩) ?_ ?_
              rotate_left
              next =>
               intro w'
               go_simp
               with_reducible rfl
              rotate_left
              next =>
               simp only [Act.put, yay, yby, ycy, zV, zW]
               rfl
              refine za (i := 13) (N := some 51) (v := ?_) (a' := ?_) #[true, true, true, true, true, true, true, true, true, true, true, true, true, true, false, false, false, false, false, false, false, false, false, false, false] rfl rfl (zY HT_.out (by kernel_rfl)) (fun _ _ _ h => h) (Or.inl ⟨by rfl, ?_⟩) ?_ ?_
              rotate_left
              next =>
               intro w'
               go_simp
               with_reducible rfl
              rotate_left
              next =>
               simp only [Act.put, yay, yby, ycy, zV, zW]
               rfl
              refine za (i := 14) (N := some 52) (v := undef) (a' := ?_) #[true, true, true, true, true, true, true, true, true, true, true, true, true, true, true, false, false, false, false, false, false, false, false, false, false] rfl rfl (zY HT_.out (by kernel_rfl)) (fun _ _ _ h => h) (Or.inr ⟨by rfl, rfl⟩) ?_ ?_
              rotate_left
              next =>
               simp only [Act.put, yay, yby, ycy, zV, zW]
               rfl
              refine za (i := 15) (N := some 53) (v := undef) (a' := ?_) #[true, true, true, true, true, true, true, true, true, true, true, true, true, true, true, true, false, false, false, false, false, false, false, false, false] rfl rfl (zY HT_.out (by kernel_rfl)) (fun _ _ _ h => h) (Or.inr ⟨by rfl, rfl⟩) ?_ ?_
              rotate_left
              next =>
               simp only [Act.put, yay, yby, ycy, zV, zW]
               rfl
              refine za (i := 16) (N := some 54) (v := undef) (a' := ?_) #[true, true, true, true, true, true, true, true, true, true, true, true, true, true, true, true, true, false, false, false, false, false, false, false, false] rfl rfl (zY HT_.out (by kernel_rfl)) (fun _ _ _ h => h) (Or.inr ⟨by rfl, rfl⟩) ?_ ?_
              rotate_left
              next =>
               simp only [Act.put, yay, yby, ycy, zV, zW]
               rfl
              refine za (i := 17) (N := some 55) (v := undef) (a' := ?_) #[true, true, true, true, true, true, true, true, true, true, true, true, true, true, true, true, true, true, false, false, false, false, false, false, false] rfl rfl (zY HT_.out (by kernel_rfl)) (fun _ _ _ h => h) (Or.inr ⟨by rfl, rfl⟩) ?_ ?_
              rotate_left
              next =>
               simp only [Act.put, yay, yby, ycy, zV, zW]
               rfl
              refine za (i := 18) (N := some 56) (v := undef) (a' := ?_) #[true, true, true, true, true, true, true, true, true, true, true, true, true, true, true, true, true, true, true, false, false, false, false, false, false] rfl rfl (zY HT_.out (by kernel_rfl)) (fun _ _ _ h => h) (Or.inr ⟨by rfl, rfl⟩) ?_ ?_
              rotate_left
              next =>
               simp only [Act.put, yay, yby, ycy, zV, zW]
               rfl
              refine za (i := 19) (N := some 57) (v := undef) (a' := ?_) #[true, true, true, true, true, true, true, true, true, true, true, true, true, true, true, true, true, true, true, true, false, false, false, false, false] rfl rfl (zY HT_.out (by kernel_rfl)) (fun _ _ _ h => h) (Or.inr ⟨by rfl, rfl⟩) ?_ ?_
              rotate_left
              next =>
               simp only [Act.put, yay, yby, ycy, zV, zW]
               rfl
              refine za (i := 20) (N := some 58) (v := undef) (a' := ?_) #[true, true, true, true, true, true, true, true, true, true, true, true, true, true, true, true, true, true, true, true, true, false, false, false, false] rfl rfl (zY HT_.out (by kernel_rfl)) (fun _ _ _ h => h) (Or.inr ⟨by rfl, rfl⟩) ?_ ?_
              rotate_left
              next =>
               simp only [Act.put, yay, yby, ycy, zV, zW]
               rfl
              refine za (i := 21) (N := some 59) (v := undef) (a' := ?_) #[true, true, true, true, true, true, true, true, true, true, true, true, true, true, true, true, true, true, true, true, true, true, false, false, false] rfl rfl (zY HT_.out (by kernel_rfl)) (fun _ _ _ h => h) (Or.inr ⟨by rfl, rfl⟩) ?_ ?_
              rotate_left
              next =>
               simp only [Act.put, yay, yby, ycy, zV, zW]
               rfl
              refine za (i := 22) (N := some 60) (v := undef) (a' := ?_) #[true, true, true, true, true, true, true, true, true, true, true, true, true, true, true, true, true, true, true, true, true, true, true, false, false] rfl rfl (zY HT_.out (by kernel_rfl)) (fun _ _ _ h => h) (Or.inr ⟨by rfl, rfl⟩) ?_ ?_
              rotate_left
              next =>
               simp only [Act.put, yay, yby, ycy, zV, zW]
               rfl
              refine za (i := 23) (N := some 61) (v := ?_) (a' := ?_) #[true, true, true, true, true, true, true, true, true, true, true, true, true, true, true, true, true, true, true, true, true, true, true, true, false] rfl rfl (zY HT_.out (by kernel_rfl)) (fun _ _ _ h => h) (Or.inl ⟨by rfl, ?_⟩) ?_ ?_
              rotate_left
              next =>
               intro w'
               go_simp
               with_reducible rfl
              rotate_left
              next =>
               simp only [Act.put, yay, yby, ycy, zV, zW]
               rfl
              refine za (i := 24) (N := some 6) (v := ?_) (a' := ?_) #[true, true, true, true, true, true, true, true, true, true, true, true, true, true, true, true, true, true, true, true, true, true, true, true, true] rfl rfl (zY HT_.out (by kernel_rfl)) (fun _ _ _ h => h) (Or.inl ⟨by rfl, ?_⟩) ?_ ?_
              rotate_left
              next =>
               intro w'
               go_simp
               with_reducible rfl
              rotate_left
              next =>
               simp only [Act.put, yay, yby, ycy, zV, zW]
               rfl
              refine QQ (Zg HT_.out (by kernel_rfl)) ?_
              try go_wp2
              go_ret
              exact ⟨by first | rfl | (simp [zS, zT] <;> rfl) | (simp [*, zS, zT] <;> rfl), by repeat (first | (with_reducible first | exact HB.out | apply zC | apply zB | apply zD | refine zF ?_ GE101.out | refine zF ?_ GE104.out) | exact HB.out)⟩
            next =>
             rw [if_neg c34] at H
             exact absurd H (by simp)
           next =>
            rw [if_neg c33] at H
            exact absurd H (by simp)
          next =>
           rw [if_neg c32] at H
           exact absurd H (by simp)
         next =>
          rw [if_neg c31] at H
          exact absurd H (by simp)
    next =>
     rw [if_neg c7] at H
     exact absurd H (by simp)
   next =>
    rw [if_neg c6] at H
    exact absurd H (by simp)
  next =>
   rw [if_neg c5] at H
   exact absurd H (by simp)
 next =>
  rw [if_neg c4] at H
  exact absurd H (by simp)
end
def qW.f (l0 : List (zo)) : Option (Bool) := some ((l0.length : Int) != 4)
set_option maxHeartbeats 8000000 in
set_option maxRecDepth 100000 in
theorem qW.calls (A0 : Option Addr) (c0 : Nat) (l0 : List (zo)) (r : Bool) (w : World) (hr0 : Kd.C qh w A0 l0.length l0) (hc0 : l0.length ≤ c0) (h : qW.f l0 = some r) :
    Calls Try.prog 144 #[.slice A0 l0.length c0] w fun e w' => e = .returned (.bool r) ∧ zi w w' := by
  have HR0 := zA.mk hr0
  have HC0 := zA.mk hc0
  clear hr0 hc0
  have H : (some ((l0.length : Int) != 4)) = some r := h
  clear h
  obtain rfl := yey H
  go_enter Try.func144, Try.ntmps144
  go_wp2
  go_ret
  exact ⟨by first | rfl | (simp; done) | (simp [*]; done), by repeat (first | exact zi.refl _ | apply zi.step)⟩
end Go.Proofs.Ythjpdljdodalaaa.P
namespace Go.Proofs.Ythjpdljdodalaaa.Lib
open Go.RowKit Go.Proofs.YthjpdljdodalaaaW.PrintWords
def zDu {α : Type} (f : α → Option Bool) : Nat → List α → Option Int
  | _, [] => some (-1)
  | i, x :: xs => (f x).bind fun b => if b = true then some (i : Int) else zDu f (i + 1) xs
theorem zBe {α : Type} (f : α → Option Bool) (i : Nat) (x : α) (xs : List α) : zDu f i (x :: xs) = (f x).bind fun b => if b = true then some (i : Int) else zDu f (i + 1) xs := rfl
end Go.Proofs.Ythjpdljdodalaaa.Lib
namespace Go.Proofs.Ythjpdljdodalaaa.P
open Go.RowKit Go.Proofs.YthjpdljdodalaaaW.PrintWords Go.Proofs.YthjpdljdodalaaaW.PrintLast Go.Proofs.YthjpdljdodalaaaW.PrintMore
attribute [local go_sem] QD QE QY QZ Zq Zr QF QG
set_option linter.unusedVariables false
set_option linter.unusedSimpArgs false
open Go.Proofs.Ythjpdljdodalaaa.Lib
def zr.f (l0 : List (List (zo))) : Option Int := zDu (fun x => qW.f x) 0 l0
set_option maxHeartbeats 8000000 in
set_option maxRecDepth 100000 in
theorem zr.calls (A0 : Option Addr) (c0 : Nat) (l0 : List (List (zo))) (r : Int) (w : World) (hr0 : Kd.C (Kd.slice 115 qh) w A0 l0.length l0) (hc0 : l0.length ≤ c0) (h : zr.f l0 = some r) :
    Calls Try.prog 162 #[.slice A0 l0.length c0, .func (.func 144) #[] #[]] w fun e w' => e = .returned (.int .i64 r) ∧ Below w.heap.size w w' := by
  have HR0 := zA.mk hr0
  clear hr0 hc0
  have hbig : l0.length ≤ 9223372036854775807 := HR0.out.2.1
  have HB := zA.mk (ypy w.heap.size w)
  have H' := zA.mk (show zDu (fun x => qW.f x) 0 l0 = some r from h)
  clear h
  go_enter Try.func162, Try.ntmps162
  go_wp2
  go_loopg [5, 8] l0.length (fun gg v5 v8 w' => ∃ kk : Nat, kk ≤ l0.length ∧ l0.length - kk ≤ gg ∧ v8 = .int .i64 kk ∧ zA (zDu (fun x => qW.f x) kk (l0.drop kk) = some r) ∧ zA (Below w.heap.size w w'))
  case atStart => exact ⟨0, Nat.zero_le _, by omega, rfl, H', HB⟩
  case round =>
    clear H' HB
    obtain ⟨kk, hkk, hg, rfl, HA, HB⟩ := hrel
    by_cases hlt : kk < l0.length
    · have hltz : (kk : Int) < (l0.length : Int) := by omega
      have H := HA.out
      clear HA
      rw [List.drop_eq_getElem_cons hlt, zBe] at H
      replace H := ydy.mp H
      obtain ⟨b, hb, H⟩ := H
      obtain ⟨ad, A1, c1, e104, hx, hl1, hi1⟩ := qv HR0.out (kk : Int) (by omega) (by omega)
      have ex : zE l0 (kk : Int) = l0[kk] := by simp [zE, hlt]
      rw [ex] at hx hl1 hi1
      rw [Int.toNat_natCast] at hx
      replace hx := (HB.out.cell (yny w _ hx)).trans hx
      replace hi1 := Kd.qD hi1 HB.out
      generalize l0[kk] = y at hx hl1 hi1 hb
      have HI1 := zA.mk hi1
      have HL1 := zA.mk hl1
      clear ex hi1 hl1
      cases e104
      have HC := zA.mk hb
      clear hb
      cases b with
      | true =>
        have H2 := zA.mk H
        clear H
        go_wp2_with fail
        refine (qW.calls _ _ _ _ _ HI1.out HL1.out HC.out).mono ?_
        rintro e w' ⟨rfl, hd⟩
        have HB2 := zA.mk (zN HB.out hd.below)
        clear hd HB
        go_wp2
        go_ret
        exact ⟨by rw [yey H2.out]; rfl, HB2.out⟩
      | false =>
        have H2 := zA.mk H
        clear H
        go_wp2_with fail
        refine (qW.calls _ _ _ _ _ HI1.out HL1.out HC.out).mono ?_
        rintro e w' ⟨rfl, hd⟩
        have HB2 := zA.mk (zN HB.out hd.below)
        clear hd HB
        go_wp2
        go_roundg (l0.length - (kk + 1))
        case measure => omega
        case rel => exact ⟨kk + 1, by omega, by omega, by go_num, H2, HB2⟩
    · have hltz : ¬ (kk : Int) < (l0.length : Int) := by omega
      have e : kk = l0.length := by omega
      subst e
      have H2 := zA.mk (yey (by simpa [zDu] using HA.out))
      clear HA
      go_wp2
      go_ret
      exact ⟨by rw [← H2.out]; rfl, HB.out⟩
def zd.f (l0 : List (List (zo))) : Option Bool := (zr.f l0).bind fun i => some (decide (0 ≤ i))
set_option maxHeartbeats 8000000 in
set_option maxRecDepth 100000 in
theorem zd.calls (A0 : Option Addr) (c0 : Nat) (l0 : List (List (zo))) (r : Bool) (w : World) (hr0 : Kd.C (Kd.slice 115 qh) w A0 l0.length l0) (hc0 : l0.length ≤ c0) (h : zd.f l0 = some r) :
    Calls Try.prog 143 #[.slice A0 l0.length c0, .func (.func 144) #[] #[]] w fun e w' => e = .returned (.bool r) ∧ Below w.heap.size w w' := by
  obtain ⟨i, hi, h⟩ := ydy.mp h
  have H := zA.mk (yey h)
  clear h
  have HI := zA.mk hi
  clear hi
  have HR0 := zA.mk hr0
  have HC0 := zA.mk hc0
  clear hr0 hc0
  go_enter Try.func143, Try.ntmps143
  go_wp2_with fail
  refine (zr.calls _ _ _ _ _ HR0.out HC0.out HI.out).mono ?_
  rintro e w' ⟨rfl, hd⟩
  have HB := zA.mk hd
  clear hd
  go_wp2
  go_ret
  exact ⟨by rw [← H.out]; rfl, HB.out⟩
end Go.Proofs.Ythjpdljdodalaaa.P
namespace Go.Proofs.Ythjpdljdodalaaa.P
open Go.RowKit Go.Proofs.YthjpdljdodalaaaW.PrintWords Go.Proofs.YthjpdljdodalaaaW.PrintLast Go.Proofs.YthjpdljdodalaaaW.PrintMore
attribute [local go_sem] QD QE QY QZ Zq Zr QF QG
set_option linter.unusedVariables false
set_option linter.unusedSimpArgs false
mutual
def zR.j0 : Nat → Bool → List (List (zo)) → Option (Bool)
  | 0, _, _ => none
  | k + 1, x13, x102000 => if x13 = true then (some false) else ((qY.f x102000).bind fun t103 => (zR.l0 k t103 0 x102000))
def zR.l0 : Nat → Int → Int → List (List (zo)) → Option (Bool)
  | 0, _, _, _ => none
  | k + 1, x16, x17, x102000 => if x17 < x16 then (zR.l1 k x17 x16 x17 0 x102000) else (some true)
def zR.l1 : Nat → Int → Int → Int → Int → List (List (zo)) → Option (Bool)
  | 0, _, _, _, _, _ => none
  | k + 1, x3, x16, x17, x20, x102000 => if x20 < 4 then ((zQ.f k x102000 x3 x20).bind fun t104 => (if t104 = true then (zR.l1 k x3 x16 x17 (wrap64 (x20 + 1)) x102000) else (some false))) else (zR.l0 k x16 (wrap64 (x17 + 1)) x102000)
end
def zR.f (k : Nat) (l0_0 : List (List (zo))) : Option (Bool) := if (l0_0.length : Int) > 8 then (zR.j0 k true l0_0) else ((zd.f l0_0).bind fun t102 => (zR.j0 k t102 l0_0))
set_option maxHeartbeats 8000000 in
set_option maxRecDepth 100000 in
theorem zR.calls (k : Nat) (A0_0 : Option Addr) (c0_0 : Nat) (l0_0 : List (List (zo))) (r : Bool) (w : World) (hr0_0 : Kd.C (Kd.slice 115 qh) w A0_0 l0_0.length l0_0) (hc0_0 : l0_0.length ≤ c0_0) (h : zR.f k l0_0 = some r) :
    Calls Try.prog 106 #[.agg #[.slice A0_0 l0_0.length c0_0]] w fun e w' => e = .returned (.bool r) ∧ Below w.heap.size w w' := by
  have hu30 := Try.underlying30
  have HR0_0 := zA.mk hr0_0
  have HC0_0 := zA.mk hc0_0
  clear hr0_0 hc0_0
  have HB := zA.mk (ypy w.heap.size w)
  have H : (if (l0_0.length : Int) > 8 then (zR.j0 k true l0_0) else ((zd.f l0_0).bind fun t102 => (zR.j0 k t102 l0_0))) = some r := h
  clear h
  have HC2 := zA.mk H
  clear H
  go_enter Try.func106, Try.ntmps106
  go_upto_region 1 with (first | ((with_reducible refine ze (N := 1) rfl ?_); refine zc ?hg (N := 1) ?hd (cs := #[.slice A0_0 l0_0.length c0_0]) (t := 30) ?hr ?_; (case hd => rfl); (case hg => rfl); (case hr => first | (go_simp; done) | (go_simp; rfl)); intro gb101 hg w3 hbox hb; have n0_ := zA.mk (zN (by repeat (first | (with_reducible first | exact HB.out | apply zC | apply zB | apply zD) | exact HB.out)) hb); have n1_ := zA.mk (hbox); have n2_ := zA.mk ((by rw [hg]; exact (zP (by repeat (first | (with_reducible first | exact HB.out | apply zC | apply zB | apply zD) | exact HB.out))) : w.heap.size ≤ gb101)); have n3_ := zA.mk ((by rw [hg]; exact (zP (by repeat (first | (with_reducible first | exact HB.out | apply zC | apply zB | apply zD) | exact HB.out))) : w.heap.size ≤ gb101)); clear HB; have HB := n0_; have BK101 := n1_; have GW101 := n2_; have GE101 := n3_; clear n0_ n1_ n2_ n3_; clear hb hbox hg))
  (try simp only [Act.put, yay, yby, ycy])
  go_cut [13] (fun v13 wc => ∃ (kq : Nat) (x13_1 : Bool), v13 = .bool x13_1 ∧ zA (zR.j0 kq x13_1 l0_0 = some r) ∧ zA (kq ≤ k) ∧ zA (wc.heap[gb101]? = some (.cells #[(.slice A0_0 l0_0.length c0_0)] 30 (0, 0))) ∧ zA (Below w.heap.size w wc))
  case first =>
    have H := HC2.out
    clear HC2
    by_cases c4 : (l0_0.length : Int) > 8
    · rw [if_pos c4] at H
      have c4b0 : decide (8 < (l0_0.length : Int)) = true := ygy c4
      have c4b1 : decide (8 < l0_0.length) = true := ygy (by omega)
      clear c4
      (first | rw [c4b0] | (simp only [zV, zW]; rw [c4b0]) | skip)
      have H' := zA.mk H
      clear H
      have hcz5_0 : w3.cell? ⟨gb101, 0, none⟩ = some (.slice A0_0 l0_0.length c0_0) := (zK BK101.out 0).trans rfl
      have hfz5_0 := zG BK101.out 0
      go_wp2
      go_meet
      case rel => exact ⟨_, (true), (by first | rfl | (simp; done) | (simp [*]; done)), H', ⟨by first | omega | exact yoy _⟩, ⟨by (with_reducible repeat (first | refine zI ?_ _ | refine zL ?_ | refine zH ?_ _)); exact BK101.out⟩, ⟨by repeat (first | (with_reducible first | exact HB.out | apply zC | apply zB | apply zD | refine zF ?_ GE101.out) | exact HB.out)⟩⟩
    · rw [if_neg c4] at H
      have c4b0 : decide (8 < (l0_0.length : Int)) = false := yhy c4
      have c4b1 : decide (8 < l0_0.length) = false := yhy (by omega)
      clear c4
      (first | rw [c4b0] | (simp only [zV, zW]; rw [c4b0]) | skip)
      replace H := ydy.mp H
      obtain ⟨t102, A60, H⟩ := H
      replace H : (zR.j0 k t102 l0_0) = some r := H
      have A6 := zA.mk A60
      clear A60
      have H' := zA.mk H
      clear H
      have hcz7_0 : w3.cell? ⟨gb101, 0, none⟩ = some (.slice A0_0 l0_0.length c0_0) := (zK BK101.out 0).trans rfl
      have hfz7_0 := zG BK101.out 0
      go_wp2_with (first | (go_at_call 143; (with_reducible refine (zd.calls _ _ l0_0 t102 _ ?side1 ?side2 A6.out).mono ?_); (case side1 => repeat (first | exact (Kd.qD HR0_0.out HB.out) | (with_reducible refine Kd.qA ?_ _) | (with_reducible refine Kd.qB ?_ _) | (with_reducible refine Kd.qP ?_))); (case side2 => exact HC0_0.out); rintro e w8 ⟨rfl, hb⟩; have n0_ := zA.mk (zO (g := gb101) (o := .cells #[.slice A0_0 l0_0.length c0_0] 30 (0, 0)) (by (with_reducible repeat (first | refine zI ?_ _ | refine zL ?_ | refine zH ?_ _)); exact BK101.out) hb); have n1_ := zA.mk (zN (by repeat (first | (with_reducible first | exact HB.out | apply zC | apply zB | apply zD | refine zF ?_ GE101.out) | exact HB.out)) hb); clear BK101; clear HB; have BK101 := n0_; have HB := n1_; clear n0_ n1_; (try clear hb); (try clear hb2); (try clear hk); (try clear hi)))
      go_meet
      case rel => exact ⟨_, (t102), (by first | rfl | (simp; done) | (simp [*]; done)), H', ⟨by first | omega | exact yoy _⟩, ⟨by (with_reducible repeat (first | refine zI ?_ _ | refine zL ?_ | refine zH ?_ _)); exact BK101.out⟩, ⟨by repeat (first | (with_reducible first | exact HB.out | apply zC | apply zB | apply zD | refine zF ?_ GE101.out) | exact HB.out)⟩⟩
  case rest =>
    clear HC2
    try clear c1
    try clear p2
    try clear c4
    try clear c4b0
    try clear c4b1
    try clear hcz5_0
    try clear hcz7_0
    try clear hfz5_0
    try clear hfz7_0
    obtain ⟨kq, x13_1, rfl, HA, HJ1, BK101, HB⟩ := hcut
    cases kq with
    | zero => exact absurd HA.out (by simp [zR.j0])
    | succ kj1 =>
      have H := HA.out
      clear HA
      simp only [zR.j0] at H
      by_cases c9 : x13_1 = true
      · subst c9
        have H1 : (some false) = some r := by rw [if_pos rfl] at H; exact H
        clear H
        have H := H1
        clear H1
        obtain rfl := yey H
        go_wp2
        go_ret
        exact ⟨by first | rfl | (simp [zS, zT] <;> rfl) | (simp [*, zS, zT] <;> rfl), by repeat (first | (with_reducible first | exact HB.out | apply zC | apply zB | apply zD | refine zF ?_ GE101.out) | exact HB.out)⟩
      · replace c9 := Bool.eq_false_iff.mpr c9
        subst c9
        have H1 : ((qY.f l0_0).bind fun t103 => (zR.l0 kj1 t103 0 l0_0)) = some r := by rw [if_neg (show ¬ (false = true) by decide)] at H; exact H
        clear H
        have H := H1
        clear H1
        replace H := ydy.mp H
        obtain ⟨t103, A100, H⟩ := H
        replace H : (zR.l0 kj1 t103 0 l0_0) = some r := H
        have A10 := zA.mk A100
        clear A100
        have H' := zA.mk H
        clear H
        have hcz11_0 : wc.cell? ⟨gb101, 0, none⟩ = some (.slice A0_0 l0_0.length c0_0) := (zK BK101.out 0).trans rfl
        have hfz11_0 := zG BK101.out 0
        go_wp2_with (first | ((with_reducible refine zX (f := 111) rfl ?_); refine qI (some 16) rfl rfl Try.func111 (by kernel_rfl) rfl #[.slice A0_0 l0_0.length c0_0] rfl (by (try simp only [yiy, yjy, yky]); first | done | rfl | (simp only [yly, ymy]; rfl)) ?_; (with_reducible refine (qY.calls _ _ l0_0 t103 _ ?side1 ?side2 A10.out).mono ?_); (case side1 => repeat (first | exact (Kd.qD HR0_0.out HB.out) | (with_reducible refine Kd.qA ?_ _) | (with_reducible refine Kd.qB ?_ _) | (with_reducible refine Kd.qP ?_))); (case side2 => exact HC0_0.out); rintro e w' ⟨rfl, ⟨nd, rfl⟩⟩; refine ⟨_, rfl, ?_⟩))
        go_loopg [17] kj1 (fun kq v17 w' => ∃ (x17_2 : Int), v17 = .int .i64 x17_2 ∧ zA (zR.l0 kq t103 x17_2 l0_0 = some r) ∧ zA (kq ≤ kj1) ∧ zA (w'.heap[gb101]? = some (.cells #[(.slice A0_0 l0_0.length c0_0)] 30 (0, 0))) ∧ zA (Below w.heap.size w w'))
        case atStart => exact ⟨(0), (by first | rfl | (simp; done) | (simp [*]; done)), H', ⟨yoy _⟩, ⟨by (with_reducible repeat (first | refine zI ?_ _ | refine zL ?_ | refine zH ?_ _)); exact BK101.out⟩, ⟨by repeat (first | (with_reducible first | exact HB.out | apply zC | apply zB | apply zD | refine zF ?_ GE101.out) | exact HB.out)⟩⟩
        case round =>
          clear H'
          try clear c1
          try clear p2
          try clear c4
          try clear c4b0
          try clear c4b1
          try clear c9
          try clear c10
          try clear c11
          try clear hcz11_0
          try clear hcz5_0
          try clear hcz7_0
          try clear hfz11_0
          try clear hfz5_0
          try clear hfz7_0
          try clear p2
          obtain ⟨x17_2, rfl, HA, HK2, BK101, HB⟩ := hrel
          cases gk with
          | zero => exact absurd HA.out (by simp [zR.l0])
          | succ k2 =>
            have H := HA.out
            clear HA
            simp only [zR.l0] at H
            by_cases c12 : x17_2 < t103
            · rw [if_pos c12] at H
              have c12b0 : decide (x17_2 < t103) = true := ygy c12
              clear c12
              have H' := zA.mk H
              clear H
              go_wp2
              go_loopg [20] k2 (fun kq v20 w' => ∃ (x20_3 : Int), v20 = .int .i64 x20_3 ∧ zA (zR.l1 kq x17_2 t103 x17_2 x20_3 l0_0 = some r) ∧ zA (kq ≤ k2) ∧ zA (w'.heap[gb101]? = some (.cells #[(.slice A0_0 l0_0.length c0_0)] 30 (0, 0))) ∧ zA (Below w.heap.size w w'))
              case atStart => exact ⟨(0), (by first | rfl | (simp; done) | (simp [*]; done)), H', ⟨yoy _⟩, ⟨by (with_reducible repeat (first | refine zI ?_ _ | refine zL ?_ | refine zH ?_ _)); exact BK101.out⟩, ⟨by repeat (first | (with_reducible first | exact HB.out | apply zC | apply zB | apply zD | refine zF ?_ GE101.out) | exact HB.out)⟩⟩
              case round =>
                clear H'
                try clear c1
                try clear p2
                try clear c4
                try clear c4b0
                try clear c4b1
                try clear c9
                try clear c10
                try clear c11
                try clear c12
                try clear c12b0
                try clear hcz11_0
                try clear hcz5_0
                try clear hcz7_0
                try clear hfz11_0
                try clear hfz5_0
                try clear hfz7_0
                try clear p2
                obtain ⟨x20_3, rfl, HA, HK3, BK101, HB⟩ := hrel
                cases gk with
                | zero => exact absurd HA.out (by simp [zR.l1])
                | succ k3 =>
                  have H := HA.out
                  clear HA
                  simp only [zR.l1] at H
                  by_cases c13 : x20_3 < 4
                  · rw [if_pos c13] at H
                    have c13b0 : decide (x20_3 < 4) = true := ygy c13
                    clear c13
                    replace H := ydy.mp H
                    obtain ⟨t104, A140, H⟩ := H
                    replace H : (if t104 = true then (zR.l1 k3 x17_2 t103 x17_2 (wrap64 (x20_3 + 1)) l0_0) else (some false)) = some r := H
                    have A14 := zA.mk A140
                    clear A140
                    by_cases c15 : t104 = true
                    · subst c15
                      have H1 : (zR.l1 k3 x17_2 t103 x17_2 (wrap64 (x20_3 + 1)) l0_0) = some r := by rw [if_pos rfl] at H; exact H
                      clear H
                      have H := H1
                      clear H1
                      have H' := zA.mk H
                      clear H
                      have hcz16_0 : wr.cell? ⟨gb101, 0, none⟩ = some (.slice A0_0 l0_0.length c0_0) := (zK BK101.out 0).trans rfl
                      have hfz16_0 := zG BK101.out 0
                      go_wp2_with (first | ((with_reducible refine zX (f := 145) rfl ?_); refine qI (some 26) rfl rfl Try.func145 (by kernel_rfl) rfl #[.agg #[.slice A0_0 l0_0.length c0_0], .int .i64 x17_2, .int .i64 x20_3] rfl (by (try simp only [yiy, yjy, yky]); first | done | rfl | (simp only [yly, ymy]; rfl)) ?_; (with_reducible refine (zQ.calls k3 _ _ l0_0 x17_2 x20_3 true _ ?side1 ?side2 A14.out).mono ?_); (case side1 => repeat (first | exact (Kd.qD HR0_0.out HB.out) | (with_reducible refine Kd.qA ?_ _) | (with_reducible refine Kd.qB ?_ _) | (with_reducible refine Kd.qP ?_))); (case side2 => exact HC0_0.out); rintro e w17 ⟨rfl, hb⟩; refine ⟨_, rfl, ?_⟩; have n0_ := zA.mk (zO (g := gb101) (o := .cells #[.slice A0_0 l0_0.length c0_0] 30 (0, 0)) (by (with_reducible repeat (first | refine zI ?_ _ | refine zL ?_ | refine zH ?_ _)); exact BK101.out) hb); have n1_ := zA.mk (zN (by repeat (first | (with_reducible first | exact HB.out | apply zC | apply zB | apply zD | refine zF ?_ GE101.out) | exact HB.out)) hb); clear BK101; clear HB; have BK101 := n0_; have HB := n1_; clear n0_ n1_; (try clear hb); (try clear hb2); (try clear hk); (try clear hi)))
                      go_roundg k3
                      case measure => have := HJ1.out; have := HK2.out; have := HK3.out; omega
                      case rel => exact ⟨(wrap64 (x20_3 + 1)), (by first | rfl | (simp; done) | (simp [*]; done)), H', ⟨by have := HJ1.out; have := HK2.out; have := HK3.out; omega⟩, ⟨by (with_reducible repeat (first | refine zI ?_ _ | refine zL ?_ | refine zH ?_ _)); exact BK101.out⟩, ⟨by repeat (first | (with_reducible first | exact HB.out | apply zC | apply zB | apply zD | refine zF ?_ GE101.out) | exact HB.out)⟩⟩
                    · replace c15 := Bool.eq_false_iff.mpr c15
                      subst c15
                      have H1 : (some false) = some r := by rw [if_neg (show ¬ (false = true) by decide)] at H; exact H
                      clear H
                      have H := H1
                      clear H1
                      obtain rfl := yey H
                      have hcz18_0 : wr.cell? ⟨gb101, 0, none⟩ = some (.slice A0_0 l0_0.length c0_0) := (zK BK101.out 0).trans rfl
                      have hfz18_0 := zG BK101.out 0
                      go_wp2_with (first | ((with_reducible refine zX (f := 145) rfl ?_); refine qI (some 26) rfl rfl Try.func145 (by kernel_rfl) rfl #[.agg #[.slice A0_0 l0_0.length c0_0], .int .i64 x17_2, .int .i64 x20_3] rfl (by (try simp only [yiy, yjy, yky]); first | done | rfl | (simp only [yly, ymy]; rfl)) ?_; (with_reducible refine (zQ.calls k3 _ _ l0_0 x17_2 x20_3 false _ ?side1 ?side2 A14.out).mono ?_); (case side1 => repeat (first | exact (Kd.qD HR0_0.out HB.out) | (with_reducible refine Kd.qA ?_ _) | (with_reducible refine Kd.qB ?_ _) | (with_reducible refine Kd.qP ?_))); (case side2 => exact HC0_0.out); rintro e w19 ⟨rfl, hb⟩; refine ⟨_, rfl, ?_⟩; have n0_ := zA.mk (zO (g := gb101) (o := .cells #[.slice A0_0 l0_0.length c0_0] 30 (0, 0)) (by (with_reducible repeat (first | refine zI ?_ _ | refine zL ?_ | refine zH ?_ _)); exact BK101.out) hb); have n1_ := zA.mk (zN (by repeat (first | (with_reducible first | exact HB.out | apply zC | apply zB | apply zD | refine zF ?_ GE101.out) | exact HB.out)) hb); clear BK101; clear HB; have BK101 := n0_; have HB := n1_; clear n0_ n1_; (try clear hb); (try clear hb2); (try clear hk); (try clear hi)))
                      go_ret
                      exact ⟨by first | rfl | (simp [zS, zT] <;> rfl) | (simp [*, zS, zT] <;> rfl), by repeat (first | (with_reducible first | exact HB.out | apply zC | apply zB | apply zD | refine zF ?_ GE101.out) | exact HB.out)⟩
                  · rw [if_neg c13] at H
                    have c13b0 : decide (x20_3 < 4) = false := yhy c13
                    clear c13
                    have H' := zA.mk H
                    clear H
                    go_wp2
                    go_roundg k3
                    case measure => have := HJ1.out; have := HK2.out; have := HK3.out; omega
                    case rel => exact ⟨(wrap64 (x17_2 + 1)), (by first | rfl | (simp; done) | (simp [*]; done)), H', ⟨by have := HJ1.out; have := HK2.out; have := HK3.out; omega⟩, ⟨by (with_reducible repeat (first | refine zI ?_ _ | refine zL ?_ | refine zH ?_ _)); exact BK101.out⟩, ⟨by repeat (first | (with_reducible first | exact HB.out | apply zC | apply zB | apply zD | refine zF ?_ GE101.out) | exact HB.out)⟩⟩
            · rw [if_neg c12] at H
              have c12b0 : decide (x17_2 < t103) = false := yhy c12
              clear c12
              obtain rfl := yey H
              go_wp2
              go_ret
              exact ⟨by first | rfl | (simp [zS, zT] <;> rfl) | (simp [*, zS, zT] <;> rfl), by repeat (first | (with_reducible first | exact HB.out | apply zC | apply zB | apply zD | refine zF ?_ GE101.out) | exact HB.out)⟩
def ZL.f (k : Nat) (l0_0 : List (List (zo))) : Option (Int) := (zR.f k l0_0).bind fun t102 => (if t102 = true then (if (l0_0.length : Int) > 6 then (some 3) else (some 0)) else (some 1))
set_option maxHeartbeats 8000000 in
set_option maxRecDepth 100000 in
theorem ZL.calls (k : Nat) (A0_0 : Option Addr) (c0_0 : Nat) (l0_0 : List (List (zo))) (r : Int) (w : World) (hr0_0 : Kd.C (Kd.slice 115 qh) w A0_0 l0_0.length l0_0) (hc0_0 : l0_0.length ≤ c0_0) (h : ZL.f k l0_0 = some r) :
    Calls Try.prog 64 #[.agg #[.slice A0_0 l0_0.length c0_0]] w fun e w' => e = .returned (.int .i64 r) ∧ Below w.heap.size w w' := by
  have hu30 := Try.underlying30
  have HR0_0 := zA.mk hr0_0
  have HC0_0 := zA.mk hc0_0
  clear hr0_0 hc0_0
  have HB := zA.mk (ypy w.heap.size w)
  have H : ((zR.f k l0_0).bind fun t102 => (if t102 = true then (if (l0_0.length : Int) > 6 then (some 3) else (some 0)) else (some 1))) = some r := h
  clear h
  replace H := ydy.mp H
  obtain ⟨t102, A20, H⟩ := H
  replace H : (if t102 = true then (if (l0_0.length : Int) > 6 then (some 3) else (some 0)) else (some 1)) = some r := H
  have A2 := zA.mk A20
  clear A20
  by_cases c3 : t102 = true
  · subst c3
    have H1 : (if (l0_0.length : Int) > 6 then (some 3) else (some 0)) = some r := by rw [if_pos rfl] at H; exact H
    clear H
    have H := H1
    clear H1
    by_cases c4 : (l0_0.length : Int) > 6
    · rw [if_pos c4] at H
      have c4b0 : decide (6 < (l0_0.length : Int)) = true := ygy c4
      have c4b1 : decide (6 < l0_0.length) = true := ygy (by omega)
      clear c4
      obtain rfl := yey H
      go_enter Try.func64, Try.ntmps64
      go_wp2_with (first | ((with_reducible refine ze (N := 1) rfl ?_); refine zc ?hg (N := 1) ?hd (cs := #[.slice A0_0 l0_0.length c0_0]) (t := 30) ?hr ?_; (case hd => rfl); (case hg => rfl); (case hr => first | (go_simp; done) | (go_simp; rfl)); intro gb101 hg w5 hbox hb; have n0_ := zA.mk (zN (by repeat (first | (with_reducible first | exact HB.out | apply zC | apply zB | apply zD) | exact HB.out)) hb); have n1_ := zA.mk (hbox); have n2_ := zA.mk ((by rw [hg]; exact (zP (by repeat (first | (with_reducible first | exact HB.out | apply zC | apply zB | apply zD) | exact HB.out))) : w.heap.size ≤ gb101)); have n3_ := zA.mk ((by rw [hg]; exact (zP (by repeat (first | (with_reducible first | exact HB.out | apply zC | apply zB | apply zD) | exact HB.out))) : w.heap.size ≤ gb101)); clear HB; have HB := n0_; have BK101 := n1_; have GW101 := n2_; have GE101 := n3_; clear n0_ n1_ n2_ n3_; clear hb hbox hg; have hcz6_0 : w5.cell? ⟨gb101, 0, none⟩ = some (.slice A0_0 l0_0.length c0_0) := (zK BK101.out 0).trans rfl; have hfz6_0 := zG BK101.out 0) | ((with_reducible refine zX (f := 106) rfl ?_); refine qI (some 5) rfl rfl Try.func106 (by kernel_rfl) rfl #[.agg #[.slice A0_0 l0_0.length c0_0]] rfl (by (try simp only [yiy, yjy, yky]); first | done | rfl | (simp only [yly, ymy]; rfl)) ?_; (with_reducible refine (zR.calls k _ _ l0_0 true _ ?side1 ?side2 A2.out).mono ?_); (case side1 => repeat (first | exact (Kd.qD HR0_0.out HB.out) | (with_reducible refine Kd.qA ?_ _) | (with_reducible refine Kd.qB ?_ _) | (with_reducible refine Kd.qP ?_))); (case side2 => exact HC0_0.out); rintro e w7 ⟨rfl, hb⟩; refine ⟨_, rfl, ?_⟩; have n0_ := zA.mk (zO (g := gb101) (o := .cells #[.slice A0_0 l0_0.length c0_0] 30 (0, 0)) (by (with_reducible repeat (first | refine zI ?_ _ | refine zL ?_ | refine zH ?_ _)); exact BK101.out) hb); have n1_ := zA.mk (zN (by repeat (first | (with_reducible first | exact HB.out | apply zC | apply zB | apply zD | refine zF ?_ GE101.out) | exact HB.out)) hb); clear BK101; clear HB; have BK101 := n0_; have HB := n1_; clear n0_ n1_; (try clear hb); (try clear hb2); (try clear hk); (try clear hi); have hcz8_0 : w7.cell? ⟨gb101, 0, none⟩ = some (.slice A0_0 l0_0.length c0_0) := (zK BK101.out 0).trans rfl; have hfz8_0 := zG BK101.out 0))
      go_ret
      exact ⟨by first | rfl | (simp [zS, zT] <;> rfl) | (simp [*, zS, zT] <;> rfl), by repeat (first | (with_reducible first | exact HB.out | apply zC | apply zB | apply zD | refine zF ?_ GE101.out) | exact HB.out)⟩
    · rw [if_neg c4] at H
      have c4b0 : decide (6 < (l0_0.length : Int)) = false := yhy c4
      have c4b1 : decide (6 < l0_0.length) = false := yhy (by omega)
      clear c4
      obtain rfl := yey H
      go_enter Try.func64, Try.ntmps64
      go_wp2_with (first | ((with_reducible refine ze (N := 1) rfl ?_); refine zc ?hg (N := 1) ?hd (cs := #[.slice A0_0 l0_0.length c0_0]) (t := 30) ?hr ?_; (case hd => rfl); (case hg => rfl); (case hr => first | (go_simp; done) | (go_simp; rfl)); intro gb101 hg w9 hbox hb; have n0_ := zA.mk (zN (by repeat (first | (with_reducible first | exact HB.out | apply zC | apply zB | apply zD) | exact HB.out)) hb); have n1_ := zA.mk (hbox); have n2_ := zA.mk ((by rw [hg]; exact (zP (by repeat (first | (with_reducible first | exact HB.out | apply zC | apply zB | apply zD) | exact HB.out))) : w.heap.size ≤ gb101)); have n3_ := zA.mk ((by rw [hg]; exact (zP (by repeat (first | (with_reducible first | exact HB.out | apply zC | apply zB | apply zD) | exact HB.out))) : w.heap.size ≤ gb101)); clear HB; have HB := n0_; have BK101 := n1_; have GW101 := n2_; have GE101 := n3_; clear n0_ n1_ n2_ n3_; clear hb hbox hg; have hcz10_0 : w9.cell? ⟨gb101, 0, none⟩ = some (.slice A0_0 l0_0.length c0_0) := (zK BK101.out 0).trans rfl; have hfz10_0 := zG BK101.out 0) | ((with_reducible refine zX (f := 106) rfl ?_); refine qI (some 5) rfl rfl Try.func106 (by kernel_rfl) rfl #[.agg #[.slice A0_0 l0_0.length c0_0]] rfl (by (try simp only [yiy, yjy, yky]); first | done | rfl | (simp only [yly, ymy]; rfl)) ?_; (with_reducible refine (zR.calls k _ _ l0_0 true _ ?side1 ?side2 A2.out).mono ?_); (case side1 => repeat (first | exact (Kd.qD HR0_0.out HB.out) | (with_reducible refine Kd.qA ?_ _) | (with_reducible refine Kd.qB ?_ _) | (with_reducible refine Kd.qP ?_))); (case side2 => exact HC0_0.out); rintro e w11 ⟨rfl, hb⟩; refine ⟨_, rfl, ?_⟩; have n0_ := zA.mk (zO (g := gb101) (o := .cells #[.slice A0_0 l0_0.length c0_0] 30 (0, 0)) (by (with_reducible repeat (first | refine zI ?_ _ | refine zL ?_ | refine zH ?_ _)); exact BK101.out) hb); have n1_ := zA.mk (zN (by repeat (first | (with_reducible first | exact HB.out | apply zC | apply zB | apply zD | refine zF ?_ GE101.out) | exact HB.out)) hb); clear BK101; clear HB; have BK101 := n0_; have HB := n1_; clear n0_ n1_; (try clear hb); (try clear hb2); (try clear hk); (try clear hi); have hcz12_0 : w11.cell? ⟨gb101, 0, none⟩ = some (.slice A0_0 l0_0.length c0_0) := (zK BK101.out 0).trans rfl; have hfz12_0 := zG BK101.out 0))
      go_ret
      exact ⟨by first | rfl | (simp [zS, zT] <;> rfl) | (simp [*, zS, zT] <;> rfl), by repeat (first | (with_reducible first | exact HB.out | apply zC | apply zB | apply zD | refine zF ?_ GE101.out) | exact HB.out)⟩
  · replace c3 := Bool.eq_false_iff.mpr c3
    subst c3
    have H1 : (some 1) = some r := by rw [if_neg (show ¬ (false = true) by decide)] at H; exact H
    clear H
    have H := H1
    clear H1
    obtain rfl := yey H
    go_enter Try.func64, Try.ntmps64
    go_wp2_with (first | ((with_reducible refine ze (N := 1) rfl ?_); refine zc ?hg (N := 1) ?hd (cs := #[.slice A0_0 l0_0.length c0_0]) (t := 30) ?hr ?_; (case hd => rfl); (case hg => rfl); (case hr => first | (go_simp; done) | (go_simp; rfl)); intro gb101 hg w13 hbox hb; have n0_ := zA.mk (zN (by repeat (first | (with_reducible first | exact HB.out | apply zC | apply zB | apply zD) | exact HB.out)) hb); have n1_ := zA.mk (hbox); have n2_ := zA.mk ((by rw [hg]; exact (zP (by repeat (first | (with_reducible first | exact HB.out | apply zC | apply zB | apply zD) | exact HB.out))) : w.heap.size ≤ gb101)); have n3_ := zA.mk ((by rw [hg]; exact (zP (by repeat (first | (with_reducible first | exact HB.out | apply zC | apply zB | apply zD) | exact HB.out))) : w.heap.size ≤ gb101)); clear HB; have HB := n0_; have BK101 := n1_; have GW101 := n2_; have GE101 := n3_; clear n0_ n1_ n2_ n3_; clear hb hbox hg; have hcz14_0 : w13.cell? ⟨gb101, 0, none⟩ = some (.slice A0_0 l0_0.length c0_0) := (zK BK101.out 0).trans rfl; have hfz14_0 := zG BK101.out 0) | ((with_reducible refine zX (f := 106) rfl ?_); refine qI (some 5) rfl rfl Try.func106 (by kernel_rfl) rfl #[.agg #[.slice A0_0 l0_0.length c0_0]] rfl (by (try simp only [yiy, yjy, yky]); first | done | rfl | (simp only [yly, ymy]; rfl)) ?_; (with_reducible refine (zR.calls k _ _ l0_0 false _ ?side1 ?side2 A2.out).mono ?_); (case side1 => repeat (first | exact (Kd.qD HR0_0.out HB.out) | (with_reducible refine Kd.qA ?_ _) | (with_reducible refine Kd.qB ?_ _) | (with_reducible refine Kd.qP ?_))); (case side2 => exact HC0_0.out); rintro e w15 ⟨rfl, hb⟩; refine ⟨_, rfl, ?_⟩; have n0_ := zA.mk (zO (g := gb101) (o := .cells #[.slice A0_0 l0_0.length c0_0] 30 (0, 0)) (by (with_reducible repeat (first | refine zI ?_ _ | refine zL ?_ | refine zH ?_ _)); exact BK101.out) hb); have n1_ := zA.mk (zN (by repeat (first | (with_reducible first | exact HB.out | apply zC | apply zB | apply zD | refine zF ?_ GE101.out) | exact HB.out)) hb); clear BK101; clear HB; have BK101 := n0_; have HB := n1_; clear n0_ n1_; (try clear hb); (try clear hb2); (try clear hk); (try clear hi)))
    go_ret
    exact ⟨by first | rfl | (simp [zS, zT] <;> rfl) | (simp [*, zS, zT] <;> rfl), by repeat (first | (with_reducible first | exact HB.out | apply zC | apply zB | apply zD | refine zF ?_ GE101.out) | exact HB.out)⟩
def qn.f (k : Nat) (l0_0 : List (List (zo))) : Option (Int × Int × List Int × Int) := (ZL.f k l0_0).bind fun t103 => (if t103 = 0 then ((zv.f l0_0).bind fun bt104 => (some (bt104.1, bt104.2.1, bt104.2.2, 0))) else (some (0, 0, ([] : List Int), t103)))
set_option maxHeartbeats 8000000 in
set_option maxRecDepth 100000 in
theorem qn.calls (k : Nat) (A0_0 : Option Addr) (c0_0 : Nat) (l0_0 : List (List (zo))) (r1 : Int) (r2 : Int) (r3 : List Int) (r4 : Int) (w : World) (hr0_0 : Kd.C (Kd.slice 115 qh) w A0_0 l0_0.length l0_0) (hc0_0 : l0_0.length ≤ c0_0) (h : qn.f k l0_0 = some (r1, r2, r3, r4)) :
    Calls Try.prog 23 #[.agg #[.slice A0_0 l0_0.length c0_0]] w fun e w' => ∃ v2_ : Value, e = .returned (.tuple #[.agg #[.int .i64 r1, .int .i64 r2, v2_], .int .i64 r4]) ∧ Kd.R (Kd.int .i64) 2 w' w.heap.size (fun _ => True) v2_ r3 ∧ Below w.heap.size w w' := by
  have hu30 := Try.underlying30
  have hu37 := Try.underlying37
  have HR0_0 := zA.mk hr0_0
  have HC0_0 := zA.mk hc0_0
  clear hr0_0 hc0_0
  have HB := zA.mk (ypy w.heap.size w)
  have H : ((ZL.f k l0_0).bind fun t103 => (if t103 = 0 then ((zv.f l0_0).bind fun bt104 => (some (bt104.1, bt104.2.1, bt104.2.2, 0))) else (some (0, 0, ([] : List Int), t103)))) = some (r1, r2, r3, r4) := h
  clear h
  replace H := ydy.mp H
  obtain ⟨t103, A20, H⟩ := H
  replace H : (if t103 = 0 then ((zv.f l0_0).bind fun bt104 => (some (bt104.1, bt104.2.1, bt104.2.2, 0))) else (some (0, 0, ([] : List Int), t103))) = some (r1, r2, r3, r4) := H
  have A2 := zA.mk A20
  clear A20
  by_cases c3 : t103 = 0
  · rw [if_pos c3] at H
    have c3b0 : (t103 == 0) = true := beq_iff_eq.mpr c3
    have c3b1 : (t103 != 0) = false := bne_eq_false_iff_eq.mpr c3
    clear c3
    replace H := ydy.mp H
    obtain ⟨⟨t104, t105, t106⟩, A40, H⟩ := H
    replace H : (some (t104, t105, t106, 0)) = some (r1, r2, r3, r4) := H
    have A4 := zA.mk A40
    clear A40
    simp only [Option.some.injEq, Prod.mk.injEq] at H
    obtain ⟨rfl, rfl, rfl, rfl⟩ := H
    go_enter Try.func23, Try.ntmps23
    go_wp2_with (first | ((with_reducible refine ze (N := 1) rfl ?_); refine zc ?hg (N := 1) ?hd (cs := #[.slice A0_0 l0_0.length c0_0]) (t := 30) ?hr ?_; (case hd => rfl); (case hg => rfl); (case hr => first | (go_simp; done) | (go_simp; rfl)); intro gb101 hg w5 hbox hb; have n0_ := zA.mk (zN (by repeat (first | (with_reducible first | exact HB.out | apply zC | apply zB | apply zD) | exact HB.out)) hb); have n1_ := zA.mk (hbox); have n2_ := zA.mk ((by rw [hg]; exact (zP (by repeat (first | (with_reducible first | exact HB.out | apply zC | apply zB | apply zD) | exact HB.out))) : w.heap.size ≤ gb101)); have n3_ := zA.mk ((by rw [hg]; exact (zP (by repeat (first | (with_reducible first | exact HB.out | apply zC | apply zB | apply zD) | exact HB.out))) : w.heap.size ≤ gb101)); clear HB; have HB := n0_; have BK101 := n1_; have GW101 := n2_; have GE101 := n3_; clear n0_ n1_ n2_ n3_; clear hb hbox hg) | ((with_reducible refine ze (N := 2) rfl ?_); refine zc ?hg (N := 2) ?hd (cs := #[.int .i64 0, .int .i64 0, .slice none 0 0]) (t := 37) ?hr ?_; (case hd => rfl); (case hg => rfl); (case hr => first | (go_simp; done) | (go_simp; rfl)); intro gb102 hg w6 hbox hb; have n0_ := zA.mk (zO (g := gb101) (o := .cells #[.slice A0_0 l0_0.length c0_0] 30 (0, 0)) (by (with_reducible repeat (first | refine zI ?_ _ | refine zL ?_ | refine zH ?_ _)); exact BK101.out) hb); have n1_ := zA.mk (zN (by repeat (first | (with_reducible first | exact HB.out | apply zC | apply zB | apply zD | refine zF ?_ GE101.out) | exact HB.out)) hb); have n2_ := zA.mk (hbox); have n3_ := zA.mk ((by rw [hg]; exact (zP (by repeat (first | (with_reducible first | exact HB.out | apply zC | apply zB | apply zD | refine zF ?_ GE101.out) | exact HB.out))) : w.heap.size ≤ gb102)); have n4_ := zA.mk ((by rw [hg]; exact (zP (by repeat (first | (with_reducible first | exact HB.out | apply zC | apply zB | apply zD | refine zF ?_ GE101.out) | exact HB.out))) : w.heap.size ≤ gb102)); have n5_ := zA.mk ((by rw [hg]; exact Nat.ne_of_lt (qG (g := gb101) (o := .cells #[.slice A0_0 l0_0.length c0_0] 30 (0, 0)) (by (with_reducible repeat (first | refine zI ?_ _ | refine zL ?_ | refine zH ?_ _)); exact BK101.out)) : gb101 ≠ gb102)); have n6_ := zA.mk ((by rw [hg]; exact Nat.ne_of_gt (qG (g := gb101) (o := .cells #[.slice A0_0 l0_0.length c0_0] 30 (0, 0)) (by (with_reducible repeat (first | refine zI ?_ _ | refine zL ?_ | refine zH ?_ _)); exact BK101.out)) : gb102 ≠ gb101)); clear BK101; clear HB; have BK101 := n0_; have HB := n1_; have BK102 := n2_; have GW102 := n3_; have GE102 := n4_; have NB101_102 := n5_; have NB102_101 := n6_; clear n0_ n1_ n2_ n3_ n4_ n5_ n6_; clear hb hbox hg; have hnb7 := NB101_102.out; have hnc7 := NB102_101.out; have hcz8_0 : w6.cell? ⟨gb101, 0, none⟩ = some (.slice A0_0 l0_0.length c0_0) := (zK BK101.out 0).trans rfl; have hfz8_0 := zG BK101.out 0) | ((with_reducible refine zX (f := 64) rfl ?_); refine qI (some 6) rfl rfl Try.func64 (by kernel_rfl) rfl #[.agg #[.slice A0_0 l0_0.length c0_0]] rfl (by (try simp only [yiy, yjy, yky]); first | done | rfl | (simp only [yly, ymy]; rfl)) ?_; (with_reducible refine (ZL.calls k _ _ l0_0 t103 _ ?side1 ?side2 A2.out).mono ?_); (case side1 => repeat (first | exact (Kd.qD HR0_0.out HB.out) | (with_reducible refine Kd.qA ?_ _) | (with_reducible refine Kd.qB ?_ _) | (with_reducible refine Kd.qP ?_))); (case side2 => exact HC0_0.out); rintro e w9 ⟨rfl, hb⟩; refine ⟨_, rfl, ?_⟩; have n0_ := zA.mk (zO (g := gb101) (o := .cells #[.slice A0_0 l0_0.length c0_0] 30 (0, 0)) (by (with_reducible repeat (first | refine zI ?_ _ | refine zL ?_ | refine zH ?_ _)); exact BK101.out) hb); have n1_ := zA.mk (zO (g := gb102) (o := .cells #[.int .i64 0, .int .i64 0, .slice none 0 0] 37 (0, 0)) (by (with_reducible repeat (first | refine zI ?_ _ | refine zL ?_ | refine zH ?_ _)); exact BK102.out) hb); have n2_ := zA.mk (zN (by repeat (first | (with_reducible first | exact HB.out | apply zC | apply zB | apply zD | refine zF ?_ GE101.out | refine zF ?_ GE102.out) | exact HB.out)) hb); clear BK101; clear BK102; clear HB; have BK101 := n0_; have BK102 := n1_; have HB := n2_; clear n0_ n1_ n2_; (try clear hb); (try clear hb2); (try clear hk); (try clear hi); have hcz10_0 : w9.cell? ⟨gb101, 0, none⟩ = some (.slice A0_0 l0_0.length c0_0) := (zK BK101.out 0).trans rfl; have hfz10_0 := zG BK101.out 0) | ((with_reducible refine zX (f := 67) rfl ?_); refine qI (some 12) rfl rfl Try.func67 (by kernel_rfl) rfl #[.agg #[.slice A0_0 l0_0.length c0_0]] rfl (by (try simp only [yiy, yjy, yky]); first | done | rfl | (simp only [yly, ymy]; rfl)) ?_; (with_reducible refine (zv.calls _ _ l0_0 t104 t105 t106 _ ?side1 ?side2 A4.out).mono ?_); (case side1 => repeat (first | exact (Kd.qD HR0_0.out HB.out) | (with_reducible refine Kd.qA ?_ _) | (with_reducible refine Kd.qB ?_ _) | (with_reducible refine Kd.qP ?_))); (case side2 => exact HC0_0.out); rintro e w11 ⟨v107, rfl, ho0, hb⟩; refine ⟨_, rfl, ?_⟩; have n0_ := zA.mk (Kd.ZR ho0 (zP (by repeat (first | (with_reducible first | exact HB.out | apply zC | apply zB | apply zD | refine zF ?_ GE101.out | refine zF ?_ GE102.out) | exact HB.out)))); have n1_ := zA.mk (zO (g := gb101) (o := .cells #[.slice A0_0 l0_0.length c0_0] 30 (0, 0)) (by (with_reducible repeat (first | refine zI ?_ _ | refine zL ?_ | refine zH ?_ _)); exact BK101.out) hb); have n2_ := zA.mk (zO (g := gb102) (o := .cells #[.int .i64 0, .int .i64 0, .slice none 0 0] 37 (0, 0)) (by (with_reducible repeat (first | refine zI ?_ _ | refine zL ?_ | refine zH ?_ _)); exact BK102.out) hb); have n3_ := zA.mk (zN (by repeat (first | (with_reducible first | exact HB.out | apply zC | apply zB | apply zD | refine zF ?_ GE101.out | refine zF ?_ GE102.out) | exact HB.out)) hb); clear BK101; clear BK102; clear HB; have HO108 := n0_; have BK101 := n1_; have BK102 := n2_; have HB := n3_; clear n0_ n1_ n2_ n3_; (try clear hb); (try clear hb2); (try clear hk); (try clear hi); (try clear ho0); have hcz12_0 : w11.cell? ⟨gb102, 0, none⟩ = some (.int .i64 0) := (zK BK102.out 0).trans rfl; have hcz12_1 : w11.cell? ⟨gb102, 1, none⟩ = some (.int .i64 0) := (zK BK102.out 1).trans rfl; have hcz12_2 : w11.cell? ⟨gb102, 2, none⟩ = some (.slice none 0 0) := (zK BK102.out 2).trans rfl; have hfz12_0 := zG BK102.out 0; have hfz12_1 := zG BK102.out 1; have hfz12_2 := zG BK102.out 2; obtain ⟨Ao13, co13, eo13⟩ := Kd.ZK HO108.out; subst eo13))
    refine bodyPost_ret (JD rfl _ _ gb102 37 #[.int .i64 t104, .int .i64 t105, .slice Ao13 t106.length co13] (0, 0) _ rfl (by (with_reducible repeat (first | refine zI ?_ _ | refine zL ?_ | refine zH ?_ _)); refine zu (cs := #[.int .i64 t104, .int .i64 t105, .slice none 0 0]) ?_ 2 _ rfl; (with_reducible repeat (first | refine zI ?_ _ | refine zL ?_ | refine zH ?_ _)); refine zu (cs := #[.int .i64 t104, .int .i64 0, .slice none 0 0]) ?_ 1 _ rfl; (with_reducible repeat (first | refine zI ?_ _ | refine zL ?_ | refine zH ?_ _)); refine zu (cs := #[.int .i64 0, .int .i64 0, .slice none 0 0]) ?_ 0 _ rfl; (with_reducible repeat (first | refine zI ?_ _ | refine zL ?_ | refine zH ?_ _)); exact BK102.out) Try.underlying37 rfl (by kernel_rfl)) rfl ?_
    exact ⟨_, by first | rfl | (simp [zS, zT] <;> rfl) | (simp [*, zS, zT] <;> rfl), by (with_reducible repeat (first | apply Kd.zl | apply Kd.zj | apply Kd.zz)); exact Kd.qL (Kd.JI (p := ⟨gb102, 2, none⟩) (Kd.JI (p := ⟨gb102, 1, none⟩) (Kd.JI (p := ⟨gb102, 0, none⟩) (Kd.zA6 HO108.out BK102.out (by decide)) (fun _ hk => hk.2) (.int .i64 t104)) (fun _ hk => hk.2) (.int .i64 t105)) (fun _ hk => hk.2) (.slice Ao13 t106.length co13)) (fun _ hk => trivial), by repeat (first | (with_reducible first | exact HB.out | apply zC | apply zB | apply zD | refine zF ?_ GE101.out | refine zF ?_ GE102.out) | exact HB.out)⟩
  · rw [if_neg c3] at H
    have c3b0 : (t103 == 0) = false := beq_eq_false_iff_ne.mpr c3
    have c3b1 : (t103 != 0) = true := bne_iff_ne.mpr c3
    simp only [Option.some.injEq, Prod.mk.injEq] at H
    obtain ⟨rfl, rfl, rfl, rfl⟩ := H
    go_enter Try.func23, Try.ntmps23
    go_wp2_with (first | ((with_reducible refine ze (N := 1) rfl ?_); refine zc ?hg (N := 1) ?hd (cs := #[.slice A0_0 l0_0.length c0_0]) (t := 30) ?hr ?_; (case hd => rfl); (case hg => rfl); (case hr => first | (go_simp; done) | (go_simp; rfl)); intro gb101 hg w14 hbox hb; have n0_ := zA.mk (zN (by repeat (first | (with_reducible first | exact HB.out | apply zC | apply zB | apply zD) | exact HB.out)) hb); have n1_ := zA.mk (hbox); have n2_ := zA.mk ((by rw [hg]; exact (zP (by repeat (first | (with_reducible first | exact HB.out | apply zC | apply zB | apply zD) | exact HB.out))) : w.heap.size ≤ gb101)); have n3_ := zA.mk ((by rw [hg]; exact (zP (by repeat (first | (with_reducible first | exact HB.out | apply zC | apply zB | apply zD) | exact HB.out))) : w.heap.size ≤ gb101)); clear HB; have HB := n0_; have BK101 := n1_; have GW101 := n2_; have GE101 := n3_; clear n0_ n1_ n2_ n3_; clear hb hbox hg) | ((with_reducible refine ze (N := 2) rfl ?_); refine zc ?hg (N := 2) ?hd (cs := #[.int .i64 0, .int .i64 0, .slice none 0 0]) (t := 37) ?hr ?_; (case hd => rfl); (case hg => rfl); (case hr => first | (go_simp; done) | (go_simp; rfl)); intro gb102 hg w15 hbox hb; have n0_ := zA.mk (zO (g := gb101) (o := .cells #[.slice A0_0 l0_0.length c0_0] 30 (0, 0)) (by (with_reducible repeat (first | refine zI ?_ _ | refine zL ?_ | refine zH ?_ _)); exact BK101.out) hb); have n1_ := zA.mk (zN (by repeat (first | (with_reducible first | exact HB.out | apply zC | apply zB | apply zD | refine zF ?_ GE101.out) | exact HB.out)) hb); have n2_ := zA.mk (hbox); have n3_ := zA.mk ((by rw [hg]; exact (zP (by repeat (first | (with_reducible first | exact HB.out | apply zC | apply zB | apply zD | refine zF ?_ GE101.out) | exact HB.out))) : w.heap.size ≤ gb102)); have n4_ := zA.mk ((by rw [hg]; exact (zP (by repeat (first | (with_reducible first | exact HB.out | apply zC | apply zB | apply zD | refine zF ?_ GE101.out) | exact HB.out))) : w.heap.size ≤ gb102)); have n5_ := zA.mk ((by rw [hg]; exact Nat.ne_of_lt (qG (g := gb101) (o := .cells #[.slice A0_0 l0_0.length c0_0] 30 (0, 0)) (by (with_reducible repeat (first | refine zI ?_ _ | refine zL ?_ | refine zH ?_ _)); exact BK101.out)) : gb101 ≠ gb102)); have n6_ := zA.mk ((by rw [hg]; exact Nat.ne_of_gt (qG (g := gb101) (o := .cells #[.slice A0_0 l0_0.length c0_0] 30 (0, 0)) (by (with_reducible repeat (first | refine zI ?_ _ | refine zL ?_ | refine zH ?_ _)); exact BK101.out)) : gb102 ≠ gb101)); clear BK101; clear HB; have BK101 := n0_; have HB := n1_; have BK102 := n2_; have GW102 := n3_; have GE102 := n4_; have NB101_102 := n5_; have NB102_101 := n6_; clear n0_ n1_ n2_ n3_ n4_ n5_ n6_; clear hb hbox hg; have hnb16 := NB101_102.out; have hnc16 := NB102_101.out; have hcz17_0 : w15.cell? ⟨gb101, 0, none⟩ = some (.slice A0_0 l0_0.length c0_0) := (zK BK101.out 0).trans rfl; have hfz17_0 := zG BK101.out 0) | ((with_reducible refine zX (f := 64) rfl ?_); refine qI (some 6) rfl rfl Try.func64 (by kernel_rfl) rfl #[.agg #[.slice A0_0 l0_0.length c0_0]] rfl (by (try simp only [yiy, yjy, yky]); first | done | rfl | (simp only [yly, ymy]; rfl)) ?_; (with_reducible refine (ZL.calls k _ _ l0_0 t103 _ ?side1 ?side2 A2.out).mono ?_); (case side1 => repeat (first | exact (Kd.qD HR0_0.out HB.out) | (with_reducible refine Kd.qA ?_ _) | (with_reducible refine Kd.qB ?_ _) | (with_reducible refine Kd.qP ?_))); (case side2 => exact HC0_0.out); rintro e w18 ⟨rfl, hb⟩; refine ⟨_, rfl, ?_⟩; have n0_ := zA.mk (zO (g := gb101) (o := .cells #[.slice A0_0 l0_0.length c0_0] 30 (0, 0)) (by (with_reducible repeat (first | refine zI ?_ _ | refine zL ?_ | refine zH ?_ _)); exact BK101.out) hb); have n1_ := zA.mk (zO (g := gb102) (o := .cells #[.int .i64 0, .int .i64 0, .slice none 0 0] 37 (0, 0)) (by (with_reducible repeat (first | refine zI ?_ _ | refine zL ?_ | refine zH ?_ _)); exact BK102.out) hb); have n2_ := zA.mk (zN (by repeat (first | (with_reducible first | exact HB.out | apply zC | apply zB | apply zD | refine zF ?_ GE101.out | refine zF ?_ GE102.out) | exact HB.out)) hb); clear BK101; clear BK102; clear HB; have BK101 := n0_; have BK102 := n1_; have HB := n2_; clear n0_ n1_ n2_; (try clear hb); (try clear hb2); (try clear hk); (try clear hi); have hcz19_0 : w18.cell? ⟨gb102, 0, none⟩ = some (.int .i64 0) := (zK BK102.out 0).trans rfl; have hcz19_1 : w18.cell? ⟨gb102, 1, none⟩ = some (.int .i64 0) := (zK BK102.out 1).trans rfl; have hcz19_2 : w18.cell? ⟨gb102, 2, none⟩ = some (.slice none 0 0) := (zK BK102.out 2).trans rfl; have hfz19_0 := zG BK102.out 0; have hfz19_1 := zG BK102.out 1; have hfz19_2 := zG BK102.out 2))
    refine bodyPost_ret (JD rfl _ _ gb102 37 #[.int .i64 0, .int .i64 0, .slice none 0 0] (0, 0) _ rfl (by (with_reducible repeat (first | refine zI ?_ _ | refine zL ?_ | refine zH ?_ _)); refine zu (cs := #[.int .i64 0, .int .i64 0, .slice none 0 0]) ?_ 2 _ rfl; (with_reducible repeat (first | refine zI ?_ _ | refine zL ?_ | refine zH ?_ _)); refine zu (cs := #[.int .i64 0, .int .i64 0, .slice none 0 0]) ?_ 1 _ rfl; (with_reducible repeat (first | refine zI ?_ _ | refine zL ?_ | refine zH ?_ _)); refine zu (cs := #[.int .i64 0, .int .i64 0, .slice none 0 0]) ?_ 0 _ rfl; (with_reducible repeat (first | refine zI ?_ _ | refine zL ?_ | refine zH ?_ _)); exact BK102.out) Try.underlying37 rfl (by kernel_rfl)) rfl ?_
    exact ⟨_, by first | rfl | (simp [zS, zT] <;> rfl) | (simp [*, zS, zT] <;> rfl), by first | exact Kd.zAx _ _ _ _ _ | exact Kd.zDo _ _ _ _ _ | exact Kd.zDr _ _ _ _ _ | exact Kd.zDf _ _ _ _ _ | exact Kd.zDj _ _ _ _ _, by repeat (first | (with_reducible first | exact HB.out | apply zC | apply zB | apply zD | refine zF ?_ GE101.out | refine zF ?_ GE102.out) | exact HB.out)⟩
def qU.l0 : Nat → List Int → List Int → Int → Option (Bool)
  | 0, _, _, _ => none
  | k + 1, x0, x1, x5 => if x5 < (x0.length : Int) then (if 0 ≤ x5 then (if x5 < (x1.length : Int) then (if (rd x0 x5) = (rd x1 x5) then (qU.l0 k x0 x1 (wrap64 (x5 + 1))) else (some false)) else (none)) else (none)) else (some true)
def qU.f (k : Nat) (l0 : List Int) (l1 : List Int) : Option (Bool) := if (l0.length : Int) = (l1.length : Int) then (qU.l0 k l0 l1 0) else (some false)
set_option maxHeartbeats 8000000 in
set_option maxRecDepth 100000 in
theorem qU.calls (k : Nat) (A0 : Option Addr) (c0 : Nat) (l0 : List Int) (A1 : Option Addr) (c1 : Nat) (l1 : List Int) (r : Bool) (w : World) (hr0 : Kd.C (Kd.int .i64) w A0 l0.length l0) (hc0 : l0.length ≤ c0) (hr1 : Kd.C (Kd.int .i64) w A1 l1.length l1) (hc1 : l1.length ≤ c1) (h : qU.f k l0 l1 = some r) :
    Calls Try.prog 21 #[.slice A0 l0.length c0, .slice A1 l1.length c1] w fun e w' => e = .returned (.bool r) ∧ zi w w' := by
  have HR0 := zA.mk hr0
  have HC0 := zA.mk hc0
  clear hr0 hc0
  have HR1 := zA.mk hr1
  have HC1 := zA.mk hc1
  clear hr1 hc1
  have H : (if (l0.length : Int) = (l1.length : Int) then (qU.l0 k l0 l1 0) else (some false)) = some r := h
  clear h
  by_cases c3 : (l0.length : Int) = (l1.length : Int)
  · rw [if_pos c3] at H
    have c3b0 : ((l0.length : Int) == (l1.length : Int)) = true := beq_iff_eq.mpr c3
    have c3b1 : ((l0.length : Int) != (l1.length : Int)) = false := bne_eq_false_iff_eq.mpr c3
    have c3b2 : (l0.length == l1.length) = true := by first | simpa using c3 | (simp at c3 ⊢; omega)
    clear c3
    have H' := zA.mk H
    clear H
    go_enter Try.func21, Try.ntmps21
    go_wp2
    repeat (go_quiet (fail); try go_wp2)
    go_loopg [5] k (fun kq v5 w' => ∃ (x5_1 : Int), v5 = .int .i64 x5_1 ∧ zA (qU.l0 kq l0 l1 x5_1 = some r) ∧ zA (kq ≤ k) ∧ zi w w')
    case atStart => exact ⟨(0), (by first | rfl | (simp; done) | (simp [*]; done)), H', ⟨yoy _⟩, by repeat (first | exact zi.refl _ | apply zi.step)⟩
    case round =>
      clear H'
      try clear c1
      try clear c2
      try clear p2
      try clear c3
      try clear c3b0
      try clear c3b1
      try clear c3b2
      obtain ⟨x5_1, rfl, HA, HK1, ⟨m1, rfl⟩⟩ := hrel
      cases gk with
      | zero => exact absurd HA.out (by simp [qU.l0])
      | succ k1 =>
        have H := HA.out
        clear HA
        simp only [qU.l0] at H
        by_cases c4 : x5_1 < (l0.length : Int)
        · rw [if_pos c4] at H
          have c4b0 : decide (x5_1 < (l0.length : Int)) = true := ygy c4
          clear c4
          by_cases c5 : 0 ≤ x5_1
          · rw [if_pos c5] at H
            have c5b0 : decide (0 ≤ x5_1) = true := ygy c5
            clear c5
            by_cases c6 : x5_1 < (l1.length : Int)
            · rw [if_pos c6] at H
              have c6b0 : decide (x5_1 < (l1.length : Int)) = true := ygy c6
              clear c6
              by_cases c7 : (rd l0 x5_1) = (rd l1 x5_1)
              · rw [if_pos c7] at H
                have c7b0 : ((rd l0 x5_1) == (rd l1 x5_1)) = true := beq_iff_eq.mpr c7
                have c7b1 : ((rd l0 x5_1) != (rd l1 x5_1)) = false := bne_eq_false_iff_eq.mpr c7
                clear c7
                have H' := zA.mk H
                clear H
                have p101 : 0 ≤ (x5_1 : Int) := of_decide_eq_true (by first | (with_reducible assumption) | assumption)
                have q101 : x5_1 < (l0.length : Int) := of_decide_eq_true (by first | (with_reducible assumption) | assumption)
                obtain ⟨ad101, e101, hx101_0⟩ := Kd.ZP HR0.out x5_1 p101 q101
                cases e101
                replace p101 := eq_true p101
                replace q101 := eq_true q101
                have p102 : 0 ≤ (x5_1 : Int) := of_decide_eq_true (by first | (with_reducible assumption) | assumption)
                have q102 : x5_1 < (l1.length : Int) := of_decide_eq_true (by first | (with_reducible assumption) | assumption)
                obtain ⟨ad102, e102, hx102_0⟩ := Kd.ZP HR1.out x5_1 p102 q102
                cases e102
                replace p102 := eq_true p102
                replace q102 := eq_true q102
                go_wp2
                repeat (go_quiet (fail); try go_wp2)
                go_roundg k1
                case measure => have := HK1.out; omega
                case rel => exact ⟨(wrap64 (x5_1 + 1)), (by first | rfl | (simp; done) | (simp [*]; done)), H', ⟨by have := HK1.out; omega⟩, by repeat (first | exact zi.refl _ | apply zi.step)⟩
              · rw [if_neg c7] at H
                have c7b0 : ((rd l0 x5_1) == (rd l1 x5_1)) = false := beq_eq_false_iff_ne.mpr c7
                have c7b1 : ((rd l0 x5_1) != (rd l1 x5_1)) = true := bne_iff_ne.mpr c7
                obtain rfl := yey H
                have p101 : 0 ≤ (x5_1 : Int) := of_decide_eq_true (by first | (with_reducible assumption) | assumption)
                have q101 : x5_1 < (l0.length : Int) := of_decide_eq_true (by first | (with_reducible assumption) | assumption)
                obtain ⟨ad101, e101, hx101_0⟩ := Kd.ZP HR0.out x5_1 p101 q101
                cases e101
                replace p101 := eq_true p101
                replace q101 := eq_true q101
                have p102 : 0 ≤ (x5_1 : Int) := of_decide_eq_true (by first | (with_reducible assumption) | assumption)
                have q102 : x5_1 < (l1.length : Int) := of_decide_eq_true (by first | (with_reducible assumption) | assumption)
                obtain ⟨ad102, e102, hx102_0⟩ := Kd.ZP HR1.out x5_1 p102 q102
                cases e102
                replace p102 := eq_true p102
                replace q102 := eq_true q102
                go_wp2
                repeat (go_quiet (fail); try go_wp2)
                go_ret
                exact ⟨by first | rfl | (simp; done) | (simp [*]; done), by repeat (first | exact zi.refl _ | apply zi.step)⟩
            · rw [if_neg c6] at H
              exact absurd H (by simp)
          · rw [if_neg c5] at H
            exact absurd H (by simp)
        · rw [if_neg c4] at H
          have c4b0 : decide (x5_1 < (l0.length : Int)) = false := yhy c4
          clear c4
          obtain rfl := yey H
          go_wp2
          repeat (go_quiet (fail); try go_wp2)
          go_ret
          exact ⟨by first | rfl | (simp; done) | (simp [*]; done), by repeat (first | exact zi.refl _ | apply zi.step)⟩
  · rw [if_neg c3] at H
    have c3b0 : ((l0.length : Int) == (l1.length : Int)) = false := beq_eq_false_iff_ne.mpr c3
    have c3b1 : ((l0.length : Int) != (l1.length : Int)) = true := bne_iff_ne.mpr c3
    have c3b2 : (l0.length == l1.length) = false := by first | simpa using c3 | (simp at c3 ⊢; omega)
    obtain rfl := yey H
    go_enter Try.func21, Try.ntmps21
    go_wp2
    repeat (go_quiet (fail); try go_wp2)
    go_ret
    exact ⟨by first | rfl | (simp; done) | (simp [*]; done), by repeat (first | exact zi.refl _ | apply zi.step)⟩
def ZH.f (k : Nat) (a0_0 : Int) (a0_1 : Int) (l0_2 : List Int) (a1_0 : Int) (a1_1 : Int) (l1_2 : List Int) : Option (Bool) := if a0_0 = a1_0 then (if a0_1 = a1_1 then ((qU.f k l0_2 l1_2).bind fun t103 => (if t103 = true then (some true) else (some false))) else (some false)) else (some false)
set_option maxHeartbeats 8000000 in
set_option maxRecDepth 100000 in
theorem ZH.calls (k : Nat) (a0_0 : Int) (a0_1 : Int) (A0_2 : Option Addr) (c0_2 : Nat) (l0_2 : List Int) (a1_0 : Int) (a1_1 : Int) (A1_2 : Option Addr) (c1_2 : Nat) (l1_2 : List Int) (r : Bool) (w : World) (hr0_2 : Kd.C (Kd.int .i64) w A0_2 l0_2.length l0_2) (hc0_2 : l0_2.length ≤ c0_2) (hr1_2 : Kd.C (Kd.int .i64) w A1_2 l1_2.length l1_2) (hc1_2 : l1_2.length ≤ c1_2) (h : ZH.f k a0_0 a0_1 l0_2 a1_0 a1_1 l1_2 = some r) :
 Calls Try.prog 24 #[.agg #[.int .i64 a0_0, .int .i64 a0_1, .slice A0_2 l0_2.length c0_2], .agg #[.int .i64 a1_0, .int .i64 a1_1, .slice A1_2 l1_2.length c1_2]] w fun e w' => e = .returned (.bool r) ∧ Below w.heap.size w w' := by
 have hu37 := Try.underlying37
 have HR0_2 := zA.mk hr0_2
 have HC0_2 := zA.mk hc0_2
 clear hr0_2 hc0_2
 have HR1_2 := zA.mk hr1_2
 have HC1_2 := zA.mk hc1_2
 clear hr1_2 hc1_2
 have HB := zA.mk (ypy w.heap.size w)
 have H : (if a0_0 = a1_0 then (if a0_1 = a1_1 then ((qU.f k l0_2 l1_2).bind fun t103 => (if t103 = true then (some true) else (some false))) else (some false)) else (some false)) = some r := h
 clear h
 by_cases c3 : a0_0 = a1_0
 next =>
  rw [if_pos c3] at H
  have c3b0 : (a0_0 == a1_0) = true := beq_iff_eq.mpr c3
  have c3b1 : (a0_0 != a1_0) = false := bne_eq_false_iff_eq.mpr c3
  clear c3
  by_cases c4 : a0_1 = a1_1
  next =>
   rw [if_pos c4] at H
   have c4b0 : (a0_1 == a1_1) = true := beq_iff_eq.mpr c4
   have c4b1 : (a0_1 != a1_1) = false := bne_eq_false_iff_eq.mpr c4
   clear c4
   replace H := ydy.mp H
   obtain ⟨t103, A50, H⟩ := H
   replace H : (if t103 = true then (some true) else (some false)) = some r := H
   have A5 := zA.mk A50
   clear A50
   by_cases c6 : t103 = true
   next =>
    subst c6
    have H1 : (some true) = some r := by rw [if_pos rfl] at H; exact H
    clear H
    have H := H1
    clear H1
    obtain rfl := yey H
    go_enter Try.func24, Try.ntmps24
    go_wp2_with (first | ((with_reducible refine ze (N := 2) rfl ?_); refine zc ?hg (N := 2) ?hd (cs := #[.int .i64 a0_0, .int .i64 a0_1, .slice A0_2 l0_2.length c0_2]) (t := 37) ?hr ?_; (case hd => rfl); (case hg => rfl); (case hr => first | (go_simp; done) | (go_simp; rfl)); intro gb101 hg w7 hbox hb; have n0_ := zA.mk (zN (by repeat (first | (with_reducible first | exact HB.out | apply zC | apply zB | apply zD) | exact HB.out)) hb); have n1_ := zA.mk (hbox); have n2_ := zA.mk ((by rw [hg]; exact (zP (by repeat (first | (with_reducible first | exact HB.out | apply zC | apply zB | apply zD) | exact HB.out))) : w.heap.size ≤ gb101)); have n3_ := zA.mk ((by rw [hg]; exact (zP (by repeat (first | (with_reducible first | exact HB.out | apply zC | apply zB | apply zD) | exact HB.out))) : w.heap.size ≤ gb101)); clear HB; have HB := n0_; have BK101 := n1_; have GW101 := n2_; have GE101 := n3_; clear n0_ n1_ n2_ n3_; clear hb hbox hg) | ((with_reducible refine ze (N := 3) rfl ?_); refine zc ?hg (N := 3) ?hd (cs := #[.int .i64 a1_0, .int .i64 a1_1, .slice A1_2 l1_2.length c1_2]) (t := 37) ?hr ?_; (case hd => rfl); (case hg => rfl); (case hr => first | (go_simp; done) | (go_simp; rfl)); intro gb102 hg w8 hbox hb; have n0_ := zA.mk (zO (g := gb101) (o := .cells #[.int .i64 a0_0, .int .i64 a0_1, .slice A0_2 l0_2.length c0_2] 37 (0, 0)) (by (with_reducible repeat (first | refine zI ?_ _ | refine zL ?_ | refine zH ?_ _)); exact BK101.out) hb); have n1_ := zA.mk (zN (by repeat (first | (with_reducible first | exact HB.out | apply zC | apply zB | apply zD | refine zF ?_ GE101.out) | exact HB.out)) hb); have n2_ := zA.mk (hbox); have n3_ := zA.mk ((by rw [hg]; exact (zP (by repeat (first | (with_reducible first | exact HB.out | apply zC | apply zB | apply zD | refine zF ?_ GE101.out) | exact HB.out))) : w.heap.size ≤ gb102)); have n4_ := zA.mk ((by rw [hg]; exact (zP (by repeat (first | (with_reducible first | exact HB.out | apply zC | apply zB | apply zD | refine zF ?_ GE101.out) | exact HB.out))) : w.heap.size ≤ gb102)); have n5_ := zA.mk ((by rw [hg]; exact Nat.ne_of_lt (qG (g := gb101) (o := .cells #[.int .i64 a0_0, .int .i64 a0_1, .slice A0_2 l0_2.length c0_2] 37 (0, 0)) (by (with_reducible repeat (first | refine zI ?_ _ | refine zL ?_ | refine zH ?_ _)); exact BK101.out)) : gb101 ≠ gb102)); have n6_ := zA.mk ((by rw [hg]; exact Nat.ne_of_gt (qG (g := gb101) (o := .cells #[.int .i64 a0_0, .int .i64 a0_1, .slice A0_2 l0_2.length c0_2] 37 (0, 0)) (by (with_reducible repeat (first | refine zI ?_ _ | refine zL ?_ | refine zH ?_ _)); exact BK101.out)) : gb102 ≠ gb101)); clear BK101; clear HB; have BK101 := n0_; have HB := n1_; have BK102 := n2_; have GW102 := n3_; have GE102 := n4_; have NB101_102 := n5_; have NB102_101 := n6_; clear n0_ n1_ n2_ n3_ n4_ n5_ n6_; clear hb hbox hg; have hnb9 := NB101_102.out; have hnc9 := NB102_101.out; have hcz10_0 : w8.cell? ⟨gb101, 0, none⟩ = some (.int .i64 a0_0) := (zK BK101.out 0).trans rfl; have hcz10_1 : w8.cell? ⟨gb101, 1, none⟩ = some (.int .i64 a0_1) := (zK BK101.out 1).trans rfl; have hcz10_2 : w8.cell? ⟨gb101, 2, none⟩ = some (.slice A0_2 l0_2.length c0_2) := (zK BK101.out 2).trans rfl; have hfz10_0 := zG BK101.out 0; have hfz10_1 := zG BK101.out 1; have hfz10_2 := zG BK101.out 2; have hcz11_0 : w8.cell? ⟨gb102, 0, none⟩ = some (.int .i64 a1_0) := (zK BK102.out 0).trans rfl; have hcz11_1 : w8.cell? ⟨gb102, 1, none⟩ = some (.int .i64 a1_1) := (zK BK102.out 1).trans rfl; have hcz11_2 : w8.cell? ⟨gb102, 2, none⟩ = some (.slice A1_2 l1_2.length c1_2) := (zK BK102.out 2).trans rfl; have hfz11_0 := zG BK102.out 0; have hfz11_1 := zG BK102.out 1; have hfz11_2 := zG BK102.out 2) | ((with_reducible refine zX (f := 21) rfl ?_); refine qI (some 19) rfl rfl Try.func21 (by kernel_rfl) rfl #[.slice A0_2 l0_2.length c0_2, .slice A1_2 l1_2.length c1_2] rfl (by (try simp only [yiy, yjy, yky]); first | done | rfl | (simp only [yly, ymy]; rfl)) ?_; (with_reducible refine (qU.calls k _ _ l0_2 _ _ l1_2 true _ ?side1 ?side2 ?side3 ?side4 A5.out).mono ?_); (case side1 => repeat (first | exact (Kd.qD HR0_2.out HB.out) | (with_reducible refine Kd.qA ?_ _) | (with_reducible refine Kd.qB ?_ _) | (with_reducible refine Kd.qP ?_))); (case side2 => exact HC0_2.out); (case side3 => repeat (first | exact (Kd.qD HR1_2.out HB.out) | (with_reducible refine Kd.qA ?_ _) | (with_reducible refine Kd.qB ?_ _) | (with_reducible refine Kd.qP ?_))); (case side4 => exact HC1_2.out); rintro e w' ⟨rfl, ⟨nd, rfl⟩⟩; refine ⟨_, rfl, ?_⟩))
    go_ret
    exact ⟨by first | rfl | (simp [zS, zT] <;> rfl) | (simp [*, zS, zT] <;> rfl), by repeat (first | (with_reducible first | exact HB.out | apply zC | apply zB | apply zD | refine zF ?_ GE101.out | refine zF ?_ GE102.out) | exact HB.out)⟩
   next =>
    replace c6 := Bool.eq_false_iff.mpr c6
    subst c6
    have H1 : (some false) = some r := by rw [if_neg (show ¬ (false = true) by decide)] at H; exact H
    clear H
    have H := H1
    clear H1
    obtain rfl := yey H
    go_enter Try.func24, Try.ntmps24
    go_wp2_with (first | ((with_reducible refine ze (N := 2) rfl ?_); refine zc ?hg (N := 2) ?hd (cs := #[.int .i64 a0_0, .int .i64 a0_1, .slice A0_2 l0_2.length c0_2]) (t := 37) ?hr ?_; (case hd => rfl); (case hg => rfl); (case hr => first | (go_simp; done) | (go_simp; rfl)); intro gb101 hg w12 hbox hb; have n0_ := zA.mk (zN (by repeat (first | (with_reducible first | exact HB.out | apply zC | apply zB | apply zD) | exact HB.out)) hb); have n1_ := zA.mk (hbox); have n2_ := zA.mk ((by rw [hg]; exact (zP (by repeat (first | (with_reducible first | exact HB.out | apply zC | apply zB | apply zD) | exact HB.out))) : w.heap.size ≤ gb101)); have n3_ := zA.mk ((by rw [hg]; exact (zP (by repeat (first | (with_reducible first | exact HB.out | apply zC | apply zB | apply zD) | exact HB.out))) : w.heap.size ≤ gb101)); clear HB; have HB := n0_; have BK101 := n1_; have GW101 := n2_; have GE101 := n3_; clear n0_ n1_ n2_ n3_; clear hb hbox hg) | ((with_reducible refine ze (N := 3) rfl ?_); refine zc ?hg (N := 3) ?hd (cs := #[.int .i64 a1_0, .int .i64 a1_1, .slice A1_2 l1_2.length c1_2]) (t := 37) ?hr ?_; (case hd => rfl); (case hg => rfl); (case hr => first | (go_simp; done) | (go_simp; rfl)); intro gb102 hg w13 hbox hb; have n0_ := zA.mk (zO (g := gb101) (o := .cells #[.int .i64 a0_0, .int .i64 a0_1, .slice A0_2 l0_2.length c0_2] 37 (0, 0)) (by (with_reducible repeat (first | refine zI ?_ _ | refine zL ?_ | refine zH ?_ _)); exact BK101.out) hb); have n1_ := zA.mk (zN (by repeat (first | (with_reducible first | exact HB.out | apply zC | apply zB | apply zD | refine zF ?_ GE101.out) | exact HB.out)) hb); have n2_ := zA.mk (hbox); have n3_ := zA.mk ((by rw [hg]; exact (zP (by repeat (first | (with_reducible first | exact HB.out | apply zC | apply zB | apply zD | refine zF ?_ GE101.out) | exact HB.out))) : w.heap.size ≤ gb102)); have n4_ := zA.mk ((by rw [hg]; exact (zP (by repeat (first | (with_reducible first | exact HB.out | apply zC | apply zB | apply zD | refine zF ?_ GE101.out) | exact HB.out))) : w.heap.size ≤ gb102)); have n5_ := zA.mk ((by rw [hg]; exact Nat.ne_of_lt (qG (g := gb101) (o := .cells #[.int .i64 a0_0, .int .i64 a0_1, .slice A0_2 l0_2.length c0_2] 37 (0, 0)) (by (with_reducible repeat (first | refine zI ?_ _ | refine zL ?_ | refine zH ?_ _)); exact BK101.out)) : gb101 ≠ gb102)); have n6_ := zA.mk ((by rw [hg]; exact Nat.ne_of_gt (qG (g := gb101) (o := .cells #[.int .i64 a0_0, .int .i64 a0_1, .slice A0_2 l0_2.length c0_2] 37 (0, 0)) (by (with_reducible repeat (first | refine zI ?_ _ | refine zL ?_ | refine zH ?_ _)); exact BK101.out)) : gb102 ≠ gb101)); clear BK101; clear HB; have BK101 := n0_; have HB := n1_; have BK102 := n2_; have GW102 := n3_; have GE102 := n4_; have NB101_102 := n5_; have NB102_101 := n6_; clear n0_ n1_ n2_ n3_ n4_ n5_ n6_; clear hb hbox hg; have hnb14 := NB101_102.out; have hnc14 := NB102_101.out; have hcz15_0 : w13.cell? ⟨gb101, 0, none⟩ = some (.int .i64 a0_0) := (zK BK101.out 0).trans rfl; have hcz15_1 : w13.cell? ⟨gb101, 1, none⟩ = some (.int .i64 a0_1) := (zK BK101.out 1).trans rfl; have hcz15_2 : w13.cell? ⟨gb101, 2, none⟩ = some (.slice A0_2 l0_2.length c0_2) := (zK BK101.out 2).trans rfl; have hfz15_0 := zG BK101.out 0; have hfz15_1 := zG BK101.out 1; have hfz15_2 := zG BK101.out 2; have hcz16_0 : w13.cell? ⟨gb102, 0, none⟩ = some (.int .i64 a1_0) := (zK BK102.out 0).trans rfl; have hcz16_1 : w13.cell? ⟨gb102, 1, none⟩ = some (.int .i64 a1_1) := (zK BK102.out 1).trans rfl; have hcz16_2 : w13.cell? ⟨gb102, 2, none⟩ = some (.slice A1_2 l1_2.length c1_2) := (zK BK102.out 2).trans rfl; have hfz16_0 := zG BK102.out 0; have hfz16_1 := zG BK102.out 1; have hfz16_2 := zG BK102.out 2) | ((with_reducible refine zX (f := 21) rfl ?_); refine qI (some 19) rfl rfl Try.func21 (by kernel_rfl) rfl #[.slice A0_2 l0_2.length c0_2, .slice A1_2 l1_2.length c1_2] rfl (by (try simp only [yiy, yjy, yky]); first | done | rfl | (simp only [yly, ymy]; rfl)) ?_; (with_reducible refine (qU.calls k _ _ l0_2 _ _ l1_2 false _ ?side1 ?side2 ?side3 ?side4 A5.out).mono ?_); (case side1 => repeat (first | exact (Kd.qD HR0_2.out HB.out) | (with_reducible refine Kd.qA ?_ _) | (with_reducible refine Kd.qB ?_ _) | (with_reducible refine Kd.qP ?_))); (case side2 => exact HC0_2.out); (case side3 => repeat (first | exact (Kd.qD HR1_2.out HB.out) | (with_reducible refine Kd.qA ?_ _) | (with_reducible refine Kd.qB ?_ _) | (with_reducible refine Kd.qP ?_))); (case side4 => exact HC1_2.out); rintro e w' ⟨rfl, ⟨nd, rfl⟩⟩; refine ⟨_, rfl, ?_⟩))
    go_ret
    exact ⟨by first | rfl | (simp [zS, zT] <;> rfl) | (simp [*, zS, zT] <;> rfl), by repeat (first | (with_reducible first | exact HB.out | apply zC | apply zB | apply zD | refine zF ?_ GE101.out | refine zF ?_ GE102.out) | exact HB.out)⟩
  next =>
   rw [if_neg c4] at H
   have c4b0 : (a0_1 == a1_1) = false := beq_eq_false_iff_ne.mpr c4
   have c4b1 : (a0_1 != a1_1) = true := bne_iff_ne.mpr c4
   obtain rfl := yey H
   go_enter Try.func24, Try.ntmps24
   go_wp2_with (first | ((with_reducible refine ze (N := 2) rfl ?_); refine zc ?hg (N := 2) ?hd (cs := #[.int .i64 a0_0, .int .i64 a0_1, .slice A0_2 l0_2.length c0_2]) (t := 37) ?hr ?_; (case hd => rfl); (case hg => rfl); (case hr => first | (go_simp; done) | (go_simp; rfl)); intro gb101 hg w17 hbox hb; have n0_ := zA.mk (zN (by repeat (first | (with_reducible first | exact HB.out | apply zC | apply zB | apply zD) | exact HB.out)) hb); have n1_ := zA.mk (hbox); have n2_ := zA.mk ((by rw [hg]; exact (zP (by repeat (first | (with_reducible first | exact HB.out | apply zC | apply zB | apply zD) | exact HB.out))) : w.heap.size ≤ gb101)); have n3_ := zA.mk ((by rw [hg]; exact (zP (by repeat (first | (with_reducible first | exact HB.out | apply zC | apply zB | apply zD) | exact HB.out))) : w.heap.size ≤ gb101)); clear HB; have HB := n0_; have BK101 := n1_; have GW101 := n2_; have GE101 := n3_; clear n0_ n1_ n2_ n3_; clear hb hbox hg) | ((with_reducible refine ze (N := 3) rfl ?_); refine zc ?hg (N := 3) ?hd (cs := #[.int .i64 a1_0, .int .i64 a1_1, .slice A1_2 l1_2.length c1_2]) (t := 37) ?hr ?_; (case hd => rfl); (case hg => rfl); (case hr => first | (go_simp; done) | (go_simp; rfl)); intro gb102 hg w18 hbox hb; have n0_ := zA.mk (zO (g := gb101) (o := .cells #[.int .i64 a0_0, .int .i64 a0_1, .slice A0_2 l0_2.length c0_2] 37 (0, 0)) (by (with_reducible repeat (first | refine zI ?_ _ | refine zL ?_ | refine zH ?_ _)); exact BK101.out) hb); have n1_ := zA.mk (zN (by repeat (first | (with_reducible first | exact HB.out | apply zC | apply zB | apply zD | refine zF ?_ GE101.out) | exact HB.out)) hb); have n2_ := zA.mk (hbox); have n3_ := zA.mk ((by rw [hg]; exact (zP (by repeat (first | (with_reducible first | exact HB.out | apply zC | apply zB | apply zD | refine zF ?_ GE101.out) | exact HB.out))) : w.heap.size ≤ gb102)); have n4_ := zA.mk ((by rw [hg]; exact (zP (by repeat (first | (with_reducible first | exact HB.out | apply zC | apply zB | apply zD | refine zF ?_ GE101.out) | exact HB.out))) : w.heap.size ≤ gb102)); have n5_ := zA.mk ((by rw [hg]; exact Nat.ne_of_lt (qG (g := gb101) (o := .cells #[.int .i64 a0_0, .int .i64 a0_1, .slice A0_2 l0_2.length c0_2] 37 (0, 0)) (by (with_reducible repeat (first | refine zI ?_ _ | refine zL ?_ | refine zH ?_ _)); exact BK101.out)) : gb101 ≠ gb102)); have n6_ := zA.mk ((by rw [hg]; exact Nat.ne_of_gt (qG (g := gb101) (o := .cells #[.int .i64 a0_0, .int .i64 a0_1, .slice A0_2 l0_2.length c0_2] 37 (0, 0)) (by (with_reducible repeat (first | refine zI ?_ _ | refine zL ?_ | refine zH ?_ _)); exact BK101.out)) : gb102 ≠ gb101)); clear BK101; clear HB; have BK101 := n0_; have HB := n1_; have BK102 := n2_; have GW102 := n3_; have GE102 := n4_; have NB101_102 := n5_; have NB102_101 := n6_; clear n0_ n1_ n2_ n3_ n4_ n5_ n6_; clear hb hbox hg; have hnb19 := NB101_102.out; have hnc19 := NB102_101.out; have hcz20_0 : w18.cell? ⟨gb101, 0, none⟩ = some (.int .i64 a0_0) := (zK BK101.out 0).trans rfl; have hcz20_1 : w18.cell? ⟨gb101, 1, none⟩ = some (.int .i64 a0_1) := (zK BK101.out 1).trans rfl; have hcz20_2 : w18.cell? ⟨gb101, 2, none⟩ = some (.slice A0_2 l0_2.length c0_2) := (zK BK101.out 2).trans rfl; have hfz20_0 := zG BK101.out 0; have hfz20_1 := zG BK101.out 1; have hfz20_2 := zG BK101.out 2; have hcz21_0 : w18.cell? ⟨gb102, 0, none⟩ = some (.int .i64 a1_0) := (zK BK102.out 0).trans rfl; have hcz21_1 : w18.cell? ⟨gb102, 1, none⟩ = some (.int .i64 a1_1) := (zK BK102.out 1).trans rfl; have hcz21_2 : w18.cell? ⟨gb102, 2, none⟩ = some (.slice A1_2 l1_2.length c1_2) := (zK BK102.out 2).trans rfl; have hfz21_0 := zG BK102.out 0; have hfz21_1 := zG BK102.out 1; have hfz21_2 := zG BK102.out 2))
   go_ret
   exact ⟨by first | rfl | (simp [zS, zT] <;> rfl) | (simp [*, zS, zT] <;> rfl), by repeat (first | (with_reducible first | exact HB.out | apply zC | apply zB | apply zD | refine zF ?_ GE101.out | refine zF ?_ GE102.out) | exact HB.out)⟩
 next =>
  rw [if_neg c3] at H
  have c3b0 : (a0_0 == a1_0) = false := beq_eq_false_iff_ne.mpr c3
  have c3b1 : (a0_0 != a1_0) = true := bne_iff_ne.mpr c3
  obtain rfl := yey H
  go_enter Try.func24, Try.ntmps24
  go_wp2_with (first | ((with_reducible refine ze (N := 2) rfl ?_); refine zc ?hg (N := 2) ?hd (cs := #[.int .i64 a0_0, .int .i64 a0_1, .slice A0_2 l0_2.length c0_2]) (t := 37) ?hr ?_; (case hd => rfl); (case hg => rfl); (case hr => first | (go_simp; done) | (go_simp; rfl)); intro gb101 hg w22 hbox hb; have n0_ := zA.mk (zN (by repeat (first | (with_reducible first | exact HB.out | apply zC | apply zB | apply zD) | exact HB.out)) hb); have n1_ := zA.mk (hbox); have n2_ := zA.mk ((by rw [hg]; exact (zP (by repeat (first | (with_reducible first | exact HB.out | apply zC | apply zB | apply zD) | exact HB.out))) : w.heap.size ≤ gb101)); have n3_ := zA.mk ((by rw [hg]; exact (zP (by repeat (first | (with_reducible first | exact HB.out | apply zC | apply zB | apply zD) | exact HB.out))) : w.heap.size ≤ gb101)); clear HB; have HB := n0_; have BK101 := n1_; have GW101 := n2_; have GE101 := n3_; clear n0_ n1_ n2_ n3_; clear hb hbox hg) | ((with_reducible refine ze (N := 3) rfl ?_); refine zc ?hg (N := 3) ?hd (cs := #[.int .i64 a1_0, .int .i64 a1_1, .slice A1_2 l1_2.length c1_2]) (t := 37) ?hr ?_; (case hd => rfl); (case hg => rfl); (case hr => first | (go_simp; done) | (go_simp; rfl)); intro gb102 hg w23 hbox hb; have n0_ := zA.mk (zO (g := gb101) (o := .cells #[.int .i64 a0_0, .int .i64 a0_1, .slice A0_2 l0_2.length c0_2] 37 (0, 0)) (by (with_reducible repeat (first | refine zI ?_ _ | refine zL ?_ | refine zH ?_ _)); exact BK101.out) hb); have n1_ := zA.mk (zN (by repeat (first | (with_reducible first | exact HB.out | apply zC | apply zB | apply zD | refine zF ?_ GE101.out) | exact HB.out)) hb); have n2_ := zA.mk (hbox); have n3_ := zA.mk ((by rw [hg]; exact (zP (by repeat (first | (with_reducible first | exact HB.out | apply zC | apply zB | apply zD | refine zF ?_ GE101.out) | exact HB.out))) : w.heap.size ≤ gb102)); have n4_ := zA.mk ((by rw [hg]; exact (zP (by repeat (first | (with_reducible first | exact HB.out | apply zC | apply zB | apply zD | refine zF ?_ GE101.out) | exact HB.out))) : w.heap.size ≤ gb102)); have n5_ := zA.mk ((by rw [hg]; exact Nat.ne_of_lt (qG (g := gb101) (o := .cells #[.int .i64 a0_0, .int .i64 a0_1, .slice A0_2 l0_2.length c0_2] 37 (0, 0)) (by (with_reducible repeat (first | refine zI ?_ _ | refine zL ?_ | refine zH ?_ _)); exact BK101.out)) : gb101 ≠ gb102)); have n6_ := zA.mk ((by rw [hg]; exact Nat.ne_of_gt (qG (g := gb101) (o := .cells #[.int .i64 a0_0, .int .i64 a0_1, .slice A0_2 l0_2.length c0_2] 37 (0, 0)) (by (with_reducible repeat (first | refine zI ?_ _ | refine zL ?_ | refine zH ?_ _)); exact BK101.out)) : gb102 ≠ gb101)); clear BK101; clear HB; have BK101 := n0_; have HB := n1_; have BK102 := n2_; have GW102 := n3_; have GE102 := n4_; have NB101_102 := n5_; have NB102_101 := n6_; clear n0_ n1_ n2_ n3_ n4_ n5_ n6_; clear hb hbox hg; have hnb24 := NB101_102.out; have hnc24 := NB102_101.out; have hcz25_0 : w23.cell? ⟨gb101, 0, none⟩ = some (.int .i64 a0_0) := (zK BK101.out 0).trans rfl; have hcz25_1 : w23.cell? ⟨gb101, 1, none⟩ = some (.int .i64 a0_1) := (zK BK101.out 1).trans rfl; have hcz25_2 : w23.cell? ⟨gb101, 2, none⟩ = some (.slice A0_2 l0_2.length c0_2) := (zK BK101.out 2).trans rfl; have hfz25_0 := zG BK101.out 0; have hfz25_1 := zG BK101.out 1; have hfz25_2 := zG BK101.out 2; have hcz26_0 : w23.cell? ⟨gb102, 0, none⟩ = some (.int .i64 a1_0) := (zK BK102.out 0).trans rfl; have hcz26_1 : w23.cell? ⟨gb102, 1, none⟩ = some (.int .i64 a1_1) := (zK BK102.out 1).trans rfl; have hcz26_2 : w23.cell? ⟨gb102, 2, none⟩ = some (.slice A1_2 l1_2.length c1_2) := (zK BK102.out 2).trans rfl; have hfz26_0 := zG BK102.out 0; have hfz26_1 := zG BK102.out 1; have hfz26_2 := zG BK102.out 2))
  go_ret
  exact ⟨by first | rfl | (simp [zS, zT] <;> rfl) | (simp [*, zS, zT] <;> rfl), by repeat (first | (with_reducible first | exact HB.out | apply zC | apply zB | apply zD | refine zF ?_ GE101.out | refine zF ?_ GE102.out) | exact HB.out)⟩
def Zy.f (a0_0 : Int) (a0_1 : Int) (a1_0 : Int) (a1_1 : Int) : Option (Bool) := if a0_0 = a1_0 then (if a0_1 = a1_1 then (some true) else (some false)) else (some false)
set_option maxHeartbeats 8000000 in
set_option maxRecDepth 100000 in
theorem Zy.calls (a0_0 : Int) (a0_1 : Int) (a1_0 : Int) (a1_1 : Int) (r : Bool) (w : World) (h : Zy.f a0_0 a0_1 a1_0 a1_1 = some r) :
    Calls Try.prog 147 #[.agg #[.int .i64 a0_0, .int .i64 a0_1], .agg #[.int .i64 a1_0, .int .i64 a1_1]] w fun e w' => e = .returned (.bool r) ∧ Below w.heap.size w w' := by
  have hu115 := Try.underlying115
  have HB := zA.mk (ypy w.heap.size w)
  have H : (if a0_0 = a1_0 then (if a0_1 = a1_1 then (some true) else (some false)) else (some false)) = some r := h
  clear h
  by_cases c3 : a0_0 = a1_0
  · rw [if_pos c3] at H
    have c3b0 : (a0_0 == a1_0) = true := beq_iff_eq.mpr c3
    have c3b1 : (a0_0 != a1_0) = false := bne_eq_false_iff_eq.mpr c3
    clear c3
    by_cases c4 : a0_1 = a1_1
    · rw [if_pos c4] at H
      have c4b0 : (a0_1 == a1_1) = true := beq_iff_eq.mpr c4
      have c4b1 : (a0_1 != a1_1) = false := bne_eq_false_iff_eq.mpr c4
      clear c4
      obtain rfl := yey H
      go_enter Try.func147, Try.ntmps147
      go_wp2_with (first | ((with_reducible refine ze (N := 2) rfl ?_); refine zc ?hg (N := 2) ?hd (cs := #[.int .i64 a0_0, .int .i64 a0_1]) (t := 115) ?hr ?_; (case hd => rfl); (case hg => rfl); (case hr => first | (go_simp; done) | (go_simp; rfl)); intro gb101 hg w5 hbox hb; have n0_ := zA.mk (zN (by repeat (first | (with_reducible first | exact HB.out | apply zC | apply zB | apply zD) | exact HB.out)) hb); have n1_ := zA.mk (hbox); have n2_ := zA.mk ((by rw [hg]; exact (zP (by repeat (first | (with_reducible first | exact HB.out | apply zC | apply zB | apply zD) | exact HB.out))) : w.heap.size ≤ gb101)); have n3_ := zA.mk ((by rw [hg]; exact (zP (by repeat (first | (with_reducible first | exact HB.out | apply zC | apply zB | apply zD) | exact HB.out))) : w.heap.size ≤ gb101)); clear HB; have HB := n0_; have BK101 := n1_; have GW101 := n2_; have GE101 := n3_; clear n0_ n1_ n2_ n3_; clear hb hbox hg) | ((with_reducible refine ze (N := 3) rfl ?_); refine zc ?hg (N := 3) ?hd (cs := #[.int .i64 a1_0, .int .i64 a1_1]) (t := 115) ?hr ?_; (case hd => rfl); (case hg => rfl); (case hr => first | (go_simp; done) | (go_simp; rfl)); intro gb102 hg w6 hbox hb; have n0_ := zA.mk (zO (g := gb101) (o := .cells #[.int .i64 a0_0, .int .i64 a0_1] 115 (0, 0)) (by (with_reducible repeat (first | refine zI ?_ _ | refine zL ?_ | refine zH ?_ _)); exact BK101.out) hb); have n1_ := zA.mk (zN (by repeat (first | (with_reducible first | exact HB.out | apply zC | apply zB | apply zD | refine zF ?_ GE101.out) | exact HB.out)) hb); have n2_ := zA.mk (hbox); have n3_ := zA.mk ((by rw [hg]; exact (zP (by repeat (first | (with_reducible first | exact HB.out | apply zC | apply zB | apply zD | refine zF ?_ GE101.out) | exact HB.out))) : w.heap.size ≤ gb102)); have n4_ := zA.mk ((by rw [hg]; exact (zP (by repeat (first | (with_reducible first | exact HB.out | apply zC | apply zB | apply zD | refine zF ?_ GE101.out) | exact HB.out))) : w.heap.size ≤ gb102)); have n5_ := zA.mk ((by rw [hg]; exact Nat.ne_of_lt (qG (g := gb101) (o := .cells #[.int .i64 a0_0, .int .i64 a0_1] 115 (0, 0)) (by (with_reducible repeat (first | refine zI ?_ _ | refine zL ?_ | refine zH ?_ _)); exact BK101.out)) : gb101 ≠ gb102)); have n6_ := zA.mk ((by rw [hg]; exact Nat.ne_of_gt (qG (g := gb101) (o := .cells #[.int .i64 a0_0, .int .i64 a0_1] 115 (0, 0)) (by (with_reducible repeat (first | refine zI ?_ _ | refine zL ?_ | refine zH ?_ _)); exact BK101.out)) : gb102 ≠ gb101)); clear BK101; clear HB; have BK101 := n0_; have HB := n1_; have BK102 := n2_; have GW102 := n3_; have GE102 := n4_; have NB101_102 := n5_; have NB102_101 := n6_; clear n0_ n1_ n2_ n3_ n4_ n5_ n6_; clear hb hbox hg; have hnb7 := NB101_102.out; have hnc7 := NB102_101.out; have hcz8_0 : w6.cell? ⟨gb101, 0, none⟩ = some (.int .i64 a0_0) := (zK BK101.out 0).trans rfl; have hcz8_1 : w6.cell? ⟨gb101, 1, none⟩ = some (.int .i64 a0_1) := (zK BK101.out 1).trans rfl; have hfz8_0 := zG BK101.out 0; have hfz8_1 := zG BK101.out 1; have hcz9_0 : w6.cell? ⟨gb102, 0, none⟩ = some (.int .i64 a1_0) := (zK BK102.out 0).trans rfl; have hcz9_1 : w6.cell? ⟨gb102, 1, none⟩ = some (.int .i64 a1_1) := (zK BK102.out 1).trans rfl; have hfz9_0 := zG BK102.out 0; have hfz9_1 := zG BK102.out 1))
      go_ret
      exact ⟨by first | rfl | (simp [zS, zT] <;> rfl) | (simp [*, zS, zT] <;> rfl), by repeat (first | (with_reducible first | exact HB.out | apply zC | apply zB | apply zD | refine zF ?_ GE101.out | refine zF ?_ GE102.out) | exact HB.out)⟩
    · rw [if_neg c4] at H
      have c4b0 : (a0_1 == a1_1) = false := beq_eq_false_iff_ne.mpr c4
      have c4b1 : (a0_1 != a1_1) = true := bne_iff_ne.mpr c4
      obtain rfl := yey H
      go_enter Try.func147, Try.ntmps147
      go_wp2_with (first | ((with_reducible refine ze (N := 2) rfl ?_); refine zc ?hg (N := 2) ?hd (cs := #[.int .i64 a0_0, .int .i64 a0_1]) (t := 115) ?hr ?_; (case hd => rfl); (case hg => rfl); (case hr => first | (go_simp; done) | (go_simp; rfl)); intro gb101 hg w10 hbox hb; have n0_ := zA.mk (zN (by repeat (first | (with_reducible first | exact HB.out | apply zC | apply zB | apply zD) | exact HB.out)) hb); have n1_ := zA.mk (hbox); have n2_ := zA.mk ((by rw [hg]; exact (zP (by repeat (first | (with_reducible first | exact HB.out | apply zC | apply zB | apply zD) | exact HB.out))) : w.heap.size ≤ gb101)); have n3_ := zA.mk ((by rw [hg]; exact (zP (by repeat (first | (with_reducible first | exact HB.out | apply zC | apply zB | apply zD) | exact HB.out))) : w.heap.size ≤ gb101)); clear HB; have HB := n0_; have BK101 := n1_; have GW101 := n2_; have GE101 := n3_; clear n0_ n1_ n2_ n3_; clear hb hbox hg) | ((with_reducible refine ze (N := 3) rfl ?_); refine zc ?hg (N := 3) ?hd (cs := #[.int .i64 a1_0, .int .i64 a1_1]) (t := 115) ?hr ?_; (case hd => rfl); (case hg => rfl); (case hr => first | (go_simp; done) | (go_simp; rfl)); intro gb102 hg w11 hbox hb; have n0_ := zA.mk (zO (g := gb101) (o := .cells #[.int .i64 a0_0, .int .i64 a0_1] 115 (0, 0)) (by (with_reducible repeat (first | refine zI ?_ _ | refine zL ?_ | refine zH ?_ _)); exact BK101.out) hb); have n1_ := zA.mk (zN (by repeat (first | (with_reducible first | exact HB.out | apply zC | apply zB | apply zD | refine zF ?_ GE101.out) | exact HB.out)) hb); have n2_ := zA.mk (hbox); have n3_ := zA.mk ((by rw [hg]; exact (zP (by repeat (first | (with_reducible first | exact HB.out | apply zC | apply zB | apply zD | refine zF ?_ GE101.out) | exact HB.out))) : w.heap.size ≤ gb102)); have n4_ := zA.mk ((by rw [hg]; exact (zP (by repeat (first | (with_reducible first | exact HB.out | apply zC | apply zB | apply zD | refine zF ?_ GE101.out) | exact HB.out))) : w.heap.size ≤ gb102)); have n5_ := zA.mk ((by rw [hg]; exact Nat.ne_of_lt (qG (g := gb101) (o := .cells #[.int .i64 a0_0, .int .i64 a0_1] 115 (0, 0)) (by (with_reducible repeat (first | refine zI ?_ _ | refine zL ?_ | refine zH ?_ _)); exact BK101.out)) : gb101 ≠ gb102)); have n6_ := zA.mk ((by rw [hg]; exact Nat.ne_of_gt (qG (g := gb101) (o := .cells #[.int .i64 a0_0, .int .i64 a0_1] 115 (0, 0)) (by (with_reducible repeat (first | refine zI ?_ _ | refine zL ?_ | refine zH ?_ _)); exact BK101.out)) : gb102 ≠ gb101)); clear BK101; clear HB; have BK101 := n0_; have HB := n1_; have BK102 := n2_; have GW102 := n3_; have GE102 := n4_; have NB101_102 := n5_; have NB102_101 := n6_; clear n0_ n1_ n2_ n3_ n4_ n5_ n6_; clear hb hbox hg; have hnb12 := NB101_102.out; have hnc12 := NB102_101.out; have hcz13_0 : w11.cell? ⟨gb101, 0, none⟩ = some (.int .i64 a0_0) := (zK BK101.out 0).trans rfl; have hcz13_1 : w11.cell? ⟨gb101, 1, none⟩ = some (.int .i64 a0_1) := (zK BK101.out 1).trans rfl; have hfz13_0 := zG BK101.out 0; have hfz13_1 := zG BK101.out 1; have hcz14_0 : w11.cell? ⟨gb102, 0, none⟩ = some (.int .i64 a1_0) := (zK BK102.out 0).trans rfl; have hcz14_1 : w11.cell? ⟨gb102, 1, none⟩ = some (.int .i64 a1_1) := (zK BK102.out 1).trans rfl; have hfz14_0 := zG BK102.out 0; have hfz14_1 := zG BK102.out 1))
      go_ret
      exact ⟨by first | rfl | (simp [zS, zT] <;> rfl) | (simp [*, zS, zT] <;> rfl), by repeat (first | (with_reducible first | exact HB.out | apply zC | apply zB | apply zD | refine zF ?_ GE101.out | refine zF ?_ GE102.out) | exact HB.out)⟩
  · rw [if_neg c3] at H
    have c3b0 : (a0_0 == a1_0) = false := beq_eq_false_iff_ne.mpr c3
    have c3b1 : (a0_0 != a1_0) = true := bne_iff_ne.mpr c3
    obtain rfl := yey H
    go_enter Try.func147, Try.ntmps147
    go_wp2_with (first | ((with_reducible refine ze (N := 2) rfl ?_); refine zc ?hg (N := 2) ?hd (cs := #[.int .i64 a0_0, .int .i64 a0_1]) (t := 115) ?hr ?_; (case hd => rfl); (case hg => rfl); (case hr => first | (go_simp; done) | (go_simp; rfl)); intro gb101 hg w15 hbox hb; have n0_ := zA.mk (zN (by repeat (first | (with_reducible first | exact HB.out | apply zC | apply zB | apply zD) | exact HB.out)) hb); have n1_ := zA.mk (hbox); have n2_ := zA.mk ((by rw [hg]; exact (zP (by repeat (first | (with_reducible first | exact HB.out | apply zC | apply zB | apply zD) | exact HB.out))) : w.heap.size ≤ gb101)); have n3_ := zA.mk ((by rw [hg]; exact (zP (by repeat (first | (with_reducible first | exact HB.out | apply zC | apply zB | apply zD) | exact HB.out))) : w.heap.size ≤ gb101)); clear HB; have HB := n0_; have BK101 := n1_; have GW101 := n2_; have GE101 := n3_; clear n0_ n1_ n2_ n3_; clear hb hbox hg) | ((with_reducible refine ze (N := 3) rfl ?_); refine zc ?hg (N := 3) ?hd (cs := #[.int .i64 a1_0, .int .i64 a1_1]) (t := 115) ?hr ?_; (case hd => rfl); (case hg => rfl); (case hr => first | (go_simp; done) | (go_simp; rfl)); intro gb102 hg w16 hbox hb; have n0_ := zA.mk (zO (g := gb101) (o := .cells #[.int .i64 a0_0, .int .i64 a0_1] 115 (0, 0)) (by (with_reducible repeat (first | refine zI ?_ _ | refine zL ?_ | refine zH ?_ _)); exact BK101.out) hb); have n1_ := zA.mk (zN (by repeat (first | (with_reducible first | exact HB.out | apply zC | apply zB | apply zD | refine zF ?_ GE101.out) | exact HB.out)) hb); have n2_ := zA.mk (hbox); have n3_ := zA.mk ((by rw [hg]; exact (zP (by repeat (first | (with_reducible first | exact HB.out | apply zC | apply zB | apply zD | refine zF ?_ GE101.out) | exact HB.out))) : w.heap.size ≤ gb102)); have n4_ := zA.mk ((by rw [hg]; exact (zP (by repeat (first | (with_reducible first | exact HB.out | apply zC | apply zB | apply zD | refine zF ?_ GE101.out) | exact HB.out))) : w.heap.size ≤ gb102)); have n5_ := zA.mk ((by rw [hg]; exact Nat.ne_of_lt (qG (g := gb101) (o := .cells #[.int .i64 a0_0, .int .i64 a0_1] 115 (0, 0)) (by (with_reducible repeat (first | refine zI ?_ _ | refine zL ?_ | refine zH ?_ _)); exact BK101.out)) : gb101 ≠ gb102)); have n6_ := zA.mk ((by rw [hg]; exact Nat.ne_of_gt (qG (g := gb101) (o := .cells #[.int .i64 a0_0, .int .i64 a0_1] 115 (0, 0)) (by (with_reducible repeat (first | refine zI ?_ _ | refine zL ?_ | refine zH ?_ _)); exact BK101.out)) : gb102 ≠ gb101)); clear BK101; clear HB; have BK101 := n0_; have HB := n1_; have BK102 := n2_; have GW102 := n3_; have GE102 := n4_; have NB101_102 := n5_; have NB102_101 := n6_; clear n0_ n1_ n2_ n3_ n4_ n5_ n6_; clear hb hbox hg; have hnb17 := NB101_102.out; have hnc17 := NB102_101.out; have hcz18_0 : w16.cell? ⟨gb101, 0, none⟩ = some (.int .i64 a0_0) := (zK BK101.out 0).trans rfl; have hcz18_1 : w16.cell? ⟨gb101, 1, none⟩ = some (.int .i64 a0_1) := (zK BK101.out 1).trans rfl; have hfz18_0 := zG BK101.out 0; have hfz18_1 := zG BK101.out 1; have hcz19_0 : w16.cell? ⟨gb102, 0, none⟩ = some (.int .i64 a1_0) := (zK BK102.out 0).trans rfl; have hcz19_1 : w16.cell? ⟨gb102, 1, none⟩ = some (.int .i64 a1_1) := (zK BK102.out 1).trans rfl; have hfz19_0 := zG BK102.out 0; have hfz19_1 := zG BK102.out 1))
    go_ret
    exact ⟨by first | rfl | (simp [zS, zT] <;> rfl) | (simp [*, zS, zT] <;> rfl), by repeat (first | (with_reducible first | exact HB.out | apply zC | apply zB | apply zD | refine zF ?_ GE101.out | refine zF ?_ GE102.out) | exact HB.out)⟩
def zx.l0 : Nat → List (zo) → List (zo) → Int → Option (Bool)
 | 0, _, _, _ => none
 | k + 1, x0, x1, x5 => if x5 < (x0.length : Int) then (if 0 ≤ x5 then (if x5 < (x1.length : Int) then ((Zy.f ((zJ x0 x5).f0) ((zJ x0 x5).f1) ((zJ x1 x5).f0) ((zJ x1 x5).f1)).bind fun t103 => (if t103 = true then (zx.l0 k x0 x1 (wrap64 (x5 + 1))) else (some false))) else (none)) else (none)) else (some true)
def zx.f (k : Nat) (l0 : List (zo)) (l1 : List (zo)) : Option (Bool) := if (l0.length : Int) = (l1.length : Int) then (zx.l0 k l0 l1 0) else (some false)
def zx.T6 : Bool × List (List Nat × List Nat) := (true, [([], []), ([], []), ([0, 1], [0, 1]), ([2], [2]), ([], []), ([], []), ([4, 5], [4, 5]), ([6], [6]), ([3, 7], [3, 7]), ([8], [8])])
def zx.B6 : List Nat := [0, 0, 3, 7, 0, 0, 48, 112, 255, 511]
theorem zx.tab6 : Jg .any (opsOf Try.f110 6) = zx.T6 := by kernel_rfl
theorem zx.zDK : QK zx.T6.2 zx.B6 = true := by kernel_rfl
set_option maxHeartbeats 8000000 in
set_option maxRecDepth 100000 in
theorem zx.calls (k : Nat) (A0 : Option Addr) (c0 : Nat) (l0 : List (zo)) (A1 : Option Addr) (c1 : Nat) (l1 : List (zo)) (r : Bool) (w : World) (hr0 : Kd.C qh w A0 l0.length l0) (hc0 : l0.length ≤ c0) (hr1 : Kd.C qh w A1 l1.length l1) (hc1 : l1.length ≤ c1) (h : zx.f k l0 l1 = some r) :
 Calls Try.prog 110 #[.slice A0 l0.length c0, .slice A1 l1.length c1] w fun e w' => e = .returned (.bool r) ∧ Below w.heap.size w w' := by
 have hu115 := Try.underlying115
 have HR0 := zA.mk hr0
 have HC0 := zA.mk hc0
 clear hr0 hc0
 have HR1 := zA.mk hr1
 have HC1 := zA.mk hc1
 clear hr1 hc1
 have HB := zA.mk (ypy w.heap.size w)
 have H : (if (l0.length : Int) = (l1.length : Int) then (zx.l0 k l0 l1 0) else (some false)) = some r := h
 clear h
 by_cases c3 : (l0.length : Int) = (l1.length : Int)
 next =>
  rw [if_pos c3] at H
  have c3b0 : ((l0.length : Int) == (l1.length : Int)) = true := beq_iff_eq.mpr c3
  have c3b1 : ((l0.length : Int) != (l1.length : Int)) = false := bne_eq_false_iff_eq.mpr c3
  have c3b2 : (l0.length == l1.length) = true := by first | simpa using c3 | (simp at c3 ⊢; omega)
  clear c3
  have H' := zA.mk H
  clear H
  go_enter Try.func110, Try.ntmps110
  go_wp2
  go_loopg [5] k (fun kq v5 w' => ∃ (x5_1 : Int), v5 = .int .i64 x5_1 ∧ zA (zx.l0 kq l0 l1 x5_1 = some r) ∧ zA (kq ≤ k) ∧ zA (Below w.heap.size w w'))
  case atStart => exact ⟨(0), (by first | rfl | (simp; done) | (simp [*]; done)), H', ⟨yoy _⟩, ⟨by repeat (first | (with_reducible first | exact HB.out | apply zC | apply zB | apply zD) | exact HB.out)⟩⟩
  case round =>
   clear H'
   try clear c1
   try clear p2
   try clear c3
   try clear c3b0
   try clear c3b1
   try clear c3b2
   obtain ⟨x5_1, rfl, HA, HK1, HB⟩ := hrel
   cases gk with
   | zero => exact absurd HA.out (by simp [zx.l0])
   | succ k1 =>
    have H := HA.out
    clear HA
    simp only [zx.l0] at H
    by_cases c4 : x5_1 < (l0.length : Int)
    next =>
     rw [if_pos c4] at H
     have c4b0 : decide (x5_1 < (l0.length : Int)) = true := ygy c4
     clear c4
     by_cases c5 : 0 ≤ x5_1
     next =>
      rw [if_pos c5] at H
      have c5b0 : decide (0 ≤ x5_1) = true := ygy c5
      clear c5
      by_cases c6 : x5_1 < (l1.length : Int)
      next =>
       rw [if_pos c6] at H
       have c6b0 : decide (x5_1 < (l1.length : Int)) = true := ygy c6
       clear c6
       replace H := ydy.mp H
       obtain ⟨t103, A70, H⟩ := H
       replace H : (if t103 = true then (zx.l0 k1 l0 l1 (wrap64 (x5_1 + 1))) else (some false)) = some r := H
       have A7 := zA.mk A70
       clear A70
       by_cases c8 : t103 = true
       next =>
        subst c8
        have H1 : (zx.l0 k1 l0 l1 (wrap64 (x5_1 + 1))) = some r := by rw [if_pos rfl] at H; exact H
        clear H
        have H := H1
        clear H1
        have H' := zA.mk H
        clear H
        try go_wp2
        have n0_ := zA.mk (zD HB.out)
        clear HB
        have HB := n0_
        clear n0_
        have p101 : 0 ≤ (x5_1 : Int) := of_decide_eq_true (by first | (with_reducible assumption) | assumption)
        have q101 : x5_1 < (l0.length : Int) := of_decide_eq_true (by first | (with_reducible assumption) | assumption)
        obtain ⟨ad101, e101, hx101_0, hx101_1⟩ := ZT HR0.out x5_1 p101 q101
        have hw101_1 := hx101_1
        have hw101_0 := hx101_0
        cases e101
        replace hx101_0 := (HB.out.cell (yny w _ hx101_0)).trans hx101_0
        replace hx101_1 := (HB.out.cell (yny w _ hx101_1)).trans hx101_1
        replace p101 := eq_true p101
        replace q101 := eq_true q101
        have p102 : 0 ≤ (x5_1 : Int) := of_decide_eq_true (by first | (with_reducible assumption) | assumption)
        have q102 : x5_1 < (l1.length : Int) := of_decide_eq_true (by first | (with_reducible assumption) | assumption)
        obtain ⟨ad102, e102, hx102_0, hx102_1⟩ := ZT HR1.out x5_1 p102 q102
        have hw102_1 := hx102_1
        have hw102_0 := hx102_0
        cases e102
        replace hx102_0 := (HB.out.cell (yny w _ hx102_0)).trans hx102_0
        replace hx102_1 := (HB.out.cell (yny w _ hx102_1)).trans hx102_1
        replace p102 := eq_true p102
        replace q102 := eq_true q102
        refine Zf (n := 10) (S := fun w' => w'.cell? (ad101.add ((x5_1).toNat * 2)) = some (.int .i64 ((zJ l0 x5_1).f0)) ∧ w'.cell? ⟨(ad101.add ((x5_1).toNat * 2)).block, (ad101.add ((x5_1).toNat * 2)).off + 1, none⟩ = some (.int .i64 ((zJ l0 x5_1).f1)) ∧ w'.cell? (ad102.add ((x5_1).toNat * 2)) = some (.int .i64 ((zJ l1 x5_1).f0)) ∧ w'.cell? ⟨(ad102.add ((x5_1).toNat * 2)).block, (ad102.add ((x5_1).toNat * 2)).off + 1, none⟩ = some (.int .i64 ((zJ l1 x5_1).f1))) (ds := []) #[false, false, false, false, false, false, false, false, false, false] (by kernel_rfl) rfl rfl ⟨((HB.out.cell (yny w _ hw101_0)).trans hw101_0), ((HB.out.cell (yny w _ hw101_1)).trans hw101_1), ((HB.out.cell (yny w _ hw102_0)).trans hw102_0), ((HB.out.cell (yny w _ hw102_1)).trans hw102_1)⟩ (fun hHeld => ?_); refine ZC zx.tab6 zx.zDK (fun HT_ HW_ => ?_)
        generalize wr.drew = w9 at HB hx101_0 hx101_1 hx102_0 hx102_1 hHeld ⊢
        refine za (i := 0) (N := some 17) (v := ?_) (a' := ?_) #[true, false, false, false, false, false, false, false, false, false] rfl rfl (zY HT_.out (by kernel_rfl)) (fun _ _ _ h => h) (Or.inl ⟨by rfl, ?_⟩) ?_ ?_
        rotate_left
        next =>
         intro w'
         go_simp
         with_reducible rfl
        rotate_left
        next =>
         simp only [Act.put, yay, yby, ycy, zV, zW]
         rfl
        refine za (i := 1) (N := some 18) (v := ?_) (a' := ?_) #[true, true, false, false, false, false, false, false, false, false] rfl rfl (zY HT_.out (by kernel_rfl)) (fun _ _ _ h => h) (Or.inl ⟨by rfl, ?_⟩) ?_ ?_
        rotate_left
        next =>
         intro w'
         go_simp
         with_reducible rfl
        rotate_left
        next =>
         simp only [Act.put, yay, yby, ycy, zV, zW]
         rfl
        refine za (i := 2) (N := some 19) (v := ?_) (a' := ?_) #[true, true, true, false, false, false, false, false, false, false] rfl rfl (zY HT_.out (by kernel_rfl)) (fun _ _ _ h => h) (Or.inl ⟨by rfl, ?_⟩) ?_ ?_
        rotate_left
        next =>
         intro w'
         go_simp
         with_reducible rfl
        rotate_left
        next =>
         simp only [Act.put, yay, yby, ycy, zV, zW]
         rfl
        refine za (i := 4) (N := some 21) (v := ?_) (a' := ?_) #[true, true, true, false, true, false, false, false, false, false] rfl rfl (zY HT_.out (by kernel_rfl)) (fun _ _ _ h => h) (Or.inl ⟨by rfl, ?_⟩) ?_ ?_
        rotate_left
        next =>
         intro w'
         go_simp
         with_reducible rfl
        rotate_left
        next =>
         simp only [Act.put, yay, yby, ycy, zV, zW]
         rfl
        refine za (i := 5) (N := some 22) (v := ?_) (a' := ?_) #[true, true, true, false, true, true, false, false, false, false] rfl rfl (zY HT_.out (by kernel_rfl)) (fun _ _ _ h => h) (Or.inl ⟨by rfl, ?_⟩) ?_ ?_
        rotate_left
        next =>
         intro w'
         go_simp
         with_reducible rfl
        rotate_left
        next =>
         simp only [Act.put, yay, yby, ycy, zV, zW]
         rfl
        refine za (i := 6) (N := some 23) (v := ?_) (a' := ?_) #[true, true, true, false, true, true, true, false, false, false] rfl rfl (zY HT_.out (by kernel_rfl)) (fun _ _ _ h => h) (Or.inl ⟨by rfl, ?_⟩) ?_ ?_
        rotate_left
        next =>
         intro w'
         go_simp
         with_reducible rfl
        rotate_left
        next =>
         simp only [Act.put, yay, yby, ycy, zV, zW]
         rfl
        refine qf (i := 3) (N := some 20) (v := ?_) (a' := ?_) #[true, true, true, true, true, true, true, false, false, false] rfl rfl (zy HT_.out HW_.out (by kernel_rfl)) (fun _ _ _ h => h) (Or.inl ⟨by rfl, ?_⟩) hHeld ?_ ?_
        rotate_left
        next =>
         rintro w' ⟨s0, s1, s2, s3⟩
         go_simp
         with_reducible rfl
        rotate_left
        next =>
         simp only [Act.put, yay, yby, ycy, zV, zW]
         rfl
        refine qf (i := 7) (N := some 24) (v := ?_) (a' := ?_) #[true, true, true, true, true, true, true, true, false, false] rfl rfl (zy HT_.out HW_.out (by kernel_rfl)) (fun _ _ _ h => h) (Or.inl ⟨by rfl, ?_⟩) hHeld ?_ ?_
        rotate_left
        next =>
         rintro w' ⟨s0, s1, s2, s3⟩
         go_simp
         with_reducible rfl
        rotate_left
        next =>
         simp only [Act.put, yay, yby, ycy, zV, zW]
         rfl
        refine zA2 (i := 8) (N := some 25) #[true, true, true, true, true, true, true, true, true, false] rfl rfl (Zo HT_.out (by kernel_rfl)) (by decide) (fun K hK => ?_)
        refine Qr Try.func147 (by kernel_rfl) rfl #[.agg #[.int .i64 ((zJ l0 x5_1).f0), .int .i64 ((zJ l0 x5_1).f1)], .agg #[.int .i64 ((zJ l1 x5_1).f0), .int .i64 ((zJ l1 x5_1).f1)]] (by rfl) rfl rfl (by (try simp only [yiy, yjy, yky]); first | done | rfl | (simp only [yly, ymy]; rfl)) ?_
        with_reducible refine (Zy.calls ((zJ l0 x5_1).f0) ((zJ l0 x5_1).f1) ((zJ l1 x5_1).f0) ((zJ l1 x5_1).f1) true _ A7.out).mono ?_
        rintro e w10 ⟨rfl, hb⟩
        refine ⟨_, rfl, ?_⟩
        have n0_ := zA.mk (zN (by repeat (first | (with_reducible first | exact HB.out | apply zC | apply zB | apply zD) | exact HB.out)) hb)
        clear HB
        have HB := n0_
        clear n0_
        (try clear hb)
        (try clear hb2)
        (try clear hk)
        (try clear hi)
        refine hK.out _ _ ⟨((HB.out.cell (yny w _ hw101_0)).trans hw101_0), ((HB.out.cell (yny w _ hw101_1)).trans hw101_1), ((HB.out.cell (yny w _ hw102_0)).trans hw102_0), ((HB.out.cell (yny w _ hw102_1)).trans hw102_1)⟩ (fun hHeld => ?_)
        clear hK K
        refine QH (a' := ?_) ?_ ?_
        rotate_left
        next =>
         show Act.put _ (some 25) _ = _
         simp only [Act.put, yay, yby, ycy, zV, zW]
         rfl
        refine za (i := 9) (N := some 26) (v := ?_) (a' := ?_) #[true, true, true, true, true, true, true, true, true, true] rfl rfl (zY HT_.out (by kernel_rfl)) (fun _ _ _ h => h) (Or.inl ⟨by rfl, ?_⟩) ?_ ?_
        rotate_left
        next =>
         intro w'
         go_simp
         with_reducible rfl
        rotate_left
        next =>
         simp only [Act.put, yay, yby, ycy, zV, zW]
         rfl
        refine QQ (Zg HT_.out (by kernel_rfl)) ?_
        try go_wp2
        go_roundg k1
        case measure => have := HK1.out; omega
        case rel => exact ⟨(wrap64 (x5_1 + 1)), (by first | rfl | (simp; done) | (simp [*]; done)), H', ⟨by have := HK1.out; omega⟩, ⟨by repeat (first | (with_reducible first | exact HB.out | apply zC | apply zB | apply zD) | exact HB.out)⟩⟩
       next =>
        replace c8 := Bool.eq_false_iff.mpr c8
        subst c8
        have H1 : (some false) = some r := by rw [if_neg (show ¬ (false = true) by decide)] at H; exact H
        clear H
        have H := H1
        clear H1
        obtain rfl := yey H
        try go_wp2
        have n0_ := zA.mk (zD HB.out)
        clear HB
        have HB := n0_
        clear n0_
        have p101 : 0 ≤ (x5_1 : Int) := of_decide_eq_true (by first | (with_reducible assumption) | assumption)
        have q101 : x5_1 < (l0.length : Int) := of_decide_eq_true (by first | (with_reducible assumption) | assumption)
        obtain ⟨ad101, e101, hx101_0, hx101_1⟩ := ZT HR0.out x5_1 p101 q101
        have hw101_1 := hx101_1
        have hw101_0 := hx101_0
        cases e101
        replace hx101_0 := (HB.out.cell (yny w _ hx101_0)).trans hx101_0
        replace hx101_1 := (HB.out.cell (yny w _ hx101_1)).trans hx101_1
        replace p101 := eq_true p101
        replace q101 := eq_true q101
        have p102 : 0 ≤ (x5_1 : Int) := of_decide_eq_true (by first | (with_reducible assumption) | assumption)
        have q102 : x5_1 < (l1.length : Int) := of_decide_eq_true (by first | (with_reducible assumption) | assumption)
        obtain ⟨ad102, e102, hx102_0, hx102_1⟩ := ZT HR1.out x5_1 p102 q102
        have hw102_1 := hx102_1
        have hw102_0 := hx102_0
        cases e102
        replace hx102_0 := (HB.out.cell (yny w _ hx102_0)).trans hx102_0
        replace hx102_1 := (HB.out.cell (yny w _ hx102_1)).trans hx102_1
        replace p102 := eq_true p102
        replace q102 := eq_true q102
        refine Zf (n := 10) (S := fun w' => w'.cell? (ad101.add ((x5_1).toNat * 2)) = some (.int .i64 ((zJ l0 x5_1).f0)) ∧ w'.cell? ⟨(ad101.add ((x5_1).toNat * 2)).block, (ad101.add ((x5_1).toNat * 2)).off + 1, none⟩ = some (.int .i64 ((zJ l0 x5_1).f1)) ∧ w'.cell? (ad102.add ((x5_1).toNat * 2)) = some (.int .i64 ((zJ l1 x5_1).f0)) ∧ w'.cell? ⟨(ad102.add ((x5_1).toNat * 2)).block, (ad102.add ((x5_1).toNat * 2)).off + 1, none⟩ = some (.int .i64 ((zJ l1 x5_1).f1))) (ds := []) #[false, false, false, false, false, false, false, false, false, false] (by kernel_rfl) rfl rfl ⟨((HB.out.cell (yny w _ hw101_0)).trans hw101_0), ((HB.out.cell (yny w _ hw101_1)).trans hw101_1), ((HB.out.cell (yny w _ hw102_0)).trans hw102_0), ((HB.out.cell (yny w _ hw102_1)).trans hw102_1)⟩ (fun hHeld => ?_); refine ZC zx.tab6 zx.zDK (fun HT_ HW_ => ?_)
        generalize wr.drew = w11 at HB hx101_0 hx101_1 hx102_0 hx102_1 hHeld ⊢
        refine za (i := 0) (N := some 17) (v := ?_) (a' := ?_) #[true, false, false, false, false, false, false, false, false, false] rfl rfl (zY HT_.out (by kernel_rfl)) (fun _ _ _ h => h) (Or.inl ⟨by rfl, ?_⟩) ?_ ?_
        rotate_left
        next =>
         intro w'
         go_simp
         with_reducible rfl
        rotate_left
        next =>
         simp only [Act.put, yay, yby, ycy, zV, zW]
         rfl
        refine za (i := 1) (N := some 18) (v := ?_) (a' := ?_) #[true, true, false, false, false, false, false, false, false, false] rfl rfl (zY HT_.out (by kernel_rfl)) (fun _ _ _ h => h) (Or.inl ⟨by rfl, ?_⟩) ?_ ?_
        rotate_left
        next =>
         intro w'
         go_simp
         with_reducible rfl
        rotate_left
        next =>
         simp only [Act.put, yay, yby, ycy, zV, zW]
         rfl
        refine za (i := 2) (N := some 19) (v := ?_) (a' := ?_) #[true, true, true, false, false, false, false, false, false, false] rfl rfl (zY HT_.out (by kernel_rfl)) (fun _ _ _ h => h) (Or.inl ⟨by rfl, ?_⟩) ?_ ?_
        rotate_left
        next =>
         intro w'
         go_simp
         with_reducible rfl
        rotate_left
        next =>
         simp only [Act.put, yay, yby, ycy, zV, zW]
         rfl
        refine za (i := 4) (N := some 21) (v := ?_) (a' := ?_) #[true, true, true, false, true, false, false, false, false, false] rfl rfl (zY HT_.out (by kernel_rfl)) (fun _ _ _ h => h) (Or.inl ⟨by rfl, ?_⟩) ?_ ?_
        rotate_left
        next =>
         intro w'
         go_simp
         with_reducible rfl
        rotate_left
        next =>
         simp only [Act.put, yay, yby, ycy, zV, zW]
         rfl
        refine za (i := 5) (N := some 22) (v := ?_) (a' := ?_) #[true, true, true, false, true, true, false, false, false, false] rfl rfl (zY HT_.out (by kernel_rfl)) (fun _ _ _ h => h) (Or.inl ⟨by rfl, ?_⟩) ?_ ?_
        rotate_left
        next =>
         intro w'
         go_simp
         with_reducible rfl
        rotate_left
        next =>
         simp only [Act.put, yay, yby, ycy, zV, zW]
         rfl
        refine za (i := 6) (N := some 23) (v := ?_) (a' := ?_) #[true, true, true, false, true, true, true, false, false, false] rfl rfl (zY HT_.out (by kernel_rfl)) (fun _ _ _ h => h) (Or.inl ⟨by rfl, ?_⟩) ?_ ?_
        rotate_left
        next =>
         intro w'
         go_simp
         with_reducible rfl
        rotate_left
        next =>
         simp only [Act.put, yay, yby, ycy, zV, zW]
         rfl
        refine qf (i := 3) (N := some 20) (v := ?_) (a' := ?_) #[true, true, true, true, true, true, true, false, false, false] rfl rfl (zy HT_.out HW_.out (by kernel_rfl)) (fun _ _ _ h => h) (Or.inl ⟨by rfl, ?_⟩) hHeld ?_ ?_
        rotate_left
        next =>
         rintro w' ⟨s0, s1, s2, s3⟩
         go_simp
         with_reducible rfl
        rotate_left
        next =>
         simp only [Act.put, yay, yby, ycy, zV, zW]
         rfl
        refine qf (i := 7) (N := some 24) (v := ?_) (a' := ?_) #[true, true, true, true, true, true, true, true, false, false] rfl rfl (zy HT_.out HW_.out (by kernel_rfl)) (fun _ _ _ h => h) (Or.inl ⟨by rfl, ?_⟩) hHeld ?_ ?_
        rotate_left
        next =>
         rintro w' ⟨s0, s1, s2, s3⟩
         go_simp
         with_reducible rfl
        rotate_left
        next =>
         simp only [Act.put, yay, yby, ycy, zV, zW]
         rfl
        refine zA2 (i := 8) (N := some 25) #[true, true, true, true, true, true, true, true, true, false] rfl rfl (Zo HT_.out (by kernel_rfl)) (by decide) (fun K hK => ?_)
        refine Qr Try.func147 (by kernel_rfl) rfl #[.agg #[.int .i64 ((zJ l0 x5_1).f0), .int .i64 ((zJ l0 x5_1).f1)], .agg #[.int .i64 ((zJ l1 x5_1).f0), .int .i64 ((zJ l1 x5_1).f1)]] (by rfl) rfl rfl (by (try simp only [yiy, yjy, yky]); first | done | rfl | (simp only [yly, ymy]; rfl)) ?_
        with_reducible refine (Zy.calls ((zJ l0 x5_1).f0) ((zJ l0 x5_1).f1) ((zJ l1 x5_1).f0) ((zJ l1 x5_1).f1) false _ A7.out).mono ?_
        rintro e w12 ⟨rfl, hb⟩
        refine ⟨_, rfl, ?_⟩
        have n0_ := zA.mk (zN (by repeat (first | (with_reducible first | exact HB.out | apply zC | apply zB | apply zD) | exact HB.out)) hb)
        clear HB
        have HB := n0_
        clear n0_
        (try clear hb)
        (try clear hb2)
        (try clear hk)
        (try clear hi)
        refine hK.out _ _ ⟨((HB.out.cell (yny w _ hw101_0)).trans hw101_0), ((HB.out.cell (yny w _ hw101_1)).trans hw101_1), ((HB.out.cell (yny w _ hw102_0)).trans hw102_0), ((HB.out.cell (yny w _ hw102_1)).trans hw102_1)⟩ (fun hHeld => ?_)
        clear hK K
        refine QH (a' := ?_) ?_ ?_
        rotate_left
        next =>
         show Act.put _ (some 25) _ = _
         simp only [Act.put, yay, yby, ycy, zV, zW]
         rfl
        refine za (i := 9) (N := some 26) (v := ?_) (a' := ?_) #[true, true, true, true, true, true, true, true, true, true] rfl rfl (zY HT_.out (by kernel_rfl)) (fun _ _ _ h => h) (Or.inl ⟨by rfl, ?_⟩) ?_ ?_
        rotate_left
        next =>
         intro w'
         go_simp
         with_reducible rfl
        rotate_left
        next =>
         simp only [Act.put, yay, yby, ycy, zV, zW]
         rfl
        refine QQ (Zg HT_.out (by kernel_rfl)) ?_
        try go_wp2
        go_ret
        exact ⟨by first | rfl | (simp [zS, zT] <;> rfl) | (simp [*, zS, zT] <;> rfl), by repeat (first | (with_reducible first | exact HB.out | apply zC | apply zB | apply zD) | exact HB.out)⟩
      next =>
       rw [if_neg c6] at H
       exact absurd H (by simp)
     next =>
      rw [if_neg c5] at H
      exact absurd H (by simp)
    next =>
     rw [if_neg c4] at H
     have c4b0 : decide (x5_1 < (l0.length : Int)) = false := yhy c4
     clear c4
     obtain rfl := yey H
     go_wp2
     go_ret
     exact ⟨by first | rfl | (simp [zS, zT] <;> rfl) | (simp [*, zS, zT] <;> rfl), by repeat (first | (with_reducible first | exact HB.out | apply zC | apply zB | apply zD) | exact HB.out)⟩
 next =>
  rw [if_neg c3] at H
  have c3b0 : ((l0.length : Int) == (l1.length : Int)) = false := beq_eq_false_iff_ne.mpr c3
  have c3b1 : ((l0.length : Int) != (l1.length : Int)) = true := bne_iff_ne.mpr c3
  have c3b2 : (l0.length == l1.length) = false := by first | simpa using c3 | (simp at c3 ⊢; omega)
  obtain rfl := yey H
  go_enter Try.func110, Try.ntmps110
  go_wp2
  go_ret
  exact ⟨by first | rfl | (simp [zS, zT] <;> rfl) | (simp [*, zS, zT] <;> rfl), by repeat (first | (with_reducible first | exact HB.out | apply zC | apply zB | apply zD) | exact HB.out)⟩
def zq.l0 : Nat → List (List (zo)) → List (List (zo)) → Int → Option (Bool)
 | 0, _, _, _ => none
 | k + 1, x0, x1, x5 => if x5 < (x0.length : Int) then (if 0 ≤ x5 then (if x5 < (x1.length : Int) then ((zx.f k (zE x0 x5) (zE x1 x5)).bind fun t103 => (if t103 = true then (zq.l0 k x0 x1 (wrap64 (x5 + 1))) else (some false))) else (none)) else (none)) else (some true)
def zq.f (k : Nat) (l0 : List (List (zo))) (l1 : List (List (zo))) : Option (Bool) := if (l0.length : Int) = (l1.length : Int) then (zq.l0 k l0 l1 0) else (some false)
def zq.T6 : Bool × List (List Nat × List Nat) := (true, [([], []), ([], []), ([0, 1], [0, 1]), ([2], [2]), ([], []), ([], []), ([4, 5], [4, 5]), ([6], [6]), ([3, 7], [3, 7]), ([8], [8])])
def zq.B6 : List Nat := [0, 0, 3, 7, 0, 0, 48, 112, 255, 511]
theorem zq.tab6 : Jg .any (opsOf Try.f66 6) = zq.T6 := by kernel_rfl
theorem zq.zDK : QK zq.T6.2 zq.B6 = true := by kernel_rfl
set_option maxHeartbeats 8000000 in
set_option maxRecDepth 100000 in
theorem zq.calls (k : Nat) (A0 : Option Addr) (c0 : Nat) (l0 : List (List (zo))) (A1 : Option Addr) (c1 : Nat) (l1 : List (List (zo))) (r : Bool) (w : World) (hr0 : Kd.C (Kd.slice 115 qh) w A0 l0.length l0) (hc0 : l0.length ≤ c0) (hr1 : Kd.C (Kd.slice 115 qh) w A1 l1.length l1) (hc1 : l1.length ≤ c1) (h : zq.f k l0 l1 = some r) :
 Calls Try.prog 66 #[.slice A0 l0.length c0, .slice A1 l1.length c1] w fun e w' => e = .returned (.bool r) ∧ Below w.heap.size w w' := by
 have HR0 := zA.mk hr0
 have HC0 := zA.mk hc0
 clear hr0 hc0
 have HR1 := zA.mk hr1
 have HC1 := zA.mk hc1
 clear hr1 hc1
 have HB := zA.mk (ypy w.heap.size w)
 have H : (if (l0.length : Int) = (l1.length : Int) then (zq.l0 k l0 l1 0) else (some false)) = some r := h
 clear h
 by_cases c3 : (l0.length : Int) = (l1.length : Int)
 next =>
  rw [if_pos c3] at H
  have c3b0 : ((l0.length : Int) == (l1.length : Int)) = true := beq_iff_eq.mpr c3
  have c3b1 : ((l0.length : Int) != (l1.length : Int)) = false := bne_eq_false_iff_eq.mpr c3
  have c3b2 : (l0.length == l1.length) = true := by first | simpa using c3 | (simp at c3 ⊢; omega)
  clear c3
  have H' := zA.mk H
  clear H
  go_enter Try.func66, Try.ntmps66
  go_wp2
  go_loopg [5] k (fun kq v5 w' => ∃ (x5_1 : Int), v5 = .int .i64 x5_1 ∧ zA (zq.l0 kq l0 l1 x5_1 = some r) ∧ zA (kq ≤ k) ∧ zA (Below w.heap.size w w'))
  case atStart => exact ⟨(0), (by first | rfl | (simp; done) | (simp [*]; done)), H', ⟨yoy _⟩, ⟨by repeat (first | (with_reducible first | exact HB.out | apply zC | apply zB | apply zD) | exact HB.out)⟩⟩
  case round =>
   clear H'
   try clear c1
   try clear p2
   try clear c3
   try clear c3b0
   try clear c3b1
   try clear c3b2
   obtain ⟨x5_1, rfl, HA, HK1, HB⟩ := hrel
   cases gk with
   | zero => exact absurd HA.out (by simp [zq.l0])
   | succ k1 =>
    have H := HA.out
    clear HA
    simp only [zq.l0] at H
    by_cases c4 : x5_1 < (l0.length : Int)
    next =>
     rw [if_pos c4] at H
     have c4b0 : decide (x5_1 < (l0.length : Int)) = true := ygy c4
     clear c4
     by_cases c5 : 0 ≤ x5_1
     next =>
      rw [if_pos c5] at H
      have c5b0 : decide (0 ≤ x5_1) = true := ygy c5
      clear c5
      by_cases c6 : x5_1 < (l1.length : Int)
      next =>
       rw [if_pos c6] at H
       have c6b0 : decide (x5_1 < (l1.length : Int)) = true := ygy c6
       clear c6
       replace H := ydy.mp H
       obtain ⟨t103, A70, H⟩ := H
       replace H : (if t103 = true then (zq.l0 k1 l0 l1 (wrap64 (x5_1 + 1))) else (some false)) = some r := H
       have A7 := zA.mk A70
       clear A70
       by_cases c8 : t103 = true
       next =>
        subst c8
        have H1 : (zq.l0 k1 l0 l1 (wrap64 (x5_1 + 1))) = some r := by rw [if_pos rfl] at H; exact H
        clear H
        have H := H1
        clear H1
        have H' := zA.mk H
        clear H
        try go_wp2
        have n0_ := zA.mk (zD HB.out)
        clear HB
        have HB := n0_
        clear n0_
        have p101 : 0 ≤ (x5_1 : Int) := of_decide_eq_true (by first | (with_reducible assumption) | assumption)
        have q101 : x5_1 < (l0.length : Int) := of_decide_eq_true (by first | (with_reducible assumption) | assumption)
        obtain ⟨ad101, A101_0, c101_0, e101, hx101_0, hl101_0, hi101_0⟩ := qv HR0.out x5_1 p101 q101
        have hw101_0 := hx101_0
        cases e101
        replace hx101_0 := (HB.out.cell (yny w _ hx101_0)).trans hx101_0
        have HR101_0 := zA.mk hi101_0
        have HC101_0 := zA.mk hl101_0
        clear hi101_0 hl101_0
        replace p101 := eq_true p101
        replace q101 := eq_true q101
        have p102 : 0 ≤ (x5_1 : Int) := of_decide_eq_true (by first | (with_reducible assumption) | assumption)
        have q102 : x5_1 < (l1.length : Int) := of_decide_eq_true (by first | (with_reducible assumption) | assumption)
        obtain ⟨ad102, A102_0, c102_0, e102, hx102_0, hl102_0, hi102_0⟩ := qv HR1.out x5_1 p102 q102
        have hw102_0 := hx102_0
        cases e102
        replace hx102_0 := (HB.out.cell (yny w _ hx102_0)).trans hx102_0
        have HR102_0 := zA.mk hi102_0
        have HC102_0 := zA.mk hl102_0
        clear hi102_0 hl102_0
        replace p102 := eq_true p102
        replace q102 := eq_true q102
        refine Zf (n := 10) (S := fun w' => w'.cell? (ad101.add (x5_1).toNat) = some (.slice A101_0 (zE l0 x5_1).length c101_0) ∧ w'.cell? (ad102.add (x5_1).toNat) = some (.slice A102_0 (zE l1 x5_1).length c102_0)) (ds := []) #[false, false, false, false, false, false, false, false, false, false] (by kernel_rfl) rfl rfl ⟨((HB.out.cell (yny w _ hw101_0)).trans hw101_0), ((HB.out.cell (yny w _ hw102_0)).trans hw102_0)⟩ (fun hHeld => ?_); refine ZC zq.tab6 zq.zDK (fun HT_ HW_ => ?_)
        generalize wr.drew = w9 at HB HR101_0 HR102_0 hx101_0 hx102_0 hHeld ⊢
        refine za (i := 0) (N := some 17) (v := ?_) (a' := ?_) #[true, false, false, false, false, false, false, false, false, false] rfl rfl (zY HT_.out (by kernel_rfl)) (fun _ _ _ h => h) (Or.inl ⟨by rfl, ?_⟩) ?_ ?_
        rotate_left
        next =>
         intro w'
         go_simp
         with_reducible rfl
        rotate_left
        next =>
         simp only [Act.put, yay, yby, ycy, zV, zW]
         rfl
        refine za (i := 1) (N := some 18) (v := ?_) (a' := ?_) #[true, true, false, false, false, false, false, false, false, false] rfl rfl (zY HT_.out (by kernel_rfl)) (fun _ _ _ h => h) (Or.inl ⟨by rfl, ?_⟩) ?_ ?_
        rotate_left
        next =>
         intro w'
         go_simp
         with_reducible rfl
        rotate_left
        next =>
         simp only [Act.put, yay, yby, ycy, zV, zW]
         rfl
        refine za (i := 2) (N := some 19) (v := ?_) (a' := ?_) #[true, true, true, false, false, false, false, false, false, false] rfl rfl (zY HT_.out (by kernel_rfl)) (fun _ _ _ h => h) (Or.inl ⟨by rfl, ?_⟩) ?_ ?_
        rotate_left
        next =>
         intro w'
         go_simp
         with_reducible rfl
        rotate_left
        next =>
         simp only [Act.put, yay, yby, ycy, zV, zW]
         rfl
        refine za (i := 4) (N := some 21) (v := ?_) (a' := ?_) #[true, true, true, false, true, false, false, false, false, false] rfl rfl (zY HT_.out (by kernel_rfl)) (fun _ _ _ h => h) (Or.inl ⟨by rfl, ?_⟩) ?_ ?_
        rotate_left
        next =>
         intro w'
         go_simp
         with_reducible rfl
        rotate_left
        next =>
         simp only [Act.put, yay, yby, ycy, zV, zW]
         rfl
        refine za (i := 5) (N := some 22) (v := ?_) (a' := ?_) #[true, true, true, false, true, true, false, false, false, false] rfl rfl (zY HT_.out (by kernel_rfl)) (fun _ _ _ h => h) (Or.inl ⟨by rfl, ?_⟩) ?_ ?_
        rotate_left
        next =>
         intro w'
         go_simp
         with_reducible rfl
        rotate_left
        next =>
         simp only [Act.put, yay, yby, ycy, zV, zW]
         rfl
        refine za (i := 6) (N := some 23) (v := ?_) (a' := ?_) #[true, true, true, false, true, true, true, false, false, false] rfl rfl (zY HT_.out (by kernel_rfl)) (fun _ _ _ h => h) (Or.inl ⟨by rfl, ?_⟩) ?_ ?_
        rotate_left
        next =>
         intro w'
         go_simp
         with_reducible rfl
        rotate_left
        next =>
         simp only [Act.put, yay, yby, ycy, zV, zW]
         rfl
        refine qf (i := 3) (N := some 20) (v := ?_) (a' := ?_) #[true, true, true, true, true, true, true, false, false, false] rfl rfl (zy HT_.out HW_.out (by kernel_rfl)) (fun _ _ _ h => h) (Or.inl ⟨by rfl, ?_⟩) hHeld ?_ ?_
        rotate_left
        next =>
         rintro w' ⟨s0, s1⟩
         go_simp
         with_reducible rfl
        rotate_left
        next =>
         simp only [Act.put, yay, yby, ycy, zV, zW]
         rfl
        refine qf (i := 7) (N := some 24) (v := ?_) (a' := ?_) #[true, true, true, true, true, true, true, true, false, false] rfl rfl (zy HT_.out HW_.out (by kernel_rfl)) (fun _ _ _ h => h) (Or.inl ⟨by rfl, ?_⟩) hHeld ?_ ?_
        rotate_left
        next =>
         rintro w' ⟨s0, s1⟩
         go_simp
         with_reducible rfl
        rotate_left
        next =>
         simp only [Act.put, yay, yby, ycy, zV, zW]
         rfl
        refine zA2 (i := 8) (N := some 25) #[true, true, true, true, true, true, true, true, true, false] rfl rfl (Zo HT_.out (by kernel_rfl)) (by decide) (fun K hK => ?_)
        refine Qr Try.func110 (by kernel_rfl) rfl #[.slice A101_0 (zE l0 x5_1).length c101_0, .slice A102_0 (zE l1 x5_1).length c102_0] (by rfl) rfl rfl (by (try simp only [yiy, yjy, yky]); first | done | rfl | (simp only [yly, ymy]; rfl)) ?_
        with_reducible refine (zx.calls k1 _ _ (zE l0 x5_1) _ _ (zE l1 x5_1) true _ ?side1 ?side2 ?side3 ?side4 A7.out).mono ?_
        (case side1 => repeat (first | exact (Kd.qD HR101_0.out HB.out) | (with_reducible refine Kd.qA ?_ _) | (with_reducible refine Kd.qB ?_ _) | (with_reducible refine Kd.qP ?_)))
        (case side2 => exact HC101_0.out)
        (case side3 => repeat (first | exact (Kd.qD HR102_0.out HB.out) | (with_reducible refine Kd.qA ?_ _) | (with_reducible refine Kd.qB ?_ _) | (with_reducible refine Kd.qP ?_)))
        (case side4 => exact HC102_0.out)
        rintro e w10 ⟨rfl, hb⟩
        refine ⟨_, rfl, ?_⟩
        have n0_ := zA.mk (zN (by repeat (first | (with_reducible first | exact HB.out | apply zC | apply zB | apply zD) | exact HB.out)) hb)
        clear HB
        have HB := n0_
        clear n0_
        (try clear hb)
        (try clear hb2)
        (try clear hk)
        (try clear hi)
        refine hK.out _ _ ⟨((HB.out.cell (yny w _ hw101_0)).trans hw101_0), ((HB.out.cell (yny w _ hw102_0)).trans hw102_0)⟩ (fun hHeld => ?_)
        clear hK K
        refine QH (a' := ?_) ?_ ?_
        rotate_left
        next =>
         show Act.put _ (some 25) _ = _
         simp only [Act.put, yay, yby, ycy, zV, zW]
         rfl
        refine za (i := 9) (N := some 26) (v := ?_) (a' := ?_) #[true, true, true, true, true, true, true, true, true, true] rfl rfl (zY HT_.out (by kernel_rfl)) (fun _ _ _ h => h) (Or.inl ⟨by rfl, ?_⟩) ?_ ?_
        rotate_left
        next =>
         intro w'
         go_simp
         with_reducible rfl
        rotate_left
        next =>
         simp only [Act.put, yay, yby, ycy, zV, zW]
         rfl
        refine QQ (Zg HT_.out (by kernel_rfl)) ?_
        try go_wp2
        go_roundg k1
        case measure => have := HK1.out; omega
        case rel => exact ⟨(wrap64 (x5_1 + 1)), (by first | rfl | (simp; done) | (simp [*]; done)), H', ⟨by have := HK1.out; omega⟩, ⟨by repeat (first | (with_reducible first | exact HB.out | apply zC | apply zB | apply zD) | exact HB.out)⟩⟩
       next =>
        replace c8 := Bool.eq_false_iff.mpr c8
        subst c8
        have H1 : (some false) = some r := by rw [if_neg (show ¬ (false = true) by decide)] at H; exact H
        clear H
        have H := H1
        clear H1
        obtain rfl := yey H
        try go_wp2
        have n0_ := zA.mk (zD HB.out)
        clear HB
        have HB := n0_
        clear n0_
        have p101 : 0 ≤ (x5_1 : Int) := of_decide_eq_true (by first | (with_reducible assumption) | assumption)
        have q101 : x5_1 < (l0.length : Int) := of_decide_eq_true (by first | (with_reducible assumption) | assumption)
        obtain ⟨ad101, A101_0, c101_0, e101, hx101_0, hl101_0, hi101_0⟩ := qv HR0.out x5_1 p101 q101
        have hw101_0 := hx101_0
        cases e101
        replace hx101_0 := (HB.out.cell (yny w _ hx101_0)).trans hx101_0
        have HR101_0 := zA.mk hi101_0
        have HC101_0 := zA.mk hl101_0
        clear hi101_0 hl101_0
        replace p101 := eq_true p101
        replace q101 := eq_true q101
        have p102 : 0 ≤ (x5_1 : Int) := of_decide_eq_true (by first | (with_reducible assumption) | assumption)
        have q102 : x5_1 < (l1.length : Int) := of_decide_eq_true (by first | (with_reducible assumption) | assumption)
        obtain ⟨ad102, A102_0, c102_0, e102, hx102_0, hl102_0, hi102_0⟩ := qv HR1.out x5_1 p102 q102
        have hw102_0 := hx102_0
        cases e102
        replace hx102_0 := (HB.out.cell (yny w _ hx102_0)).trans hx102_0
        have HR102_0 := zA.mk hi102_0
        have HC102_0 := zA.mk hl102_0
        clear hi102_0 hl102_0
        replace p102 := eq_true p102
        replace q102 := eq_true q102
        refine Zf (n := 10) (S := fun w' => w'.cell? (ad101.add (x5_1).toNat) = some (.slice A101_0 (zE l0 x5_1).length c101_0) ∧ w'.cell? (ad102.add (x5_1).toNat) = some (.slice A102_0 (zE l1 x5_1).length c102_0)) (ds := []) #[false, false, false, false, false, false, false, false, false, false] (by kernel_rfl) rfl rfl ⟨((HB.out.cell (yny w _ hw101_0)).trans hw101_0), ((HB.out.cell (yny w _ hw102_0)).trans hw102_0)⟩ (fun hHeld => ?_); refine ZC zq.tab6 zq.zDK (fun HT_ HW_ => ?_)
        generalize wr.drew = w11 at HB HR101_0 HR102_0 hx101_0 hx102_0 hHeld ⊢
        refine za (i := 0) (N := some 17) (v := ?_) (a' := ?_) #[true, false, false, false, false, false, false, false, false, false] rfl rfl (zY HT_.out (by kernel_rfl)) (fun _ _ _ h => h) (Or.inl ⟨by rfl, ?_⟩) ?_ ?_
        rotate_left
        next =>
         intro w'
         go_simp
         with_reducible rfl
        rotate_left
        next =>
         simp only [Act.put, yay, yby, ycy, zV, zW]
         rfl
        refine za (i := 1) (N := some 18) (v := ?_) (a' := ?_) #[true, true, false, false, false, false, false, false, false, false] rfl rfl (zY HT_.out (by kernel_rfl)) (fun _ _ _ h => h) (Or.inl ⟨by rfl, ?_⟩) ?_ ?_
        rotate_left
        next =>
         intro w'
         go_simp
         with_reducible rfl
        rotate_left
        next =>
         simp only [Act.put, yay, yby, ycy, zV, zW]
         rfl
        refine za (i := 2) (N := some 19) (v := ?_) (a' := ?_) #[true, true, true, false, false, false, false, false, false, false] rfl rfl (zY HT_.out (by kernel_rfl)) (fun _ _ _ h => h) (Or.inl ⟨by rfl, ?_⟩) ?_ ?_
        rotate_left
        next =>
         intro w'
         go_simp
         with_reducible rfl
        rotate_left
        next =>
         simp only [Act.put, yay, yby, ycy, zV, zW]
         rfl
        refine za (i := 4) (N := some 21) (v := ?_) (a' := ?_) #[true, true, true, false, true, false, false, false, false, false] rfl rfl (zY HT_.out (by kernel_rfl)) (fun _ _ _ h => h) (Or.inl ⟨by rfl, ?_⟩) ?_ ?_
        rotate_left
        next =>
         intro w'
         go_simp
         with_reducible rfl
        rotate_left
        next =>
         simp only [Act.put, yay, yby, ycy, zV, zW]
         rfl
        refine za (i := 5) (N := some 22) (v := ?_) (a' := ?_) #[true, true, true, false, true, true, false, false, false, false] rfl rfl (zY HT_.out (by kernel_rfl)) (fun _ _ _ h => h) (Or.inl ⟨by rfl, ?_⟩) ?_ ?_
        rotate_left
        next =>
         intro w'
         go_simp
         with_reducible rfl
        rotate_left
        next =>
         simp only [Act.put, yay, yby, ycy, zV, zW]
         rfl
        refine za (i := 6) (N := some 23) (v := ?_) (a' := ?_) #[true, true, true, false, true, true, true, false, false, false] rfl rfl (zY HT_.out (by kernel_rfl)) (fun _ _ _ h => h) (Or.inl ⟨by rfl, ?_⟩) ?_ ?_
        rotate_left
        next =>
         intro w'
         go_simp
         with_reducible rfl
        rotate_left
        next =>
         simp only [Act.put, yay, yby, ycy, zV, zW]
         rfl
        refine qf (i := 3) (N := some 20) (v := ?_) (a' := ?_) #[true, true, true, true, true, true, true, false, false, false] rfl rfl (zy HT_.out HW_.out (by kernel_rfl)) (fun _ _ _ h => h) (Or.inl ⟨by rfl, ?_⟩) hHeld ?_ ?_
        rotate_left
        next =>
         rintro w' ⟨s0, s1⟩
         go_simp
         with_reducible rfl
        rotate_left
        next =>
         simp only [Act.put, yay, yby, ycy, zV, zW]
         rfl
        refine qf (i := 7) (N := some 24) (v := ?_) (a' := ?_) #[true, true, true, true, true, true, true, true, false, false] rfl rfl (zy HT_.out HW_.out (by kernel_rfl)) (fun _ _ _ h => h) (Or.inl ⟨by rfl, ?_⟩) hHeld ?_ ?_
        rotate_left
        next =>
         rintro w' ⟨s0, s1⟩
         go_simp
         with_reducible rfl
        rotate_left
        next =>
         simp only [Act.put, yay, yby, ycy, zV, zW]
         rfl
        refine zA2 (i := 8) (N := some 25) #[true, true, true, true, true, true, true, true, true, false] rfl rfl (Zo HT_.out (by kernel_rfl)) (by decide) (fun K hK => ?_)
        refine Qr Try.func110 (by kernel_rfl) rfl #[.slice A101_0 (zE l0 x5_1).length c101_0, .slice A102_0 (zE l1 x5_1).length c102_0] (by rfl) rfl rfl (by (try simp only [yiy, yjy, yky]); first | done | rfl | (simp only [yly, ymy]; rfl)) ?_
        with_reducible refine (zx.calls k1 _ _ (zE l0 x5_1) _ _ (zE l1 x5_1) false _ ?side1 ?side2 ?side3 ?side4 A7.out).mono ?_
        (case side1 => repeat (first | exact (Kd.qD HR101_0.out HB.out) | (with_reducible refine Kd.qA ?_ _) | (with_reducible refine Kd.qB ?_ _) | (with_reducible refine Kd.qP ?_)))
        (case side2 => exact HC101_0.out)
        (case side3 => repeat (first | exact (Kd.qD HR102_0.out HB.out) | (with_reducible refine Kd.qA ?_ _) | (with_reducible refine Kd.qB ?_ _) | (with_reducible refine Kd.qP ?_)))
        (case side4 => exact HC102_0.out)
        rintro e w12 ⟨rfl, hb⟩
        refine ⟨_, rfl, ?_⟩
        have n0_ := zA.mk (zN (by repeat (first | (with_reducible first | exact HB.out | apply zC | apply zB | apply zD) | exact HB.out)) hb)
        clear HB
        have HB := n0_
        clear n0_
        (try clear hb)
        (try clear hb2)
        (try clear hk)
        (try clear hi)
        refine hK.out _ _ ⟨((HB.out.cell (yny w _ hw101_0)).trans hw101_0), ((HB.out.cell (yny w _ hw102_0)).trans hw102_0)⟩ (fun hHeld => ?_)
        clear hK K
        refine QH (a' := ?_) ?_ ?_
        rotate_left
        next =>
         show Act.put _ (some 25) _ = _
         simp only [Act.put, yay, yby, ycy, zV, zW]
         rfl
        refine za (i := 9) (N := some 26) (v := ?_) (a' := ?_) #[true, true, true, true, true, true, true, true, true, true] rfl rfl (zY HT_.out (by kernel_rfl)) (fun _ _ _ h => h) (Or.inl ⟨by rfl, ?_⟩) ?_ ?_
        rotate_left
        next =>
         intro w'
         go_simp
         with_reducible rfl
        rotate_left
        next =>
         simp only [Act.put, yay, yby, ycy, zV, zW]
         rfl
        refine QQ (Zg HT_.out (by kernel_rfl)) ?_
        try go_wp2
        go_ret
        exact ⟨by first | rfl | (simp [zS, zT] <;> rfl) | (simp [*, zS, zT] <;> rfl), by repeat (first | (with_reducible first | exact HB.out | apply zC | apply zB | apply zD) | exact HB.out)⟩
      next =>
       rw [if_neg c6] at H
       exact absurd H (by simp)
     next =>
      rw [if_neg c5] at H
      exact absurd H (by simp)
    next =>
     rw [if_neg c4] at H
     have c4b0 : decide (x5_1 < (l0.length : Int)) = false := yhy c4
     clear c4
     obtain rfl := yey H
     go_wp2
     go_ret
     exact ⟨by first | rfl | (simp [zS, zT] <;> rfl) | (simp [*, zS, zT] <;> rfl), by repeat (first | (with_reducible first | exact HB.out | apply zC | apply zB | apply zD) | exact HB.out)⟩
 next =>
  rw [if_neg c3] at H
  have c3b0 : ((l0.length : Int) == (l1.length : Int)) = false := beq_eq_false_iff_ne.mpr c3
  have c3b1 : ((l0.length : Int) != (l1.length : Int)) = true := bne_iff_ne.mpr c3
  have c3b2 : (l0.length == l1.length) = false := by first | simpa using c3 | (simp at c3 ⊢; omega)
  obtain rfl := yey H
  go_enter Try.func66, Try.ntmps66
  go_wp2
  go_ret
  exact ⟨by first | rfl | (simp [zS, zT] <;> rfl) | (simp [*, zS, zT] <;> rfl), by repeat (first | (with_reducible first | exact HB.out | apply zC | apply zB | apply zD) | exact HB.out)⟩
def ZG.f (k : Nat) (l0_0 : List (List (zo))) (l1_0 : List (List (zo))) : Option (Bool) := (zq.f k l0_0 l1_0).bind fun t103 => (if t103 = true then (some true) else (some false))
set_option maxHeartbeats 8000000 in
set_option maxRecDepth 100000 in
theorem ZG.calls (k : Nat) (A0_0 : Option Addr) (c0_0 : Nat) (l0_0 : List (List (zo))) (A1_0 : Option Addr) (c1_0 : Nat) (l1_0 : List (List (zo))) (r : Bool) (w : World) (hr0_0 : Kd.C (Kd.slice 115 qh) w A0_0 l0_0.length l0_0) (hc0_0 : l0_0.length ≤ c0_0) (hr1_0 : Kd.C (Kd.slice 115 qh) w A1_0 l1_0.length l1_0) (hc1_0 : l1_0.length ≤ c1_0) (h : ZG.f k l0_0 l1_0 = some r) :
    Calls Try.prog 20 #[.agg #[.slice A0_0 l0_0.length c0_0], .agg #[.slice A1_0 l1_0.length c1_0]] w fun e w' => e = .returned (.bool r) ∧ Below w.heap.size w w' := by
  have hu30 := Try.underlying30
  have HR0_0 := zA.mk hr0_0
  have HC0_0 := zA.mk hc0_0
  clear hr0_0 hc0_0
  have HR1_0 := zA.mk hr1_0
  have HC1_0 := zA.mk hc1_0
  clear hr1_0 hc1_0
  have HB := zA.mk (ypy w.heap.size w)
  have H : ((zq.f k l0_0 l1_0).bind fun t103 => (if t103 = true then (some true) else (some false))) = some r := h
  clear h
  replace H := ydy.mp H
  obtain ⟨t103, A30, H⟩ := H
  replace H : (if t103 = true then (some true) else (some false)) = some r := H
  have A3 := zA.mk A30
  clear A30
  by_cases c4 : t103 = true
  · subst c4
    have H1 : (some true) = some r := by rw [if_pos rfl] at H; exact H
    clear H
    have H := H1
    clear H1
    obtain rfl := yey H
    go_enter Try.func20, Try.ntmps20
    go_wp2_with (first | ((with_reducible refine ze (N := 2) rfl ?_); refine zc ?hg (N := 2) ?hd (cs := #[.slice A0_0 l0_0.length c0_0]) (t := 30) ?hr ?_; (case hd => rfl); (case hg => rfl); (case hr => first | (go_simp; done) | (go_simp; rfl)); intro gb101 hg w5 hbox hb; have n0_ := zA.mk (zN (by repeat (first | (with_reducible first | exact HB.out | apply zC | apply zB | apply zD) | exact HB.out)) hb); have n1_ := zA.mk (hbox); have n2_ := zA.mk ((by rw [hg]; exact (zP (by repeat (first | (with_reducible first | exact HB.out | apply zC | apply zB | apply zD) | exact HB.out))) : w.heap.size ≤ gb101)); have n3_ := zA.mk ((by rw [hg]; exact (zP (by repeat (first | (with_reducible first | exact HB.out | apply zC | apply zB | apply zD) | exact HB.out))) : w.heap.size ≤ gb101)); clear HB; have HB := n0_; have BK101 := n1_; have GW101 := n2_; have GE101 := n3_; clear n0_ n1_ n2_ n3_; clear hb hbox hg) | ((with_reducible refine ze (N := 3) rfl ?_); refine zc ?hg (N := 3) ?hd (cs := #[.slice A1_0 l1_0.length c1_0]) (t := 30) ?hr ?_; (case hd => rfl); (case hg => rfl); (case hr => first | (go_simp; done) | (go_simp; rfl)); intro gb102 hg w6 hbox hb; have n0_ := zA.mk (zO (g := gb101) (o := .cells #[.slice A0_0 l0_0.length c0_0] 30 (0, 0)) (by (with_reducible repeat (first | refine zI ?_ _ | refine zL ?_ | refine zH ?_ _)); exact BK101.out) hb); have n1_ := zA.mk (zN (by repeat (first | (with_reducible first | exact HB.out | apply zC | apply zB | apply zD | refine zF ?_ GE101.out) | exact HB.out)) hb); have n2_ := zA.mk (hbox); have n3_ := zA.mk ((by rw [hg]; exact (zP (by repeat (first | (with_reducible first | exact HB.out | apply zC | apply zB | apply zD | refine zF ?_ GE101.out) | exact HB.out))) : w.heap.size ≤ gb102)); have n4_ := zA.mk ((by rw [hg]; exact (zP (by repeat (first | (with_reducible first | exact HB.out | apply zC | apply zB | apply zD | refine zF ?_ GE101.out) | exact HB.out))) : w.heap.size ≤ gb102)); have n5_ := zA.mk ((by rw [hg]; exact Nat.ne_of_lt (qG (g := gb101) (o := .cells #[.slice A0_0 l0_0.length c0_0] 30 (0, 0)) (by (with_reducible repeat (first | refine zI ?_ _ | refine zL ?_ | refine zH ?_ _)); exact BK101.out)) : gb101 ≠ gb102)); have n6_ := zA.mk ((by rw [hg]; exact Nat.ne_of_gt (qG (g := gb101) (o := .cells #[.slice A0_0 l0_0.length c0_0] 30 (0, 0)) (by (with_reducible repeat (first | refine zI ?_ _ | refine zL ?_ | refine zH ?_ _)); exact BK101.out)) : gb102 ≠ gb101)); clear BK101; clear HB; have BK101 := n0_; have HB := n1_; have BK102 := n2_; have GW102 := n3_; have GE102 := n4_; have NB101_102 := n5_; have NB102_101 := n6_; clear n0_ n1_ n2_ n3_ n4_ n5_ n6_; clear hb hbox hg; have hnb7 := NB101_102.out; have hnc7 := NB102_101.out; have hcz8_0 : w6.cell? ⟨gb101, 0, none⟩ = some (.slice A0_0 l0_0.length c0_0) := (zK BK101.out 0).trans rfl; have hfz8_0 := zG BK101.out 0; have hcz9_0 : w6.cell? ⟨gb102, 0, none⟩ = some (.slice A1_0 l1_0.length c1_0) := (zK BK102.out 0).trans rfl; have hfz9_0 := zG BK102.out 0) | ((with_reducible refine zX (f := 66) rfl ?_); refine qI (some 9) rfl rfl Try.func66 (by kernel_rfl) rfl #[.slice A0_0 l0_0.length c0_0, .slice A1_0 l1_0.length c1_0] rfl (by (try simp only [yiy, yjy, yky]); first | done | rfl | (simp only [yly, ymy]; rfl)) ?_; (with_reducible refine (zq.calls k _ _ l0_0 _ _ l1_0 true _ ?side1 ?side2 ?side3 ?side4 A3.out).mono ?_); (case side1 => repeat (first | exact (Kd.qD HR0_0.out HB.out) | (with_reducible refine Kd.qA ?_ _) | (with_reducible refine Kd.qB ?_ _) | (with_reducible refine Kd.qP ?_))); (case side2 => exact HC0_0.out); (case side3 => repeat (first | exact (Kd.qD HR1_0.out HB.out) | (with_reducible refine Kd.qA ?_ _) | (with_reducible refine Kd.qB ?_ _) | (with_reducible refine Kd.qP ?_))); (case side4 => exact HC1_0.out); rintro e w10 ⟨rfl, hb⟩; refine ⟨_, rfl, ?_⟩; have n0_ := zA.mk (zO (g := gb101) (o := .cells #[.slice A0_0 l0_0.length c0_0] 30 (0, 0)) (by (with_reducible repeat (first | refine zI ?_ _ | refine zL ?_ | refine zH ?_ _)); exact BK101.out) hb); have n1_ := zA.mk (zO (g := gb102) (o := .cells #[.slice A1_0 l1_0.length c1_0] 30 (0, 0)) (by (with_reducible repeat (first | refine zI ?_ _ | refine zL ?_ | refine zH ?_ _)); exact BK102.out) hb); have n2_ := zA.mk (zN (by repeat (first | (with_reducible first | exact HB.out | apply zC | apply zB | apply zD | refine zF ?_ GE101.out | refine zF ?_ GE102.out) | exact HB.out)) hb); clear BK101; clear BK102; clear HB; have BK101 := n0_; have BK102 := n1_; have HB := n2_; clear n0_ n1_ n2_; (try clear hb); (try clear hb2); (try clear hk); (try clear hi)))
    go_ret
    exact ⟨by first | rfl | (simp [zS, zT] <;> rfl) | (simp [*, zS, zT] <;> rfl), by repeat (first | (with_reducible first | exact HB.out | apply zC | apply zB | apply zD | refine zF ?_ GE101.out | refine zF ?_ GE102.out) | exact HB.out)⟩
  · replace c4 := Bool.eq_false_iff.mpr c4
    subst c4
    have H1 : (some false) = some r := by rw [if_neg (show ¬ (false = true) by decide)] at H; exact H
    clear H
    have H := H1
    clear H1
    obtain rfl := yey H
    go_enter Try.func20, Try.ntmps20
    go_wp2_with (first | ((with_reducible refine ze (N := 2) rfl ?_); refine zc ?hg (N := 2) ?hd (cs := #[.slice A0_0 l0_0.length c0_0]) (t := 30) ?hr ?_; (case hd => rfl); (case hg => rfl); (case hr => first | (go_simp; done) | (go_simp; rfl)); intro gb101 hg w11 hbox hb; have n0_ := zA.mk (zN (by repeat (first | (with_reducible first | exact HB.out | apply zC | apply zB | apply zD) | exact HB.out)) hb); have n1_ := zA.mk (hbox); have n2_ := zA.mk ((by rw [hg]; exact (zP (by repeat (first | (with_reducible first | exact HB.out | apply zC | apply zB | apply zD) | exact HB.out))) : w.heap.size ≤ gb101)); have n3_ := zA.mk ((by rw [hg]; exact (zP (by repeat (first | (with_reducible first | exact HB.out | apply zC | apply zB | apply zD) | exact HB.out))) : w.heap.size ≤ gb101)); clear HB; have HB := n0_; have BK101 := n1_; have GW101 := n2_; have GE101 := n3_; clear n0_ n1_ n2_ n3_; clear hb hbox hg) | ((with_reducible refine ze (N := 3) rfl ?_); refine zc ?hg (N := 3) ?hd (cs := #[.slice A1_0 l1_0.length c1_0]) (t := 30) ?hr ?_; (case hd => rfl); (case hg => rfl); (case hr => first | (go_simp; done) | (go_simp; rfl)); intro gb102 hg w12 hbox hb; have n0_ := zA.mk (zO (g := gb101) (o := .cells #[.slice A0_0 l0_0.length c0_0] 30 (0, 0)) (by (with_reducible repeat (first | refine zI ?_ _ | refine zL ?_ | refine zH ?_ _)); exact BK101.out) hb); have n1_ := zA.mk (zN (by repeat (first | (with_reducible first | exact HB.out | apply zC | apply zB | apply zD | refine zF ?_ GE101.out) | exact HB.out)) hb); have n2_ := zA.mk (hbox); have n3_ := zA.mk ((by rw [hg]; exact (zP (by repeat (first | (with_reducible first | exact HB.out | apply zC | apply zB | apply zD | refine zF ?_ GE101.out) | exact HB.out))) : w.heap.size ≤ gb102)); have n4_ := zA.mk ((by rw [hg]; exact (zP (by repeat (first | (with_reducible first | exact HB.out | apply zC | apply zB | apply zD | refine zF ?_ GE101.out) | exact HB.out))) : w.heap.size ≤ gb102)); have n5_ := zA.mk ((by rw [hg]; exact Nat.ne_of_lt (qG (g := gb101) (o := .cells #[.slice A0_0 l0_0.length c0_0] 30 (0, 0)) (by (with_reducible repeat (first | refine zI ?_ _ | refine zL ?_ | refine zH ?_ _)); exact BK101.out)) : gb101 ≠ gb102)); have n6_ := zA.mk ((by rw [hg]; exact Nat.ne_of_gt (qG (g := gb101) (o := .cells #[.slice A0_0 l0_0.length c0_0] 30 (0, 0)) (by (with_reducible repeat (first | refine zI ?_ _ | refine zL ?_ | refine zH ?_ _)); exact BK101.out)) : gb102 ≠ gb101)); clear BK101; clear HB; have BK101 := n0_; have HB := n1_; have BK102 := n2_; have GW102 := n3_; have GE102 := n4_; have NB101_102 := n5_; have NB102_101 := n6_; clear n0_ n1_ n2_ n3_ n4_ n5_ n6_; clear hb hbox hg; have hnb13 := NB101_102.out; have hnc13 := NB102_101.out; have hcz14_0 : w12.cell? ⟨gb101, 0, none⟩ = some (.slice A0_0 l0_0.length c0_0) := (zK BK101.out 0).trans rfl; have hfz14_0 := zG BK101.out 0; have hcz15_0 : w12.cell? ⟨gb102, 0, none⟩ = some (.slice A1_0 l1_0.length c1_0) := (zK BK102.out 0).trans rfl; have hfz15_0 := zG BK102.out 0) | ((with_reducible refine zX (f := 66) rfl ?_); refine qI (some 9) rfl rfl Try.func66 (by kernel_rfl) rfl #[.slice A0_0 l0_0.length c0_0, .slice A1_0 l1_0.length c1_0] rfl (by (try simp only [yiy, yjy, yky]); first | done | rfl | (simp only [yly, ymy]; rfl)) ?_; (with_reducible refine (zq.calls k _ _ l0_0 _ _ l1_0 false _ ?side1 ?side2 ?side3 ?side4 A3.out).mono ?_); (case side1 => repeat (first | exact (Kd.qD HR0_0.out HB.out) | (with_reducible refine Kd.qA ?_ _) | (with_reducible refine Kd.qB ?_ _) | (with_reducible refine Kd.qP ?_))); (case side2 => exact HC0_0.out); (case side3 => repeat (first | exact (Kd.qD HR1_0.out HB.out) | (with_reducible refine Kd.qA ?_ _) | (with_reducible refine Kd.qB ?_ _) | (with_reducible refine Kd.qP ?_))); (case side4 => exact HC1_0.out); rintro e w16 ⟨rfl, hb⟩; refine ⟨_, rfl, ?_⟩; have n0_ := zA.mk (zO (g := gb101) (o := .cells #[.slice A0_0 l0_0.length c0_0] 30 (0, 0)) (by (with_reducible repeat (first | refine zI ?_ _ | refine zL ?_ | refine zH ?_ _)); exact BK101.out) hb); have n1_ := zA.mk (zO (g := gb102) (o := .cells #[.slice A1_0 l1_0.length c1_0] 30 (0, 0)) (by (with_reducible repeat (first | refine zI ?_ _ | refine zL ?_ | refine zH ?_ _)); exact BK102.out) hb); have n2_ := zA.mk (zN (by repeat (first | (with_reducible first | exact HB.out | apply zC | apply zB | apply zD | refine zF ?_ GE101.out | refine zF ?_ GE102.out) | exact HB.out)) hb); clear BK101; clear BK102; clear HB; have BK101 := n0_; have BK102 := n1_; have HB := n2_; clear n0_ n1_ n2_; (try clear hb); (try clear hb2); (try clear hk); (try clear hi)))
    go_ret
    exact ⟨by first | rfl | (simp [zS, zT] <;> rfl) | (simp [*, zS, zT] <;> rfl), by repeat (first | (with_reducible first | exact HB.out | apply zC | apply zB | apply zD | refine zF ?_ GE101.out | refine zF ?_ GE102.out) | exact HB.out)⟩
def qM.l0 : Nat → List Int → Int → Int → Option (Int)
  | 0, _, _, _ => none
  | k + 1, x0, x1, x5 => if x5 < (x0.length : Int) then (if 0 ≤ x5 then (if (rd x0 x5) = x1 then (qM.l0 k x0 (wrap64 (x1 + 1)) (wrap64 (x5 + 1))) else (some (-1))) else (none)) else (some x1)
def qM.f (k : Nat) (l0 : List Int) (a1 : Int) : Option (Int) := qM.l0 k l0 a1 0
set_option maxHeartbeats 8000000 in
set_option maxRecDepth 100000 in
theorem qM.calls (k : Nat) (A0 : Option Addr) (c0 : Nat) (l0 : List Int) (a1 : Int) (r : Int) (w : World) (hr0 : Kd.C (Kd.int .i64) w A0 l0.length l0) (hc0 : l0.length ≤ c0) (h : qM.f k l0 a1 = some r) :
    Calls Try.prog 35 #[.slice A0 l0.length c0, .int .i64 a1] w fun e w' => e = .returned (.int .i64 r) ∧ zi w w' := by
  have HR0 := zA.mk hr0
  have HC0 := zA.mk hc0
  clear hr0 hc0
  have H : (qM.l0 k l0 a1 0) = some r := h
  clear h
  have H' := zA.mk H
  clear H
  go_enter Try.func35, Try.ntmps35
  go_wp2
  go_loopg [1, 5] k (fun kq v1 v5 w' => ∃ (x1_1 : Int) (x5_1 : Int), v1 = .int .i64 x1_1 ∧ v5 = .int .i64 x5_1 ∧ zA (qM.l0 kq l0 x1_1 x5_1 = some r) ∧ zA (kq ≤ k) ∧ zi w w')
  case atStart => exact ⟨(a1), (0), (by first | rfl | (simp; done) | (simp [*]; done)), (by first | rfl | (simp; done) | (simp [*]; done)), H', ⟨yoy _⟩, by repeat (first | exact zi.refl _ | apply zi.step)⟩
  case round =>
    clear H'
    try clear p2
    obtain ⟨x1_1, x5_1, rfl, rfl, HA, HK1, ⟨m1, rfl⟩⟩ := hrel
    cases gk with
    | zero => exact absurd HA.out (by simp [qM.l0])
    | succ k1 =>
      have H := HA.out
      clear HA
      simp only [qM.l0] at H
      by_cases c3 : x5_1 < (l0.length : Int)
      · rw [if_pos c3] at H
        have c3b0 : decide (x5_1 < (l0.length : Int)) = true := ygy c3
        clear c3
        by_cases c4 : 0 ≤ x5_1
        · rw [if_pos c4] at H
          have c4b0 : decide (0 ≤ x5_1) = true := ygy c4
          clear c4
          by_cases c5 : (rd l0 x5_1) = x1_1
          · rw [if_pos c5] at H
            have c5b0 : ((rd l0 x5_1) == x1_1) = true := beq_iff_eq.mpr c5
            have c5b1 : ((rd l0 x5_1) != x1_1) = false := bne_eq_false_iff_eq.mpr c5
            clear c5
            have H' := zA.mk H
            clear H
            have p101 : 0 ≤ (x5_1 : Int) := of_decide_eq_true (by first | (with_reducible assumption) | assumption)
            have q101 : x5_1 < (l0.length : Int) := of_decide_eq_true (by first | (with_reducible assumption) | assumption)
            obtain ⟨ad101, e101, hx101_0⟩ := Kd.ZP HR0.out x5_1 p101 q101
            cases e101
            replace p101 := eq_true p101
            replace q101 := eq_true q101
            go_wp2
            go_roundg k1
            case measure => have := HK1.out; omega
            case rel => exact ⟨(wrap64 (x1_1 + 1)), (wrap64 (x5_1 + 1)), (by first | rfl | (simp; done) | (simp [*]; done)), (by first | rfl | (simp; done) | (simp [*]; done)), H', ⟨by have := HK1.out; omega⟩, by repeat (first | exact zi.refl _ | apply zi.step)⟩
          · rw [if_neg c5] at H
            have c5b0 : ((rd l0 x5_1) == x1_1) = false := beq_eq_false_iff_ne.mpr c5
            have c5b1 : ((rd l0 x5_1) != x1_1) = true := bne_iff_ne.mpr c5
            obtain rfl := yey H
            have p101 : 0 ≤ (x5_1 : Int) := of_decide_eq_true (by first | (with_reducible assumption) | assumption)
            have q101 : x5_1 < (l0.length : Int) := of_decide_eq_true (by first | (with_reducible assumption) | assumption)
            obtain ⟨ad101, e101, hx101_0⟩ := Kd.ZP HR0.out x5_1 p101 q101
            cases e101
            replace p101 := eq_true p101
            replace q101 := eq_true q101
            go_wp2
            go_ret
            exact ⟨by first | rfl | (simp; done) | (simp [*]; done), by repeat (first | exact zi.refl _ | apply zi.step)⟩
        · rw [if_neg c4] at H
          exact absurd H (by simp)
      · rw [if_neg c3] at H
        have c3b0 : decide (x5_1 < (l0.length : Int)) = false := yhy c3
        clear c3
        obtain rfl := yey H
        go_wp2
        go_ret
        exact ⟨by first | rfl | (simp; done) | (simp [*]; done), by repeat (first | exact zi.refl _ | apply zi.step)⟩
def ZM.f (k : Nat) (a0_0 : Int) (a0_1 : Int) (l0_2 : List Int) (a1 : Int) : Option (Int) := (qM.f k l0_2 a1).bind fun t102 => (if t102 < 0 then (some (-1)) else (some t102))
set_option maxHeartbeats 8000000 in
set_option maxRecDepth 100000 in
theorem ZM.calls (k : Nat) (a0_0 : Int) (a0_1 : Int) (A0_2 : Option Addr) (c0_2 : Nat) (l0_2 : List Int) (a1 : Int) (r : Int) (w : World) (hr0_2 : Kd.C (Kd.int .i64) w A0_2 l0_2.length l0_2) (hc0_2 : l0_2.length ≤ c0_2) (h : ZM.f k a0_0 a0_1 l0_2 a1 = some r) :
    Calls Try.prog 27 #[.agg #[.int .i64 a0_0, .int .i64 a0_1, .slice A0_2 l0_2.length c0_2], .int .i64 a1] w fun e w' => e = .returned (.int .i64 r) ∧ Below w.heap.size w w' := by
  have hu37 := Try.underlying37
  have HR0_2 := zA.mk hr0_2
  have HC0_2 := zA.mk hc0_2
  clear hr0_2 hc0_2
  have HB := zA.mk (ypy w.heap.size w)
  have H : ((qM.f k l0_2 a1).bind fun t102 => (if t102 < 0 then (some (-1)) else (some t102))) = some r := h
  clear h
  replace H := ydy.mp H
  obtain ⟨t102, A30, H⟩ := H
  replace H : (if t102 < 0 then (some (-1)) else (some t102)) = some r := H
  have A3 := zA.mk A30
  clear A30
  by_cases c4 : t102 < 0
  · rw [if_pos c4] at H
    have c4b0 : decide (t102 < 0) = true := ygy c4
    clear c4
    obtain rfl := yey H
    go_enter Try.func27, Try.ntmps27
    go_wp2_with (first | ((with_reducible refine ze (N := 2) rfl ?_); refine zc ?hg (N := 2) ?hd (cs := #[.int .i64 a0_0, .int .i64 a0_1, .slice A0_2 l0_2.length c0_2]) (t := 37) ?hr ?_; (case hd => rfl); (case hg => rfl); (case hr => first | (go_simp; done) | (go_simp; rfl)); intro gb101 hg w5 hbox hb; have n0_ := zA.mk (zN (by repeat (first | (with_reducible first | exact HB.out | apply zC | apply zB | apply zD) | exact HB.out)) hb); have n1_ := zA.mk (hbox); have n2_ := zA.mk ((by rw [hg]; exact (zP (by repeat (first | (with_reducible first | exact HB.out | apply zC | apply zB | apply zD) | exact HB.out))) : w.heap.size ≤ gb101)); have n3_ := zA.mk ((by rw [hg]; exact (zP (by repeat (first | (with_reducible first | exact HB.out | apply zC | apply zB | apply zD) | exact HB.out))) : w.heap.size ≤ gb101)); clear HB; have HB := n0_; have BK101 := n1_; have GW101 := n2_; have GE101 := n3_; clear n0_ n1_ n2_ n3_; clear hb hbox hg; have hcz6_0 : w5.cell? ⟨gb101, 0, none⟩ = some (.int .i64 a0_0) := (zK BK101.out 0).trans rfl; have hcz6_1 : w5.cell? ⟨gb101, 1, none⟩ = some (.int .i64 a0_1) := (zK BK101.out 1).trans rfl; have hcz6_2 : w5.cell? ⟨gb101, 2, none⟩ = some (.slice A0_2 l0_2.length c0_2) := (zK BK101.out 2).trans rfl; have hfz6_0 := zG BK101.out 0; have hfz6_1 := zG BK101.out 1; have hfz6_2 := zG BK101.out 2) | ((with_reducible refine zX (f := 35) rfl ?_); refine qI (some 8) rfl rfl Try.func35 (by kernel_rfl) rfl #[.slice A0_2 l0_2.length c0_2, .int .i64 a1] rfl (by (try simp only [yiy, yjy, yky]); first | done | rfl | (simp only [yly, ymy]; rfl)) ?_; (with_reducible refine (qM.calls k _ _ l0_2 a1 t102 _ ?side1 ?side2 A3.out).mono ?_); (case side1 => repeat (first | exact (Kd.qD HR0_2.out HB.out) | (with_reducible refine Kd.qA ?_ _) | (with_reducible refine Kd.qB ?_ _) | (with_reducible refine Kd.qP ?_))); (case side2 => exact HC0_2.out); rintro e w' ⟨rfl, ⟨nd, rfl⟩⟩; refine ⟨_, rfl, ?_⟩))
    go_ret
    exact ⟨by first | rfl | (simp [zS, zT] <;> rfl) | (simp [*, zS, zT] <;> rfl), by repeat (first | (with_reducible first | exact HB.out | apply zC | apply zB | apply zD | refine zF ?_ GE101.out) | exact HB.out)⟩
  · rw [if_neg c4] at H
    have c4b0 : decide (t102 < 0) = false := yhy c4
    clear c4
    obtain rfl := yey H
    go_enter Try.func27, Try.ntmps27
    go_wp2_with (first | ((with_reducible refine ze (N := 2) rfl ?_); refine zc ?hg (N := 2) ?hd (cs := #[.int .i64 a0_0, .int .i64 a0_1, .slice A0_2 l0_2.length c0_2]) (t := 37) ?hr ?_; (case hd => rfl); (case hg => rfl); (case hr => first | (go_simp; done) | (go_simp; rfl)); intro gb101 hg w7 hbox hb; have n0_ := zA.mk (zN (by repeat (first | (with_reducible first | exact HB.out | apply zC | apply zB | apply zD) | exact HB.out)) hb); have n1_ := zA.mk (hbox); have n2_ := zA.mk ((by rw [hg]; exact (zP (by repeat (first | (with_reducible first | exact HB.out | apply zC | apply zB | apply zD) | exact HB.out))) : w.heap.size ≤ gb101)); have n3_ := zA.mk ((by rw [hg]; exact (zP (by repeat (first | (with_reducible first | exact HB.out | apply zC | apply zB | apply zD) | exact HB.out))) : w.heap.size ≤ gb101)); clear HB; have HB := n0_; have BK101 := n1_; have GW101 := n2_; have GE101 := n3_; clear n0_ n1_ n2_ n3_; clear hb hbox hg; have hcz8_0 : w7.cell? ⟨gb101, 0, none⟩ = some (.int .i64 a0_0) := (zK BK101.out 0).trans rfl; have hcz8_1 : w7.cell? ⟨gb101, 1, none⟩ = some (.int .i64 a0_1) := (zK BK101.out 1).trans rfl; have hcz8_2 : w7.cell? ⟨gb101, 2, none⟩ = some (.slice A0_2 l0_2.length c0_2) := (zK BK101.out 2).trans rfl; have hfz8_0 := zG BK101.out 0; have hfz8_1 := zG BK101.out 1; have hfz8_2 := zG BK101.out 2) | ((with_reducible refine zX (f := 35) rfl ?_); refine qI (some 8) rfl rfl Try.func35 (by kernel_rfl) rfl #[.slice A0_2 l0_2.length c0_2, .int .i64 a1] rfl (by (try simp only [yiy, yjy, yky]); first | done | rfl | (simp only [yly, ymy]; rfl)) ?_; (with_reducible refine (qM.calls k _ _ l0_2 a1 t102 _ ?side1 ?side2 A3.out).mono ?_); (case side1 => repeat (first | exact (Kd.qD HR0_2.out HB.out) | (with_reducible refine Kd.qA ?_ _) | (with_reducible refine Kd.qB ?_ _) | (with_reducible refine Kd.qP ?_))); (case side2 => exact HC0_2.out); rintro e w' ⟨rfl, ⟨nd, rfl⟩⟩; refine ⟨_, rfl, ?_⟩))
    go_ret
    exact ⟨by first | rfl | (simp [zS, zT] <;> rfl) | (simp [*, zS, zT] <;> rfl), by repeat (first | (with_reducible first | exact HB.out | apply zC | apply zB | apply zD | refine zF ?_ GE101.out) | exact HB.out)⟩
end Go.Proofs.Ythjpdljdodalaaa.P
