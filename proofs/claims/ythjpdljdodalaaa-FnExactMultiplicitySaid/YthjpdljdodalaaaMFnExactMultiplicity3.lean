/- The statement FnExactMultiplicitySaid, proved: part 3 of 7 (texts of this session and of the kit's print, put together and cut to what is used by a program of it). -/
import Derived.Test.YthjpdljdodalaaaMFnExactMultiplicity2
namespace Go.Proofs.Ythjpdljdodalaaa.P
open Go.RowKit Go.Proofs.YthjpdljdodalaaaW.PrintWords Go.Proofs.YthjpdljdodalaaaW.PrintLast Go.Proofs.YthjpdljdodalaaaW.PrintMore
attribute [local go_sem] QN QO Qh Qi Zy Zz QP QQ
set_option linter.unusedVariables false
set_option linter.unusedSimpArgs false
section
attribute [local go_sem high] zF8
def zS.j0 : Nat → Int → Int → Bool → List (List (qI)) → Int → Int → Option (Bool)
 | 0, _, _, _, _, _, _ => none
 | k + 1, x1, x2, x34, x102000, x105000, x105001 => if x34 = true then (some false) else ((ZC.f x105000 x105001 x2).bind fun t107 => (if 0 ≤ x105000 then (if x105000 < (x102000.length : Int) then (if 0 ≤ t107 then (if t107 < ((zE x102000 x105000).length : Int) then ((qp.f x105000 x105001 x1).bind fun bt110 => (if (((zH (zE x102000 x105000) t107).f0) == bt110.1 && (((zH (zE x102000 x105000) t107).f1) == bt110.2)) = true then (if x105000 = x1 then (some (t107 != x2)) else (some true)) else (some false))) else (none)) else (none)) else (none)) else (none)))
def zS.f (k : Nat) (l0_0 : List (List (qI))) (a1 : Int) (a2 : Int) : Option (Bool) := if 0 ≤ a1 then (if a1 < (l0_0.length : Int) then (if 0 ≤ a2 then (if a2 < ((zE l0_0 a1).length : Int) then (if ((zH (zE l0_0 a1) a2).f0) = (-1) then (some (((zH (zE l0_0 a1) a2).f1) == 0)) else ((qh.f l0_0 ((zH (zE l0_0 a1) a2).f0)).bind fun t105 => (if t105 = true then ((Zk.f ((zH (zE l0_0 a1) a2).f1)).bind fun t106 => (zS.j0 k a1 a2 (!t106) l0_0 ((zH (zE l0_0 a1) a2).f0) ((zH (zE l0_0 a1) a2).f1))) else (zS.j0 k a1 a2 true l0_0 ((zH (zE l0_0 a1) a2).f0) ((zH (zE l0_0 a1) a2).f1))))) else (none)) else (none)) else (none)) else (none)
def zS.T7 : Bool × List (List Nat × List Nat) := (true, [([], []), ([0], [0]), ([], []), ([2], [2]), ([1, 3], [1, 3]), ([4], [4]), ([], []), ([5, 6], [5, 6]), ([7], [7]), ([], []), ([], []), ([9, 10], [9, 10]), ([8, 11], [8, 11]), ([12, 11], [12]), ([13], [13]), ([14, 13], [13, 14]), ([13], [13]), ([15, 16, 13], [13, 15, 16]), ([17, 13, 13], [13, 17]), ([18], [18]), ([18], [18]), ([19, 20, 18], [18, 19, 20]), ([18, 21, 13], [13, 18, 21]), ([13, 22], [13, 22]), ([23, 18, 0, 1, 2, 3, 4, 5, 6, 7, 8, 9, 10, 11, 12, 13, 14, 15, 16, 17, 18, 19, 20, 21, 22, 23], [23])])
def zS.B7 : List Nat := [0, 1, 0, 4, 15, 31, 0, 127, 255, 0, 0, 1536, 4095, 8191, 16383, 32767, 16383, 131071, 262143, 524287, 524287, 2097151, 4194303, 8388607, 16777215]
theorem zS.tab7 : zAA .any (opsOf Try.f145 7) = zS.T7 := by kernel_rfl
theorem zS.zFP : QZ zS.T7.2 zS.B7 = true := by kernel_rfl
set_option maxHeartbeats 8000000 in
set_option maxRecDepth 100000 in
theorem zS.calls (k : Nat) (A0_0 : Option Addr) (c0_0 : Nat) (l0_0 : List (List (qI))) (a1 : Int) (a2 : Int) (r : Bool) (w : World) (hr0_0 : Kd.C (Kd.slice 115 ZP) w A0_0 l0_0.length l0_0) (hc0_0 : l0_0.length ≤ c0_0) (h : zS.f k l0_0 a1 a2 = some r) :
 Calls Try.prog 145 #[.agg #[.slice A0_0 l0_0.length c0_0], .int .i64 a1, .int .i64 a2] w fun e w' => e = .returned (.bool r) ∧ Below w.heap.size w w' := by
 have hu30 := Try.underlying30
 have hu115 := Try.underlying115
 have HR0_0 := zB.mk hr0_0
 have HC0_0 := zB.mk hc0_0
 clear hr0_0 hc0_0
 have HB := zB.mk (yry w.heap.size w)
 have H : (if 0 ≤ a1 then (if a1 < (l0_0.length : Int) then (if 0 ≤ a2 then (if a2 < ((zE l0_0 a1).length : Int) then (if ((zH (zE l0_0 a1) a2).f0) = (-1) then (some (((zH (zE l0_0 a1) a2).f1) == 0)) else ((qh.f l0_0 ((zH (zE l0_0 a1) a2).f0)).bind fun t105 => (if t105 = true then ((Zk.f ((zH (zE l0_0 a1) a2).f1)).bind fun t106 => (zS.j0 k a1 a2 (!t106) l0_0 ((zH (zE l0_0 a1) a2).f0) ((zH (zE l0_0 a1) a2).f1))) else (zS.j0 k a1 a2 true l0_0 ((zH (zE l0_0 a1) a2).f0) ((zH (zE l0_0 a1) a2).f1))))) else (none)) else (none)) else (none)) else (none)) = some r := h
 clear h
 by_cases c4 : 0 ≤ a1
 next =>
  rw [if_pos c4] at H
  have c4b0 : decide (0 ≤ a1) = true := ygy c4
  clear c4
  by_cases c5 : a1 < (l0_0.length : Int)
  next =>
   rw [if_pos c5] at H
   have c5b0 : decide (a1 < (l0_0.length : Int)) = true := ygy c5
   clear c5
   by_cases c6 : 0 ≤ a2
   next =>
    rw [if_pos c6] at H
    have c6b0 : decide (0 ≤ a2) = true := ygy c6
    clear c6
    by_cases c7 : a2 < ((zE l0_0 a1).length : Int)
    next =>
     rw [if_pos c7] at H
     have c7b0 : decide (a2 < ((zE l0_0 a1).length : Int)) = true := ygy c7
     clear c7
     by_cases c8 : ((zH (zE l0_0 a1) a2).f0) = (-1)
     next =>
      rw [if_pos c8] at H
      have c8b0 : (((zH (zE l0_0 a1) a2).f0) == (-1)) = true := beq_iff_eq.mpr c8
      have c8b1 : (((zH (zE l0_0 a1) a2).f0) != (-1)) = false := bne_eq_false_iff_eq.mpr c8
      clear c8
      obtain rfl := yey H
      go_enter Try.func145, Try.ntmps145
      go_wp2_with (first | ((with_reducible refine zj (N := 3) rfl ?_); refine zg ?hg (N := 3) ?hd (cs := #[.slice A0_0 l0_0.length c0_0]) (t := 30) ?hr ?_; (case hd => rfl); (case hg => rfl); (case hr => first | (go_simp; done) | (go_simp; rfl)); intro gb101 hg w9 hbox hb; have n0_ := zB.mk (zL (by repeat (first | (with_reducible first | exact HB.out | apply zC | apply zA | apply zD) | exact HB.out)) hb); have n1_ := zB.mk (hbox); have n2_ := zB.mk ((by rw [hg]; exact (zO (by repeat (first | (with_reducible first | exact HB.out | apply zC | apply zA | apply zD) | exact HB.out))) : w.heap.size ≤ gb101)); have n3_ := zB.mk ((by rw [hg]; exact (zO (by repeat (first | (with_reducible first | exact HB.out | apply zC | apply zA | apply zD) | exact HB.out))) : w.heap.size ≤ gb101)); clear HB; have HB := n0_; have BK101 := n1_; have GW101 := n2_; have GE101 := n3_; clear n0_ n1_ n2_ n3_; clear hb hbox hg; have hcz10_0 : w9.cell? ⟨gb101, 0, none⟩ = some (.slice A0_0 l0_0.length c0_0) := (zM BK101.out 0).trans rfl; have hfz10_0 := zN BK101.out 0; have p102 : 0 ≤ (a1 : Int) := of_decide_eq_true (by first | (with_reducible assumption) | assumption); have q102 : a1 < (l0_0.length : Int) := of_decide_eq_true (by first | (with_reducible assumption) | assumption); obtain ⟨ad102, A102_0, c102_0, e102, hx102_0, hl102_0, hi102_0⟩ := ZI HR0_0.out a1 p102 q102; cases e102; replace hx102_0 := (HB.out.cell (ypy w _ hx102_0)).trans hx102_0; have HR102_0 := zB.mk hi102_0; have HC102_0 := zB.mk hl102_0; clear hi102_0 hl102_0; replace p102 := eq_true p102; replace q102 := eq_true q102; have p103 : 0 ≤ (a2 : Int) := of_decide_eq_true (by first | (with_reducible assumption) | assumption); have q103 : a2 < ((zE l0_0 a1).length : Int) := of_decide_eq_true (by first | (with_reducible assumption) | assumption); obtain ⟨ad103, e103, hx103_0, hx103_1⟩ := Zg HR102_0.out a2 p103 q103; cases e103; replace hx103_0 := (HB.out.cell (ypy w _ hx103_0)).trans hx103_0; replace hx103_1 := (HB.out.cell (ypy w _ hx103_1)).trans hx103_1; replace p103 := eq_true p103; replace q103 := eq_true q103) | ((with_reducible refine zj (N := 7) rfl ?_); refine zg ?hg (N := 7) ?hd (cs := #[.int .i64 0, .int .i64 0]) (t := 115) ?hr ?_; (case hd => rfl); (case hg => rfl); (case hr => first | (go_simp; done) | (go_simp; rfl)); intro gb104 hg w11 hbox hb; have n0_ := zB.mk (zP (g := gb101) (o := .cells #[.slice (some ad102) l0_0.length c0_0] 30 (0, 0)) (by (with_reducible repeat (first | refine zI ?_ _ | refine zJ ?_ | refine zG ?_ _)); exact BK101.out) hb); have n1_ := zB.mk (zL (by repeat (first | (with_reducible first | exact HB.out | apply zC | apply zA | apply zD | refine zF ?_ GE101.out) | exact HB.out)) hb); have n2_ := zB.mk (hbox); have n3_ := zB.mk ((by rw [hg]; exact (zO (by repeat (first | (with_reducible first | exact HB.out | apply zC | apply zA | apply zD | refine zF ?_ GE101.out) | exact HB.out))) : w.heap.size ≤ gb104)); have n4_ := zB.mk ((by rw [hg]; exact (zO (by repeat (first | (with_reducible first | exact HB.out | apply zC | apply zA | apply zD | refine zF ?_ GE101.out) | exact HB.out))) : w.heap.size ≤ gb104)); have n5_ := zB.mk ((by rw [hg]; exact Nat.ne_of_lt (qc (g := gb101) (o := .cells #[.slice (some ad102) l0_0.length c0_0] 30 (0, 0)) (by (with_reducible repeat (first | refine zI ?_ _ | refine zJ ?_ | refine zG ?_ _)); exact BK101.out)) : gb101 ≠ gb104)); have n6_ := zB.mk ((by rw [hg]; exact Nat.ne_of_gt (qc (g := gb101) (o := .cells #[.slice (some ad102) l0_0.length c0_0] 30 (0, 0)) (by (with_reducible repeat (first | refine zI ?_ _ | refine zJ ?_ | refine zG ?_ _)); exact BK101.out)) : gb104 ≠ gb101)); clear BK101; clear HB; have BK101 := n0_; have HB := n1_; have BK104 := n2_; have GW104 := n3_; have GE104 := n4_; have NB101_104 := n5_; have NB104_101 := n6_; clear n0_ n1_ n2_ n3_ n4_ n5_ n6_; clear hb hbox hg; have hnb12 := NB104_101.out; have hnc12 := NB101_104.out; have hcz13_0 : w11.cell? ⟨gb104, 0, none⟩ = some (.int .i64 0) := (zM BK104.out 0).trans rfl; have hcz13_1 : w11.cell? ⟨gb104, 1, none⟩ = some (.int .i64 0) := (zM BK104.out 1).trans rfl; have hfz13_0 := zN BK104.out 0; have hfz13_1 := zN BK104.out 1))
      go_ret
      exact ⟨by first | rfl | (simp [zQ, zR] <;> rfl) | (simp [*, zQ, zR] <;> rfl), by repeat (first | (with_reducible first | exact HB.out | apply zC | apply zA | apply zD | refine zF ?_ GE101.out | refine zF ?_ GE104.out) | exact HB.out)⟩
     next =>
      rw [if_neg c8] at H
      have c8b0 : (((zH (zE l0_0 a1) a2).f0) == (-1)) = false := beq_eq_false_iff_ne.mpr c8
      have c8b1 : (((zH (zE l0_0 a1) a2).f0) != (-1)) = true := bne_iff_ne.mpr c8
      have HC14 := zB.mk H
      clear H
      go_enter Try.func145, Try.ntmps145
      go_upto_region 4 with (first | ((with_reducible refine zj (N := 3) rfl ?_); refine zg ?hg (N := 3) ?hd (cs := #[.slice A0_0 l0_0.length c0_0]) (t := 30) ?hr ?_; (case hd => rfl); (case hg => rfl); (case hr => first | (go_simp; done) | (go_simp; rfl)); intro gb101 hg w15 hbox hb; have n0_ := zB.mk (zL (by repeat (first | (with_reducible first | exact HB.out | apply zC | apply zA | apply zD) | exact HB.out)) hb); have n1_ := zB.mk (hbox); have n2_ := zB.mk ((by rw [hg]; exact (zO (by repeat (first | (with_reducible first | exact HB.out | apply zC | apply zA | apply zD) | exact HB.out))) : w.heap.size ≤ gb101)); have n3_ := zB.mk ((by rw [hg]; exact (zO (by repeat (first | (with_reducible first | exact HB.out | apply zC | apply zA | apply zD) | exact HB.out))) : w.heap.size ≤ gb101)); clear HB; have HB := n0_; have BK101 := n1_; have GW101 := n2_; have GE101 := n3_; clear n0_ n1_ n2_ n3_; clear hb hbox hg; have hcz16_0 : w15.cell? ⟨gb101, 0, none⟩ = some (.slice A0_0 l0_0.length c0_0) := (zM BK101.out 0).trans rfl; have hfz16_0 := zN BK101.out 0; have p102 : 0 ≤ (a1 : Int) := of_decide_eq_true (by first | (with_reducible assumption) | assumption); have q102 : a1 < (l0_0.length : Int) := of_decide_eq_true (by first | (with_reducible assumption) | assumption); obtain ⟨ad102, A102_0, c102_0, e102, hx102_0, hl102_0, hi102_0⟩ := ZI HR0_0.out a1 p102 q102; cases e102; replace hx102_0 := (HB.out.cell (ypy w _ hx102_0)).trans hx102_0; have HR102_0 := zB.mk hi102_0; have HC102_0 := zB.mk hl102_0; clear hi102_0 hl102_0; replace p102 := eq_true p102; replace q102 := eq_true q102; have p103 : 0 ≤ (a2 : Int) := of_decide_eq_true (by first | (with_reducible assumption) | assumption); have q103 : a2 < ((zE l0_0 a1).length : Int) := of_decide_eq_true (by first | (with_reducible assumption) | assumption); obtain ⟨ad103, e103, hx103_0, hx103_1⟩ := Zg HR102_0.out a2 p103 q103; cases e103; replace hx103_0 := (HB.out.cell (ypy w _ hx103_0)).trans hx103_0; replace hx103_1 := (HB.out.cell (ypy w _ hx103_1)).trans hx103_1; replace p103 := eq_true p103; replace q103 := eq_true q103) | ((with_reducible refine zj (N := 7) rfl ?_); refine zg ?hg (N := 7) ?hd (cs := #[.int .i64 0, .int .i64 0]) (t := 115) ?hr ?_; (case hd => rfl); (case hg => rfl); (case hr => first | (go_simp; done) | (go_simp; rfl)); intro gb104 hg w17 hbox hb; have n0_ := zB.mk (zP (g := gb101) (o := .cells #[.slice (some ad102) l0_0.length c0_0] 30 (0, 0)) (by (with_reducible repeat (first | refine zI ?_ _ | refine zJ ?_ | refine zG ?_ _)); exact BK101.out) hb); have n1_ := zB.mk (zL (by repeat (first | (with_reducible first | exact HB.out | apply zC | apply zA | apply zD | refine zF ?_ GE101.out) | exact HB.out)) hb); have n2_ := zB.mk (hbox); have n3_ := zB.mk ((by rw [hg]; exact (zO (by repeat (first | (with_reducible first | exact HB.out | apply zC | apply zA | apply zD | refine zF ?_ GE101.out) | exact HB.out))) : w.heap.size ≤ gb104)); have n4_ := zB.mk ((by rw [hg]; exact (zO (by repeat (first | (with_reducible first | exact HB.out | apply zC | apply zA | apply zD | refine zF ?_ GE101.out) | exact HB.out))) : w.heap.size ≤ gb104)); have n5_ := zB.mk ((by rw [hg]; exact Nat.ne_of_lt (qc (g := gb101) (o := .cells #[.slice (some ad102) l0_0.length c0_0] 30 (0, 0)) (by (with_reducible repeat (first | refine zI ?_ _ | refine zJ ?_ | refine zG ?_ _)); exact BK101.out)) : gb101 ≠ gb104)); have n6_ := zB.mk ((by rw [hg]; exact Nat.ne_of_gt (qc (g := gb101) (o := .cells #[.slice (some ad102) l0_0.length c0_0] 30 (0, 0)) (by (with_reducible repeat (first | refine zI ?_ _ | refine zJ ?_ | refine zG ?_ _)); exact BK101.out)) : gb104 ≠ gb101)); clear BK101; clear HB; have BK101 := n0_; have HB := n1_; have BK104 := n2_; have GW104 := n3_; have GE104 := n4_; have NB101_104 := n5_; have NB104_101 := n6_; clear n0_ n1_ n2_ n3_ n4_ n5_ n6_; clear hb hbox hg; have hnb18 := NB104_101.out; have hnc18 := NB101_104.out; have hcz19_0 : w17.cell? ⟨gb104, 0, none⟩ = some (.int .i64 0) := (zM BK104.out 0).trans rfl; have hcz19_1 : w17.cell? ⟨gb104, 1, none⟩ = some (.int .i64 0) := (zM BK104.out 1).trans rfl; have hfz19_0 := zN BK104.out 0; have hfz19_1 := zN BK104.out 1))
      (try simp only [Act.put, yay, yby, ycy])
      go_cut [34] (fun v34 wc => ∃ (kq : Nat) (x34_13 : Bool), v34 = .bool x34_13 ∧ zB (zS.j0 kq a1 a2 x34_13 l0_0 ((zH (zE l0_0 a1) a2).f0) ((zH (zE l0_0 a1) a2).f1) = some r) ∧ zB (kq ≤ k) ∧ zB (wc.heap[gb101]? = some (.cells #[(.slice (some ad102) l0_0.length c0_0)] 30 (0, 0))) ∧ zB (wc.heap[gb104]? = some (.cells #[.int .i64 ((zH (zE l0_0 a1) a2).f0), .int .i64 ((zH (zE l0_0 a1) a2).f1)] 115 (0, 0))) ∧ zB (Below w.heap.size w wc))
      case first =>
       have H := HC14.out
       clear HC14
       replace H := ydy.mp H
       obtain ⟨t105, A200, H⟩ := H
       replace H : (if t105 = true then ((Zk.f ((zH (zE l0_0 a1) a2).f1)).bind fun t106 => (zS.j0 k a1 a2 (!t106) l0_0 ((zH (zE l0_0 a1) a2).f0) ((zH (zE l0_0 a1) a2).f1))) else (zS.j0 k a1 a2 true l0_0 ((zH (zE l0_0 a1) a2).f0) ((zH (zE l0_0 a1) a2).f1))) = some r := H
       have A20 := zB.mk A200
       clear A200
       by_cases c21 : t105 = true
       next =>
        subst c21
        have H1 : ((Zk.f ((zH (zE l0_0 a1) a2).f1)).bind fun t106 => (zS.j0 k a1 a2 (!t106) l0_0 ((zH (zE l0_0 a1) a2).f0) ((zH (zE l0_0 a1) a2).f1))) = some r := by rw [if_pos rfl] at H; exact H
        clear H
        have H := H1
        clear H1
        replace H := ydy.mp H
        obtain ⟨t106, A220, H⟩ := H
        replace H : (zS.j0 k a1 a2 (!t106) l0_0 ((zH (zE l0_0 a1) a2).f0) ((zH (zE l0_0 a1) a2).f1)) = some r := H
        have A22 := zB.mk A220
        clear A220
        have H' := zB.mk H
        clear H
        have hnb23 := NB101_104.out
        have hnc23 := NB104_101.out
        have hcz24_0 : w17.cell? ⟨gb101, 0, none⟩ = some (.slice (some ad102) l0_0.length c0_0) := (zM BK101.out 0).trans rfl
        have hfz24_0 := zN BK101.out 0
        have hcz25_0 : w17.cell? ⟨gb104, 0, none⟩ = some (.int .i64 0) := (zM BK104.out 0).trans rfl
        have hcz25_1 : w17.cell? ⟨gb104, 1, none⟩ = some (.int .i64 0) := (zM BK104.out 1).trans rfl
        have hfz25_0 := zN BK104.out 0
        have hfz25_1 := zN BK104.out 1
        go_wp2_with (first | ((with_reducible refine zU (f := 163) rfl ?_); refine qH (some 27) rfl rfl Try.func163 (by kernel_rfl) rfl #[.slice (some ad102) l0_0.length c0_0, .int .i64 ((zH (zE l0_0 a1) a2).f0)] rfl (by (try simp only [yiy, yjy, yky]); first | done | rfl | (simp only [yly, ymy]; rfl)) ?_; (with_reducible refine (qh.calls _ _ l0_0 ((zH (zE l0_0 a1) a2).f0) true _ ?side1 ?side2 A20.out).mono ?_); (case side1 => exact Kd.zY HR0_0.out (by repeat (first | (with_reducible first | exact HB.out | apply zC | apply zA | apply zD | refine zF ?_ GE101.out | refine zF ?_ GE104.out) | exact HB.out))); (case side2 => exact HC0_0.out); rintro e w' ⟨rfl, ⟨nd, rfl⟩⟩; refine ⟨_, rfl, ?_⟩) | (go_at_call 164; (with_reducible refine (Zk.calls ((zH (zE l0_0 a1) a2).f1) t106 _ A22.out).mono ?_); rintro e w' ⟨rfl, ⟨nd, rfl⟩⟩))
        go_meet
        case rel => exact ⟨_, (!t106), (by first | rfl | (simp; done) | (simp [*]; done)), H', ⟨by first | omega | exact yqy _⟩, ⟨by (with_reducible repeat (first | refine zI ?_ _ | refine zJ ?_ | refine zG ?_ _)); refine qW ?_ NB101_104.out _; (with_reducible repeat (first | refine zI ?_ _ | refine zJ ?_ | refine zG ?_ _)); refine qW ?_ NB101_104.out _; (with_reducible repeat (first | refine zI ?_ _ | refine zJ ?_ | refine zG ?_ _)); exact BK101.out⟩, ⟨by (with_reducible repeat (first | refine zI ?_ _ | refine zJ ?_ | refine zG ?_ _)); refine qa (cs := #[.int .i64 ((zH (zE l0_0 a1) a2).f0), .int .i64 0]) ?_ 1 _ rfl; (with_reducible repeat (first | refine zI ?_ _ | refine zJ ?_ | refine zG ?_ _)); refine qa (cs := #[.int .i64 0, .int .i64 0]) ?_ 0 _ rfl; (with_reducible repeat (first | refine zI ?_ _ | refine zJ ?_ | refine zG ?_ _)); exact BK104.out⟩, ⟨by repeat (first | (with_reducible first | exact HB.out | apply zC | apply zA | apply zD | refine zF ?_ GE101.out | refine zF ?_ GE104.out) | exact HB.out)⟩⟩
       next =>
        replace c21 := Bool.eq_false_iff.mpr c21
        subst c21
        have H1 : (zS.j0 k a1 a2 true l0_0 ((zH (zE l0_0 a1) a2).f0) ((zH (zE l0_0 a1) a2).f1)) = some r := by rw [if_neg (show ¬ (false = true) by decide)] at H; exact H
        clear H
        have H := H1
        clear H1
        have H' := zB.mk H
        clear H
        have hnb26 := NB101_104.out
        have hnc26 := NB104_101.out
        have hcz27_0 : w17.cell? ⟨gb101, 0, none⟩ = some (.slice (some ad102) l0_0.length c0_0) := (zM BK101.out 0).trans rfl
        have hfz27_0 := zN BK101.out 0
        have hcz28_0 : w17.cell? ⟨gb104, 0, none⟩ = some (.int .i64 0) := (zM BK104.out 0).trans rfl
        have hcz28_1 : w17.cell? ⟨gb104, 1, none⟩ = some (.int .i64 0) := (zM BK104.out 1).trans rfl
        have hfz28_0 := zN BK104.out 0
        have hfz28_1 := zN BK104.out 1
        go_wp2_with (first | ((with_reducible refine zU (f := 163) rfl ?_); refine qH (some 27) rfl rfl Try.func163 (by kernel_rfl) rfl #[.slice (some ad102) l0_0.length c0_0, .int .i64 ((zH (zE l0_0 a1) a2).f0)] rfl (by (try simp only [yiy, yjy, yky]); first | done | rfl | (simp only [yly, ymy]; rfl)) ?_; (with_reducible refine (qh.calls _ _ l0_0 ((zH (zE l0_0 a1) a2).f0) false _ ?side1 ?side2 A20.out).mono ?_); (case side1 => exact Kd.zY HR0_0.out (by repeat (first | (with_reducible first | exact HB.out | apply zC | apply zA | apply zD | refine zF ?_ GE101.out | refine zF ?_ GE104.out) | exact HB.out))); (case side2 => exact HC0_0.out); rintro e w' ⟨rfl, ⟨nd, rfl⟩⟩; refine ⟨_, rfl, ?_⟩))
        go_meet
        case rel => exact ⟨_, (true), (by first | rfl | (simp; done) | (simp [*]; done)), H', ⟨by first | omega | exact yqy _⟩, ⟨by (with_reducible repeat (first | refine zI ?_ _ | refine zJ ?_ | refine zG ?_ _)); refine qW ?_ NB101_104.out _; (with_reducible repeat (first | refine zI ?_ _ | refine zJ ?_ | refine zG ?_ _)); refine qW ?_ NB101_104.out _; (with_reducible repeat (first | refine zI ?_ _ | refine zJ ?_ | refine zG ?_ _)); exact BK101.out⟩, ⟨by (with_reducible repeat (first | refine zI ?_ _ | refine zJ ?_ | refine zG ?_ _)); refine qa (cs := #[.int .i64 ((zH (zE l0_0 a1) a2).f0), .int .i64 0]) ?_ 1 _ rfl; (with_reducible repeat (first | refine zI ?_ _ | refine zJ ?_ | refine zG ?_ _)); refine qa (cs := #[.int .i64 0, .int .i64 0]) ?_ 0 _ rfl; (with_reducible repeat (first | refine zI ?_ _ | refine zJ ?_ | refine zG ?_ _)); exact BK104.out⟩, ⟨by repeat (first | (with_reducible first | exact HB.out | apply zC | apply zA | apply zD | refine zF ?_ GE101.out | refine zF ?_ GE104.out) | exact HB.out)⟩⟩
      case rest =>
       clear HC14
       try clear c1
       try clear p1
       try clear q1
       try clear hx1
       try clear c2
       try clear p2
       try clear c4
       try clear c4b0
       try clear c5
       try clear c5b0
       try clear c6
       try clear c6b0
       try clear c7
       try clear c7b0
       try clear c8
       try clear c8b0
       try clear c8b1
       try clear c10
       try clear p10
       try clear q10
       try clear hx10
       try clear c12
       try clear c14
       try clear c16
       try clear c18
       try clear c21
       try clear c23
       try clear c26
       try clear hcz10_0
       try clear hcz13_0
       try clear hcz13_1
       try clear hcz16_0
       try clear hcz19_0
       try clear hcz19_1
       try clear hcz24_0
       try clear hcz25_0
       try clear hcz25_1
       try clear hcz27_0
       try clear hcz28_0
       try clear hcz28_1
       try clear hfz10_0
       try clear hfz13_0
       try clear hfz13_1
       try clear hfz16_0
       try clear hfz19_0
       try clear hfz19_1
       try clear hfz24_0
       try clear hfz25_0
       try clear hfz25_1
       try clear hfz27_0
       try clear hfz28_0
       try clear hfz28_1
       try clear hx102_0
       try clear hx103_0
       try clear hx103_1
       try clear p102
       try clear p103
       try clear q102
       try clear q103
       obtain ⟨kq, x34_13, rfl, HA, HJ13, BK101, BK104, HB⟩ := hcut
       cases kq with
       | zero => exact absurd HA.out (by simp [zS.j0])
       | succ kj13 =>
        have H := HA.out
        clear HA
        simp only [zS.j0] at H
        by_cases c29 : x34_13 = true
        next =>
         subst c29
         have H1 : (some false) = some r := by rw [if_pos rfl] at H; exact H
         clear H
         have H := H1
         clear H1
         obtain rfl := yey H
         go_wp2
         go_ret
         exact ⟨by first | rfl | (simp [zQ, zR] <;> rfl) | (simp [*, zQ, zR] <;> rfl), by repeat (first | (with_reducible first | exact HB.out | apply zC | apply zA | apply zD | refine zF ?_ GE101.out | refine zF ?_ GE104.out) | exact HB.out)⟩
        next =>
         replace c29 := Bool.eq_false_iff.mpr c29
         subst c29
         have H1 : ((ZC.f ((zH (zE l0_0 a1) a2).f0) ((zH (zE l0_0 a1) a2).f1) a2).bind fun t107 => (if 0 ≤ ((zH (zE l0_0 a1) a2).f0) then (if ((zH (zE l0_0 a1) a2).f0) < (l0_0.length : Int) then (if 0 ≤ t107 then (if t107 < ((zE l0_0 ((zH (zE l0_0 a1) a2).f0)).length : Int) then ((qp.f ((zH (zE l0_0 a1) a2).f0) ((zH (zE l0_0 a1) a2).f1) a1).bind fun bt110 => (if (((zH (zE l0_0 ((zH (zE l0_0 a1) a2).f0)) t107).f0) == bt110.1 && (((zH (zE l0_0 ((zH (zE l0_0 a1) a2).f0)) t107).f1) == bt110.2)) = true then (if ((zH (zE l0_0 a1) a2).f0) = a1 then (some (t107 != a2)) else (some true)) else (some false))) else (none)) else (none)) else (none)) else (none))) = some r := by rw [if_neg (show ¬ (false = true) by decide)] at H; exact H
         clear H
         have H := H1
         clear H1
         replace H := ydy.mp H
         obtain ⟨t107, A300, H⟩ := H
         replace H : (if 0 ≤ ((zH (zE l0_0 a1) a2).f0) then (if ((zH (zE l0_0 a1) a2).f0) < (l0_0.length : Int) then (if 0 ≤ t107 then (if t107 < ((zE l0_0 ((zH (zE l0_0 a1) a2).f0)).length : Int) then ((qp.f ((zH (zE l0_0 a1) a2).f0) ((zH (zE l0_0 a1) a2).f1) a1).bind fun bt110 => (if (((zH (zE l0_0 ((zH (zE l0_0 a1) a2).f0)) t107).f0) == bt110.1 && (((zH (zE l0_0 ((zH (zE l0_0 a1) a2).f0)) t107).f1) == bt110.2)) = true then (if ((zH (zE l0_0 a1) a2).f0) = a1 then (some (t107 != a2)) else (some true)) else (some false))) else (none)) else (none)) else (none)) else (none)) = some r := H
         have A30 := zB.mk A300
         clear A300
         by_cases c31 : 0 ≤ ((zH (zE l0_0 a1) a2).f0)
         next =>
          rw [if_pos c31] at H
          have c31b0 : decide (0 ≤ ((zH (zE l0_0 a1) a2).f0)) = true := ygy c31
          clear c31
          by_cases c32 : ((zH (zE l0_0 a1) a2).f0) < (l0_0.length : Int)
          next =>
           rw [if_pos c32] at H
           have c32b0 : decide (((zH (zE l0_0 a1) a2).f0) < (l0_0.length : Int)) = true := ygy c32
           clear c32
           by_cases c33 : 0 ≤ t107
           next =>
            rw [if_pos c33] at H
            have c33b0 : decide (0 ≤ t107) = true := ygy c33
            clear c33
            by_cases c34 : t107 < ((zE l0_0 ((zH (zE l0_0 a1) a2).f0)).length : Int)
            next =>
             rw [if_pos c34] at H
             have c34b0 : decide (t107 < ((zE l0_0 ((zH (zE l0_0 a1) a2).f0)).length : Int)) = true := ygy c34
             clear c34
             replace H := ydy.mp H
             obtain ⟨⟨t110, t111⟩, A350, H⟩ := H
             replace H : (if (((zH (zE l0_0 ((zH (zE l0_0 a1) a2).f0)) t107).f0) == t110 && (((zH (zE l0_0 ((zH (zE l0_0 a1) a2).f0)) t107).f1) == t111)) = true then (if ((zH (zE l0_0 a1) a2).f0) = a1 then (some (t107 != a2)) else (some true)) else (some false)) = some r := H
             have A35 := zB.mk A350
             clear A350
             by_cases c36 : (((zH (zE l0_0 ((zH (zE l0_0 a1) a2).f0)) t107).f0) == t110 && (((zH (zE l0_0 ((zH (zE l0_0 a1) a2).f0)) t107).f1) == t111)) = true
             next =>
              rw [if_pos c36] at H
              have c36b0 : (((zH (zE l0_0 ((zH (zE l0_0 a1) a2).f0)) t107).f0) == t110 && (((zH (zE l0_0 ((zH (zE l0_0 a1) a2).f0)) t107).f1) == t111)) = true := c36
              (try (have c36b1 : decide (((zH (zE l0_0 ((zH (zE l0_0 a1) a2).f0)) t107).f0) = t110 && (((zH (zE l0_0 ((zH (zE l0_0 a1) a2).f0)) t107).f1) == t111)) = true := by simpa using c36))
              (try (have c36b2 : (((zH (zE l0_0 ((zH (zE l0_0 a1) a2).f0)) t107).f0) == t110 && (((zH (zE l0_0 ((zH (zE l0_0 a1) a2).f0)) t107).f1) == t111)) = true := by simpa using c36))
              clear c36
              by_cases c37 : ((zH (zE l0_0 a1) a2).f0) = a1
              next =>
               rw [if_pos c37] at H
               have c37b0 : (((zH (zE l0_0 a1) a2).f0) == a1) = true := beq_iff_eq.mpr c37
               have c37b1 : (((zH (zE l0_0 a1) a2).f0) != a1) = false := bne_eq_false_iff_eq.mpr c37
               clear c37
               obtain rfl := yey H
               have hnb38 := NB104_101.out
               have hnc38 := NB101_104.out
               have hcz39_0 : wc.cell? ⟨gb104, 0, none⟩ = some (.int .i64 ((zH (zE l0_0 a1) a2).f0)) := (zM BK104.out 0).trans rfl
               have hcz39_1 : wc.cell? ⟨gb104, 1, none⟩ = some (.int .i64 ((zH (zE l0_0 a1) a2).f1)) := (zM BK104.out 1).trans rfl
               have hfz39_0 := zN BK104.out 0
               have hfz39_1 := zN BK104.out 1
               try go_wp2_with (first | ((with_reducible refine zU (f := 165) rfl ?_); refine qH (some 37) rfl rfl Try.func165 (by kernel_rfl) rfl #[.agg #[.int .i64 ((zH (zE l0_0 a1) a2).f0), .int .i64 ((zH (zE l0_0 a1) a2).f1)], .int .i64 a2] rfl (by (try simp only [yiy, yjy, yky]); first | done | rfl | (simp only [yly, ymy]; rfl)) ?_; (with_reducible refine (ZC.calls ((zH (zE l0_0 a1) a2).f0) ((zH (zE l0_0 a1) a2).f1) a2 t107 _ A30.out).mono ?_); rintro e w40 ⟨rfl, hb⟩; refine ⟨_, rfl, ?_⟩; have n0_ := zB.mk (zP (g := gb101) (o := .cells #[.slice (some ad102) l0_0.length c0_0] 30 (0, 0)) (by (with_reducible repeat (first | refine zI ?_ _ | refine zJ ?_ | refine zG ?_ _)); exact BK101.out) hb); have n1_ := zB.mk (zP (g := gb104) (o := .cells #[.int .i64 ((zH (zE l0_0 a1) a2).f0), .int .i64 ((zH (zE l0_0 a1) a2).f1)] 115 (0, 0)) (by (with_reducible repeat (first | refine zI ?_ _ | refine zJ ?_ | refine zG ?_ _)); exact BK104.out) hb); have n2_ := zB.mk (zL (by repeat (first | (with_reducible first | exact HB.out | apply zC | apply zA | apply zD | refine zF ?_ GE101.out | refine zF ?_ GE104.out) | exact HB.out)) hb); clear BK101; clear BK104; clear HB; have BK101 := n0_; have BK104 := n1_; have HB := n2_; clear n0_ n1_ n2_; (try clear hb); (try clear hb2); (try clear hk); (try clear hi)))
               have n0_ := zB.mk (zJ BK101.out)
               have n1_ := zB.mk (zJ BK104.out)
               have n2_ := zB.mk (zD HB.out)
               clear BK101
               clear BK104
               clear HB
               have BK101 := n0_
               have BK104 := n1_
               have HB := n2_
               clear n0_ n1_ n2_
               have p108 : 0 ≤ (((zH (zE l0_0 a1) a2).f0) : Int) := of_decide_eq_true (by first | (with_reducible assumption) | assumption)
               have q108 : ((zH (zE l0_0 a1) a2).f0) < (l0_0.length : Int) := of_decide_eq_true (by first | (with_reducible assumption) | assumption)
               obtain ⟨ad108, A108_0, c108_0, e108, hx108_0, hl108_0, hi108_0⟩ := ZI HR0_0.out ((zH (zE l0_0 a1) a2).f0) p108 q108
               have hw108_0 := hx108_0
               obtain rfl : ad102 = ad108 := (by injection e108)
               replace hx108_0 := (HB.out.cell (ypy w _ hx108_0)).trans hx108_0
               have HR108_0 := zB.mk hi108_0
               have HC108_0 := zB.mk hl108_0
               clear hi108_0 hl108_0
               replace p108 := eq_true p108
               replace q108 := eq_true q108
               have p109 : 0 ≤ (t107 : Int) := of_decide_eq_true (by first | (with_reducible assumption) | assumption)
               have q109 : t107 < ((zE l0_0 ((zH (zE l0_0 a1) a2).f0)).length : Int) := of_decide_eq_true (by first | (with_reducible assumption) | assumption)
               obtain ⟨ad109, e109, hx109_0, hx109_1⟩ := Zg HR108_0.out t107 p109 q109
               have hw109_1 := hx109_1
               have hw109_0 := hx109_0
               cases e109
               replace hx109_0 := (HB.out.cell (ypy w _ hx109_0)).trans hx109_0
               replace hx109_1 := (HB.out.cell (ypy w _ hx109_1)).trans hx109_1
               replace p109 := eq_true p109
               replace q109 := eq_true q109
               refine Zu (n := 25) (S := fun w' => w'.cell? ⟨gb101, 0, none⟩ = some (.slice (some ad102) l0_0.length c0_0) ∧ w'.cell? ⟨gb104, 0, none⟩ = some (.int .i64 ((zH (zE l0_0 a1) a2).f0)) ∧ w'.cell? ⟨gb104, 1, none⟩ = some (.int .i64 ((zH (zE l0_0 a1) a2).f1)) ∧ w'.cell? (ad102.add (((zH (zE l0_0 a1) a2).f0)).toNat) = some (.slice (some ad109) (zE l0_0 ((zH (zE l0_0 a1) a2).f0)).length c108_0) ∧ w'.cell? (ad109.add ((t107).toNat * 2)) = some (.int .i64 ((zH (zE l0_0 ((zH (zE l0_0 a1) a2).f0)) t107).f0)) ∧ w'.cell? ⟨(ad109.add ((t107).toNat * 2)).block, (ad109.add ((t107).toNat * 2)).off + 1, none⟩ = some (.int .i64 ((zH (zE l0_0 ((zH (zE l0_0 a1) a2).f0)) t107).f1))) (ds := []) #[false, false, false, false, false, false, false, false, false, false, false, false, false, false, false, false, false, false, false, false, false, false, false, false, false] (by kernel_rfl) rfl rfl ⟨(zM BK101.out 0).trans rfl, (zM BK104.out 0).trans rfl, (zM BK104.out 1).trans rfl, ((HB.out.cell (ypy w _ hw108_0)).trans hw108_0), ((HB.out.cell (ypy w _ hw109_0)).trans hw109_0), ((HB.out.cell (ypy w _ hw109_1)).trans hw109_1)⟩ (fun hHeld => ?_); refine ZU zS.tab7 zS.zFP (fun HT_ HW_ => ?_)
               generalize w40.drew = w41 at BK101 BK104 HB HR108_0 hx108_0 hx109_0 hx109_1 hHeld ⊢
               refine zk (i := 0) (N := some 38) (v := ?_) (a' := ?_) #[true, false, false, false, false, false, false, false, false, false, false, false, false, false, false, false, false, false, false, false, false, false, false, false, false] rfl rfl (zc HT_.out (by kernel_rfl)) (fun _ _ _ h => h) (Or.inl ⟨by rfl, ?_⟩) ?_ ?_
               rotate_left
               next =>
                intro w'
                go_simp
                with_reducible rfl
               rotate_left
               next =>
                simp only [Act.put, yay, yby, ycy, zW, zX]
                rfl
               refine zk (i := 2) (N := some 40) (v := ?_) (a' := ?_) #[true, false, true, false, false, false, false, false, false, false, false, false, false, false, false, false, false, false, false, false, false, false, false, false, false] rfl rfl (zc HT_.out (by kernel_rfl)) (fun _ _ _ h => h) (Or.inl ⟨by rfl, ?_⟩) ?_ ?_
               rotate_left
               next =>
                intro w'
                go_simp
                with_reducible rfl
               rotate_left
               next =>
                simp only [Act.put, yay, yby, ycy, zW, zX]
                rfl
               refine zk (i := 6) (N := some 44) (v := ?_) (a' := ?_) #[true, false, true, false, false, false, true, false, false, false, false, false, false, false, false, false, false, false, false, false, false, false, false, false, false] rfl rfl (zc HT_.out (by kernel_rfl)) (fun _ _ _ h => h) (Or.inl ⟨by rfl, ?_⟩) ?_ ?_
               rotate_left
               next =>
                intro w'
                go_simp
                with_reducible rfl
               rotate_left
               next =>
                simp only [Act.put, yay, yby, ycy, zW, zX]
                rfl
               refine zk (i := 10) (N := some 48) (v := ?_) (a' := ?_) #[true, false, true, false, false, false, true, false, false, false, true, false, false, false, false, false, false, false, false, false, false, false, false, false, false] rfl rfl (zc HT_.out (by kernel_rfl)) (fun _ _ _ h => h) (Or.inl ⟨by rfl, ?_⟩) ?_ ?_
               rotate_left
               next =>
                intro w'
                go_simp
                with_reducible rfl
               rotate_left
               next =>
                simp only [Act.put, yay, yby, ycy, zW, zX]
                rfl
               refine qq (i := 1) (N := some 39) (v := ?_) (a' := ?_) #[true, true, true, false, false, false, true, false, false, false, true, false, false, false, false, false, false, false, false, false, false, false, false, false, false] rfl rfl (qJ HT_.out HW_.out (by kernel_rfl)) (fun _ _ _ h => h) (Or.inl ⟨by rfl, ?_⟩) hHeld ?_ ?_
               rotate_left
               next =>
                rintro w' ⟨s0, s1, s2, s3, s4, s5⟩
                go_simp
                with_reducible rfl
               rotate_left
               next =>
                simp only [Act.put, yay, yby, ycy, zW, zX]
                rfl
               refine qq (i := 3) (N := some 41) (v := ?_) (a' := ?_) #[true, true, true, true, false, false, true, false, false, false, true, false, false, false, false, false, false, false, false, false, false, false, false, false, false] rfl rfl (qJ HT_.out HW_.out (by kernel_rfl)) (fun _ _ _ h => h) (Or.inl ⟨by rfl, ?_⟩) hHeld ?_ ?_
               rotate_left
               next =>
                rintro w' ⟨s0, s1, s2, s3, s4, s5⟩
                go_simp
                with_reducible rfl
               rotate_left
               next =>
                simp only [Act.put, yay, yby, ycy, zW, zX]
                rfl
               refine zk (i := 4) (N := some 42) (v := ?_) (a' := ?_) #[true, true, true, true, true, false, true, false, false, false, true, false, false, false, false, false, false, false, false, false, false, false, false, false, false] rfl rfl (zc HT_.out (by kernel_rfl)) (fun _ _ _ h => h) (Or.inl ⟨by rfl, ?_⟩) ?_ ?_
               rotate_left
               next =>
                intro w'
                go_simp
                with_reducible rfl
               rotate_left
               next =>
                simp only [Act.put, yay, yby, ycy, zW, zX]
                rfl
               refine qq (i := 5) (N := some 43) (v := ?_) (a' := ?_) #[true, true, true, true, true, true, true, false, false, false, true, false, false, false, false, false, false, false, false, false, false, false, false, false, false] rfl rfl (qJ HT_.out HW_.out (by kernel_rfl)) (fun _ _ _ h => h) (Or.inl ⟨by rfl, ?_⟩) hHeld ?_ ?_
               rotate_left
               next =>
                rintro w' ⟨s0, s1, s2, s3, s4, s5⟩
                go_simp
                with_reducible rfl
               rotate_left
               next =>
                simp only [Act.put, yay, yby, ycy, zW, zX]
                rfl
               refine zk (i := 7) (N := some 45) (v := ?_) (a' := ?_) #[true, true, true, true, true, true, true, true, false, false, true, false, false, false, false, false, false, false, false, false, false, false, false, false, false] rfl rfl (zc HT_.out (by kernel_rfl)) (fun _ _ _ h => h) (Or.inl ⟨by rfl, ?_⟩) ?_ ?_
               rotate_left
               next =>
                intro w'
                go_simp
                with_reducible rfl
               rotate_left
               next =>
                simp only [Act.put, yay, yby, ycy, zW, zX]
                rfl
               refine qq (i := 8) (N := some 46) (v := ?_) (a' := ?_) #[true, true, true, true, true, true, true, true, true, false, true, false, false, false, false, false, false, false, false, false, false, false, false, false, false] rfl rfl (qJ HT_.out HW_.out (by kernel_rfl)) (fun _ _ _ h => h) (Or.inl ⟨by rfl, ?_⟩) hHeld ?_ ?_
               rotate_left
               next =>
                rintro w' ⟨s0, s1, s2, s3, s4, s5⟩
                go_simp
                with_reducible rfl
               rotate_left
               next =>
                simp only [Act.put, yay, yby, ycy, zW, zX]
                rfl
               refine qq (i := 9) (N := some 47) (v := ?_) (a' := ?_) #[true, true, true, true, true, true, true, true, true, true, true, false, false, false, false, false, false, false, false, false, false, false, false, false, false] rfl rfl (qJ HT_.out HW_.out (by kernel_rfl)) (fun _ _ _ h => h) (Or.inl ⟨by rfl, ?_⟩) hHeld ?_ ?_
               rotate_left
               next =>
                rintro w' ⟨s0, s1, s2, s3, s4, s5⟩
                go_simp
                with_reducible rfl
               rotate_left
               next =>
                simp only [Act.put, yay, yby, ycy, zW, zX]
                rfl
               refine zAU (i := 11) (N := some 49) #[true, true, true, true, true, true, true, true, true, true, true, true, false, false, false, false, false, false, false, false, false, false, false, false, false] rfl rfl (QB HT_.out (by kernel_rfl)) (by decide) (fun K hK => ?_)
               refine JJ Try.func166 (by kernel_rfl) rfl #[.agg #[.int .i64 ((zH (zE l0_0 a1) a2).f0), .int .i64 ((zH (zE l0_0 a1) a2).f1)], .int .i64 a1] (by rfl) rfl rfl (by (try simp only [yiy, yjy, yky]); first | done | rfl | (simp only [yly, ymy]; rfl)) ?_
               with_reducible refine (qp.calls ((zH (zE l0_0 a1) a2).f0) ((zH (zE l0_0 a1) a2).f1) a1 t110 t111 _ A35.out).mono ?_
               rintro e w42 ⟨rfl, hb⟩
               refine ⟨_, rfl, ?_⟩
               have n0_ := zB.mk (zP (g := gb101) (o := .cells #[.slice (some ad102) l0_0.length c0_0] 30 (0, 0)) (by (with_reducible repeat (first | refine zI ?_ _ | refine zJ ?_ | refine zG ?_ _)); exact BK101.out) hb)
               have n1_ := zB.mk (zP (g := gb104) (o := .cells #[.int .i64 ((zH (zE l0_0 a1) a2).f0), .int .i64 ((zH (zE l0_0 a1) a2).f1)] 115 (0, 0)) (by (with_reducible repeat (first | refine zI ?_ _ | refine zJ ?_ | refine zG ?_ _)); exact BK104.out) hb)
               have n2_ := zB.mk (zL (by repeat (first | (with_reducible first | exact HB.out | apply zC | apply zA | apply zD | refine zF ?_ GE101.out | refine zF ?_ GE104.out) | exact HB.out)) hb)
               clear BK101
               clear BK104
               clear HB
               have BK101 := n0_
               have BK104 := n1_
               have HB := n2_
               clear n0_ n1_ n2_
               (try clear hb)
               (try clear hb2)
               (try clear hk)
               (try clear hi)
               refine hK.out _ _ ⟨(zM BK101.out 0).trans rfl, (zM BK104.out 0).trans rfl, (zM BK104.out 1).trans rfl, ((HB.out.cell (ypy w _ hw108_0)).trans hw108_0), ((HB.out.cell (ypy w _ hw109_0)).trans hw109_0), ((HB.out.cell (ypy w _ hw109_1)).trans hw109_1)⟩ (fun hHeld => ?_)
               clear hK K
               refine QS (a' := ?_) ?_ ?_
               rotate_left
               next =>
                show Act.put _ (some 49) _ = _
                simp only [Act.put, yay, yby, ycy, zW, zX]
                rfl
               refine zk (i := 12) (N := some 50) (v := ?_) (a' := ?_) #[true, true, true, true, true, true, true, true, true, true, true, true, true, false, false, false, false, false, false, false, false, false, false, false, false] rfl rfl (zc HT_.out (by kernel_rfl)) (fun _ _ _ h => h) (Or.inl ⟨by rfl, ?_⟩) ?_ ?_
               rotate_left
               next =>
                intro w'
                go_simp
                with_reducible rfl
               rotate_left
               next =>
                simp only [Act.put, yay, yby, ycy, zW, zX]
                rfl
               refine zk (i := 13) (N := some 51) (v := ?_) (a' := ?_) #[true, true, true, true, true, true, true, true, true, true, true, true, true, true, false, false, false, false, false, false, false, false, false, false, false] rfl rfl (zc HT_.out (by kernel_rfl)) (fun _ _ _ h => h) (Or.inl ⟨by rfl, ?_⟩) ?_ ?_
               rotate_left
               next =>
                intro w'
                go_simp
                with_reducible rfl
               rotate_left
               next =>
                simp only [Act.put, yay, yby, ycy, zW, zX]
                rfl
               refine zk (i := 14) (N := some 52) (v := ?_) (a' := ?_) #[true, true, true, true, true, true, true, true, true, true, true, true, true, true, true, false, false, false, false, false, false, false, false, false, false] rfl rfl (zc HT_.out (by kernel_rfl)) (fun _ _ _ h => h) (Or.inl ⟨by rfl, ?_⟩) ?_ ?_
               rotate_left
               next =>
                intro w'
                go_simp
                with_reducible rfl
               rotate_left
               next =>
                simp only [Act.put, yay, yby, ycy, zW, zX]
                rfl
               refine zk (i := 16) (N := some 54) (v := ?_) (a' := ?_) #[true, true, true, true, true, true, true, true, true, true, true, true, true, true, true, false, true, false, false, false, false, false, false, false, false] rfl rfl (zc HT_.out (by kernel_rfl)) (fun _ _ _ h => h) (Or.inl ⟨by rfl, ?_⟩) ?_ ?_
               rotate_left
               next =>
                intro w'
                go_simp
                with_reducible rfl
               rotate_left
               next =>
                simp only [Act.put, yay, yby, ycy, zW, zX]
                rfl
               refine qq (i := 15) (N := some 53) (v := ?_) (a' := ?_) #[true, true, true, true, true, true, true, true, true, true, true, true, true, true, true, true, true, false, false, false, false, false, false, false, false] rfl rfl (qJ HT_.out HW_.out (by kernel_rfl)) (fun _ _ _ h => h) (Or.inl ⟨by rfl, ?_⟩) hHeld ?_ ?_
               rotate_left
               next =>
                rintro w' ⟨s0, s1, s2, s3, s4, s5⟩
                go_simp
                with_reducible rfl
               rotate_left
               next =>
                simp only [Act.put, yay, yby, ycy, zW, zX]
                rfl
               refine zk (i := 17) (N := some 55) (v := ?_) (a' := ?_) #[true, true, true, true, true, true, true, true, true, true, true, true, true, true, true, true, true, true, false, false, false, false, false, false, false] rfl rfl (zc HT_.out (by kernel_rfl)) (fun _ _ _ h => h) (Or.inl ⟨by rfl, ?_⟩) ?_ ?_
               rotate_left
               next =>
                intro w'
                go_simp
                with_reducible rfl
               rotate_left
               next =>
                simp only [Act.put, yay, yby, ycy, zW, zX]
                rfl
               refine zk (i := 18) (N := some 56) (v := ?_) (a' := ?_) #[true, true, true, true, true, true, true, true, true, true, true, true, true, true, true, true, true, true, true, false, false, false, false, false, false] rfl rfl (zc HT_.out (by kernel_rfl)) (fun _ _ _ h => h) (Or.inl ⟨by rfl, ?_⟩) ?_ ?_
               rotate_left
               next =>
                intro w'
                go_simp
                with_reducible rfl
               rotate_left
               next =>
                simp only [Act.put, yay, yby, ycy, zW, zX]
                rfl
               refine zk (i := 19) (N := some 57) (v := ?_) (a' := ?_) #[true, true, true, true, true, true, true, true, true, true, true, true, true, true, true, true, true, true, true, true, false, false, false, false, false] rfl rfl (zc HT_.out (by kernel_rfl)) (fun _ _ _ h => h) (Or.inl ⟨by rfl, ?_⟩) ?_ ?_
               rotate_left
               next =>
                intro w'
                go_simp
                with_reducible rfl
               rotate_left
               next =>
                simp only [Act.put, yay, yby, ycy, zW, zX]
                rfl
               refine zk (i := 20) (N := some 58) (v := ?_) (a' := ?_) #[true, true, true, true, true, true, true, true, true, true, true, true, true, true, true, true, true, true, true, true, true, false, false, false, false] rfl rfl (zc HT_.out (by kernel_rfl)) (fun _ _ _ h => h) (Or.inl ⟨by rfl, ?_⟩) ?_ ?_
               rotate_left
               next =>
                intro w'
                go_simp
                with_reducible rfl
               rotate_left
               next =>
                simp only [Act.put, yay, yby, ycy, zW, zX]
                rfl
               refine zk (i := 21) (N := some 59) (v := ?_) (a' := ?_) #[true, true, true, true, true, true, true, true, true, true, true, true, true, true, true, true, true, true, true, true, true, true, false, false, false] rfl rfl (zc HT_.out (by kernel_rfl)) (fun _ _ _ h => h) (Or.inl ⟨by rfl, ?_⟩) ?_ ?_
               rotate_left
               next =>
                intro w'
                go_simp
                with_reducible rfl
               rotate_left
               next =>
                simp only [Act.put, yay, yby, ycy, zW, zX]
                rfl
               refine zk (i := 22) (N := some 60) (v := ?_) (a' := ?_) #[true, true, true, true, true, true, true, true, true, true, true, true, true, true, true, true, true, true, true, true, true, true, true, false, false] rfl rfl (zc HT_.out (by kernel_rfl)) (fun _ _ _ h => h) (Or.inl ⟨by rfl, ?_⟩) ?_ ?_
               rotate_left
               next =>
                intro w'
                go_simp
                with_reducible rfl
               rotate_left
               next =>
                simp only [Act.put, yay, yby, ycy, zW, zX]
                rfl
               refine zk (i := 23) (N := some 61) (v := ?_) (a' := ?_) #[true, true, true, true, true, true, true, true, true, true, true, true, true, true, true, true, true, true, true, true, true, true, true, true, false] rfl rfl (zc HT_.out (by kernel_rfl)) (fun _ _ _ h => h) (Or.inl ⟨by rfl, ?_⟩) ?_ ?_
               rotate_left
               next =>
                intro w'
                go_simp
                with_reducible rfl
               rotate_left
               next =>
                simp only [Act.put, yay, yby, ycy, zW, zX]
                rfl
               refine zk (i := 24) (N := some 6) (v := ?_) (a' := ?_) #[true, true, true, true, true, true, true, true, true, true, true, true, true, true, true, true, true, true, true, true, true, true, true, true, true] rfl rfl (zc HT_.out (by kernel_rfl)) (fun _ _ _ h => h) (Or.inl ⟨by rfl, ?_⟩) ?_ ?_
               rotate_left
               next =>
                intro w'
                go_simp
                with_reducible rfl
               rotate_left
               next =>
                simp only [Act.put, yay, yby, ycy, zW, zX]
                rfl
               refine Qe (Zw HT_.out (by kernel_rfl)) ?_
               try go_wp2
               go_ret
               exact ⟨by first | rfl | (simp [zQ, zR] <;> rfl) | (simp [*, zQ, zR] <;> rfl), by repeat (first | (with_reducible first | exact HB.out | apply zC | apply zA | apply zD | refine zF ?_ GE101.out | refine zF ?_ GE104.out) | exact HB.out)⟩
              next =>
               rw [if_neg c37] at H
               have c37b0 : (((zH (zE l0_0 a1) a2).f0) == a1) = false := beq_eq_false_iff_ne.mpr c37
               have c37b1 : (((zH (zE l0_0 a1) a2).f0) != a1) = true := bne_iff_ne.mpr c37
               obtain rfl := yey H
               have hnb43 := NB104_101.out
               have hnc43 := NB101_104.out
               have hcz44_0 : wc.cell? ⟨gb104, 0, none⟩ = some (.int .i64 ((zH (zE l0_0 a1) a2).f0)) := (zM BK104.out 0).trans rfl
               have hcz44_1 : wc.cell? ⟨gb104, 1, none⟩ = some (.int .i64 ((zH (zE l0_0 a1) a2).f1)) := (zM BK104.out 1).trans rfl
               have hfz44_0 := zN BK104.out 0
               have hfz44_1 := zN BK104.out 1
               try go_wp2_with (first | ((with_reducible refine zU (f := 165) rfl ?_); refine qH (some 37) rfl rfl Try.func165 (by kernel_rfl) rfl #[.agg #[.int .i64 ((zH (zE l0_0 a1) a2).f0), .int .i64 ((zH (zE l0_0 a1) a2).f1)], .int .i64 a2] rfl (by (try simp only [yiy, yjy, yky]); first | done | rfl | (simp only [yly, ymy]; rfl)) ?_; (with_reducible refine (ZC.calls ((zH (zE l0_0 a1) a2).f0) ((zH (zE l0_0 a1) a2).f1) a2 t107 _ A30.out).mono ?_); rintro e w45 ⟨rfl, hb⟩; refine ⟨_, rfl, ?_⟩; have n0_ := zB.mk (zP (g := gb101) (o := .cells #[.slice (some ad102) l0_0.length c0_0] 30 (0, 0)) (by (with_reducible repeat (first | refine zI ?_ _ | refine zJ ?_ | refine zG ?_ _)); exact BK101.out) hb); have n1_ := zB.mk (zP (g := gb104) (o := .cells #[.int .i64 ((zH (zE l0_0 a1) a2).f0), .int .i64 ((zH (zE l0_0 a1) a2).f1)] 115 (0, 0)) (by (with_reducible repeat (first | refine zI ?_ _ | refine zJ ?_ | refine zG ?_ _)); exact BK104.out) hb); have n2_ := zB.mk (zL (by repeat (first | (with_reducible first | exact HB.out | apply zC | apply zA | apply zD | refine zF ?_ GE101.out | refine zF ?_ GE104.out) | exact HB.out)) hb); clear BK101; clear BK104; clear HB; have BK101 := n0_; have BK104 := n1_; have HB := n2_; clear n0_ n1_ n2_; (try clear hb); (try clear hb2); (try clear hk); (try clear hi)))
               have n0_ := zB.mk (zJ BK101.out)
               have n1_ := zB.mk (zJ BK104.out)
               have n2_ := zB.mk (zD HB.out)
               clear BK101
               clear BK104
               clear HB
               have BK101 := n0_
               have BK104 := n1_
               have HB := n2_
               clear n0_ n1_ n2_
               have p108 : 0 ≤ (((zH (zE l0_0 a1) a2).f0) : Int) := of_decide_eq_true (by first | (with_reducible assumption) | assumption)
               have q108 : ((zH (zE l0_0 a1) a2).f0) < (l0_0.length : Int) := of_decide_eq_true (by first | (with_reducible assumption) | assumption)
               obtain ⟨ad108, A108_0, c108_0, e108, hx108_0, hl108_0, hi108_0⟩ := ZI HR0_0.out ((zH (zE l0_0 a1) a2).f0) p108 q108
               have hw108_0 := hx108_0
               obtain rfl : ad102 = ad108 := (by injection e108)
               replace hx108_0 := (HB.out.cell (ypy w _ hx108_0)).trans hx108_0
               have HR108_0 := zB.mk hi108_0
               have HC108_0 := zB.mk hl108_0
               clear hi108_0 hl108_0
               replace p108 := eq_true p108
               replace q108 := eq_true q108
               have p109 : 0 ≤ (t107 : Int) := of_decide_eq_true (by first | (with_reducible assumption) | assumption)
               have q109 : t107 < ((zE l0_0 ((zH (zE l0_0 a1) a2).f0)).length : Int) := of_decide_eq_true (by first | (with_reducible assumption) | assumption)
               obtain ⟨ad109, e109, hx109_0, hx109_1⟩ := Zg HR108_0.out t107 p109 q109
               have hw109_1 := hx109_1
               have hw109_0 := hx109_0
               cases e109
               replace hx109_0 := (HB.out.cell (ypy w _ hx109_0)).trans hx109_0
               replace hx109_1 := (HB.out.cell (ypy w _ hx109_1)).trans hx109_1
               replace p109 := eq_true p109
               replace q109 := eq_true q109
               refine Zu (n := 25) (S := fun w' => w'.cell? ⟨gb101, 0, none⟩ = some (.slice (some ad102) l0_0.length c0_0) ∧ w'.cell? ⟨gb104, 0, none⟩ = some (.int .i64 ((zH (zE l0_0 a1) a2).f0)) ∧ w'.cell? ⟨gb104, 1, none⟩ = some (.int .i64 ((zH (zE l0_0 a1) a2).f1)) ∧ w'.cell? (ad102.add (((zH (zE l0_0 a1) a2).f0)).toNat) = some (.slice (some ad109) (zE l0_0 ((zH (zE l0_0 a1) a2).f0)).length c108_0) ∧ w'.cell? (ad109.add ((t107).toNat * 2)) = some (.int .i64 ((zH (zE l0_0 ((zH (zE l0_0 a1) a2).f0)) t107).f0)) ∧ w'.cell? ⟨(ad109.add ((t107).toNat * 2)).block, (ad109.add ((t107).toNat * 2)).off + 1, none⟩ = some (.int .i64 ((zH (zE l0_0 ((zH (zE l0_0 a1) a2).f0)) t107).f1))) (ds := []) #[false, false, false, false, false, false, false, false, false, false, false, false, false, false, false, false, false, false, false, false, false, false, false, false, false] (by kernel_rfl) rfl rfl ⟨(zM BK101.out 0).trans rfl, (zM BK104.out 0).trans rfl, (zM BK104.out 1).trans rfl, ((HB.out.cell (ypy w _ hw108_0)).trans hw108_0), ((HB.out.cell (ypy w _ hw109_0)).trans hw109_0), ((HB.out.cell (ypy w _ hw109_1)).trans hw109_1)⟩ (fun hHeld => ?_); refine ZU zS.tab7 zS.zFP (fun HT_ HW_ => ?_)
               generalize w45.drew = w46 at BK101 BK104 HB HR108_0 hx108_0 hx109_0 hx109_1 hHeld ⊢
               refine zk (i := 0) (N := some 38) (v := ?_) (a' := ?_) #[true, false, false, false, false, false, false, false, false, false, false, false, false, false, false, false, false, false, false, false, false, false, false, false, false] rfl rfl (zc HT_.out (by kernel_rfl)) (fun _ _ _ h => h) (Or.inl ⟨by rfl, ?_⟩) ?_ ?_
               rotate_left
               next =>
                intro w'
                go_simp
                with_reducible rfl
               rotate_left
               next =>
                simp only [Act.put, yay, yby, ycy, zW, zX]
                rfl
               refine zk (i := 2) (N := some 40) (v := ?_) (a' := ?_) #[true, false, true, false, false, false, false, false, false, false, false, false, false, false, false, false, false, false, false, false, false, false, false, false, false] rfl rfl (zc HT_.out (by kernel_rfl)) (fun _ _ _ h => h) (Or.inl ⟨by rfl, ?_⟩) ?_ ?_
               rotate_left
               next =>
                intro w'
                go_simp
                with_reducible rfl
               rotate_left
               next =>
                simp only [Act.put, yay, yby, ycy, zW, zX]
                rfl
               refine zk (i := 6) (N := some 44) (v := ?_) (a' := ?_) #[true, false, true, false, false, false, true, false, false, false, false, false, false, false, false, false, false, false, false, false, false, false, false, false, false] rfl rfl (zc HT_.out (by kernel_rfl)) (fun _ _ _ h => h) (Or.inl ⟨by rfl, ?_⟩) ?_ ?_
               rotate_left
               next =>
                intro w'
                go_simp
                with_reducible rfl
               rotate_left
               next =>
                simp only [Act.put, yay, yby, ycy, zW, zX]
                rfl
               refine zk (i := 10) (N := some 48) (v := ?_) (a' := ?_) #[true, false, true, false, false, false, true, false, false, false, true, false, false, false, false, false, false, false, false, false, false, false, false, false, false] rfl rfl (zc HT_.out (by kernel_rfl)) (fun _ _ _ h => h) (Or.inl ⟨by rfl, ?_⟩) ?_ ?_
               rotate_left
               next =>
                intro w'
                go_simp
                with_reducible rfl
               rotate_left
               next =>
                simp only [Act.put, yay, yby, ycy, zW, zX]
                rfl
               refine qq (i := 1) (N := some 39) (v := ?_) (a' := ?_) #[true, true, true, false, false, false, true, false, false, false, true, false, false, false, false, false, false, false, false, false, false, false, false, false, false] rfl rfl (qJ HT_.out HW_.out (by kernel_rfl)) (fun _ _ _ h => h) (Or.inl ⟨by rfl, ?_⟩) hHeld ?_ ?_
               rotate_left
               next =>
                rintro w' ⟨s0, s1, s2, s3, s4, s5⟩
                go_simp
                with_reducible rfl
               rotate_left
               next =>
                simp only [Act.put, yay, yby, ycy, zW, zX]
                rfl
               refine qq (i := 3) (N := some 41) (v := ?_) (a' := ?_) #[true, true, true, true, false, false, true, false, false, false, true, false, false, false, false, false, false, false, false, false, false, false, false, false, false] rfl rfl (qJ HT_.out HW_.out (by kernel_rfl)) (fun _ _ _ h => h) (Or.inl ⟨by rfl, ?_⟩) hHeld ?_ ?_
               rotate_left
               next =>
                rintro w' ⟨s0, s1, s2, s3, s4, s5⟩
                go_simp
                with_reducible rfl
               rotate_left
               next =>
                simp only [Act.put, yay, yby, ycy, zW, zX]
                rfl
               refine zk (i := 4) (N := some 42) (v := ?_) (a' := ?_) #[true, true, true, true, true, false, true, false, false, false, true, false, false, false, false, false, false, false, false, false, false, false, false, false, false] rfl rfl (zc HT_.out (by kernel_rfl)) (fun _ _ _ h => h) (Or.inl ⟨by rfl, ?_⟩) ?_ ?_
               rotate_left
               next =>
                intro w'
                go_simp
                with_reducible rfl
               rotate_left
               next =>
                simp only [Act.put, yay, yby, ycy, zW, zX]
                rfl
               refine qq (i := 5) (N := some 43) (v := ?_) (a' := ?_) #[true, true, true, true, true, true, true, false, false, false, true, false, false, false, false, false, false, false, false, false, false, false, false, false, false] rfl rfl (qJ HT_.out HW_.out (by kernel_rfl)) (fun _ _ _ h => h) (Or.inl ⟨by rfl, ?_⟩) hHeld ?_ ?_
               rotate_left
               next =>
                rintro w' ⟨s0, s1, s2, s3, s4, s5⟩
                go_simp
                with_reducible rfl
               rotate_left
               next =>
                simp only [Act.put, yay, yby, ycy, zW, zX]
                rfl
               refine zk (i := 7) (N := some 45) (v := ?_) (a' := ?_) #[true, true, true, true, true, true, true, true, false, false, true, false, false, false, false, false, false, false, false, false, false, false, false, false, false] rfl rfl (zc HT_.out (by kernel_rfl)) (fun _ _ _ h => h) (Or.inl ⟨by rfl, ?_⟩) ?_ ?_
               rotate_left
               next =>
                intro w'
                go_simp
                with_reducible rfl
               rotate_left
               next =>
                simp only [Act.put, yay, yby, ycy, zW, zX]
                rfl
               refine qq (i := 8) (N := some 46) (v := ?_) (a' := ?_) #[true, true, true, true, true, true, true, true, true, false, true, false, false, false, false, false, false, false, false, false, false, false, false, false, false] rfl rfl (qJ HT_.out HW_.out (by kernel_rfl)) (fun _ _ _ h => h) (Or.inl ⟨by rfl, ?_⟩) hHeld ?_ ?_
               rotate_left
               next =>
                rintro w' ⟨s0, s1, s2, s3, s4, s5⟩
                go_simp
                with_reducible rfl
               rotate_left
               next =>
                simp only [Act.put, yay, yby, ycy, zW, zX]
                rfl
               refine qq (i := 9) (N := some 47) (v := ?_) (a' := ?_) #[true, true, true, true, true, true, true, true, true, true, true, false, false, false, false, false, false, false, false, false, false, false, false, false, false] rfl rfl (qJ HT_.out HW_.out (by kernel_rfl)) (fun _ _ _ h => h) (Or.inl ⟨by rfl, ?_⟩) hHeld ?_ ?_
               rotate_left
               next =>
                rintro w' ⟨s0, s1, s2, s3, s4, s5⟩
                go_simp
                with_reducible rfl
               rotate_left
               next =>
                simp only [Act.put, yay, yby, ycy, zW, zX]
                rfl
               refine zAU (i := 11) (N := some 49) #[true, true, true, true, true, true, true, true, true, true, true, true, false, false, false, false, false, false, false, false, false, false, false, false, false] rfl rfl (QB HT_.out (by kernel_rfl)) (by decide) (fun K hK => ?_)
               refine JJ Try.func166 (by kernel_rfl) rfl #[.agg #[.int .i64 ((zH (zE l0_0 a1) a2).f0), .int .i64 ((zH (zE l0_0 a1) a2).f1)], .int .i64 a1] (by rfl) rfl rfl (by (try simp only [yiy, yjy, yky]); first | done | rfl | (simp only [yly, ymy]; rfl)) ?_
               with_reducible refine (qp.calls ((zH (zE l0_0 a1) a2).f0) ((zH (zE l0_0 a1) a2).f1) a1 t110 t111 _ A35.out).mono ?_
               rintro e w47 ⟨rfl, hb⟩
               refine ⟨_, rfl, ?_⟩
               have n0_ := zB.mk (zP (g := gb101) (o := .cells #[.slice (some ad102) l0_0.length c0_0] 30 (0, 0)) (by (with_reducible repeat (first | refine zI ?_ _ | refine zJ ?_ | refine zG ?_ _)); exact BK101.out) hb)
               have n1_ := zB.mk (zP (g := gb104) (o := .cells #[.int .i64 ((zH (zE l0_0 a1) a2).f0), .int .i64 ((zH (zE l0_0 a1) a2).f1)] 115 (0, 0)) (by (with_reducible repeat (first | refine zI ?_ _ | refine zJ ?_ | refine zG ?_ _)); exact BK104.out) hb)
               have n2_ := zB.mk (zL (by repeat (first | (with_reducible first | exact HB.out | apply zC | apply zA | apply zD | refine zF ?_ GE101.out | refine zF ?_ GE104.out) | exact HB.out)) hb)
               clear BK101
               clear BK104
               clear HB
               have BK101 := n0_
               have BK104 := n1_
               have HB := n2_
               clear n0_ n1_ n2_
               (try clear hb)
               (try clear hb2)
               (try clear hk)
               (try clear hi)
               refine hK.out _ _ ⟨(zM BK101.out 0).trans rfl, (zM BK104.out 0).trans rfl, (zM BK104.out 1).trans rfl, ((HB.out.cell (ypy w _ hw108_0)).trans hw108_0), ((HB.out.cell (ypy w _ hw109_0)).trans hw109_0), ((HB.out.cell (ypy w _ hw109_1)).trans hw109_1)⟩ (fun hHeld => ?_)
               clear hK K
               refine QS (a' := ?_) ?_ ?_
               rotate_left
               next =>
                show Act.put _ (some 49) _ = _
                simp only [Act.put, yay, yby, ycy, zW, zX]
                rfl
               refine zk (i := 12) (N := some 50) (v := ?_) (a' := ?_) #[true, true, true, true, true, true, true, true, true, true, true, true, true, false, false, false, false, false, false, false, false, false, false, false, false] rfl rfl (zc HT_.out (by kernel_rfl)) (fun _ _ _ h => h) (Or.inl ⟨by rfl, ?_⟩) ?_ ?_
               rotate_left
               next =>
                intro w'
                go_simp
                with_reducible rfl
               rotate_left
               next =>
                simp only [Act.put, yay, yby, ycy, zW, zX]
                rfl
               refine zk (i := 13) (N := some 51) (v := ?_) (a' := ?_) #[true, true, true, true, true, true, true, true, true, true, true, true, true, true, false, false, false, false, false, false, false, false, false, false, false] rfl rfl (zc HT_.out (by kernel_rfl)) (fun _ _ _ h => h) (Or.inl ⟨by rfl, ?_⟩) ?_ ?_
               rotate_left
               next =>
                intro w'
                go_simp
                with_reducible rfl
               rotate_left
               next =>
                simp only [Act.put, yay, yby, ycy, zW, zX]
                rfl
               refine zk (i := 14) (N := some 52) (v := ?_) (a' := ?_) #[true, true, true, true, true, true, true, true, true, true, true, true, true, true, true, false, false, false, false, false, false, false, false, false, false] rfl rfl (zc HT_.out (by kernel_rfl)) (fun _ _ _ h => h) (Or.inl ⟨by rfl, ?_⟩) ?_ ?_
               rotate_left
               next =>
                intro w'
                go_simp
                with_reducible rfl
               rotate_left
               next =>
                simp only [Act.put, yay, yby, ycy, zW, zX]
                rfl
               refine zk (i := 16) (N := some 54) (v := ?_) (a' := ?_) #[true, true, true, true, true, true, true, true, true, true, true, true, true, true, true, false, true, false, false, false, false, false, false, false, false] rfl rfl (zc HT_.out (by kernel_rfl)) (fun _ _ _ h => h) (Or.inl ⟨by rfl, ?_⟩) ?_ ?_
               rotate_left
               next =>
                intro w'
                go_simp
                with_reducible rfl
               rotate_left
               next =>
                simp only [Act.put, yay, yby, ycy, zW, zX]
                rfl
               refine qq (i := 15) (N := some 53) (v := ?_) (a' := ?_) #[true, true, true, true, true, true, true, true, true, true, true, true, true, true, true, true, true, false, false, false, false, false, false, false, false] rfl rfl (qJ HT_.out HW_.out (by kernel_rfl)) (fun _ _ _ h => h) (Or.inl ⟨by rfl, ?_⟩) hHeld ?_ ?_
               rotate_left
               next =>
                rintro w' ⟨s0, s1, s2, s3, s4, s5⟩
                go_simp
                with_reducible rfl
               rotate_left
               next =>
                simp only [Act.put, yay, yby, ycy, zW, zX]
                rfl
               refine zk (i := 17) (N := some 55) (v := ?_) (a' := ?_) #[true, true, true, true, true, true, true, true, true, true, true, true, true, true, true, true, true, true, false, false, false, false, false, false, false] rfl rfl (zc HT_.out (by kernel_rfl)) (fun _ _ _ h => h) (Or.inl ⟨by rfl, ?_⟩) ?_ ?_
               rotate_left
               next =>
                intro w'
                go_simp
                with_reducible rfl
               rotate_left
               next =>
                simp only [Act.put, yay, yby, ycy, zW, zX]
                rfl
               refine zk (i := 18) (N := some 56) (v := ?_) (a' := ?_) #[true, true, true, true, true, true, true, true, true, true, true, true, true, true, true, true, true, true, true, false, false, false, false, false, false] rfl rfl (zc HT_.out (by kernel_rfl)) (fun _ _ _ h => h) (Or.inl ⟨by rfl, ?_⟩) ?_ ?_
               rotate_left
               next =>
                intro w'
                go_simp
                with_reducible rfl
               rotate_left
               next =>
                simp only [Act.put, yay, yby, ycy, zW, zX]
                rfl
               refine zk (i := 19) (N := some 57) (v := undef) (a' := ?_) #[true, true, true, true, true, true, true, true, true, true, true, true, true, true, true, true, true, true, true, true, false, false, false, false, false] rfl rfl (zc HT_.out (by kernel_rfl)) (fun _ _ _ h => h) (Or.inr ⟨by rfl, rfl⟩) ?_ ?_
               rotate_left
               next =>
                simp only [Act.put, yay, yby, ycy, zW, zX]
                rfl
               refine zk (i := 20) (N := some 58) (v := undef) (a' := ?_) #[true, true, true, true, true, true, true, true, true, true, true, true, true, true, true, true, true, true, true, true, true, false, false, false, false] rfl rfl (zc HT_.out (by kernel_rfl)) (fun _ _ _ h => h) (Or.inr ⟨by rfl, rfl⟩) ?_ ?_
               rotate_left
               next =>
                simp only [Act.put, yay, yby, ycy, zW, zX]
                rfl
               refine zk (i := 21) (N := some 59) (v := undef) (a' := ?_) #[true, true, true, true, true, true, true, true, true, true, true, true, true, true, true, true, true, true, true, true, true, true, false, false, false] rfl rfl (zc HT_.out (by kernel_rfl)) (fun _ _ _ h => h) (Or.inr ⟨by rfl, rfl⟩) ?_ ?_
               rotate_left
               next =>
                simp only [Act.put, yay, yby, ycy, zW, zX]
                rfl
               refine zk (i := 22) (N := some 60) (v := ?_) (a' := ?_) #[true, true, true, true, true, true, true, true, true, true, true, true, true, true, true, true, true, true, true, true, true, true, true, false, false] rfl rfl (zc HT_.out (by kernel_rfl)) (fun _ _ _ h => h) (Or.inl ⟨by rfl, ?_⟩) ?_ ?_
               rotate_left
               next =>
                intro w'
                go_simp
                with_reducible rfl
               rotate_left
               next =>
                simp only [Act.put, yay, yby, ycy, zW, zX]
                rfl
               refine zk (i := 23) (N := some 61) (v := ?_) (a' := ?_) #[true, true, true, true, true, true, true, true, true, true, true, true, true, true, true, true, true, true, true, true, true, true, true, true, false] rfl rfl (zc HT_.out (by kernel_rfl)) (fun _ _ _ h => h) (Or.inl ⟨by rfl, ?_⟩) ?_ ?_
               rotate_left
               next =>
                intro w'
                go_simp
                with_reducible rfl
               rotate_left
               next =>
                simp only [Act.put, yay, yby, ycy, zW, zX]
                rfl
               refine zk (i := 24) (N := some 6) (v := ?_) (a' := ?_) #[true, true, true, true, true, true, true, true, true, true, true, true, true, true, true, true, true, true, true, true, true, true, true, true, true] rfl rfl (zc HT_.out (by kernel_rfl)) (fun _ _ _ h => h) (Or.inl ⟨by rfl, ?_⟩) ?_ ?_
               rotate_left
               next =>
                intro w'
                go_simp
                with_reducible rfl
               rotate_left
               next =>
                simp only [Act.put, yay, yby, ycy, zW, zX]
                rfl
               refine Qe (Zw HT_.out (by kernel_rfl)) ?_
               try go_wp2
               go_ret
               exact ⟨by first | rfl | (simp [zQ, zR] <;> rfl) | (simp [*, zQ, zR] <;> rfl), by repeat (first | (with_reducible first | exact HB.out | apply zC | apply zA | apply zD | refine zF ?_ GE101.out | refine zF ?_ GE104.out) | exact HB.out)⟩
             next =>
              rw [if_neg c36] at H
              have c36b0 : (((zH (zE l0_0 ((zH (zE l0_0 a1) a2).f0)) t107).f0) == t110 && (((zH (zE l0_0 ((zH (zE l0_0 a1) a2).f0)) t107).f1) == t111)) = false := by simpa using c36
              (try (have c36b1 : decide (((zH (zE l0_0 ((zH (zE l0_0 a1) a2).f0)) t107).f0) = t110 && (((zH (zE l0_0 ((zH (zE l0_0 a1) a2).f0)) t107).f1) == t111)) = false := by simpa using c36))
              (try (have c36b2 : (((zH (zE l0_0 ((zH (zE l0_0 a1) a2).f0)) t107).f0) == t110 && (((zH (zE l0_0 ((zH (zE l0_0 a1) a2).f0)) t107).f1) == t111)) = false := by simpa using c36))
              (try (have c36b3 : ¬ (((zH (zE l0_0 ((zH (zE l0_0 a1) a2).f0)) t107).f0) = t110 && (((zH (zE l0_0 ((zH (zE l0_0 a1) a2).f0)) t107).f1) == t111)) := by simpa using c36))
              clear c36
              obtain rfl := yey H
              have hnb48 := NB104_101.out
              have hnc48 := NB101_104.out
              have hcz49_0 : wc.cell? ⟨gb104, 0, none⟩ = some (.int .i64 ((zH (zE l0_0 a1) a2).f0)) := (zM BK104.out 0).trans rfl
              have hcz49_1 : wc.cell? ⟨gb104, 1, none⟩ = some (.int .i64 ((zH (zE l0_0 a1) a2).f1)) := (zM BK104.out 1).trans rfl
              have hfz49_0 := zN BK104.out 0
              have hfz49_1 := zN BK104.out 1
              try go_wp2_with (first | ((with_reducible refine zU (f := 165) rfl ?_); refine qH (some 37) rfl rfl Try.func165 (by kernel_rfl) rfl #[.agg #[.int .i64 ((zH (zE l0_0 a1) a2).f0), .int .i64 ((zH (zE l0_0 a1) a2).f1)], .int .i64 a2] rfl (by (try simp only [yiy, yjy, yky]); first | done | rfl | (simp only [yly, ymy]; rfl)) ?_; (with_reducible refine (ZC.calls ((zH (zE l0_0 a1) a2).f0) ((zH (zE l0_0 a1) a2).f1) a2 t107 _ A30.out).mono ?_); rintro e w50 ⟨rfl, hb⟩; refine ⟨_, rfl, ?_⟩; have n0_ := zB.mk (zP (g := gb101) (o := .cells #[.slice (some ad102) l0_0.length c0_0] 30 (0, 0)) (by (with_reducible repeat (first | refine zI ?_ _ | refine zJ ?_ | refine zG ?_ _)); exact BK101.out) hb); have n1_ := zB.mk (zP (g := gb104) (o := .cells #[.int .i64 ((zH (zE l0_0 a1) a2).f0), .int .i64 ((zH (zE l0_0 a1) a2).f1)] 115 (0, 0)) (by (with_reducible repeat (first | refine zI ?_ _ | refine zJ ?_ | refine zG ?_ _)); exact BK104.out) hb); have n2_ := zB.mk (zL (by repeat (first | (with_reducible first | exact HB.out | apply zC | apply zA | apply zD | refine zF ?_ GE101.out | refine zF ?_ GE104.out) | exact HB.out)) hb); clear BK101; clear BK104; clear HB; have BK101 := n0_; have BK104 := n1_; have HB := n2_; clear n0_ n1_ n2_; (try clear hb); (try clear hb2); (try clear hk); (try clear hi)))
              have n0_ := zB.mk (zJ BK101.out)
              have n1_ := zB.mk (zJ BK104.out)
              have n2_ := zB.mk (zD HB.out)
              clear BK101
              clear BK104
              clear HB
              have BK101 := n0_
              have BK104 := n1_
              have HB := n2_
              clear n0_ n1_ n2_
              have p108 : 0 ≤ (((zH (zE l0_0 a1) a2).f0) : Int) := of_decide_eq_true (by first | (with_reducible assumption) | assumption)
              have q108 : ((zH (zE l0_0 a1) a2).f0) < (l0_0.length : Int) := of_decide_eq_true (by first | (with_reducible assumption) | assumption)
              obtain ⟨ad108, A108_0, c108_0, e108, hx108_0, hl108_0, hi108_0⟩ := ZI HR0_0.out ((zH (zE l0_0 a1) a2).f0) p108 q108
              have hw108_0 := hx108_0
              obtain rfl : ad102 = ad108 := (by injection e108)
              replace hx108_0 := (HB.out.cell (ypy w _ hx108_0)).trans hx108_0
              have HR108_0 := zB.mk hi108_0
              have HC108_0 := zB.mk hl108_0
              clear hi108_0 hl108_0
              replace p108 := eq_true p108
              replace q108 := eq_true q108
              have p109 : 0 ≤ (t107 : Int) := of_decide_eq_true (by first | (with_reducible assumption) | assumption)
              have q109 : t107 < ((zE l0_0 ((zH (zE l0_0 a1) a2).f0)).length : Int) := of_decide_eq_true (by first | (with_reducible assumption) | assumption)
              obtain ⟨ad109, e109, hx109_0, hx109_1⟩ := Zg HR108_0.out t107 p109 q109
              have hw109_1 := hx109_1
              have hw109_0 := hx109_0
              cases e109
              replace hx109_0 := (HB.out.cell (ypy w _ hx109_0)).trans hx109_0
              replace hx109_1 := (HB.out.cell (ypy w _ hx109_1)).trans hx109_1
              replace p109 := eq_true p109
              replace q109 := eq_true q109
              refine Zu (n := 25) (S := fun w' => w'.cell? ⟨gb101, 0, none⟩ = some (.slice (some ad102) l0_0.length c0_0) ∧ w'.cell? ⟨gb104, 0, none⟩ = some (.int .i64 ((zH (zE l0_0 a1) a2).f0)) ∧ w'.cell? ⟨gb104, 1, none⟩ = some (.int .i64 ((zH (zE l0_0 a1) a2).f1)) ∧ w'.cell? (ad102.add (((zH (zE l0_0 a1) a2).f0)).toNat) = some (.slice (some ad109) (zE l0_0 ((zH (zE l0_0 a1) a2).f0)).length c108_0) ∧ w'.cell? (ad109.add ((t107).toNat * 2)) = some (.int .i64 ((zH (zE l0_0 ((zH (zE l0_0 a1) a2).f0)) t107).f0)) ∧ w'.cell? ⟨(ad109.add ((t107).toNat * 2)).block, (ad109.add ((t107).toNat * 2)).off + 1, none⟩ = some (.int .i64 ((zH (zE l0_0 ((zH (zE l0_0 a1) a2).f0)) t107).f1))) (ds := []) #[false, false, false, false, false, false, false, false, false, false, false, false, false, false, false, false, false, false, false, false, false, false, false, false, false] (by kernel_rfl) rfl rfl ⟨(zM BK101.out 0).trans rfl, (zM BK104.out 0).trans rfl, (zM BK104.out 1).trans rfl, ((HB.out.cell (ypy w _ hw108_0)).trans hw108_0), ((HB.out.cell (ypy w _ hw109_0)).trans hw109_0), ((HB.out.cell (ypy w _ hw109_1)).trans hw109_1)⟩ (fun hHeld => ?_); refine ZU zS.tab7 zS.zFP (fun HT_ HW_ => ?_)
              generalize w50.drew = w51 at BK101 BK104 HB HR108_0 hx108_0 hx109_0 hx109_1 hHeld ⊢
              refine zk (i := 0) (N := some 38) (v := ?_) (a' := ?_) #[true, false, false, false, false, false, false, false, false, false, false, false, false, false, false, false, false, false, false, false, false, false, false, false, false] rfl rfl (zc HT_.out (by kernel_rfl)) (fun _ _ _ h => h) (Or.inl ⟨by rfl, ?_⟩) ?_ ?_
              rotate_left
              next =>
               intro w'
               go_simp
               with_reducible rfl
              rotate_left
              next =>
               simp only [Act.put, yay, yby, ycy, zW, zX]
               rfl
              refine zk (i := 2) (N := some 40) (v := ?_) (a' := ?_) #[true, false, true, false, false, false, false, false, false, false, false, false, false, false, false, false, false, false, false, false, false, false, false, false, false] rfl rfl (zc HT_.out (by kernel_rfl)) (fun _ _ _ h => h) (Or.inl ⟨by rfl, ?_⟩) ?_ ?_
              rotate_left
              next =>
               intro w'
               go_simp
               with_reducible rfl
              rotate_left
              next =>
               simp only [Act.put, yay, yby, ycy, zW, zX]
               rfl
              refine zk (i := 6) (N := some 44) (v := ?_) (a' := ?_) #[true, false, true, false, false, false, true, false, false, false, false, false, false, false, false, false, false, false, false, false, false, false, false, false, false] rfl rfl (zc HT_.out (by kernel_rfl)) (fun _ _ _ h => h) (Or.inl ⟨by rfl, ?_⟩) ?_ ?_
              rotate_left
              next =>
               intro w'
               go_simp
               with_reducible rfl
              rotate_left
              next =>
               simp only [Act.put, yay, yby, ycy, zW, zX]
               rfl
              refine zk (i := 10) (N := some 48) (v := ?_) (a' := ?_) #[true, false, true, false, false, false, true, false, false, false, true, false, false, false, false, false, false, false, false, false, false, false, false, false, false] rfl rfl (zc HT_.out (by kernel_rfl)) (fun _ _ _ h => h) (Or.inl ⟨by rfl, ?_⟩) ?_ ?_
              rotate_left
              next =>
               intro w'
               go_simp
               with_reducible rfl
              rotate_left
              next =>
               simp only [Act.put, yay, yby, ycy, zW, zX]
               rfl
              refine qq (i := 1) (N := some 39) (v := ?_) (a' := ?_) #[true, true, true, false, false, false, true, false, false, false, true, false, false, false, false, false, false, false, false, false, false, false, false, false, false] rfl rfl (qJ HT_.out HW_.out (by kernel_rfl)) (fun _ _ _ h => h) (Or.inl ⟨by rfl, ?_⟩) hHeld ?_ ?_
              rotate_left
              next =>
               rintro w' ⟨s0, s1, s2, s3, s4, s5⟩
               go_simp
               with_reducible rfl
              rotate_left
              next =>
               simp only [Act.put, yay, yby, ycy, zW, zX]
               rfl
              refine qq (i := 3) (N := some 41) (v := ?_) (a' := ?_) #[true, true, true, true, false, false, true, false, false, false, true, false, false, false, false, false, false, false, false, false, false, false, false, false, false] rfl rfl (qJ HT_.out HW_.out (by kernel_rfl)) (fun _ _ _ h => h) (Or.inl ⟨by rfl, ?_⟩) hHeld ?_ ?_
              rotate_left
              next =>
               rintro w' ⟨s0, s1, s2, s3, s4, s5⟩
               go_simp
               with_reducible rfl
              rotate_left
              next =>
               simp only [Act.put, yay, yby, ycy, zW, zX]
               rfl
              refine zk (i := 4) (N := some 42) (v := ?_) (a' := ?_) #[true, true, true, true, true, false, true, false, false, false, true, false, false, false, false, false, false, false, false, false, false, false, false, false, false] rfl rfl (zc HT_.out (by kernel_rfl)) (fun _ _ _ h => h) (Or.inl ⟨by rfl, ?_⟩) ?_ ?_
              rotate_left
              next =>
               intro w'
               go_simp
               with_reducible rfl
              rotate_left
              next =>
               simp only [Act.put, yay, yby, ycy, zW, zX]
               rfl
              refine qq (i := 5) (N := some 43) (v := ?_) (a' := ?_) #[true, true, true, true, true, true, true, false, false, false, true, false, false, false, false, false, false, false, false, false, false, false, false, false, false] rfl rfl (qJ HT_.out HW_.out (by kernel_rfl)) (fun _ _ _ h => h) (Or.inl ⟨by rfl, ?_⟩) hHeld ?_ ?_
              rotate_left
              next =>
               rintro w' ⟨s0, s1, s2, s3, s4, s5⟩
               go_simp
               with_reducible rfl
              rotate_left
              next =>
               simp only [Act.put, yay, yby, ycy, zW, zX]
               rfl
              refine zk (i := 7) (N := some 45) (v := ?_) (a' := ?_) #[true, true, true, true, true, true, true, true, false, false, true, false, false, false, false, false, false, false, false, false, false, false, false, false, false] rfl rfl (zc HT_.out (by kernel_rfl)) (fun _ _ _ h => h) (Or.inl ⟨by rfl, ?_⟩) ?_ ?_
              rotate_left
              next =>
               intro w'
               go_simp
               with_reducible rfl
              rotate_left
              next =>
               simp only [Act.put, yay, yby, ycy, zW, zX]
               rfl
              refine qq (i := 8) (N := some 46) (v := ?_) (a' := ?_) #[true, true, true, true, true, true, true, true, true, false, true, false, false, false, false, false, false, false, false, false, false, false, false, false, false] rfl rfl (qJ HT_.out HW_.out (by kernel_rfl)) (fun _ _ _ h => h) (Or.inl ⟨by rfl, ?_⟩) hHeld ?_ ?_
              rotate_left
              next =>
               rintro w' ⟨s0, s1, s2, s3, s4, s5⟩
               go_simp
               with_reducible rfl
              rotate_left
              next =>
               simp only [Act.put, yay, yby, ycy, zW, zX]
               rfl
              refine qq (i := 9) (N := some 47) (v := ?_) (a' := ?_) #[true, true, true, true, true, true, true, true, true, true, true, false, false, false, false, false, false, false, false, false, false, false, false, false, false] rfl rfl (qJ HT_.out HW_.out (by kernel_rfl)) (fun _ _ _ h => h) (Or.inl ⟨by rfl, ?_⟩) hHeld ?_ ?_
              rotate_left
              next =>
               rintro w' ⟨s0, s1, s2, s3, s4, s5⟩
               go_simp
               with_reducible rfl
              rotate_left
              next =>
               simp only [Act.put, yay, yby, ycy, zW, zX]
               rfl
              refine zAU (i := 11) (N := some 49) #[true, true, true, true, true, true, true, true, true, true, true, true, false, false, false, false, false, false, false, false, false, false, false, false, false] rfl rfl (QB HT_.out (by kernel_rfl)) (by decide) (fun K hK => ?_)
              refine JJ Try.func166 (by kernel_rfl) rfl #[.agg #[.int .i64 ((zH (zE l0_0 a1) a2).f0), .int .i64 ((zH (zE l0_0 a1) a2).f1)], .int .i64 a1] (by rfl) rfl rfl (by (try simp only [yiy, yjy, yky]); first | done | rfl | (simp only [yly, ymy]; rfl)) ?_
              with_reducible refine (qp.calls ((zH (zE l0_0 a1) a2).f0) ((zH (zE l0_0 a1) a2).f1) a1 t110 t111 _ A35.out).mono ?_
              rintro e w52 ⟨rfl, hb⟩
              refine ⟨_, rfl, ?_⟩
              have n0_ := zB.mk (zP (g := gb101) (o := .cells #[.slice (some ad102) l0_0.length c0_0] 30 (0, 0)) (by (with_reducible repeat (first | refine zI ?_ _ | refine zJ ?_ | refine zG ?_ _)); exact BK101.out) hb)
              have n1_ := zB.mk (zP (g := gb104) (o := .cells #[.int .i64 ((zH (zE l0_0 a1) a2).f0), .int .i64 ((zH (zE l0_0 a1) a2).f1)] 115 (0, 0)) (by (with_reducible repeat (first | refine zI ?_ _ | refine zJ ?_ | refine zG ?_ _)); exact BK104.out) hb)
              have n2_ := zB.mk (zL (by repeat (first | (with_reducible first | exact HB.out | apply zC | apply zA | apply zD | refine zF ?_ GE101.out | refine zF ?_ GE104.out) | exact HB.out)) hb)
              clear BK101
              clear BK104
              clear HB
              have BK101 := n0_
              have BK104 := n1_
              have HB := n2_
              clear n0_ n1_ n2_
              (try clear hb)
              (try clear hb2)
              (try clear hk)
              (try clear hi)
              refine hK.out _ _ ⟨(zM BK101.out 0).trans rfl, (zM BK104.out 0).trans rfl, (zM BK104.out 1).trans rfl, ((HB.out.cell (ypy w _ hw108_0)).trans hw108_0), ((HB.out.cell (ypy w _ hw109_0)).trans hw109_0), ((HB.out.cell (ypy w _ hw109_1)).trans hw109_1)⟩ (fun hHeld => ?_)
              clear hK K
              refine QS (a' := ?_) ?_ ?_
              rotate_left
              next =>
               show Act.put _ (some 49) _ = _
               simp only [Act.put, yay, yby, ycy, zW, zX]
               rfl
              refine zk (i := 12) (N := some 50) (v := ?_) (a' := ?_) #[true, true, true, true, true, true, true, true, true, true, true, true, true, false, false, false, false, false, false, false, false, false, false, false, false] rfl rfl (zc HT_.out (by kernel_rfl)) (fun _ _ _ h => h) (Or.inl ⟨by rfl, ?_⟩) ?_ ?_
              rotate_left
              next =>
               intro w'
               go_simp
               with_reducible rfl
              rotate_left
              next =>
               simp only [Act.put, yay, yby, ycy, zW, zX]
               rfl
              refine zk (i := 13) (N := some 51) (v := ?_) (a' := ?_) #[true, true, true, true, true, true, true, true, true, true, true, true, true, true, false, false, false, false, false, false, false, false, false, false, false] rfl rfl (zc HT_.out (by kernel_rfl)) (fun _ _ _ h => h) (Or.inl ⟨by rfl, ?_⟩) ?_ ?_
              rotate_left
              next =>
               intro w'
               go_simp
               with_reducible rfl
              rotate_left
              next =>
               simp only [Act.put, yay, yby, ycy, zW, zX]
               rfl
              refine zk (i := 14) (N := some 52) (v := undef) (a' := ?_) #[true, true, true, true, true, true, true, true, true, true, true, true, true, true, true, false, false, false, false, false, false, false, false, false, false] rfl rfl (zc HT_.out (by kernel_rfl)) (fun _ _ _ h => h) (Or.inr ⟨by rfl, rfl⟩) ?_ ?_
              rotate_left
              next =>
               simp only [Act.put, yay, yby, ycy, zW, zX]
               rfl
              refine zk (i := 15) (N := some 53) (v := undef) (a' := ?_) #[true, true, true, true, true, true, true, true, true, true, true, true, true, true, true, true, false, false, false, false, false, false, false, false, false] rfl rfl (zc HT_.out (by kernel_rfl)) (fun _ _ _ h => h) (Or.inr ⟨by rfl, rfl⟩) ?_ ?_
              rotate_left
              next =>
               simp only [Act.put, yay, yby, ycy, zW, zX]
               rfl
              refine zk (i := 16) (N := some 54) (v := undef) (a' := ?_) #[true, true, true, true, true, true, true, true, true, true, true, true, true, true, true, true, true, false, false, false, false, false, false, false, false] rfl rfl (zc HT_.out (by kernel_rfl)) (fun _ _ _ h => h) (Or.inr ⟨by rfl, rfl⟩) ?_ ?_
              rotate_left
              next =>
               simp only [Act.put, yay, yby, ycy, zW, zX]
               rfl
              refine zk (i := 17) (N := some 55) (v := undef) (a' := ?_) #[true, true, true, true, true, true, true, true, true, true, true, true, true, true, true, true, true, true, false, false, false, false, false, false, false] rfl rfl (zc HT_.out (by kernel_rfl)) (fun _ _ _ h => h) (Or.inr ⟨by rfl, rfl⟩) ?_ ?_
              rotate_left
              next =>
               simp only [Act.put, yay, yby, ycy, zW, zX]
               rfl
              refine zk (i := 18) (N := some 56) (v := undef) (a' := ?_) #[true, true, true, true, true, true, true, true, true, true, true, true, true, true, true, true, true, true, true, false, false, false, false, false, false] rfl rfl (zc HT_.out (by kernel_rfl)) (fun _ _ _ h => h) (Or.inr ⟨by rfl, rfl⟩) ?_ ?_
              rotate_left
              next =>
               simp only [Act.put, yay, yby, ycy, zW, zX]
               rfl
              refine zk (i := 19) (N := some 57) (v := undef) (a' := ?_) #[true, true, true, true, true, true, true, true, true, true, true, true, true, true, true, true, true, true, true, true, false, false, false, false, false] rfl rfl (zc HT_.out (by kernel_rfl)) (fun _ _ _ h => h) (Or.inr ⟨by rfl, rfl⟩) ?_ ?_
              rotate_left
              next =>
               simp only [Act.put, yay, yby, ycy, zW, zX]
               rfl
              refine zk (i := 20) (N := some 58) (v := undef) (a' := ?_) #[true, true, true, true, true, true, true, true, true, true, true, true, true, true, true, true, true, true, true, true, true, false, false, false, false] rfl rfl (zc HT_.out (by kernel_rfl)) (fun _ _ _ h => h) (Or.inr ⟨by rfl, rfl⟩) ?_ ?_
              rotate_left
              next =>
               simp only [Act.put, yay, yby, ycy, zW, zX]
               rfl
              refine zk (i := 21) (N := some 59) (v := undef) (a' := ?_) #[true, true, true, true, true, true, true, true, true, true, true, true, true, true, true, true, true, true, true, true, true, true, false, false, false] rfl rfl (zc HT_.out (by kernel_rfl)) (fun _ _ _ h => h) (Or.inr ⟨by rfl, rfl⟩) ?_ ?_
              rotate_left
              next =>
               simp only [Act.put, yay, yby, ycy, zW, zX]
               rfl
              refine zk (i := 22) (N := some 60) (v := undef) (a' := ?_) #[true, true, true, true, true, true, true, true, true, true, true, true, true, true, true, true, true, true, true, true, true, true, true, false, false] rfl rfl (zc HT_.out (by kernel_rfl)) (fun _ _ _ h => h) (Or.inr ⟨by rfl, rfl⟩) ?_ ?_
              rotate_left
              next =>
               simp only [Act.put, yay, yby, ycy, zW, zX]
               rfl
              refine zk (i := 23) (N := some 61) (v := ?_) (a' := ?_) #[true, true, true, true, true, true, true, true, true, true, true, true, true, true, true, true, true, true, true, true, true, true, true, true, false] rfl rfl (zc HT_.out (by kernel_rfl)) (fun _ _ _ h => h) (Or.inl ⟨by rfl, ?_⟩) ?_ ?_
              rotate_left
              next =>
               intro w'
               go_simp
               with_reducible rfl
              rotate_left
              next =>
               simp only [Act.put, yay, yby, ycy, zW, zX]
               rfl
              refine zk (i := 24) (N := some 6) (v := ?_) (a' := ?_) #[true, true, true, true, true, true, true, true, true, true, true, true, true, true, true, true, true, true, true, true, true, true, true, true, true] rfl rfl (zc HT_.out (by kernel_rfl)) (fun _ _ _ h => h) (Or.inl ⟨by rfl, ?_⟩) ?_ ?_
              rotate_left
              next =>
               intro w'
               go_simp
               with_reducible rfl
              rotate_left
              next =>
               simp only [Act.put, yay, yby, ycy, zW, zX]
               rfl
              refine Qe (Zw HT_.out (by kernel_rfl)) ?_
              try go_wp2
              go_ret
              exact ⟨by first | rfl | (simp [zQ, zR] <;> rfl) | (simp [*, zQ, zR] <;> rfl), by repeat (first | (with_reducible first | exact HB.out | apply zC | apply zA | apply zD | refine zF ?_ GE101.out | refine zF ?_ GE104.out) | exact HB.out)⟩
            next =>
             rw [if_neg c34] at H
             exact absurd H (by simp)
           next =>
            rw [if_neg c33] at H
            exact absurd H (by simp)
          next =>
           rw [if_neg c32] at H
           exact absurd H (by simp)
         next =>
          rw [if_neg c31] at H
          exact absurd H (by simp)
    next =>
     rw [if_neg c7] at H
     exact absurd H (by simp)
   next =>
    rw [if_neg c6] at H
    exact absurd H (by simp)
  next =>
   rw [if_neg c5] at H
   exact absurd H (by simp)
 next =>
  rw [if_neg c4] at H
  exact absurd H (by simp)
end
def qg.f (l0 : List (qI)) : Option (Bool) := some ((l0.length : Int) != 4)
set_option maxHeartbeats 8000000 in
set_option maxRecDepth 100000 in
theorem qg.calls (A0 : Option Addr) (c0 : Nat) (l0 : List (qI)) (r : Bool) (w : World) (hr0 : Kd.C ZP w A0 l0.length l0) (hc0 : l0.length ≤ c0) (h : qg.f l0 = some r) :
    Calls Try.prog 144 #[.slice A0 l0.length c0] w fun e w' => e = .returned (.bool r) ∧ ze w w' := by
  have HR0 := zB.mk hr0
  have HC0 := zB.mk hc0
  clear hr0 hc0
  have H : (some ((l0.length : Int) != 4)) = some r := h
  clear h
  obtain rfl := yey H
  go_enter Try.func144, Try.ntmps144
  go_wp2
  go_ret
  exact ⟨by first | rfl | (simp; done) | (simp [*]; done), by repeat (first | exact ze.refl _ | apply ze.step)⟩
end Go.Proofs.Ythjpdljdodalaaa.P
namespace Go.Proofs.Ythjpdljdodalaaa.P
open Go.RowKit Go.Proofs.YthjpdljdodalaaaW.PrintWords Go.Proofs.YthjpdljdodalaaaW.PrintLast Go.Proofs.YthjpdljdodalaaaW.PrintMore
attribute [local go_sem] QN QO Qh Qi Zy Zz QP QQ
set_option linter.unusedVariables false
set_option linter.unusedSimpArgs false
open Go.Proofs.Ythjpdljdodalaaa.Lib
def qA.f (l0 : List (List (qI))) : Option Int := zDh (fun x => qg.f x) 0 l0
set_option maxHeartbeats 8000000 in
set_option maxRecDepth 100000 in
theorem qA.calls (A0 : Option Addr) (c0 : Nat) (l0 : List (List (qI))) (r : Int) (w : World) (hr0 : Kd.C (Kd.slice 115 ZP) w A0 l0.length l0) (hc0 : l0.length ≤ c0) (h : qA.f l0 = some r) :
    Calls Try.prog 162 #[.slice A0 l0.length c0, .func (.func 144) #[] #[]] w fun e w' => e = .returned (.int .i64 r) ∧ Below w.heap.size w w' := by
  have HR0 := zB.mk hr0
  clear hr0 hc0
  have hbig : l0.length ≤ 9223372036854775807 := HR0.out.2.1
  have HB := zB.mk (yry w.heap.size w)
  have H' := zB.mk (show zDh (fun x => qg.f x) 0 l0 = some r from h)
  clear h
  go_enter Try.func162, Try.ntmps162
  go_wp2
  go_loopg [5, 8] l0.length (fun gg v5 v8 w' => ∃ kk : Nat, kk ≤ l0.length ∧ l0.length - kk ≤ gg ∧ v8 = .int .i64 kk ∧ zB (zDh (fun x => qg.f x) kk (l0.drop kk) = some r) ∧ zB (Below w.heap.size w w'))
  case atStart => exact ⟨0, Nat.zero_le _, by omega, rfl, H', HB⟩
  case round =>
    clear H' HB
    obtain ⟨kk, hkk, hg, rfl, HA, HB⟩ := hrel
    by_cases hlt : kk < l0.length
    · have hltz : (kk : Int) < (l0.length : Int) := by omega
      have H := HA.out
      clear HA
      rw [yoy hlt, zAm] at H
      replace H := ydy.mp H
      obtain ⟨b, hb, H⟩ := H
      obtain ⟨ad, A1, c1, e104, hx, hl1, hi1⟩ := ZI HR0.out (kk : Int) (by omega) (by omega)
      have ex : zE l0 (kk : Int) = l0[kk] := by simp [zE, hlt]
      rw [ex] at hx hl1 hi1
      rw [yny] at hx
      replace hx := (HB.out.cell (ypy w _ hx)).trans hx
      replace hi1 := Kd.zY hi1 HB.out
      generalize l0[kk] = y at hx hl1 hi1 hb
      have HI1 := zB.mk hi1
      have HL1 := zB.mk hl1
      clear ex hi1 hl1
      cases e104
      have HC := zB.mk hb
      clear hb
      cases b with
      | true =>
        have H2 := zB.mk H
        clear H
        go_wp2_with fail
        refine (qg.calls _ _ _ _ _ HI1.out HL1.out HC.out).mono ?_
        rintro e w' ⟨rfl, hd⟩
        have HB2 := zB.mk (zL HB.out hd.below)
        clear hd HB
        go_wp2
        go_ret
        exact ⟨by rw [yey H2.out]; rfl, HB2.out⟩
      | false =>
        have H2 := zB.mk H
        clear H
        go_wp2_with fail
        refine (qg.calls _ _ _ _ _ HI1.out HL1.out HC.out).mono ?_
        rintro e w' ⟨rfl, hd⟩
        have HB2 := zB.mk (zL HB.out hd.below)
        clear hd HB
        go_wp2
        go_roundg (l0.length - (kk + 1))
        case measure => omega
        case rel => exact ⟨kk + 1, by omega, by omega, by go_num, H2, HB2⟩
    · have hltz : ¬ (kk : Int) < (l0.length : Int) := by omega
      have e : kk = l0.length := by omega
      subst e
      have H2 := zB.mk (yey (by simpa [zDh] using HA.out))
      clear HA
      go_wp2
      go_ret
      exact ⟨by rw [← H2.out]; rfl, HB.out⟩
def zl.f (l0 : List (List (qI))) : Option Bool := (qA.f l0).bind fun i => some (decide (0 ≤ i))
set_option maxHeartbeats 8000000 in
set_option maxRecDepth 100000 in
theorem zl.calls (A0 : Option Addr) (c0 : Nat) (l0 : List (List (qI))) (r : Bool) (w : World) (hr0 : Kd.C (Kd.slice 115 ZP) w A0 l0.length l0) (hc0 : l0.length ≤ c0) (h : zl.f l0 = some r) :
    Calls Try.prog 143 #[.slice A0 l0.length c0, .func (.func 144) #[] #[]] w fun e w' => e = .returned (.bool r) ∧ Below w.heap.size w w' := by
  obtain ⟨i, hi, h⟩ := ydy.mp h
  have H := zB.mk (yey h)
  clear h
  have HI := zB.mk hi
  clear hi
  have HR0 := zB.mk hr0
  have HC0 := zB.mk hc0
  clear hr0 hc0
  go_enter Try.func143, Try.ntmps143
  go_wp2_with fail
  refine (qA.calls _ _ _ _ _ HR0.out HC0.out HI.out).mono ?_
  rintro e w' ⟨rfl, hd⟩
  have HB := zB.mk hd
  clear hd
  go_wp2
  go_ret
  exact ⟨by rw [← H.out]; rfl, HB.out⟩
end Go.Proofs.Ythjpdljdodalaaa.P
namespace Go.Proofs.Ythjpdljdodalaaa.P
open Go.RowKit Go.Proofs.YthjpdljdodalaaaW.PrintWords Go.Proofs.YthjpdljdodalaaaW.PrintLast Go.Proofs.YthjpdljdodalaaaW.PrintMore
attribute [local go_sem] QN QO Qh Qi Zy Zz QP QQ
set_option linter.unusedVariables false
set_option linter.unusedSimpArgs false
mutual
def zT.j0 : Nat → Bool → List (List (qI)) → Option (Bool)
  | 0, _, _ => none
  | k + 1, x13, x102000 => if x13 = true then (some false) else ((qj.f x102000).bind fun t103 => (zT.l0 k t103 0 x102000))
def zT.l0 : Nat → Int → Int → List (List (qI)) → Option (Bool)
  | 0, _, _, _ => none
  | k + 1, x16, x17, x102000 => if x17 < x16 then (zT.l1 k x17 x16 x17 0 x102000) else (some true)
def zT.l1 : Nat → Int → Int → Int → Int → List (List (qI)) → Option (Bool)
  | 0, _, _, _, _, _ => none
  | k + 1, x3, x16, x17, x20, x102000 => if x20 < 4 then ((zS.f k x102000 x3 x20).bind fun t104 => (if t104 = true then (zT.l1 k x3 x16 x17 (wrap64 (x20 + 1)) x102000) else (some false))) else (zT.l0 k x16 (wrap64 (x17 + 1)) x102000)
end
def zT.f (k : Nat) (l0_0 : List (List (qI))) : Option (Bool) := if (l0_0.length : Int) > 8 then (zT.j0 k true l0_0) else ((zl.f l0_0).bind fun t102 => (zT.j0 k t102 l0_0))
set_option maxHeartbeats 8000000 in
set_option maxRecDepth 100000 in
theorem zT.calls (k : Nat) (A0_0 : Option Addr) (c0_0 : Nat) (l0_0 : List (List (qI))) (r : Bool) (w : World) (hr0_0 : Kd.C (Kd.slice 115 ZP) w A0_0 l0_0.length l0_0) (hc0_0 : l0_0.length ≤ c0_0) (h : zT.f k l0_0 = some r) :
    Calls Try.prog 106 #[.agg #[.slice A0_0 l0_0.length c0_0]] w fun e w' => e = .returned (.bool r) ∧ Below w.heap.size w w' := by
  have hu30 := Try.underlying30
  have HR0_0 := zB.mk hr0_0
  have HC0_0 := zB.mk hc0_0
  clear hr0_0 hc0_0
  have HB := zB.mk (yry w.heap.size w)
  have H : (if (l0_0.length : Int) > 8 then (zT.j0 k true l0_0) else ((zl.f l0_0).bind fun t102 => (zT.j0 k t102 l0_0))) = some r := h
  clear h
  have HC2 := zB.mk H
  clear H
  go_enter Try.func106, Try.ntmps106
  go_upto_region 1 with (first | ((with_reducible refine zj (N := 1) rfl ?_); refine zg ?hg (N := 1) ?hd (cs := #[.slice A0_0 l0_0.length c0_0]) (t := 30) ?hr ?_; (case hd => rfl); (case hg => rfl); (case hr => first | (go_simp; done) | (go_simp; rfl)); intro gb101 hg w3 hbox hb; have n0_ := zB.mk (zL (by repeat (first | (with_reducible first | exact HB.out | apply zC | apply zA | apply zD) | exact HB.out)) hb); have n1_ := zB.mk (hbox); have n2_ := zB.mk ((by rw [hg]; exact (zO (by repeat (first | (with_reducible first | exact HB.out | apply zC | apply zA | apply zD) | exact HB.out))) : w.heap.size ≤ gb101)); have n3_ := zB.mk ((by rw [hg]; exact (zO (by repeat (first | (with_reducible first | exact HB.out | apply zC | apply zA | apply zD) | exact HB.out))) : w.heap.size ≤ gb101)); clear HB; have HB := n0_; have BK101 := n1_; have GW101 := n2_; have GE101 := n3_; clear n0_ n1_ n2_ n3_; clear hb hbox hg))
  (try simp only [Act.put, yay, yby, ycy])
  go_cut [13] (fun v13 wc => ∃ (kq : Nat) (x13_1 : Bool), v13 = .bool x13_1 ∧ zB (zT.j0 kq x13_1 l0_0 = some r) ∧ zB (kq ≤ k) ∧ zB (wc.heap[gb101]? = some (.cells #[(.slice A0_0 l0_0.length c0_0)] 30 (0, 0))) ∧ zB (Below w.heap.size w wc))
  case first =>
    have H := HC2.out
    clear HC2
    by_cases c4 : (l0_0.length : Int) > 8
    · rw [if_pos c4] at H
      have c4b0 : decide (8 < (l0_0.length : Int)) = true := ygy c4
      have c4b1 : decide (8 < l0_0.length) = true := ygy (by omega)
      clear c4
      (first | rw [c4b0] | (simp only [zW, zX]; rw [c4b0]) | skip)
      have H' := zB.mk H
      clear H
      have hcz5_0 : w3.cell? ⟨gb101, 0, none⟩ = some (.slice A0_0 l0_0.length c0_0) := (zM BK101.out 0).trans rfl
      have hfz5_0 := zN BK101.out 0
      go_wp2
      go_meet
      case rel => exact ⟨_, (true), (by first | rfl | (simp; done) | (simp [*]; done)), H', ⟨by first | omega | exact yqy _⟩, ⟨by (with_reducible repeat (first | refine zI ?_ _ | refine zJ ?_ | refine zG ?_ _)); exact BK101.out⟩, ⟨by repeat (first | (with_reducible first | exact HB.out | apply zC | apply zA | apply zD | refine zF ?_ GE101.out) | exact HB.out)⟩⟩
    · rw [if_neg c4] at H
      have c4b0 : decide (8 < (l0_0.length : Int)) = false := yhy c4
      have c4b1 : decide (8 < l0_0.length) = false := yhy (by omega)
      clear c4
      (first | rw [c4b0] | (simp only [zW, zX]; rw [c4b0]) | skip)
      replace H := ydy.mp H
      obtain ⟨t102, A60, H⟩ := H
      replace H : (zT.j0 k t102 l0_0) = some r := H
      have A6 := zB.mk A60
      clear A60
      have H' := zB.mk H
      clear H
      have hcz7_0 : w3.cell? ⟨gb101, 0, none⟩ = some (.slice A0_0 l0_0.length c0_0) := (zM BK101.out 0).trans rfl
      have hfz7_0 := zN BK101.out 0
      go_wp2_with (first | (go_at_call 143; (with_reducible refine (zl.calls _ _ l0_0 t102 _ ?side1 ?side2 A6.out).mono ?_); (case side1 => repeat (first | exact (Kd.zY HR0_0.out HB.out) | (with_reducible refine Kd.zZ ?_ _) | (with_reducible refine Kd.za ?_ _) | (with_reducible refine Kd.zh ?_))); (case side2 => exact HC0_0.out); rintro e w8 ⟨rfl, hb⟩; have n0_ := zB.mk (zP (g := gb101) (o := .cells #[.slice A0_0 l0_0.length c0_0] 30 (0, 0)) (by (with_reducible repeat (first | refine zI ?_ _ | refine zJ ?_ | refine zG ?_ _)); exact BK101.out) hb); have n1_ := zB.mk (zL (by repeat (first | (with_reducible first | exact HB.out | apply zC | apply zA | apply zD | refine zF ?_ GE101.out) | exact HB.out)) hb); clear BK101; clear HB; have BK101 := n0_; have HB := n1_; clear n0_ n1_; (try clear hb); (try clear hb2); (try clear hk); (try clear hi)))
      go_meet
      case rel => exact ⟨_, (t102), (by first | rfl | (simp; done) | (simp [*]; done)), H', ⟨by first | omega | exact yqy _⟩, ⟨by (with_reducible repeat (first | refine zI ?_ _ | refine zJ ?_ | refine zG ?_ _)); exact BK101.out⟩, ⟨by repeat (first | (with_reducible first | exact HB.out | apply zC | apply zA | apply zD | refine zF ?_ GE101.out) | exact HB.out)⟩⟩
  case rest =>
    clear HC2
    try clear c1
    try clear p2
    try clear c4
    try clear c4b0
    try clear c4b1
    try clear hcz5_0
    try clear hcz7_0
    try clear hfz5_0
    try clear hfz7_0
    obtain ⟨kq, x13_1, rfl, HA, HJ1, BK101, HB⟩ := hcut
    cases kq with
    | zero => exact absurd HA.out (by simp [zT.j0])
    | succ kj1 =>
      have H := HA.out
      clear HA
      simp only [zT.j0] at H
      by_cases c9 : x13_1 = true
      · subst c9
        have H1 : (some false) = some r := by rw [if_pos rfl] at H; exact H
        clear H
        have H := H1
        clear H1
        obtain rfl := yey H
        go_wp2
        go_ret
        exact ⟨by first | rfl | (simp [zQ, zR] <;> rfl) | (simp [*, zQ, zR] <;> rfl), by repeat (first | (with_reducible first | exact HB.out | apply zC | apply zA | apply zD | refine zF ?_ GE101.out) | exact HB.out)⟩
      · replace c9 := Bool.eq_false_iff.mpr c9
        subst c9
        have H1 : ((qj.f l0_0).bind fun t103 => (zT.l0 kj1 t103 0 l0_0)) = some r := by rw [if_neg (show ¬ (false = true) by decide)] at H; exact H
        clear H
        have H := H1
        clear H1
        replace H := ydy.mp H
        obtain ⟨t103, A100, H⟩ := H
        replace H : (zT.l0 kj1 t103 0 l0_0) = some r := H
        have A10 := zB.mk A100
        clear A100
        have H' := zB.mk H
        clear H
        have hcz11_0 : wc.cell? ⟨gb101, 0, none⟩ = some (.slice A0_0 l0_0.length c0_0) := (zM BK101.out 0).trans rfl
        have hfz11_0 := zN BK101.out 0
        go_wp2_with (first | ((with_reducible refine zU (f := 111) rfl ?_); refine qH (some 16) rfl rfl Try.func111 (by kernel_rfl) rfl #[.slice A0_0 l0_0.length c0_0] rfl (by (try simp only [yiy, yjy, yky]); first | done | rfl | (simp only [yly, ymy]; rfl)) ?_; (with_reducible refine (qj.calls _ _ l0_0 t103 _ ?side1 ?side2 A10.out).mono ?_); (case side1 => repeat (first | exact (Kd.zY HR0_0.out HB.out) | (with_reducible refine Kd.zZ ?_ _) | (with_reducible refine Kd.za ?_ _) | (with_reducible refine Kd.zh ?_))); (case side2 => exact HC0_0.out); rintro e w' ⟨rfl, ⟨nd, rfl⟩⟩; refine ⟨_, rfl, ?_⟩))
        go_loopg [17] kj1 (fun kq v17 w' => ∃ (x17_2 : Int), v17 = .int .i64 x17_2 ∧ zB (zT.l0 kq t103 x17_2 l0_0 = some r) ∧ zB (kq ≤ kj1) ∧ zB (w'.heap[gb101]? = some (.cells #[(.slice A0_0 l0_0.length c0_0)] 30 (0, 0))) ∧ zB (Below w.heap.size w w'))
        case atStart => exact ⟨(0), (by first | rfl | (simp; done) | (simp [*]; done)), H', ⟨yqy _⟩, ⟨by (with_reducible repeat (first | refine zI ?_ _ | refine zJ ?_ | refine zG ?_ _)); exact BK101.out⟩, ⟨by repeat (first | (with_reducible first | exact HB.out | apply zC | apply zA | apply zD | refine zF ?_ GE101.out) | exact HB.out)⟩⟩
        case round =>
          clear H'
          try clear c1
          try clear p2
          try clear c4
          try clear c4b0
          try clear c4b1
          try clear c9
          try clear c10
          try clear c11
          try clear hcz11_0
          try clear hcz5_0
          try clear hcz7_0
          try clear hfz11_0
          try clear hfz5_0
          try clear hfz7_0
          try clear p2
          obtain ⟨x17_2, rfl, HA, HK2, BK101, HB⟩ := hrel
          cases gk with
          | zero => exact absurd HA.out (by simp [zT.l0])
          | succ k2 =>
            have H := HA.out
            clear HA
            simp only [zT.l0] at H
            by_cases c12 : x17_2 < t103
            · rw [if_pos c12] at H
              have c12b0 : decide (x17_2 < t103) = true := ygy c12
              clear c12
              have H' := zB.mk H
              clear H
              go_wp2
              go_loopg [20] k2 (fun kq v20 w' => ∃ (x20_3 : Int), v20 = .int .i64 x20_3 ∧ zB (zT.l1 kq x17_2 t103 x17_2 x20_3 l0_0 = some r) ∧ zB (kq ≤ k2) ∧ zB (w'.heap[gb101]? = some (.cells #[(.slice A0_0 l0_0.length c0_0)] 30 (0, 0))) ∧ zB (Below w.heap.size w w'))
              case atStart => exact ⟨(0), (by first | rfl | (simp; done) | (simp [*]; done)), H', ⟨yqy _⟩, ⟨by (with_reducible repeat (first | refine zI ?_ _ | refine zJ ?_ | refine zG ?_ _)); exact BK101.out⟩, ⟨by repeat (first | (with_reducible first | exact HB.out | apply zC | apply zA | apply zD | refine zF ?_ GE101.out) | exact HB.out)⟩⟩
              case round =>
                clear H'
                try clear c1
                try clear p2
                try clear c4
                try clear c4b0
                try clear c4b1
                try clear c9
                try clear c10
                try clear c11
                try clear c12
                try clear c12b0
                try clear hcz11_0
                try clear hcz5_0
                try clear hcz7_0
                try clear hfz11_0
                try clear hfz5_0
                try clear hfz7_0
                try clear p2
                obtain ⟨x20_3, rfl, HA, HK3, BK101, HB⟩ := hrel
                cases gk with
                | zero => exact absurd HA.out (by simp [zT.l1])
                | succ k3 =>
                  have H := HA.out
                  clear HA
                  simp only [zT.l1] at H
                  by_cases c13 : x20_3 < 4
                  · rw [if_pos c13] at H
                    have c13b0 : decide (x20_3 < 4) = true := ygy c13
                    clear c13
                    replace H := ydy.mp H
                    obtain ⟨t104, A140, H⟩ := H
                    replace H : (if t104 = true then (zT.l1 k3 x17_2 t103 x17_2 (wrap64 (x20_3 + 1)) l0_0) else (some false)) = some r := H
                    have A14 := zB.mk A140
                    clear A140
                    by_cases c15 : t104 = true
                    · subst c15
                      have H1 : (zT.l1 k3 x17_2 t103 x17_2 (wrap64 (x20_3 + 1)) l0_0) = some r := by rw [if_pos rfl] at H; exact H
                      clear H
                      have H := H1
                      clear H1
                      have H' := zB.mk H
                      clear H
                      have hcz16_0 : wr.cell? ⟨gb101, 0, none⟩ = some (.slice A0_0 l0_0.length c0_0) := (zM BK101.out 0).trans rfl
                      have hfz16_0 := zN BK101.out 0
                      go_wp2_with (first | ((with_reducible refine zU (f := 145) rfl ?_); refine qH (some 26) rfl rfl Try.func145 (by kernel_rfl) rfl #[.agg #[.slice A0_0 l0_0.length c0_0], .int .i64 x17_2, .int .i64 x20_3] rfl (by (try simp only [yiy, yjy, yky]); first | done | rfl | (simp only [yly, ymy]; rfl)) ?_; (with_reducible refine (zS.calls k3 _ _ l0_0 x17_2 x20_3 true _ ?side1 ?side2 A14.out).mono ?_); (case side1 => repeat (first | exact (Kd.zY HR0_0.out HB.out) | (with_reducible refine Kd.zZ ?_ _) | (with_reducible refine Kd.za ?_ _) | (with_reducible refine Kd.zh ?_))); (case side2 => exact HC0_0.out); rintro e w17 ⟨rfl, hb⟩; refine ⟨_, rfl, ?_⟩; have n0_ := zB.mk (zP (g := gb101) (o := .cells #[.slice A0_0 l0_0.length c0_0] 30 (0, 0)) (by (with_reducible repeat (first | refine zI ?_ _ | refine zJ ?_ | refine zG ?_ _)); exact BK101.out) hb); have n1_ := zB.mk (zL (by repeat (first | (with_reducible first | exact HB.out | apply zC | apply zA | apply zD | refine zF ?_ GE101.out) | exact HB.out)) hb); clear BK101; clear HB; have BK101 := n0_; have HB := n1_; clear n0_ n1_; (try clear hb); (try clear hb2); (try clear hk); (try clear hi)))
                      go_roundg k3
                      case measure => have := HJ1.out; have := HK2.out; have := HK3.out; omega
                      case rel => exact ⟨(wrap64 (x20_3 + 1)), (by first | rfl | (simp; done) | (simp [*]; done)), H', ⟨by have := HJ1.out; have := HK2.out; have := HK3.out; omega⟩, ⟨by (with_reducible repeat (first | refine zI ?_ _ | refine zJ ?_ | refine zG ?_ _)); exact BK101.out⟩, ⟨by repeat (first | (with_reducible first | exact HB.out | apply zC | apply zA | apply zD | refine zF ?_ GE101.out) | exact HB.out)⟩⟩
                    · replace c15 := Bool.eq_false_iff.mpr c15
                      subst c15
                      have H1 : (some false) = some r := by rw [if_neg (show ¬ (false = true) by decide)] at H; exact H
                      clear H
                      have H := H1
                      clear H1
                      obtain rfl := yey H
                      have hcz18_0 : wr.cell? ⟨gb101, 0, none⟩ = some (.slice A0_0 l0_0.length c0_0) := (zM BK101.out 0).trans rfl
                      have hfz18_0 := zN BK101.out 0
                      go_wp2_with (first | ((with_reducible refine zU (f := 145) rfl ?_); refine qH (some 26) rfl rfl Try.func145 (by kernel_rfl) rfl #[.agg #[.slice A0_0 l0_0.length c0_0], .int .i64 x17_2, .int .i64 x20_3] rfl (by (try simp only [yiy, yjy, yky]); first | done | rfl | (simp only [yly, ymy]; rfl)) ?_; (with_reducible refine (zS.calls k3 _ _ l0_0 x17_2 x20_3 false _ ?side1 ?side2 A14.out).mono ?_); (case side1 => repeat (first | exact (Kd.zY HR0_0.out HB.out) | (with_reducible refine Kd.zZ ?_ _) | (with_reducible refine Kd.za ?_ _) | (with_reducible refine Kd.zh ?_))); (case side2 => exact HC0_0.out); rintro e w19 ⟨rfl, hb⟩; refine ⟨_, rfl, ?_⟩; have n0_ := zB.mk (zP (g := gb101) (o := .cells #[.slice A0_0 l0_0.length c0_0] 30 (0, 0)) (by (with_reducible repeat (first | refine zI ?_ _ | refine zJ ?_ | refine zG ?_ _)); exact BK101.out) hb); have n1_ := zB.mk (zL (by repeat (first | (with_reducible first | exact HB.out | apply zC | apply zA | apply zD | refine zF ?_ GE101.out) | exact HB.out)) hb); clear BK101; clear HB; have BK101 := n0_; have HB := n1_; clear n0_ n1_; (try clear hb); (try clear hb2); (try clear hk); (try clear hi)))
                      go_ret
                      exact ⟨by first | rfl | (simp [zQ, zR] <;> rfl) | (simp [*, zQ, zR] <;> rfl), by repeat (first | (with_reducible first | exact HB.out | apply zC | apply zA | apply zD | refine zF ?_ GE101.out) | exact HB.out)⟩
                  · rw [if_neg c13] at H
                    have c13b0 : decide (x20_3 < 4) = false := yhy c13
                    clear c13
                    have H' := zB.mk H
                    clear H
                    go_wp2
                    go_roundg k3
                    case measure => have := HJ1.out; have := HK2.out; have := HK3.out; omega
                    case rel => exact ⟨(wrap64 (x17_2 + 1)), (by first | rfl | (simp; done) | (simp [*]; done)), H', ⟨by have := HJ1.out; have := HK2.out; have := HK3.out; omega⟩, ⟨by (with_reducible repeat (first | refine zI ?_ _ | refine zJ ?_ | refine zG ?_ _)); exact BK101.out⟩, ⟨by repeat (first | (with_reducible first | exact HB.out | apply zC | apply zA | apply zD | refine zF ?_ GE101.out) | exact HB.out)⟩⟩
            · rw [if_neg c12] at H
              have c12b0 : decide (x17_2 < t103) = false := yhy c12
              clear c12
              obtain rfl := yey H
              go_wp2
              go_ret
              exact ⟨by first | rfl | (simp [zQ, zR] <;> rfl) | (simp [*, zQ, zR] <;> rfl), by repeat (first | (with_reducible first | exact HB.out | apply zC | apply zA | apply zD | refine zF ?_ GE101.out) | exact HB.out)⟩
def ZR.f (k : Nat) (l0_0 : List (List (qI))) : Option (Int) := (zT.f k l0_0).bind fun t102 => (if t102 = true then (if (l0_0.length : Int) > 6 then (some 3) else (some 0)) else (some 1))
set_option maxHeartbeats 8000000 in
set_option maxRecDepth 100000 in
theorem ZR.calls (k : Nat) (A0_0 : Option Addr) (c0_0 : Nat) (l0_0 : List (List (qI))) (r : Int) (w : World) (hr0_0 : Kd.C (Kd.slice 115 ZP) w A0_0 l0_0.length l0_0) (hc0_0 : l0_0.length ≤ c0_0) (h : ZR.f k l0_0 = some r) :
    Calls Try.prog 64 #[.agg #[.slice A0_0 l0_0.length c0_0]] w fun e w' => e = .returned (.int .i64 r) ∧ Below w.heap.size w w' := by
  have hu30 := Try.underlying30
  have HR0_0 := zB.mk hr0_0
  have HC0_0 := zB.mk hc0_0
  clear hr0_0 hc0_0
  have HB := zB.mk (yry w.heap.size w)
  have H : ((zT.f k l0_0).bind fun t102 => (if t102 = true then (if (l0_0.length : Int) > 6 then (some 3) else (some 0)) else (some 1))) = some r := h
  clear h
  replace H := ydy.mp H
  obtain ⟨t102, A20, H⟩ := H
  replace H : (if t102 = true then (if (l0_0.length : Int) > 6 then (some 3) else (some 0)) else (some 1)) = some r := H
  have A2 := zB.mk A20
  clear A20
  by_cases c3 : t102 = true
  · subst c3
    have H1 : (if (l0_0.length : Int) > 6 then (some 3) else (some 0)) = some r := by rw [if_pos rfl] at H; exact H
    clear H
    have H := H1
    clear H1
    by_cases c4 : (l0_0.length : Int) > 6
    · rw [if_pos c4] at H
      have c4b0 : decide (6 < (l0_0.length : Int)) = true := ygy c4
      have c4b1 : decide (6 < l0_0.length) = true := ygy (by omega)
      clear c4
      obtain rfl := yey H
      go_enter Try.func64, Try.ntmps64
      go_wp2_with (first | ((with_reducible refine zj (N := 1) rfl ?_); refine zg ?hg (N := 1) ?hd (cs := #[.slice A0_0 l0_0.length c0_0]) (t := 30) ?hr ?_; (case hd => rfl); (case hg => rfl); (case hr => first | (go_simp; done) | (go_simp; rfl)); intro gb101 hg w5 hbox hb; have n0_ := zB.mk (zL (by repeat (first | (with_reducible first | exact HB.out | apply zC | apply zA | apply zD) | exact HB.out)) hb); have n1_ := zB.mk (hbox); have n2_ := zB.mk ((by rw [hg]; exact (zO (by repeat (first | (with_reducible first | exact HB.out | apply zC | apply zA | apply zD) | exact HB.out))) : w.heap.size ≤ gb101)); have n3_ := zB.mk ((by rw [hg]; exact (zO (by repeat (first | (with_reducible first | exact HB.out | apply zC | apply zA | apply zD) | exact HB.out))) : w.heap.size ≤ gb101)); clear HB; have HB := n0_; have BK101 := n1_; have GW101 := n2_; have GE101 := n3_; clear n0_ n1_ n2_ n3_; clear hb hbox hg; have hcz6_0 : w5.cell? ⟨gb101, 0, none⟩ = some (.slice A0_0 l0_0.length c0_0) := (zM BK101.out 0).trans rfl; have hfz6_0 := zN BK101.out 0) | ((with_reducible refine zU (f := 106) rfl ?_); refine qH (some 5) rfl rfl Try.func106 (by kernel_rfl) rfl #[.agg #[.slice A0_0 l0_0.length c0_0]] rfl (by (try simp only [yiy, yjy, yky]); first | done | rfl | (simp only [yly, ymy]; rfl)) ?_; (with_reducible refine (zT.calls k _ _ l0_0 true _ ?side1 ?side2 A2.out).mono ?_); (case side1 => repeat (first | exact (Kd.zY HR0_0.out HB.out) | (with_reducible refine Kd.zZ ?_ _) | (with_reducible refine Kd.za ?_ _) | (with_reducible refine Kd.zh ?_))); (case side2 => exact HC0_0.out); rintro e w7 ⟨rfl, hb⟩; refine ⟨_, rfl, ?_⟩; have n0_ := zB.mk (zP (g := gb101) (o := .cells #[.slice A0_0 l0_0.length c0_0] 30 (0, 0)) (by (with_reducible repeat (first | refine zI ?_ _ | refine zJ ?_ | refine zG ?_ _)); exact BK101.out) hb); have n1_ := zB.mk (zL (by repeat (first | (with_reducible first | exact HB.out | apply zC | apply zA | apply zD | refine zF ?_ GE101.out) | exact HB.out)) hb); clear BK101; clear HB; have BK101 := n0_; have HB := n1_; clear n0_ n1_; (try clear hb); (try clear hb2); (try clear hk); (try clear hi); have hcz8_0 : w7.cell? ⟨gb101, 0, none⟩ = some (.slice A0_0 l0_0.length c0_0) := (zM BK101.out 0).trans rfl; have hfz8_0 := zN BK101.out 0))
      go_ret
      exact ⟨by first | rfl | (simp [zQ, zR] <;> rfl) | (simp [*, zQ, zR] <;> rfl), by repeat (first | (with_reducible first | exact HB.out | apply zC | apply zA | apply zD | refine zF ?_ GE101.out) | exact HB.out)⟩
    · rw [if_neg c4] at H
      have c4b0 : decide (6 < (l0_0.length : Int)) = false := yhy c4
      have c4b1 : decide (6 < l0_0.length) = false := yhy (by omega)
      clear c4
      obtain rfl := yey H
      go_enter Try.func64, Try.ntmps64
      go_wp2_with (first | ((with_reducible refine zj (N := 1) rfl ?_); refine zg ?hg (N := 1) ?hd (cs := #[.slice A0_0 l0_0.length c0_0]) (t := 30) ?hr ?_; (case hd => rfl); (case hg => rfl); (case hr => first | (go_simp; done) | (go_simp; rfl)); intro gb101 hg w9 hbox hb; have n0_ := zB.mk (zL (by repeat (first | (with_reducible first | exact HB.out | apply zC | apply zA | apply zD) | exact HB.out)) hb); have n1_ := zB.mk (hbox); have n2_ := zB.mk ((by rw [hg]; exact (zO (by repeat (first | (with_reducible first | exact HB.out | apply zC | apply zA | apply zD) | exact HB.out))) : w.heap.size ≤ gb101)); have n3_ := zB.mk ((by rw [hg]; exact (zO (by repeat (first | (with_reducible first | exact HB.out | apply zC | apply zA | apply zD) | exact HB.out))) : w.heap.size ≤ gb101)); clear HB; have HB := n0_; have BK101 := n1_; have GW101 := n2_; have GE101 := n3_; clear n0_ n1_ n2_ n3_; clear hb hbox hg; have hcz10_0 : w9.cell? ⟨gb101, 0, none⟩ = some (.slice A0_0 l0_0.length c0_0) := (zM BK101.out 0).trans rfl; have hfz10_0 := zN BK101.out 0) | ((with_reducible refine zU (f := 106) rfl ?_); refine qH (some 5) rfl rfl Try.func106 (by kernel_rfl) rfl #[.agg #[.slice A0_0 l0_0.length c0_0]] rfl (by (try simp only [yiy, yjy, yky]); first | done | rfl | (simp only [yly, ymy]; rfl)) ?_; (with_reducible refine (zT.calls k _ _ l0_0 true _ ?side1 ?side2 A2.out).mono ?_); (case side1 => repeat (first | exact (Kd.zY HR0_0.out HB.out) | (with_reducible refine Kd.zZ ?_ _) | (with_reducible refine Kd.za ?_ _) | (with_reducible refine Kd.zh ?_))); (case side2 => exact HC0_0.out); rintro e w11 ⟨rfl, hb⟩; refine ⟨_, rfl, ?_⟩; have n0_ := zB.mk (zP (g := gb101) (o := .cells #[.slice A0_0 l0_0.length c0_0] 30 (0, 0)) (by (with_reducible repeat (first | refine zI ?_ _ | refine zJ ?_ | refine zG ?_ _)); exact BK101.out) hb); have n1_ := zB.mk (zL (by repeat (first | (with_reducible first | exact HB.out | apply zC | apply zA | apply zD | refine zF ?_ GE101.out) | exact HB.out)) hb); clear BK101; clear HB; have BK101 := n0_; have HB := n1_; clear n0_ n1_; (try clear hb); (try clear hb2); (try clear hk); (try clear hi); have hcz12_0 : w11.cell? ⟨gb101, 0, none⟩ = some (.slice A0_0 l0_0.length c0_0) := (zM BK101.out 0).trans rfl; have hfz12_0 := zN BK101.out 0))
      go_ret
      exact ⟨by first | rfl | (simp [zQ, zR] <;> rfl) | (simp [*, zQ, zR] <;> rfl), by repeat (first | (with_reducible first | exact HB.out | apply zC | apply zA | apply zD | refine zF ?_ GE101.out) | exact HB.out)⟩
  · replace c3 := Bool.eq_false_iff.mpr c3
    subst c3
    have H1 : (some 1) = some r := by rw [if_neg (show ¬ (false = true) by decide)] at H; exact H
    clear H
    have H := H1
    clear H1
    obtain rfl := yey H
    go_enter Try.func64, Try.ntmps64
    go_wp2_with (first | ((with_reducible refine zj (N := 1) rfl ?_); refine zg ?hg (N := 1) ?hd (cs := #[.slice A0_0 l0_0.length c0_0]) (t := 30) ?hr ?_; (case hd => rfl); (case hg => rfl); (case hr => first | (go_simp; done) | (go_simp; rfl)); intro gb101 hg w13 hbox hb; have n0_ := zB.mk (zL (by repeat (first | (with_reducible first | exact HB.out | apply zC | apply zA | apply zD) | exact HB.out)) hb); have n1_ := zB.mk (hbox); have n2_ := zB.mk ((by rw [hg]; exact (zO (by repeat (first | (with_reducible first | exact HB.out | apply zC | apply zA | apply zD) | exact HB.out))) : w.heap.size ≤ gb101)); have n3_ := zB.mk ((by rw [hg]; exact (zO (by repeat (first | (with_reducible first | exact HB.out | apply zC | apply zA | apply zD) | exact HB.out))) : w.heap.size ≤ gb101)); clear HB; have HB := n0_; have BK101 := n1_; have GW101 := n2_; have GE101 := n3_; clear n0_ n1_ n2_ n3_; clear hb hbox hg; have hcz14_0 : w13.cell? ⟨gb101, 0, none⟩ = some (.slice A0_0 l0_0.length c0_0) := (zM BK101.out 0).trans rfl; have hfz14_0 := zN BK101.out 0) | ((with_reducible refine zU (f := 106) rfl ?_); refine qH (some 5) rfl rfl Try.func106 (by kernel_rfl) rfl #[.agg #[.slice A0_0 l0_0.length c0_0]] rfl (by (try simp only [yiy, yjy, yky]); first | done | rfl | (simp only [yly, ymy]; rfl)) ?_; (with_reducible refine (zT.calls k _ _ l0_0 false _ ?side1 ?side2 A2.out).mono ?_); (case side1 => repeat (first | exact (Kd.zY HR0_0.out HB.out) | (with_reducible refine Kd.zZ ?_ _) | (with_reducible refine Kd.za ?_ _) | (with_reducible refine Kd.zh ?_))); (case side2 => exact HC0_0.out); rintro e w15 ⟨rfl, hb⟩; refine ⟨_, rfl, ?_⟩; have n0_ := zB.mk (zP (g := gb101) (o := .cells #[.slice A0_0 l0_0.length c0_0] 30 (0, 0)) (by (with_reducible repeat (first | refine zI ?_ _ | refine zJ ?_ | refine zG ?_ _)); exact BK101.out) hb); have n1_ := zB.mk (zL (by repeat (first | (with_reducible first | exact HB.out | apply zC | apply zA | apply zD | refine zF ?_ GE101.out) | exact HB.out)) hb); clear BK101; clear HB; have BK101 := n0_; have HB := n1_; clear n0_ n1_; (try clear hb); (try clear hb2); (try clear hk); (try clear hi)))
    go_ret
    exact ⟨by first | rfl | (simp [zQ, zR] <;> rfl) | (simp [*, zQ, zR] <;> rfl), by repeat (first | (with_reducible first | exact HB.out | apply zC | apply zA | apply zD | refine zF ?_ GE101.out) | exact HB.out)⟩
def qM.f (k : Nat) (l0_0 : List (List (qI))) (l1 : List Int) : Option (Int) := (ZR.f k l0_0).bind fun t102 => (if t102 = 0 then ((zb.f k l0_0 l1).bind fun t103 => (if t103 = true then (some t102) else (some 5))) else (some t102))
set_option maxHeartbeats 8000000 in
set_option maxRecDepth 100000 in
theorem qM.calls (k : Nat) (A0_0 : Option Addr) (c0_0 : Nat) (l0_0 : List (List (qI))) (A1 : Option Addr) (c1 : Nat) (l1 : List Int) (r : Int) (w : World) (hr0_0 : Kd.C (Kd.slice 115 ZP) w A0_0 l0_0.length l0_0) (hc0_0 : l0_0.length ≤ c0_0) (hr1 : Kd.C (Kd.int .i64) w A1 l1.length l1) (hc1 : l1.length ≤ c1) (h : qM.f k l0_0 l1 = some r) :
    Calls Try.prog 81 #[.agg #[.slice A0_0 l0_0.length c0_0], .slice A1 l1.length c1] w fun e w' => e = .returned (.int .i64 r) ∧ Below w.heap.size w w' := by
  have hu30 := Try.underlying30
  have HR0_0 := zB.mk hr0_0
  have HC0_0 := zB.mk hc0_0
  clear hr0_0 hc0_0
  have HR1 := zB.mk hr1
  have HC1 := zB.mk hc1
  clear hr1 hc1
  have HB := zB.mk (yry w.heap.size w)
  have H : ((ZR.f k l0_0).bind fun t102 => (if t102 = 0 then ((zb.f k l0_0 l1).bind fun t103 => (if t103 = true then (some t102) else (some 5))) else (some t102))) = some r := h
  clear h
  replace H := ydy.mp H
  obtain ⟨t102, A30, H⟩ := H
  replace H : (if t102 = 0 then ((zb.f k l0_0 l1).bind fun t103 => (if t103 = true then (some t102) else (some 5))) else (some t102)) = some r := H
  have A3 := zB.mk A30
  clear A30
  by_cases c4 : t102 = 0
  · rw [if_pos c4] at H
    have c4b0 : (t102 == 0) = true := beq_iff_eq.mpr c4
    have c4b1 : (t102 != 0) = false := bne_eq_false_iff_eq.mpr c4
    clear c4
    replace H := ydy.mp H
    obtain ⟨t103, A50, H⟩ := H
    replace H : (if t103 = true then (some t102) else (some 5)) = some r := H
    have A5 := zB.mk A50
    clear A50
    by_cases c6 : t103 = true
    · subst c6
      have H1 : (some t102) = some r := by rw [if_pos rfl] at H; exact H
      clear H
      have H := H1
      clear H1
      obtain rfl := yey H
      go_enter Try.func81, Try.ntmps81
      go_wp2_with (first | ((with_reducible refine zj (N := 2) rfl ?_); refine zg ?hg (N := 2) ?hd (cs := #[.slice A0_0 l0_0.length c0_0]) (t := 30) ?hr ?_; (case hd => rfl); (case hg => rfl); (case hr => first | (go_simp; done) | (go_simp; rfl)); intro gb101 hg w7 hbox hb; have n0_ := zB.mk (zL (by repeat (first | (with_reducible first | exact HB.out | apply zC | apply zA | apply zD) | exact HB.out)) hb); have n1_ := zB.mk (hbox); have n2_ := zB.mk ((by rw [hg]; exact (zO (by repeat (first | (with_reducible first | exact HB.out | apply zC | apply zA | apply zD) | exact HB.out))) : w.heap.size ≤ gb101)); have n3_ := zB.mk ((by rw [hg]; exact (zO (by repeat (first | (with_reducible first | exact HB.out | apply zC | apply zA | apply zD) | exact HB.out))) : w.heap.size ≤ gb101)); clear HB; have HB := n0_; have BK101 := n1_; have GW101 := n2_; have GE101 := n3_; clear n0_ n1_ n2_ n3_; clear hb hbox hg; have hcz8_0 : w7.cell? ⟨gb101, 0, none⟩ = some (.slice A0_0 l0_0.length c0_0) := (zM BK101.out 0).trans rfl; have hfz8_0 := zN BK101.out 0) | ((with_reducible refine zU (f := 64) rfl ?_); refine qH (some 7) rfl rfl Try.func64 (by kernel_rfl) rfl #[.agg #[.slice A0_0 l0_0.length c0_0]] rfl (by (try simp only [yiy, yjy, yky]); first | done | rfl | (simp only [yly, ymy]; rfl)) ?_; (with_reducible refine (ZR.calls k _ _ l0_0 t102 _ ?side1 ?side2 A3.out).mono ?_); (case side1 => repeat (first | exact (Kd.zY HR0_0.out HB.out) | (with_reducible refine Kd.zZ ?_ _) | (with_reducible refine Kd.za ?_ _) | (with_reducible refine Kd.zh ?_))); (case side2 => exact HC0_0.out); rintro e w9 ⟨rfl, hb⟩; refine ⟨_, rfl, ?_⟩; have n0_ := zB.mk (zP (g := gb101) (o := .cells #[.slice A0_0 l0_0.length c0_0] 30 (0, 0)) (by (with_reducible repeat (first | refine zI ?_ _ | refine zJ ?_ | refine zG ?_ _)); exact BK101.out) hb); have n1_ := zB.mk (zL (by repeat (first | (with_reducible first | exact HB.out | apply zC | apply zA | apply zD | refine zF ?_ GE101.out) | exact HB.out)) hb); clear BK101; clear HB; have BK101 := n0_; have HB := n1_; clear n0_ n1_; (try clear hb); (try clear hb2); (try clear hk); (try clear hi); have hcz10_0 : w9.cell? ⟨gb101, 0, none⟩ = some (.slice A0_0 l0_0.length c0_0) := (zM BK101.out 0).trans rfl; have hfz10_0 := zN BK101.out 0) | (go_at_call 70; (with_reducible refine (zb.calls k _ _ l0_0 _ _ l1 true _ ?side1 ?side2 ?side3 ?side4 A5.out).mono ?_); (case side1 => repeat (first | exact (Kd.zY HR0_0.out HB.out) | (with_reducible refine Kd.zZ ?_ _) | (with_reducible refine Kd.za ?_ _) | (with_reducible refine Kd.zh ?_))); (case side2 => exact HC0_0.out); (case side3 => repeat (first | exact (Kd.zY HR1.out HB.out) | (with_reducible refine Kd.zZ ?_ _) | (with_reducible refine Kd.za ?_ _) | (with_reducible refine Kd.zh ?_))); (case side4 => exact HC1.out); rintro e w11 ⟨rfl, hb⟩; have n0_ := zB.mk (zP (g := gb101) (o := .cells #[.slice A0_0 l0_0.length c0_0] 30 (0, 0)) (by (with_reducible repeat (first | refine zI ?_ _ | refine zJ ?_ | refine zG ?_ _)); exact BK101.out) hb); have n1_ := zB.mk (zL (by repeat (first | (with_reducible first | exact HB.out | apply zC | apply zA | apply zD | refine zF ?_ GE101.out) | exact HB.out)) hb); clear BK101; clear HB; have BK101 := n0_; have HB := n1_; clear n0_ n1_; (try clear hb); (try clear hb2); (try clear hk); (try clear hi)))
      go_ret
      exact ⟨by first | rfl | (simp [zQ, zR] <;> rfl) | (simp [*, zQ, zR] <;> rfl), by repeat (first | (with_reducible first | exact HB.out | apply zC | apply zA | apply zD | refine zF ?_ GE101.out) | exact HB.out)⟩
    · replace c6 := Bool.eq_false_iff.mpr c6
      subst c6
      have H1 : (some 5) = some r := by rw [if_neg (show ¬ (false = true) by decide)] at H; exact H
      clear H
      have H := H1
      clear H1
      obtain rfl := yey H
      go_enter Try.func81, Try.ntmps81
      go_wp2_with (first | ((with_reducible refine zj (N := 2) rfl ?_); refine zg ?hg (N := 2) ?hd (cs := #[.slice A0_0 l0_0.length c0_0]) (t := 30) ?hr ?_; (case hd => rfl); (case hg => rfl); (case hr => first | (go_simp; done) | (go_simp; rfl)); intro gb101 hg w12 hbox hb; have n0_ := zB.mk (zL (by repeat (first | (with_reducible first | exact HB.out | apply zC | apply zA | apply zD) | exact HB.out)) hb); have n1_ := zB.mk (hbox); have n2_ := zB.mk ((by rw [hg]; exact (zO (by repeat (first | (with_reducible first | exact HB.out | apply zC | apply zA | apply zD) | exact HB.out))) : w.heap.size ≤ gb101)); have n3_ := zB.mk ((by rw [hg]; exact (zO (by repeat (first | (with_reducible first | exact HB.out | apply zC | apply zA | apply zD) | exact HB.out))) : w.heap.size ≤ gb101)); clear HB; have HB := n0_; have BK101 := n1_; have GW101 := n2_; have GE101 := n3_; clear n0_ n1_ n2_ n3_; clear hb hbox hg; have hcz13_0 : w12.cell? ⟨gb101, 0, none⟩ = some (.slice A0_0 l0_0.length c0_0) := (zM BK101.out 0).trans rfl; have hfz13_0 := zN BK101.out 0) | ((with_reducible refine zU (f := 64) rfl ?_); refine qH (some 7) rfl rfl Try.func64 (by kernel_rfl) rfl #[.agg #[.slice A0_0 l0_0.length c0_0]] rfl (by (try simp only [yiy, yjy, yky]); first | done | rfl | (simp only [yly, ymy]; rfl)) ?_; (with_reducible refine (ZR.calls k _ _ l0_0 t102 _ ?side1 ?side2 A3.out).mono ?_); (case side1 => repeat (first | exact (Kd.zY HR0_0.out HB.out) | (with_reducible refine Kd.zZ ?_ _) | (with_reducible refine Kd.za ?_ _) | (with_reducible refine Kd.zh ?_))); (case side2 => exact HC0_0.out); rintro e w14 ⟨rfl, hb⟩; refine ⟨_, rfl, ?_⟩; have n0_ := zB.mk (zP (g := gb101) (o := .cells #[.slice A0_0 l0_0.length c0_0] 30 (0, 0)) (by (with_reducible repeat (first | refine zI ?_ _ | refine zJ ?_ | refine zG ?_ _)); exact BK101.out) hb); have n1_ := zB.mk (zL (by repeat (first | (with_reducible first | exact HB.out | apply zC | apply zA | apply zD | refine zF ?_ GE101.out) | exact HB.out)) hb); clear BK101; clear HB; have BK101 := n0_; have HB := n1_; clear n0_ n1_; (try clear hb); (try clear hb2); (try clear hk); (try clear hi); have hcz15_0 : w14.cell? ⟨gb101, 0, none⟩ = some (.slice A0_0 l0_0.length c0_0) := (zM BK101.out 0).trans rfl; have hfz15_0 := zN BK101.out 0) | (go_at_call 70; (with_reducible refine (zb.calls k _ _ l0_0 _ _ l1 false _ ?side1 ?side2 ?side3 ?side4 A5.out).mono ?_); (case side1 => repeat (first | exact (Kd.zY HR0_0.out HB.out) | (with_reducible refine Kd.zZ ?_ _) | (with_reducible refine Kd.za ?_ _) | (with_reducible refine Kd.zh ?_))); (case side2 => exact HC0_0.out); (case side3 => repeat (first | exact (Kd.zY HR1.out HB.out) | (with_reducible refine Kd.zZ ?_ _) | (with_reducible refine Kd.za ?_ _) | (with_reducible refine Kd.zh ?_))); (case side4 => exact HC1.out); rintro e w16 ⟨rfl, hb⟩; have n0_ := zB.mk (zP (g := gb101) (o := .cells #[.slice A0_0 l0_0.length c0_0] 30 (0, 0)) (by (with_reducible repeat (first | refine zI ?_ _ | refine zJ ?_ | refine zG ?_ _)); exact BK101.out) hb); have n1_ := zB.mk (zL (by repeat (first | (with_reducible first | exact HB.out | apply zC | apply zA | apply zD | refine zF ?_ GE101.out) | exact HB.out)) hb); clear BK101; clear HB; have BK101 := n0_; have HB := n1_; clear n0_ n1_; (try clear hb); (try clear hb2); (try clear hk); (try clear hi)))
      go_ret
      exact ⟨by first | rfl | (simp [zQ, zR] <;> rfl) | (simp [*, zQ, zR] <;> rfl), by repeat (first | (with_reducible first | exact HB.out | apply zC | apply zA | apply zD | refine zF ?_ GE101.out) | exact HB.out)⟩
  · rw [if_neg c4] at H
    have c4b0 : (t102 == 0) = false := beq_eq_false_iff_ne.mpr c4
    have c4b1 : (t102 != 0) = true := bne_iff_ne.mpr c4
    obtain rfl := yey H
    go_enter Try.func81, Try.ntmps81
    go_wp2_with (first | ((with_reducible refine zj (N := 2) rfl ?_); refine zg ?hg (N := 2) ?hd (cs := #[.slice A0_0 l0_0.length c0_0]) (t := 30) ?hr ?_; (case hd => rfl); (case hg => rfl); (case hr => first | (go_simp; done) | (go_simp; rfl)); intro gb101 hg w17 hbox hb; have n0_ := zB.mk (zL (by repeat (first | (with_reducible first | exact HB.out | apply zC | apply zA | apply zD) | exact HB.out)) hb); have n1_ := zB.mk (hbox); have n2_ := zB.mk ((by rw [hg]; exact (zO (by repeat (first | (with_reducible first | exact HB.out | apply zC | apply zA | apply zD) | exact HB.out))) : w.heap.size ≤ gb101)); have n3_ := zB.mk ((by rw [hg]; exact (zO (by repeat (first | (with_reducible first | exact HB.out | apply zC | apply zA | apply zD) | exact HB.out))) : w.heap.size ≤ gb101)); clear HB; have HB := n0_; have BK101 := n1_; have GW101 := n2_; have GE101 := n3_; clear n0_ n1_ n2_ n3_; clear hb hbox hg; have hcz18_0 : w17.cell? ⟨gb101, 0, none⟩ = some (.slice A0_0 l0_0.length c0_0) := (zM BK101.out 0).trans rfl; have hfz18_0 := zN BK101.out 0) | ((with_reducible refine zU (f := 64) rfl ?_); refine qH (some 7) rfl rfl Try.func64 (by kernel_rfl) rfl #[.agg #[.slice A0_0 l0_0.length c0_0]] rfl (by (try simp only [yiy, yjy, yky]); first | done | rfl | (simp only [yly, ymy]; rfl)) ?_; (with_reducible refine (ZR.calls k _ _ l0_0 t102 _ ?side1 ?side2 A3.out).mono ?_); (case side1 => repeat (first | exact (Kd.zY HR0_0.out HB.out) | (with_reducible refine Kd.zZ ?_ _) | (with_reducible refine Kd.za ?_ _) | (with_reducible refine Kd.zh ?_))); (case side2 => exact HC0_0.out); rintro e w19 ⟨rfl, hb⟩; refine ⟨_, rfl, ?_⟩; have n0_ := zB.mk (zP (g := gb101) (o := .cells #[.slice A0_0 l0_0.length c0_0] 30 (0, 0)) (by (with_reducible repeat (first | refine zI ?_ _ | refine zJ ?_ | refine zG ?_ _)); exact BK101.out) hb); have n1_ := zB.mk (zL (by repeat (first | (with_reducible first | exact HB.out | apply zC | apply zA | apply zD | refine zF ?_ GE101.out) | exact HB.out)) hb); clear BK101; clear HB; have BK101 := n0_; have HB := n1_; clear n0_ n1_; (try clear hb); (try clear hb2); (try clear hk); (try clear hi)))
    go_ret
    exact ⟨by first | rfl | (simp [zQ, zR] <;> rfl) | (simp [*, zQ, zR] <;> rfl), by repeat (first | (with_reducible first | exact HB.out | apply zC | apply zA | apply zD | refine zF ?_ GE101.out) | exact HB.out)⟩
def Zl.f (a0 : Int) : Option (Int) := if a0 < 0 then (some (wrap64 (-a0))) else (some a0)
set_option maxHeartbeats 8000000 in
set_option maxRecDepth 100000 in
theorem Zl.calls (a0 : Int) (r : Int) (w : World) (h : Zl.f a0 = some r) :
    Calls Try.prog 157 #[.int .i64 a0] w fun e w' => e = .returned (.int .i64 r) ∧ ze w w' := by
  have H : (if a0 < 0 then (some (wrap64 (-a0))) else (some a0)) = some r := h
  clear h
  by_cases c2 : a0 < 0
  · rw [if_pos c2] at H
    have c2b0 : decide (a0 < 0) = true := ygy c2
    clear c2
    obtain rfl := yey H
    go_enter Try.func157, Try.ntmps157
    go_wp2
    go_ret
    exact ⟨by first | rfl | (simp; done) | (simp [*]; done), by repeat (first | exact ze.refl _ | apply ze.step)⟩
  · rw [if_neg c2] at H
    have c2b0 : decide (a0 < 0) = false := yhy c2
    clear c2
    obtain rfl := yey H
    go_enter Try.func157, Try.ntmps157
    go_wp2
    go_ret
    exact ⟨by first | rfl | (simp; done) | (simp [*]; done), by repeat (first | exact ze.refl _ | apply ze.step)⟩
def ZS.l0 : Nat → Int → Int → Option (Int)
  | 0, _, _ => none
  | k + 1, x0, x1 => if x1 = 0 then (some x0) else (ZS.l0 k x1 (Int.tmod x0 x1))
def ZS.f (k : Nat) (a0 : Int) (a1 : Int) : Option (Int) := (Zl.f a0).bind fun t101 => ((Zl.f a1).bind fun t102 => (ZS.l0 k t101 t102))
set_option maxHeartbeats 8000000 in
set_option maxRecDepth 100000 in
theorem ZS.calls (k : Nat) (a0 : Int) (a1 : Int) (r : Int) (w : World) (h : ZS.f k a0 a1 = some r) :
    Calls Try.prog 126 #[.int .i64 a0, .int .i64 a1] w fun e w' => e = .returned (.int .i64 r) ∧ ze w w' := by
  have H : ((Zl.f a0).bind fun t101 => ((Zl.f a1).bind fun t102 => (ZS.l0 k t101 t102))) = some r := h
  clear h
  replace H := ydy.mp H
  obtain ⟨t101, A30, H⟩ := H
  replace H : ((Zl.f a1).bind fun t102 => (ZS.l0 k t101 t102)) = some r := H
  have A3 := zB.mk A30
  clear A30
  replace H := ydy.mp H
  obtain ⟨t102, A40, H⟩ := H
  replace H : (ZS.l0 k t101 t102) = some r := H
  have A4 := zB.mk A40
  clear A40
  have H' := zB.mk H
  clear H
  go_enter Try.func126, Try.ntmps126
  go_wp2_with (first | (go_at_call 157; (with_reducible refine (Zl.calls a0 t101 _ A3.out).mono ?_); rintro e w' ⟨rfl, ⟨nd, rfl⟩⟩; (try first | exact ⟨rfl, _, World.drewN_drewN _ _ _⟩ | exact ⟨rfl, _, Eq.trans (World.drewN_drewN _ _ _) (congrArg (World.drewN _) (Nat.add_assoc _ _ _))⟩)) | (go_at_call 157; (with_reducible refine (Zl.calls a1 t102 _ A4.out).mono ?_); rintro e w' ⟨rfl, ⟨nd, rfl⟩⟩; (try first | exact ⟨rfl, _, World.drewN_drewN _ _ _⟩ | exact ⟨rfl, _, Eq.trans (World.drewN_drewN _ _ _) (congrArg (World.drewN _) (Nat.add_assoc _ _ _))⟩)))
  repeat (go_quiet (first | (go_at_call 157; (with_reducible refine (Zl.calls a0 t101 _ A3.out).mono ?_); rintro e w' ⟨rfl, ⟨nd, rfl⟩⟩; (try first | exact ⟨rfl, _, World.drewN_drewN _ _ _⟩ | exact ⟨rfl, _, Eq.trans (World.drewN_drewN _ _ _) (congrArg (World.drewN _) (Nat.add_assoc _ _ _))⟩)) | (go_at_call 157; (with_reducible refine (Zl.calls a1 t102 _ A4.out).mono ?_); rintro e w' ⟨rfl, ⟨nd, rfl⟩⟩; (try first | exact ⟨rfl, _, World.drewN_drewN _ _ _⟩ | exact ⟨rfl, _, Eq.trans (World.drewN_drewN _ _ _) (congrArg (World.drewN _) (Nat.add_assoc _ _ _))⟩))); try go_wp2_with (first | (go_at_call 157; (with_reducible refine (Zl.calls a0 t101 _ A3.out).mono ?_); rintro e w' ⟨rfl, ⟨nd, rfl⟩⟩; (try first | exact ⟨rfl, _, World.drewN_drewN _ _ _⟩ | exact ⟨rfl, _, Eq.trans (World.drewN_drewN _ _ _) (congrArg (World.drewN _) (Nat.add_assoc _ _ _))⟩)) | (go_at_call 157; (with_reducible refine (Zl.calls a1 t102 _ A4.out).mono ?_); rintro e w' ⟨rfl, ⟨nd, rfl⟩⟩; (try first | exact ⟨rfl, _, World.drewN_drewN _ _ _⟩ | exact ⟨rfl, _, Eq.trans (World.drewN_drewN _ _ _) (congrArg (World.drewN _) (Nat.add_assoc _ _ _))⟩))))
  go_loopg [0, 1] k (fun kq v0 v1 w' => ∃ (x0_1 : Int) (x1_1 : Int), v0 = .int .i64 x0_1 ∧ v1 = .int .i64 x1_1 ∧ zB (ZS.l0 kq x0_1 x1_1 = some r) ∧ zB (kq ≤ k) ∧ ze w w')
  case atStart => exact ⟨(t101), (t102), (by first | rfl | (simp; done) | (simp [*]; done)), (by first | rfl | (simp; done) | (simp [*]; done)), H', ⟨yqy _⟩, by repeat (first | exact ze.refl _ | apply ze.step)⟩
  case round =>
    clear H'
    try clear c1
    try clear p2
    obtain ⟨x0_1, x1_1, rfl, rfl, HA, HK1, ⟨m1, rfl⟩⟩ := hrel
    cases gk with
    | zero => exact absurd HA.out (by simp [ZS.l0])
    | succ k1 =>
      have H := HA.out
      clear HA
      simp only [ZS.l0] at H
      by_cases c5 : x1_1 = 0
      · rw [if_pos c5] at H
        have c5b0 : (x1_1 == 0) = true := beq_iff_eq.mpr c5
        have c5b1 : (x1_1 != 0) = false := bne_eq_false_iff_eq.mpr c5
        clear c5
        obtain rfl := yey H
        go_wp2
        repeat (go_quiet (fail); try go_wp2)
        go_ret
        exact ⟨by first | rfl | (simp; done) | (simp [*]; done), by repeat (first | exact ze.refl _ | apply ze.step)⟩
      · rw [if_neg c5] at H
        have c5b0 : (x1_1 == 0) = false := beq_eq_false_iff_ne.mpr c5
        have c5b1 : (x1_1 != 0) = true := bne_iff_ne.mpr c5
        have H' := zB.mk H
        clear H
        go_wp2
        repeat (go_quiet (fail); try go_wp2)
        go_roundg k1
        case measure => have := HK1.out; omega
        case rel => exact ⟨(x1_1), (Int.tmod x0_1 x1_1), (by first | rfl | (simp; done) | (simp [*]; done)), (by first | rfl | (simp; done) | (simp [*]; done)), H', ⟨by have := HK1.out; omega⟩, by repeat (first | exact ze.refl _ | apply ze.step)⟩
def qm.l0 : Nat → Int → List Int → Int → Int → Option (Int)
  | 0, _, _, _, _ => none
  | k + 1, x3, x6, x7, x8 => if x8 < x7 then (if 0 ≤ x8 then (if x8 < (x6.length : Int) then ((ZS.f k x3 (rd x6 x8)).bind fun t102 => (qm.l0 k t102 x6 x7 (wrap64 (x8 + 1)))) else (none)) else (none)) else (some x3)
def qm.f (k : Nat) (l0 : List Int) : Option (Int) := qm.l0 k 0 l0 (l0.length : Int) 0
set_option maxHeartbeats 8000000 in
set_option maxRecDepth 100000 in
theorem qm.calls (k : Nat) (A0 : Option Addr) (c0 : Nat) (l0 : List Int) (r : Int) (w : World) (hr0 : Kd.C (Kd.int .i64) w A0 l0.length l0) (hc0 : l0.length ≤ c0) (h : qm.f k l0 = some r) :
    Calls Try.prog 82 #[.slice A0 l0.length c0] w fun e w' => e = .returned (.int .i64 r) ∧ ze w w' := by
  have HR0 := zB.mk hr0
  have HC0 := zB.mk hc0
  clear hr0 hc0
  have H : (qm.l0 k 0 l0 (l0.length : Int) 0) = some r := h
  clear h
  have H' := zB.mk H
  clear H
  go_enter Try.func82, Try.ntmps82
  go_wp2
  go_loopg [3, 8] k (fun kq v3 v8 w' => ∃ (x3_1 : Int) (x8_1 : Int), v3 = .int .i64 x3_1 ∧ v8 = .int .i64 x8_1 ∧ zB (qm.l0 kq x3_1 l0 (l0.length : Int) x8_1 = some r) ∧ zB (kq ≤ k) ∧ ze w w')
  case atStart => exact ⟨(0), (0), (by first | rfl | (simp; done) | (simp [*]; done)), (by first | rfl | (simp; done) | (simp [*]; done)), H', ⟨yqy _⟩, by repeat (first | exact ze.refl _ | apply ze.step)⟩
  case round =>
    clear H'
    obtain ⟨x3_1, x8_1, rfl, rfl, HA, HK1, ⟨m1, rfl⟩⟩ := hrel
    cases gk with
    | zero => exact absurd HA.out (by simp [qm.l0])
    | succ k1 =>
      have H := HA.out
      clear HA
      simp only [qm.l0] at H
      by_cases c2 : x8_1 < (l0.length : Int)
      · rw [if_pos c2] at H
        have c2b0 : decide (x8_1 < (l0.length : Int)) = true := ygy c2
        clear c2
        by_cases c3 : 0 ≤ x8_1
        · rw [if_pos c3] at H
          have c3b0 : decide (0 ≤ x8_1) = true := ygy c3
          clear c3
          by_cases c4 : x8_1 < (l0.length : Int)
          · rw [if_pos c4] at H
            have c4b0 : decide (x8_1 < (l0.length : Int)) = true := ygy c4
            clear c4
            replace H := ydy.mp H
            obtain ⟨t102, A50, H⟩ := H
            replace H : (qm.l0 k1 t102 l0 (l0.length : Int) (wrap64 (x8_1 + 1))) = some r := H
            have A5 := zB.mk A50
            clear A50
            have H' := zB.mk H
            clear H
            have p101 : 0 ≤ (x8_1 : Int) := of_decide_eq_true (by first | (with_reducible assumption) | assumption)
            have q101 : x8_1 < (l0.length : Int) := of_decide_eq_true (by first | (with_reducible assumption) | assumption)
            obtain ⟨ad101, e101, hx101_0⟩ := Kd.qu HR0.out x8_1 p101 q101
            cases e101
            replace p101 := eq_true p101
            replace q101 := eq_true q101
            go_wp2_with (first | ((with_reducible refine zU (f := 126) rfl ?_); refine qH (some 14) rfl rfl Try.func126 (by kernel_rfl) rfl #[.int .i64 x3_1, .int .i64 (rd l0 x8_1)] rfl (by (try simp only [yiy, yjy, yky]); first | done | rfl | (simp only [yly, ymy]; rfl)) ?_; (with_reducible refine (ZS.calls k1 x3_1 (rd l0 x8_1) t102 _ A5.out).mono ?_); rintro e w' ⟨rfl, ⟨nd, rfl⟩⟩; refine ⟨_, rfl, ?_⟩))
            go_roundg k1
            case measure => have := HK1.out; omega
            case rel => exact ⟨(t102), (wrap64 (x8_1 + 1)), (by first | rfl | (simp; done) | (simp [*]; done)), (by first | rfl | (simp; done) | (simp [*]; done)), H', ⟨by have := HK1.out; omega⟩, by repeat (first | exact ze.refl _ | apply ze.step)⟩
          · rw [if_neg c4] at H
            exact absurd H (by simp)
        · rw [if_neg c3] at H
          exact absurd H (by simp)
      · rw [if_neg c2] at H
        have c2b0 : decide (x8_1 < (l0.length : Int)) = false := yhy c2
        clear c2
        obtain rfl := yey H
        go_wp2
        go_ret
        exact ⟨by first | rfl | (simp; done) | (simp [*]; done), by repeat (first | exact ze.refl _ | apply ze.step)⟩
def zz.l0 : Nat → List Int → List Int → Int → List Int → Int → Int → Option (Int × Int)
 | 0, _, _, _, _, _, _ => none
 | k + 1, x1, x2, x9, x30, x31, x32 => if x32 < x31 then (if 0 ≤ x32 then (if x32 < (x30.length : Int) then (if 0 ≤ (rd x30 x32) then (if (rd x30 x32) < (x1.length : Int) then (if (rd x30 x32) < (x2.length : Int) then (if (rd x2 (rd x30 x32)) = 0 then (none) else (zz.l0 k x1 x2 (mn x9 (wrap64 (Int.tdiv (rd x1 (rd x30 x32)) (rd x2 (rd x30 x32))))) x30 x31 (wrap64 (x32 + 1)))) else (none)) else (none)) else (none)) else (none)) else (none)) else (some (x9, 0))
def zz.f (k : Nat) (l0_0 : List (List (qI))) (l1 : List Int) (l2 : List Int) : Option (Int × Int) := (qM.f k l0_0 l1).bind fun t102 => (if t102 = 0 then ((zb.f k l0_0 l2).bind fun t103 => (if t103 = true then ((qm.f k l2).bind fun t104 => (if t104 = 0 then (some (0, 5)) else ((zq.f k l2).bind fun t105 => (zz.l0 k l1 l2 1000 t105 (t105.length : Int) 0)))) else (some (0, 5)))) else (some (0, t102)))
set_option maxHeartbeats 8000000 in
set_option maxRecDepth 100000 in
theorem zz.calls (k : Nat) (A0_0 : Option Addr) (c0_0 : Nat) (l0_0 : List (List (qI))) (A1 : Option Addr) (c1 : Nat) (l1 : List Int) (A2 : Option Addr) (c2 : Nat) (l2 : List Int) (r1 : Int) (r2 : Int) (w : World) (hr0_0 : Kd.C (Kd.slice 115 ZP) w A0_0 l0_0.length l0_0) (hc0_0 : l0_0.length ≤ c0_0) (hr1 : Kd.C (Kd.int .i64) w A1 l1.length l1) (hc1 : l1.length ≤ c1) (hr2 : Kd.C (Kd.int .i64) w A2 l2.length l2) (hc2 : l2.length ≤ c2) (h : zz.f k l0_0 l1 l2 = some (r1, r2)) :
 Calls Try.prog 39 #[.agg #[.slice A0_0 l0_0.length c0_0], .slice A1 l1.length c1, .slice A2 l2.length c2] w fun e w' => e = .returned (.tuple #[.int .i64 r1, .int .i64 r2]) ∧ Below w.heap.size w w' := by
 have hu30 := Try.underlying30
 have HR0_0 := zB.mk hr0_0
 have HC0_0 := zB.mk hc0_0
 clear hr0_0 hc0_0
 have HR1 := zB.mk hr1
 have HC1 := zB.mk hc1
 clear hr1 hc1
 have HR2 := zB.mk hr2
 have HC2 := zB.mk hc2
 clear hr2 hc2
 have HB := zB.mk (yry w.heap.size w)
 have H : ((qM.f k l0_0 l1).bind fun t102 => (if t102 = 0 then ((zb.f k l0_0 l2).bind fun t103 => (if t103 = true then ((qm.f k l2).bind fun t104 => (if t104 = 0 then (some (0, 5)) else ((zq.f k l2).bind fun t105 => (zz.l0 k l1 l2 1000 t105 (t105.length : Int) 0)))) else (some (0, 5)))) else (some (0, t102)))) = some (r1, r2) := h
 clear h
 replace H := ydy.mp H
 obtain ⟨t102, A40, H⟩ := H
 replace H : (if t102 = 0 then ((zb.f k l0_0 l2).bind fun t103 => (if t103 = true then ((qm.f k l2).bind fun t104 => (if t104 = 0 then (some (0, 5)) else ((zq.f k l2).bind fun t105 => (zz.l0 k l1 l2 1000 t105 (t105.length : Int) 0)))) else (some (0, 5)))) else (some (0, t102))) = some (r1, r2) := H
 have A4 := zB.mk A40
 clear A40
 by_cases c5 : t102 = 0
 next =>
  rw [if_pos c5] at H
  have c5b0 : (t102 == 0) = true := beq_iff_eq.mpr c5
  have c5b1 : (t102 != 0) = false := bne_eq_false_iff_eq.mpr c5
  clear c5
  replace H := ydy.mp H
  obtain ⟨t103, A60, H⟩ := H
  replace H : (if t103 = true then ((qm.f k l2).bind fun t104 => (if t104 = 0 then (some (0, 5)) else ((zq.f k l2).bind fun t105 => (zz.l0 k l1 l2 1000 t105 (t105.length : Int) 0)))) else (some (0, 5))) = some (r1, r2) := H
  have A6 := zB.mk A60
  clear A60
  by_cases c7 : t103 = true
  next =>
   subst c7
   have H1 : ((qm.f k l2).bind fun t104 => (if t104 = 0 then (some (0, 5)) else ((zq.f k l2).bind fun t105 => (zz.l0 k l1 l2 1000 t105 (t105.length : Int) 0)))) = some (r1, r2) := by rw [if_pos rfl] at H; exact H
   clear H
   have H := H1
   clear H1
   replace H := ydy.mp H
   obtain ⟨t104, A80, H⟩ := H
   replace H : (if t104 = 0 then (some (0, 5)) else ((zq.f k l2).bind fun t105 => (zz.l0 k l1 l2 1000 t105 (t105.length : Int) 0))) = some (r1, r2) := H
   have A8 := zB.mk A80
   clear A80
   by_cases c9 : t104 = 0
   next =>
    rw [if_pos c9] at H
    have c9b0 : (t104 == 0) = true := beq_iff_eq.mpr c9
    have c9b1 : (t104 != 0) = false := bne_eq_false_iff_eq.mpr c9
    clear c9
    simp only [Option.some.injEq, Prod.mk.injEq] at H
    obtain ⟨rfl, rfl⟩ := H
    go_enter Try.func39, Try.ntmps39
    go_wp2_with (first | ((with_reducible refine zj (N := 3) rfl ?_); refine zg ?hg (N := 3) ?hd (cs := #[.slice A0_0 l0_0.length c0_0]) (t := 30) ?hr ?_; (case hd => rfl); (case hg => rfl); (case hr => first | (go_simp; done) | (go_simp; rfl)); intro gb101 hg w10 hbox hb; have n0_ := zB.mk (zL (by repeat (first | (with_reducible first | exact HB.out | apply zC | apply zA | apply zD) | exact HB.out)) hb); have n1_ := zB.mk (hbox); have n2_ := zB.mk ((by rw [hg]; exact (zO (by repeat (first | (with_reducible first | exact HB.out | apply zC | apply zA | apply zD) | exact HB.out))) : w.heap.size ≤ gb101)); have n3_ := zB.mk ((by rw [hg]; exact (zO (by repeat (first | (with_reducible first | exact HB.out | apply zC | apply zA | apply zD) | exact HB.out))) : w.heap.size ≤ gb101)); clear HB; have HB := n0_; have BK101 := n1_; have GW101 := n2_; have GE101 := n3_; clear n0_ n1_ n2_ n3_; clear hb hbox hg; have hcz11_0 : w10.cell? ⟨gb101, 0, none⟩ = some (.slice A0_0 l0_0.length c0_0) := (zM BK101.out 0).trans rfl; have hfz11_0 := zN BK101.out 0) | (go_at_call 81; (with_reducible refine (qM.calls k _ _ l0_0 _ _ l1 t102 _ ?side1 ?side2 ?side3 ?side4 A4.out).mono ?_); (case side1 => repeat (first | exact (Kd.zY HR0_0.out HB.out) | (with_reducible refine Kd.zZ ?_ _) | (with_reducible refine Kd.za ?_ _) | (with_reducible refine Kd.zh ?_))); (case side2 => exact HC0_0.out); (case side3 => repeat (first | exact (Kd.zY HR1.out HB.out) | (with_reducible refine Kd.zZ ?_ _) | (with_reducible refine Kd.za ?_ _) | (with_reducible refine Kd.zh ?_))); (case side4 => exact HC1.out); rintro e w12 ⟨rfl, hb⟩; have n0_ := zB.mk (zP (g := gb101) (o := .cells #[.slice A0_0 l0_0.length c0_0] 30 (0, 0)) (by (with_reducible repeat (first | refine zI ?_ _ | refine zJ ?_ | refine zG ?_ _)); exact BK101.out) hb); have n1_ := zB.mk (zL (by repeat (first | (with_reducible first | exact HB.out | apply zC | apply zA | apply zD | refine zF ?_ GE101.out) | exact HB.out)) hb); clear BK101; clear HB; have BK101 := n0_; have HB := n1_; clear n0_ n1_; (try clear hb); (try clear hb2); (try clear hk); (try clear hi); have hcz13_0 : w12.cell? ⟨gb101, 0, none⟩ = some (.slice A0_0 l0_0.length c0_0) := (zM BK101.out 0).trans rfl; have hfz13_0 := zN BK101.out 0) | (go_at_call 70; (with_reducible refine (zb.calls k _ _ l0_0 _ _ l2 true _ ?side1 ?side2 ?side3 ?side4 A6.out).mono ?_); (case side1 => repeat (first | exact (Kd.zY HR0_0.out HB.out) | (with_reducible refine Kd.zZ ?_ _) | (with_reducible refine Kd.za ?_ _) | (with_reducible refine Kd.zh ?_))); (case side2 => exact HC0_0.out); (case side3 => repeat (first | exact (Kd.zY HR2.out HB.out) | (with_reducible refine Kd.zZ ?_ _) | (with_reducible refine Kd.za ?_ _) | (with_reducible refine Kd.zh ?_))); (case side4 => exact HC2.out); rintro e w14 ⟨rfl, hb⟩; have n0_ := zB.mk (zP (g := gb101) (o := .cells #[.slice A0_0 l0_0.length c0_0] 30 (0, 0)) (by (with_reducible repeat (first | refine zI ?_ _ | refine zJ ?_ | refine zG ?_ _)); exact BK101.out) hb); have n1_ := zB.mk (zL (by repeat (first | (with_reducible first | exact HB.out | apply zC | apply zA | apply zD | refine zF ?_ GE101.out) | exact HB.out)) hb); clear BK101; clear HB; have BK101 := n0_; have HB := n1_; clear n0_ n1_; (try clear hb); (try clear hb2); (try clear hk); (try clear hi)) | (go_at_call 82; (with_reducible refine (qm.calls k _ _ l2 t104 _ ?side1 ?side2 A8.out).mono ?_); (case side1 => repeat (first | exact (Kd.zY HR2.out HB.out) | (with_reducible refine Kd.zZ ?_ _) | (with_reducible refine Kd.za ?_ _) | (with_reducible refine Kd.zh ?_))); (case side2 => exact HC2.out); rintro e w' ⟨rfl, ⟨nd, rfl⟩⟩; (try first | exact ⟨rfl, _, World.drewN_drewN _ _ _⟩ | exact ⟨rfl, _, Eq.trans (World.drewN_drewN _ _ _) (congrArg (World.drewN _) (Nat.add_assoc _ _ _))⟩)))
    repeat (go_quiet (first | ((with_reducible refine zj (N := 3) rfl ?_); refine zg ?hg (N := 3) ?hd (cs := #[.slice A0_0 l0_0.length c0_0]) (t := 30) ?hr ?_; (case hd => rfl); (case hg => rfl); (case hr => first | (go_simp; done) | (go_simp; rfl)); intro gb101 hg w10 hbox hb; have n0_ := zB.mk (zL (by repeat (first | (with_reducible first | exact HB.out | apply zC | apply zA | apply zD) | exact HB.out)) hb); have n1_ := zB.mk (hbox); have n2_ := zB.mk ((by rw [hg]; exact (zO (by repeat (first | (with_reducible first | exact HB.out | apply zC | apply zA | apply zD) | exact HB.out))) : w.heap.size ≤ gb101)); have n3_ := zB.mk ((by rw [hg]; exact (zO (by repeat (first | (with_reducible first | exact HB.out | apply zC | apply zA | apply zD) | exact HB.out))) : w.heap.size ≤ gb101)); clear HB; have HB := n0_; have BK101 := n1_; have GW101 := n2_; have GE101 := n3_; clear n0_ n1_ n2_ n3_; clear hb hbox hg; have hcz11_0 : w10.cell? ⟨gb101, 0, none⟩ = some (.slice A0_0 l0_0.length c0_0) := (zM BK101.out 0).trans rfl; have hfz11_0 := zN BK101.out 0) | (go_at_call 81; (with_reducible refine (qM.calls k _ _ l0_0 _ _ l1 t102 _ ?side1 ?side2 ?side3 ?side4 A4.out).mono ?_); (case side1 => repeat (first | exact (Kd.zY HR0_0.out HB.out) | (with_reducible refine Kd.zZ ?_ _) | (with_reducible refine Kd.za ?_ _) | (with_reducible refine Kd.zh ?_))); (case side2 => exact HC0_0.out); (case side3 => repeat (first | exact (Kd.zY HR1.out HB.out) | (with_reducible refine Kd.zZ ?_ _) | (with_reducible refine Kd.za ?_ _) | (with_reducible refine Kd.zh ?_))); (case side4 => exact HC1.out); rintro e w12 ⟨rfl, hb⟩; have n0_ := zB.mk (zP (g := gb101) (o := .cells #[.slice A0_0 l0_0.length c0_0] 30 (0, 0)) (by (with_reducible repeat (first | refine zI ?_ _ | refine zJ ?_ | refine zG ?_ _)); exact BK101.out) hb); have n1_ := zB.mk (zL (by repeat (first | (with_reducible first | exact HB.out | apply zC | apply zA | apply zD | refine zF ?_ GE101.out) | exact HB.out)) hb); clear BK101; clear HB; have BK101 := n0_; have HB := n1_; clear n0_ n1_; (try clear hb); (try clear hb2); (try clear hk); (try clear hi); have hcz13_0 : w12.cell? ⟨gb101, 0, none⟩ = some (.slice A0_0 l0_0.length c0_0) := (zM BK101.out 0).trans rfl; have hfz13_0 := zN BK101.out 0) | (go_at_call 70; (with_reducible refine (zb.calls k _ _ l0_0 _ _ l2 true _ ?side1 ?side2 ?side3 ?side4 A6.out).mono ?_); (case side1 => repeat (first | exact (Kd.zY HR0_0.out HB.out) | (with_reducible refine Kd.zZ ?_ _) | (with_reducible refine Kd.za ?_ _) | (with_reducible refine Kd.zh ?_))); (case side2 => exact HC0_0.out); (case side3 => repeat (first | exact (Kd.zY HR2.out HB.out) | (with_reducible refine Kd.zZ ?_ _) | (with_reducible refine Kd.za ?_ _) | (with_reducible refine Kd.zh ?_))); (case side4 => exact HC2.out); rintro e w14 ⟨rfl, hb⟩; have n0_ := zB.mk (zP (g := gb101) (o := .cells #[.slice A0_0 l0_0.length c0_0] 30 (0, 0)) (by (with_reducible repeat (first | refine zI ?_ _ | refine zJ ?_ | refine zG ?_ _)); exact BK101.out) hb); have n1_ := zB.mk (zL (by repeat (first | (with_reducible first | exact HB.out | apply zC | apply zA | apply zD | refine zF ?_ GE101.out) | exact HB.out)) hb); clear BK101; clear HB; have BK101 := n0_; have HB := n1_; clear n0_ n1_; (try clear hb); (try clear hb2); (try clear hk); (try clear hi)) | (go_at_call 82; (with_reducible refine (qm.calls k _ _ l2 t104 _ ?side1 ?side2 A8.out).mono ?_); (case side1 => repeat (first | exact (Kd.zY HR2.out HB.out) | (with_reducible refine Kd.zZ ?_ _) | (with_reducible refine Kd.za ?_ _) | (with_reducible refine Kd.zh ?_))); (case side2 => exact HC2.out); rintro e w' ⟨rfl, ⟨nd, rfl⟩⟩; (try first | exact ⟨rfl, _, World.drewN_drewN _ _ _⟩ | exact ⟨rfl, _, Eq.trans (World.drewN_drewN _ _ _) (congrArg (World.drewN _) (Nat.add_assoc _ _ _))⟩))); try go_wp2_with (first | ((with_reducible refine zj (N := 3) rfl ?_); refine zg ?hg (N := 3) ?hd (cs := #[.slice A0_0 l0_0.length c0_0]) (t := 30) ?hr ?_; (case hd => rfl); (case hg => rfl); (case hr => first | (go_simp; done) | (go_simp; rfl)); intro gb101 hg w10 hbox hb; have n0_ := zB.mk (zL (by repeat (first | (with_reducible first | exact HB.out | apply zC | apply zA | apply zD) | exact HB.out)) hb); have n1_ := zB.mk (hbox); have n2_ := zB.mk ((by rw [hg]; exact (zO (by repeat (first | (with_reducible first | exact HB.out | apply zC | apply zA | apply zD) | exact HB.out))) : w.heap.size ≤ gb101)); have n3_ := zB.mk ((by rw [hg]; exact (zO (by repeat (first | (with_reducible first | exact HB.out | apply zC | apply zA | apply zD) | exact HB.out))) : w.heap.size ≤ gb101)); clear HB; have HB := n0_; have BK101 := n1_; have GW101 := n2_; have GE101 := n3_; clear n0_ n1_ n2_ n3_; clear hb hbox hg; have hcz11_0 : w10.cell? ⟨gb101, 0, none⟩ = some (.slice A0_0 l0_0.length c0_0) := (zM BK101.out 0).trans rfl; have hfz11_0 := zN BK101.out 0) | (go_at_call 81; (with_reducible refine (qM.calls k _ _ l0_0 _ _ l1 t102 _ ?side1 ?side2 ?side3 ?side4 A4.out).mono ?_); (case side1 => repeat (first | exact (Kd.zY HR0_0.out HB.out) | (with_reducible refine Kd.zZ ?_ _) | (with_reducible refine Kd.za ?_ _) | (with_reducible refine Kd.zh ?_))); (case side2 => exact HC0_0.out); (case side3 => repeat (first | exact (Kd.zY HR1.out HB.out) | (with_reducible refine Kd.zZ ?_ _) | (with_reducible refine Kd.za ?_ _) | (with_reducible refine Kd.zh ?_))); (case side4 => exact HC1.out); rintro e w12 ⟨rfl, hb⟩; have n0_ := zB.mk (zP (g := gb101) (o := .cells #[.slice A0_0 l0_0.length c0_0] 30 (0, 0)) (by (with_reducible repeat (first | refine zI ?_ _ | refine zJ ?_ | refine zG ?_ _)); exact BK101.out) hb); have n1_ := zB.mk (zL (by repeat (first | (with_reducible first | exact HB.out | apply zC | apply zA | apply zD | refine zF ?_ GE101.out) | exact HB.out)) hb); clear BK101; clear HB; have BK101 := n0_; have HB := n1_; clear n0_ n1_; (try clear hb); (try clear hb2); (try clear hk); (try clear hi); have hcz13_0 : w12.cell? ⟨gb101, 0, none⟩ = some (.slice A0_0 l0_0.length c0_0) := (zM BK101.out 0).trans rfl; have hfz13_0 := zN BK101.out 0) | (go_at_call 70; (with_reducible refine (zb.calls k _ _ l0_0 _ _ l2 true _ ?side1 ?side2 ?side3 ?side4 A6.out).mono ?_); (case side1 => repeat (first | exact (Kd.zY HR0_0.out HB.out) | (with_reducible refine Kd.zZ ?_ _) | (with_reducible refine Kd.za ?_ _) | (with_reducible refine Kd.zh ?_))); (case side2 => exact HC0_0.out); (case side3 => repeat (first | exact (Kd.zY HR2.out HB.out) | (with_reducible refine Kd.zZ ?_ _) | (with_reducible refine Kd.za ?_ _) | (with_reducible refine Kd.zh ?_))); (case side4 => exact HC2.out); rintro e w14 ⟨rfl, hb⟩; have n0_ := zB.mk (zP (g := gb101) (o := .cells #[.slice A0_0 l0_0.length c0_0] 30 (0, 0)) (by (with_reducible repeat (first | refine zI ?_ _ | refine zJ ?_ | refine zG ?_ _)); exact BK101.out) hb); have n1_ := zB.mk (zL (by repeat (first | (with_reducible first | exact HB.out | apply zC | apply zA | apply zD | refine zF ?_ GE101.out) | exact HB.out)) hb); clear BK101; clear HB; have BK101 := n0_; have HB := n1_; clear n0_ n1_; (try clear hb); (try clear hb2); (try clear hk); (try clear hi)) | (go_at_call 82; (with_reducible refine (qm.calls k _ _ l2 t104 _ ?side1 ?side2 A8.out).mono ?_); (case side1 => repeat (first | exact (Kd.zY HR2.out HB.out) | (with_reducible refine Kd.zZ ?_ _) | (with_reducible refine Kd.za ?_ _) | (with_reducible refine Kd.zh ?_))); (case side2 => exact HC2.out); rintro e w' ⟨rfl, ⟨nd, rfl⟩⟩; (try first | exact ⟨rfl, _, World.drewN_drewN _ _ _⟩ | exact ⟨rfl, _, Eq.trans (World.drewN_drewN _ _ _) (congrArg (World.drewN _) (Nat.add_assoc _ _ _))⟩))))
    go_ret2
    exact ⟨by first | rfl | (simp [zQ, zR] <;> rfl) | (simp [*, zQ, zR] <;> rfl), by repeat (first | (with_reducible first | exact HB.out | apply zC | apply zA | apply zD | refine zF ?_ GE101.out) | exact HB.out)⟩
   next =>
    rw [if_neg c9] at H
    have c9b0 : (t104 == 0) = false := beq_eq_false_iff_ne.mpr c9
    have c9b1 : (t104 != 0) = true := bne_iff_ne.mpr c9
    replace H := ydy.mp H
    obtain ⟨t105, A150, H⟩ := H
    replace H : (zz.l0 k l1 l2 1000 t105 (t105.length : Int) 0) = some (r1, r2) := H
    have A15 := zB.mk A150
    clear A150
    have H' := zB.mk H
    clear H
    go_enter Try.func39, Try.ntmps39
    go_wp2_with (first | ((with_reducible refine zj (N := 3) rfl ?_); refine zg ?hg (N := 3) ?hd (cs := #[.slice A0_0 l0_0.length c0_0]) (t := 30) ?hr ?_; (case hd => rfl); (case hg => rfl); (case hr => first | (go_simp; done) | (go_simp; rfl)); intro gb101 hg w16 hbox hb; have n0_ := zB.mk (zL (by repeat (first | (with_reducible first | exact HB.out | apply zC | apply zA | apply zD) | exact HB.out)) hb); have n1_ := zB.mk (hbox); have n2_ := zB.mk ((by rw [hg]; exact (zO (by repeat (first | (with_reducible first | exact HB.out | apply zC | apply zA | apply zD) | exact HB.out))) : w.heap.size ≤ gb101)); have n3_ := zB.mk ((by rw [hg]; exact (zO (by repeat (first | (with_reducible first | exact HB.out | apply zC | apply zA | apply zD) | exact HB.out))) : w.heap.size ≤ gb101)); clear HB; have HB := n0_; have BK101 := n1_; have GW101 := n2_; have GE101 := n3_; clear n0_ n1_ n2_ n3_; clear hb hbox hg; have hcz17_0 : w16.cell? ⟨gb101, 0, none⟩ = some (.slice A0_0 l0_0.length c0_0) := (zM BK101.out 0).trans rfl; have hfz17_0 := zN BK101.out 0) | (go_at_call 81; (with_reducible refine (qM.calls k _ _ l0_0 _ _ l1 t102 _ ?side1 ?side2 ?side3 ?side4 A4.out).mono ?_); (case side1 => repeat (first | exact (Kd.zY HR0_0.out HB.out) | (with_reducible refine Kd.zZ ?_ _) | (with_reducible refine Kd.za ?_ _) | (with_reducible refine Kd.zh ?_))); (case side2 => exact HC0_0.out); (case side3 => repeat (first | exact (Kd.zY HR1.out HB.out) | (with_reducible refine Kd.zZ ?_ _) | (with_reducible refine Kd.za ?_ _) | (with_reducible refine Kd.zh ?_))); (case side4 => exact HC1.out); rintro e w18 ⟨rfl, hb⟩; have n0_ := zB.mk (zP (g := gb101) (o := .cells #[.slice A0_0 l0_0.length c0_0] 30 (0, 0)) (by (with_reducible repeat (first | refine zI ?_ _ | refine zJ ?_ | refine zG ?_ _)); exact BK101.out) hb); have n1_ := zB.mk (zL (by repeat (first | (with_reducible first | exact HB.out | apply zC | apply zA | apply zD | refine zF ?_ GE101.out) | exact HB.out)) hb); clear BK101; clear HB; have BK101 := n0_; have HB := n1_; clear n0_ n1_; (try clear hb); (try clear hb2); (try clear hk); (try clear hi); have hcz19_0 : w18.cell? ⟨gb101, 0, none⟩ = some (.slice A0_0 l0_0.length c0_0) := (zM BK101.out 0).trans rfl; have hfz19_0 := zN BK101.out 0) | (go_at_call 70; (with_reducible refine (zb.calls k _ _ l0_0 _ _ l2 true _ ?side1 ?side2 ?side3 ?side4 A6.out).mono ?_); (case side1 => repeat (first | exact (Kd.zY HR0_0.out HB.out) | (with_reducible refine Kd.zZ ?_ _) | (with_reducible refine Kd.za ?_ _) | (with_reducible refine Kd.zh ?_))); (case side2 => exact HC0_0.out); (case side3 => repeat (first | exact (Kd.zY HR2.out HB.out) | (with_reducible refine Kd.zZ ?_ _) | (with_reducible refine Kd.za ?_ _) | (with_reducible refine Kd.zh ?_))); (case side4 => exact HC2.out); rintro e w20 ⟨rfl, hb⟩; have n0_ := zB.mk (zP (g := gb101) (o := .cells #[.slice A0_0 l0_0.length c0_0] 30 (0, 0)) (by (with_reducible repeat (first | refine zI ?_ _ | refine zJ ?_ | refine zG ?_ _)); exact BK101.out) hb); have n1_ := zB.mk (zL (by repeat (first | (with_reducible first | exact HB.out | apply zC | apply zA | apply zD | refine zF ?_ GE101.out) | exact HB.out)) hb); clear BK101; clear HB; have BK101 := n0_; have HB := n1_; clear n0_ n1_; (try clear hb); (try clear hb2); (try clear hk); (try clear hi)) | (go_at_call 82; (with_reducible refine (qm.calls k _ _ l2 t104 _ ?side1 ?side2 A8.out).mono ?_); (case side1 => repeat (first | exact (Kd.zY HR2.out HB.out) | (with_reducible refine Kd.zZ ?_ _) | (with_reducible refine Kd.za ?_ _) | (with_reducible refine Kd.zh ?_))); (case side2 => exact HC2.out); rintro e w' ⟨rfl, ⟨nd, rfl⟩⟩; (try first | exact ⟨rfl, _, World.drewN_drewN _ _ _⟩ | exact ⟨rfl, _, Eq.trans (World.drewN_drewN _ _ _) (congrArg (World.drewN _) (Nat.add_assoc _ _ _))⟩)) | (go_at_call 83; (with_reducible refine (zq.calls k _ _ l2 t105 _ ?side1 ?side2 A15.out).mono ?_); (case side1 => repeat (first | exact (Kd.zY HR2.out (by repeat (first | (with_reducible first | exact HB.out | apply zC | apply zA | apply zD | refine zF ?_ GE101.out) | exact HB.out))) | (with_reducible refine Kd.zZ ?_ _) | (with_reducible refine Kd.za ?_ _) | (with_reducible refine Kd.zh ?_))); (case side2 => exact HC2.out); rintro e w21 ⟨v106, rfl, ho0, hb⟩; have n0_ := zB.mk (Kd.ZO ho0 (zO (by repeat (first | (with_reducible first | exact HB.out | apply zC | apply zA | apply zD | refine zF ?_ GE101.out) | exact HB.out)))); have n1_ := zB.mk (zP (g := gb101) (o := .cells #[.slice A0_0 l0_0.length c0_0] 30 (0, 0)) (by (with_reducible repeat (first | refine zI ?_ _ | refine zJ ?_ | refine zG ?_ _)); exact BK101.out) hb); have n2_ := zB.mk (zL (by repeat (first | (with_reducible first | exact HB.out | apply zC | apply zA | apply zD | refine zF ?_ GE101.out) | exact HB.out)) hb); clear BK101; clear HB; have HO107 := n0_; have BK101 := n1_; have HB := n2_; clear n0_ n1_ n2_; (try clear hb); (try clear hb2); (try clear hk); (try clear hi); (try clear ho0); obtain ⟨Ao22, co22, eo22⟩ := Kd.Zc HO107.out; subst eo22))
    repeat (go_quiet (first | ((with_reducible refine zj (N := 3) rfl ?_); refine zg ?hg (N := 3) ?hd (cs := #[.slice A0_0 l0_0.length c0_0]) (t := 30) ?hr ?_; (case hd => rfl); (case hg => rfl); (case hr => first | (go_simp; done) | (go_simp; rfl)); intro gb101 hg w16 hbox hb; have n0_ := zB.mk (zL (by repeat (first | (with_reducible first | exact HB.out | apply zC | apply zA | apply zD) | exact HB.out)) hb); have n1_ := zB.mk (hbox); have n2_ := zB.mk ((by rw [hg]; exact (zO (by repeat (first | (with_reducible first | exact HB.out | apply zC | apply zA | apply zD) | exact HB.out))) : w.heap.size ≤ gb101)); have n3_ := zB.mk ((by rw [hg]; exact (zO (by repeat (first | (with_reducible first | exact HB.out | apply zC | apply zA | apply zD) | exact HB.out))) : w.heap.size ≤ gb101)); clear HB; have HB := n0_; have BK101 := n1_; have GW101 := n2_; have GE101 := n3_; clear n0_ n1_ n2_ n3_; clear hb hbox hg; have hcz17_0 : w16.cell? ⟨gb101, 0, none⟩ = some (.slice A0_0 l0_0.length c0_0) := (zM BK101.out 0).trans rfl; have hfz17_0 := zN BK101.out 0) | (go_at_call 81; (with_reducible refine (qM.calls k _ _ l0_0 _ _ l1 t102 _ ?side1 ?side2 ?side3 ?side4 A4.out).mono ?_); (case side1 => repeat (first | exact (Kd.zY HR0_0.out HB.out) | (with_reducible refine Kd.zZ ?_ _) | (with_reducible refine Kd.za ?_ _) | (with_reducible refine Kd.zh ?_))); (case side2 => exact HC0_0.out); (case side3 => repeat (first | exact (Kd.zY HR1.out HB.out) | (with_reducible refine Kd.zZ ?_ _) | (with_reducible refine Kd.za ?_ _) | (with_reducible refine Kd.zh ?_))); (case side4 => exact HC1.out); rintro e w18 ⟨rfl, hb⟩; have n0_ := zB.mk (zP (g := gb101) (o := .cells #[.slice A0_0 l0_0.length c0_0] 30 (0, 0)) (by (with_reducible repeat (first | refine zI ?_ _ | refine zJ ?_ | refine zG ?_ _)); exact BK101.out) hb); have n1_ := zB.mk (zL (by repeat (first | (with_reducible first | exact HB.out | apply zC | apply zA | apply zD | refine zF ?_ GE101.out) | exact HB.out)) hb); clear BK101; clear HB; have BK101 := n0_; have HB := n1_; clear n0_ n1_; (try clear hb); (try clear hb2); (try clear hk); (try clear hi); have hcz19_0 : w18.cell? ⟨gb101, 0, none⟩ = some (.slice A0_0 l0_0.length c0_0) := (zM BK101.out 0).trans rfl; have hfz19_0 := zN BK101.out 0) | (go_at_call 70; (with_reducible refine (zb.calls k _ _ l0_0 _ _ l2 true _ ?side1 ?side2 ?side3 ?side4 A6.out).mono ?_); (case side1 => repeat (first | exact (Kd.zY HR0_0.out HB.out) | (with_reducible refine Kd.zZ ?_ _) | (with_reducible refine Kd.za ?_ _) | (with_reducible refine Kd.zh ?_))); (case side2 => exact HC0_0.out); (case side3 => repeat (first | exact (Kd.zY HR2.out HB.out) | (with_reducible refine Kd.zZ ?_ _) | (with_reducible refine Kd.za ?_ _) | (with_reducible refine Kd.zh ?_))); (case side4 => exact HC2.out); rintro e w20 ⟨rfl, hb⟩; have n0_ := zB.mk (zP (g := gb101) (o := .cells #[.slice A0_0 l0_0.length c0_0] 30 (0, 0)) (by (with_reducible repeat (first | refine zI ?_ _ | refine zJ ?_ | refine zG ?_ _)); exact BK101.out) hb); have n1_ := zB.mk (zL (by repeat (first | (with_reducible first | exact HB.out | apply zC | apply zA | apply zD | refine zF ?_ GE101.out) | exact HB.out)) hb); clear BK101; clear HB; have BK101 := n0_; have HB := n1_; clear n0_ n1_; (try clear hb); (try clear hb2); (try clear hk); (try clear hi)) | (go_at_call 82; (with_reducible refine (qm.calls k _ _ l2 t104 _ ?side1 ?side2 A8.out).mono ?_); (case side1 => repeat (first | exact (Kd.zY HR2.out HB.out) | (with_reducible refine Kd.zZ ?_ _) | (with_reducible refine Kd.za ?_ _) | (with_reducible refine Kd.zh ?_))); (case side2 => exact HC2.out); rintro e w' ⟨rfl, ⟨nd, rfl⟩⟩; (try first | exact ⟨rfl, _, World.drewN_drewN _ _ _⟩ | exact ⟨rfl, _, Eq.trans (World.drewN_drewN _ _ _) (congrArg (World.drewN _) (Nat.add_assoc _ _ _))⟩)) | (go_at_call 83; (with_reducible refine (zq.calls k _ _ l2 t105 _ ?side1 ?side2 A15.out).mono ?_); (case side1 => repeat (first | exact (Kd.zY HR2.out (by repeat (first | (with_reducible first | exact HB.out | apply zC | apply zA | apply zD | refine zF ?_ GE101.out) | exact HB.out))) | (with_reducible refine Kd.zZ ?_ _) | (with_reducible refine Kd.za ?_ _) | (with_reducible refine Kd.zh ?_))); (case side2 => exact HC2.out); rintro e w21 ⟨v106, rfl, ho0, hb⟩; have n0_ := zB.mk (Kd.ZO ho0 (zO (by repeat (first | (with_reducible first | exact HB.out | apply zC | apply zA | apply zD | refine zF ?_ GE101.out) | exact HB.out)))); have n1_ := zB.mk (zP (g := gb101) (o := .cells #[.slice A0_0 l0_0.length c0_0] 30 (0, 0)) (by (with_reducible repeat (first | refine zI ?_ _ | refine zJ ?_ | refine zG ?_ _)); exact BK101.out) hb); have n2_ := zB.mk (zL (by repeat (first | (with_reducible first | exact HB.out | apply zC | apply zA | apply zD | refine zF ?_ GE101.out) | exact HB.out)) hb); clear BK101; clear HB; have HO107 := n0_; have BK101 := n1_; have HB := n2_; clear n0_ n1_ n2_; (try clear hb); (try clear hb2); (try clear hk); (try clear hi); (try clear ho0); obtain ⟨Ao22, co22, eo22⟩ := Kd.Zc HO107.out; subst eo22)); try go_wp2_with (first | ((with_reducible refine zj (N := 3) rfl ?_); refine zg ?hg (N := 3) ?hd (cs := #[.slice A0_0 l0_0.length c0_0]) (t := 30) ?hr ?_; (case hd => rfl); (case hg => rfl); (case hr => first | (go_simp; done) | (go_simp; rfl)); intro gb101 hg w16 hbox hb; have n0_ := zB.mk (zL (by repeat (first | (with_reducible first | exact HB.out | apply zC | apply zA | apply zD) | exact HB.out)) hb); have n1_ := zB.mk (hbox); have n2_ := zB.mk ((by rw [hg]; exact (zO (by repeat (first | (with_reducible first | exact HB.out | apply zC | apply zA | apply zD) | exact HB.out))) : w.heap.size ≤ gb101)); have n3_ := zB.mk ((by rw [hg]; exact (zO (by repeat (first | (with_reducible first | exact HB.out | apply zC | apply zA | apply zD) | exact HB.out))) : w.heap.size ≤ gb101)); clear HB; have HB := n0_; have BK101 := n1_; have GW101 := n2_; have GE101 := n3_; clear n0_ n1_ n2_ n3_; clear hb hbox hg; have hcz17_0 : w16.cell? ⟨gb101, 0, none⟩ = some (.slice A0_0 l0_0.length c0_0) := (zM BK101.out 0).trans rfl; have hfz17_0 := zN BK101.out 0) | (go_at_call 81; (with_reducible refine (qM.calls k _ _ l0_0 _ _ l1 t102 _ ?side1 ?side2 ?side3 ?side4 A4.out).mono ?_); (case side1 => repeat (first | exact (Kd.zY HR0_0.out HB.out) | (with_reducible refine Kd.zZ ?_ _) | (with_reducible refine Kd.za ?_ _) | (with_reducible refine Kd.zh ?_))); (case side2 => exact HC0_0.out); (case side3 => repeat (first | exact (Kd.zY HR1.out HB.out) | (with_reducible refine Kd.zZ ?_ _) | (with_reducible refine Kd.za ?_ _) | (with_reducible refine Kd.zh ?_))); (case side4 => exact HC1.out); rintro e w18 ⟨rfl, hb⟩; have n0_ := zB.mk (zP (g := gb101) (o := .cells #[.slice A0_0 l0_0.length c0_0] 30 (0, 0)) (by (with_reducible repeat (first | refine zI ?_ _ | refine zJ ?_ | refine zG ?_ _)); exact BK101.out) hb); have n1_ := zB.mk (zL (by repeat (first | (with_reducible first | exact HB.out | apply zC | apply zA | apply zD | refine zF ?_ GE101.out) | exact HB.out)) hb); clear BK101; clear HB; have BK101 := n0_; have HB := n1_; clear n0_ n1_; (try clear hb); (try clear hb2); (try clear hk); (try clear hi); have hcz19_0 : w18.cell? ⟨gb101, 0, none⟩ = some (.slice A0_0 l0_0.length c0_0) := (zM BK101.out 0).trans rfl; have hfz19_0 := zN BK101.out 0) | (go_at_call 70; (with_reducible refine (zb.calls k _ _ l0_0 _ _ l2 true _ ?side1 ?side2 ?side3 ?side4 A6.out).mono ?_); (case side1 => repeat (first | exact (Kd.zY HR0_0.out HB.out) | (with_reducible refine Kd.zZ ?_ _) | (with_reducible refine Kd.za ?_ _) | (with_reducible refine Kd.zh ?_))); (case side2 => exact HC0_0.out); (case side3 => repeat (first | exact (Kd.zY HR2.out HB.out) | (with_reducible refine Kd.zZ ?_ _) | (with_reducible refine Kd.za ?_ _) | (with_reducible refine Kd.zh ?_))); (case side4 => exact HC2.out); rintro e w20 ⟨rfl, hb⟩; have n0_ := zB.mk (zP (g := gb101) (o := .cells #[.slice A0_0 l0_0.length c0_0] 30 (0, 0)) (by (with_reducible repeat (first | refine zI ?_ _ | refine zJ ?_ | refine zG ?_ _)); exact BK101.out) hb); have n1_ := zB.mk (zL (by repeat (first | (with_reducible first | exact HB.out | apply zC | apply zA | apply zD | refine zF ?_ GE101.out) | exact HB.out)) hb); clear BK101; clear HB; have BK101 := n0_; have HB := n1_; clear n0_ n1_; (try clear hb); (try clear hb2); (try clear hk); (try clear hi)) | (go_at_call 82; (with_reducible refine (qm.calls k _ _ l2 t104 _ ?side1 ?side2 A8.out).mono ?_); (case side1 => repeat (first | exact (Kd.zY HR2.out HB.out) | (with_reducible refine Kd.zZ ?_ _) | (with_reducible refine Kd.za ?_ _) | (with_reducible refine Kd.zh ?_))); (case side2 => exact HC2.out); rintro e w' ⟨rfl, ⟨nd, rfl⟩⟩; (try first | exact ⟨rfl, _, World.drewN_drewN _ _ _⟩ | exact ⟨rfl, _, Eq.trans (World.drewN_drewN _ _ _) (congrArg (World.drewN _) (Nat.add_assoc _ _ _))⟩)) | (go_at_call 83; (with_reducible refine (zq.calls k _ _ l2 t105 _ ?side1 ?side2 A15.out).mono ?_); (case side1 => repeat (first | exact (Kd.zY HR2.out (by repeat (first | (with_reducible first | exact HB.out | apply zC | apply zA | apply zD | refine zF ?_ GE101.out) | exact HB.out))) | (with_reducible refine Kd.zZ ?_ _) | (with_reducible refine Kd.za ?_ _) | (with_reducible refine Kd.zh ?_))); (case side2 => exact HC2.out); rintro e w21 ⟨v106, rfl, ho0, hb⟩; have n0_ := zB.mk (Kd.ZO ho0 (zO (by repeat (first | (with_reducible first | exact HB.out | apply zC | apply zA | apply zD | refine zF ?_ GE101.out) | exact HB.out)))); have n1_ := zB.mk (zP (g := gb101) (o := .cells #[.slice A0_0 l0_0.length c0_0] 30 (0, 0)) (by (with_reducible repeat (first | refine zI ?_ _ | refine zJ ?_ | refine zG ?_ _)); exact BK101.out) hb); have n2_ := zB.mk (zL (by repeat (first | (with_reducible first | exact HB.out | apply zC | apply zA | apply zD | refine zF ?_ GE101.out) | exact HB.out)) hb); clear BK101; clear HB; have HO107 := n0_; have BK101 := n1_; have HB := n2_; clear n0_ n1_ n2_; (try clear hb); (try clear hb2); (try clear hk); (try clear hi); (try clear ho0); obtain ⟨Ao22, co22, eo22⟩ := Kd.Zc HO107.out; subst eo22)))
    go_loopg [9, 32] k (fun kq v9 v32 w' => ∃ (x9_1 : Int) (x32_1 : Int), v9 = .int .i64 x9_1 ∧ v32 = .int .i64 x32_1 ∧ zB (zz.l0 kq l1 l2 x9_1 t105 (t105.length : Int) x32_1 = some (r1, r2)) ∧ zB (kq ≤ k) ∧ zB (Kd.R (Kd.int .i64) 2 w' w.heap.size (fun _ => True) (.slice Ao22 t105.length co22) t105) ∧ zB (w'.heap[gb101]? = some (.cells #[(.slice A0_0 l0_0.length c0_0)] 30 (0, 0))) ∧ zB (Below w.heap.size w w'))
    case atStart => exact ⟨(1000), (0), (by first | rfl | (simp; done) | (simp [*]; done)), (by first | rfl | (simp; done) | (simp [*]; done)), H', ⟨yqy _⟩, ⟨by (with_reducible repeat (first | apply Kd.zr | apply Kd.zp | apply Kd.qG)); exact HO107.out⟩, ⟨by (with_reducible repeat (first | refine zI ?_ _ | refine zJ ?_ | refine zG ?_ _)); exact BK101.out⟩, ⟨by repeat (first | (with_reducible first | exact HB.out | apply zC | apply zA | apply zD | refine zF ?_ GE101.out) | exact HB.out)⟩⟩
    case round =>
     clear H'
     try clear c1
     try clear c2
     try clear p2
     try clear c3
     try clear c5
     try clear c5b0
     try clear c5b1
     try clear c7
     try clear c9
     try clear c9b0
     try clear c9b1
     try clear hcz11_0
     try clear hcz13_0
     try clear hcz17_0
     try clear hcz19_0
     try clear hfz11_0
     try clear hfz13_0
     try clear hfz17_0
     try clear hfz19_0
     obtain ⟨x9_1, x32_1, rfl, rfl, HA, HK1, HO_30, BK101, HB⟩ := hrel
     cases gk with
     | zero => exact absurd HA.out (by simp [zz.l0])
     | succ k1 =>
      have H := HA.out
      clear HA
      simp only [zz.l0] at H
      by_cases c23 : x32_1 < (t105.length : Int)
      next =>
       rw [if_pos c23] at H
       have c23b0 : decide (x32_1 < (t105.length : Int)) = true := ygy c23
       clear c23
       by_cases c24 : 0 ≤ x32_1
       next =>
        rw [if_pos c24] at H
        have c24b0 : decide (0 ≤ x32_1) = true := ygy c24
        clear c24
        by_cases c25 : x32_1 < (t105.length : Int)
        next =>
         rw [if_pos c25] at H
         have c25b0 : decide (x32_1 < (t105.length : Int)) = true := ygy c25
         clear c25
         by_cases c26 : 0 ≤ (rd t105 x32_1)
         next =>
          rw [if_pos c26] at H
          have c26b0 : decide (0 ≤ (rd t105 x32_1)) = true := ygy c26
          clear c26
          by_cases c27 : (rd t105 x32_1) < (l1.length : Int)
          next =>
           rw [if_pos c27] at H
           have c27b0 : decide ((rd t105 x32_1) < (l1.length : Int)) = true := ygy c27
           clear c27
           by_cases c28 : (rd t105 x32_1) < (l2.length : Int)
           next =>
            rw [if_pos c28] at H
            have c28b0 : decide ((rd t105 x32_1) < (l2.length : Int)) = true := ygy c28
            clear c28
            by_cases c29 : (rd l2 (rd t105 x32_1)) = 0
            next =>
             rw [if_pos c29] at H
             exact absurd H (by simp)
            next =>
             rw [if_neg c29] at H
             have c29b0 : ((rd l2 (rd t105 x32_1)) == 0) = false := beq_eq_false_iff_ne.mpr c29
             have c29b1 : ((rd l2 (rd t105 x32_1)) != 0) = true := bne_iff_ne.mpr c29
             obtain ⟨ji30, hji30⟩ : ∃ j_ : Int, (mn x9_1 (wrap64 (Int.tdiv (rd l1 (rd t105 x32_1)) (rd l2 (rd t105 x32_1))))) = j_ := ⟨_, rfl⟩
             replace H : (zz.l0 k1 l1 l2 ji30 t105 (t105.length : Int) (wrap64 (x32_1 + 1))) = some (r1, r2) := by first | (rw [hji30] at H; exact H) | (simp only [hji30] at H ⊢; exact H)
             have hji30_ : (if (wrap64 (Int.tdiv (rd l1 (rd t105 x32_1)) (rd l2 (rd t105 x32_1)))) < x9_1 then (wrap64 (Int.tdiv (rd l1 (rd t105 x32_1)) (rd l2 (rd t105 x32_1)))) else x9_1) = ji30 := hji30
             have H' := zB.mk H
             clear H
             have p108 : 0 ≤ (x32_1 : Int) := of_decide_eq_true (by first | (with_reducible assumption) | assumption)
             have q108 : x32_1 < (t105.length : Int) := of_decide_eq_true (by first | (with_reducible assumption) | assumption)
             obtain ⟨ad108, e108, hx108_0⟩ := Kd.qu (Kd.qK HO_30.out).2.2 x32_1 p108 q108
             cases e108
             replace p108 := eq_true p108
             replace q108 := eq_true q108
             have p109 : 0 ≤ ((rd t105 x32_1) : Int) := of_decide_eq_true (by first | (with_reducible assumption) | assumption)
             have q109 : (rd t105 x32_1) < (l1.length : Int) := of_decide_eq_true (by first | (with_reducible assumption) | assumption)
             obtain ⟨ad109, e109, hx109_0⟩ := Kd.qu HR1.out (rd t105 x32_1) p109 q109
             cases e109
             replace hx109_0 := (HB.out.cell (ypy w _ hx109_0)).trans hx109_0
             replace p109 := eq_true p109
             replace q109 := eq_true q109
             have p110 : 0 ≤ ((rd t105 x32_1) : Int) := of_decide_eq_true (by first | (with_reducible assumption) | assumption)
             have q110 : (rd t105 x32_1) < (l2.length : Int) := of_decide_eq_true (by first | (with_reducible assumption) | assumption)
             obtain ⟨ad110, e110, hx110_0⟩ := Kd.qu HR2.out (rd t105 x32_1) p110 q110
             cases e110
             replace hx110_0 := (HB.out.cell (ypy w _ hx110_0)).trans hx110_0
             replace p110 := eq_true p110
             replace q110 := eq_true q110
             go_wp2
             repeat (go_quiet (fail); try go_wp2)
             go_roundg k1
             case measure => have := HK1.out; omega
             case rel => exact ⟨(ji30), (wrap64 (x32_1 + 1)), (by first | rfl | (simp; done) | (simp only [← hji30] <;> (first | rfl | simp)) | (simp [*]; done)), (by first | rfl | (simp; done) | (simp [*]; done)), H', ⟨by have := HK1.out; omega⟩, ⟨by (with_reducible repeat (first | apply Kd.zr | apply Kd.zp | apply Kd.qG)); exact HO_30.out⟩, ⟨by (with_reducible repeat (first | refine zI ?_ _ | refine zJ ?_ | refine zG ?_ _)); exact BK101.out⟩, ⟨by repeat (first | (with_reducible first | exact HB.out | apply zC | apply zA | apply zD | refine zF ?_ GE101.out) | exact HB.out)⟩⟩
           next =>
            rw [if_neg c28] at H
            exact absurd H (by simp)
          next =>
           rw [if_neg c27] at H
           exact absurd H (by simp)
         next =>
          rw [if_neg c26] at H
          exact absurd H (by simp)
        next =>
         rw [if_neg c25] at H
         exact absurd H (by simp)
       next =>
        rw [if_neg c24] at H
        exact absurd H (by simp)
      next =>
       rw [if_neg c23] at H
       have c23b0 : decide (x32_1 < (t105.length : Int)) = false := yhy c23
       clear c23
       simp only [Option.some.injEq, Prod.mk.injEq] at H
       obtain ⟨rfl, rfl⟩ := H
       go_wp2
       repeat (go_quiet (fail); try go_wp2)
       go_ret2
       exact ⟨by first | rfl | (simp [zQ, zR] <;> rfl) | (simp [*, zQ, zR] <;> rfl), by repeat (first | (with_reducible first | exact HB.out | apply zC | apply zA | apply zD | refine zF ?_ GE101.out) | exact HB.out)⟩
  next =>
   replace c7 := Bool.eq_false_iff.mpr c7
   subst c7
   have H1 : (some (0, 5)) = some (r1, r2) := by rw [if_neg (show ¬ (false = true) by decide)] at H; exact H
   clear H
   have H := H1
   clear H1
   simp only [Option.some.injEq, Prod.mk.injEq] at H
   obtain ⟨rfl, rfl⟩ := H
   go_enter Try.func39, Try.ntmps39
   go_wp2_with (first | ((with_reducible refine zj (N := 3) rfl ?_); refine zg ?hg (N := 3) ?hd (cs := #[.slice A0_0 l0_0.length c0_0]) (t := 30) ?hr ?_; (case hd => rfl); (case hg => rfl); (case hr => first | (go_simp; done) | (go_simp; rfl)); intro gb101 hg w31 hbox hb; have n0_ := zB.mk (zL (by repeat (first | (with_reducible first | exact HB.out | apply zC | apply zA | apply zD) | exact HB.out)) hb); have n1_ := zB.mk (hbox); have n2_ := zB.mk ((by rw [hg]; exact (zO (by repeat (first | (with_reducible first | exact HB.out | apply zC | apply zA | apply zD) | exact HB.out))) : w.heap.size ≤ gb101)); have n3_ := zB.mk ((by rw [hg]; exact (zO (by repeat (first | (with_reducible first | exact HB.out | apply zC | apply zA | apply zD) | exact HB.out))) : w.heap.size ≤ gb101)); clear HB; have HB := n0_; have BK101 := n1_; have GW101 := n2_; have GE101 := n3_; clear n0_ n1_ n2_ n3_; clear hb hbox hg; have hcz32_0 : w31.cell? ⟨gb101, 0, none⟩ = some (.slice A0_0 l0_0.length c0_0) := (zM BK101.out 0).trans rfl; have hfz32_0 := zN BK101.out 0) | (go_at_call 81; (with_reducible refine (qM.calls k _ _ l0_0 _ _ l1 t102 _ ?side1 ?side2 ?side3 ?side4 A4.out).mono ?_); (case side1 => repeat (first | exact (Kd.zY HR0_0.out HB.out) | (with_reducible refine Kd.zZ ?_ _) | (with_reducible refine Kd.za ?_ _) | (with_reducible refine Kd.zh ?_))); (case side2 => exact HC0_0.out); (case side3 => repeat (first | exact (Kd.zY HR1.out HB.out) | (with_reducible refine Kd.zZ ?_ _) | (with_reducible refine Kd.za ?_ _) | (with_reducible refine Kd.zh ?_))); (case side4 => exact HC1.out); rintro e w33 ⟨rfl, hb⟩; have n0_ := zB.mk (zP (g := gb101) (o := .cells #[.slice A0_0 l0_0.length c0_0] 30 (0, 0)) (by (with_reducible repeat (first | refine zI ?_ _ | refine zJ ?_ | refine zG ?_ _)); exact BK101.out) hb); have n1_ := zB.mk (zL (by repeat (first | (with_reducible first | exact HB.out | apply zC | apply zA | apply zD | refine zF ?_ GE101.out) | exact HB.out)) hb); clear BK101; clear HB; have BK101 := n0_; have HB := n1_; clear n0_ n1_; (try clear hb); (try clear hb2); (try clear hk); (try clear hi); have hcz34_0 : w33.cell? ⟨gb101, 0, none⟩ = some (.slice A0_0 l0_0.length c0_0) := (zM BK101.out 0).trans rfl; have hfz34_0 := zN BK101.out 0) | (go_at_call 70; (with_reducible refine (zb.calls k _ _ l0_0 _ _ l2 false _ ?side1 ?side2 ?side3 ?side4 A6.out).mono ?_); (case side1 => repeat (first | exact (Kd.zY HR0_0.out HB.out) | (with_reducible refine Kd.zZ ?_ _) | (with_reducible refine Kd.za ?_ _) | (with_reducible refine Kd.zh ?_))); (case side2 => exact HC0_0.out); (case side3 => repeat (first | exact (Kd.zY HR2.out HB.out) | (with_reducible refine Kd.zZ ?_ _) | (with_reducible refine Kd.za ?_ _) | (with_reducible refine Kd.zh ?_))); (case side4 => exact HC2.out); rintro e w35 ⟨rfl, hb⟩; have n0_ := zB.mk (zP (g := gb101) (o := .cells #[.slice A0_0 l0_0.length c0_0] 30 (0, 0)) (by (with_reducible repeat (first | refine zI ?_ _ | refine zJ ?_ | refine zG ?_ _)); exact BK101.out) hb); have n1_ := zB.mk (zL (by repeat (first | (with_reducible first | exact HB.out | apply zC | apply zA | apply zD | refine zF ?_ GE101.out) | exact HB.out)) hb); clear BK101; clear HB; have BK101 := n0_; have HB := n1_; clear n0_ n1_; (try clear hb); (try clear hb2); (try clear hk); (try clear hi)))
   repeat (go_quiet (first | ((with_reducible refine zj (N := 3) rfl ?_); refine zg ?hg (N := 3) ?hd (cs := #[.slice A0_0 l0_0.length c0_0]) (t := 30) ?hr ?_; (case hd => rfl); (case hg => rfl); (case hr => first | (go_simp; done) | (go_simp; rfl)); intro gb101 hg w31 hbox hb; have n0_ := zB.mk (zL (by repeat (first | (with_reducible first | exact HB.out | apply zC | apply zA | apply zD) | exact HB.out)) hb); have n1_ := zB.mk (hbox); have n2_ := zB.mk ((by rw [hg]; exact (zO (by repeat (first | (with_reducible first | exact HB.out | apply zC | apply zA | apply zD) | exact HB.out))) : w.heap.size ≤ gb101)); have n3_ := zB.mk ((by rw [hg]; exact (zO (by repeat (first | (with_reducible first | exact HB.out | apply zC | apply zA | apply zD) | exact HB.out))) : w.heap.size ≤ gb101)); clear HB; have HB := n0_; have BK101 := n1_; have GW101 := n2_; have GE101 := n3_; clear n0_ n1_ n2_ n3_; clear hb hbox hg; have hcz32_0 : w31.cell? ⟨gb101, 0, none⟩ = some (.slice A0_0 l0_0.length c0_0) := (zM BK101.out 0).trans rfl; have hfz32_0 := zN BK101.out 0) | (go_at_call 81; (with_reducible refine (qM.calls k _ _ l0_0 _ _ l1 t102 _ ?side1 ?side2 ?side3 ?side4 A4.out).mono ?_); (case side1 => repeat (first | exact (Kd.zY HR0_0.out HB.out) | (with_reducible refine Kd.zZ ?_ _) | (with_reducible refine Kd.za ?_ _) | (with_reducible refine Kd.zh ?_))); (case side2 => exact HC0_0.out); (case side3 => repeat (first | exact (Kd.zY HR1.out HB.out) | (with_reducible refine Kd.zZ ?_ _) | (with_reducible refine Kd.za ?_ _) | (with_reducible refine Kd.zh ?_))); (case side4 => exact HC1.out); rintro e w33 ⟨rfl, hb⟩; have n0_ := zB.mk (zP (g := gb101) (o := .cells #[.slice A0_0 l0_0.length c0_0] 30 (0, 0)) (by (with_reducible repeat (first | refine zI ?_ _ | refine zJ ?_ | refine zG ?_ _)); exact BK101.out) hb); have n1_ := zB.mk (zL (by repeat (first | (with_reducible first | exact HB.out | apply zC | apply zA | apply zD | refine zF ?_ GE101.out) | exact HB.out)) hb); clear BK101; clear HB; have BK101 := n0_; have HB := n1_; clear n0_ n1_; (try clear hb); (try clear hb2); (try clear hk); (try clear hi); have hcz34_0 : w33.cell? ⟨gb101, 0, none⟩ = some (.slice A0_0 l0_0.length c0_0) := (zM BK101.out 0).trans rfl; have hfz34_0 := zN BK101.out 0) | (go_at_call 70; (with_reducible refine (zb.calls k _ _ l0_0 _ _ l2 false _ ?side1 ?side2 ?side3 ?side4 A6.out).mono ?_); (case side1 => repeat (first | exact (Kd.zY HR0_0.out HB.out) | (with_reducible refine Kd.zZ ?_ _) | (with_reducible refine Kd.za ?_ _) | (with_reducible refine Kd.zh ?_))); (case side2 => exact HC0_0.out); (case side3 => repeat (first | exact (Kd.zY HR2.out HB.out) | (with_reducible refine Kd.zZ ?_ _) | (with_reducible refine Kd.za ?_ _) | (with_reducible refine Kd.zh ?_))); (case side4 => exact HC2.out); rintro e w35 ⟨rfl, hb⟩; have n0_ := zB.mk (zP (g := gb101) (o := .cells #[.slice A0_0 l0_0.length c0_0] 30 (0, 0)) (by (with_reducible repeat (first | refine zI ?_ _ | refine zJ ?_ | refine zG ?_ _)); exact BK101.out) hb); have n1_ := zB.mk (zL (by repeat (first | (with_reducible first | exact HB.out | apply zC | apply zA | apply zD | refine zF ?_ GE101.out) | exact HB.out)) hb); clear BK101; clear HB; have BK101 := n0_; have HB := n1_; clear n0_ n1_; (try clear hb); (try clear hb2); (try clear hk); (try clear hi))); try go_wp2_with (first | ((with_reducible refine zj (N := 3) rfl ?_); refine zg ?hg (N := 3) ?hd (cs := #[.slice A0_0 l0_0.length c0_0]) (t := 30) ?hr ?_; (case hd => rfl); (case hg => rfl); (case hr => first | (go_simp; done) | (go_simp; rfl)); intro gb101 hg w31 hbox hb; have n0_ := zB.mk (zL (by repeat (first | (with_reducible first | exact HB.out | apply zC | apply zA | apply zD) | exact HB.out)) hb); have n1_ := zB.mk (hbox); have n2_ := zB.mk ((by rw [hg]; exact (zO (by repeat (first | (with_reducible first | exact HB.out | apply zC | apply zA | apply zD) | exact HB.out))) : w.heap.size ≤ gb101)); have n3_ := zB.mk ((by rw [hg]; exact (zO (by repeat (first | (with_reducible first | exact HB.out | apply zC | apply zA | apply zD) | exact HB.out))) : w.heap.size ≤ gb101)); clear HB; have HB := n0_; have BK101 := n1_; have GW101 := n2_; have GE101 := n3_; clear n0_ n1_ n2_ n3_; clear hb hbox hg; have hcz32_0 : w31.cell? ⟨gb101, 0, none⟩ = some (.slice A0_0 l0_0.length c0_0) := (zM BK101.out 0).trans rfl; have hfz32_0 := zN BK101.out 0) | (go_at_call 81; (with_reducible refine (qM.calls k _ _ l0_0 _ _ l1 t102 _ ?side1 ?side2 ?side3 ?side4 A4.out).mono ?_); (case side1 => repeat (first | exact (Kd.zY HR0_0.out HB.out) | (with_reducible refine Kd.zZ ?_ _) | (with_reducible refine Kd.za ?_ _) | (with_reducible refine Kd.zh ?_))); (case side2 => exact HC0_0.out); (case side3 => repeat (first | exact (Kd.zY HR1.out HB.out) | (with_reducible refine Kd.zZ ?_ _) | (with_reducible refine Kd.za ?_ _) | (with_reducible refine Kd.zh ?_))); (case side4 => exact HC1.out); rintro e w33 ⟨rfl, hb⟩; have n0_ := zB.mk (zP (g := gb101) (o := .cells #[.slice A0_0 l0_0.length c0_0] 30 (0, 0)) (by (with_reducible repeat (first | refine zI ?_ _ | refine zJ ?_ | refine zG ?_ _)); exact BK101.out) hb); have n1_ := zB.mk (zL (by repeat (first | (with_reducible first | exact HB.out | apply zC | apply zA | apply zD | refine zF ?_ GE101.out) | exact HB.out)) hb); clear BK101; clear HB; have BK101 := n0_; have HB := n1_; clear n0_ n1_; (try clear hb); (try clear hb2); (try clear hk); (try clear hi); have hcz34_0 : w33.cell? ⟨gb101, 0, none⟩ = some (.slice A0_0 l0_0.length c0_0) := (zM BK101.out 0).trans rfl; have hfz34_0 := zN BK101.out 0) | (go_at_call 70; (with_reducible refine (zb.calls k _ _ l0_0 _ _ l2 false _ ?side1 ?side2 ?side3 ?side4 A6.out).mono ?_); (case side1 => repeat (first | exact (Kd.zY HR0_0.out HB.out) | (with_reducible refine Kd.zZ ?_ _) | (with_reducible refine Kd.za ?_ _) | (with_reducible refine Kd.zh ?_))); (case side2 => exact HC0_0.out); (case side3 => repeat (first | exact (Kd.zY HR2.out HB.out) | (with_reducible refine Kd.zZ ?_ _) | (with_reducible refine Kd.za ?_ _) | (with_reducible refine Kd.zh ?_))); (case side4 => exact HC2.out); rintro e w35 ⟨rfl, hb⟩; have n0_ := zB.mk (zP (g := gb101) (o := .cells #[.slice A0_0 l0_0.length c0_0] 30 (0, 0)) (by (with_reducible repeat (first | refine zI ?_ _ | refine zJ ?_ | refine zG ?_ _)); exact BK101.out) hb); have n1_ := zB.mk (zL (by repeat (first | (with_reducible first | exact HB.out | apply zC | apply zA | apply zD | refine zF ?_ GE101.out) | exact HB.out)) hb); clear BK101; clear HB; have BK101 := n0_; have HB := n1_; clear n0_ n1_; (try clear hb); (try clear hb2); (try clear hk); (try clear hi))))
   go_ret2
   exact ⟨by first | rfl | (simp [zQ, zR] <;> rfl) | (simp [*, zQ, zR] <;> rfl), by repeat (first | (with_reducible first | exact HB.out | apply zC | apply zA | apply zD | refine zF ?_ GE101.out) | exact HB.out)⟩
 next =>
  rw [if_neg c5] at H
  have c5b0 : (t102 == 0) = false := beq_eq_false_iff_ne.mpr c5
  have c5b1 : (t102 != 0) = true := bne_iff_ne.mpr c5
  simp only [Option.some.injEq, Prod.mk.injEq] at H
  obtain ⟨rfl, rfl⟩ := H
  go_enter Try.func39, Try.ntmps39
  go_wp2_with (first | ((with_reducible refine zj (N := 3) rfl ?_); refine zg ?hg (N := 3) ?hd (cs := #[.slice A0_0 l0_0.length c0_0]) (t := 30) ?hr ?_; (case hd => rfl); (case hg => rfl); (case hr => first | (go_simp; done) | (go_simp; rfl)); intro gb101 hg w36 hbox hb; have n0_ := zB.mk (zL (by repeat (first | (with_reducible first | exact HB.out | apply zC | apply zA | apply zD) | exact HB.out)) hb); have n1_ := zB.mk (hbox); have n2_ := zB.mk ((by rw [hg]; exact (zO (by repeat (first | (with_reducible first | exact HB.out | apply zC | apply zA | apply zD) | exact HB.out))) : w.heap.size ≤ gb101)); have n3_ := zB.mk ((by rw [hg]; exact (zO (by repeat (first | (with_reducible first | exact HB.out | apply zC | apply zA | apply zD) | exact HB.out))) : w.heap.size ≤ gb101)); clear HB; have HB := n0_; have BK101 := n1_; have GW101 := n2_; have GE101 := n3_; clear n0_ n1_ n2_ n3_; clear hb hbox hg; have hcz37_0 : w36.cell? ⟨gb101, 0, none⟩ = some (.slice A0_0 l0_0.length c0_0) := (zM BK101.out 0).trans rfl; have hfz37_0 := zN BK101.out 0) | (go_at_call 81; (with_reducible refine (qM.calls k _ _ l0_0 _ _ l1 t102 _ ?side1 ?side2 ?side3 ?side4 A4.out).mono ?_); (case side1 => repeat (first | exact (Kd.zY HR0_0.out HB.out) | (with_reducible refine Kd.zZ ?_ _) | (with_reducible refine Kd.za ?_ _) | (with_reducible refine Kd.zh ?_))); (case side2 => exact HC0_0.out); (case side3 => repeat (first | exact (Kd.zY HR1.out HB.out) | (with_reducible refine Kd.zZ ?_ _) | (with_reducible refine Kd.za ?_ _) | (with_reducible refine Kd.zh ?_))); (case side4 => exact HC1.out); rintro e w38 ⟨rfl, hb⟩; have n0_ := zB.mk (zP (g := gb101) (o := .cells #[.slice A0_0 l0_0.length c0_0] 30 (0, 0)) (by (with_reducible repeat (first | refine zI ?_ _ | refine zJ ?_ | refine zG ?_ _)); exact BK101.out) hb); have n1_ := zB.mk (zL (by repeat (first | (with_reducible first | exact HB.out | apply zC | apply zA | apply zD | refine zF ?_ GE101.out) | exact HB.out)) hb); clear BK101; clear HB; have BK101 := n0_; have HB := n1_; clear n0_ n1_; (try clear hb); (try clear hb2); (try clear hk); (try clear hi)))
  repeat (go_quiet (first | ((with_reducible refine zj (N := 3) rfl ?_); refine zg ?hg (N := 3) ?hd (cs := #[.slice A0_0 l0_0.length c0_0]) (t := 30) ?hr ?_; (case hd => rfl); (case hg => rfl); (case hr => first | (go_simp; done) | (go_simp; rfl)); intro gb101 hg w36 hbox hb; have n0_ := zB.mk (zL (by repeat (first | (with_reducible first | exact HB.out | apply zC | apply zA | apply zD) | exact HB.out)) hb); have n1_ := zB.mk (hbox); have n2_ := zB.mk ((by rw [hg]; exact (zO (by repeat (first | (with_reducible first | exact HB.out | apply zC | apply zA | apply zD) | exact HB.out))) : w.heap.size ≤ gb101)); have n3_ := zB.mk ((by rw [hg]; exact (zO (by repeat (first | (with_reducible first | exact HB.out | apply zC | apply zA | apply zD) | exact HB.out))) : w.heap.size ≤ gb101)); clear HB; have HB := n0_; have BK101 := n1_; have GW101 := n2_; have GE101 := n3_; clear n0_ n1_ n2_ n3_; clear hb hbox hg; have hcz37_0 : w36.cell? ⟨gb101, 0, none⟩ = some (.slice A0_0 l0_0.length c0_0) := (zM BK101.out 0).trans rfl; have hfz37_0 := zN BK101.out 0) | (go_at_call 81; (with_reducible refine (qM.calls k _ _ l0_0 _ _ l1 t102 _ ?side1 ?side2 ?side3 ?side4 A4.out).mono ?_); (case side1 => repeat (first | exact (Kd.zY HR0_0.out HB.out) | (with_reducible refine Kd.zZ ?_ _) | (with_reducible refine Kd.za ?_ _) | (with_reducible refine Kd.zh ?_))); (case side2 => exact HC0_0.out); (case side3 => repeat (first | exact (Kd.zY HR1.out HB.out) | (with_reducible refine Kd.zZ ?_ _) | (with_reducible refine Kd.za ?_ _) | (with_reducible refine Kd.zh ?_))); (case side4 => exact HC1.out); rintro e w38 ⟨rfl, hb⟩; have n0_ := zB.mk (zP (g := gb101) (o := .cells #[.slice A0_0 l0_0.length c0_0] 30 (0, 0)) (by (with_reducible repeat (first | refine zI ?_ _ | refine zJ ?_ | refine zG ?_ _)); exact BK101.out) hb); have n1_ := zB.mk (zL (by repeat (first | (with_reducible first | exact HB.out | apply zC | apply zA | apply zD | refine zF ?_ GE101.out) | exact HB.out)) hb); clear BK101; clear HB; have BK101 := n0_; have HB := n1_; clear n0_ n1_; (try clear hb); (try clear hb2); (try clear hk); (try clear hi))); try go_wp2_with (first | ((with_reducible refine zj (N := 3) rfl ?_); refine zg ?hg (N := 3) ?hd (cs := #[.slice A0_0 l0_0.length c0_0]) (t := 30) ?hr ?_; (case hd => rfl); (case hg => rfl); (case hr => first | (go_simp; done) | (go_simp; rfl)); intro gb101 hg w36 hbox hb; have n0_ := zB.mk (zL (by repeat (first | (with_reducible first | exact HB.out | apply zC | apply zA | apply zD) | exact HB.out)) hb); have n1_ := zB.mk (hbox); have n2_ := zB.mk ((by rw [hg]; exact (zO (by repeat (first | (with_reducible first | exact HB.out | apply zC | apply zA | apply zD) | exact HB.out))) : w.heap.size ≤ gb101)); have n3_ := zB.mk ((by rw [hg]; exact (zO (by repeat (first | (with_reducible first | exact HB.out | apply zC | apply zA | apply zD) | exact HB.out))) : w.heap.size ≤ gb101)); clear HB; have HB := n0_; have BK101 := n1_; have GW101 := n2_; have GE101 := n3_; clear n0_ n1_ n2_ n3_; clear hb hbox hg; have hcz37_0 : w36.cell? ⟨gb101, 0, none⟩ = some (.slice A0_0 l0_0.length c0_0) := (zM BK101.out 0).trans rfl; have hfz37_0 := zN BK101.out 0) | (go_at_call 81; (with_reducible refine (qM.calls k _ _ l0_0 _ _ l1 t102 _ ?side1 ?side2 ?side3 ?side4 A4.out).mono ?_); (case side1 => repeat (first | exact (Kd.zY HR0_0.out HB.out) | (with_reducible refine Kd.zZ ?_ _) | (with_reducible refine Kd.za ?_ _) | (with_reducible refine Kd.zh ?_))); (case side2 => exact HC0_0.out); (case side3 => repeat (first | exact (Kd.zY HR1.out HB.out) | (with_reducible refine Kd.zZ ?_ _) | (with_reducible refine Kd.za ?_ _) | (with_reducible refine Kd.zh ?_))); (case side4 => exact HC1.out); rintro e w38 ⟨rfl, hb⟩; have n0_ := zB.mk (zP (g := gb101) (o := .cells #[.slice A0_0 l0_0.length c0_0] 30 (0, 0)) (by (with_reducible repeat (first | refine zI ?_ _ | refine zJ ?_ | refine zG ?_ _)); exact BK101.out) hb); have n1_ := zB.mk (zL (by repeat (first | (with_reducible first | exact HB.out | apply zC | apply zA | apply zD | refine zF ?_ GE101.out) | exact HB.out)) hb); clear BK101; clear HB; have BK101 := n0_; have HB := n1_; clear n0_ n1_; (try clear hb); (try clear hb2); (try clear hk); (try clear hi))))
  go_ret2
  exact ⟨by first | rfl | (simp [zQ, zR] <;> rfl) | (simp [*, zQ, zR] <;> rfl), by repeat (first | (with_reducible first | exact HB.out | apply zC | apply zA | apply zD | refine zF ?_ GE101.out) | exact HB.out)⟩
def qb.l0 : Nat → List Int → List Int → Int → Option (Bool)
  | 0, _, _, _ => none
  | k + 1, x0, x1, x5 => if x5 < (x0.length : Int) then (if 0 ≤ x5 then (if x5 < (x1.length : Int) then (if (rd x0 x5) = (rd x1 x5) then (qb.l0 k x0 x1 (wrap64 (x5 + 1))) else (some false)) else (none)) else (none)) else (some true)
def qb.f (k : Nat) (l0 : List Int) (l1 : List Int) : Option (Bool) := if (l0.length : Int) = (l1.length : Int) then (qb.l0 k l0 l1 0) else (some false)
set_option maxHeartbeats 8000000 in
set_option maxRecDepth 100000 in
theorem qb.calls (k : Nat) (A0 : Option Addr) (c0 : Nat) (l0 : List Int) (A1 : Option Addr) (c1 : Nat) (l1 : List Int) (r : Bool) (w : World) (hr0 : Kd.C (Kd.int .i64) w A0 l0.length l0) (hc0 : l0.length ≤ c0) (hr1 : Kd.C (Kd.int .i64) w A1 l1.length l1) (hc1 : l1.length ≤ c1) (h : qb.f k l0 l1 = some r) :
    Calls Try.prog 21 #[.slice A0 l0.length c0, .slice A1 l1.length c1] w fun e w' => e = .returned (.bool r) ∧ ze w w' := by
  have HR0 := zB.mk hr0
  have HC0 := zB.mk hc0
  clear hr0 hc0
  have HR1 := zB.mk hr1
  have HC1 := zB.mk hc1
  clear hr1 hc1
  have H : (if (l0.length : Int) = (l1.length : Int) then (qb.l0 k l0 l1 0) else (some false)) = some r := h
  clear h
  by_cases c3 : (l0.length : Int) = (l1.length : Int)
  · rw [if_pos c3] at H
    have c3b0 : ((l0.length : Int) == (l1.length : Int)) = true := beq_iff_eq.mpr c3
    have c3b1 : ((l0.length : Int) != (l1.length : Int)) = false := bne_eq_false_iff_eq.mpr c3
    have c3b2 : (l0.length == l1.length) = true := by first | simpa using c3 | (simp at c3 ⊢; omega)
    clear c3
    have H' := zB.mk H
    clear H
    go_enter Try.func21, Try.ntmps21
    go_wp2
    repeat (go_quiet (fail); try go_wp2)
    go_loopg [5] k (fun kq v5 w' => ∃ (x5_1 : Int), v5 = .int .i64 x5_1 ∧ zB (qb.l0 kq l0 l1 x5_1 = some r) ∧ zB (kq ≤ k) ∧ ze w w')
    case atStart => exact ⟨(0), (by first | rfl | (simp; done) | (simp [*]; done)), H', ⟨yqy _⟩, by repeat (first | exact ze.refl _ | apply ze.step)⟩
    case round =>
      clear H'
      try clear c1
      try clear c2
      try clear p2
      try clear c3
      try clear c3b0
      try clear c3b1
      try clear c3b2
      obtain ⟨x5_1, rfl, HA, HK1, ⟨m1, rfl⟩⟩ := hrel
      cases gk with
      | zero => exact absurd HA.out (by simp [qb.l0])
      | succ k1 =>
        have H := HA.out
        clear HA
        simp only [qb.l0] at H
        by_cases c4 : x5_1 < (l0.length : Int)
        · rw [if_pos c4] at H
          have c4b0 : decide (x5_1 < (l0.length : Int)) = true := ygy c4
          clear c4
          by_cases c5 : 0 ≤ x5_1
          · rw [if_pos c5] at H
            have c5b0 : decide (0 ≤ x5_1) = true := ygy c5
            clear c5
            by_cases c6 : x5_1 < (l1.length : Int)
            · rw [if_pos c6] at H
              have c6b0 : decide (x5_1 < (l1.length : Int)) = true := ygy c6
              clear c6
              by_cases c7 : (rd l0 x5_1) = (rd l1 x5_1)
              · rw [if_pos c7] at H
                have c7b0 : ((rd l0 x5_1) == (rd l1 x5_1)) = true := beq_iff_eq.mpr c7
                have c7b1 : ((rd l0 x5_1) != (rd l1 x5_1)) = false := bne_eq_false_iff_eq.mpr c7
                clear c7
                have H' := zB.mk H
                clear H
                have p101 : 0 ≤ (x5_1 : Int) := of_decide_eq_true (by first | (with_reducible assumption) | assumption)
                have q101 : x5_1 < (l0.length : Int) := of_decide_eq_true (by first | (with_reducible assumption) | assumption)
                obtain ⟨ad101, e101, hx101_0⟩ := Kd.qu HR0.out x5_1 p101 q101
                cases e101
                replace p101 := eq_true p101
                replace q101 := eq_true q101
                have p102 : 0 ≤ (x5_1 : Int) := of_decide_eq_true (by first | (with_reducible assumption) | assumption)
                have q102 : x5_1 < (l1.length : Int) := of_decide_eq_true (by first | (with_reducible assumption) | assumption)
                obtain ⟨ad102, e102, hx102_0⟩ := Kd.qu HR1.out x5_1 p102 q102
                cases e102
                replace p102 := eq_true p102
                replace q102 := eq_true q102
                go_wp2
                repeat (go_quiet (fail); try go_wp2)
                go_roundg k1
                case measure => have := HK1.out; omega
                case rel => exact ⟨(wrap64 (x5_1 + 1)), (by first | rfl | (simp; done) | (simp [*]; done)), H', ⟨by have := HK1.out; omega⟩, by repeat (first | exact ze.refl _ | apply ze.step)⟩
              · rw [if_neg c7] at H
                have c7b0 : ((rd l0 x5_1) == (rd l1 x5_1)) = false := beq_eq_false_iff_ne.mpr c7
                have c7b1 : ((rd l0 x5_1) != (rd l1 x5_1)) = true := bne_iff_ne.mpr c7
                obtain rfl := yey H
                have p101 : 0 ≤ (x5_1 : Int) := of_decide_eq_true (by first | (with_reducible assumption) | assumption)
                have q101 : x5_1 < (l0.length : Int) := of_decide_eq_true (by first | (with_reducible assumption) | assumption)
                obtain ⟨ad101, e101, hx101_0⟩ := Kd.qu HR0.out x5_1 p101 q101
                cases e101
                replace p101 := eq_true p101
                replace q101 := eq_true q101
                have p102 : 0 ≤ (x5_1 : Int) := of_decide_eq_true (by first | (with_reducible assumption) | assumption)
                have q102 : x5_1 < (l1.length : Int) := of_decide_eq_true (by first | (with_reducible assumption) | assumption)
                obtain ⟨ad102, e102, hx102_0⟩ := Kd.qu HR1.out x5_1 p102 q102
                cases e102
                replace p102 := eq_true p102
                replace q102 := eq_true q102
                go_wp2
                repeat (go_quiet (fail); try go_wp2)
                go_ret
                exact ⟨by first | rfl | (simp; done) | (simp [*]; done), by repeat (first | exact ze.refl _ | apply ze.step)⟩
            · rw [if_neg c6] at H
              exact absurd H (by simp)
          · rw [if_neg c5] at H
            exact absurd H (by simp)
        · rw [if_neg c4] at H
          have c4b0 : decide (x5_1 < (l0.length : Int)) = false := yhy c4
          clear c4
          obtain rfl := yey H
          go_wp2
          repeat (go_quiet (fail); try go_wp2)
          go_ret
          exact ⟨by first | rfl | (simp; done) | (simp [*]; done), by repeat (first | exact ze.refl _ | apply ze.step)⟩
  · rw [if_neg c3] at H
    have c3b0 : ((l0.length : Int) == (l1.length : Int)) = false := beq_eq_false_iff_ne.mpr c3
    have c3b1 : ((l0.length : Int) != (l1.length : Int)) = true := bne_iff_ne.mpr c3
    have c3b2 : (l0.length == l1.length) = false := by first | simpa using c3 | (simp at c3 ⊢; omega)
    obtain rfl := yey H
    go_enter Try.func21, Try.ntmps21
    go_wp2
    repeat (go_quiet (fail); try go_wp2)
    go_ret
    exact ⟨by first | rfl | (simp; done) | (simp [*]; done), by repeat (first | exact ze.refl _ | apply ze.step)⟩
def QI.f (a0_0 : Int) (a0_1 : Int) (a1_0 : Int) (a1_1 : Int) : Option (Bool) := if a0_0 = a1_0 then (if a0_1 = a1_1 then (some true) else (some false)) else (some false)
set_option maxHeartbeats 8000000 in
set_option maxRecDepth 100000 in
theorem QI.calls (a0_0 : Int) (a0_1 : Int) (a1_0 : Int) (a1_1 : Int) (r : Bool) (w : World) (h : QI.f a0_0 a0_1 a1_0 a1_1 = some r) :
    Calls Try.prog 147 #[.agg #[.int .i64 a0_0, .int .i64 a0_1], .agg #[.int .i64 a1_0, .int .i64 a1_1]] w fun e w' => e = .returned (.bool r) ∧ Below w.heap.size w w' := by
  have hu115 := Try.underlying115
  have HB := zB.mk (yry w.heap.size w)
  have H : (if a0_0 = a1_0 then (if a0_1 = a1_1 then (some true) else (some false)) else (some false)) = some r := h
  clear h
  by_cases c3 : a0_0 = a1_0
  · rw [if_pos c3] at H
    have c3b0 : (a0_0 == a1_0) = true := beq_iff_eq.mpr c3
    have c3b1 : (a0_0 != a1_0) = false := bne_eq_false_iff_eq.mpr c3
    clear c3
    by_cases c4 : a0_1 = a1_1
    · rw [if_pos c4] at H
      have c4b0 : (a0_1 == a1_1) = true := beq_iff_eq.mpr c4
      have c4b1 : (a0_1 != a1_1) = false := bne_eq_false_iff_eq.mpr c4
      clear c4
      obtain rfl := yey H
      go_enter Try.func147, Try.ntmps147
      go_wp2_with (first | ((with_reducible refine zj (N := 2) rfl ?_); refine zg ?hg (N := 2) ?hd (cs := #[.int .i64 a0_0, .int .i64 a0_1]) (t := 115) ?hr ?_; (case hd => rfl); (case hg => rfl); (case hr => first | (go_simp; done) | (go_simp; rfl)); intro gb101 hg w5 hbox hb; have n0_ := zB.mk (zL (by repeat (first | (with_reducible first | exact HB.out | apply zC | apply zA | apply zD) | exact HB.out)) hb); have n1_ := zB.mk (hbox); have n2_ := zB.mk ((by rw [hg]; exact (zO (by repeat (first | (with_reducible first | exact HB.out | apply zC | apply zA | apply zD) | exact HB.out))) : w.heap.size ≤ gb101)); have n3_ := zB.mk ((by rw [hg]; exact (zO (by repeat (first | (with_reducible first | exact HB.out | apply zC | apply zA | apply zD) | exact HB.out))) : w.heap.size ≤ gb101)); clear HB; have HB := n0_; have BK101 := n1_; have GW101 := n2_; have GE101 := n3_; clear n0_ n1_ n2_ n3_; clear hb hbox hg) | ((with_reducible refine zj (N := 3) rfl ?_); refine zg ?hg (N := 3) ?hd (cs := #[.int .i64 a1_0, .int .i64 a1_1]) (t := 115) ?hr ?_; (case hd => rfl); (case hg => rfl); (case hr => first | (go_simp; done) | (go_simp; rfl)); intro gb102 hg w6 hbox hb; have n0_ := zB.mk (zP (g := gb101) (o := .cells #[.int .i64 a0_0, .int .i64 a0_1] 115 (0, 0)) (by (with_reducible repeat (first | refine zI ?_ _ | refine zJ ?_ | refine zG ?_ _)); exact BK101.out) hb); have n1_ := zB.mk (zL (by repeat (first | (with_reducible first | exact HB.out | apply zC | apply zA | apply zD | refine zF ?_ GE101.out) | exact HB.out)) hb); have n2_ := zB.mk (hbox); have n3_ := zB.mk ((by rw [hg]; exact (zO (by repeat (first | (with_reducible first | exact HB.out | apply zC | apply zA | apply zD | refine zF ?_ GE101.out) | exact HB.out))) : w.heap.size ≤ gb102)); have n4_ := zB.mk ((by rw [hg]; exact (zO (by repeat (first | (with_reducible first | exact HB.out | apply zC | apply zA | apply zD | refine zF ?_ GE101.out) | exact HB.out))) : w.heap.size ≤ gb102)); have n5_ := zB.mk ((by rw [hg]; exact Nat.ne_of_lt (qc (g := gb101) (o := .cells #[.int .i64 a0_0, .int .i64 a0_1] 115 (0, 0)) (by (with_reducible repeat (first | refine zI ?_ _ | refine zJ ?_ | refine zG ?_ _)); exact BK101.out)) : gb101 ≠ gb102)); have n6_ := zB.mk ((by rw [hg]; exact Nat.ne_of_gt (qc (g := gb101) (o := .cells #[.int .i64 a0_0, .int .i64 a0_1] 115 (0, 0)) (by (with_reducible repeat (first | refine zI ?_ _ | refine zJ ?_ | refine zG ?_ _)); exact BK101.out)) : gb102 ≠ gb101)); clear BK101; clear HB; have BK101 := n0_; have HB := n1_; have BK102 := n2_; have GW102 := n3_; have GE102 := n4_; have NB101_102 := n5_; have NB102_101 := n6_; clear n0_ n1_ n2_ n3_ n4_ n5_ n6_; clear hb hbox hg; have hnb7 := NB101_102.out; have hnc7 := NB102_101.out; have hcz8_0 : w6.cell? ⟨gb101, 0, none⟩ = some (.int .i64 a0_0) := (zM BK101.out 0).trans rfl; have hcz8_1 : w6.cell? ⟨gb101, 1, none⟩ = some (.int .i64 a0_1) := (zM BK101.out 1).trans rfl; have hfz8_0 := zN BK101.out 0; have hfz8_1 := zN BK101.out 1; have hcz9_0 : w6.cell? ⟨gb102, 0, none⟩ = some (.int .i64 a1_0) := (zM BK102.out 0).trans rfl; have hcz9_1 : w6.cell? ⟨gb102, 1, none⟩ = some (.int .i64 a1_1) := (zM BK102.out 1).trans rfl; have hfz9_0 := zN BK102.out 0; have hfz9_1 := zN BK102.out 1))
      go_ret
      exact ⟨by first | rfl | (simp [zQ, zR] <;> rfl) | (simp [*, zQ, zR] <;> rfl), by repeat (first | (with_reducible first | exact HB.out | apply zC | apply zA | apply zD | refine zF ?_ GE101.out | refine zF ?_ GE102.out) | exact HB.out)⟩
    · rw [if_neg c4] at H
      have c4b0 : (a0_1 == a1_1) = false := beq_eq_false_iff_ne.mpr c4
      have c4b1 : (a0_1 != a1_1) = true := bne_iff_ne.mpr c4
      obtain rfl := yey H
      go_enter Try.func147, Try.ntmps147
      go_wp2_with (first | ((with_reducible refine zj (N := 2) rfl ?_); refine zg ?hg (N := 2) ?hd (cs := #[.int .i64 a0_0, .int .i64 a0_1]) (t := 115) ?hr ?_; (case hd => rfl); (case hg => rfl); (case hr => first | (go_simp; done) | (go_simp; rfl)); intro gb101 hg w10 hbox hb; have n0_ := zB.mk (zL (by repeat (first | (with_reducible first | exact HB.out | apply zC | apply zA | apply zD) | exact HB.out)) hb); have n1_ := zB.mk (hbox); have n2_ := zB.mk ((by rw [hg]; exact (zO (by repeat (first | (with_reducible first | exact HB.out | apply zC | apply zA | apply zD) | exact HB.out))) : w.heap.size ≤ gb101)); have n3_ := zB.mk ((by rw [hg]; exact (zO (by repeat (first | (with_reducible first | exact HB.out | apply zC | apply zA | apply zD) | exact HB.out))) : w.heap.size ≤ gb101)); clear HB; have HB := n0_; have BK101 := n1_; have GW101 := n2_; have GE101 := n3_; clear n0_ n1_ n2_ n3_; clear hb hbox hg) | ((with_reducible refine zj (N := 3) rfl ?_); refine zg ?hg (N := 3) ?hd (cs := #[.int .i64 a1_0, .int .i64 a1_1]) (t := 115) ?hr ?_; (case hd => rfl); (case hg => rfl); (case hr => first | (go_simp; done) | (go_simp; rfl)); intro gb102 hg w11 hbox hb; have n0_ := zB.mk (zP (g := gb101) (o := .cells #[.int .i64 a0_0, .int .i64 a0_1] 115 (0, 0)) (by (with_reducible repeat (first | refine zI ?_ _ | refine zJ ?_ | refine zG ?_ _)); exact BK101.out) hb); have n1_ := zB.mk (zL (by repeat (first | (with_reducible first | exact HB.out | apply zC | apply zA | apply zD | refine zF ?_ GE101.out) | exact HB.out)) hb); have n2_ := zB.mk (hbox); have n3_ := zB.mk ((by rw [hg]; exact (zO (by repeat (first | (with_reducible first | exact HB.out | apply zC | apply zA | apply zD | refine zF ?_ GE101.out) | exact HB.out))) : w.heap.size ≤ gb102)); have n4_ := zB.mk ((by rw [hg]; exact (zO (by repeat (first | (with_reducible first | exact HB.out | apply zC | apply zA | apply zD | refine zF ?_ GE101.out) | exact HB.out))) : w.heap.size ≤ gb102)); have n5_ := zB.mk ((by rw [hg]; exact Nat.ne_of_lt (qc (g := gb101) (o := .cells #[.int .i64 a0_0, .int .i64 a0_1] 115 (0, 0)) (by (with_reducible repeat (first | refine zI ?_ _ | refine zJ ?_ | refine zG ?_ _)); exact BK101.out)) : gb101 ≠ gb102)); have n6_ := zB.mk ((by rw [hg]; exact Nat.ne_of_gt (qc (g := gb101) (o := .cells #[.int .i64 a0_0, .int .i64 a0_1] 115 (0, 0)) (by (with_reducible repeat (first | refine zI ?_ _ | refine zJ ?_ | refine zG ?_ _)); exact BK101.out)) : gb102 ≠ gb101)); clear BK101; clear HB; have BK101 := n0_; have HB := n1_; have BK102 := n2_; have GW102 := n3_; have GE102 := n4_; have NB101_102 := n5_; have NB102_101 := n6_; clear n0_ n1_ n2_ n3_ n4_ n5_ n6_; clear hb hbox hg; have hnb12 := NB101_102.out; have hnc12 := NB102_101.out; have hcz13_0 : w11.cell? ⟨gb101, 0, none⟩ = some (.int .i64 a0_0) := (zM BK101.out 0).trans rfl; have hcz13_1 : w11.cell? ⟨gb101, 1, none⟩ = some (.int .i64 a0_1) := (zM BK101.out 1).trans rfl; have hfz13_0 := zN BK101.out 0; have hfz13_1 := zN BK101.out 1; have hcz14_0 : w11.cell? ⟨gb102, 0, none⟩ = some (.int .i64 a1_0) := (zM BK102.out 0).trans rfl; have hcz14_1 : w11.cell? ⟨gb102, 1, none⟩ = some (.int .i64 a1_1) := (zM BK102.out 1).trans rfl; have hfz14_0 := zN BK102.out 0; have hfz14_1 := zN BK102.out 1))
      go_ret
      exact ⟨by first | rfl | (simp [zQ, zR] <;> rfl) | (simp [*, zQ, zR] <;> rfl), by repeat (first | (with_reducible first | exact HB.out | apply zC | apply zA | apply zD | refine zF ?_ GE101.out | refine zF ?_ GE102.out) | exact HB.out)⟩
  · rw [if_neg c3] at H
    have c3b0 : (a0_0 == a1_0) = false := beq_eq_false_iff_ne.mpr c3
    have c3b1 : (a0_0 != a1_0) = true := bne_iff_ne.mpr c3
    obtain rfl := yey H
    go_enter Try.func147, Try.ntmps147
    go_wp2_with (first | ((with_reducible refine zj (N := 2) rfl ?_); refine zg ?hg (N := 2) ?hd (cs := #[.int .i64 a0_0, .int .i64 a0_1]) (t := 115) ?hr ?_; (case hd => rfl); (case hg => rfl); (case hr => first | (go_simp; done) | (go_simp; rfl)); intro gb101 hg w15 hbox hb; have n0_ := zB.mk (zL (by repeat (first | (with_reducible first | exact HB.out | apply zC | apply zA | apply zD) | exact HB.out)) hb); have n1_ := zB.mk (hbox); have n2_ := zB.mk ((by rw [hg]; exact (zO (by repeat (first | (with_reducible first | exact HB.out | apply zC | apply zA | apply zD) | exact HB.out))) : w.heap.size ≤ gb101)); have n3_ := zB.mk ((by rw [hg]; exact (zO (by repeat (first | (with_reducible first | exact HB.out | apply zC | apply zA | apply zD) | exact HB.out))) : w.heap.size ≤ gb101)); clear HB; have HB := n0_; have BK101 := n1_; have GW101 := n2_; have GE101 := n3_; clear n0_ n1_ n2_ n3_; clear hb hbox hg) | ((with_reducible refine zj (N := 3) rfl ?_); refine zg ?hg (N := 3) ?hd (cs := #[.int .i64 a1_0, .int .i64 a1_1]) (t := 115) ?hr ?_; (case hd => rfl); (case hg => rfl); (case hr => first | (go_simp; done) | (go_simp; rfl)); intro gb102 hg w16 hbox hb; have n0_ := zB.mk (zP (g := gb101) (o := .cells #[.int .i64 a0_0, .int .i64 a0_1] 115 (0, 0)) (by (with_reducible repeat (first | refine zI ?_ _ | refine zJ ?_ | refine zG ?_ _)); exact BK101.out) hb); have n1_ := zB.mk (zL (by repeat (first | (with_reducible first | exact HB.out | apply zC | apply zA | apply zD | refine zF ?_ GE101.out) | exact HB.out)) hb); have n2_ := zB.mk (hbox); have n3_ := zB.mk ((by rw [hg]; exact (zO (by repeat (first | (with_reducible first | exact HB.out | apply zC | apply zA | apply zD | refine zF ?_ GE101.out) | exact HB.out))) : w.heap.size ≤ gb102)); have n4_ := zB.mk ((by rw [hg]; exact (zO (by repeat (first | (with_reducible first | exact HB.out | apply zC | apply zA | apply zD | refine zF ?_ GE101.out) | exact HB.out))) : w.heap.size ≤ gb102)); have n5_ := zB.mk ((by rw [hg]; exact Nat.ne_of_lt (qc (g := gb101) (o := .cells #[.int .i64 a0_0, .int .i64 a0_1] 115 (0, 0)) (by (with_reducible repeat (first | refine zI ?_ _ | refine zJ ?_ | refine zG ?_ _)); exact BK101.out)) : gb101 ≠ gb102)); have n6_ := zB.mk ((by rw [hg]; exact Nat.ne_of_gt (qc (g := gb101) (o := .cells #[.int .i64 a0_0, .int .i64 a0_1] 115 (0, 0)) (by (with_reducible repeat (first | refine zI ?_ _ | refine zJ ?_ | refine zG ?_ _)); exact BK101.out)) : gb102 ≠ gb101)); clear BK101; clear HB; have BK101 := n0_; have HB := n1_; have BK102 := n2_; have GW102 := n3_; have GE102 := n4_; have NB101_102 := n5_; have NB102_101 := n6_; clear n0_ n1_ n2_ n3_ n4_ n5_ n6_; clear hb hbox hg; have hnb17 := NB101_102.out; have hnc17 := NB102_101.out; have hcz18_0 : w16.cell? ⟨gb101, 0, none⟩ = some (.int .i64 a0_0) := (zM BK101.out 0).trans rfl; have hcz18_1 : w16.cell? ⟨gb101, 1, none⟩ = some (.int .i64 a0_1) := (zM BK101.out 1).trans rfl; have hfz18_0 := zN BK101.out 0; have hfz18_1 := zN BK101.out 1; have hcz19_0 : w16.cell? ⟨gb102, 0, none⟩ = some (.int .i64 a1_0) := (zM BK102.out 0).trans rfl; have hcz19_1 : w16.cell? ⟨gb102, 1, none⟩ = some (.int .i64 a1_1) := (zM BK102.out 1).trans rfl; have hfz19_0 := zN BK102.out 0; have hfz19_1 := zN BK102.out 1))
    go_ret
    exact ⟨by first | rfl | (simp [zQ, zR] <;> rfl) | (simp [*, zQ, zR] <;> rfl), by repeat (first | (with_reducible first | exact HB.out | apply zC | apply zA | apply zD | refine zF ?_ GE101.out | refine zF ?_ GE102.out) | exact HB.out)⟩
def qE.l0 : Nat → List (qI) → List (qI) → Int → Option (Bool)
 | 0, _, _, _ => none
 | k + 1, x0, x1, x5 => if x5 < (x0.length : Int) then (if 0 ≤ x5 then (if x5 < (x1.length : Int) then ((QI.f ((zH x0 x5).f0) ((zH x0 x5).f1) ((zH x1 x5).f0) ((zH x1 x5).f1)).bind fun t103 => (if t103 = true then (qE.l0 k x0 x1 (wrap64 (x5 + 1))) else (some false))) else (none)) else (none)) else (some true)
def qE.f (k : Nat) (l0 : List (qI)) (l1 : List (qI)) : Option (Bool) := if (l0.length : Int) = (l1.length : Int) then (qE.l0 k l0 l1 0) else (some false)
def qE.T6 : Bool × List (List Nat × List Nat) := (true, [([], []), ([], []), ([0, 1], [0, 1]), ([2], [2]), ([], []), ([], []), ([4, 5], [4, 5]), ([6], [6]), ([3, 7], [3, 7]), ([8], [8])])
def qE.B6 : List Nat := [0, 0, 3, 7, 0, 0, 48, 112, 255, 511]
theorem qE.tab6 : zAA .any (opsOf Try.f110 6) = qE.T6 := by kernel_rfl
theorem qE.zEI : QZ qE.T6.2 qE.B6 = true := by kernel_rfl
set_option maxHeartbeats 8000000 in
set_option maxRecDepth 100000 in
theorem qE.calls (k : Nat) (A0 : Option Addr) (c0 : Nat) (l0 : List (qI)) (A1 : Option Addr) (c1 : Nat) (l1 : List (qI)) (r : Bool) (w : World) (hr0 : Kd.C ZP w A0 l0.length l0) (hc0 : l0.length ≤ c0) (hr1 : Kd.C ZP w A1 l1.length l1) (hc1 : l1.length ≤ c1) (h : qE.f k l0 l1 = some r) :
 Calls Try.prog 110 #[.slice A0 l0.length c0, .slice A1 l1.length c1] w fun e w' => e = .returned (.bool r) ∧ Below w.heap.size w w' := by
 have hu115 := Try.underlying115
 have HR0 := zB.mk hr0
 have HC0 := zB.mk hc0
 clear hr0 hc0
 have HR1 := zB.mk hr1
 have HC1 := zB.mk hc1
 clear hr1 hc1
 have HB := zB.mk (yry w.heap.size w)
 have H : (if (l0.length : Int) = (l1.length : Int) then (qE.l0 k l0 l1 0) else (some false)) = some r := h
 clear h
 by_cases c3 : (l0.length : Int) = (l1.length : Int)
 next =>
  rw [if_pos c3] at H
  have c3b0 : ((l0.length : Int) == (l1.length : Int)) = true := beq_iff_eq.mpr c3
  have c3b1 : ((l0.length : Int) != (l1.length : Int)) = false := bne_eq_false_iff_eq.mpr c3
  have c3b2 : (l0.length == l1.length) = true := by first | simpa using c3 | (simp at c3 ⊢; omega)
  clear c3
  have H' := zB.mk H
  clear H
  go_enter Try.func110, Try.ntmps110
  go_wp2
  go_loopg [5] k (fun kq v5 w' => ∃ (x5_1 : Int), v5 = .int .i64 x5_1 ∧ zB (qE.l0 kq l0 l1 x5_1 = some r) ∧ zB (kq ≤ k) ∧ zB (Below w.heap.size w w'))
  case atStart => exact ⟨(0), (by first | rfl | (simp; done) | (simp [*]; done)), H', ⟨yqy _⟩, ⟨by repeat (first | (with_reducible first | exact HB.out | apply zC | apply zA | apply zD) | exact HB.out)⟩⟩
  case round =>
   clear H'
   try clear c1
   try clear p2
   try clear c3
   try clear c3b0
   try clear c3b1
   try clear c3b2
   obtain ⟨x5_1, rfl, HA, HK1, HB⟩ := hrel
   cases gk with
   | zero => exact absurd HA.out (by simp [qE.l0])
   | succ k1 =>
    have H := HA.out
    clear HA
    simp only [qE.l0] at H
    by_cases c4 : x5_1 < (l0.length : Int)
    next =>
     rw [if_pos c4] at H
     have c4b0 : decide (x5_1 < (l0.length : Int)) = true := ygy c4
     clear c4
     by_cases c5 : 0 ≤ x5_1
     next =>
      rw [if_pos c5] at H
      have c5b0 : decide (0 ≤ x5_1) = true := ygy c5
      clear c5
      by_cases c6 : x5_1 < (l1.length : Int)
      next =>
       rw [if_pos c6] at H
       have c6b0 : decide (x5_1 < (l1.length : Int)) = true := ygy c6
       clear c6
       replace H := ydy.mp H
       obtain ⟨t103, A70, H⟩ := H
       replace H : (if t103 = true then (qE.l0 k1 l0 l1 (wrap64 (x5_1 + 1))) else (some false)) = some r := H
       have A7 := zB.mk A70
       clear A70
       by_cases c8 : t103 = true
       next =>
        subst c8
        have H1 : (qE.l0 k1 l0 l1 (wrap64 (x5_1 + 1))) = some r := by rw [if_pos rfl] at H; exact H
        clear H
        have H := H1
        clear H1
        have H' := zB.mk H
        clear H
        try go_wp2
        have n0_ := zB.mk (zD HB.out)
        clear HB
        have HB := n0_
        clear n0_
        have p101 : 0 ≤ (x5_1 : Int) := of_decide_eq_true (by first | (with_reducible assumption) | assumption)
        have q101 : x5_1 < (l0.length : Int) := of_decide_eq_true (by first | (with_reducible assumption) | assumption)
        obtain ⟨ad101, e101, hx101_0, hx101_1⟩ := Zg HR0.out x5_1 p101 q101
        have hw101_1 := hx101_1
        have hw101_0 := hx101_0
        cases e101
        replace hx101_0 := (HB.out.cell (ypy w _ hx101_0)).trans hx101_0
        replace hx101_1 := (HB.out.cell (ypy w _ hx101_1)).trans hx101_1
        replace p101 := eq_true p101
        replace q101 := eq_true q101
        have p102 : 0 ≤ (x5_1 : Int) := of_decide_eq_true (by first | (with_reducible assumption) | assumption)
        have q102 : x5_1 < (l1.length : Int) := of_decide_eq_true (by first | (with_reducible assumption) | assumption)
        obtain ⟨ad102, e102, hx102_0, hx102_1⟩ := Zg HR1.out x5_1 p102 q102
        have hw102_1 := hx102_1
        have hw102_0 := hx102_0
        cases e102
        replace hx102_0 := (HB.out.cell (ypy w _ hx102_0)).trans hx102_0
        replace hx102_1 := (HB.out.cell (ypy w _ hx102_1)).trans hx102_1
        replace p102 := eq_true p102
        replace q102 := eq_true q102
        refine Zu (n := 10) (S := fun w' => w'.cell? (ad101.add ((x5_1).toNat * 2)) = some (.int .i64 ((zH l0 x5_1).f0)) ∧ w'.cell? ⟨(ad101.add ((x5_1).toNat * 2)).block, (ad101.add ((x5_1).toNat * 2)).off + 1, none⟩ = some (.int .i64 ((zH l0 x5_1).f1)) ∧ w'.cell? (ad102.add ((x5_1).toNat * 2)) = some (.int .i64 ((zH l1 x5_1).f0)) ∧ w'.cell? ⟨(ad102.add ((x5_1).toNat * 2)).block, (ad102.add ((x5_1).toNat * 2)).off + 1, none⟩ = some (.int .i64 ((zH l1 x5_1).f1))) (ds := []) #[false, false, false, false, false, false, false, false, false, false] (by kernel_rfl) rfl rfl ⟨((HB.out.cell (ypy w _ hw101_0)).trans hw101_0), ((HB.out.cell (ypy w _ hw101_1)).trans hw101_1), ((HB.out.cell (ypy w _ hw102_0)).trans hw102_0), ((HB.out.cell (ypy w _ hw102_1)).trans hw102_1)⟩ (fun hHeld => ?_); refine ZU qE.tab6 qE.zEI (fun HT_ HW_ => ?_)
        generalize wr.drew = w9 at HB hx101_0 hx101_1 hx102_0 hx102_1 hHeld ⊢
        refine zk (i := 0) (N := some 17) (v := ?_) (a' := ?_) #[true, false, false, false, false, false, false, false, false, false] rfl rfl (zc HT_.out (by kernel_rfl)) (fun _ _ _ h => h) (Or.inl ⟨by rfl, ?_⟩) ?_ ?_
        rotate_left
        next =>
         intro w'
         go_simp
         with_reducible rfl
        rotate_left
        next =>
         simp only [Act.put, yay, yby, ycy, zW, zX]
         rfl
        refine zk (i := 1) (N := some 18) (v := ?_) (a' := ?_) #[true, true, false, false, false, false, false, false, false, false] rfl rfl (zc HT_.out (by kernel_rfl)) (fun _ _ _ h => h) (Or.inl ⟨by rfl, ?_⟩) ?_ ?_
        rotate_left
        next =>
         intro w'
         go_simp
         with_reducible rfl
        rotate_left
        next =>
         simp only [Act.put, yay, yby, ycy, zW, zX]
         rfl
        refine zk (i := 2) (N := some 19) (v := ?_) (a' := ?_) #[true, true, true, false, false, false, false, false, false, false] rfl rfl (zc HT_.out (by kernel_rfl)) (fun _ _ _ h => h) (Or.inl ⟨by rfl, ?_⟩) ?_ ?_
        rotate_left
        next =>
         intro w'
         go_simp
         with_reducible rfl
        rotate_left
        next =>
         simp only [Act.put, yay, yby, ycy, zW, zX]
         rfl
        refine zk (i := 4) (N := some 21) (v := ?_) (a' := ?_) #[true, true, true, false, true, false, false, false, false, false] rfl rfl (zc HT_.out (by kernel_rfl)) (fun _ _ _ h => h) (Or.inl ⟨by rfl, ?_⟩) ?_ ?_
        rotate_left
        next =>
         intro w'
         go_simp
         with_reducible rfl
        rotate_left
        next =>
         simp only [Act.put, yay, yby, ycy, zW, zX]
         rfl
        refine zk (i := 5) (N := some 22) (v := ?_) (a' := ?_) #[true, true, true, false, true, true, false, false, false, false] rfl rfl (zc HT_.out (by kernel_rfl)) (fun _ _ _ h => h) (Or.inl ⟨by rfl, ?_⟩) ?_ ?_
        rotate_left
        next =>
         intro w'
         go_simp
         with_reducible rfl
        rotate_left
        next =>
         simp only [Act.put, yay, yby, ycy, zW, zX]
         rfl
        refine zk (i := 6) (N := some 23) (v := ?_) (a' := ?_) #[true, true, true, false, true, true, true, false, false, false] rfl rfl (zc HT_.out (by kernel_rfl)) (fun _ _ _ h => h) (Or.inl ⟨by rfl, ?_⟩) ?_ ?_
        rotate_left
        next =>
         intro w'
         go_simp
         with_reducible rfl
        rotate_left
        next =>
         simp only [Act.put, yay, yby, ycy, zW, zX]
         rfl
        refine qq (i := 3) (N := some 20) (v := ?_) (a' := ?_) #[true, true, true, true, true, true, true, false, false, false] rfl rfl (qJ HT_.out HW_.out (by kernel_rfl)) (fun _ _ _ h => h) (Or.inl ⟨by rfl, ?_⟩) hHeld ?_ ?_
        rotate_left
        next =>
         rintro w' ⟨s0, s1, s2, s3⟩
         go_simp
         with_reducible rfl
        rotate_left
        next =>
         simp only [Act.put, yay, yby, ycy, zW, zX]
         rfl
        refine qq (i := 7) (N := some 24) (v := ?_) (a' := ?_) #[true, true, true, true, true, true, true, true, false, false] rfl rfl (qJ HT_.out HW_.out (by kernel_rfl)) (fun _ _ _ h => h) (Or.inl ⟨by rfl, ?_⟩) hHeld ?_ ?_
        rotate_left
        next =>
         rintro w' ⟨s0, s1, s2, s3⟩
         go_simp
         with_reducible rfl
        rotate_left
        next =>
         simp only [Act.put, yay, yby, ycy, zW, zX]
         rfl
        refine zAU (i := 8) (N := some 25) #[true, true, true, true, true, true, true, true, true, false] rfl rfl (QB HT_.out (by kernel_rfl)) (by decide) (fun K hK => ?_)
        refine JJ Try.func147 (by kernel_rfl) rfl #[.agg #[.int .i64 ((zH l0 x5_1).f0), .int .i64 ((zH l0 x5_1).f1)], .agg #[.int .i64 ((zH l1 x5_1).f0), .int .i64 ((zH l1 x5_1).f1)]] (by rfl) rfl rfl (by (try simp only [yiy, yjy, yky]); first | done | rfl | (simp only [yly, ymy]; rfl)) ?_
        with_reducible refine (QI.calls ((zH l0 x5_1).f0) ((zH l0 x5_1).f1) ((zH l1 x5_1).f0) ((zH l1 x5_1).f1) true _ A7.out).mono ?_
        rintro e w10 ⟨rfl, hb⟩
        refine ⟨_, rfl, ?_⟩
        have n0_ := zB.mk (zL (by repeat (first | (with_reducible first | exact HB.out | apply zC | apply zA | apply zD) | exact HB.out)) hb)
        clear HB
        have HB := n0_
        clear n0_
        (try clear hb)
        (try clear hb2)
        (try clear hk)
        (try clear hi)
        refine hK.out _ _ ⟨((HB.out.cell (ypy w _ hw101_0)).trans hw101_0), ((HB.out.cell (ypy w _ hw101_1)).trans hw101_1), ((HB.out.cell (ypy w _ hw102_0)).trans hw102_0), ((HB.out.cell (ypy w _ hw102_1)).trans hw102_1)⟩ (fun hHeld => ?_)
        clear hK K
        refine QS (a' := ?_) ?_ ?_
        rotate_left
        next =>
         show Act.put _ (some 25) _ = _
         simp only [Act.put, yay, yby, ycy, zW, zX]
         rfl
        refine zk (i := 9) (N := some 26) (v := ?_) (a' := ?_) #[true, true, true, true, true, true, true, true, true, true] rfl rfl (zc HT_.out (by kernel_rfl)) (fun _ _ _ h => h) (Or.inl ⟨by rfl, ?_⟩) ?_ ?_
        rotate_left
        next =>
         intro w'
         go_simp
         with_reducible rfl
        rotate_left
        next =>
         simp only [Act.put, yay, yby, ycy, zW, zX]
         rfl
        refine Qe (Zw HT_.out (by kernel_rfl)) ?_
        try go_wp2
        go_roundg k1
        case measure => have := HK1.out; omega
        case rel => exact ⟨(wrap64 (x5_1 + 1)), (by first | rfl | (simp; done) | (simp [*]; done)), H', ⟨by have := HK1.out; omega⟩, ⟨by repeat (first | (with_reducible first | exact HB.out | apply zC | apply zA | apply zD) | exact HB.out)⟩⟩
       next =>
        replace c8 := Bool.eq_false_iff.mpr c8
        subst c8
        have H1 : (some false) = some r := by rw [if_neg (show ¬ (false = true) by decide)] at H; exact H
        clear H
        have H := H1
        clear H1
        obtain rfl := yey H
        try go_wp2
        have n0_ := zB.mk (zD HB.out)
        clear HB
        have HB := n0_
        clear n0_
        have p101 : 0 ≤ (x5_1 : Int) := of_decide_eq_true (by first | (with_reducible assumption) | assumption)
        have q101 : x5_1 < (l0.length : Int) := of_decide_eq_true (by first | (with_reducible assumption) | assumption)
        obtain ⟨ad101, e101, hx101_0, hx101_1⟩ := Zg HR0.out x5_1 p101 q101
        have hw101_1 := hx101_1
        have hw101_0 := hx101_0
        cases e101
        replace hx101_0 := (HB.out.cell (ypy w _ hx101_0)).trans hx101_0
        replace hx101_1 := (HB.out.cell (ypy w _ hx101_1)).trans hx101_1
        replace p101 := eq_true p101
        replace q101 := eq_true q101
        have p102 : 0 ≤ (x5_1 : Int) := of_decide_eq_true (by first | (with_reducible assumption) | assumption)
        have q102 : x5_1 < (l1.length : Int) := of_decide_eq_true (by first | (with_reducible assumption) | assumption)
        obtain ⟨ad102, e102, hx102_0, hx102_1⟩ := Zg HR1.out x5_1 p102 q102
        have hw102_1 := hx102_1
        have hw102_0 := hx102_0
        cases e102
        replace hx102_0 := (HB.out.cell (ypy w _ hx102_0)).trans hx102_0
        replace hx102_1 := (HB.out.cell (ypy w _ hx102_1)).trans hx102_1
        replace p102 := eq_true p102
        replace q102 := eq_true q102
        refine Zu (n := 10) (S := fun w' => w'.cell? (ad101.add ((x5_1).toNat * 2)) = some (.int .i64 ((zH l0 x5_1).f0)) ∧ w'.cell? ⟨(ad101.add ((x5_1).toNat * 2)).block, (ad101.add ((x5_1).toNat * 2)).off + 1, none⟩ = some (.int .i64 ((zH l0 x5_1).f1)) ∧ w'.cell? (ad102.add ((x5_1).toNat * 2)) = some (.int .i64 ((zH l1 x5_1).f0)) ∧ w'.cell? ⟨(ad102.add ((x5_1).toNat * 2)).block, (ad102.add ((x5_1).toNat * 2)).off + 1, none⟩ = some (.int .i64 ((zH l1 x5_1).f1))) (ds := []) #[false, false, false, false, false, false, false, false, false, false] (by kernel_rfl) rfl rfl ⟨((HB.out.cell (ypy w _ hw101_0)).trans hw101_0), ((HB.out.cell (ypy w _ hw101_1)).trans hw101_1), ((HB.out.cell (ypy w _ hw102_0)).trans hw102_0), ((HB.out.cell (ypy w _ hw102_1)).trans hw102_1)⟩ (fun hHeld => ?_); refine ZU qE.tab6 qE.zEI (fun HT_ HW_ => ?_)
        generalize wr.drew = w11 at HB hx101_0 hx101_1 hx102_0 hx102_1 hHeld ⊢
        refine zk (i := 0) (N := some 17) (v := ?_) (a' := ?_) #[true, false, false, false, false, false, false, false, false, false] rfl rfl (zc HT_.out (by kernel_rfl)) (fun _ _ _ h => h) (Or.inl ⟨by rfl, ?_⟩) ?_ ?_
        rotate_left
        next =>
         intro w'
         go_simp
         with_reducible rfl
        rotate_left
        next =>
         simp only [Act.put, yay, yby, ycy, zW, zX]
         rfl
        refine zk (i := 1) (N := some 18) (v := ?_) (a' := ?_) #[true, true, false, false, false, false, false, false, false, false] rfl rfl (zc HT_.out (by kernel_rfl)) (fun _ _ _ h => h) (Or.inl ⟨by rfl, ?_⟩) ?_ ?_
        rotate_left
        next =>
         intro w'
         go_simp
         with_reducible rfl
        rotate_left
        next =>
         simp only [Act.put, yay, yby, ycy, zW, zX]
         rfl
        refine zk (i := 2) (N := some 19) (v := ?_) (a' := ?_) #[true, true, true, false, false, false, false, false, false, false] rfl rfl (zc HT_.out (by kernel_rfl)) (fun _ _ _ h => h) (Or.inl ⟨by rfl, ?_⟩) ?_ ?_
        rotate_left
        next =>
         intro w'
         go_simp
         with_reducible rfl
        rotate_left
        next =>
         simp only [Act.put, yay, yby, ycy, zW, zX]
         rfl
        refine zk (i := 4) (N := some 21) (v := ?_) (a' := ?_) #[true, true, true, false, true, false, false, false, false, false] rfl rfl (zc HT_.out (by kernel_rfl)) (fun _ _ _ h => h) (Or.inl ⟨by rfl, ?_⟩) ?_ ?_
        rotate_left
        next =>
         intro w'
         go_simp
         with_reducible rfl
        rotate_left
        next =>
         simp only [Act.put, yay, yby, ycy, zW, zX]
         rfl
        refine zk (i := 5) (N := some 22) (v := ?_) (a' := ?_) #[true, true, true, false, true, true, false, false, false, false] rfl rfl (zc HT_.out (by kernel_rfl)) (fun _ _ _ h => h) (Or.inl ⟨by rfl, ?_⟩) ?_ ?_
        rotate_left
        next =>
         intro w'
         go_simp
         with_reducible rfl
        rotate_left
        next =>
         simp only [Act.put, yay, yby, ycy, zW, zX]
         rfl
        refine zk (i := 6) (N := some 23) (v := ?_) (a' := ?_) #[true, true, true, false, true, true, true, false, false, false] rfl rfl (zc HT_.out (by kernel_rfl)) (fun _ _ _ h => h) (Or.inl ⟨by rfl, ?_⟩) ?_ ?_
        rotate_left
        next =>
         intro w'
         go_simp
         with_reducible rfl
        rotate_left
        next =>
         simp only [Act.put, yay, yby, ycy, zW, zX]
         rfl
        refine qq (i := 3) (N := some 20) (v := ?_) (a' := ?_) #[true, true, true, true, true, true, true, false, false, false] rfl rfl (qJ HT_.out HW_.out (by kernel_rfl)) (fun _ _ _ h => h) (Or.inl ⟨by rfl, ?_⟩) hHeld ?_ ?_
        rotate_left
        next =>
         rintro w' ⟨s0, s1, s2, s3⟩
         go_simp
         with_reducible rfl
        rotate_left
        next =>
         simp only [Act.put, yay, yby, ycy, zW, zX]
         rfl
        refine qq (i := 7) (N := some 24) (v := ?_) (a' := ?_) #[true, true, true, true, true, true, true, true, false, false] rfl rfl (qJ HT_.out HW_.out (by kernel_rfl)) (fun _ _ _ h => h) (Or.inl ⟨by rfl, ?_⟩) hHeld ?_ ?_
        rotate_left
        next =>
         rintro w' ⟨s0, s1, s2, s3⟩
         go_simp
         with_reducible rfl
        rotate_left
        next =>
         simp only [Act.put, yay, yby, ycy, zW, zX]
         rfl
        refine zAU (i := 8) (N := some 25) #[true, true, true, true, true, true, true, true, true, false] rfl rfl (QB HT_.out (by kernel_rfl)) (by decide) (fun K hK => ?_)
        refine JJ Try.func147 (by kernel_rfl) rfl #[.agg #[.int .i64 ((zH l0 x5_1).f0), .int .i64 ((zH l0 x5_1).f1)], .agg #[.int .i64 ((zH l1 x5_1).f0), .int .i64 ((zH l1 x5_1).f1)]] (by rfl) rfl rfl (by (try simp only [yiy, yjy, yky]); first | done | rfl | (simp only [yly, ymy]; rfl)) ?_
        with_reducible refine (QI.calls ((zH l0 x5_1).f0) ((zH l0 x5_1).f1) ((zH l1 x5_1).f0) ((zH l1 x5_1).f1) false _ A7.out).mono ?_
        rintro e w12 ⟨rfl, hb⟩
        refine ⟨_, rfl, ?_⟩
        have n0_ := zB.mk (zL (by repeat (first | (with_reducible first | exact HB.out | apply zC | apply zA | apply zD) | exact HB.out)) hb)
        clear HB
        have HB := n0_
        clear n0_
        (try clear hb)
        (try clear hb2)
        (try clear hk)
        (try clear hi)
        refine hK.out _ _ ⟨((HB.out.cell (ypy w _ hw101_0)).trans hw101_0), ((HB.out.cell (ypy w _ hw101_1)).trans hw101_1), ((HB.out.cell (ypy w _ hw102_0)).trans hw102_0), ((HB.out.cell (ypy w _ hw102_1)).trans hw102_1)⟩ (fun hHeld => ?_)
        clear hK K
        refine QS (a' := ?_) ?_ ?_
        rotate_left
        next =>
         show Act.put _ (some 25) _ = _
         simp only [Act.put, yay, yby, ycy, zW, zX]
         rfl
        refine zk (i := 9) (N := some 26) (v := ?_) (a' := ?_) #[true, true, true, true, true, true, true, true, true, true] rfl rfl (zc HT_.out (by kernel_rfl)) (fun _ _ _ h => h) (Or.inl ⟨by rfl, ?_⟩) ?_ ?_
        rotate_left
        next =>
         intro w'
         go_simp
         with_reducible rfl
        rotate_left
        next =>
         simp only [Act.put, yay, yby, ycy, zW, zX]
         rfl
        refine Qe (Zw HT_.out (by kernel_rfl)) ?_
        try go_wp2
        go_ret
        exact ⟨by first | rfl | (simp [zQ, zR] <;> rfl) | (simp [*, zQ, zR] <;> rfl), by repeat (first | (with_reducible first | exact HB.out | apply zC | apply zA | apply zD) | exact HB.out)⟩
      next =>
       rw [if_neg c6] at H
       exact absurd H (by simp)
     next =>
      rw [if_neg c5] at H
      exact absurd H (by simp)
    next =>
     rw [if_neg c4] at H
     have c4b0 : decide (x5_1 < (l0.length : Int)) = false := yhy c4
     clear c4
     obtain rfl := yey H
     go_wp2
     go_ret
     exact ⟨by first | rfl | (simp [zQ, zR] <;> rfl) | (simp [*, zQ, zR] <;> rfl), by repeat (first | (with_reducible first | exact HB.out | apply zC | apply zA | apply zD) | exact HB.out)⟩
 next =>
  rw [if_neg c3] at H
  have c3b0 : ((l0.length : Int) == (l1.length : Int)) = false := beq_eq_false_iff_ne.mpr c3
  have c3b1 : ((l0.length : Int) != (l1.length : Int)) = true := bne_iff_ne.mpr c3
  have c3b2 : (l0.length == l1.length) = false := by first | simpa using c3 | (simp at c3 ⊢; omega)
  obtain rfl := yey H
  go_enter Try.func110, Try.ntmps110
  go_wp2
  go_ret
  exact ⟨by first | rfl | (simp [zQ, zR] <;> rfl) | (simp [*, zQ, zR] <;> rfl), by repeat (first | (with_reducible first | exact HB.out | apply zC | apply zA | apply zD) | exact HB.out)⟩
end Go.Proofs.Ythjpdljdodalaaa.P
