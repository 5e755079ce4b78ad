/- The statement FnExactLinkCornersSaid, proved: part 5 of 7 (texts of this session and of the kit's print, put together and cut to what is used by a program of it). -/
import Derived.Test.YtembbpalgfikiaaMFnExactLinkCorners4
namespace Go.Proofs.Ytembbpalgfikiaa.P
open Go.RowKit Go.Proofs.YtembbpalgfikiaaW.PrintWords Go.Proofs.YtembbpalgfikiaaW.PrintLast Go.Proofs.YtembbpalgfikiaaW.PrintMore
attribute [local go_sem] Qa Qb Qz JA QI QJ Qc Qd
set_option linter.unusedVariables false
set_option linter.unusedSimpArgs false
section
attribute [local go_sem high] eqA75
mutual
def zK.l0 : Nat → Int → List (List (zr)) → Option (Bool)
 | 0, _, _ => none
 | k + 1, x3, x102000 => if x3 < (x102000.length : Int) then (if 0 ≤ x3 then (if ((zE x102000 x3).length : Int) = 4 then (zK.l0 k (wrap64 (x3 + 1)) x102000) else (some false)) else (none)) else (zK.l1 k 0 x102000)
def zK.l1 : Nat → Int → List (List (zr)) → Option (Bool)
 | 0, _, _ => none
 | k + 1, x4, x102000 => (qZ.f x102000).bind fun t104 => (if x4 < t104 then (zK.l2 k x4 0 x102000) else (some true))
def zK.l2 : Nat → Int → Int → List (List (zr)) → Option (Bool)
 | 0, _, _, _ => none
 | k + 1, x4, x5, x102000 => if x5 < 4 then (if 0 ≤ x4 then (if x4 < (x102000.length : Int) then (if 0 ≤ x5 then (if x5 < ((zE x102000 x4).length : Int) then (if ((zI (zE x102000 x4) x5).f0) = (-1) then (zK.j3 k x4 x5 (((zI (zE x102000 x4) x5).f1) == 0) x102000 ((zI (zE x102000 x4) x5).f0) ((zI (zE x102000 x4) x5).f1)) else (zK.j3 k x4 x5 false x102000 ((zI (zE x102000 x4) x5).f0) ((zI (zE x102000 x4) x5).f1))) else (none)) else (none)) else (none)) else (none)) else (zK.l1 k (wrap64 (x4 + 1)) x102000)
def zK.j3 : Nat → Int → Int → Bool → List (List (zr)) → Int → Int → Option (Bool)
 | 0, _, _, _, _, _, _ => none
 | k + 1, x4, x5, x51, x102000, x108000, x108001 => if x51 = true then (zK.l2 k x4 (wrap64 (x5 + 1)) x102000) else ((qZ.f x102000).bind fun t108 => ((QF.f x108000 0 (wrap64 (t108 - 1))).bind fun t109 => (if t109 = true then ((ZT.f x108001).bind fun t110 => (zK.j4 k x4 x5 (!t110) x102000 x108000 x108001)) else (zK.j4 k x4 x5 true x102000 x108000 x108001))))
def zK.j4 : Nat → Int → Int → Bool → List (List (zr)) → Int → Int → Option (Bool)
 | 0, _, _, _, _, _, _ => none
 | k + 1, x4, x5, x64, x102000, x108000, x108001 => if x64 = true then (some false) else ((qt.f k x108001 x5).bind fun t111 => ((qB.f k x108001).bind fun t112 => (if 0 ≤ x108000 then (if x108000 < (x102000.length : Int) then (if 0 ≤ t111 then (if t111 < ((zE x102000 x108000).length : Int) then (if (!(((zI (zE x102000 x108000) t111).f0) == x4) || (!(((zI (zE x102000 x108000) t111).f1) == t112))) = true then (some false) else (if x108000 = x4 then (if t111 = x5 then (some false) else (zK.l2 k x4 (wrap64 (x5 + 1)) x102000)) else (zK.l2 k x4 (wrap64 (x5 + 1)) x102000))) else (none)) else (none)) else (none)) else (none))))
end
def zK.f (k : Nat) (l0_0 : List (List (zr))) : Option (Bool) := (qZ.f l0_0).bind fun t102 => (if t102 > 8 then (some false) else (zK.l0 k 0 l0_0))
def zK.T16 : Bool × List (List Nat × List Nat) := (true, [([], []), ([0], [0]), ([], []), ([2], [2]), ([3], [3]), ([1, 4, 3], [1, 4]), ([5], [5]), ([6, 5], [6]), ([7], [7]), ([8, 7], [7, 8]), ([9, 7, 7], [7, 9]), ([10, 7], [7, 10]), ([7, 11], [7, 11])])
def zK.B16 : List Nat := [0, 1, 0, 4, 12, 31, 63, 127, 255, 511, 1023, 2047, 4095]
theorem zK.tab16 : Qv .any (opsOf Try.f47 16) = zK.T16 := by kernel_rfl
theorem zK.zFe : Zj zK.T16.2 zK.B16 = true := by kernel_rfl
def zK.T20 : Bool × List (List Nat × List Nat) := (true, [([], []), ([0], [0]), ([], []), ([2], [2]), ([1, 3], [1, 3]), ([4], [4]), ([], []), ([5, 6], [5, 6]), ([7], [7]), ([], []), ([8, 9], [8, 9]), ([10], [10]), ([11], [11]), ([12, 11], [11, 12]), ([11], [11]), ([13, 14, 11], [11, 13, 14]), ([15, 11, 11], [11, 15]), ([16], [16]), ([16], [16]), ([17, 18, 16], [16, 17, 18]), ([16, 19, 11], [11, 16, 19]), ([11, 20], [11, 20])])
def zK.B20 : List Nat := [0, 1, 0, 4, 15, 31, 0, 127, 255, 0, 1023, 2047, 4095, 8191, 4095, 32767, 65535, 131071, 131071, 524287, 1048575, 2097151]
theorem zK.zFJ : Qv .any (opsOf Try.f47 20) = zK.T20 := by kernel_rfl
theorem zK.zDM : Zj zK.T20.2 zK.B20 = true := by kernel_rfl
set_option maxHeartbeats 8000000 in
set_option maxRecDepth 100000 in
theorem zK.calls (k : Nat) (A0_0 : Option Addr) (c0_0 : Nat) (l0_0 : List (List (zr))) (r : Bool) (w : World) (hr0_0 : Kd.C (Kd.slice 75 qy) w A0_0 l0_0.length l0_0) (hc0_0 : l0_0.length ≤ c0_0) (h : zK.f k l0_0 = some r) :
 Calls Try.prog 47 #[.agg #[.slice A0_0 l0_0.length c0_0]] w fun e w' => e = .returned (.bool r) ∧ Below w.heap.size w w' := by
 have hu35 := Try.underlying35
 have hu75 := Try.underlying75
 have HR0_0 := zA.mk hr0_0
 have HC0_0 := zA.mk hc0_0
 clear hr0_0 hc0_0
 have HB := zA.mk (yry w.heap.size w)
 have H : ((qZ.f l0_0).bind fun t102 => (if t102 > 8 then (some false) else (zK.l0 k 0 l0_0))) = some r := h
 clear h
 replace H := ydy.mp H
 obtain ⟨t102, A20, H⟩ := H
 replace H : (if t102 > 8 then (some false) else (zK.l0 k 0 l0_0)) = some r := H
 have A2 := zA.mk A20
 clear A20
 by_cases c3 : t102 > 8
 next =>
  rw [if_pos c3] at H
  have c3b0 : decide (8 < t102) = true := ygy c3
  clear c3
  obtain rfl := yey H
  go_enter Try.func47, Try.ntmps47
  go_wp2_with (first | ((with_reducible refine zq (N := 1) rfl ?_); refine zv ?hg (N := 1) ?hd (cs := #[.slice A0_0 l0_0.length c0_0]) (t := 35) ?hr ?_; (case hd => rfl); (case hg => rfl); (case hr => first | (go_simp; done) | (go_simp; rfl)); intro gb101 hg w4 hbox hb; have n0_ := zA.mk (zN (by repeat (first | (with_reducible first | exact HB.out | apply zC | apply zB | apply zD) | exact HB.out)) hb); have n1_ := zA.mk (hbox); have n2_ := zA.mk ((by rw [hg]; exact (zO (by repeat (first | (with_reducible first | exact HB.out | apply zC | apply zB | apply zD) | exact HB.out))) : w.heap.size ≤ gb101)); have n3_ := zA.mk ((by rw [hg]; exact (zO (by repeat (first | (with_reducible first | exact HB.out | apply zC | apply zB | apply zD) | exact HB.out))) : w.heap.size ≤ gb101)); clear HB; have HB := n0_; have BK101 := n1_; have GW101 := n2_; have GE101 := n3_; clear n0_ n1_ n2_ n3_; clear hb hbox hg; have hcz5_0 : w4.cell? ⟨gb101, 0, none⟩ = some (.slice A0_0 l0_0.length c0_0) := (zL BK101.out 0).trans rfl; have hfz5_0 := zM BK101.out 0) | ((with_reducible refine zb (f := 66) rfl ?_); refine qH (some 10) rfl rfl Try.func66 (by kernel_rfl) rfl #[.agg #[.slice A0_0 l0_0.length c0_0]] rfl (by (try simp only [yiy, yjy, yky]); first | done | rfl | (simp only [yly, ymy]; rfl)) ?_; (with_reducible refine (qZ.calls _ _ l0_0 t102 _ ?side1 ?side2 A2.out).mono ?_); (case side1 => repeat (first | exact (Kd.qK HR0_0.out HB.out) | (with_reducible refine Kd.zx ?_ _) | (with_reducible refine Kd.zy ?_ _) | (with_reducible refine Kd.qM ?_))); (case side2 => exact HC0_0.out); rintro e w6 ⟨rfl, hb⟩; refine ⟨_, rfl, ?_⟩; have n0_ := zA.mk (zP (g := gb101) (o := .cells #[.slice A0_0 l0_0.length c0_0] 35 (0, 0)) (by (with_reducible repeat (first | refine zH ?_ _ | refine zJ ?_ | refine zG ?_ _)); exact BK101.out) hb); have n1_ := zA.mk (zN (by repeat (first | (with_reducible first | exact HB.out | apply zC | apply zB | apply zD | refine zF ?_ GE101.out) | exact HB.out)) hb); clear BK101; clear HB; have BK101 := n0_; have HB := n1_; clear n0_ n1_; (try clear hb); (try clear hb2); (try clear hk); (try clear hi)))
  go_ret
  exact ⟨by first | rfl | (simp [zZ, za] <;> rfl) | (simp [*, zZ, za] <;> rfl), by repeat (first | (with_reducible first | exact HB.out | apply zC | apply zB | apply zD | refine zF ?_ GE101.out) | exact HB.out)⟩
 next =>
  rw [if_neg c3] at H
  have c3b0 : decide (8 < t102) = false := yhy c3
  clear c3
  have H' := zA.mk H
  clear H
  go_enter Try.func47, Try.ntmps47
  go_wp2_with (first | ((with_reducible refine zq (N := 1) rfl ?_); refine zv ?hg (N := 1) ?hd (cs := #[.slice A0_0 l0_0.length c0_0]) (t := 35) ?hr ?_; (case hd => rfl); (case hg => rfl); (case hr => first | (go_simp; done) | (go_simp; rfl)); intro gb101 hg w7 hbox hb; have n0_ := zA.mk (zN (by repeat (first | (with_reducible first | exact HB.out | apply zC | apply zB | apply zD) | exact HB.out)) hb); have n1_ := zA.mk (hbox); have n2_ := zA.mk ((by rw [hg]; exact (zO (by repeat (first | (with_reducible first | exact HB.out | apply zC | apply zB | apply zD) | exact HB.out))) : w.heap.size ≤ gb101)); have n3_ := zA.mk ((by rw [hg]; exact (zO (by repeat (first | (with_reducible first | exact HB.out | apply zC | apply zB | apply zD) | exact HB.out))) : w.heap.size ≤ gb101)); clear HB; have HB := n0_; have BK101 := n1_; have GW101 := n2_; have GE101 := n3_; clear n0_ n1_ n2_ n3_; clear hb hbox hg; have hcz8_0 : w7.cell? ⟨gb101, 0, none⟩ = some (.slice A0_0 l0_0.length c0_0) := (zL BK101.out 0).trans rfl; have hfz8_0 := zM BK101.out 0) | ((with_reducible refine zb (f := 66) rfl ?_); refine qH (some 10) rfl rfl Try.func66 (by kernel_rfl) rfl #[.agg #[.slice A0_0 l0_0.length c0_0]] rfl (by (try simp only [yiy, yjy, yky]); first | done | rfl | (simp only [yly, ymy]; rfl)) ?_; (with_reducible refine (qZ.calls _ _ l0_0 t102 _ ?side1 ?side2 A2.out).mono ?_); (case side1 => repeat (first | exact (Kd.qK HR0_0.out HB.out) | (with_reducible refine Kd.zx ?_ _) | (with_reducible refine Kd.zy ?_ _) | (with_reducible refine Kd.qM ?_))); (case side2 => exact HC0_0.out); rintro e w9 ⟨rfl, hb⟩; refine ⟨_, rfl, ?_⟩; have n0_ := zA.mk (zP (g := gb101) (o := .cells #[.slice A0_0 l0_0.length c0_0] 35 (0, 0)) (by (with_reducible repeat (first | refine zH ?_ _ | refine zJ ?_ | refine zG ?_ _)); exact BK101.out) hb); have n1_ := zA.mk (zN (by repeat (first | (with_reducible first | exact HB.out | apply zC | apply zB | apply zD | refine zF ?_ GE101.out) | exact HB.out)) hb); clear BK101; clear HB; have BK101 := n0_; have HB := n1_; clear n0_ n1_; (try clear hb); (try clear hb2); (try clear hk); (try clear hi)))
  go_loopg [3] k (fun kq v3 w' => ∃ (x3_1 : Int), v3 = .int .i64 x3_1 ∧ zA (zK.l0 kq x3_1 l0_0 = some r) ∧ zA (kq ≤ k) ∧ zA (w'.heap[gb101]? = some (.cells #[(.slice A0_0 l0_0.length c0_0)] 35 (0, 0))) ∧ zA (Below w.heap.size w w'))
  case atStart => exact ⟨(0), (by first | rfl | (simp; done) | (simp [*]; done)), H', ⟨yqy _⟩, ⟨by (with_reducible repeat (first | refine zH ?_ _ | refine zJ ?_ | refine zG ?_ _)); exact BK101.out⟩, ⟨by repeat (first | (with_reducible first | exact HB.out | apply zC | apply zB | apply zD | refine zF ?_ GE101.out) | exact HB.out)⟩⟩
  case round =>
   clear H'
   try clear p2
   try clear c3
   try clear c3b0
   try clear c4
   try clear c6
   try clear hcz5_0
   try clear hcz8_0
   try clear hfz5_0
   try clear hfz8_0
   obtain ⟨x3_1, rfl, HA, HK1, BK101, HB⟩ := hrel
   cases gk with
   | zero => exact absurd HA.out (by simp [zK.l0])
   | succ k1 =>
    have H := HA.out
    clear HA
    simp only [zK.l0] at H
    by_cases c10 : x3_1 < (l0_0.length : Int)
    next =>
     rw [if_pos c10] at H
     have c10b0 : decide (x3_1 < (l0_0.length : Int)) = true := ygy c10
     clear c10
     by_cases c11 : 0 ≤ x3_1
     rotate_left
     next =>
      rw [if_neg c11] at H
      exact absurd H (by simp)
     rw [if_pos c11] at H
     have c11b0 : decide (0 ≤ x3_1) = true := ygy c11
     clear c11
     by_cases c12 : ((zE l0_0 x3_1).length : Int) = 4
     rotate_left
     next =>
      rw [if_neg c12] at H
      have c12b0 : (((zE l0_0 x3_1).length : Int) == 4) = false := beq_eq_false_iff_ne.mpr c12
      have c12b1 : (((zE l0_0 x3_1).length : Int) != 4) = true := bne_iff_ne.mpr c12
      obtain rfl := yey H
      have hcz14_0 : wr.cell? ⟨gb101, 0, none⟩ = some (.slice A0_0 l0_0.length c0_0) := (zL BK101.out 0).trans rfl
      have hfz14_0 := zM BK101.out 0
      have p103 : 0 ≤ (x3_1 : Int) := of_decide_eq_true (by first | (with_reducible assumption) | assumption)
      have q103 : x3_1 < (l0_0.length : Int) := of_decide_eq_true (by first | (with_reducible assumption) | assumption)
      obtain ⟨ad103, A103_0, c103_0, e103, hx103_0, hl103_0, hi103_0⟩ := ZW HR0_0.out x3_1 p103 q103
      cases e103
      replace hx103_0 := (HB.out.cell (ypy w _ hx103_0)).trans hx103_0
      have HR103_0 := zA.mk hi103_0
      have HC103_0 := zA.mk hl103_0
      clear hi103_0 hl103_0
      replace p103 := eq_true p103
      replace q103 := eq_true q103
      go_wp2
      go_ret
      exact ⟨by first | rfl | (simp [zZ, za] <;> rfl) | (simp [*, zZ, za] <;> rfl), by repeat (first | (with_reducible first | exact HB.out | apply zC | apply zB | apply zD | refine zF ?_ GE101.out) | exact HB.out)⟩
     rw [if_pos c12] at H
     have c12b0 : (((zE l0_0 x3_1).length : Int) == 4) = true := beq_iff_eq.mpr c12
     have c12b1 : (((zE l0_0 x3_1).length : Int) != 4) = false := bne_eq_false_iff_eq.mpr c12
     clear c12
     have H' := zA.mk H
     clear H
     have hcz13_0 : wr.cell? ⟨gb101, 0, none⟩ = some (.slice A0_0 l0_0.length c0_0) := (zL BK101.out 0).trans rfl
     have hfz13_0 := zM BK101.out 0
     have p103 : 0 ≤ (x3_1 : Int) := of_decide_eq_true (by first | (with_reducible assumption) | assumption)
     have q103 : x3_1 < (l0_0.length : Int) := of_decide_eq_true (by first | (with_reducible assumption) | assumption)
     obtain ⟨ad103, A103_0, c103_0, e103, hx103_0, hl103_0, hi103_0⟩ := ZW HR0_0.out x3_1 p103 q103
     cases e103
     replace hx103_0 := (HB.out.cell (ypy w _ hx103_0)).trans hx103_0
     have HR103_0 := zA.mk hi103_0
     have HC103_0 := zA.mk hl103_0
     clear hi103_0 hl103_0
     replace p103 := eq_true p103
     replace q103 := eq_true q103
     go_wp2
     go_roundg k1
     case measure => have := HK1.out; omega
     case rel => exact ⟨(wrap64 (x3_1 + 1)), (by first | rfl | (simp; done) | (simp [*]; done)), H', ⟨by have := HK1.out; omega⟩, ⟨by (with_reducible repeat (first | refine zH ?_ _ | refine zJ ?_ | refine zG ?_ _)); exact BK101.out⟩, ⟨by repeat (first | (with_reducible first | exact HB.out | apply zC | apply zB | apply zD | refine zF ?_ GE101.out) | exact HB.out)⟩⟩
    next =>
     rw [if_neg c10] at H
     have c10b0 : decide (x3_1 < (l0_0.length : Int)) = false := yhy c10
     clear c10
     have H' := zA.mk H
     clear H
     have hcz15_0 : wr.cell? ⟨gb101, 0, none⟩ = some (.slice A0_0 l0_0.length c0_0) := (zL BK101.out 0).trans rfl
     have hfz15_0 := zM BK101.out 0
     go_wp2
     go_loopg [4] k1 (fun kq v4 w' => ∃ (x4_2 : Int), v4 = .int .i64 x4_2 ∧ zA (zK.l1 kq x4_2 l0_0 = some r) ∧ zA (kq ≤ k1) ∧ zA (w'.heap[gb101]? = some (.cells #[(.slice A0_0 l0_0.length c0_0)] 35 (0, 0))) ∧ zA (Below w.heap.size w w'))
     case atStart => exact ⟨(0), (by first | rfl | (simp; done) | (simp [*]; done)), H', ⟨yqy _⟩, ⟨by (with_reducible repeat (first | refine zH ?_ _ | refine zJ ?_ | refine zG ?_ _)); exact BK101.out⟩, ⟨by repeat (first | (with_reducible first | exact HB.out | apply zC | apply zB | apply zD | refine zF ?_ GE101.out) | exact HB.out)⟩⟩
     case round =>
      clear H'
      try clear c1
      try clear p1
      try clear q1
      try clear hx1
      try clear p2
      try clear c3
      try clear c3b0
      try clear c4
      try clear c6
      try clear p6
      try clear c10
      try clear c10b0
      try clear p10
      try clear q10
      try clear hx10
      try clear c11
      try clear c11b0
      try clear c12
      try clear c12b0
      try clear c12b1
      try clear hcz13_0
      try clear hcz14_0
      try clear hcz15_0
      try clear hcz5_0
      try clear hcz8_0
      try clear hfz13_0
      try clear hfz14_0
      try clear hfz15_0
      try clear hfz5_0
      try clear hfz8_0
      try clear hx103_0
      try clear p103
      try clear p2
      try clear q103
      obtain ⟨x4_2, rfl, HA, HK2, BK101, HB⟩ := hrel
      cases gk with
      | zero => exact absurd HA.out (by simp [zK.l1])
      | succ k2 =>
       have H := HA.out
       clear HA
       simp only [zK.l1] at H
       replace H := ydy.mp H
       obtain ⟨t104, A160, H⟩ := H
       replace H : (if x4_2 < t104 then (zK.l2 k2 x4_2 0 l0_0) else (some true)) = some r := H
       have A16 := zA.mk A160
       clear A160
       by_cases c17 : x4_2 < t104
       rotate_left
       next =>
        rw [if_neg c17] at H
        have c17b0 : decide (x4_2 < t104) = false := yhy c17
        clear c17
        obtain rfl := yey H
        have hcz99_0 : wr.cell? ⟨gb101, 0, none⟩ = some (.slice A0_0 l0_0.length c0_0) := (zL BK101.out 0).trans rfl
        have hfz99_0 := zM BK101.out 0
        go_wp2_with (first | ((with_reducible refine zb (f := 66) rfl ?_); refine qH (some 28) rfl rfl Try.func66 (by kernel_rfl) rfl #[.agg #[.slice A0_0 l0_0.length c0_0]] rfl (by (try simp only [yiy, yjy, yky]); first | done | rfl | (simp only [yly, ymy]; rfl)) ?_; (with_reducible refine (qZ.calls _ _ l0_0 t104 _ ?side1 ?side2 A16.out).mono ?_); (case side1 => repeat (first | exact (Kd.qK HR0_0.out HB.out) | (with_reducible refine Kd.zx ?_ _) | (with_reducible refine Kd.zy ?_ _) | (with_reducible refine Kd.qM ?_))); (case side2 => exact HC0_0.out); rintro e w100 ⟨rfl, hb⟩; refine ⟨_, rfl, ?_⟩; have n0_ := zA.mk (zP (g := gb101) (o := .cells #[.slice A0_0 l0_0.length c0_0] 35 (0, 0)) (by (with_reducible repeat (first | refine zH ?_ _ | refine zJ ?_ | refine zG ?_ _)); exact BK101.out) hb); have n1_ := zA.mk (zN (by repeat (first | (with_reducible first | exact HB.out | apply zC | apply zB | apply zD | refine zF ?_ GE101.out) | exact HB.out)) hb); clear BK101; clear HB; have BK101 := n0_; have HB := n1_; clear n0_ n1_; (try clear hb); (try clear hb2); (try clear hk); (try clear hi)))
        go_ret
        exact ⟨by first | rfl | (simp [zZ, za] <;> rfl) | (simp [*, zZ, za] <;> rfl), by repeat (first | (with_reducible first | exact HB.out | apply zC | apply zB | apply zD | refine zF ?_ GE101.out) | exact HB.out)⟩
       rw [if_pos c17] at H
       have c17b0 : decide (x4_2 < t104) = true := ygy c17
       clear c17
       have H' := zA.mk H
       clear H
       have hcz18_0 : wr.cell? ⟨gb101, 0, none⟩ = some (.slice A0_0 l0_0.length c0_0) := (zL BK101.out 0).trans rfl
       have hfz18_0 := zM BK101.out 0
       go_wp2_with (first | ((with_reducible refine zb (f := 66) rfl ?_); refine qH (some 28) rfl rfl Try.func66 (by kernel_rfl) rfl #[.agg #[.slice A0_0 l0_0.length c0_0]] rfl (by (try simp only [yiy, yjy, yky]); first | done | rfl | (simp only [yly, ymy]; rfl)) ?_; (with_reducible refine (qZ.calls _ _ l0_0 t104 _ ?side1 ?side2 A16.out).mono ?_); (case side1 => repeat (first | exact (Kd.qK HR0_0.out HB.out) | (with_reducible refine Kd.zx ?_ _) | (with_reducible refine Kd.zy ?_ _) | (with_reducible refine Kd.qM ?_))); (case side2 => exact HC0_0.out); rintro e w19 ⟨rfl, hb⟩; refine ⟨_, rfl, ?_⟩; have n0_ := zA.mk (zP (g := gb101) (o := .cells #[.slice A0_0 l0_0.length c0_0] 35 (0, 0)) (by (with_reducible repeat (first | refine zH ?_ _ | refine zJ ?_ | refine zG ?_ _)); exact BK101.out) hb); have n1_ := zA.mk (zN (by repeat (first | (with_reducible first | exact HB.out | apply zC | apply zB | apply zD | refine zF ?_ GE101.out) | exact HB.out)) hb); clear BK101; clear HB; have BK101 := n0_; have HB := n1_; clear n0_ n1_; (try clear hb); (try clear hb2); (try clear hk); (try clear hi)))
       go_loopg [5] k2 (fun kq v5 w' => ∃ (x5_3 : Int), v5 = .int .i64 x5_3 ∧ zA (zK.l2 kq x4_2 x5_3 l0_0 = some r) ∧ zA (kq ≤ k2) ∧ zA (w'.heap[gb101]? = some (.cells #[(.slice A0_0 l0_0.length c0_0)] 35 (0, 0))) ∧ zA (Below w.heap.size w w'))
       case atStart => exact ⟨(0), (by first | rfl | (simp; done) | (simp [*]; done)), H', ⟨yqy _⟩, ⟨by (with_reducible repeat (first | refine zH ?_ _ | refine zJ ?_ | refine zG ?_ _)); exact BK101.out⟩, ⟨by repeat (first | (with_reducible first | exact HB.out | apply zC | apply zB | apply zD | refine zF ?_ GE101.out) | exact HB.out)⟩⟩
       case round =>
        clear H'
        try clear c1
        try clear p1
        try clear q1
        try clear hx1
        try clear p2
        try clear c3
        try clear c3b0
        try clear c4
        try clear c6
        try clear p6
        try clear c10
        try clear c10b0
        try clear p10
        try clear q10
        try clear hx10
        try clear c11
        try clear c11b0
        try clear c12
        try clear c12b0
        try clear c12b1
        try clear c17
        try clear c17b0
        try clear hcz13_0
        try clear hcz14_0
        try clear hcz15_0
        try clear hcz18_0
        try clear hcz5_0
        try clear hcz8_0
        try clear hfz13_0
        try clear hfz14_0
        try clear hfz15_0
        try clear hfz18_0
        try clear hfz5_0
        try clear hfz8_0
        try clear hx103_0
        try clear p1
        try clear p10
        try clear p103
        try clear p2
        try clear p6
        try clear q1
        try clear q10
        try clear q103
        obtain ⟨x5_3, rfl, HA, HK3, BK101, HB⟩ := hrel
        cases gk with
        | zero => exact absurd HA.out (by simp [zK.l2])
        | succ k3 =>
         have H := HA.out
         clear HA
         simp only [zK.l2] at H
         by_cases c20 : x5_3 < 4
         rotate_left
         next =>
          rw [if_neg c20] at H
          have c20b0 : decide (x5_3 < 4) = false := yhy c20
          clear c20
          have H' := zA.mk H
          clear H
          go_wp2
          go_roundg k3
          case measure => have := HK1.out; have := HK2.out; have := HK3.out; omega
          case rel => exact ⟨(wrap64 (x4_2 + 1)), (by first | rfl | (simp; done) | (simp [*]; done)), H', ⟨by have := HK1.out; have := HK2.out; have := HK3.out; omega⟩, ⟨by (with_reducible repeat (first | refine zH ?_ _ | refine zJ ?_ | refine zG ?_ _)); exact BK101.out⟩, ⟨by repeat (first | (with_reducible first | exact HB.out | apply zC | apply zB | apply zD | refine zF ?_ GE101.out) | exact HB.out)⟩⟩
         rw [if_pos c20] at H
         have c20b0 : decide (x5_3 < 4) = true := ygy c20
         clear c20
         by_cases c21 : 0 ≤ x4_2
         rotate_left
         next =>
          rw [if_neg c21] at H
          exact absurd H (by simp)
         rw [if_pos c21] at H
         have c21b0 : decide (0 ≤ x4_2) = true := ygy c21
         clear c21
         by_cases c22 : x4_2 < (l0_0.length : Int)
         rotate_left
         next =>
          rw [if_neg c22] at H
          exact absurd H (by simp)
         rw [if_pos c22] at H
         have c22b0 : decide (x4_2 < (l0_0.length : Int)) = true := ygy c22
         clear c22
         by_cases c23 : 0 ≤ x5_3
         rotate_left
         next =>
          rw [if_neg c23] at H
          exact absurd H (by simp)
         rw [if_pos c23] at H
         have c23b0 : decide (0 ≤ x5_3) = true := ygy c23
         clear c23
         by_cases c24 : x5_3 < ((zE l0_0 x4_2).length : Int)
         rotate_left
         next =>
          rw [if_neg c24] at H
          exact absurd H (by simp)
         rw [if_pos c24] at H
         have c24b0 : decide (x5_3 < ((zE l0_0 x4_2).length : Int)) = true := ygy c24
         clear c24
         have HC25 := zA.mk H
         clear H
         have hcz26_0 : wr.cell? ⟨gb101, 0, none⟩ = some (.slice A0_0 l0_0.length c0_0) := (zL BK101.out 0).trans rfl
         have hfz26_0 := zM BK101.out 0
         have p105 : 0 ≤ (x4_2 : Int) := of_decide_eq_true (by first | (with_reducible assumption) | assumption)
         have q105 : x4_2 < (l0_0.length : Int) := of_decide_eq_true (by first | (with_reducible assumption) | assumption)
         obtain ⟨ad105, A105_0, c105_0, e105, hx105_0, hl105_0, hi105_0⟩ := ZW HR0_0.out x4_2 p105 q105
         cases e105
         replace hx105_0 := (HB.out.cell (ypy w _ hx105_0)).trans hx105_0
         have HR105_0 := zA.mk hi105_0
         have HC105_0 := zA.mk hl105_0
         clear hi105_0 hl105_0
         replace p105 := eq_true p105
         replace q105 := eq_true q105
         have p106 : 0 ≤ (x5_3 : Int) := of_decide_eq_true (by first | (with_reducible assumption) | assumption)
         have q106 : x5_3 < ((zE l0_0 x4_2).length : Int) := of_decide_eq_true (by first | (with_reducible assumption) | assumption)
         obtain ⟨ad106, e106, hx106_0, hx106_1⟩ := QA HR105_0.out x5_3 p106 q106
         cases e106
         replace hx106_0 := (HB.out.cell (ypy w _ hx106_0)).trans hx106_0
         replace hx106_1 := (HB.out.cell (ypy w _ hx106_1)).trans hx106_1
         replace p106 := eq_true p106
         replace q106 := eq_true q106
         go_upto_region 15 with (first | ((with_reducible refine zq (N := 6) rfl ?_); refine zv ?hg (N := 6) ?hd (cs := #[.int .i64 0, .int .i64 0]) (t := 75) ?hr ?_; (case hd => rfl); (case hg => rfl); (case hr => first | (go_simp; done) | (go_simp; rfl)); intro gb107 hg w27 hbox hb; have n0_ := zA.mk (zP (g := gb101) (o := .cells #[.slice (some ad105) l0_0.length c0_0] 35 (0, 0)) (by (with_reducible repeat (first | refine zH ?_ _ | refine zJ ?_ | refine zG ?_ _)); exact BK101.out) hb); have n1_ := zA.mk (zN (by repeat (first | (with_reducible first | exact HB.out | apply zC | apply zB | apply zD | refine zF ?_ GE101.out) | exact HB.out)) hb); have n2_ := zA.mk (hbox); have n3_ := zA.mk ((by rw [hg]; exact (zO (by repeat (first | (with_reducible first | exact HB.out | apply zC | apply zB | apply zD | refine zF ?_ GE101.out) | exact HB.out))) : w.heap.size ≤ gb107)); have n4_ := zA.mk ((by rw [hg]; exact (zO (by repeat (first | (with_reducible first | exact HB.out | apply zC | apply zB | apply zD | refine zF ?_ GE101.out) | exact HB.out))) : w.heap.size ≤ gb107)); have n5_ := zA.mk ((by rw [hg]; exact Nat.ne_of_lt (qT (g := gb101) (o := .cells #[.slice (some ad105) l0_0.length c0_0] 35 (0, 0)) (by (with_reducible repeat (first | refine zH ?_ _ | refine zJ ?_ | refine zG ?_ _)); exact BK101.out)) : gb101 ≠ gb107)); have n6_ := zA.mk ((by rw [hg]; exact Nat.ne_of_gt (qT (g := gb101) (o := .cells #[.slice (some ad105) l0_0.length c0_0] 35 (0, 0)) (by (with_reducible repeat (first | refine zH ?_ _ | refine zJ ?_ | refine zG ?_ _)); exact BK101.out)) : gb107 ≠ gb101)); clear BK101; clear HB; have BK101 := n0_; have HB := n1_; have BK107 := n2_; have GW107 := n3_; have GE107 := n4_; have NB101_107 := n5_; have NB107_101 := n6_; clear n0_ n1_ n2_ n3_ n4_ n5_ n6_; clear hb hbox hg; have hnb28 := NB107_101.out; have hnc28 := NB101_107.out; have hcz29_0 : w27.cell? ⟨gb107, 0, none⟩ = some (.int .i64 0) := (zL BK107.out 0).trans rfl; have hcz29_1 : w27.cell? ⟨gb107, 1, none⟩ = some (.int .i64 0) := (zL BK107.out 1).trans rfl; have hfz29_0 := zM BK107.out 0; have hfz29_1 := zM BK107.out 1))
         (try simp only [Act.put, yay, yby, ycy])
         go_cut [51] (fun v51 wc => ∃ (kq : Nat) (x51_24 : Bool), v51 = .bool x51_24 ∧ zA (zK.j3 kq x4_2 x5_3 x51_24 l0_0 ((zI (zE l0_0 x4_2) x5_3).f0) ((zI (zE l0_0 x4_2) x5_3).f1) = some r) ∧ zA (kq ≤ k3) ∧ zA (wc.heap[gb101]? = some (.cells #[(.slice (some ad105) l0_0.length c0_0)] 35 (0, 0))) ∧ zA (wc.heap[gb107]? = some (.cells #[.int .i64 ((zI (zE l0_0 x4_2) x5_3).f0), .int .i64 ((zI (zE l0_0 x4_2) x5_3).f1)] 75 (0, 0))) ∧ zA (Below w.heap.size w wc))
         case first =>
          have H := HC25.out
          clear HC25
          by_cases c30 : ((zI (zE l0_0 x4_2) x5_3).f0) = (-1)
          rotate_left
          next =>
           rw [if_neg c30] at H
           have c30b0 : (((zI (zE l0_0 x4_2) x5_3).f0) == (-1)) = false := beq_eq_false_iff_ne.mpr c30
           have c30b1 : (((zI (zE l0_0 x4_2) x5_3).f0) != (-1)) = true := bne_iff_ne.mpr c30
           (first | rw [c30b0] | (simp only [zX, zY]; rw [c30b0]) | skip)
           have H' := zA.mk H
           clear H
           have hnb33 := NB107_101.out
           have hnc33 := NB101_107.out
           have hcz34_0 : w27.cell? ⟨gb107, 0, none⟩ = some (.int .i64 0) := (zL BK107.out 0).trans rfl
           have hcz34_1 : w27.cell? ⟨gb107, 1, none⟩ = some (.int .i64 0) := (zL BK107.out 1).trans rfl
           have hfz34_0 := zM BK107.out 0
           have hfz34_1 := zM BK107.out 1
           go_wp2
           go_meet
           case rel => exact ⟨_, (false), (by first | rfl | (simp; done) | (simp [*]; done)), H', ⟨by have := HK1.out; have := HK2.out; have := HK3.out; first | omega | exact yqy _⟩, ⟨by (with_reducible repeat (first | refine zH ?_ _ | refine zJ ?_ | refine zG ?_ _)); refine qJ ?_ NB101_107.out _; (with_reducible repeat (first | refine zH ?_ _ | refine zJ ?_ | refine zG ?_ _)); refine qJ ?_ NB101_107.out _; (with_reducible repeat (first | refine zH ?_ _ | refine zJ ?_ | refine zG ?_ _)); exact BK101.out⟩, ⟨by (with_reducible repeat (first | refine zH ?_ _ | refine zJ ?_ | refine zG ?_ _)); refine qa (cs := #[.int .i64 ((zI (zE l0_0 x4_2) x5_3).f0), .int .i64 0]) ?_ 1 _ rfl; (with_reducible repeat (first | refine zH ?_ _ | refine zJ ?_ | refine zG ?_ _)); refine qa (cs := #[.int .i64 0, .int .i64 0]) ?_ 0 _ rfl; (with_reducible repeat (first | refine zH ?_ _ | refine zJ ?_ | refine zG ?_ _)); exact BK107.out⟩, ⟨by repeat (first | (with_reducible first | exact HB.out | apply zC | apply zB | apply zD | refine zF ?_ GE101.out | refine zF ?_ GE107.out) | exact HB.out)⟩⟩
          rw [if_pos c30] at H
          have c30b0 : (((zI (zE l0_0 x4_2) x5_3).f0) == (-1)) = true := beq_iff_eq.mpr c30
          have c30b1 : (((zI (zE l0_0 x4_2) x5_3).f0) != (-1)) = false := bne_eq_false_iff_eq.mpr c30
          clear c30
          (first | rw [c30b0] | (simp only [zX, zY]; rw [c30b0]) | skip)
          have H' := zA.mk H
          clear H
          have hnb31 := NB107_101.out
          have hnc31 := NB101_107.out
          have hcz32_0 : w27.cell? ⟨gb107, 0, none⟩ = some (.int .i64 0) := (zL BK107.out 0).trans rfl
          have hcz32_1 : w27.cell? ⟨gb107, 1, none⟩ = some (.int .i64 0) := (zL BK107.out 1).trans rfl
          have hfz32_0 := zM BK107.out 0
          have hfz32_1 := zM BK107.out 1
          go_wp2
          go_meet
          case rel => exact ⟨_, ((((zI (zE l0_0 x4_2) x5_3).f1) == 0)), (by first | rfl | (simp; done) | (simp [*]; done)), H', ⟨by have := HK1.out; have := HK2.out; have := HK3.out; first | omega | exact yqy _⟩, ⟨by (with_reducible repeat (first | refine zH ?_ _ | refine zJ ?_ | refine zG ?_ _)); refine qJ ?_ NB101_107.out _; (with_reducible repeat (first | refine zH ?_ _ | refine zJ ?_ | refine zG ?_ _)); refine qJ ?_ NB101_107.out _; (with_reducible repeat (first | refine zH ?_ _ | refine zJ ?_ | refine zG ?_ _)); exact BK101.out⟩, ⟨by (with_reducible repeat (first | refine zH ?_ _ | refine zJ ?_ | refine zG ?_ _)); refine qa (cs := #[.int .i64 ((zI (zE l0_0 x4_2) x5_3).f0), .int .i64 0]) ?_ 1 _ rfl; (with_reducible repeat (first | refine zH ?_ _ | refine zJ ?_ | refine zG ?_ _)); refine qa (cs := #[.int .i64 0, .int .i64 0]) ?_ 0 _ rfl; (with_reducible repeat (first | refine zH ?_ _ | refine zJ ?_ | refine zG ?_ _)); exact BK107.out⟩, ⟨by repeat (first | (with_reducible first | exact HB.out | apply zC | apply zB | apply zD | refine zF ?_ GE101.out | refine zF ?_ GE107.out) | exact HB.out)⟩⟩
         case rest =>
          clear HC25
          try clear c1
          try clear p1
          try clear q1
          try clear hx1
          try clear c2
          try clear p2
          try clear c3
          try clear c3b0
          try clear c4
          try clear c6
          try clear p6
          try clear c10
          try clear c10b0
          try clear p10
          try clear q10
          try clear hx10
          try clear c11
          try clear c11b0
          try clear c12
          try clear c12b0
          try clear c12b1
          try clear c17
          try clear c17b0
          try clear c20
          try clear c20b0
          try clear c21
          try clear c21b0
          try clear c22
          try clear c22b0
          try clear c23
          try clear c23b0
          try clear c24
          try clear c24b0
          try clear c28
          try clear c30
          try clear c30b0
          try clear c30b1
          try clear c31
          try clear c33
          try clear hcz13_0
          try clear hcz14_0
          try clear hcz15_0
          try clear hcz18_0
          try clear hcz26_0
          try clear hcz29_0
          try clear hcz29_1
          try clear hcz32_0
          try clear hcz32_1
          try clear hcz34_0
          try clear hcz34_1
          try clear hcz5_0
          try clear hcz8_0
          try clear hfz13_0
          try clear hfz14_0
          try clear hfz15_0
          try clear hfz18_0
          try clear hfz26_0
          try clear hfz29_0
          try clear hfz29_1
          try clear hfz32_0
          try clear hfz32_1
          try clear hfz34_0
          try clear hfz34_1
          try clear hfz5_0
          try clear hfz8_0
          try clear hx103_0
          try clear hx105_0
          try clear hx106_0
          try clear hx106_1
          try clear p1
          try clear p10
          try clear p103
          try clear p105
          try clear p106
          try clear p2
          try clear p6
          try clear q1
          try clear q10
          try clear q103
          try clear q105
          try clear q106
          obtain ⟨kq, x51_24, rfl, HA, HJ24, BK101, BK107, HB⟩ := hcut
          cases kq with
          | zero => exact absurd HA.out (by simp [zK.j3])
          | succ kj24 =>
           have H := HA.out
           clear HA
           simp only [zK.j3] at H
           by_cases c35 : x51_24 = true
           next =>
            subst c35
            have H1 : (zK.l2 kj24 x4_2 (wrap64 (x5_3 + 1)) l0_0) = some r := by rw [if_pos rfl] at H; exact H
            clear H
            have H := H1
            clear H1
            have H' := zA.mk H
            clear H
            go_wp2
            go_roundg kj24
            case measure => have := HK1.out; have := HK2.out; have := HK3.out; have := HJ24.out; omega
            case rel => exact ⟨(wrap64 (x5_3 + 1)), (by first | rfl | (simp; done) | (simp [*]; done)), H', ⟨by have := HK1.out; have := HK2.out; have := HK3.out; have := HJ24.out; omega⟩, ⟨by (with_reducible repeat (first | refine zH ?_ _ | refine zJ ?_ | refine zG ?_ _)); exact BK101.out⟩, ⟨by repeat (first | (with_reducible first | exact HB.out | apply zC | apply zB | apply zD | refine zF ?_ GE101.out | refine zF ?_ GE107.out) | exact HB.out)⟩⟩
           next =>
            replace c35 := Bool.eq_false_iff.mpr c35
            subst c35
            have H1 : ((qZ.f l0_0).bind fun t108 => ((QF.f ((zI (zE l0_0 x4_2) x5_3).f0) 0 (wrap64 (t108 - 1))).bind fun t109 => (if t109 = true then ((ZT.f ((zI (zE l0_0 x4_2) x5_3).f1)).bind fun t110 => (zK.j4 kj24 x4_2 x5_3 (!t110) l0_0 ((zI (zE l0_0 x4_2) x5_3).f0) ((zI (zE l0_0 x4_2) x5_3).f1))) else (zK.j4 kj24 x4_2 x5_3 true l0_0 ((zI (zE l0_0 x4_2) x5_3).f0) ((zI (zE l0_0 x4_2) x5_3).f1))))) = some r := by rw [if_neg (show ¬ (false = true) by decide)] at H; exact H
            clear H
            have H := H1
            clear H1
            have HC36 := zA.mk H
            clear H
            go_upto_region 16 with (fail)
            go_cut [64] (fun v64 wc => ∃ (kq : Nat) (x64_35 : Bool), v64 = .bool x64_35 ∧ zA (zK.j4 kq x4_2 x5_3 x64_35 l0_0 ((zI (zE l0_0 x4_2) x5_3).f0) ((zI (zE l0_0 x4_2) x5_3).f1) = some r) ∧ zA (kq ≤ kj24) ∧ zA (wc.heap[gb101]? = some (.cells #[(.slice (some ad105) l0_0.length c0_0)] 35 (0, 0))) ∧ zA (wc.heap[gb107]? = some (.cells #[.int .i64 ((zI (zE l0_0 x4_2) x5_3).f0), .int .i64 ((zI (zE l0_0 x4_2) x5_3).f1)] 75 (0, 0))) ∧ zA (Below w.heap.size w wc))
            case first =>
             have H := HC36.out
             clear HC36
             replace H := ydy.mp H
             obtain ⟨t108, A370, H⟩ := H
             replace H : ((QF.f ((zI (zE l0_0 x4_2) x5_3).f0) 0 (wrap64 (t108 - 1))).bind fun t109 => (if t109 = true then ((ZT.f ((zI (zE l0_0 x4_2) x5_3).f1)).bind fun t110 => (zK.j4 kj24 x4_2 x5_3 (!t110) l0_0 ((zI (zE l0_0 x4_2) x5_3).f0) ((zI (zE l0_0 x4_2) x5_3).f1))) else (zK.j4 kj24 x4_2 x5_3 true l0_0 ((zI (zE l0_0 x4_2) x5_3).f0) ((zI (zE l0_0 x4_2) x5_3).f1)))) = some r := H
             have A37 := zA.mk A370
             clear A370
             replace H := ydy.mp H
             obtain ⟨t109, A380, H⟩ := H
             replace H : (if t109 = true then ((ZT.f ((zI (zE l0_0 x4_2) x5_3).f1)).bind fun t110 => (zK.j4 kj24 x4_2 x5_3 (!t110) l0_0 ((zI (zE l0_0 x4_2) x5_3).f0) ((zI (zE l0_0 x4_2) x5_3).f1))) else (zK.j4 kj24 x4_2 x5_3 true l0_0 ((zI (zE l0_0 x4_2) x5_3).f0) ((zI (zE l0_0 x4_2) x5_3).f1))) = some r := H
             have A38 := zA.mk A380
             clear A380
             by_cases c39 : t109 = true
             rotate_left
             next =>
              replace c39 := Bool.eq_false_iff.mpr c39
              subst c39
              have H1 : (zK.j4 kj24 x4_2 x5_3 true l0_0 ((zI (zE l0_0 x4_2) x5_3).f0) ((zI (zE l0_0 x4_2) x5_3).f1)) = some r := by rw [if_neg (show ¬ (false = true) by decide)] at H; exact H
              clear H
              have H := H1
              clear H1
              have H' := zA.mk H
              clear H
              try go_wp2
              have n0_ := zA.mk (zJ BK101.out)
              have n1_ := zA.mk (zJ BK107.out)
              have n2_ := zA.mk (zD HB.out)
              clear BK101
              clear BK107
              clear HB
              have BK101 := n0_
              have BK107 := n1_
              have HB := n2_
              clear n0_ n1_ n2_
              refine Zy (n := 13) (S := fun w' => w'.cell? ⟨gb107, 0, none⟩ = some (.int .i64 ((zI (zE l0_0 x4_2) x5_3).f0)) ∧ w'.cell? ⟨gb107, 1, none⟩ = some (.int .i64 ((zI (zE l0_0 x4_2) x5_3).f1)) ∧ w'.cell? ⟨gb101, 0, none⟩ = some (.slice (some ad105) l0_0.length c0_0)) (ds := []) #[false, false, false, false, false, false, false, false, false, false, false, false, false] (by kernel_rfl) rfl rfl ⟨(zL BK107.out 0).trans rfl, (zL BK107.out 1).trans rfl, (zL BK101.out 0).trans rfl⟩ (fun hHeld => ?_); refine ZF zK.tab16 zK.zFe (fun HT_ HW_ => ?_)
              generalize wc.drew = w43 at BK101 BK107 HB hHeld ⊢
              refine zf (i := 0) (N := some 52) (v := ?_) (a' := ?_) #[true, false, false, false, false, false, false, false, false, false, false, false, false] rfl rfl (zc HT_.out (by kernel_rfl)) (fun _ _ _ h => h) (Or.inl ⟨by rfl, ?_⟩) ?_ ?_
              rotate_left
              next =>
               intro w'
               go_simp
               with_reducible rfl
              rotate_left
              next =>
               simp only [Act.put, yay, yby, ycy, zX, zY]
               rfl
              refine qw (i := 1) (N := some 53) (v := ?_) (a' := ?_) #[true, true, false, false, false, false, false, false, false, false, false, false, false] rfl rfl (qC HT_.out HW_.out (by kernel_rfl)) (fun _ _ _ h => h) (Or.inl ⟨by rfl, ?_⟩) hHeld ?_ ?_
              rotate_left
              next =>
               rintro w' ⟨s0, s1, s2⟩
               go_simp
               with_reducible rfl
              rotate_left
              next =>
               simp only [Act.put, yay, yby, ycy, zX, zY]
               rfl
              refine qw (i := 2) (N := some 54) (v := ?_) (a' := ?_) #[true, true, true, false, false, false, false, false, false, false, false, false, false] rfl rfl (qC HT_.out HW_.out (by kernel_rfl)) (fun _ _ _ h => h) (Or.inl ⟨by rfl, ?_⟩) hHeld ?_ ?_
              rotate_left
              next =>
               rintro w' ⟨s0, s1, s2⟩
               go_simp
               with_reducible rfl
              rotate_left
              next =>
               simp only [Act.put, yay, yby, ycy, zX, zY]
               rfl
              refine zA0 (i := 3) (N := some 55) #[true, true, true, true, false, false, false, false, false, false, false, false, false] rfl rfl (Zi HT_.out (by kernel_rfl)) (by decide) (fun K hK => ?_)
              refine Qj Try.func66 (by kernel_rfl) rfl #[.agg #[.slice (some ad105) l0_0.length c0_0]] (by rfl) rfl rfl (by (try simp only [yiy, yjy, yky]); first | done | rfl | (simp only [yly, ymy]; rfl)) ?_
              with_reducible refine (qZ.calls _ _ l0_0 t108 _ ?side1 ?side2 A37.out).mono ?_
              (case side1 => repeat (first | exact (Kd.qK HR0_0.out HB.out) | (with_reducible refine Kd.zx ?_ _) | (with_reducible refine Kd.zy ?_ _) | (with_reducible refine Kd.qM ?_)))
              (case side2 => exact HC0_0.out)
              rintro e w44 ⟨rfl, hb⟩
              refine ⟨_, rfl, ?_⟩
              have n0_ := zA.mk (zP (g := gb101) (o := .cells #[.slice (some ad105) l0_0.length c0_0] 35 (0, 0)) (by (with_reducible repeat (first | refine zH ?_ _ | refine zJ ?_ | refine zG ?_ _)); exact BK101.out) hb)
              have n1_ := zA.mk (zP (g := gb107) (o := .cells #[.int .i64 ((zI (zE l0_0 x4_2) x5_3).f0), .int .i64 ((zI (zE l0_0 x4_2) x5_3).f1)] 75 (0, 0)) (by (with_reducible repeat (first | refine zH ?_ _ | refine zJ ?_ | refine zG ?_ _)); exact BK107.out) hb)
              have n2_ := zA.mk (zN (by repeat (first | (with_reducible first | exact HB.out | apply zC | apply zB | apply zD | refine zF ?_ GE101.out | refine zF ?_ GE107.out) | exact HB.out)) hb)
              clear BK101
              clear BK107
              clear HB
              have BK101 := n0_
              have BK107 := n1_
              have HB := n2_
              clear n0_ n1_ n2_
              (try clear hb)
              (try clear hb2)
              (try clear hk)
              (try clear hi)
              refine hK.out _ _ ⟨(zL BK107.out 0).trans rfl, (zL BK107.out 1).trans rfl, (zL BK101.out 0).trans rfl⟩ (fun hHeld => ?_)
              clear hK K
              refine QM (a' := ?_) ?_ ?_
              rotate_left
              next =>
               show Act.put _ (some 55) _ = _
               simp only [Act.put, yay, yby, ycy, zX, zY]
               rfl
              refine zf (i := 4) (N := some 56) (v := ?_) (a' := ?_) #[true, true, true, true, true, false, false, false, false, false, false, false, false] rfl rfl (zc HT_.out (by kernel_rfl)) (fun _ _ _ h => h) (Or.inl ⟨by rfl, ?_⟩) ?_ ?_
              rotate_left
              next =>
               intro w'
               go_simp
               with_reducible rfl
              rotate_left
              next =>
               simp only [Act.put, yay, yby, ycy, zX, zY]
               rfl
              refine zA0 (i := 5) (N := some 57) #[true, true, true, true, true, true, false, false, false, false, false, false, false] rfl rfl (Zi HT_.out (by kernel_rfl)) (by decide) (fun K hK => ?_)
              refine Qj Try.func65 (by kernel_rfl) rfl #[.int .i64 ((zI (zE l0_0 x4_2) x5_3).f0), .int .i64 0, .int .i64 (wrap64 (t108 - 1))] (by rfl) rfl rfl (by (try simp only [yiy, yjy, yky]); first | done | rfl | (simp only [yly, ymy]; rfl)) ?_
              with_reducible refine (QF.calls ((zI (zE l0_0 x4_2) x5_3).f0) 0 (wrap64 (t108 - 1)) false _ A38.out).mono ?_
              rintro e w' ⟨rfl, ⟨nd, rfl⟩⟩
              refine ⟨_, rfl, ?_⟩
              refine hK.out _ _ ⟨(zL BK107.out 0).trans rfl, (zL BK107.out 1).trans rfl, (zL BK101.out 0).trans rfl⟩ (fun hHeld => ?_)
              clear hK K
              refine QM (a' := ?_) ?_ ?_
              rotate_left
              next =>
               show Act.put _ (some 57) _ = _
               simp only [Act.put, yay, yby, ycy, zX, zY]
               rfl
              refine zf (i := 6) (N := some 58) (v := ?_) (a' := ?_) #[true, true, true, true, true, true, true, false, false, false, false, false, false] rfl rfl (zc HT_.out (by kernel_rfl)) (fun _ _ _ h => h) (Or.inl ⟨by rfl, ?_⟩) ?_ ?_
              rotate_left
              next =>
               intro w'
               go_simp
               with_reducible rfl
              rotate_left
              next =>
               simp only [Act.put, yay, yby, ycy, zX, zY]
               rfl
              refine zf (i := 7) (N := some 59) (v := ?_) (a' := ?_) #[true, true, true, true, true, true, true, true, false, false, false, false, false] rfl rfl (zc HT_.out (by kernel_rfl)) (fun _ _ _ h => h) (Or.inl ⟨by rfl, ?_⟩) ?_ ?_
              rotate_left
              next =>
               intro w'
               go_simp
               with_reducible rfl
              rotate_left
              next =>
               simp only [Act.put, yay, yby, ycy, zX, zY]
               rfl
              refine zf (i := 8) (N := some 60) (v := undef) (a' := ?_) #[true, true, true, true, true, true, true, true, true, false, false, false, false] rfl rfl (zc HT_.out (by kernel_rfl)) (fun _ _ _ h => h) (Or.inr ⟨by rfl, rfl⟩) ?_ ?_
              rotate_left
              next =>
               simp only [Act.put, yay, yby, ycy, zX, zY]
               rfl
              refine zf (i := 9) (N := some 61) (v := undef) (a' := ?_) #[true, true, true, true, true, true, true, true, true, true, false, false, false] rfl rfl (zc HT_.out (by kernel_rfl)) (fun _ _ _ h => h) (Or.inr ⟨by rfl, rfl⟩) ?_ ?_
              rotate_left
              next =>
               simp only [Act.put, yay, yby, ycy, zX, zY]
               rfl
              refine zf (i := 10) (N := some 62) (v := undef) (a' := ?_) #[true, true, true, true, true, true, true, true, true, true, true, false, false] rfl rfl (zc HT_.out (by kernel_rfl)) (fun _ _ _ h => h) (Or.inr ⟨by rfl, rfl⟩) ?_ ?_
              rotate_left
              next =>
               simp only [Act.put, yay, yby, ycy, zX, zY]
               rfl
              refine zf (i := 11) (N := some 63) (v := undef) (a' := ?_) #[true, true, true, true, true, true, true, true, true, true, true, true, false] rfl rfl (zc HT_.out (by kernel_rfl)) (fun _ _ _ h => h) (Or.inr ⟨by rfl, rfl⟩) ?_ ?_
              rotate_left
              next =>
               simp only [Act.put, yay, yby, ycy, zX, zY]
               rfl
              refine zf (i := 12) (N := some 64) (v := ?_) (a' := ?_) #[true, true, true, true, true, true, true, true, true, true, true, true, true] rfl rfl (zc HT_.out (by kernel_rfl)) (fun _ _ _ h => h) (Or.inl ⟨by rfl, ?_⟩) ?_ ?_
              rotate_left
              next =>
               intro w'
               go_simp
               with_reducible rfl
              rotate_left
              next =>
               simp only [Act.put, yay, yby, ycy, zX, zY]
               rfl
              refine Qu (Zs HT_.out (by kernel_rfl)) ?_
              try go_wp2
              go_meet
              case rel => exact ⟨_, (true), (by first | rfl | (simp; done) | (simp [*]; done)), H', ⟨by have := HK1.out; have := HK2.out; have := HK3.out; have := HJ24.out; first | omega | exact yqy _⟩, ⟨by (with_reducible repeat (first | refine zH ?_ _ | refine zJ ?_ | refine zG ?_ _)); exact BK101.out⟩, ⟨by (with_reducible repeat (first | refine zH ?_ _ | refine zJ ?_ | refine zG ?_ _)); exact BK107.out⟩, ⟨by repeat (first | (with_reducible first | exact HB.out | apply zC | apply zB | apply zD | refine zF ?_ GE101.out | refine zF ?_ GE107.out) | exact HB.out)⟩⟩
             subst c39
             have H1 : ((ZT.f ((zI (zE l0_0 x4_2) x5_3).f1)).bind fun t110 => (zK.j4 kj24 x4_2 x5_3 (!t110) l0_0 ((zI (zE l0_0 x4_2) x5_3).f0) ((zI (zE l0_0 x4_2) x5_3).f1))) = some r := by rw [if_pos rfl] at H; exact H
             clear H
             have H := H1
             clear H1
             replace H := ydy.mp H
             obtain ⟨t110, A400, H⟩ := H
             replace H : (zK.j4 kj24 x4_2 x5_3 (!t110) l0_0 ((zI (zE l0_0 x4_2) x5_3).f0) ((zI (zE l0_0 x4_2) x5_3).f1)) = some r := H
             have A40 := zA.mk A400
             clear A400
             have H' := zA.mk H
             clear H
             try go_wp2
             have n0_ := zA.mk (zJ BK101.out)
             have n1_ := zA.mk (zJ BK107.out)
             have n2_ := zA.mk (zD HB.out)
             clear BK101
             clear BK107
             clear HB
             have BK101 := n0_
             have BK107 := n1_
             have HB := n2_
             clear n0_ n1_ n2_
             refine Zy (n := 13) (S := fun w' => w'.cell? ⟨gb107, 0, none⟩ = some (.int .i64 ((zI (zE l0_0 x4_2) x5_3).f0)) ∧ w'.cell? ⟨gb107, 1, none⟩ = some (.int .i64 ((zI (zE l0_0 x4_2) x5_3).f1)) ∧ w'.cell? ⟨gb101, 0, none⟩ = some (.slice (some ad105) l0_0.length c0_0)) (ds := []) #[false, false, false, false, false, false, false, false, false, false, false, false, false] (by kernel_rfl) rfl rfl ⟨(zL BK107.out 0).trans rfl, (zL BK107.out 1).trans rfl, (zL BK101.out 0).trans rfl⟩ (fun hHeld => ?_); refine ZF zK.tab16 zK.zFe (fun HT_ HW_ => ?_)
             generalize wc.drew = w41 at BK101 BK107 HB hHeld ⊢
             refine zf (i := 0) (N := some 52) (v := ?_) (a' := ?_) #[true, false, false, false, false, false, false, false, false, false, false, false, false] rfl rfl (zc HT_.out (by kernel_rfl)) (fun _ _ _ h => h) (Or.inl ⟨by rfl, ?_⟩) ?_ ?_
             rotate_left
             next =>
              intro w'
              go_simp
              with_reducible rfl
             rotate_left
             next =>
              simp only [Act.put, yay, yby, ycy, zX, zY]
              rfl
             refine qw (i := 1) (N := some 53) (v := ?_) (a' := ?_) #[true, true, false, false, false, false, false, false, false, false, false, false, false] rfl rfl (qC HT_.out HW_.out (by kernel_rfl)) (fun _ _ _ h => h) (Or.inl ⟨by rfl, ?_⟩) hHeld ?_ ?_
             rotate_left
             next =>
              rintro w' ⟨s0, s1, s2⟩
              go_simp
              with_reducible rfl
             rotate_left
             next =>
              simp only [Act.put, yay, yby, ycy, zX, zY]
              rfl
             refine qw (i := 2) (N := some 54) (v := ?_) (a' := ?_) #[true, true, true, false, false, false, false, false, false, false, false, false, false] rfl rfl (qC HT_.out HW_.out (by kernel_rfl)) (fun _ _ _ h => h) (Or.inl ⟨by rfl, ?_⟩) hHeld ?_ ?_
             rotate_left
             next =>
              rintro w' ⟨s0, s1, s2⟩
              go_simp
              with_reducible rfl
             rotate_left
             next =>
              simp only [Act.put, yay, yby, ycy, zX, zY]
              rfl
             refine zA0 (i := 3) (N := some 55) #[true, true, true, true, false, false, false, false, false, false, false, false, false] rfl rfl (Zi HT_.out (by kernel_rfl)) (by decide) (fun K hK => ?_)
             refine Qj Try.func66 (by kernel_rfl) rfl #[.agg #[.slice (some ad105) l0_0.length c0_0]] (by rfl) rfl rfl (by (try simp only [yiy, yjy, yky]); first | done | rfl | (simp only [yly, ymy]; rfl)) ?_
             with_reducible refine (qZ.calls _ _ l0_0 t108 _ ?side1 ?side2 A37.out).mono ?_
             (case side1 => repeat (first | exact (Kd.qK HR0_0.out HB.out) | (with_reducible refine Kd.zx ?_ _) | (with_reducible refine Kd.zy ?_ _) | (with_reducible refine Kd.qM ?_)))
             (case side2 => exact HC0_0.out)
             rintro e w42 ⟨rfl, hb⟩
             refine ⟨_, rfl, ?_⟩
             have n0_ := zA.mk (zP (g := gb101) (o := .cells #[.slice (some ad105) l0_0.length c0_0] 35 (0, 0)) (by (with_reducible repeat (first | refine zH ?_ _ | refine zJ ?_ | refine zG ?_ _)); exact BK101.out) hb)
             have n1_ := zA.mk (zP (g := gb107) (o := .cells #[.int .i64 ((zI (zE l0_0 x4_2) x5_3).f0), .int .i64 ((zI (zE l0_0 x4_2) x5_3).f1)] 75 (0, 0)) (by (with_reducible repeat (first | refine zH ?_ _ | refine zJ ?_ | refine zG ?_ _)); exact BK107.out) hb)
             have n2_ := zA.mk (zN (by repeat (first | (with_reducible first | exact HB.out | apply zC | apply zB | apply zD | refine zF ?_ GE101.out | refine zF ?_ GE107.out) | exact HB.out)) hb)
             clear BK101
             clear BK107
             clear HB
             have BK101 := n0_
             have BK107 := n1_
             have HB := n2_
             clear n0_ n1_ n2_
             (try clear hb)
             (try clear hb2)
             (try clear hk)
             (try clear hi)
             refine hK.out _ _ ⟨(zL BK107.out 0).trans rfl, (zL BK107.out 1).trans rfl, (zL BK101.out 0).trans rfl⟩ (fun hHeld => ?_)
             clear hK K
             refine QM (a' := ?_) ?_ ?_
             rotate_left
             next =>
              show Act.put _ (some 55) _ = _
              simp only [Act.put, yay, yby, ycy, zX, zY]
              rfl
             refine zf (i := 4) (N := some 56) (v := ?_) (a' := ?_) #[true, true, true, true, true, false, false, false, false, false, false, false, false] rfl rfl (zc HT_.out (by kernel_rfl)) (fun _ _ _ h => h) (Or.inl ⟨by rfl, ?_⟩) ?_ ?_
             rotate_left
             next =>
              intro w'
              go_simp
              with_reducible rfl
             rotate_left
             next =>
              simp only [Act.put, yay, yby, ycy, zX, zY]
              rfl
             refine zA0 (i := 5) (N := some 57) #[true, true, true, true, true, true, false, false, false, false, false, false, false] rfl rfl (Zi HT_.out (by kernel_rfl)) (by decide) (fun K hK => ?_)
             refine Qj Try.func65 (by kernel_rfl) rfl #[.int .i64 ((zI (zE l0_0 x4_2) x5_3).f0), .int .i64 0, .int .i64 (wrap64 (t108 - 1))] (by rfl) rfl rfl (by (try simp only [yiy, yjy, yky]); first | done | rfl | (simp only [yly, ymy]; rfl)) ?_
             with_reducible refine (QF.calls ((zI (zE l0_0 x4_2) x5_3).f0) 0 (wrap64 (t108 - 1)) true _ A38.out).mono ?_
             rintro e w' ⟨rfl, ⟨nd, rfl⟩⟩
             refine ⟨_, rfl, ?_⟩
             refine hK.out _ _ ⟨(zL BK107.out 0).trans rfl, (zL BK107.out 1).trans rfl, (zL BK101.out 0).trans rfl⟩ (fun hHeld => ?_)
             clear hK K
             refine QM (a' := ?_) ?_ ?_
             rotate_left
             next =>
              show Act.put _ (some 57) _ = _
              simp only [Act.put, yay, yby, ycy, zX, zY]
              rfl
             refine zf (i := 6) (N := some 58) (v := ?_) (a' := ?_) #[true, true, true, true, true, true, true, false, false, false, false, false, false] rfl rfl (zc HT_.out (by kernel_rfl)) (fun _ _ _ h => h) (Or.inl ⟨by rfl, ?_⟩) ?_ ?_
             rotate_left
             next =>
              intro w'
              go_simp
              with_reducible rfl
             rotate_left
             next =>
              simp only [Act.put, yay, yby, ycy, zX, zY]
              rfl
             refine zf (i := 7) (N := some 59) (v := ?_) (a' := ?_) #[true, true, true, true, true, true, true, true, false, false, false, false, false] rfl rfl (zc HT_.out (by kernel_rfl)) (fun _ _ _ h => h) (Or.inl ⟨by rfl, ?_⟩) ?_ ?_
             rotate_left
             next =>
              intro w'
              go_simp
              with_reducible rfl
             rotate_left
             next =>
              simp only [Act.put, yay, yby, ycy, zX, zY]
              rfl
             refine zf (i := 8) (N := some 60) (v := ?_) (a' := ?_) #[true, true, true, true, true, true, true, true, true, false, false, false, false] rfl rfl (zc HT_.out (by kernel_rfl)) (fun _ _ _ h => h) (Or.inl ⟨by rfl, ?_⟩) ?_ ?_
             rotate_left
             next =>
              intro w'
              go_simp
              with_reducible rfl
             rotate_left
             next =>
              simp only [Act.put, yay, yby, ycy, zX, zY]
              rfl
             refine qw (i := 9) (N := some 61) (v := ?_) (a' := ?_) #[true, true, true, true, true, true, true, true, true, true, false, false, false] rfl rfl (qC HT_.out HW_.out (by kernel_rfl)) (fun _ _ _ h => h) (Or.inl ⟨by rfl, ?_⟩) hHeld ?_ ?_
             rotate_left
             next =>
              rintro w' ⟨s0, s1, s2⟩
              go_simp
              with_reducible rfl
             rotate_left
             next =>
              simp only [Act.put, yay, yby, ycy, zX, zY]
              rfl
             refine zA0 (i := 10) (N := some 62) #[true, true, true, true, true, true, true, true, true, true, true, false, false] rfl rfl (Zi HT_.out (by kernel_rfl)) (by decide) (fun K hK => ?_)
             refine Qj Try.func81 (by kernel_rfl) rfl #[.int .i64 ((zI (zE l0_0 x4_2) x5_3).f1)] (by rfl) rfl rfl (by (try simp only [yiy, yjy, yky]); first | done | rfl | (simp only [yly, ymy]; rfl)) ?_
             with_reducible refine (ZT.calls ((zI (zE l0_0 x4_2) x5_3).f1) t110 _ A40.out).mono ?_
             rintro e w' ⟨rfl, ⟨nd, rfl⟩⟩
             refine ⟨_, rfl, ?_⟩
             refine hK.out _ _ ⟨(zL BK107.out 0).trans rfl, (zL BK107.out 1).trans rfl, (zL BK101.out 0).trans rfl⟩ (fun hHeld => ?_)
             clear hK K
             refine QM (a' := ?_) ?_ ?_
             rotate_left
             next =>
              show Act.put _ (some 62) _ = _
              simp only [Act.put, yay, yby, ycy, zX, zY]
              rfl
             refine zf (i := 11) (N := some 63) (v := ?_) (a' := ?_) #[true, true, true, true, true, true, true, true, true, true, true, true, false] rfl rfl (zc HT_.out (by kernel_rfl)) (fun _ _ _ h => h) (Or.inl ⟨by rfl, ?_⟩) ?_ ?_
             rotate_left
             next =>
              intro w'
              go_simp
              with_reducible rfl
             rotate_left
             next =>
              simp only [Act.put, yay, yby, ycy, zX, zY]
              rfl
             refine zf (i := 12) (N := some 64) (v := ?_) (a' := ?_) #[true, true, true, true, true, true, true, true, true, true, true, true, true] rfl rfl (zc HT_.out (by kernel_rfl)) (fun _ _ _ h => h) (Or.inl ⟨by rfl, ?_⟩) ?_ ?_
             rotate_left
             next =>
              intro w'
              go_simp
              with_reducible rfl
             rotate_left
             next =>
              simp only [Act.put, yay, yby, ycy, zX, zY]
              rfl
             refine Qu (Zs HT_.out (by kernel_rfl)) ?_
             try go_wp2
             go_meet
             case rel => exact ⟨_, (!t110), (by first | rfl | (simp; done) | (simp [*]; done)), H', ⟨by have := HK1.out; have := HK2.out; have := HK3.out; have := HJ24.out; first | omega | exact yqy _⟩, ⟨by (with_reducible repeat (first | refine zH ?_ _ | refine zJ ?_ | refine zG ?_ _)); exact BK101.out⟩, ⟨by (with_reducible repeat (first | refine zH ?_ _ | refine zJ ?_ | refine zG ?_ _)); exact BK107.out⟩, ⟨by repeat (first | (with_reducible first | exact HB.out | apply zC | apply zB | apply zD | refine zF ?_ GE101.out | refine zF ?_ GE107.out) | exact HB.out)⟩⟩
            case rest =>
             clear HC36
             try clear c1
             try clear p1
             try clear q1
             try clear hx1
             try clear c2
             try clear p2
             try clear c3
             try clear c3b0
             try clear c4
             try clear c6
             try clear p6
             try clear c8
             try clear c10
             try clear c10b0
             try clear p10
             try clear q10
             try clear hx10
             try clear c11
             try clear c11b0
             try clear c12
             try clear c12b0
             try clear c12b1
             try clear c17
             try clear c17b0
             try clear c20
             try clear c20b0
             try clear c21
             try clear c21b0
             try clear c22
             try clear c22b0
             try clear c23
             try clear c23b0
             try clear c24
             try clear c24b0
             try clear c28
             try clear c30
             try clear c30b0
             try clear c30b1
             try clear c31
             try clear c33
             try clear c35
             try clear c39
             try clear hcz13_0
             try clear hcz14_0
             try clear hcz15_0
             try clear hcz18_0
             try clear hcz26_0
             try clear hcz29_0
             try clear hcz29_1
             try clear hcz32_0
             try clear hcz32_1
             try clear hcz34_0
             try clear hcz34_1
             try clear hcz5_0
             try clear hcz8_0
             try clear hfz13_0
             try clear hfz14_0
             try clear hfz15_0
             try clear hfz18_0
             try clear hfz26_0
             try clear hfz29_0
             try clear hfz29_1
             try clear hfz32_0
             try clear hfz32_1
             try clear hfz34_0
             try clear hfz34_1
             try clear hfz5_0
             try clear hfz8_0
             try clear hx103_0
             try clear hx105_0
             try clear hx106_0
             try clear hx106_1
             try clear p1
             try clear p10
             try clear p103
             try clear p105
             try clear p106
             try clear p2
             try clear p6
             try clear q1
             try clear q10
             try clear q103
             try clear q105
             try clear q106
             obtain ⟨kq, x64_35, rfl, HA, HJ35, BK101, BK107, HB⟩ := hcut
             cases kq with
             | zero => exact absurd HA.out (by simp [zK.j4])
             | succ kj35 =>
              have H := HA.out
              clear HA
              simp only [zK.j4] at H
              by_cases c45 : x64_35 = true
              next =>
               subst c45
               have H1 : (some false) = some r := by rw [if_pos rfl] at H; exact H
               clear H
               have H := H1
               clear H1
               obtain rfl := yey H
               go_wp2
               go_ret
               exact ⟨by first | rfl | (simp [zZ, za] <;> rfl) | (simp [*, zZ, za] <;> rfl), by repeat (first | (with_reducible first | exact HB.out | apply zC | apply zB | apply zD | refine zF ?_ GE101.out | refine zF ?_ GE107.out) | exact HB.out)⟩
              next =>
               replace c45 := Bool.eq_false_iff.mpr c45
               subst c45
               have H1 : ((qt.f kj35 ((zI (zE l0_0 x4_2) x5_3).f1) x5_3).bind fun t111 => ((qB.f kj35 ((zI (zE l0_0 x4_2) x5_3).f1)).bind fun t112 => (if 0 ≤ ((zI (zE l0_0 x4_2) x5_3).f0) then (if ((zI (zE l0_0 x4_2) x5_3).f0) < (l0_0.length : Int) then (if 0 ≤ t111 then (if t111 < ((zE l0_0 ((zI (zE l0_0 x4_2) x5_3).f0)).length : Int) then (if (!(((zI (zE l0_0 ((zI (zE l0_0 x4_2) x5_3).f0)) t111).f0) == x4_2) || (!(((zI (zE l0_0 ((zI (zE l0_0 x4_2) x5_3).f0)) t111).f1) == t112))) = true then (some false) else (if ((zI (zE l0_0 x4_2) x5_3).f0) = x4_2 then (if t111 = x5_3 then (some false) else (zK.l2 kj35 x4_2 (wrap64 (x5_3 + 1)) l0_0)) else (zK.l2 kj35 x4_2 (wrap64 (x5_3 + 1)) l0_0))) else (none)) else (none)) else (none)) else (none)))) = some r := by rw [if_neg (show ¬ (false = true) by decide)] at H; exact H
               clear H
               have H := H1
               clear H1
               replace H := ydy.mp H
               obtain ⟨t111, A460, H⟩ := H
               replace H : ((qB.f kj35 ((zI (zE l0_0 x4_2) x5_3).f1)).bind fun t112 => (if 0 ≤ ((zI (zE l0_0 x4_2) x5_3).f0) then (if ((zI (zE l0_0 x4_2) x5_3).f0) < (l0_0.length : Int) then (if 0 ≤ t111 then (if t111 < ((zE l0_0 ((zI (zE l0_0 x4_2) x5_3).f0)).length : Int) then (if (!(((zI (zE l0_0 ((zI (zE l0_0 x4_2) x5_3).f0)) t111).f0) == x4_2) || (!(((zI (zE l0_0 ((zI (zE l0_0 x4_2) x5_3).f0)) t111).f1) == t112))) = true then (some false) else (if ((zI (zE l0_0 x4_2) x5_3).f0) = x4_2 then (if t111 = x5_3 then (some false) else (zK.l2 kj35 x4_2 (wrap64 (x5_3 + 1)) l0_0)) else (zK.l2 kj35 x4_2 (wrap64 (x5_3 + 1)) l0_0))) else (none)) else (none)) else (none)) else (none))) = some r := H
               have A46 := zA.mk A460
               clear A460
               replace H := ydy.mp H
               obtain ⟨t112, A470, H⟩ := H
               replace H : (if 0 ≤ ((zI (zE l0_0 x4_2) x5_3).f0) then (if ((zI (zE l0_0 x4_2) x5_3).f0) < (l0_0.length : Int) then (if 0 ≤ t111 then (if t111 < ((zE l0_0 ((zI (zE l0_0 x4_2) x5_3).f0)).length : Int) then (if (!(((zI (zE l0_0 ((zI (zE l0_0 x4_2) x5_3).f0)) t111).f0) == x4_2) || (!(((zI (zE l0_0 ((zI (zE l0_0 x4_2) x5_3).f0)) t111).f1) == t112))) = true then (some false) else (if ((zI (zE l0_0 x4_2) x5_3).f0) = x4_2 then (if t111 = x5_3 then (some false) else (zK.l2 kj35 x4_2 (wrap64 (x5_3 + 1)) l0_0)) else (zK.l2 kj35 x4_2 (wrap64 (x5_3 + 1)) l0_0))) else (none)) else (none)) else (none)) else (none)) = some r := H
               have A47 := zA.mk A470
               clear A470
               by_cases c48 : 0 ≤ ((zI (zE l0_0 x4_2) x5_3).f0)
               rotate_left
               next =>
                rw [if_neg c48] at H
                exact absurd H (by simp)
               rw [if_pos c48] at H
               have c48b0 : decide (0 ≤ ((zI (zE l0_0 x4_2) x5_3).f0)) = true := ygy c48
               clear c48
               by_cases c49 : ((zI (zE l0_0 x4_2) x5_3).f0) < (l0_0.length : Int)
               rotate_left
               next =>
                rw [if_neg c49] at H
                exact absurd H (by simp)
               rw [if_pos c49] at H
               have c49b0 : decide (((zI (zE l0_0 x4_2) x5_3).f0) < (l0_0.length : Int)) = true := ygy c49
               clear c49
               by_cases c50 : 0 ≤ t111
               rotate_left
               next =>
                rw [if_neg c50] at H
                exact absurd H (by simp)
               rw [if_pos c50] at H
               have c50b0 : decide (0 ≤ t111) = true := ygy c50
               clear c50
               by_cases c51 : t111 < ((zE l0_0 ((zI (zE l0_0 x4_2) x5_3).f0)).length : Int)
               rotate_left
               next =>
                rw [if_neg c51] at H
                exact absurd H (by simp)
               rw [if_pos c51] at H
               have c51b0 : decide (t111 < ((zE l0_0 ((zI (zE l0_0 x4_2) x5_3).f0)).length : Int)) = true := ygy c51
               clear c51
               by_cases c52 : (!(((zI (zE l0_0 ((zI (zE l0_0 x4_2) x5_3).f0)) t111).f0) == x4_2) || (!(((zI (zE l0_0 ((zI (zE l0_0 x4_2) x5_3).f0)) t111).f1) == t112))) = true
               next =>
                rw [if_pos c52] at H
                have c52b0 : (!(((zI (zE l0_0 ((zI (zE l0_0 x4_2) x5_3).f0)) t111).f0) == x4_2) || (!(((zI (zE l0_0 ((zI (zE l0_0 x4_2) x5_3).f0)) t111).f1) == t112))) = true := c52
                clear c52
                obtain rfl := yey H
                have hnb53 := NB107_101.out
                have hnc53 := NB101_107.out
                have hcz54_0 : wc.cell? ⟨gb107, 0, none⟩ = some (.int .i64 ((zI (zE l0_0 x4_2) x5_3).f0)) := (zL BK107.out 0).trans rfl
                have hcz54_1 : wc.cell? ⟨gb107, 1, none⟩ = some (.int .i64 ((zI (zE l0_0 x4_2) x5_3).f1)) := (zL BK107.out 1).trans rfl
                have hfz54_0 := zM BK107.out 0
                have hfz54_1 := zM BK107.out 1
                try go_wp2_with (first | ((with_reducible refine zb (f := 82) rfl ?_); refine qH (some 68) rfl rfl Try.func82 (by kernel_rfl) rfl #[.int .i64 ((zI (zE l0_0 x4_2) x5_3).f1), .int .i64 x5_3] rfl (by (try simp only [yiy, yjy, yky]); first | done | rfl | (simp only [yly, ymy]; rfl)) ?_; (with_reducible refine (qt.calls kj35 ((zI (zE l0_0 x4_2) x5_3).f1) x5_3 t111 _ A46.out).mono ?_); rintro e w55 ⟨rfl, hb⟩; refine ⟨_, rfl, ?_⟩; have n0_ := zA.mk (zP (g := gb101) (o := .cells #[.slice (some ad105) l0_0.length c0_0] 35 (0, 0)) (by (with_reducible repeat (first | refine zH ?_ _ | refine zJ ?_ | refine zG ?_ _)); exact BK101.out) hb); have n1_ := zA.mk (zP (g := gb107) (o := .cells #[.int .i64 ((zI (zE l0_0 x4_2) x5_3).f0), .int .i64 ((zI (zE l0_0 x4_2) x5_3).f1)] 75 (0, 0)) (by (with_reducible repeat (first | refine zH ?_ _ | refine zJ ?_ | refine zG ?_ _)); exact BK107.out) hb); have n2_ := zA.mk (zN (by repeat (first | (with_reducible first | exact HB.out | apply zC | apply zB | apply zD | refine zF ?_ GE101.out | refine zF ?_ GE107.out) | exact HB.out)) hb); clear BK101; clear BK107; clear HB; have BK101 := n0_; have BK107 := n1_; have HB := n2_; clear n0_ n1_ n2_; (try clear hb); (try clear hb2); (try clear hk); (try clear hi); have hcz56_0 : w55.cell? ⟨gb107, 0, none⟩ = some (.int .i64 ((zI (zE l0_0 x4_2) x5_3).f0)) := (zL BK107.out 0).trans rfl; have hcz56_1 : w55.cell? ⟨gb107, 1, none⟩ = some (.int .i64 ((zI (zE l0_0 x4_2) x5_3).f1)) := (zL BK107.out 1).trans rfl; have hfz56_0 := zM BK107.out 0; have hfz56_1 := zM BK107.out 1) | ((with_reducible refine zb (f := 83) rfl ?_); refine qH (some 72) rfl rfl Try.func83 (by kernel_rfl) rfl #[.int .i64 ((zI (zE l0_0 x4_2) x5_3).f1)] rfl (by (try simp only [yiy, yjy, yky]); first | done | rfl | (simp only [yly, ymy]; rfl)) ?_; (with_reducible refine (qB.calls kj35 ((zI (zE l0_0 x4_2) x5_3).f1) t112 _ A47.out).mono ?_); rintro e w57 ⟨rfl, hb⟩; refine ⟨_, rfl, ?_⟩; have n0_ := zA.mk (zP (g := gb101) (o := .cells #[.slice (some ad105) l0_0.length c0_0] 35 (0, 0)) (by (with_reducible repeat (first | refine zH ?_ _ | refine zJ ?_ | refine zG ?_ _)); exact BK101.out) hb); have n1_ := zA.mk (zP (g := gb107) (o := .cells #[.int .i64 ((zI (zE l0_0 x4_2) x5_3).f0), .int .i64 ((zI (zE l0_0 x4_2) x5_3).f1)] 75 (0, 0)) (by (with_reducible repeat (first | refine zH ?_ _ | refine zJ ?_ | refine zG ?_ _)); exact BK107.out) hb); have n2_ := zA.mk (zN (by repeat (first | (with_reducible first | exact HB.out | apply zC | apply zB | apply zD | refine zF ?_ GE101.out | refine zF ?_ GE107.out) | exact HB.out)) hb); clear BK101; clear BK107; clear HB; have BK101 := n0_; have BK107 := n1_; have HB := n2_; clear n0_ n1_ n2_; (try clear hb); (try clear hb2); (try clear hk); (try clear hi)) | ((with_reducible refine zq (N := 8) rfl ?_); refine zv ?hg (N := 8) ?hd (cs := #[.int .i64 0, .int .i64 0]) (t := 75) ?hr ?_; (case hd => rfl); (case hg => rfl); (case hr => first | (go_simp; done) | (go_simp; rfl)); intro gb113 hg w58 hbox hb; have n0_ := zA.mk (zP (g := gb101) (o := .cells #[.slice (some ad105) l0_0.length c0_0] 35 (0, 0)) (by (with_reducible repeat (first | refine zH ?_ _ | refine zJ ?_ | refine zG ?_ _)); exact BK101.out) hb); have n1_ := zA.mk (zP (g := gb107) (o := .cells #[.int .i64 ((zI (zE l0_0 x4_2) x5_3).f0), .int .i64 ((zI (zE l0_0 x4_2) x5_3).f1)] 75 (0, 0)) (by (with_reducible repeat (first | refine zH ?_ _ | refine zJ ?_ | refine zG ?_ _)); exact BK107.out) hb); have n2_ := zA.mk (zN (by repeat (first | (with_reducible first | exact HB.out | apply zC | apply zB | apply zD | refine zF ?_ GE101.out | refine zF ?_ GE107.out) | exact HB.out)) hb); have n3_ := zA.mk (hbox); have n4_ := zA.mk ((by rw [hg]; exact (zO (by repeat (first | (with_reducible first | exact HB.out | apply zC | apply zB | apply zD | refine zF ?_ GE101.out | refine zF ?_ GE107.out) | exact HB.out))) : w.heap.size ≤ gb113)); have n5_ := zA.mk ((by rw [hg]; exact (zO (by repeat (first | (with_reducible first | exact HB.out | apply zC | apply zB | apply zD | refine zF ?_ GE101.out | refine zF ?_ GE107.out) | exact HB.out))) : w.heap.size ≤ gb113)); have n6_ := zA.mk ((by rw [hg]; exact Nat.ne_of_lt (qT (g := gb101) (o := .cells #[.slice (some ad105) l0_0.length c0_0] 35 (0, 0)) (by (with_reducible repeat (first | refine zH ?_ _ | refine zJ ?_ | refine zG ?_ _)); exact BK101.out)) : gb101 ≠ gb113)); have n7_ := zA.mk ((by rw [hg]; exact Nat.ne_of_gt (qT (g := gb101) (o := .cells #[.slice (some ad105) l0_0.length c0_0] 35 (0, 0)) (by (with_reducible repeat (first | refine zH ?_ _ | refine zJ ?_ | refine zG ?_ _)); exact BK101.out)) : gb113 ≠ gb101)); have n8_ := zA.mk ((by rw [hg]; exact Nat.ne_of_lt (qT (g := gb107) (o := .cells #[.int .i64 ((zI (zE l0_0 x4_2) x5_3).f0), .int .i64 ((zI (zE l0_0 x4_2) x5_3).f1)] 75 (0, 0)) (by (with_reducible repeat (first | refine zH ?_ _ | refine zJ ?_ | refine zG ?_ _)); exact BK107.out)) : gb107 ≠ gb113)); have n9_ := zA.mk ((by rw [hg]; exact Nat.ne_of_gt (qT (g := gb107) (o := .cells #[.int .i64 ((zI (zE l0_0 x4_2) x5_3).f0), .int .i64 ((zI (zE l0_0 x4_2) x5_3).f1)] 75 (0, 0)) (by (with_reducible repeat (first | refine zH ?_ _ | refine zJ ?_ | refine zG ?_ _)); exact BK107.out)) : gb113 ≠ gb107)); clear BK101; clear BK107; clear HB; have BK101 := n0_; have BK107 := n1_; have HB := n2_; have BK113 := n3_; have GW113 := n4_; have GE113 := n5_; have NB101_113 := n6_; have NB113_101 := n7_; have NB107_113 := n8_; have NB113_107 := n9_; clear n0_ n1_ n2_ n3_ n4_ n5_ n6_ n7_ n8_ n9_; clear hb hbox hg; have hnb59 := NB113_101.out; have hnc59 := NB101_113.out; have hnb60 := NB113_107.out; have hnc60 := NB107_113.out; have hcz61_0 : w58.cell? ⟨gb113, 0, none⟩ = some (.int .i64 0) := (zL BK113.out 0).trans rfl; have hcz61_1 : w58.cell? ⟨gb113, 1, none⟩ = some (.int .i64 0) := (zL BK113.out 1).trans rfl; have hfz61_0 := zM BK113.out 0; have hfz61_1 := zM BK113.out 1))
                have n0_ : zA (((w58.setCell ⟨gb113, 0, none⟩ (.int .i64 x4_2)).setCell ⟨gb113, 1, none⟩ (.int .i64 t112)).heap[gb101]? = some (.cells #[.slice (some ad105) l0_0.length c0_0] 35 (0, 0))) := ⟨by (with_reducible repeat (first | refine zH ?_ _ | refine zJ ?_ | refine zG ?_ _)); refine qJ ?_ NB101_113.out _; (with_reducible repeat (first | refine zH ?_ _ | refine zJ ?_ | refine zG ?_ _)); refine qJ ?_ NB101_113.out _; (with_reducible repeat (first | refine zH ?_ _ | refine zJ ?_ | refine zG ?_ _)); exact BK101.out⟩
                have n1_ : zA (((w58.setCell ⟨gb113, 0, none⟩ (.int .i64 x4_2)).setCell ⟨gb113, 1, none⟩ (.int .i64 t112)).heap[gb107]? = some (.cells #[.int .i64 ((zI (zE l0_0 x4_2) x5_3).f0), .int .i64 ((zI (zE l0_0 x4_2) x5_3).f1)] 75 (0, 0))) := ⟨by (with_reducible repeat (first | refine zH ?_ _ | refine zJ ?_ | refine zG ?_ _)); refine qJ ?_ NB107_113.out _; (with_reducible repeat (first | refine zH ?_ _ | refine zJ ?_ | refine zG ?_ _)); refine qJ ?_ NB107_113.out _; (with_reducible repeat (first | refine zH ?_ _ | refine zJ ?_ | refine zG ?_ _)); exact BK107.out⟩
                have n2_ : zA (((w58.setCell ⟨gb113, 0, none⟩ (.int .i64 x4_2)).setCell ⟨gb113, 1, none⟩ (.int .i64 t112)).heap[gb113]? = some (.cells #[.int .i64 x4_2, .int .i64 t112] 75 (0, 0))) := ⟨by (with_reducible repeat (first | refine zH ?_ _ | refine zJ ?_ | refine zG ?_ _)); refine qa (cs := #[.int .i64 x4_2, .int .i64 0]) ?_ 1 _ rfl; (with_reducible repeat (first | refine zH ?_ _ | refine zJ ?_ | refine zG ?_ _)); refine qa (cs := #[.int .i64 0, .int .i64 0]) ?_ 0 _ rfl; (with_reducible repeat (first | refine zH ?_ _ | refine zJ ?_ | refine zG ?_ _)); exact BK113.out⟩
                have n3_ : zA (Below w.heap.size w ((w58.setCell ⟨gb113, 0, none⟩ (.int .i64 x4_2)).setCell ⟨gb113, 1, none⟩ (.int .i64 t112))) := ⟨by repeat (first | (with_reducible first | exact HB.out | apply zC | apply zB | apply zD | refine zF ?_ GE101.out | refine zF ?_ GE107.out | refine zF ?_ GE113.out) | exact HB.out)⟩
                (try clear BK101)
                (try clear BK107)
                (try clear BK113)
                (try clear HB)
                generalize ((w58.setCell ⟨gb113, 0, none⟩ (.int .i64 x4_2)).setCell ⟨gb113, 1, none⟩ (.int .i64 t112)) = w62 at n0_ n1_ n2_ n3_ ⊢
                have BK101 := n0_
                have BK107 := n1_
                have BK113 := n2_
                have HB := n3_
                clear n0_ n1_ n2_ n3_
                have n0_ := zA.mk (zJ BK101.out)
                have n1_ := zA.mk (zJ BK107.out)
                have n2_ := zA.mk (zJ BK113.out)
                have n3_ := zA.mk (zD HB.out)
                clear BK101
                clear BK107
                clear BK113
                clear HB
                have BK101 := n0_
                have BK107 := n1_
                have BK113 := n2_
                have HB := n3_
                clear n0_ n1_ n2_ n3_
                have p114 : 0 ≤ (((zI (zE l0_0 x4_2) x5_3).f0) : Int) := of_decide_eq_true (by first | (with_reducible assumption) | assumption)
                have q114 : ((zI (zE l0_0 x4_2) x5_3).f0) < (l0_0.length : Int) := of_decide_eq_true (by first | (with_reducible assumption) | assumption)
                obtain ⟨ad114, A114_0, c114_0, e114, hx114_0, hl114_0, hi114_0⟩ := ZW HR0_0.out ((zI (zE l0_0 x4_2) x5_3).f0) p114 q114
                have hw114_0 := hx114_0
                obtain rfl : ad105 = ad114 := (by injection e114)
                replace hx114_0 := (HB.out.cell (ypy w _ hx114_0)).trans hx114_0
                have HR114_0 := zA.mk hi114_0
                have HC114_0 := zA.mk hl114_0
                clear hi114_0 hl114_0
                replace p114 := eq_true p114
                replace q114 := eq_true q114
                have p115 : 0 ≤ (t111 : Int) := of_decide_eq_true (by first | (with_reducible assumption) | assumption)
                have q115 : t111 < ((zE l0_0 ((zI (zE l0_0 x4_2) x5_3).f0)).length : Int) := of_decide_eq_true (by first | (with_reducible assumption) | assumption)
                obtain ⟨ad115, e115, hx115_0, hx115_1⟩ := QA HR114_0.out t111 p115 q115
                have hw115_1 := hx115_1
                have hw115_0 := hx115_0
                cases e115
                replace hx115_0 := (HB.out.cell (ypy w _ hx115_0)).trans hx115_0
                replace hx115_1 := (HB.out.cell (ypy w _ hx115_1)).trans hx115_1
                replace p115 := eq_true p115
                replace q115 := eq_true q115
                refine Zy (n := 22) (S := fun w' => w'.cell? ⟨gb101, 0, none⟩ = some (.slice (some ad105) l0_0.length c0_0) ∧ w'.cell? ⟨gb107, 0, none⟩ = some (.int .i64 ((zI (zE l0_0 x4_2) x5_3).f0)) ∧ w'.cell? ⟨gb107, 1, none⟩ = some (.int .i64 ((zI (zE l0_0 x4_2) x5_3).f1)) ∧ w'.cell? ⟨gb113, 0, none⟩ = some (.int .i64 x4_2) ∧ w'.cell? ⟨gb113, 1, none⟩ = some (.int .i64 t112) ∧ w'.cell? (ad105.add (((zI (zE l0_0 x4_2) x5_3).f0)).toNat) = some (.slice (some ad115) (zE l0_0 ((zI (zE l0_0 x4_2) x5_3).f0)).length c114_0) ∧ w'.cell? (ad115.add ((t111).toNat * 2)) = some (.int .i64 ((zI (zE l0_0 ((zI (zE l0_0 x4_2) x5_3).f0)) t111).f0)) ∧ w'.cell? ⟨(ad115.add ((t111).toNat * 2)).block, (ad115.add ((t111).toNat * 2)).off + 1, none⟩ = some (.int .i64 ((zI (zE l0_0 ((zI (zE l0_0 x4_2) x5_3).f0)) t111).f1))) (ds := []) #[false, false, false, false, false, false, false, false, false, false, false, false, false, false, false, false, false, false, false, false, false, false] (by kernel_rfl) rfl rfl ⟨(zL BK101.out 0).trans rfl, (zL BK107.out 0).trans rfl, (zL BK107.out 1).trans rfl, (zL BK113.out 0).trans rfl, (zL BK113.out 1).trans rfl, ((HB.out.cell (ypy w _ hw114_0)).trans hw114_0), ((HB.out.cell (ypy w _ hw115_0)).trans hw115_0), ((HB.out.cell (ypy w _ hw115_1)).trans hw115_1)⟩ (fun hHeld => ?_); refine ZF zK.zFJ zK.zDM (fun HT_ HW_ => ?_)
                generalize w62.drew = w63 at BK101 BK107 BK113 HB HR114_0 hx114_0 hx115_0 hx115_1 hHeld ⊢
                refine zf (i := 0) (N := some 74) (v := ?_) (a' := ?_) #[true, false, false, false, false, false, false, false, false, false, false, false, false, false, false, false, false, false, false, false, false, false] rfl rfl (zc HT_.out (by kernel_rfl)) (fun _ _ _ h => h) (Or.inl ⟨by rfl, ?_⟩) ?_ ?_
                rotate_left
                next =>
                 intro w'
                 go_simp
                 with_reducible rfl
                rotate_left
                next =>
                 simp only [Act.put, yay, yby, ycy, zX, zY]
                 rfl
                refine zf (i := 2) (N := some 76) (v := ?_) (a' := ?_) #[true, false, true, false, false, false, false, false, false, false, false, false, false, false, false, false, false, false, false, false, false, false] rfl rfl (zc HT_.out (by kernel_rfl)) (fun _ _ _ h => h) (Or.inl ⟨by rfl, ?_⟩) ?_ ?_
                rotate_left
                next =>
                 intro w'
                 go_simp
                 with_reducible rfl
                rotate_left
                next =>
                 simp only [Act.put, yay, yby, ycy, zX, zY]
                 rfl
                refine zf (i := 6) (N := some 80) (v := ?_) (a' := ?_) #[true, false, true, false, false, false, true, false, false, false, false, false, false, false, false, false, false, false, false, false, false, false] rfl rfl (zc HT_.out (by kernel_rfl)) (fun _ _ _ h => h) (Or.inl ⟨by rfl, ?_⟩) ?_ ?_
                rotate_left
                next =>
                 intro w'
                 go_simp
                 with_reducible rfl
                rotate_left
                next =>
                 simp only [Act.put, yay, yby, ycy, zX, zY]
                 rfl
                refine qw (i := 1) (N := some 75) (v := ?_) (a' := ?_) #[true, true, true, false, false, false, true, false, false, false, false, false, false, false, false, false, false, false, false, false, false, false] rfl rfl (qC HT_.out HW_.out (by kernel_rfl)) (fun _ _ _ h => h) (Or.inl ⟨by rfl, ?_⟩) hHeld ?_ ?_
                rotate_left
                next =>
                 rintro w' ⟨s0, s1, s2, s3, s4, s5, s6, s7⟩
                 go_simp
                 with_reducible rfl
                rotate_left
                next =>
                 simp only [Act.put, yay, yby, ycy, zX, zY]
                 rfl
                refine qw (i := 3) (N := some 77) (v := ?_) (a' := ?_) #[true, true, true, true, false, false, true, false, false, false, false, false, false, false, false, false, false, false, false, false, false, false] rfl rfl (qC HT_.out HW_.out (by kernel_rfl)) (fun _ _ _ h => h) (Or.inl ⟨by rfl, ?_⟩) hHeld ?_ ?_
                rotate_left
                next =>
                 rintro w' ⟨s0, s1, s2, s3, s4, s5, s6, s7⟩
                 go_simp
                 with_reducible rfl
                rotate_left
                next =>
                 simp only [Act.put, yay, yby, ycy, zX, zY]
                 rfl
                refine zf (i := 4) (N := some 78) (v := ?_) (a' := ?_) #[true, true, true, true, true, false, true, false, false, false, false, false, false, false, false, false, false, false, false, false, false, false] rfl rfl (zc HT_.out (by kernel_rfl)) (fun _ _ _ h => h) (Or.inl ⟨by rfl, ?_⟩) ?_ ?_
                rotate_left
                next =>
                 intro w'
                 go_simp
                 with_reducible rfl
                rotate_left
                next =>
                 simp only [Act.put, yay, yby, ycy, zX, zY]
                 rfl
                refine qw (i := 5) (N := some 79) (v := ?_) (a' := ?_) #[true, true, true, true, true, true, true, false, false, false, false, false, false, false, false, false, false, false, false, false, false, false] rfl rfl (qC HT_.out HW_.out (by kernel_rfl)) (fun _ _ _ h => h) (Or.inl ⟨by rfl, ?_⟩) hHeld ?_ ?_
                rotate_left
                next =>
                 rintro w' ⟨s0, s1, s2, s3, s4, s5, s6, s7⟩
                 go_simp
                 with_reducible rfl
                rotate_left
                next =>
                 simp only [Act.put, yay, yby, ycy, zX, zY]
                 rfl
                refine zf (i := 7) (N := some 81) (v := ?_) (a' := ?_) #[true, true, true, true, true, true, true, true, false, false, false, false, false, false, false, false, false, false, false, false, false, false] rfl rfl (zc HT_.out (by kernel_rfl)) (fun _ _ _ h => h) (Or.inl ⟨by rfl, ?_⟩) ?_ ?_
                rotate_left
                next =>
                 intro w'
                 go_simp
                 with_reducible rfl
                rotate_left
                next =>
                 simp only [Act.put, yay, yby, ycy, zX, zY]
                 rfl
                refine qw (i := 8) (N := some 82) (v := ?_) (a' := ?_) #[true, true, true, true, true, true, true, true, true, false, false, false, false, false, false, false, false, false, false, false, false, false] rfl rfl (qC HT_.out HW_.out (by kernel_rfl)) (fun _ _ _ h => h) (Or.inl ⟨by rfl, ?_⟩) hHeld ?_ ?_
                rotate_left
                next =>
                 rintro w' ⟨s0, s1, s2, s3, s4, s5, s6, s7⟩
                 go_simp
                 with_reducible rfl
                rotate_left
                next =>
                 simp only [Act.put, yay, yby, ycy, zX, zY]
                 rfl
                refine qw (i := 9) (N := some 83) (v := ?_) (a' := ?_) #[true, true, true, true, true, true, true, true, true, true, false, false, false, false, false, false, false, false, false, false, false, false] rfl rfl (qC HT_.out HW_.out (by kernel_rfl)) (fun _ _ _ h => h) (Or.inl ⟨by rfl, ?_⟩) hHeld ?_ ?_
                rotate_left
                next =>
                 rintro w' ⟨s0, s1, s2, s3, s4, s5, s6, s7⟩
                 go_simp
                 with_reducible rfl
                rotate_left
                next =>
                 simp only [Act.put, yay, yby, ycy, zX, zY]
                 rfl
                refine zf (i := 10) (N := some 84) (v := ?_) (a' := ?_) #[true, true, true, true, true, true, true, true, true, true, true, false, false, false, false, false, false, false, false, false, false, false] rfl rfl (zc HT_.out (by kernel_rfl)) (fun _ _ _ h => h) (Or.inl ⟨by rfl, ?_⟩) ?_ ?_
                rotate_left
                next =>
                 intro w'
                 go_simp
                 with_reducible rfl
                rotate_left
                next =>
                 simp only [Act.put, yay, yby, ycy, zX, zY]
                 rfl
                refine zf (i := 11) (N := some 85) (v := ?_) (a' := ?_) #[true, true, true, true, true, true, true, true, true, true, true, true, false, false, false, false, false, false, false, false, false, false] rfl rfl (zc HT_.out (by kernel_rfl)) (fun _ _ _ h => h) (Or.inl ⟨by rfl, ?_⟩) ?_ ?_
                rotate_left
                next =>
                 intro w'
                 go_simp
                 with_reducible rfl
                rotate_left
                next =>
                 simp only [Act.put, yay, yby, ycy, zX, zY]
                 rfl
                refine zf (i := 12) (N := some 86) (v := undef) (a' := ?_) #[true, true, true, true, true, true, true, true, true, true, true, true, true, false, false, false, false, false, false, false, false, false] rfl rfl (zc HT_.out (by kernel_rfl)) (fun _ _ _ h => h) (Or.inr ⟨by rfl, rfl⟩) ?_ ?_
                rotate_left
                next =>
                 simp only [Act.put, yay, yby, ycy, zX, zY]
                 rfl
                refine zf (i := 13) (N := some 87) (v := undef) (a' := ?_) #[true, true, true, true, true, true, true, true, true, true, true, true, true, true, false, false, false, false, false, false, false, false] rfl rfl (zc HT_.out (by kernel_rfl)) (fun _ _ _ h => h) (Or.inr ⟨by rfl, rfl⟩) ?_ ?_
                rotate_left
                next =>
                 simp only [Act.put, yay, yby, ycy, zX, zY]
                 rfl
                refine zf (i := 14) (N := some 88) (v := undef) (a' := ?_) #[true, true, true, true, true, true, true, true, true, true, true, true, true, true, true, false, false, false, false, false, false, false] rfl rfl (zc HT_.out (by kernel_rfl)) (fun _ _ _ h => h) (Or.inr ⟨by rfl, rfl⟩) ?_ ?_
                rotate_left
                next =>
                 simp only [Act.put, yay, yby, ycy, zX, zY]
                 rfl
                refine zf (i := 15) (N := some 89) (v := undef) (a' := ?_) #[true, true, true, true, true, true, true, true, true, true, true, true, true, true, true, true, false, false, false, false, false, false] rfl rfl (zc HT_.out (by kernel_rfl)) (fun _ _ _ h => h) (Or.inr ⟨by rfl, rfl⟩) ?_ ?_
                rotate_left
                next =>
                 simp only [Act.put, yay, yby, ycy, zX, zY]
                 rfl
                refine zf (i := 16) (N := some 90) (v := undef) (a' := ?_) #[true, true, true, true, true, true, true, true, true, true, true, true, true, true, true, true, true, false, false, false, false, false] rfl rfl (zc HT_.out (by kernel_rfl)) (fun _ _ _ h => h) (Or.inr ⟨by rfl, rfl⟩) ?_ ?_
                rotate_left
                next =>
                 simp only [Act.put, yay, yby, ycy, zX, zY]
                 rfl
                refine zf (i := 17) (N := some 91) (v := undef) (a' := ?_) #[true, true, true, true, true, true, true, true, true, true, true, true, true, true, true, true, true, true, false, false, false, false] rfl rfl (zc HT_.out (by kernel_rfl)) (fun _ _ _ h => h) (Or.inr ⟨by rfl, rfl⟩) ?_ ?_
                rotate_left
                next =>
                 simp only [Act.put, yay, yby, ycy, zX, zY]
                 rfl
                refine zf (i := 18) (N := some 92) (v := undef) (a' := ?_) #[true, true, true, true, true, true, true, true, true, true, true, true, true, true, true, true, true, true, true, false, false, false] rfl rfl (zc HT_.out (by kernel_rfl)) (fun _ _ _ h => h) (Or.inr ⟨by rfl, rfl⟩) ?_ ?_
                rotate_left
                next =>
                 simp only [Act.put, yay, yby, ycy, zX, zY]
                 rfl
                refine zf (i := 19) (N := some 93) (v := undef) (a' := ?_) #[true, true, true, true, true, true, true, true, true, true, true, true, true, true, true, true, true, true, true, true, false, false] rfl rfl (zc HT_.out (by kernel_rfl)) (fun _ _ _ h => h) (Or.inr ⟨by rfl, rfl⟩) ?_ ?_
                rotate_left
                next =>
                 simp only [Act.put, yay, yby, ycy, zX, zY]
                 rfl
                refine zf (i := 20) (N := some 94) (v := undef) (a' := ?_) #[true, true, true, true, true, true, true, true, true, true, true, true, true, true, true, true, true, true, true, true, true, false] rfl rfl (zc HT_.out (by kernel_rfl)) (fun _ _ _ h => h) (Or.inr ⟨by rfl, rfl⟩) ?_ ?_
                rotate_left
                next =>
                 simp only [Act.put, yay, yby, ycy, zX, zY]
                 rfl
                refine zf (i := 21) (N := some 95) (v := ?_) (a' := ?_) #[true, true, true, true, true, true, true, true, true, true, true, true, true, true, true, true, true, true, true, true, true, true] rfl rfl (zc HT_.out (by kernel_rfl)) (fun _ _ _ h => h) (Or.inl ⟨by rfl, ?_⟩) ?_ ?_
                rotate_left
                next =>
                 intro w'
                 go_simp
                 with_reducible rfl
                rotate_left
                next =>
                 simp only [Act.put, yay, yby, ycy, zX, zY]
                 rfl
                refine Qu (Zs HT_.out (by kernel_rfl)) ?_
                try go_wp2
                go_ret
                exact ⟨by first | rfl | (simp [zZ, za] <;> rfl) | (simp [*, zZ, za] <;> rfl), by repeat (first | (with_reducible first | exact HB.out | apply zC | apply zB | apply zD | refine zF ?_ GE101.out | refine zF ?_ GE107.out | refine zF ?_ GE113.out) | exact HB.out)⟩
               next =>
                rw [if_neg c52] at H
                have c52b0 : (!(((zI (zE l0_0 ((zI (zE l0_0 x4_2) x5_3).f0)) t111).f0) == x4_2) || (!(((zI (zE l0_0 ((zI (zE l0_0 x4_2) x5_3).f0)) t111).f1) == t112))) = false := by simpa using c52
                clear c52
                by_cases c64 : ((zI (zE l0_0 x4_2) x5_3).f0) = x4_2
                rotate_left
                next =>
                 rw [if_neg c64] at H
                 have c64b0 : (((zI (zE l0_0 x4_2) x5_3).f0) == x4_2) = false := beq_eq_false_iff_ne.mpr c64
                 have c64b1 : (((zI (zE l0_0 x4_2) x5_3).f0) != x4_2) = true := bne_iff_ne.mpr c64
                 have H' := zA.mk H
                 clear H
                 have hnb88 := NB107_101.out
                 have hnc88 := NB101_107.out
                 have hcz89_0 : wc.cell? ⟨gb107, 0, none⟩ = some (.int .i64 ((zI (zE l0_0 x4_2) x5_3).f0)) := (zL BK107.out 0).trans rfl
                 have hcz89_1 : wc.cell? ⟨gb107, 1, none⟩ = some (.int .i64 ((zI (zE l0_0 x4_2) x5_3).f1)) := (zL BK107.out 1).trans rfl
                 have hfz89_0 := zM BK107.out 0
                 have hfz89_1 := zM BK107.out 1
                 try go_wp2_with (first | ((with_reducible refine zb (f := 82) rfl ?_); refine qH (some 68) rfl rfl Try.func82 (by kernel_rfl) rfl #[.int .i64 ((zI (zE l0_0 x4_2) x5_3).f1), .int .i64 x5_3] rfl (by (try simp only [yiy, yjy, yky]); first | done | rfl | (simp only [yly, ymy]; rfl)) ?_; (with_reducible refine (qt.calls kj35 ((zI (zE l0_0 x4_2) x5_3).f1) x5_3 t111 _ A46.out).mono ?_); rintro e w90 ⟨rfl, hb⟩; refine ⟨_, rfl, ?_⟩; have n0_ := zA.mk (zP (g := gb101) (o := .cells #[.slice (some ad105) l0_0.length c0_0] 35 (0, 0)) (by (with_reducible repeat (first | refine zH ?_ _ | refine zJ ?_ | refine zG ?_ _)); exact BK101.out) hb); have n1_ := zA.mk (zP (g := gb107) (o := .cells #[.int .i64 ((zI (zE l0_0 x4_2) x5_3).f0), .int .i64 ((zI (zE l0_0 x4_2) x5_3).f1)] 75 (0, 0)) (by (with_reducible repeat (first | refine zH ?_ _ | refine zJ ?_ | refine zG ?_ _)); exact BK107.out) hb); have n2_ := zA.mk (zN (by repeat (first | (with_reducible first | exact HB.out | apply zC | apply zB | apply zD | refine zF ?_ GE101.out | refine zF ?_ GE107.out) | exact HB.out)) hb); clear BK101; clear BK107; clear HB; have BK101 := n0_; have BK107 := n1_; have HB := n2_; clear n0_ n1_ n2_; (try clear hb); (try clear hb2); (try clear hk); (try clear hi); have hcz91_0 : w90.cell? ⟨gb107, 0, none⟩ = some (.int .i64 ((zI (zE l0_0 x4_2) x5_3).f0)) := (zL BK107.out 0).trans rfl; have hcz91_1 : w90.cell? ⟨gb107, 1, none⟩ = some (.int .i64 ((zI (zE l0_0 x4_2) x5_3).f1)) := (zL BK107.out 1).trans rfl; have hfz91_0 := zM BK107.out 0; have hfz91_1 := zM BK107.out 1) | ((with_reducible refine zb (f := 83) rfl ?_); refine qH (some 72) rfl rfl Try.func83 (by kernel_rfl) rfl #[.int .i64 ((zI (zE l0_0 x4_2) x5_3).f1)] rfl (by (try simp only [yiy, yjy, yky]); first | done | rfl | (simp only [yly, ymy]; rfl)) ?_; (with_reducible refine (qB.calls kj35 ((zI (zE l0_0 x4_2) x5_3).f1) t112 _ A47.out).mono ?_); rintro e w92 ⟨rfl, hb⟩; refine ⟨_, rfl, ?_⟩; have n0_ := zA.mk (zP (g := gb101) (o := .cells #[.slice (some ad105) l0_0.length c0_0] 35 (0, 0)) (by (with_reducible repeat (first | refine zH ?_ _ | refine zJ ?_ | refine zG ?_ _)); exact BK101.out) hb); have n1_ := zA.mk (zP (g := gb107) (o := .cells #[.int .i64 ((zI (zE l0_0 x4_2) x5_3).f0), .int .i64 ((zI (zE l0_0 x4_2) x5_3).f1)] 75 (0, 0)) (by (with_reducible repeat (first | refine zH ?_ _ | refine zJ ?_ | refine zG ?_ _)); exact BK107.out) hb); have n2_ := zA.mk (zN (by repeat (first | (with_reducible first | exact HB.out | apply zC | apply zB | apply zD | refine zF ?_ GE101.out | refine zF ?_ GE107.out) | exact HB.out)) hb); clear BK101; clear BK107; clear HB; have BK101 := n0_; have BK107 := n1_; have HB := n2_; clear n0_ n1_ n2_; (try clear hb); (try clear hb2); (try clear hk); (try clear hi)) | ((with_reducible refine zq (N := 8) rfl ?_); refine zv ?hg (N := 8) ?hd (cs := #[.int .i64 0, .int .i64 0]) (t := 75) ?hr ?_; (case hd => rfl); (case hg => rfl); (case hr => first | (go_simp; done) | (go_simp; rfl)); intro gb113 hg w93 hbox hb; have n0_ := zA.mk (zP (g := gb101) (o := .cells #[.slice (some ad105) l0_0.length c0_0] 35 (0, 0)) (by (with_reducible repeat (first | refine zH ?_ _ | refine zJ ?_ | refine zG ?_ _)); exact BK101.out) hb); have n1_ := zA.mk (zP (g := gb107) (o := .cells #[.int .i64 ((zI (zE l0_0 x4_2) x5_3).f0), .int .i64 ((zI (zE l0_0 x4_2) x5_3).f1)] 75 (0, 0)) (by (with_reducible repeat (first | refine zH ?_ _ | refine zJ ?_ | refine zG ?_ _)); exact BK107.out) hb); have n2_ := zA.mk (zN (by repeat (first | (with_reducible first | exact HB.out | apply zC | apply zB | apply zD | refine zF ?_ GE101.out | refine zF ?_ GE107.out) | exact HB.out)) hb); have n3_ := zA.mk (hbox); have n4_ := zA.mk ((by rw [hg]; exact (zO (by repeat (first | (with_reducible first | exact HB.out | apply zC | apply zB | apply zD | refine zF ?_ GE101.out | refine zF ?_ GE107.out) | exact HB.out))) : w.heap.size ≤ gb113)); have n5_ := zA.mk ((by rw [hg]; exact (zO (by repeat (first | (with_reducible first | exact HB.out | apply zC | apply zB | apply zD | refine zF ?_ GE101.out | refine zF ?_ GE107.out) | exact HB.out))) : w.heap.size ≤ gb113)); have n6_ := zA.mk ((by rw [hg]; exact Nat.ne_of_lt (qT (g := gb101) (o := .cells #[.slice (some ad105) l0_0.length c0_0] 35 (0, 0)) (by (with_reducible repeat (first | refine zH ?_ _ | refine zJ ?_ | refine zG ?_ _)); exact BK101.out)) : gb101 ≠ gb113)); have n7_ := zA.mk ((by rw [hg]; exact Nat.ne_of_gt (qT (g := gb101) (o := .cells #[.slice (some ad105) l0_0.length c0_0] 35 (0, 0)) (by (with_reducible repeat (first | refine zH ?_ _ | refine zJ ?_ | refine zG ?_ _)); exact BK101.out)) : gb113 ≠ gb101)); have n8_ := zA.mk ((by rw [hg]; exact Nat.ne_of_lt (qT (g := gb107) (o := .cells #[.int .i64 ((zI (zE l0_0 x4_2) x5_3).f0), .int .i64 ((zI (zE l0_0 x4_2) x5_3).f1)] 75 (0, 0)) (by (with_reducible repeat (first | refine zH ?_ _ | refine zJ ?_ | refine zG ?_ _)); exact BK107.out)) : gb107 ≠ gb113)); have n9_ := zA.mk ((by rw [hg]; exact Nat.ne_of_gt (qT (g := gb107) (o := .cells #[.int .i64 ((zI (zE l0_0 x4_2) x5_3).f0), .int .i64 ((zI (zE l0_0 x4_2) x5_3).f1)] 75 (0, 0)) (by (with_reducible repeat (first | refine zH ?_ _ | refine zJ ?_ | refine zG ?_ _)); exact BK107.out)) : gb113 ≠ gb107)); clear BK101; clear BK107; clear HB; have BK101 := n0_; have BK107 := n1_; have HB := n2_; have BK113 := n3_; have GW113 := n4_; have GE113 := n5_; have NB101_113 := n6_; have NB113_101 := n7_; have NB107_113 := n8_; have NB113_107 := n9_; clear n0_ n1_ n2_ n3_ n4_ n5_ n6_ n7_ n8_ n9_; clear hb hbox hg; have hnb94 := NB113_101.out; have hnc94 := NB101_113.out; have hnb95 := NB113_107.out; have hnc95 := NB107_113.out; have hcz96_0 : w93.cell? ⟨gb113, 0, none⟩ = some (.int .i64 0) := (zL BK113.out 0).trans rfl; have hcz96_1 : w93.cell? ⟨gb113, 1, none⟩ = some (.int .i64 0) := (zL BK113.out 1).trans rfl; have hfz96_0 := zM BK113.out 0; have hfz96_1 := zM BK113.out 1))
                 have n0_ : zA (((w93.setCell ⟨gb113, 0, none⟩ (.int .i64 x4_2)).setCell ⟨gb113, 1, none⟩ (.int .i64 t112)).heap[gb101]? = some (.cells #[.slice (some ad105) l0_0.length c0_0] 35 (0, 0))) := ⟨by (with_reducible repeat (first | refine zH ?_ _ | refine zJ ?_ | refine zG ?_ _)); refine qJ ?_ NB101_113.out _; (with_reducible repeat (first | refine zH ?_ _ | refine zJ ?_ | refine zG ?_ _)); refine qJ ?_ NB101_113.out _; (with_reducible repeat (first | refine zH ?_ _ | refine zJ ?_ | refine zG ?_ _)); exact BK101.out⟩
                 have n1_ : zA (((w93.setCell ⟨gb113, 0, none⟩ (.int .i64 x4_2)).setCell ⟨gb113, 1, none⟩ (.int .i64 t112)).heap[gb107]? = some (.cells #[.int .i64 ((zI (zE l0_0 x4_2) x5_3).f0), .int .i64 ((zI (zE l0_0 x4_2) x5_3).f1)] 75 (0, 0))) := ⟨by (with_reducible repeat (first | refine zH ?_ _ | refine zJ ?_ | refine zG ?_ _)); refine qJ ?_ NB107_113.out _; (with_reducible repeat (first | refine zH ?_ _ | refine zJ ?_ | refine zG ?_ _)); refine qJ ?_ NB107_113.out _; (with_reducible repeat (first | refine zH ?_ _ | refine zJ ?_ | refine zG ?_ _)); exact BK107.out⟩
                 have n2_ : zA (((w93.setCell ⟨gb113, 0, none⟩ (.int .i64 x4_2)).setCell ⟨gb113, 1, none⟩ (.int .i64 t112)).heap[gb113]? = some (.cells #[.int .i64 x4_2, .int .i64 t112] 75 (0, 0))) := ⟨by (with_reducible repeat (first | refine zH ?_ _ | refine zJ ?_ | refine zG ?_ _)); refine qa (cs := #[.int .i64 x4_2, .int .i64 0]) ?_ 1 _ rfl; (with_reducible repeat (first | refine zH ?_ _ | refine zJ ?_ | refine zG ?_ _)); refine qa (cs := #[.int .i64 0, .int .i64 0]) ?_ 0 _ rfl; (with_reducible repeat (first | refine zH ?_ _ | refine zJ ?_ | refine zG ?_ _)); exact BK113.out⟩
                 have n3_ : zA (Below w.heap.size w ((w93.setCell ⟨gb113, 0, none⟩ (.int .i64 x4_2)).setCell ⟨gb113, 1, none⟩ (.int .i64 t112))) := ⟨by repeat (first | (with_reducible first | exact HB.out | apply zC | apply zB | apply zD | refine zF ?_ GE101.out | refine zF ?_ GE107.out | refine zF ?_ GE113.out) | exact HB.out)⟩
                 (try clear BK101)
                 (try clear BK107)
                 (try clear BK113)
                 (try clear HB)
                 generalize ((w93.setCell ⟨gb113, 0, none⟩ (.int .i64 x4_2)).setCell ⟨gb113, 1, none⟩ (.int .i64 t112)) = w97 at n0_ n1_ n2_ n3_ ⊢
                 have BK101 := n0_
                 have BK107 := n1_
                 have BK113 := n2_
                 have HB := n3_
                 clear n0_ n1_ n2_ n3_
                 have n0_ := zA.mk (zJ BK101.out)
                 have n1_ := zA.mk (zJ BK107.out)
                 have n2_ := zA.mk (zJ BK113.out)
                 have n3_ := zA.mk (zD HB.out)
                 clear BK101
                 clear BK107
                 clear BK113
                 clear HB
                 have BK101 := n0_
                 have BK107 := n1_
                 have BK113 := n2_
                 have HB := n3_
                 clear n0_ n1_ n2_ n3_
                 have p114 : 0 ≤ (((zI (zE l0_0 x4_2) x5_3).f0) : Int) := of_decide_eq_true (by first | (with_reducible assumption) | assumption)
                 have q114 : ((zI (zE l0_0 x4_2) x5_3).f0) < (l0_0.length : Int) := of_decide_eq_true (by first | (with_reducible assumption) | assumption)
                 obtain ⟨ad114, A114_0, c114_0, e114, hx114_0, hl114_0, hi114_0⟩ := ZW HR0_0.out ((zI (zE l0_0 x4_2) x5_3).f0) p114 q114
                 have hw114_0 := hx114_0
                 obtain rfl : ad105 = ad114 := (by injection e114)
                 replace hx114_0 := (HB.out.cell (ypy w _ hx114_0)).trans hx114_0
                 have HR114_0 := zA.mk hi114_0
                 have HC114_0 := zA.mk hl114_0
                 clear hi114_0 hl114_0
                 replace p114 := eq_true p114
                 replace q114 := eq_true q114
                 have p115 : 0 ≤ (t111 : Int) := of_decide_eq_true (by first | (with_reducible assumption) | assumption)
                 have q115 : t111 < ((zE l0_0 ((zI (zE l0_0 x4_2) x5_3).f0)).length : Int) := of_decide_eq_true (by first | (with_reducible assumption) | assumption)
                 obtain ⟨ad115, e115, hx115_0, hx115_1⟩ := QA HR114_0.out t111 p115 q115
                 have hw115_1 := hx115_1
                 have hw115_0 := hx115_0
                 cases e115
                 replace hx115_0 := (HB.out.cell (ypy w _ hx115_0)).trans hx115_0
                 replace hx115_1 := (HB.out.cell (ypy w _ hx115_1)).trans hx115_1
                 replace p115 := eq_true p115
                 replace q115 := eq_true q115
                 refine Zy (n := 22) (S := fun w' => w'.cell? ⟨gb101, 0, none⟩ = some (.slice (some ad105) l0_0.length c0_0) ∧ w'.cell? ⟨gb107, 0, none⟩ = some (.int .i64 ((zI (zE l0_0 x4_2) x5_3).f0)) ∧ w'.cell? ⟨gb107, 1, none⟩ = some (.int .i64 ((zI (zE l0_0 x4_2) x5_3).f1)) ∧ w'.cell? ⟨gb113, 0, none⟩ = some (.int .i64 x4_2) ∧ w'.cell? ⟨gb113, 1, none⟩ = some (.int .i64 t112) ∧ w'.cell? (ad105.add (((zI (zE l0_0 x4_2) x5_3).f0)).toNat) = some (.slice (some ad115) (zE l0_0 ((zI (zE l0_0 x4_2) x5_3).f0)).length c114_0) ∧ w'.cell? (ad115.add ((t111).toNat * 2)) = some (.int .i64 ((zI (zE l0_0 ((zI (zE l0_0 x4_2) x5_3).f0)) t111).f0)) ∧ w'.cell? ⟨(ad115.add ((t111).toNat * 2)).block, (ad115.add ((t111).toNat * 2)).off + 1, none⟩ = some (.int .i64 ((zI (zE l0_0 ((zI (zE l0_0 x4_2) x5_3).f0)) t111).f1))) (ds := []) #[false, false, false, false, false, false, false, false, false, false, false, false, false, false, false, false, false, false, false, false, false, false] (by kernel_rfl) rfl rfl ⟨(zL BK101.out 0).trans rfl, (zL BK107.out 0).trans rfl, (zL BK107.out 1).trans rfl, (zL BK113.out 0).trans rfl, (zL BK113.out 1).trans rfl, ((HB.out.cell (ypy w _ hw114_0)).trans hw114_0), ((HB.out.cell (ypy w _ hw115_0)).trans hw115_0), ((HB.out.cell (ypy w _ hw115_1)).trans hw115_1)⟩ (fun hHeld => ?_); refine ZF zK.zFJ zK.zDM (fun HT_ HW_ => ?_)
                 generalize w97.drew = w98 at BK101 BK107 BK113 HB HR114_0 hx114_0 hx115_0 hx115_1 hHeld ⊢
                 refine zf (i := 0) (N := some 74) (v := ?_) (a' := ?_) #[true, false, false, false, false, false, false, false, false, false, false, false, false, false, false, false, false, false, false, false, false, false] rfl rfl (zc HT_.out (by kernel_rfl)) (fun _ _ _ h => h) (Or.inl ⟨by rfl, ?_⟩) ?_ ?_
                 rotate_left
                 next =>
                  intro w'
                  go_simp
                  with_reducible rfl
                 rotate_left
                 next =>
                  simp only [Act.put, yay, yby, ycy, zX, zY]
                  rfl
                 refine zf (i := 2) (N := some 76) (v := ?_) (a' := ?_) #[true, false, true, false, false, false, false, false, false, false, false, false, false, false, false, false, false, false, false, false, false, false] rfl rfl (zc HT_.out (by kernel_rfl)) (fun _ _ _ h => h) (Or.inl ⟨by rfl, ?_⟩) ?_ ?_
                 rotate_left
                 next =>
                  intro w'
                  go_simp
                  with_reducible rfl
                 rotate_left
                 next =>
                  simp only [Act.put, yay, yby, ycy, zX, zY]
                  rfl
                 refine zf (i := 6) (N := some 80) (v := ?_) (a' := ?_) #[true, false, true, false, false, false, true, false, false, false, false, false, false, false, false, false, false, false, false, false, false, false] rfl rfl (zc HT_.out (by kernel_rfl)) (fun _ _ _ h => h) (Or.inl ⟨by rfl, ?_⟩) ?_ ?_
                 rotate_left
                 next =>
                  intro w'
                  go_simp
                  with_reducible rfl
                 rotate_left
                 next =>
                  simp only [Act.put, yay, yby, ycy, zX, zY]
                  rfl
                 refine qw (i := 1) (N := some 75) (v := ?_) (a' := ?_) #[true, true, true, false, false, false, true, false, false, false, false, false, false, false, false, false, false, false, false, false, false, false] rfl rfl (qC HT_.out HW_.out (by kernel_rfl)) (fun _ _ _ h => h) (Or.inl ⟨by rfl, ?_⟩) hHeld ?_ ?_
                 rotate_left
                 next =>
                  rintro w' ⟨s0, s1, s2, s3, s4, s5, s6, s7⟩
                  go_simp
                  with_reducible rfl
                 rotate_left
                 next =>
                  simp only [Act.put, yay, yby, ycy, zX, zY]
                  rfl
                 refine qw (i := 3) (N := some 77) (v := ?_) (a' := ?_) #[true, true, true, true, false, false, true, false, false, false, false, false, false, false, false, false, false, false, false, false, false, false] rfl rfl (qC HT_.out HW_.out (by kernel_rfl)) (fun _ _ _ h => h) (Or.inl ⟨by rfl, ?_⟩) hHeld ?_ ?_
                 rotate_left
                 next =>
                  rintro w' ⟨s0, s1, s2, s3, s4, s5, s6, s7⟩
                  go_simp
                  with_reducible rfl
                 rotate_left
                 next =>
                  simp only [Act.put, yay, yby, ycy, zX, zY]
                  rfl
                 refine zf (i := 4) (N := some 78) (v := ?_) (a' := ?_) #[true, true, true, true, true, false, true, false, false, false, false, false, false, false, false, false, false, false, false, false, false, false] rfl rfl (zc HT_.out (by kernel_rfl)) (fun _ _ _ h => h) (Or.inl ⟨by rfl, ?_⟩) ?_ ?_
                 rotate_left
                 next =>
                  intro w'
                  go_simp
                  with_reducible rfl
                 rotate_left
                 next =>
                  simp only [Act.put, yay, yby, ycy, zX, zY]
                  rfl
                 refine qw (i := 5) (N := some 79) (v := ?_) (a' := ?_) #[true, true, true, true, true, true, true, false, false, false, false, false, false, false, false, false, false, false, false, false, false, false] rfl rfl (qC HT_.out HW_.out (by kernel_rfl)) (fun _ _ _ h => h) (Or.inl ⟨by rfl, ?_⟩) hHeld ?_ ?_
                 rotate_left
                 next =>
                  rintro w' ⟨s0, s1, s2, s3, s4, s5, s6, s7⟩
                  go_simp
                  with_reducible rfl
                 rotate_left
                 next =>
                  simp only [Act.put, yay, yby, ycy, zX, zY]
                  rfl
                 refine zf (i := 7) (N := some 81) (v := ?_) (a' := ?_) #[true, true, true, true, true, true, true, true, false, false, false, false, false, false, false, false, false, false, false, false, false, false] rfl rfl (zc HT_.out (by kernel_rfl)) (fun _ _ _ h => h) (Or.inl ⟨by rfl, ?_⟩) ?_ ?_
                 rotate_left
                 next =>
                  intro w'
                  go_simp
                  with_reducible rfl
                 rotate_left
                 next =>
                  simp only [Act.put, yay, yby, ycy, zX, zY]
                  rfl
                 refine qw (i := 8) (N := some 82) (v := ?_) (a' := ?_) #[true, true, true, true, true, true, true, true, true, false, false, false, false, false, false, false, false, false, false, false, false, false] rfl rfl (qC HT_.out HW_.out (by kernel_rfl)) (fun _ _ _ h => h) (Or.inl ⟨by rfl, ?_⟩) hHeld ?_ ?_
                 rotate_left
                 next =>
                  rintro w' ⟨s0, s1, s2, s3, s4, s5, s6, s7⟩
                  go_simp
                  with_reducible rfl
                 rotate_left
                 next =>
                  simp only [Act.put, yay, yby, ycy, zX, zY]
                  rfl
                 refine qw (i := 9) (N := some 83) (v := ?_) (a' := ?_) #[true, true, true, true, true, true, true, true, true, true, false, false, false, false, false, false, false, false, false, false, false, false] rfl rfl (qC HT_.out HW_.out (by kernel_rfl)) (fun _ _ _ h => h) (Or.inl ⟨by rfl, ?_⟩) hHeld ?_ ?_
                 rotate_left
                 next =>
                  rintro w' ⟨s0, s1, s2, s3, s4, s5, s6, s7⟩
                  go_simp
                  with_reducible rfl
                 rotate_left
                 next =>
                  simp only [Act.put, yay, yby, ycy, zX, zY]
                  rfl
                 refine zf (i := 10) (N := some 84) (v := ?_) (a' := ?_) #[true, true, true, true, true, true, true, true, true, true, true, false, false, false, false, false, false, false, false, false, false, false] rfl rfl (zc HT_.out (by kernel_rfl)) (fun _ _ _ h => h) (Or.inl ⟨by rfl, ?_⟩) ?_ ?_
                 rotate_left
                 next =>
                  intro w'
                  go_simp
                  with_reducible rfl
                 rotate_left
                 next =>
                  simp only [Act.put, yay, yby, ycy, zX, zY]
                  rfl
                 refine zf (i := 11) (N := some 85) (v := ?_) (a' := ?_) #[true, true, true, true, true, true, true, true, true, true, true, true, false, false, false, false, false, false, false, false, false, false] rfl rfl (zc HT_.out (by kernel_rfl)) (fun _ _ _ h => h) (Or.inl ⟨by rfl, ?_⟩) ?_ ?_
                 rotate_left
                 next =>
                  intro w'
                  go_simp
                  with_reducible rfl
                 rotate_left
                 next =>
                  simp only [Act.put, yay, yby, ycy, zX, zY]
                  rfl
                 refine zf (i := 12) (N := some 86) (v := ?_) (a' := ?_) #[true, true, true, true, true, true, true, true, true, true, true, true, true, false, false, false, false, false, false, false, false, false] rfl rfl (zc HT_.out (by kernel_rfl)) (fun _ _ _ h => h) (Or.inl ⟨by rfl, ?_⟩) ?_ ?_
                 rotate_left
                 next =>
                  intro w'
                  go_simp
                  with_reducible rfl
                 rotate_left
                 next =>
                  simp only [Act.put, yay, yby, ycy, zX, zY]
                  rfl
                 refine zf (i := 14) (N := some 88) (v := ?_) (a' := ?_) #[true, true, true, true, true, true, true, true, true, true, true, true, true, false, true, false, false, false, false, false, false, false] rfl rfl (zc HT_.out (by kernel_rfl)) (fun _ _ _ h => h) (Or.inl ⟨by rfl, ?_⟩) ?_ ?_
                 rotate_left
                 next =>
                  intro w'
                  go_simp
                  with_reducible rfl
                 rotate_left
                 next =>
                  simp only [Act.put, yay, yby, ycy, zX, zY]
                  rfl
                 refine qw (i := 13) (N := some 87) (v := ?_) (a' := ?_) #[true, true, true, true, true, true, true, true, true, true, true, true, true, true, true, false, false, false, false, false, false, false] rfl rfl (qC HT_.out HW_.out (by kernel_rfl)) (fun _ _ _ h => h) (Or.inl ⟨by rfl, ?_⟩) hHeld ?_ ?_
                 rotate_left
                 next =>
                  rintro w' ⟨s0, s1, s2, s3, s4, s5, s6, s7⟩
                  go_simp
                  with_reducible rfl
                 rotate_left
                 next =>
                  simp only [Act.put, yay, yby, ycy, zX, zY]
                  rfl
                 refine zf (i := 15) (N := some 89) (v := ?_) (a' := ?_) #[true, true, true, true, true, true, true, true, true, true, true, true, true, true, true, true, false, false, false, false, false, false] rfl rfl (zc HT_.out (by kernel_rfl)) (fun _ _ _ h => h) (Or.inl ⟨by rfl, ?_⟩) ?_ ?_
                 rotate_left
                 next =>
                  intro w'
                  go_simp
                  with_reducible rfl
                 rotate_left
                 next =>
                  simp only [Act.put, yay, yby, ycy, zX, zY]
                  rfl
                 refine zf (i := 16) (N := some 90) (v := ?_) (a' := ?_) #[true, true, true, true, true, true, true, true, true, true, true, true, true, true, true, true, true, false, false, false, false, false] rfl rfl (zc HT_.out (by kernel_rfl)) (fun _ _ _ h => h) (Or.inl ⟨by rfl, ?_⟩) ?_ ?_
                 rotate_left
                 next =>
                  intro w'
                  go_simp
                  with_reducible rfl
                 rotate_left
                 next =>
                  simp only [Act.put, yay, yby, ycy, zX, zY]
                  rfl
                 refine zf (i := 17) (N := some 91) (v := undef) (a' := ?_) #[true, true, true, true, true, true, true, true, true, true, true, true, true, true, true, true, true, true, false, false, false, false] rfl rfl (zc HT_.out (by kernel_rfl)) (fun _ _ _ h => h) (Or.inr ⟨by rfl, rfl⟩) ?_ ?_
                 rotate_left
                 next =>
                  simp only [Act.put, yay, yby, ycy, zX, zY]
                  rfl
                 refine zf (i := 18) (N := some 92) (v := undef) (a' := ?_) #[true, true, true, true, true, true, true, true, true, true, true, true, true, true, true, true, true, true, true, false, false, false] rfl rfl (zc HT_.out (by kernel_rfl)) (fun _ _ _ h => h) (Or.inr ⟨by rfl, rfl⟩) ?_ ?_
                 rotate_left
                 next =>
                  simp only [Act.put, yay, yby, ycy, zX, zY]
                  rfl
                 refine zf (i := 19) (N := some 93) (v := undef) (a' := ?_) #[true, true, true, true, true, true, true, true, true, true, true, true, true, true, true, true, true, true, true, true, false, false] rfl rfl (zc HT_.out (by kernel_rfl)) (fun _ _ _ h => h) (Or.inr ⟨by rfl, rfl⟩) ?_ ?_
                 rotate_left
                 next =>
                  simp only [Act.put, yay, yby, ycy, zX, zY]
                  rfl
                 refine zf (i := 20) (N := some 94) (v := ?_) (a' := ?_) #[true, true, true, true, true, true, true, true, true, true, true, true, true, true, true, true, true, true, true, true, true, false] rfl rfl (zc HT_.out (by kernel_rfl)) (fun _ _ _ h => h) (Or.inl ⟨by rfl, ?_⟩) ?_ ?_
                 rotate_left
                 next =>
                  intro w'
                  go_simp
                  with_reducible rfl
                 rotate_left
                 next =>
                  simp only [Act.put, yay, yby, ycy, zX, zY]
                  rfl
                 refine zf (i := 21) (N := some 95) (v := ?_) (a' := ?_) #[true, true, true, true, true, true, true, true, true, true, true, true, true, true, true, true, true, true, true, true, true, true] rfl rfl (zc HT_.out (by kernel_rfl)) (fun _ _ _ h => h) (Or.inl ⟨by rfl, ?_⟩) ?_ ?_
                 rotate_left
                 next =>
                  intro w'
                  go_simp
                  with_reducible rfl
                 rotate_left
                 next =>
                  simp only [Act.put, yay, yby, ycy, zX, zY]
                  rfl
                 refine Qu (Zs HT_.out (by kernel_rfl)) ?_
                 try go_wp2
                 go_roundg kj35
                 case measure => have := HK1.out; have := HK2.out; have := HK3.out; have := HJ24.out; have := HJ35.out; omega
                 case rel => exact ⟨(wrap64 (x5_3 + 1)), (by first | rfl | (simp; done) | (simp [*]; done)), H', ⟨by have := HK1.out; have := HK2.out; have := HK3.out; have := HJ24.out; have := HJ35.out; omega⟩, ⟨by (with_reducible repeat (first | refine zH ?_ _ | refine zJ ?_ | refine zG ?_ _)); exact BK101.out⟩, ⟨by repeat (first | (with_reducible first | exact HB.out | apply zC | apply zB | apply zD | refine zF ?_ GE101.out | refine zF ?_ GE107.out | refine zF ?_ GE113.out) | exact HB.out)⟩⟩
                rw [if_pos c64] at H
                have c64b0 : (((zI (zE l0_0 x4_2) x5_3).f0) == x4_2) = true := beq_iff_eq.mpr c64
                have c64b1 : (((zI (zE l0_0 x4_2) x5_3).f0) != x4_2) = false := bne_eq_false_iff_eq.mpr c64
                clear c64
                by_cases c65 : t111 = x5_3
                next =>
                 rw [if_pos c65] at H
                 have c65b0 : (t111 == x5_3) = true := beq_iff_eq.mpr c65
                 have c65b1 : (t111 != x5_3) = false := bne_eq_false_iff_eq.mpr c65
                 clear c65
                 obtain rfl := yey H
                 have hnb66 := NB107_101.out
                 have hnc66 := NB101_107.out
                 have hcz67_0 : wc.cell? ⟨gb107, 0, none⟩ = some (.int .i64 ((zI (zE l0_0 x4_2) x5_3).f0)) := (zL BK107.out 0).trans rfl
                 have hcz67_1 : wc.cell? ⟨gb107, 1, none⟩ = some (.int .i64 ((zI (zE l0_0 x4_2) x5_3).f1)) := (zL BK107.out 1).trans rfl
                 have hfz67_0 := zM BK107.out 0
                 have hfz67_1 := zM BK107.out 1
                 try go_wp2_with (first | ((with_reducible refine zb (f := 82) rfl ?_); refine qH (some 68) rfl rfl Try.func82 (by kernel_rfl) rfl #[.int .i64 ((zI (zE l0_0 x4_2) x5_3).f1), .int .i64 x5_3] rfl (by (try simp only [yiy, yjy, yky]); first | done | rfl | (simp only [yly, ymy]; rfl)) ?_; (with_reducible refine (qt.calls kj35 ((zI (zE l0_0 x4_2) x5_3).f1) x5_3 t111 _ A46.out).mono ?_); rintro e w68 ⟨rfl, hb⟩; refine ⟨_, rfl, ?_⟩; have n0_ := zA.mk (zP (g := gb101) (o := .cells #[.slice (some ad105) l0_0.length c0_0] 35 (0, 0)) (by (with_reducible repeat (first | refine zH ?_ _ | refine zJ ?_ | refine zG ?_ _)); exact BK101.out) hb); have n1_ := zA.mk (zP (g := gb107) (o := .cells #[.int .i64 ((zI (zE l0_0 x4_2) x5_3).f0), .int .i64 ((zI (zE l0_0 x4_2) x5_3).f1)] 75 (0, 0)) (by (with_reducible repeat (first | refine zH ?_ _ | refine zJ ?_ | refine zG ?_ _)); exact BK107.out) hb); have n2_ := zA.mk (zN (by repeat (first | (with_reducible first | exact HB.out | apply zC | apply zB | apply zD | refine zF ?_ GE101.out | refine zF ?_ GE107.out) | exact HB.out)) hb); clear BK101; clear BK107; clear HB; have BK101 := n0_; have BK107 := n1_; have HB := n2_; clear n0_ n1_ n2_; (try clear hb); (try clear hb2); (try clear hk); (try clear hi); have hcz69_0 : w68.cell? ⟨gb107, 0, none⟩ = some (.int .i64 ((zI (zE l0_0 x4_2) x5_3).f0)) := (zL BK107.out 0).trans rfl; have hcz69_1 : w68.cell? ⟨gb107, 1, none⟩ = some (.int .i64 ((zI (zE l0_0 x4_2) x5_3).f1)) := (zL BK107.out 1).trans rfl; have hfz69_0 := zM BK107.out 0; have hfz69_1 := zM BK107.out 1) | ((with_reducible refine zb (f := 83) rfl ?_); refine qH (some 72) rfl rfl Try.func83 (by kernel_rfl) rfl #[.int .i64 ((zI (zE l0_0 x4_2) x5_3).f1)] rfl (by (try simp only [yiy, yjy, yky]); first | done | rfl | (simp only [yly, ymy]; rfl)) ?_; (with_reducible refine (qB.calls kj35 ((zI (zE l0_0 x4_2) x5_3).f1) t112 _ A47.out).mono ?_); rintro e w70 ⟨rfl, hb⟩; refine ⟨_, rfl, ?_⟩; have n0_ := zA.mk (zP (g := gb101) (o := .cells #[.slice (some ad105) l0_0.length c0_0] 35 (0, 0)) (by (with_reducible repeat (first | refine zH ?_ _ | refine zJ ?_ | refine zG ?_ _)); exact BK101.out) hb); have n1_ := zA.mk (zP (g := gb107) (o := .cells #[.int .i64 ((zI (zE l0_0 x4_2) x5_3).f0), .int .i64 ((zI (zE l0_0 x4_2) x5_3).f1)] 75 (0, 0)) (by (with_reducible repeat (first | refine zH ?_ _ | refine zJ ?_ | refine zG ?_ _)); exact BK107.out) hb); have n2_ := zA.mk (zN (by repeat (first | (with_reducible first | exact HB.out | apply zC | apply zB | apply zD | refine zF ?_ GE101.out | refine zF ?_ GE107.out) | exact HB.out)) hb); clear BK101; clear BK107; clear HB; have BK101 := n0_; have BK107 := n1_; have HB := n2_; clear n0_ n1_ n2_; (try clear hb); (try clear hb2); (try clear hk); (try clear hi)) | ((with_reducible refine zq (N := 8) rfl ?_); refine zv ?hg (N := 8) ?hd (cs := #[.int .i64 0, .int .i64 0]) (t := 75) ?hr ?_; (case hd => rfl); (case hg => rfl); (case hr => first | (go_simp; done) | (go_simp; rfl)); intro gb113 hg w71 hbox hb; have n0_ := zA.mk (zP (g := gb101) (o := .cells #[.slice (some ad105) l0_0.length c0_0] 35 (0, 0)) (by (with_reducible repeat (first | refine zH ?_ _ | refine zJ ?_ | refine zG ?_ _)); exact BK101.out) hb); have n1_ := zA.mk (zP (g := gb107) (o := .cells #[.int .i64 ((zI (zE l0_0 x4_2) x5_3).f0), .int .i64 ((zI (zE l0_0 x4_2) x5_3).f1)] 75 (0, 0)) (by (with_reducible repeat (first | refine zH ?_ _ | refine zJ ?_ | refine zG ?_ _)); exact BK107.out) hb); have n2_ := zA.mk (zN (by repeat (first | (with_reducible first | exact HB.out | apply zC | apply zB | apply zD | refine zF ?_ GE101.out | refine zF ?_ GE107.out) | exact HB.out)) hb); have n3_ := zA.mk (hbox); have n4_ := zA.mk ((by rw [hg]; exact (zO (by repeat (first | (with_reducible first | exact HB.out | apply zC | apply zB | apply zD | refine zF ?_ GE101.out | refine zF ?_ GE107.out) | exact HB.out))) : w.heap.size ≤ gb113)); have n5_ := zA.mk ((by rw [hg]; exact (zO (by repeat (first | (with_reducible first | exact HB.out | apply zC | apply zB | apply zD | refine zF ?_ GE101.out | refine zF ?_ GE107.out) | exact HB.out))) : w.heap.size ≤ gb113)); have n6_ := zA.mk ((by rw [hg]; exact Nat.ne_of_lt (qT (g := gb101) (o := .cells #[.slice (some ad105) l0_0.length c0_0] 35 (0, 0)) (by (with_reducible repeat (first | refine zH ?_ _ | refine zJ ?_ | refine zG ?_ _)); exact BK101.out)) : gb101 ≠ gb113)); have n7_ := zA.mk ((by rw [hg]; exact Nat.ne_of_gt (qT (g := gb101) (o := .cells #[.slice (some ad105) l0_0.length c0_0] 35 (0, 0)) (by (with_reducible repeat (first | refine zH ?_ _ | refine zJ ?_ | refine zG ?_ _)); exact BK101.out)) : gb113 ≠ gb101)); have n8_ := zA.mk ((by rw [hg]; exact Nat.ne_of_lt (qT (g := gb107) (o := .cells #[.int .i64 ((zI (zE l0_0 x4_2) x5_3).f0), .int .i64 ((zI (zE l0_0 x4_2) x5_3).f1)] 75 (0, 0)) (by (with_reducible repeat (first | refine zH ?_ _ | refine zJ ?_ | refine zG ?_ _)); exact BK107.out)) : gb107 ≠ gb113)); have n9_ := zA.mk ((by rw [hg]; exact Nat.ne_of_gt (qT (g := gb107) (o := .cells #[.int .i64 ((zI (zE l0_0 x4_2) x5_3).f0), .int .i64 ((zI (zE l0_0 x4_2) x5_3).f1)] 75 (0, 0)) (by (with_reducible repeat (first | refine zH ?_ _ | refine zJ ?_ | refine zG ?_ _)); exact BK107.out)) : gb113 ≠ gb107)); clear BK101; clear BK107; clear HB; have BK101 := n0_; have BK107 := n1_; have HB := n2_; have BK113 := n3_; have GW113 := n4_; have GE113 := n5_; have NB101_113 := n6_; have NB113_101 := n7_; have NB107_113 := n8_; have NB113_107 := n9_; clear n0_ n1_ n2_ n3_ n4_ n5_ n6_ n7_ n8_ n9_; clear hb hbox hg; have hnb72 := NB113_101.out; have hnc72 := NB101_113.out; have hnb73 := NB113_107.out; have hnc73 := NB107_113.out; have hcz74_0 : w71.cell? ⟨gb113, 0, none⟩ = some (.int .i64 0) := (zL BK113.out 0).trans rfl; have hcz74_1 : w71.cell? ⟨gb113, 1, none⟩ = some (.int .i64 0) := (zL BK113.out 1).trans rfl; have hfz74_0 := zM BK113.out 0; have hfz74_1 := zM BK113.out 1))
                 have n0_ : zA (((w71.setCell ⟨gb113, 0, none⟩ (.int .i64 x4_2)).setCell ⟨gb113, 1, none⟩ (.int .i64 t112)).heap[gb101]? = some (.cells #[.slice (some ad105) l0_0.length c0_0] 35 (0, 0))) := ⟨by (with_reducible repeat (first | refine zH ?_ _ | refine zJ ?_ | refine zG ?_ _)); refine qJ ?_ NB101_113.out _; (with_reducible repeat (first | refine zH ?_ _ | refine zJ ?_ | refine zG ?_ _)); refine qJ ?_ NB101_113.out _; (with_reducible repeat (first | refine zH ?_ _ | refine zJ ?_ | refine zG ?_ _)); exact BK101.out⟩
                 have n1_ : zA (((w71.setCell ⟨gb113, 0, none⟩ (.int .i64 x4_2)).setCell ⟨gb113, 1, none⟩ (.int .i64 t112)).heap[gb107]? = some (.cells #[.int .i64 ((zI (zE l0_0 x4_2) x5_3).f0), .int .i64 ((zI (zE l0_0 x4_2) x5_3).f1)] 75 (0, 0))) := ⟨by (with_reducible repeat (first | refine zH ?_ _ | refine zJ ?_ | refine zG ?_ _)); refine qJ ?_ NB107_113.out _; (with_reducible repeat (first | refine zH ?_ _ | refine zJ ?_ | refine zG ?_ _)); refine qJ ?_ NB107_113.out _; (with_reducible repeat (first | refine zH ?_ _ | refine zJ ?_ | refine zG ?_ _)); exact BK107.out⟩
                 have n2_ : zA (((w71.setCell ⟨gb113, 0, none⟩ (.int .i64 x4_2)).setCell ⟨gb113, 1, none⟩ (.int .i64 t112)).heap[gb113]? = some (.cells #[.int .i64 x4_2, .int .i64 t112] 75 (0, 0))) := ⟨by (with_reducible repeat (first | refine zH ?_ _ | refine zJ ?_ | refine zG ?_ _)); refine qa (cs := #[.int .i64 x4_2, .int .i64 0]) ?_ 1 _ rfl; (with_reducible repeat (first | refine zH ?_ _ | refine zJ ?_ | refine zG ?_ _)); refine qa (cs := #[.int .i64 0, .int .i64 0]) ?_ 0 _ rfl; (with_reducible repeat (first | refine zH ?_ _ | refine zJ ?_ | refine zG ?_ _)); exact BK113.out⟩
                 have n3_ : zA (Below w.heap.size w ((w71.setCell ⟨gb113, 0, none⟩ (.int .i64 x4_2)).setCell ⟨gb113, 1, none⟩ (.int .i64 t112))) := ⟨by repeat (first | (with_reducible first | exact HB.out | apply zC | apply zB | apply zD | refine zF ?_ GE101.out | refine zF ?_ GE107.out | refine zF ?_ GE113.out) | exact HB.out)⟩
                 (try clear BK101)
                 (try clear BK107)
                 (try clear BK113)
                 (try clear HB)
                 generalize ((w71.setCell ⟨gb113, 0, none⟩ (.int .i64 x4_2)).setCell ⟨gb113, 1, none⟩ (.int .i64 t112)) = w75 at n0_ n1_ n2_ n3_ ⊢
                 have BK101 := n0_
                 have BK107 := n1_
                 have BK113 := n2_
                 have HB := n3_
                 clear n0_ n1_ n2_ n3_
                 have n0_ := zA.mk (zJ BK101.out)
                 have n1_ := zA.mk (zJ BK107.out)
                 have n2_ := zA.mk (zJ BK113.out)
                 have n3_ := zA.mk (zD HB.out)
                 clear BK101
                 clear BK107
                 clear BK113
                 clear HB
                 have BK101 := n0_
                 have BK107 := n1_
                 have BK113 := n2_
                 have HB := n3_
                 clear n0_ n1_ n2_ n3_
                 have p114 : 0 ≤ (((zI (zE l0_0 x4_2) x5_3).f0) : Int) := of_decide_eq_true (by first | (with_reducible assumption) | assumption)
                 have q114 : ((zI (zE l0_0 x4_2) x5_3).f0) < (l0_0.length : Int) := of_decide_eq_true (by first | (with_reducible assumption) | assumption)
                 obtain ⟨ad114, A114_0, c114_0, e114, hx114_0, hl114_0, hi114_0⟩ := ZW HR0_0.out ((zI (zE l0_0 x4_2) x5_3).f0) p114 q114
                 have hw114_0 := hx114_0
                 obtain rfl : ad105 = ad114 := (by injection e114)
                 replace hx114_0 := (HB.out.cell (ypy w _ hx114_0)).trans hx114_0
                 have HR114_0 := zA.mk hi114_0
                 have HC114_0 := zA.mk hl114_0
                 clear hi114_0 hl114_0
                 replace p114 := eq_true p114
                 replace q114 := eq_true q114
                 have p115 : 0 ≤ (t111 : Int) := of_decide_eq_true (by first | (with_reducible assumption) | assumption)
                 have q115 : t111 < ((zE l0_0 ((zI (zE l0_0 x4_2) x5_3).f0)).length : Int) := of_decide_eq_true (by first | (with_reducible assumption) | assumption)
                 obtain ⟨ad115, e115, hx115_0, hx115_1⟩ := QA HR114_0.out t111 p115 q115
                 have hw115_1 := hx115_1
                 have hw115_0 := hx115_0
                 cases e115
                 replace hx115_0 := (HB.out.cell (ypy w _ hx115_0)).trans hx115_0
                 replace hx115_1 := (HB.out.cell (ypy w _ hx115_1)).trans hx115_1
                 replace p115 := eq_true p115
                 replace q115 := eq_true q115
                 refine Zy (n := 22) (S := fun w' => w'.cell? ⟨gb101, 0, none⟩ = some (.slice (some ad105) l0_0.length c0_0) ∧ w'.cell? ⟨gb107, 0, none⟩ = some (.int .i64 ((zI (zE l0_0 x4_2) x5_3).f0)) ∧ w'.cell? ⟨gb107, 1, none⟩ = some (.int .i64 ((zI (zE l0_0 x4_2) x5_3).f1)) ∧ w'.cell? ⟨gb113, 0, none⟩ = some (.int .i64 x4_2) ∧ w'.cell? ⟨gb113, 1, none⟩ = some (.int .i64 t112) ∧ w'.cell? (ad105.add (((zI (zE l0_0 x4_2) x5_3).f0)).toNat) = some (.slice (some ad115) (zE l0_0 ((zI (zE l0_0 x4_2) x5_3).f0)).length c114_0) ∧ w'.cell? (ad115.add ((t111).toNat * 2)) = some (.int .i64 ((zI (zE l0_0 ((zI (zE l0_0 x4_2) x5_3).f0)) t111).f0)) ∧ w'.cell? ⟨(ad115.add ((t111).toNat * 2)).block, (ad115.add ((t111).toNat * 2)).off + 1, none⟩ = some (.int .i64 ((zI (zE l0_0 ((zI (zE l0_0 x4_2) x5_3).f0)) t111).f1))) (ds := []) #[false, false, false, false, false, false, false, false, false, false, false, false, false, false, false, false, false, false, false, false, false, false] (by kernel_rfl) rfl rfl ⟨(zL BK101.out 0).trans rfl, (zL BK107.out 0).trans rfl, (zL BK107.out 1).trans rfl, (zL BK113.out 0).trans rfl, (zL BK113.out 1).trans rfl, ((HB.out.cell (ypy w _ hw114_0)).trans hw114_0), ((HB.out.cell (ypy w _ hw115_0)).trans hw115_0), ((HB.out.cell (ypy w _ hw115_1)).trans hw115_1)⟩ (fun hHeld => ?_); refine ZF zK.zFJ zK.zDM (fun HT_ HW_ => ?_)
                 generalize w75.drew = w76 at BK101 BK107 BK113 HB HR114_0 hx114_0 hx115_0 hx115_1 hHeld ⊢
                 refine zf (i := 0) (N := some 74) (v := ?_) (a' := ?_) #[true, false, false, false, false, false, false, false, false, false, false, false, false, false, false, false, false, false, false, false, false, false] rfl rfl (zc HT_.out (by kernel_rfl)) (fun _ _ _ h => h) (Or.inl ⟨by rfl, ?_⟩) ?_ ?_
                 rotate_left
                 next =>
                  intro w'
                  go_simp
                  with_reducible rfl
                 rotate_left
                 next =>
                  simp only [Act.put, yay, yby, ycy, zX, zY]
                  rfl
                 refine zf (i := 2) (N := some 76) (v := ?_) (a' := ?_) #[true, false, true, false, false, false, false, false, false, false, false, false, false, false, false, false, false, false, false, false, false, false] rfl rfl (zc HT_.out (by kernel_rfl)) (fun _ _ _ h => h) (Or.inl ⟨by rfl, ?_⟩) ?_ ?_
                 rotate_left
                 next =>
                  intro w'
                  go_simp
                  with_reducible rfl
                 rotate_left
                 next =>
                  simp only [Act.put, yay, yby, ycy, zX, zY]
                  rfl
                 refine zf (i := 6) (N := some 80) (v := ?_) (a' := ?_) #[true, false, true, false, false, false, true, false, false, false, false, false, false, false, false, false, false, false, false, false, false, false] rfl rfl (zc HT_.out (by kernel_rfl)) (fun _ _ _ h => h) (Or.inl ⟨by rfl, ?_⟩) ?_ ?_
                 rotate_left
                 next =>
                  intro w'
                  go_simp
                  with_reducible rfl
                 rotate_left
                 next =>
                  simp only [Act.put, yay, yby, ycy, zX, zY]
                  rfl
                 refine qw (i := 1) (N := some 75) (v := ?_) (a' := ?_) #[true, true, true, false, false, false, true, false, false, false, false, false, false, false, false, false, false, false, false, false, false, false] rfl rfl (qC HT_.out HW_.out (by kernel_rfl)) (fun _ _ _ h => h) (Or.inl ⟨by rfl, ?_⟩) hHeld ?_ ?_
                 rotate_left
                 next =>
                  rintro w' ⟨s0, s1, s2, s3, s4, s5, s6, s7⟩
                  go_simp
                  with_reducible rfl
                 rotate_left
                 next =>
                  simp only [Act.put, yay, yby, ycy, zX, zY]
                  rfl
                 refine qw (i := 3) (N := some 77) (v := ?_) (a' := ?_) #[true, true, true, true, false, false, true, false, false, false, false, false, false, false, false, false, false, false, false, false, false, false] rfl rfl (qC HT_.out HW_.out (by kernel_rfl)) (fun _ _ _ h => h) (Or.inl ⟨by rfl, ?_⟩) hHeld ?_ ?_
                 rotate_left
                 next =>
                  rintro w' ⟨s0, s1, s2, s3, s4, s5, s6, s7⟩
                  go_simp
                  with_reducible rfl
                 rotate_left
                 next =>
                  simp only [Act.put, yay, yby, ycy, zX, zY]
                  rfl
                 refine zf (i := 4) (N := some 78) (v := ?_) (a' := ?_) #[true, true, true, true, true, false, true, false, false, false, false, false, false, false, false, false, false, false, false, false, false, false] rfl rfl (zc HT_.out (by kernel_rfl)) (fun _ _ _ h => h) (Or.inl ⟨by rfl, ?_⟩) ?_ ?_
                 rotate_left
                 next =>
                  intro w'
                  go_simp
                  with_reducible rfl
                 rotate_left
                 next =>
                  simp only [Act.put, yay, yby, ycy, zX, zY]
                  rfl
                 refine qw (i := 5) (N := some 79) (v := ?_) (a' := ?_) #[true, true, true, true, true, true, true, false, false, false, false, false, false, false, false, false, false, false, false, false, false, false] rfl rfl (qC HT_.out HW_.out (by kernel_rfl)) (fun _ _ _ h => h) (Or.inl ⟨by rfl, ?_⟩) hHeld ?_ ?_
                 rotate_left
                 next =>
                  rintro w' ⟨s0, s1, s2, s3, s4, s5, s6, s7⟩
                  go_simp
                  with_reducible rfl
                 rotate_left
                 next =>
                  simp only [Act.put, yay, yby, ycy, zX, zY]
                  rfl
                 refine zf (i := 7) (N := some 81) (v := ?_) (a' := ?_) #[true, true, true, true, true, true, true, true, false, false, false, false, false, false, false, false, false, false, false, false, false, false] rfl rfl (zc HT_.out (by kernel_rfl)) (fun _ _ _ h => h) (Or.inl ⟨by rfl, ?_⟩) ?_ ?_
                 rotate_left
                 next =>
                  intro w'
                  go_simp
                  with_reducible rfl
                 rotate_left
                 next =>
                  simp only [Act.put, yay, yby, ycy, zX, zY]
                  rfl
                 refine qw (i := 8) (N := some 82) (v := ?_) (a' := ?_) #[true, true, true, true, true, true, true, true, true, false, false, false, false, false, false, false, false, false, false, false, false, false] rfl rfl (qC HT_.out HW_.out (by kernel_rfl)) (fun _ _ _ h => h) (Or.inl ⟨by rfl, ?_⟩) hHeld ?_ ?_
                 rotate_left
                 next =>
                  rintro w' ⟨s0, s1, s2, s3, s4, s5, s6, s7⟩
                  go_simp
                  with_reducible rfl
                 rotate_left
                 next =>
                  simp only [Act.put, yay, yby, ycy, zX, zY]
                  rfl
                 refine qw (i := 9) (N := some 83) (v := ?_) (a' := ?_) #[true, true, true, true, true, true, true, true, true, true, false, false, false, false, false, false, false, false, false, false, false, false] rfl rfl (qC HT_.out HW_.out (by kernel_rfl)) (fun _ _ _ h => h) (Or.inl ⟨by rfl, ?_⟩) hHeld ?_ ?_
                 rotate_left
                 next =>
                  rintro w' ⟨s0, s1, s2, s3, s4, s5, s6, s7⟩
                  go_simp
                  with_reducible rfl
                 rotate_left
                 next =>
                  simp only [Act.put, yay, yby, ycy, zX, zY]
                  rfl
                 refine zf (i := 10) (N := some 84) (v := ?_) (a' := ?_) #[true, true, true, true, true, true, true, true, true, true, true, false, false, false, false, false, false, false, false, false, false, false] rfl rfl (zc HT_.out (by kernel_rfl)) (fun _ _ _ h => h) (Or.inl ⟨by rfl, ?_⟩) ?_ ?_
                 rotate_left
                 next =>
                  intro w'
                  go_simp
                  with_reducible rfl
                 rotate_left
                 next =>
                  simp only [Act.put, yay, yby, ycy, zX, zY]
                  rfl
                 refine zf (i := 11) (N := some 85) (v := ?_) (a' := ?_) #[true, true, true, true, true, true, true, true, true, true, true, true, false, false, false, false, false, false, false, false, false, false] rfl rfl (zc HT_.out (by kernel_rfl)) (fun _ _ _ h => h) (Or.inl ⟨by rfl, ?_⟩) ?_ ?_
                 rotate_left
                 next =>
                  intro w'
                  go_simp
                  with_reducible rfl
                 rotate_left
                 next =>
                  simp only [Act.put, yay, yby, ycy, zX, zY]
                  rfl
                 refine zf (i := 12) (N := some 86) (v := ?_) (a' := ?_) #[true, true, true, true, true, true, true, true, true, true, true, true, true, false, false, false, false, false, false, false, false, false] rfl rfl (zc HT_.out (by kernel_rfl)) (fun _ _ _ h => h) (Or.inl ⟨by rfl, ?_⟩) ?_ ?_
                 rotate_left
                 next =>
                  intro w'
                  go_simp
                  with_reducible rfl
                 rotate_left
                 next =>
                  simp only [Act.put, yay, yby, ycy, zX, zY]
                  rfl
                 refine zf (i := 14) (N := some 88) (v := ?_) (a' := ?_) #[true, true, true, true, true, true, true, true, true, true, true, true, true, false, true, false, false, false, false, false, false, false] rfl rfl (zc HT_.out (by kernel_rfl)) (fun _ _ _ h => h) (Or.inl ⟨by rfl, ?_⟩) ?_ ?_
                 rotate_left
                 next =>
                  intro w'
                  go_simp
                  with_reducible rfl
                 rotate_left
                 next =>
                  simp only [Act.put, yay, yby, ycy, zX, zY]
                  rfl
                 refine qw (i := 13) (N := some 87) (v := ?_) (a' := ?_) #[true, true, true, true, true, true, true, true, true, true, true, true, true, true, true, false, false, false, false, false, false, false] rfl rfl (qC HT_.out HW_.out (by kernel_rfl)) (fun _ _ _ h => h) (Or.inl ⟨by rfl, ?_⟩) hHeld ?_ ?_
                 rotate_left
                 next =>
                  rintro w' ⟨s0, s1, s2, s3, s4, s5, s6, s7⟩
                  go_simp
                  with_reducible rfl
                 rotate_left
                 next =>
                  simp only [Act.put, yay, yby, ycy, zX, zY]
                  rfl
                 refine zf (i := 15) (N := some 89) (v := ?_) (a' := ?_) #[true, true, true, true, true, true, true, true, true, true, true, true, true, true, true, true, false, false, false, false, false, false] rfl rfl (zc HT_.out (by kernel_rfl)) (fun _ _ _ h => h) (Or.inl ⟨by rfl, ?_⟩) ?_ ?_
                 rotate_left
                 next =>
                  intro w'
                  go_simp
                  with_reducible rfl
                 rotate_left
                 next =>
                  simp only [Act.put, yay, yby, ycy, zX, zY]
                  rfl
                 refine zf (i := 16) (N := some 90) (v := ?_) (a' := ?_) #[true, true, true, true, true, true, true, true, true, true, true, true, true, true, true, true, true, false, false, false, false, false] rfl rfl (zc HT_.out (by kernel_rfl)) (fun _ _ _ h => h) (Or.inl ⟨by rfl, ?_⟩) ?_ ?_
                 rotate_left
                 next =>
                  intro w'
                  go_simp
                  with_reducible rfl
                 rotate_left
                 next =>
                  simp only [Act.put, yay, yby, ycy, zX, zY]
                  rfl
                 refine zf (i := 17) (N := some 91) (v := ?_) (a' := ?_) #[true, true, true, true, true, true, true, true, true, true, true, true, true, true, true, true, true, true, false, false, false, false] rfl rfl (zc HT_.out (by kernel_rfl)) (fun _ _ _ h => h) (Or.inl ⟨by rfl, ?_⟩) ?_ ?_
                 rotate_left
                 next =>
                  intro w'
                  go_simp
                  with_reducible rfl
                 rotate_left
                 next =>
                  simp only [Act.put, yay, yby, ycy, zX, zY]
                  rfl
                 refine zf (i := 18) (N := some 92) (v := ?_) (a' := ?_) #[true, true, true, true, true, true, true, true, true, true, true, true, true, true, true, true, true, true, true, false, false, false] rfl rfl (zc HT_.out (by kernel_rfl)) (fun _ _ _ h => h) (Or.inl ⟨by rfl, ?_⟩) ?_ ?_
                 rotate_left
                 next =>
                  intro w'
                  go_simp
                  with_reducible rfl
                 rotate_left
                 next =>
                  simp only [Act.put, yay, yby, ycy, zX, zY]
                  rfl
                 refine zf (i := 19) (N := some 93) (v := ?_) (a' := ?_) #[true, true, true, true, true, true, true, true, true, true, true, true, true, true, true, true, true, true, true, true, false, false] rfl rfl (zc HT_.out (by kernel_rfl)) (fun _ _ _ h => h) (Or.inl ⟨by rfl, ?_⟩) ?_ ?_
                 rotate_left
                 next =>
                  intro w'
                  go_simp
                  with_reducible rfl
                 rotate_left
                 next =>
                  simp only [Act.put, yay, yby, ycy, zX, zY]
                  rfl
                 refine zf (i := 20) (N := some 94) (v := ?_) (a' := ?_) #[true, true, true, true, true, true, true, true, true, true, true, true, true, true, true, true, true, true, true, true, true, false] rfl rfl (zc HT_.out (by kernel_rfl)) (fun _ _ _ h => h) (Or.inl ⟨by rfl, ?_⟩) ?_ ?_
                 rotate_left
                 next =>
                  intro w'
                  go_simp
                  with_reducible rfl
                 rotate_left
                 next =>
                  simp only [Act.put, yay, yby, ycy, zX, zY]
                  rfl
                 refine zf (i := 21) (N := some 95) (v := ?_) (a' := ?_) #[true, true, true, true, true, true, true, true, true, true, true, true, true, true, true, true, true, true, true, true, true, true] rfl rfl (zc HT_.out (by kernel_rfl)) (fun _ _ _ h => h) (Or.inl ⟨by rfl, ?_⟩) ?_ ?_
                 rotate_left
                 next =>
                  intro w'
                  go_simp
                  with_reducible rfl
                 rotate_left
                 next =>
                  simp only [Act.put, yay, yby, ycy, zX, zY]
                  rfl
                 refine Qu (Zs HT_.out (by kernel_rfl)) ?_
                 try go_wp2
                 go_ret
                 exact ⟨by first | rfl | (simp [zZ, za] <;> rfl) | (simp [*, zZ, za] <;> rfl), by repeat (first | (with_reducible first | exact HB.out | apply zC | apply zB | apply zD | refine zF ?_ GE101.out | refine zF ?_ GE107.out | refine zF ?_ GE113.out) | exact HB.out)⟩
                next =>
                 rw [if_neg c65] at H
                 have c65b0 : (t111 == x5_3) = false := beq_eq_false_iff_ne.mpr c65
                 have c65b1 : (t111 != x5_3) = true := bne_iff_ne.mpr c65
                 have H' := zA.mk H
                 clear H
                 have hnb77 := NB107_101.out
                 have hnc77 := NB101_107.out
                 have hcz78_0 : wc.cell? ⟨gb107, 0, none⟩ = some (.int .i64 ((zI (zE l0_0 x4_2) x5_3).f0)) := (zL BK107.out 0).trans rfl
                 have hcz78_1 : wc.cell? ⟨gb107, 1, none⟩ = some (.int .i64 ((zI (zE l0_0 x4_2) x5_3).f1)) := (zL BK107.out 1).trans rfl
                 have hfz78_0 := zM BK107.out 0
                 have hfz78_1 := zM BK107.out 1
                 try go_wp2_with (first | ((with_reducible refine zb (f := 82) rfl ?_); refine qH (some 68) rfl rfl Try.func82 (by kernel_rfl) rfl #[.int .i64 ((zI (zE l0_0 x4_2) x5_3).f1), .int .i64 x5_3] rfl (by (try simp only [yiy, yjy, yky]); first | done | rfl | (simp only [yly, ymy]; rfl)) ?_; (with_reducible refine (qt.calls kj35 ((zI (zE l0_0 x4_2) x5_3).f1) x5_3 t111 _ A46.out).mono ?_); rintro e w79 ⟨rfl, hb⟩; refine ⟨_, rfl, ?_⟩; have n0_ := zA.mk (zP (g := gb101) (o := .cells #[.slice (some ad105) l0_0.length c0_0] 35 (0, 0)) (by (with_reducible repeat (first | refine zH ?_ _ | refine zJ ?_ | refine zG ?_ _)); exact BK101.out) hb); have n1_ := zA.mk (zP (g := gb107) (o := .cells #[.int .i64 ((zI (zE l0_0 x4_2) x5_3).f0), .int .i64 ((zI (zE l0_0 x4_2) x5_3).f1)] 75 (0, 0)) (by (with_reducible repeat (first | refine zH ?_ _ | refine zJ ?_ | refine zG ?_ _)); exact BK107.out) hb); have n2_ := zA.mk (zN (by repeat (first | (with_reducible first | exact HB.out | apply zC | apply zB | apply zD | refine zF ?_ GE101.out | refine zF ?_ GE107.out) | exact HB.out)) hb); clear BK101; clear BK107; clear HB; have BK101 := n0_; have BK107 := n1_; have HB := n2_; clear n0_ n1_ n2_; (try clear hb); (try clear hb2); (try clear hk); (try clear hi); have hcz80_0 : w79.cell? ⟨gb107, 0, none⟩ = some (.int .i64 ((zI (zE l0_0 x4_2) x5_3).f0)) := (zL BK107.out 0).trans rfl; have hcz80_1 : w79.cell? ⟨gb107, 1, none⟩ = some (.int .i64 ((zI (zE l0_0 x4_2) x5_3).f1)) := (zL BK107.out 1).trans rfl; have hfz80_0 := zM BK107.out 0; have hfz80_1 := zM BK107.out 1) | ((with_reducible refine zb (f := 83) rfl ?_); refine qH (some 72) rfl rfl Try.func83 (by kernel_rfl) rfl #[.int .i64 ((zI (zE l0_0 x4_2) x5_3).f1)] rfl (by (try simp only [yiy, yjy, yky]); first | done | rfl | (simp only [yly, ymy]; rfl)) ?_; (with_reducible refine (qB.calls kj35 ((zI (zE l0_0 x4_2) x5_3).f1) t112 _ A47.out).mono ?_); rintro e w81 ⟨rfl, hb⟩; refine ⟨_, rfl, ?_⟩; have n0_ := zA.mk (zP (g := gb101) (o := .cells #[.slice (some ad105) l0_0.length c0_0] 35 (0, 0)) (by (with_reducible repeat (first | refine zH ?_ _ | refine zJ ?_ | refine zG ?_ _)); exact BK101.out) hb); have n1_ := zA.mk (zP (g := gb107) (o := .cells #[.int .i64 ((zI (zE l0_0 x4_2) x5_3).f0), .int .i64 ((zI (zE l0_0 x4_2) x5_3).f1)] 75 (0, 0)) (by (with_reducible repeat (first | refine zH ?_ _ | refine zJ ?_ | refine zG ?_ _)); exact BK107.out) hb); have n2_ := zA.mk (zN (by repeat (first | (with_reducible first | exact HB.out | apply zC | apply zB | apply zD | refine zF ?_ GE101.out | refine zF ?_ GE107.out) | exact HB.out)) hb); clear BK101; clear BK107; clear HB; have BK101 := n0_; have BK107 := n1_; have HB := n2_; clear n0_ n1_ n2_; (try clear hb); (try clear hb2); (try clear hk); (try clear hi)) | ((with_reducible refine zq (N := 8) rfl ?_); refine zv ?hg (N := 8) ?hd (cs := #[.int .i64 0, .int .i64 0]) (t := 75) ?hr ?_; (case hd => rfl); (case hg => rfl); (case hr => first | (go_simp; done) | (go_simp; rfl)); intro gb113 hg w82 hbox hb; have n0_ := zA.mk (zP (g := gb101) (o := .cells #[.slice (some ad105) l0_0.length c0_0] 35 (0, 0)) (by (with_reducible repeat (first | refine zH ?_ _ | refine zJ ?_ | refine zG ?_ _)); exact BK101.out) hb); have n1_ := zA.mk (zP (g := gb107) (o := .cells #[.int .i64 ((zI (zE l0_0 x4_2) x5_3).f0), .int .i64 ((zI (zE l0_0 x4_2) x5_3).f1)] 75 (0, 0)) (by (with_reducible repeat (first | refine zH ?_ _ | refine zJ ?_ | refine zG ?_ _)); exact BK107.out) hb); have n2_ := zA.mk (zN (by repeat (first | (with_reducible first | exact HB.out | apply zC | apply zB | apply zD | refine zF ?_ GE101.out | refine zF ?_ GE107.out) | exact HB.out)) hb); have n3_ := zA.mk (hbox); have n4_ := zA.mk ((by rw [hg]; exact (zO (by repeat (first | (with_reducible first | exact HB.out | apply zC | apply zB | apply zD | refine zF ?_ GE101.out | refine zF ?_ GE107.out) | exact HB.out))) : w.heap.size ≤ gb113)); have n5_ := zA.mk ((by rw [hg]; exact (zO (by repeat (first | (with_reducible first | exact HB.out | apply zC | apply zB | apply zD | refine zF ?_ GE101.out | refine zF ?_ GE107.out) | exact HB.out))) : w.heap.size ≤ gb113)); have n6_ := zA.mk ((by rw [hg]; exact Nat.ne_of_lt (qT (g := gb101) (o := .cells #[.slice (some ad105) l0_0.length c0_0] 35 (0, 0)) (by (with_reducible repeat (first | refine zH ?_ _ | refine zJ ?_ | refine zG ?_ _)); exact BK101.out)) : gb101 ≠ gb113)); have n7_ := zA.mk ((by rw [hg]; exact Nat.ne_of_gt (qT (g := gb101) (o := .cells #[.slice (some ad105) l0_0.length c0_0] 35 (0, 0)) (by (with_reducible repeat (first | refine zH ?_ _ | refine zJ ?_ | refine zG ?_ _)); exact BK101.out)) : gb113 ≠ gb101)); have n8_ := zA.mk ((by rw [hg]; exact Nat.ne_of_lt (qT (g := gb107) (o := .cells #[.int .i64 ((zI (zE l0_0 x4_2) x5_3).f0), .int .i64 ((zI (zE l0_0 x4_2) x5_3).f1)] 75 (0, 0)) (by (with_reducible repeat (first | refine zH ?_ _ | refine zJ ?_ | refine zG ?_ _)); exact BK107.out)) : gb107 ≠ gb113)); have n9_ := zA.mk ((by rw [hg]; exact Nat.ne_of_gt (qT (g := gb107) (o := .cells #[.int .i64 ((zI (zE l0_0 x4_2) x5_3).f0), .int .i64 ((zI (zE l0_0 x4_2) x5_3).f1)] 75 (0, 0)) (by (with_reducible repeat (first | refine zH ?_ _ | refine zJ ?_ | refine zG ?_ _)); exact BK107.out)) : gb113 ≠ gb107)); clear BK101; clear BK107; clear HB; have BK101 := n0_; have BK107 := n1_; have HB := n2_; have BK113 := n3_; have GW113 := n4_; have GE113 := n5_; have NB101_113 := n6_; have NB113_101 := n7_; have NB107_113 := n8_; have NB113_107 := n9_; clear n0_ n1_ n2_ n3_ n4_ n5_ n6_ n7_ n8_ n9_; clear hb hbox hg; have hnb83 := NB113_101.out; have hnc83 := NB101_113.out; have hnb84 := NB113_107.out; have hnc84 := NB107_113.out; have hcz85_0 : w82.cell? ⟨gb113, 0, none⟩ = some (.int .i64 0) := (zL BK113.out 0).trans rfl; have hcz85_1 : w82.cell? ⟨gb113, 1, none⟩ = some (.int .i64 0) := (zL BK113.out 1).trans rfl; have hfz85_0 := zM BK113.out 0; have hfz85_1 := zM BK113.out 1))
                 have n0_ : zA (((w82.setCell ⟨gb113, 0, none⟩ (.int .i64 x4_2)).setCell ⟨gb113, 1, none⟩ (.int .i64 t112)).heap[gb101]? = some (.cells #[.slice (some ad105) l0_0.length c0_0] 35 (0, 0))) := ⟨by (with_reducible repeat (first | refine zH ?_ _ | refine zJ ?_ | refine zG ?_ _)); refine qJ ?_ NB101_113.out _; (with_reducible repeat (first | refine zH ?_ _ | refine zJ ?_ | refine zG ?_ _)); refine qJ ?_ NB101_113.out _; (with_reducible repeat (first | refine zH ?_ _ | refine zJ ?_ | refine zG ?_ _)); exact BK101.out⟩
                 have n1_ : zA (((w82.setCell ⟨gb113, 0, none⟩ (.int .i64 x4_2)).setCell ⟨gb113, 1, none⟩ (.int .i64 t112)).heap[gb107]? = some (.cells #[.int .i64 ((zI (zE l0_0 x4_2) x5_3).f0), .int .i64 ((zI (zE l0_0 x4_2) x5_3).f1)] 75 (0, 0))) := ⟨by (with_reducible repeat (first | refine zH ?_ _ | refine zJ ?_ | refine zG ?_ _)); refine qJ ?_ NB107_113.out _; (with_reducible repeat (first | refine zH ?_ _ | refine zJ ?_ | refine zG ?_ _)); refine qJ ?_ NB107_113.out _; (with_reducible repeat (first | refine zH ?_ _ | refine zJ ?_ | refine zG ?_ _)); exact BK107.out⟩
                 have n2_ : zA (((w82.setCell ⟨gb113, 0, none⟩ (.int .i64 x4_2)).setCell ⟨gb113, 1, none⟩ (.int .i64 t112)).heap[gb113]? = some (.cells #[.int .i64 x4_2, .int .i64 t112] 75 (0, 0))) := ⟨by (with_reducible repeat (first | refine zH ?_ _ | refine zJ ?_ | refine zG ?_ _)); refine qa (cs := #[.int .i64 x4_2, .int .i64 0]) ?_ 1 _ rfl; (with_reducible repeat (first | refine zH ?_ _ | refine zJ ?_ | refine zG ?_ _)); refine qa (cs := #[.int .i64 0, .int .i64 0]) ?_ 0 _ rfl; (with_reducible repeat (first | refine zH ?_ _ | refine zJ ?_ | refine zG ?_ _)); exact BK113.out⟩
                 have n3_ : zA (Below w.heap.size w ((w82.setCell ⟨gb113, 0, none⟩ (.int .i64 x4_2)).setCell ⟨gb113, 1, none⟩ (.int .i64 t112))) := ⟨by repeat (first | (with_reducible first | exact HB.out | apply zC | apply zB | apply zD | refine zF ?_ GE101.out | refine zF ?_ GE107.out | refine zF ?_ GE113.out) | exact HB.out)⟩
                 (try clear BK101)
                 (try clear BK107)
                 (try clear BK113)
                 (try clear HB)
                 generalize ((w82.setCell ⟨gb113, 0, none⟩ (.int .i64 x4_2)).setCell ⟨gb113, 1, none⟩ (.int .i64 t112)) = w86 at n0_ n1_ n2_ n3_ ⊢
                 have BK101 := n0_
                 have BK107 := n1_
                 have BK113 := n2_
                 have HB := n3_
                 clear n0_ n1_ n2_ n3_
                 have n0_ := zA.mk (zJ BK101.out)
                 have n1_ := zA.mk (zJ BK107.out)
                 have n2_ := zA.mk (zJ BK113.out)
                 have n3_ := zA.mk (zD HB.out)
                 clear BK101
                 clear BK107
                 clear BK113
                 clear HB
                 have BK101 := n0_
                 have BK107 := n1_
                 have BK113 := n2_
                 have HB := n3_
                 clear n0_ n1_ n2_ n3_
                 have p114 : 0 ≤ (((zI (zE l0_0 x4_2) x5_3).f0) : Int) := of_decide_eq_true (by first | (with_reducible assumption) | assumption)
                 have q114 : ((zI (zE l0_0 x4_2) x5_3).f0) < (l0_0.length : Int) := of_decide_eq_true (by first | (with_reducible assumption) | assumption)
                 obtain ⟨ad114, A114_0, c114_0, e114, hx114_0, hl114_0, hi114_0⟩ := ZW HR0_0.out ((zI (zE l0_0 x4_2) x5_3).f0) p114 q114
                 have hw114_0 := hx114_0
                 obtain rfl : ad105 = ad114 := (by injection e114)
                 replace hx114_0 := (HB.out.cell (ypy w _ hx114_0)).trans hx114_0
                 have HR114_0 := zA.mk hi114_0
                 have HC114_0 := zA.mk hl114_0
                 clear hi114_0 hl114_0
                 replace p114 := eq_true p114
                 replace q114 := eq_true q114
                 have p115 : 0 ≤ (t111 : Int) := of_decide_eq_true (by first | (with_reducible assumption) | assumption)
                 have q115 : t111 < ((zE l0_0 ((zI (zE l0_0 x4_2) x5_3).f0)).length : Int) := of_decide_eq_true (by first | (with_reducible assumption) | assumption)
                 obtain ⟨ad115, e115, hx115_0, hx115_1⟩ := QA HR114_0.out t111 p115 q115
                 have hw115_1 := hx115_1
                 have hw115_0 := hx115_0
                 cases e115
                 replace hx115_0 := (HB.out.cell (ypy w _ hx115_0)).trans hx115_0
                 replace hx115_1 := (HB.out.cell (ypy w _ hx115_1)).trans hx115_1
                 replace p115 := eq_true p115
                 replace q115 := eq_true q115
                 refine Zy (n := 22) (S := fun w' => w'.cell? ⟨gb101, 0, none⟩ = some (.slice (some ad105) l0_0.length c0_0) ∧ w'.cell? ⟨gb107, 0, none⟩ = some (.int .i64 ((zI (zE l0_0 x4_2) x5_3).f0)) ∧ w'.cell? ⟨gb107, 1, none⟩ = some (.int .i64 ((zI (zE l0_0 x4_2) x5_3).f1)) ∧ w'.cell? ⟨gb113, 0, none⟩ = some (.int .i64 x4_2) ∧ w'.cell? ⟨gb113, 1, none⟩ = some (.int .i64 t112) ∧ w'.cell? (ad105.add (((zI (zE l0_0 x4_2) x5_3).f0)).toNat) = some (.slice (some ad115) (zE l0_0 ((zI (zE l0_0 x4_2) x5_3).f0)).length c114_0) ∧ w'.cell? (ad115.add ((t111).toNat * 2)) = some (.int .i64 ((zI (zE l0_0 ((zI (zE l0_0 x4_2) x5_3).f0)) t111).f0)) ∧ w'.cell? ⟨(ad115.add ((t111).toNat * 2)).block, (ad115.add ((t111).toNat * 2)).off + 1, none⟩ = some (.int .i64 ((zI (zE l0_0 ((zI (zE l0_0 x4_2) x5_3).f0)) t111).f1))) (ds := []) #[false, false, false, false, false, false, false, false, false, false, false, false, false, false, false, false, false, false, false, false, false, false] (by kernel_rfl) rfl rfl ⟨(zL BK101.out 0).trans rfl, (zL BK107.out 0).trans rfl, (zL BK107.out 1).trans rfl, (zL BK113.out 0).trans rfl, (zL BK113.out 1).trans rfl, ((HB.out.cell (ypy w _ hw114_0)).trans hw114_0), ((HB.out.cell (ypy w _ hw115_0)).trans hw115_0), ((HB.out.cell (ypy w _ hw115_1)).trans hw115_1)⟩ (fun hHeld => ?_); refine ZF zK.zFJ zK.zDM (fun HT_ HW_ => ?_)
                 generalize w86.drew = w87 at BK101 BK107 BK113 HB HR114_0 hx114_0 hx115_0 hx115_1 hHeld ⊢
                 refine zf (i := 0) (N := some 74) (v := ?_) (a' := ?_) #[true, false, false, false, false, false, false, false, false, false, false, false, false, false, false, false, false, false, false, false, false, false] rfl rfl (zc HT_.out (by kernel_rfl)) (fun _ _ _ h => h) (Or.inl ⟨by rfl, ?_⟩) ?_ ?_
                 rotate_left
                 next =>
                  intro w'
                  go_simp
                  with_reducible rfl
                 rotate_left
                 next =>
                  simp only [Act.put, yay, yby, ycy, zX, zY]
                  rfl
                 refine zf (i := 2) (N := some 76) (v := ?_) (a' := ?_) #[true, false, true, false, false, false, false, false, false, false, false, false, false, false, false, false, false, false, false, false, false, false] rfl rfl (zc HT_.out (by kernel_rfl)) (fun _ _ _ h => h) (Or.inl ⟨by rfl, ?_⟩) ?_ ?_
                 rotate_left
                 next =>
                  intro w'
                  go_simp
                  with_reducible rfl
                 rotate_left
                 next =>
                  simp only [Act.put, yay, yby, ycy, zX, zY]
                  rfl
                 refine zf (i := 6) (N := some 80) (v := ?_) (a' := ?_) #[true, false, true, false, false, false, true, false, false, false, false, false, false, false, false, false, false, false, false, false, false, false] rfl rfl (zc HT_.out (by kernel_rfl)) (fun _ _ _ h => h) (Or.inl ⟨by rfl, ?_⟩) ?_ ?_
                 rotate_left
                 next =>
                  intro w'
                  go_simp
                  with_reducible rfl
                 rotate_left
                 next =>
                  simp only [Act.put, yay, yby, ycy, zX, zY]
                  rfl
                 refine qw (i := 1) (N := some 75) (v := ?_) (a' := ?_) #[true, true, true, false, false, false, true, false, false, false, false, false, false, false, false, false, false, false, false, false, false, false] rfl rfl (qC HT_.out HW_.out (by kernel_rfl)) (fun _ _ _ h => h) (Or.inl ⟨by rfl, ?_⟩) hHeld ?_ ?_
                 rotate_left
                 next =>
                  rintro w' ⟨s0, s1, s2, s3, s4, s5, s6, s7⟩
                  go_simp
                  with_reducible rfl
                 rotate_left
                 next =>
                  simp only [Act.put, yay, yby, ycy, zX, zY]
                  rfl
                 refine qw (i := 3) (N := some 77) (v := ?_) (a' := ?_) #[true, true, true, true, false, false, true, false, false, false, false, false, false, false, false, false, false, false, false, false, false, false] rfl rfl (qC HT_.out HW_.out (by kernel_rfl)) (fun _ _ _ h => h) (Or.inl ⟨by rfl, ?_⟩) hHeld ?_ ?_
                 rotate_left
                 next =>
                  rintro w' ⟨s0, s1, s2, s3, s4, s5, s6, s7⟩
                  go_simp
                  with_reducible rfl
                 rotate_left
                 next =>
                  simp only [Act.put, yay, yby, ycy, zX, zY]
                  rfl
                 refine zf (i := 4) (N := some 78) (v := ?_) (a' := ?_) #[true, true, true, true, true, false, true, false, false, false, false, false, false, false, false, false, false, false, false, false, false, false] rfl rfl (zc HT_.out (by kernel_rfl)) (fun _ _ _ h => h) (Or.inl ⟨by rfl, ?_⟩) ?_ ?_
                 rotate_left
                 next =>
                  intro w'
                  go_simp
                  with_reducible rfl
                 rotate_left
                 next =>
                  simp only [Act.put, yay, yby, ycy, zX, zY]
                  rfl
                 refine qw (i := 5) (N := some 79) (v := ?_) (a' := ?_) #[true, true, true, true, true, true, true, false, false, false, false, false, false, false, false, false, false, false, false, false, false, false] rfl rfl (qC HT_.out HW_.out (by kernel_rfl)) (fun _ _ _ h => h) (Or.inl ⟨by rfl, ?_⟩) hHeld ?_ ?_
                 rotate_left
                 next =>
                  rintro w' ⟨s0, s1, s2, s3, s4, s5, s6, s7⟩
                  go_simp
                  with_reducible rfl
                 rotate_left
                 next =>
                  simp only [Act.put, yay, yby, ycy, zX, zY]
                  rfl
                 refine zf (i := 7) (N := some 81) (v := ?_) (a' := ?_) #[true, true, true, true, true, true, true, true, false, false, false, false, false, false, false, false, false, false, false, false, false, false] rfl rfl (zc HT_.out (by kernel_rfl)) (fun _ _ _ h => h) (Or.inl ⟨by rfl, ?_⟩) ?_ ?_
                 rotate_left
                 next =>
                  intro w'
                  go_simp
                  with_reducible rfl
                 rotate_left
                 next =>
                  simp only [Act.put, yay, yby, ycy, zX, zY]
                  rfl
                 refine qw (i := 8) (N := some 82) (v := ?_) (a' := ?_) #[true, true, true, true, true, true, true, true, true, false, false, false, false, false, false, false, false, false, false, false, false, false] rfl rfl (qC HT_.out HW_.out (by kernel_rfl)) (fun _ _ _ h => h) (Or.inl ⟨by rfl, ?_⟩) hHeld ?_ ?_
                 rotate_left
                 next =>
                  rintro w' ⟨s0, s1, s2, s3, s4, s5, s6, s7⟩
                  go_simp
                  with_reducible rfl
                 rotate_left
                 next =>
                  simp only [Act.put, yay, yby, ycy, zX, zY]
                  rfl
                 refine qw (i := 9) (N := some 83) (v := ?_) (a' := ?_) #[true, true, true, true, true, true, true, true, true, true, false, false, false, false, false, false, false, false, false, false, false, false] rfl rfl (qC HT_.out HW_.out (by kernel_rfl)) (fun _ _ _ h => h) (Or.inl ⟨by rfl, ?_⟩) hHeld ?_ ?_
                 rotate_left
                 next =>
                  rintro w' ⟨s0, s1, s2, s3, s4, s5, s6, s7⟩
                  go_simp
                  with_reducible rfl
                 rotate_left
                 next =>
                  simp only [Act.put, yay, yby, ycy, zX, zY]
                  rfl
                 refine zf (i := 10) (N := some 84) (v := ?_) (a' := ?_) #[true, true, true, true, true, true, true, true, true, true, true, false, false, false, false, false, false, false, false, false, false, false] rfl rfl (zc HT_.out (by kernel_rfl)) (fun _ _ _ h => h) (Or.inl ⟨by rfl, ?_⟩) ?_ ?_
                 rotate_left
                 next =>
                  intro w'
                  go_simp
                  with_reducible rfl
                 rotate_left
                 next =>
                  simp only [Act.put, yay, yby, ycy, zX, zY]
                  rfl
                 refine zf (i := 11) (N := some 85) (v := ?_) (a' := ?_) #[true, true, true, true, true, true, true, true, true, true, true, true, false, false, false, false, false, false, false, false, false, false] rfl rfl (zc HT_.out (by kernel_rfl)) (fun _ _ _ h => h) (Or.inl ⟨by rfl, ?_⟩) ?_ ?_
                 rotate_left
                 next =>
                  intro w'
                  go_simp
                  with_reducible rfl
                 rotate_left
                 next =>
                  simp only [Act.put, yay, yby, ycy, zX, zY]
                  rfl
                 refine zf (i := 12) (N := some 86) (v := ?_) (a' := ?_) #[true, true, true, true, true, true, true, true, true, true, true, true, true, false, false, false, false, false, false, false, false, false] rfl rfl (zc HT_.out (by kernel_rfl)) (fun _ _ _ h => h) (Or.inl ⟨by rfl, ?_⟩) ?_ ?_
                 rotate_left
                 next =>
                  intro w'
                  go_simp
                  with_reducible rfl
                 rotate_left
                 next =>
                  simp only [Act.put, yay, yby, ycy, zX, zY]
                  rfl
                 refine zf (i := 14) (N := some 88) (v := ?_) (a' := ?_) #[true, true, true, true, true, true, true, true, true, true, true, true, true, false, true, false, false, false, false, false, false, false] rfl rfl (zc HT_.out (by kernel_rfl)) (fun _ _ _ h => h) (Or.inl ⟨by rfl, ?_⟩) ?_ ?_
                 rotate_left
                 next =>
                  intro w'
                  go_simp
                  with_reducible rfl
                 rotate_left
                 next =>
                  simp only [Act.put, yay, yby, ycy, zX, zY]
                  rfl
                 refine qw (i := 13) (N := some 87) (v := ?_) (a' := ?_) #[true, true, true, true, true, true, true, true, true, true, true, true, true, true, true, false, false, false, false, false, false, false] rfl rfl (qC HT_.out HW_.out (by kernel_rfl)) (fun _ _ _ h => h) (Or.inl ⟨by rfl, ?_⟩) hHeld ?_ ?_
                 rotate_left
                 next =>
                  rintro w' ⟨s0, s1, s2, s3, s4, s5, s6, s7⟩
                  go_simp
                  with_reducible rfl
                 rotate_left
                 next =>
                  simp only [Act.put, yay, yby, ycy, zX, zY]
                  rfl
                 refine zf (i := 15) (N := some 89) (v := ?_) (a' := ?_) #[true, true, true, true, true, true, true, true, true, true, true, true, true, true, true, true, false, false, false, false, false, false] rfl rfl (zc HT_.out (by kernel_rfl)) (fun _ _ _ h => h) (Or.inl ⟨by rfl, ?_⟩) ?_ ?_
                 rotate_left
                 next =>
                  intro w'
                  go_simp
                  with_reducible rfl
                 rotate_left
                 next =>
                  simp only [Act.put, yay, yby, ycy, zX, zY]
                  rfl
                 refine zf (i := 16) (N := some 90) (v := ?_) (a' := ?_) #[true, true, true, true, true, true, true, true, true, true, true, true, true, true, true, true, true, false, false, false, false, false] rfl rfl (zc HT_.out (by kernel_rfl)) (fun _ _ _ h => h) (Or.inl ⟨by rfl, ?_⟩) ?_ ?_
                 rotate_left
                 next =>
                  intro w'
                  go_simp
                  with_reducible rfl
                 rotate_left
                 next =>
                  simp only [Act.put, yay, yby, ycy, zX, zY]
                  rfl
                 refine zf (i := 17) (N := some 91) (v := ?_) (a' := ?_) #[true, true, true, true, true, true, true, true, true, true, true, true, true, true, true, true, true, true, false, false, false, false] rfl rfl (zc HT_.out (by kernel_rfl)) (fun _ _ _ h => h) (Or.inl ⟨by rfl, ?_⟩) ?_ ?_
                 rotate_left
                 next =>
                  intro w'
                  go_simp
                  with_reducible rfl
                 rotate_left
                 next =>
                  simp only [Act.put, yay, yby, ycy, zX, zY]
                  rfl
                 refine zf (i := 18) (N := some 92) (v := ?_) (a' := ?_) #[true, true, true, true, true, true, true, true, true, true, true, true, true, true, true, true, true, true, true, false, false, false] rfl rfl (zc HT_.out (by kernel_rfl)) (fun _ _ _ h => h) (Or.inl ⟨by rfl, ?_⟩) ?_ ?_
                 rotate_left
                 next =>
                  intro w'
                  go_simp
                  with_reducible rfl
                 rotate_left
                 next =>
                  simp only [Act.put, yay, yby, ycy, zX, zY]
                  rfl
                 refine zf (i := 19) (N := some 93) (v := ?_) (a' := ?_) #[true, true, true, true, true, true, true, true, true, true, true, true, true, true, true, true, true, true, true, true, false, false] rfl rfl (zc HT_.out (by kernel_rfl)) (fun _ _ _ h => h) (Or.inl ⟨by rfl, ?_⟩) ?_ ?_
                 rotate_left
                 next =>
                  intro w'
                  go_simp
                  with_reducible rfl
                 rotate_left
                 next =>
                  simp only [Act.put, yay, yby, ycy, zX, zY]
                  rfl
                 refine zf (i := 20) (N := some 94) (v := ?_) (a' := ?_) #[true, true, true, true, true, true, true, true, true, true, true, true, true, true, true, true, true, true, true, true, true, false] rfl rfl (zc HT_.out (by kernel_rfl)) (fun _ _ _ h => h) (Or.inl ⟨by rfl, ?_⟩) ?_ ?_
                 rotate_left
                 next =>
                  intro w'
                  go_simp
                  with_reducible rfl
                 rotate_left
                 next =>
                  simp only [Act.put, yay, yby, ycy, zX, zY]
                  rfl
                 refine zf (i := 21) (N := some 95) (v := ?_) (a' := ?_) #[true, true, true, true, true, true, true, true, true, true, true, true, true, true, true, true, true, true, true, true, true, true] rfl rfl (zc HT_.out (by kernel_rfl)) (fun _ _ _ h => h) (Or.inl ⟨by rfl, ?_⟩) ?_ ?_
                 rotate_left
                 next =>
                  intro w'
                  go_simp
                  with_reducible rfl
                 rotate_left
                 next =>
                  simp only [Act.put, yay, yby, ycy, zX, zY]
                  rfl
                 refine Qu (Zs HT_.out (by kernel_rfl)) ?_
                 try go_wp2
                 go_roundg kj35
                 case measure => have := HK1.out; have := HK2.out; have := HK3.out; have := HJ24.out; have := HJ35.out; omega
                 case rel => exact ⟨(wrap64 (x5_3 + 1)), (by first | rfl | (simp; done) | (simp [*]; done)), H', ⟨by have := HK1.out; have := HK2.out; have := HK3.out; have := HJ24.out; have := HJ35.out; omega⟩, ⟨by (with_reducible repeat (first | refine zH ?_ _ | refine zJ ?_ | refine zG ?_ _)); exact BK101.out⟩, ⟨by repeat (first | (with_reducible first | exact HB.out | apply zC | apply zB | apply zD | refine zF ?_ GE101.out | refine zF ?_ GE107.out | refine zF ?_ GE113.out) | exact HB.out)⟩⟩
end
def qj.f (a0 : Int) : Option (Int × Int) := (some (([0, 0, 0, 1, 1, 2] : List Int) : List Int)).bind fun y101 => (if 0 ≤ a0 then (if a0 < (y101.length : Int) then ((some (([1, 2, 3, 2, 3, 3] : List Int) : List Int)).bind fun y105 => (if a0 < (y105.length : Int) then (some (rd y101 a0, rd y105 a0)) else (none))) else (none)) else (none))
def qj.T1 : Bool × List (List Nat × List Nat) := (true, [([], []), ([], []), ([0, 1], [0, 1]), ([2], [2]), ([], []), ([], []), ([4, 5], [4, 5]), ([6], [6]), ([3, 0, 1, 2, 3], [3]), ([7, 8, 0, 1, 2, 3, 4, 5, 6, 7, 8], [7])])
def qj.B1 : List Nat := [0, 0, 3, 7, 0, 0, 48, 112, 15, 511]
theorem qj.tab1 : Qv .any (opsOf Try.f115 1) = qj.T1 := by kernel_rfl
theorem qj.bits1 : Zj qj.T1.2 qj.B1 = true := by kernel_rfl
set_option maxHeartbeats 8000000 in
set_option maxRecDepth 100000 in
theorem qj.calls (a0 : Int) (r1 : Int) (r2 : Int) (w : World) (h : qj.f a0 = some (r1, r2)) :
 Calls Try.prog 115 #[.int .i64 a0] w fun e w' => e = .returned (.tuple #[.int .i64 r1, .int .i64 r2]) ∧ Below w.heap.size w w' := by
 have HB := zA.mk (yry w.heap.size w)
 have H : ((some (([0, 0, 0, 1, 1, 2] : List Int) : List Int)).bind fun y101 => (if 0 ≤ a0 then (if a0 < (y101.length : Int) then ((some (([1, 2, 3, 2, 3, 3] : List Int) : List Int)).bind fun y105 => (if a0 < (y105.length : Int) then (some (rd y101 a0, rd y105 a0)) else (none))) else (none)) else (none))) = some (r1, r2) := h
 clear h
 obtain ⟨y101, hy101⟩ : ∃ y_ : List Int, y_ = (([0, 0, 0, 1, 1, 2] : List Int)) := ⟨_, rfl⟩
 replace H : (if 0 ≤ a0 then (if a0 < (y101.length : Int) then ((some (([1, 2, 3, 2, 3, 3] : List Int) : List Int)).bind fun y105 => (if a0 < (y105.length : Int) then (some (rd y101 a0, rd y105 a0)) else (none))) else (none)) else (none)) = some (r1, r2) := by first | (rw [hy101]; with_reducible exact H) | (have H2_ := (yfy _ _).symm.trans H; rw [hy101]; with_reducible exact H2_) | (have H2_ := (yfy _ _).symm.trans H; with_reducible exact H2_) | with_reducible exact H | (rw [hy101]; exact H) | exact H
 have Ny101 := zA.mk hy101
 clear hy101
 by_cases c2 : 0 ≤ a0
 rotate_left
 next =>
  rw [if_neg c2] at H
  exact absurd H (by simp)
 rw [if_pos c2] at H
 have c2b0 : decide (0 ≤ a0) = true := ygy c2
 clear c2
 by_cases c3 : a0 < (y101.length : Int)
 rotate_left
 next =>
  rw [if_neg c3] at H
  exact absurd H (by simp)
 rw [if_pos c3] at H
 have c3b0 : decide (a0 < (y101.length : Int)) = true := ygy c3
 clear c3
 obtain ⟨y105, hy105⟩ : ∃ y_ : List Int, y_ = (([1, 2, 3, 2, 3, 3] : List Int)) := ⟨_, rfl⟩
 replace H : (if a0 < (y105.length : Int) then (some (rd y101 a0, rd y105 a0)) else (none)) = some (r1, r2) := by first | (rw [hy105]; with_reducible exact H) | (have H2_ := (yfy _ _).symm.trans H; rw [hy105]; with_reducible exact H2_) | (have H2_ := (yfy _ _).symm.trans H; with_reducible exact H2_) | with_reducible exact H | (rw [hy105]; exact H) | exact H
 have Ny105 := zA.mk hy105
 clear hy105
 by_cases c4 : a0 < (y105.length : Int)
 rotate_left
 next =>
  rw [if_neg c4] at H
  exact absurd H (by simp)
 rw [if_pos c4] at H
 have c4b0 : decide (a0 < (y105.length : Int)) = true := ygy c4
 clear c4
 simp only [Option.some.injEq, Prod.mk.injEq] at H
 obtain ⟨rfl, rfl⟩ := H
 go_enter Try.func115, Try.ntmps115
 try go_wp2
 have pi104 : (0 ≤ (a0 : Int)) = True := eq_true (of_decide_eq_true (by first | (with_reducible assumption) | assumption))
 have qi104 : (a0 < (y101.length : Int)) = True := eq_true (of_decide_eq_true (by first | (with_reducible assumption) | assumption))
 have pi108 : (0 ≤ (a0 : Int)) = True := eq_true (of_decide_eq_true (by first | (with_reducible assumption) | assumption))
 have qi108 : (a0 < (y105.length : Int)) = True := eq_true (of_decide_eq_true (by first | (with_reducible assumption) | assumption))
 have n0_ := zA.mk (zD HB.out)
 clear HB
 have HB := n0_
 clear n0_
 refine Zy (n := 10) (S := fun w' => True) (ds := []) #[false, false, false, false, false, false, false, false, false, false] (by kernel_rfl) rfl rfl trivial (fun hHeld => ?_); refine ZF qj.tab1 qj.bits1 (fun HT_ HW_ => ?_)
 generalize w.drew = w5 at HB hHeld ⊢
 refine zf (i := 1) (N := some 5) (v := ?_) (a' := ?_) #[false, true, false, false, false, false, false, false, false, false] rfl rfl (zc HT_.out (by kernel_rfl)) (fun _ _ _ h => h) (Or.inl ⟨by rfl, ?_⟩) ?_ ?_
 rotate_left
 next =>
  intro w'
  go_simp
  with_reducible rfl
 rotate_left
 next =>
  simp only [Act.put, yay, yby, ycy, zX, zY]
  rfl
 refine zf (i := 5) (N := some 9) (v := ?_) (a' := ?_) #[false, true, false, false, false, true, false, false, false, false] rfl rfl (zc HT_.out (by kernel_rfl)) (fun _ _ _ h => h) (Or.inl ⟨by rfl, ?_⟩) ?_ ?_
 rotate_left
 next =>
  intro w'
  go_simp
  with_reducible rfl
 rotate_left
 next =>
  simp only [Act.put, yay, yby, ycy, zX, zY]
  rfl
 refine inv_at [0, 2, 3, 4, 6, 7, 8, 9] (fun a0_ b a w' => ∃ (v102 : Value) (adz_v102 : Addr) (v106 : Value) (adz_v106 : Addr) (m2_ : Value) (m6_ : Value), a = QH a0_ b [(0, 4, v102), (2, 6, m2_), (3, 7, .int .i64 (rd y101 a0)), (4, 8, v106), (6, 10, m6_), (7, 11, .int .i64 (rd y105 a0)), (8, 2, .int .i64 (rd y101 a0)), (9, 3, .int .i64 (rd y105 a0))] ∧ (Below w.heap.size w w') ∧ (b 0 = true → Kd.R (Kd.int .i64) 2 w' w.heap.size (fun _ => True) v102 y101) ∧ (b 0 = true → ∃ c_, (v102 : Value) = .slice (some adz_v102) y101.length c_) ∧ (b 4 = true → Kd.R (Kd.int .i64) 2 w' w.heap.size (fun _ => True) v106 y105) ∧ (b 4 = true → ∃ c_, (v106 : Value) = .slice (some adz_v106) y105.length c_) ∧ (b 2 = true → (m2_ : Value) = .pointer (some (adz_v102.add (a0).toNat))) ∧ (b 6 = true → (m6_ : Value) = .pointer (some (adz_v106.add (a0).toNat)))) HT_.out HW_.out (by kernel_rfl) (by kernel_rfl) ?_ ?_ ?_
 next =>
  exact ⟨.bool false, ⟨0, 0, none⟩, .bool false, ⟨0, 0, none⟩, .bool false, .bool false, by simp only [QH, Bool.false_eq_true, if_false], HB.out, fun h_ => absurd h_ (by decide), fun h_ => absurd h_ (by decide), fun h_ => absurd h_ (by decide), fun h_ => absurd h_ (by decide), fun h_ => absurd h_ (by decide), fun h_ => absurd h_ (by decide)⟩
 next =>
  skip
  clear HB
  refine QP ?_ ?_
  next =>
   rintro b a w' ⟨v102, adz_v102, v106, adz_v106, m2_, m6_, ha, Q_HB, Q_HO103, Q_HA_HO103, Q_HO107, Q_HA_HO107, Q_X2_, Q_X6_⟩ hb_ hon hoff
   refine ⟨_, rfl, fun K hK => ?_⟩
   replace ha := zA.mk ha
   have HB := zA.mk Q_HB
   refine Kd.Jf (Kd.int .i64) _ 2 ?hg (N := 4) ?hd (xs := ([0, 0, 0, 1, 1, 2] : List Int)) (inner := [.int .i64 0, .int .i64 0, .int .i64 0, .int .i64 1, .int .i64 1, .int .i64 2]) (ok := fun _ => True) (okp := fun _ => True) ?hr ?hp (fun _ hk => hk) trivial (yry _ _) (yqy _) (by simp) ?_; (case hd => rfl); (case hg => rfl); (case hr => first | (go_simp; done) | (go_simp; rfl)); (case hp => exact (Zr.one (show Kd.M (Kd.int .i64) _ _ _ 0 [.int .i64 0] from rfl) (Zr.one (show Kd.M (Kd.int .i64) _ _ _ 0 [.int .i64 0] from rfl) (Zr.one (show Kd.M (Kd.int .i64) _ _ _ 0 [.int .i64 0] from rfl) (Zr.one (show Kd.M (Kd.int .i64) _ _ _ 1 [.int .i64 1] from rfl) (Zr.one (show Kd.M (Kd.int .i64) _ _ _ 1 [.int .i64 1] from rfl) (Zr.one (show Kd.M (Kd.int .i64) _ _ _ 2 [.int .i64 2] from rfl) (Zr.none _ _))))))))
   intro v102 w6 ho7 hb hg_ hnew_
   clear hg_ hnew_
   (first | rw [← Ny101.out] at ho7 | (simp only [Int.reduceToNat] at ho7; rw [← Ny101.out] at ho7))
   have n0_ := zA.mk (Kd.ZE ho7 (zO (by repeat (first | (with_reducible first | exact HB.out | apply zC | apply zB | apply zD) | exact HB.out))))
   have n1_ := zA.mk (zN (by repeat (first | (with_reducible first | exact HB.out | apply zC | apply zB | apply zD) | exact HB.out)) hb)
   have z_HO107 := fun (h0_ : b 4 = true) => (show Kd.R (Kd.int .i64) 2 w6 w.heap.size (fun _ => True) v106 y105 from by first | exact (Kd.ZV (by (with_reducible repeat (first | apply Kd.zR | apply Kd.zS | apply Kd.zU)); exact (Q_HO107 h0_)) (Kd.Zd ho7) hb) | exact Kd.zo (Kd.ZV (by (with_reducible repeat (first | apply Kd.zR | apply Kd.zS | apply Kd.zU)); exact (Q_HO107 h0_)) (Kd.Zd ho7) hb) (fun _ h_ => by first | trivial | exact h_ | exact h_.1))
   clear HB
   have HO103 := n0_
   have HB := n1_
   clear n0_ n1_
   clear hb ho7
   obtain ⟨Ao8, co8, eo8⟩ := Kd.ZA HO103.out
   subst eo8
   obtain ⟨ado8, fo8, _⟩ := Kd.ZN (Kd.zp HO103.out).2.2 0 (by decide) (by rw [Ny101.out]; simp)
   cases fo8
   refine hK.out _ _ ⟨.slice (some ado8) y101.length co8, ado8, v106, adz_v106, m2_, m6_, (by rw [ha.out]; exact QQ 0 hb_ rfl rfl rfl), (by repeat (first | (with_reducible first | exact HB.out | apply zC | apply zB | apply zD) | exact HB.out)), fun _ => (by (with_reducible repeat (first | apply Kd.zR | apply Kd.zS | apply Kd.zU)); exact HO103.out), fun _ => ⟨_, rfl⟩, z_HO107, Q_HA_HO107, fun h0_ => absurd ((hoff 2 (by kernel_rfl)).symm.trans h0_) (by decide), Q_X6_⟩
  refine QP ?_ ?_
  next =>
   rintro b a w' ⟨v102, adz_v102, v106, adz_v106, m2_, m6_, ha, Q_HB, Q_HO103, Q_HA_HO103, Q_HO107, Q_HA_HO107, Q_X2_, Q_X6_⟩ hb_ hon hoff
   refine ⟨_, rfl, fun K hK => ?_⟩
   have e4 : a.tmps[4]? = some (v102) := by rw [ha]; exact Qr (e := (0, 4, v102)) 0 rfl rfl (hon 0 (by kernel_rfl)) rfl
   have e5 : a.tmps[5]? = some (.int .i64 a0) := by rw [ha]; exact (JF rfl).trans rfl
   replace ha := zA.mk ha
   have HB := zA.mk Q_HB
   have HO103 := zA.mk (Q_HO103 (hon 0 (by kernel_rfl)))
   have HA_HO103 := zA.mk (Q_HA_HO103 (hon 0 (by kernel_rfl)))
   obtain ⟨c_, hv_⟩ := HA_HO103.out
   rw [hv_] at e4
   refine zB9 (w1 := w') (v := .pointer (some (adz_v102.add (a0).toNat))) (by rfl) rfl ?_ ?_
   next =>
    go_simp
    (try simp only [zX])
    try rfl
   refine hK.out _ _ ⟨v102, adz_v102, v106, adz_v106, (.pointer (some (adz_v102.add (a0).toNat))), m6_, (by rw [ha.out]; exact QQ 1 hb_ rfl rfl rfl), Q_HB, Q_HO103, Q_HA_HO103, Q_HO107, Q_HA_HO107, fun _ => rfl, Q_X6_⟩
  refine QP ?_ ?_
  next =>
   rintro b a w' ⟨v102, adz_v102, v106, adz_v106, m2_, m6_, ha, Q_HB, Q_HO103, Q_HA_HO103, Q_HO107, Q_HA_HO107, Q_X2_, Q_X6_⟩ hb_ hon hoff
   refine ⟨_, rfl, fun K hK => ?_⟩
   have e6 : a.tmps[6]? = some (m2_) := by rw [ha]; exact Qr (e := (2, 6, m2_)) 1 rfl rfl (hon 2 (by kernel_rfl)) rfl
   rw [Q_X2_ (hon 2 (by kernel_rfl))] at e6
   replace ha := zA.mk ha
   have HB := zA.mk Q_HB
   have HO103 := zA.mk (Q_HO103 (hon 0 (by kernel_rfl)))
   have HA_HO103 := zA.mk (Q_HA_HO103 (hon 0 (by kernel_rfl)))
   obtain ⟨c_, hv_⟩ := HA_HO103.out
   have hF_ := HO103.out
   rw [hv_] at hF_
   obtain ⟨ad_, ea_, hx_⟩ := Kd.ZN (Kd.zp hF_).2.2 a0 (of_eq_true pi104) (of_eq_true qi104)
   cases ea_
   refine zB9 (w1 := w') (v := .int .i64 (rd y101 a0)) (by rfl) rfl ?_ ?_
   next =>
    go_simp
    (try simp only [zX])
    try rfl
   refine hK.out _ _ ⟨v102, adz_v102, v106, adz_v106, m2_, m6_, (by rw [ha.out]; exact QQ 2 hb_ rfl rfl rfl), Q_HB, Q_HO103, Q_HA_HO103, Q_HO107, Q_HA_HO107, Q_X2_, Q_X6_⟩
  refine QP ?_ ?_
  next =>
   rintro b a w' ⟨v102, adz_v102, v106, adz_v106, m2_, m6_, ha, Q_HB, Q_HO103, Q_HA_HO103, Q_HO107, Q_HA_HO107, Q_X2_, Q_X6_⟩ hb_ hon hoff
   refine ⟨_, rfl, fun K hK => ?_⟩
   replace ha := zA.mk ha
   have HB := zA.mk Q_HB
   refine Kd.Jf (Kd.int .i64) _ 2 ?hg (N := 8) ?hd (xs := ([1, 2, 3, 2, 3, 3] : List Int)) (inner := [.int .i64 1, .int .i64 2, .int .i64 3, .int .i64 2, .int .i64 3, .int .i64 3]) (ok := fun _ => True) (okp := fun _ => True) ?hr ?hp (fun _ hk => hk) trivial (yry _ _) (yqy _) (by simp) ?_; (case hd => rfl); (case hg => rfl); (case hr => first | (go_simp; done) | (go_simp; rfl)); (case hp => exact (Zr.one (show Kd.M (Kd.int .i64) _ _ _ 1 [.int .i64 1] from rfl) (Zr.one (show Kd.M (Kd.int .i64) _ _ _ 2 [.int .i64 2] from rfl) (Zr.one (show Kd.M (Kd.int .i64) _ _ _ 3 [.int .i64 3] from rfl) (Zr.one (show Kd.M (Kd.int .i64) _ _ _ 2 [.int .i64 2] from rfl) (Zr.one (show Kd.M (Kd.int .i64) _ _ _ 3 [.int .i64 3] from rfl) (Zr.one (show Kd.M (Kd.int .i64) _ _ _ 3 [.int .i64 3] from rfl) (Zr.none _ _))))))))
   intro v106 w6 ho7 hb hg_ hnew_
   clear hg_ hnew_
   (first | rw [← Ny105.out] at ho7 | (simp only [Int.reduceToNat] at ho7; rw [← Ny105.out] at ho7))
   have n0_ := zA.mk (Kd.ZE ho7 (zO (by repeat (first | (with_reducible first | exact HB.out | apply zC | apply zB | apply zD) | exact HB.out))))
   have n1_ := zA.mk (zN (by repeat (first | (with_reducible first | exact HB.out | apply zC | apply zB | apply zD) | exact HB.out)) hb)
   have z_HO103 := fun (h0_ : b 0 = true) => (show Kd.R (Kd.int .i64) 2 w6 w.heap.size (fun _ => True) v102 y101 from by first | exact (Kd.ZV (by (with_reducible repeat (first | apply Kd.zR | apply Kd.zS | apply Kd.zU)); exact (Q_HO103 h0_)) (Kd.Zd ho7) hb) | exact Kd.zo (Kd.ZV (by (with_reducible repeat (first | apply Kd.zR | apply Kd.zS | apply Kd.zU)); exact (Q_HO103 h0_)) (Kd.Zd ho7) hb) (fun _ h_ => by first | trivial | exact h_ | exact h_.1))
   clear HB
   have HO107 := n0_
   have HB := n1_
   clear n0_ n1_
   clear hb ho7
   obtain ⟨Ao8, co8, eo8⟩ := Kd.ZA HO107.out
   subst eo8
   obtain ⟨ado8, fo8, _⟩ := Kd.ZN (Kd.zp HO107.out).2.2 0 (by decide) (by rw [Ny105.out]; simp)
   cases fo8
   refine hK.out _ _ ⟨v102, adz_v102, .slice (some ado8) y105.length co8, ado8, m2_, m6_, (by rw [ha.out]; exact QQ 3 hb_ rfl rfl rfl), (by repeat (first | (with_reducible first | exact HB.out | apply zC | apply zB | apply zD) | exact HB.out)), z_HO103, Q_HA_HO103, fun _ => (by (with_reducible repeat (first | apply Kd.zR | apply Kd.zS | apply Kd.zU)); exact HO107.out), fun _ => ⟨_, rfl⟩, Q_X2_, fun h0_ => absurd ((hoff 6 (by kernel_rfl)).symm.trans h0_) (by decide)⟩
  refine QP ?_ ?_
  next =>
   rintro b a w' ⟨v102, adz_v102, v106, adz_v106, m2_, m6_, ha, Q_HB, Q_HO103, Q_HA_HO103, Q_HO107, Q_HA_HO107, Q_X2_, Q_X6_⟩ hb_ hon hoff
   refine ⟨_, rfl, fun K hK => ?_⟩
   have e8 : a.tmps[8]? = some (v106) := by rw [ha]; exact Qr (e := (4, 8, v106)) 3 rfl rfl (hon 4 (by kernel_rfl)) rfl
   have e9 : a.tmps[9]? = some (.int .i64 a0) := by rw [ha]; exact (JF rfl).trans rfl
   replace ha := zA.mk ha
   have HB := zA.mk Q_HB
   have HO107 := zA.mk (Q_HO107 (hon 4 (by kernel_rfl)))
   have HA_HO107 := zA.mk (Q_HA_HO107 (hon 4 (by kernel_rfl)))
   obtain ⟨c_, hv_⟩ := HA_HO107.out
   rw [hv_] at e8
   refine zB9 (w1 := w') (v := .pointer (some (adz_v106.add (a0).toNat))) (by rfl) rfl ?_ ?_
   next =>
    go_simp
    (try simp only [zX])
    try rfl
   refine hK.out _ _ ⟨v102, adz_v102, v106, adz_v106, m2_, (.pointer (some (adz_v106.add (a0).toNat))), (by rw [ha.out]; exact QQ 4 hb_ rfl rfl rfl), Q_HB, Q_HO103, Q_HA_HO103, Q_HO107, Q_HA_HO107, Q_X2_, fun _ => rfl⟩
  refine QP ?_ ?_
  next =>
   rintro b a w' ⟨v102, adz_v102, v106, adz_v106, m2_, m6_, ha, Q_HB, Q_HO103, Q_HA_HO103, Q_HO107, Q_HA_HO107, Q_X2_, Q_X6_⟩ hb_ hon hoff
   refine ⟨_, rfl, fun K hK => ?_⟩
   have e10 : a.tmps[10]? = some (m6_) := by rw [ha]; exact Qr (e := (6, 10, m6_)) 4 rfl rfl (hon 6 (by kernel_rfl)) rfl
   rw [Q_X6_ (hon 6 (by kernel_rfl))] at e10
   replace ha := zA.mk ha
   have HB := zA.mk Q_HB
   have HO107 := zA.mk (Q_HO107 (hon 4 (by kernel_rfl)))
   have HA_HO107 := zA.mk (Q_HA_HO107 (hon 4 (by kernel_rfl)))
   obtain ⟨c_, hv_⟩ := HA_HO107.out
   have hF_ := HO107.out
   rw [hv_] at hF_
   obtain ⟨ad_, ea_, hx_⟩ := Kd.ZN (Kd.zp hF_).2.2 a0 (of_eq_true pi108) (of_eq_true qi108)
   cases ea_
   refine zB9 (w1 := w') (v := .int .i64 (rd y105 a0)) (by rfl) rfl ?_ ?_
   next =>
    go_simp
    (try simp only [zX])
    try rfl
   refine hK.out _ _ ⟨v102, adz_v102, v106, adz_v106, m2_, m6_, (by rw [ha.out]; exact QQ 5 hb_ rfl rfl rfl), Q_HB, Q_HO103, Q_HA_HO103, Q_HO107, Q_HA_HO107, Q_X2_, Q_X6_⟩
  refine QP ?_ ?_
  next =>
   rintro b a w' ⟨v102, adz_v102, v106, adz_v106, m2_, m6_, ha, Q_HB, Q_HO103, Q_HA_HO103, Q_HO107, Q_HA_HO107, Q_X2_, Q_X6_⟩ hb_ hon hoff
   refine ⟨_, rfl, fun K hK => ?_⟩
   have e7 : a.tmps[7]? = some (.int .i64 (rd y101 a0)) := by rw [ha]; exact Qr (e := (3, 7, .int .i64 (rd y101 a0))) 2 rfl rfl (hon 3 (by kernel_rfl)) rfl
   replace ha := zA.mk ha
   have HB := zA.mk Q_HB
   have HO103 := zA.mk (Q_HO103 (hon 0 (by kernel_rfl)))
   have HA_HO103 := zA.mk (Q_HA_HO103 (hon 0 (by kernel_rfl)))
   refine zB9 (w1 := w') (v := .int .i64 (rd y101 a0)) (by rfl) rfl ?_ ?_
   next =>
    go_simp
    (try simp only [zX])
    try rfl
   refine hK.out _ _ ⟨v102, adz_v102, v106, adz_v106, m2_, m6_, (by rw [ha.out]; exact QQ 6 hb_ rfl rfl rfl), Q_HB, Q_HO103, Q_HA_HO103, Q_HO107, Q_HA_HO107, Q_X2_, Q_X6_⟩
  refine QP ?_ ?_
  next =>
   rintro b a w' ⟨v102, adz_v102, v106, adz_v106, m2_, m6_, ha, Q_HB, Q_HO103, Q_HA_HO103, Q_HO107, Q_HA_HO107, Q_X2_, Q_X6_⟩ hb_ hon hoff
   refine ⟨_, rfl, fun K hK => ?_⟩
   have e11 : a.tmps[11]? = some (.int .i64 (rd y105 a0)) := by rw [ha]; exact Qr (e := (7, 11, .int .i64 (rd y105 a0))) 5 rfl rfl (hon 7 (by kernel_rfl)) rfl
   replace ha := zA.mk ha
   have HB := zA.mk Q_HB
   have HO103 := zA.mk (Q_HO103 (hon 0 (by kernel_rfl)))
   have HA_HO103 := zA.mk (Q_HA_HO103 (hon 0 (by kernel_rfl)))
   have HO107 := zA.mk (Q_HO107 (hon 4 (by kernel_rfl)))
   have HA_HO107 := zA.mk (Q_HA_HO107 (hon 4 (by kernel_rfl)))
   refine zB9 (w1 := w') (v := .int .i64 (rd y105 a0)) (by rfl) rfl ?_ ?_
   next =>
    go_simp
    (try simp only [zX])
    try rfl
   refine hK.out _ _ ⟨v102, adz_v102, v106, adz_v106, m2_, m6_, (by rw [ha.out]; exact QQ 7 hb_ rfl rfl rfl), Q_HB, Q_HO103, Q_HA_HO103, Q_HO107, Q_HA_HO107, Q_X2_, Q_X6_⟩
  exact zEM
 rintro b a w12 hall ⟨v102, adz_v102, v106, adz_v106, m2_, m6_, ha, Q_HB, Q_HO103, Q_HA_HO103, Q_HO107, Q_HA_HO107, Q_X2_, Q_X6_⟩
 clear HB
 have hb0_ := hall 0 (by kernel_rfl)
 have hb2_ := hall 2 (by kernel_rfl)
 have hb3_ := hall 3 (by kernel_rfl)
 have hb4_ := hall 4 (by kernel_rfl)
 have hb6_ := hall 6 (by kernel_rfl)
 have hb7_ := hall 7 (by kernel_rfl)
 have hb8_ := hall 8 (by kernel_rfl)
 have hb9_ := hall 9 (by kernel_rfl)
 subst ha
 obtain rfl := Q_X2_ hb2_
 obtain rfl := Q_X6_ hb6_
 simp only [QH, hb0_, hb2_, hb3_, hb4_, hb6_, hb7_, hb8_, hb9_, if_true, Act.put, yay, yby, ycy]
 have HB := zA.mk Q_HB
 clear Q_HB
 have HO103 := zA.mk (Q_HO103 hb0_)
 clear Q_HO103
 have HA_HO103 := zA.mk (Q_HA_HO103 hb0_)
 clear Q_HA_HO103
 have HO107 := zA.mk (Q_HO107 hb4_)
 clear Q_HO107
 have HA_HO107 := zA.mk (Q_HA_HO107 hb4_)
 clear Q_HA_HO107
 clear hall hb0_ hb2_ hb3_ hb4_ hb6_ hb7_ hb8_ hb9_
 obtain ⟨co13, eo13⟩ := HA_HO103.out
 clear HA_HO103
 subst eo13
 obtain ⟨co14, eo14⟩ := HA_HO107.out
 clear HA_HO107
 subst eo14
 try go_wp2
 go_ret2
 exact ⟨by first | rfl | (simp [zZ, za] <;> rfl) | (simp [*, zZ, za] <;> rfl), by repeat (first | (with_reducible first | exact HB.out | apply zC | apply zB | apply zD) | exact HB.out)⟩
def zw.l0 : Nat → Int → Int → Int → Option (Int)
  | 0, _, _, _ => none
  | k + 1, x0, x1, x5 => if x5 < 6 then ((qj.f x5).bind fun bt101 => (if bt101.1 = (mn x0 x1) then (if bt101.2 = (mx x0 x1) then (some x5) else (zw.l0 k x0 x1 (wrap64 (x5 + 1)))) else (zw.l0 k x0 x1 (wrap64 (x5 + 1))))) else (some (-1))
def zw.f (k : Nat) (a0 : Int) (a1 : Int) : Option (Int) := zw.l0 k a0 a1 0
theorem zw.Jc : ∀ k, (∀ y0 y1 y2, LeO (zw.l0 k y0 y1 y2) (zw.l0 (k + 1) y0 y1 y2))
  | 0 => fun _ _ _ r h => by simp [zw.l0] at h
  | k + 1 => by
    have ih0 := zw.Jc k
    · intro y0 y1 y2
      unfold zw.l0
      repeat' first
      | (with_reducible exact ih0 _ _ _)
      | (with_reducible exact LeO.refl _)
      | (with_reducible exact LeO.none _)
      | (with_reducible refine LeO.ite ?_ ?_)
      | (with_reducible refine LeO.bind ?_ (fun _ => ?_))
      | exact ih0 _ _ _
      | exact LeO.none _
      | refine LeO.ite ?_ ?_
      | refine LeO.bind ?_ (fun _ => ?_)
theorem zw.mono : ∀ a0 a1 k, LeO (zw.f k a0 a1) (zw.f (k + 1) a0 a1) := by
  intro a0 a1 k
  have ih0 := zw.Jc k
  unfold zw.f
  repeat' first
      | (with_reducible exact ih0 _ _ _)
      | (with_reducible exact LeO.refl _)
      | (with_reducible exact LeO.none _)
      | (with_reducible refine LeO.ite ?_ ?_)
      | (with_reducible refine LeO.bind ?_ (fun _ => ?_))
      | exact ih0 _ _ _
      | exact LeO.none _
      | refine LeO.ite ?_ ?_
      | refine LeO.bind ?_ (fun _ => ?_)
set_option maxHeartbeats 8000000 in
set_option maxRecDepth 100000 in
theorem zw.calls (k : Nat) (a0 : Int) (a1 : Int) (r : Int) (w : World) (h : zw.f k a0 a1 = some r) :
    Calls Try.prog 116 #[.int .i64 a0, .int .i64 a1] w fun e w' => e = .returned (.int .i64 r) ∧ Below w.heap.size w w' := by
  have HB := zA.mk (yry w.heap.size w)
  have H : (zw.l0 k a0 a1 0) = some r := h
  clear h
  have H' := zA.mk H
  clear H
  go_enter Try.func116, Try.ntmps116
  go_wp2
  go_loopg [5] k (fun kq v5 w' => ∃ (x5_1 : Int), v5 = .int .i64 x5_1 ∧ zA (zw.l0 kq a0 a1 x5_1 = some r) ∧ zA (kq ≤ k) ∧ zA (Below w.heap.size w w'))
  case atStart => exact ⟨(0), (by first | rfl | (simp; done) | (simp [*]; done)), H', ⟨yqy _⟩, ⟨by repeat (first | (with_reducible first | exact HB.out | apply zC | apply zB | apply zD) | exact HB.out)⟩⟩
  case round =>
    clear H'
    try clear c1
    try clear p2
    obtain ⟨x5_1, rfl, HA, HK1, HB⟩ := hrel
    cases gk with
    | zero => exact absurd HA.out (by simp [zw.l0])
    | succ k1 =>
      have H := HA.out
      clear HA
      simp only [zw.l0] at H
      by_cases c3 : x5_1 < 6
      · rw [if_pos c3] at H
        have c3b0 : decide (x5_1 < 6) = true := ygy c3
        clear c3
        replace H := ydy.mp H
        obtain ⟨⟨t101, t102⟩, A40, H⟩ := H
        replace H : (if t101 = (mn a0 a1) then (if t102 = (mx a0 a1) then (some x5_1) else (zw.l0 k1 a0 a1 (wrap64 (x5_1 + 1)))) else (zw.l0 k1 a0 a1 (wrap64 (x5_1 + 1)))) = some r := H
        have A4 := zA.mk A40
        clear A40
        obtain ⟨ji5, hji5⟩ : ∃ j_ : Int, (mn a0 a1) = j_ := ⟨_, rfl⟩
        replace H : (if t101 = (ji5) then (if t102 = (mx a0 a1) then (some x5_1) else (zw.l0 k1 a0 a1 (wrap64 (x5_1 + 1)))) else (zw.l0 k1 a0 a1 (wrap64 (x5_1 + 1)))) = some r := by first | (rw [hji5] at H; exact H) | (simp only [hji5] at H ⊢; exact H)
        (try rw [hji5] at A4)
        have hji5_ : (if a1 < a0 then a1 else a0) = ji5 := hji5
        by_cases c6 : t101 = (ji5)
        · rw [if_pos c6] at H
          have c6b0 : (t101 == (ji5)) = true := beq_iff_eq.mpr c6
          have c6b1 : (t101 != (ji5)) = false := bne_eq_false_iff_eq.mpr c6
          clear c6
          obtain ⟨ji7, hji7⟩ : ∃ j_ : Int, (mx a0 a1) = j_ := ⟨_, rfl⟩
          replace H : (if t102 = (ji7) then (some x5_1) else (zw.l0 k1 a0 a1 (wrap64 (x5_1 + 1)))) = some r := by first | (rw [hji7] at H; exact H) | (simp only [hji7] at H ⊢; exact H)
          (try rw [hji7] at A4)
          have hji7_ : (if a0 < a1 then a1 else a0) = ji7 := hji7
          by_cases c8 : t102 = (ji7)
          · rw [if_pos c8] at H
            have c8b0 : (t102 == (ji7)) = true := beq_iff_eq.mpr c8
            have c8b1 : (t102 != (ji7)) = false := bne_eq_false_iff_eq.mpr c8
            clear c8
            obtain rfl := yey H
            go_wp2_with (first | ((with_reducible refine zb (f := 115) rfl ?_); refine qH (some 14) rfl rfl Try.func115 (by kernel_rfl) rfl #[.int .i64 x5_1] rfl (by (try simp only [yiy, yjy, yky]); first | done | rfl | (simp only [yly, ymy]; rfl)) ?_; (with_reducible refine (qj.calls x5_1 t101 t102 _ A4.out).mono ?_); rintro e w9 ⟨rfl, hb⟩; refine ⟨_, rfl, ?_⟩; have n0_ := zA.mk (zN (by repeat (first | (with_reducible first | exact HB.out | apply zC | apply zB | apply zD) | exact HB.out)) hb); clear HB; have HB := n0_; clear n0_; (try clear hb); (try clear hb2); (try clear hk); (try clear hi)))
            go_ret
            exact ⟨by first | rfl | (simp [zZ, za] <;> rfl) | (simp only [← hji5, ← hji7]; first | rfl | (simp [zZ, za] <;> rfl)) | (simp [*, zZ, za] <;> rfl), by repeat (first | (with_reducible first | exact HB.out | apply zC | apply zB | apply zD) | exact HB.out)⟩
          · rw [if_neg c8] at H
            have c8b0 : (t102 == (ji7)) = false := beq_eq_false_iff_ne.mpr c8
            have c8b1 : (t102 != (ji7)) = true := bne_iff_ne.mpr c8
            have H' := zA.mk H
            clear H
            go_wp2_with (first | ((with_reducible refine zb (f := 115) rfl ?_); refine qH (some 14) rfl rfl Try.func115 (by kernel_rfl) rfl #[.int .i64 x5_1] rfl (by (try simp only [yiy, yjy, yky]); first | done | rfl | (simp only [yly, ymy]; rfl)) ?_; (with_reducible refine (qj.calls x5_1 t101 t102 _ A4.out).mono ?_); rintro e w10 ⟨rfl, hb⟩; refine ⟨_, rfl, ?_⟩; have n0_ := zA.mk (zN (by repeat (first | (with_reducible first | exact HB.out | apply zC | apply zB | apply zD) | exact HB.out)) hb); clear HB; have HB := n0_; clear n0_; (try clear hb); (try clear hb2); (try clear hk); (try clear hi)))
            go_roundg k1
            case measure => have := HK1.out; omega
            case rel => exact ⟨(wrap64 (x5_1 + 1)), (by first | rfl | (simp; done) | (simp [*]; done)), H', ⟨by have := HK1.out; omega⟩, ⟨by repeat (first | (with_reducible first | exact HB.out | apply zC | apply zB | apply zD) | exact HB.out)⟩⟩
        · rw [if_neg c6] at H
          have c6b0 : (t101 == (ji5)) = false := beq_eq_false_iff_ne.mpr c6
          have c6b1 : (t101 != (ji5)) = true := bne_iff_ne.mpr c6
          have H' := zA.mk H
          clear H
          go_wp2_with (first | ((with_reducible refine zb (f := 115) rfl ?_); refine qH (some 14) rfl rfl Try.func115 (by kernel_rfl) rfl #[.int .i64 x5_1] rfl (by (try simp only [yiy, yjy, yky]); first | done | rfl | (simp only [yly, ymy]; rfl)) ?_; (with_reducible refine (qj.calls x5_1 t101 t102 _ A4.out).mono ?_); rintro e w11 ⟨rfl, hb⟩; refine ⟨_, rfl, ?_⟩; have n0_ := zA.mk (zN (by repeat (first | (with_reducible first | exact HB.out | apply zC | apply zB | apply zD) | exact HB.out)) hb); clear HB; have HB := n0_; clear n0_; (try clear hb); (try clear hb2); (try clear hk); (try clear hi)))
          go_roundg k1
          case measure => have := HK1.out; omega
          case rel => exact ⟨(wrap64 (x5_1 + 1)), (by first | rfl | (simp; done) | (simp [*]; done)), H', ⟨by have := HK1.out; omega⟩, ⟨by repeat (first | (with_reducible first | exact HB.out | apply zC | apply zB | apply zD) | exact HB.out)⟩⟩
      · rw [if_neg c3] at H
        have c3b0 : decide (x5_1 < 6) = false := yhy c3
        clear c3
        obtain rfl := yey H
        go_wp2
        go_ret
        exact ⟨by first | rfl | (simp [zZ, za] <;> rfl) | (simp [*, zZ, za] <;> rfl), by repeat (first | (with_reducible first | exact HB.out | apply zC | apply zB | apply zD) | exact HB.out)⟩
def zz.l0 : Nat → Int → List Int → Int → Option (List Int)
  | 0, _, _, _ => none
  | k + 1, x0, x3, x4 => if x4 < x0 then (if x3.length < 17592186044416 then (zz.l0 k x0 (x3 ++ [x4]) (wrap64 (x4 + 1))) else (none)) else (some x3)
def zz.f (k : Nat) (a0 : Int) : Option (List Int) := zz.l0 k a0 (([] : List Int)) 0
set_option maxHeartbeats 8000000 in
set_option maxRecDepth 100000 in
theorem zz.calls (k : Nat) (a0 : Int) (r : List Int) (w : World) (h : zz.f k a0 = some r) :
    Calls Try.prog 91 #[.int .i64 a0] w fun e w' => ∃ v0_ : Value, e = .returned (v0_) ∧ Kd.R (Kd.int .i64) 2 w' w.heap.size (fun _ => True) v0_ r ∧ Below w.heap.size w w' := by
  have HB := zA.mk (yry w.heap.size w)
  have H : (zz.l0 k a0 (([] : List Int)) 0) = some r := h
  clear h
  obtain ⟨y101, hy101⟩ : ∃ y_ : List Int, y_ = (([] : List Int)) := ⟨_, rfl⟩
  replace H : (zz.l0 k a0 y101 0) = some r := by first | (rw [hy101]; with_reducible exact H) | (have H2_ := (yfy _ _).symm.trans H; rw [hy101]; with_reducible exact H2_) | (have H2_ := (yfy _ _).symm.trans H; with_reducible exact H2_) | with_reducible exact H | (rw [hy101]; exact H) | exact H
  have Ny101 := zA.mk hy101
  clear hy101
  have H' := zA.mk H
  clear H
  go_enter Try.func91, Try.ntmps91
  go_wp2_with (first | ((with_reducible refine zq (N := 5) rfl ?_); refine Kd.zAy (Kd.int .i64) _ 2 ?hg (N := 5) ?hd (xs := ([] : List Int)) (inner := []) (ok := fun _ => True) (okp := fun _ => True) ?hr ?hp (fun _ hk => hk) trivial (yry _ _) (yqy _) (by simp) ?_; (case hd => rfl); (case hg => rfl); (case hr => first | (go_simp; done) | (go_simp; rfl)); (case hp => exact (Zr.none _ _)); intro v102 w2 ho3 hb hg_ hnew_; clear hg_ hnew_; (first | rw [← Ny101.out] at ho3 | (simp only [Int.reduceToNat] at ho3; rw [← Ny101.out] at ho3)); have n0_ := zA.mk (Kd.ZE ho3 (zO (by repeat (first | (with_reducible first | exact HB.out | apply zC | apply zB | apply zD) | exact HB.out)))); have n1_ := zA.mk (zN (by repeat (first | (with_reducible first | exact HB.out | apply zC | apply zB | apply zD) | exact HB.out)) hb); clear HB; have HO103 := n0_; have HB := n1_; clear n0_ n1_; clear hb ho3))
  go_loopg [3, 4] k (fun kq v3 v4 w' => ∃ (x3_1 : List Int) (x4_1 : Int), v4 = .int .i64 x4_1 ∧ zA (zz.l0 kq a0 x3_1 x4_1 = some r) ∧ zA (kq ≤ k) ∧ zA (Kd.R (Kd.int .i64) 2 w' w.heap.size (fun _ => True) v3 x3_1) ∧ zA (Below w.heap.size w w'))
  case atStart => exact ⟨(y101), (0), (by first | rfl | (simp; done) | (simp [*]; done)), H', ⟨yqy _⟩, ⟨by (with_reducible repeat (first | apply Kd.zR | apply Kd.zS | apply Kd.zU)); exact HO103.out⟩, ⟨by repeat (first | (with_reducible first | exact HB.out | apply zC | apply zB | apply zD) | exact HB.out)⟩⟩
  case round =>
    clear H'
    try clear p2
    obtain ⟨x3_1, x4_1, rfl, HA, HK1, HO_3, HB⟩ := hrel
    cases gk with
    | zero => exact absurd HA.out (by simp [zz.l0])
    | succ k1 =>
      have H := HA.out
      clear HA
      simp only [zz.l0] at H
      by_cases c4 : x4_1 < a0
      · rw [if_pos c4] at H
        have c4b0 : decide (x4_1 < a0) = true := ygy c4
        clear c4
        by_cases c5 : x3_1.length < 17592186044416
        · rw [if_pos c5] at H
          have LMc5 := zA.mk c5
          clear c5
          obtain ⟨y104, hy104⟩ : ∃ y_ : List Int, y_ = (x3_1 ++ [x4_1]) := ⟨_, rfl⟩
          replace H : (zz.l0 k1 a0 y104 (wrap64 (x4_1 + 1))) = some r := by first | (rw [hy104]; with_reducible exact H) | (have H2_ := (yfy _ _).symm.trans H; rw [hy104]; with_reducible exact H2_) | (have H2_ := (yfy _ _).symm.trans H; with_reducible exact H2_) | with_reducible exact H | (rw [hy104]; exact H) | exact H
          have Ny104 := zA.mk hy104
          clear hy104
          have H' := zA.mk H
          clear H
          go_wp2_with (first | ((with_reducible refine Za (b := .append) (xs := #[.tmp 11, .tmp 13]) rfl ?_); at_builtin; refine Kd.Qw (Kd.int .i64) (w0 := w) w.heap.size rfl (.tmp 11) (.tmp 13) 22 2 (.int .i64 0) 8 rfl Try.underlying22 Jg rfl (by decide) (by omega) u3 x3_1 x4_1 [.int .i64 x4_1] (fun _ => True) (fun _ => False) rfl rfl ?aP (fun _ hk => hk.elim) ?aF ?aO ?aB ?aS ?aL ?_; (case aP => exact rfl); (case aB => exact (by repeat (first | (with_reducible first | exact HB.out | apply zC | apply zB | apply zD) | exact HB.out))); (case aF => exact (fun _ _ => trivial)); (case aO => exact (by (with_reducible repeat (first | apply Kd.zR | apply Kd.zS | apply Kd.zU)); exact HO_3.out)); (case aS => exact (zO (by repeat (first | (with_reducible first | exact HB.out | apply zC | apply zB | apply zD) | exact HB.out)))); (case aL => have := LMc5.out; omega); intro v105 w6 ho hb hg hat; rw [← Ny104.out] at ho; have n0_ := zA.mk (hb); have n1_ := zA.mk (ho); clear HB; clear HO_3; have HB := n0_; have HO106 := n1_; clear n0_ n1_; clear ho hb hg hat))
          go_roundg k1
          case measure => have := HK1.out; omega
          case rel => exact ⟨(y104), (wrap64 (x4_1 + 1)), (by first | rfl | (simp; done) | (simp [*]; done)), H', ⟨by have := HK1.out; omega⟩, ⟨by (with_reducible repeat (first | apply Kd.zR | apply Kd.zS | apply Kd.zU)); exact HO106.out⟩, ⟨by repeat (first | (with_reducible first | exact HB.out | apply zC | apply zB | apply zD) | exact HB.out)⟩⟩
        · rw [if_neg c5] at H
          exact absurd H (by simp)
      · rw [if_neg c4] at H
        have c4b0 : decide (x4_1 < a0) = false := yhy c4
        clear c4
        obtain rfl := yey H
        go_wp2
        go_ret
        exact ⟨_, by first | rfl | (simp [zZ, za] <;> rfl) | (simp [*, zZ, za] <;> rfl), by (with_reducible repeat (first | apply Kd.zR | apply Kd.zS | apply Kd.zU)); exact HO_3.out, by repeat (first | (with_reducible first | exact HB.out | apply zC | apply zB | apply zD) | exact HB.out)⟩
def qn.f (l : List Int) (i k : Int) : Option (List Int) := if 0 ≤ i ∧ i < l.length ∧ 0 ≤ k ∧ k < l.length then some (Lib.joi l i k) else none
theorem pt_get {G : Int → Int} {l cur : List Int} {n : Nat} (h : cur = (l.take n).map G ++ l.drop n) (hn : n < l.length) : rd cur (n : Int) = l[n] := by
  subst h
  have h1 : ((l.take n).map G).length = n := by simp; omega
  simp only [rd, yny, List.getD_eq_getElem?_getD]
  rw [List.getElem?_append_right (by omega), h1, Nat.sub_self, List.getElem?_drop]
  simp [hn]
theorem zFy {G : Int → Int} {l cur : List Int} {n : Nat} (h : cur = (l.take n).map G ++ l.drop n) (hn : n < l.length) (e : G l[n] = l[n]) : cur = (l.take (n + 1)).map G ++ l.drop (n + 1) := by
  subst h
  rw [yoy hn, List.take_succ_eq_append_getElem hn, List.map_append, yjy, yky, e, List.append_assoc]
  rfl
theorem pt_put {G : Int → Int} {l cur : List Int} {n : Nat} (h : cur = (l.take n).map G ++ l.drop n) (hn : n < l.length) : cur.set n (G l[n]) = (l.take (n + 1)).map G ++ l.drop (n + 1) := by
  subst h
  have h1 : ((l.take n).map G).length = n := by simp; omega
  rw [List.set_append_right _ _ (by omega), h1, Nat.sub_self, yoy hn, yby, List.take_succ_eq_append_getElem hn, List.map_append, yjy, yky, List.append_assoc]
  rfl
set_option maxHeartbeats 8000000 in
set_option maxRecDepth 100000 in
theorem qn.calls (P0_ : Nat → Prop) (v : Value) (l : List Int) (i k : Int) (r : List Int) (w0 w : World) (hB : Below w0.heap.size w0 w) (ho0 : Kd.R (Kd.int .i64) 2 w w0.heap.size P0_ v l) (h : qn.f l i k = some r) :
    Calls Try.prog 92 #[v, .int .i64 i, .int .i64 k] w fun e w' => e = .returned (.tuple #[]) ∧ Kd.R (Kd.int .i64) 2 w' w0.heap.size P0_ v r ∧ Below w0.heap.size w0 w' ∧ Kept w w' P0_ := by
  unfold qn.f at h
  by_cases hok : 0 ≤ i ∧ i < l.length ∧ 0 ≤ k ∧ k < l.length
  case neg => rw [if_neg hok] at h; cases h
  rw [if_pos hok] at h
  have hr := yey h
  obtain ⟨hi0, hi1, hk0, hk1⟩ := hok
  obtain ⟨g, cap, rfl, hg1, _, _⟩ := Kd.JW ho0 (by omega)
  have hbig : l.length ≤ 9223372036854775807 := (Kd.zF0 (Kd.zp ho0).2.2)
  have q0 := (Kd.Zg 0 ho0 k hk0 hk1).1
  have q1 := (Kd.Zg 0 ho0 i hi0 hi1).1
  replace q0 : w.cell? ⟨g, k.toNat, none⟩ = some (.int .i64 (rd l k)) := q0
  replace q1 : w.cell? ⟨g, i.toNat, none⟩ = some (.int .i64 (rd l i)) := q1
  have hR : zA (l.map (fun x => if x = max (rd l i) (rd l k) then min (rd l i) (rd l k) else x) = r) := ⟨hr⟩
  clear hr h
  generalize rd l k = q at q0 hR
  generalize rd l i = p at q1 hR
  obtain ⟨lo, hlo⟩ : ∃ z : Int, (if q < p then q else p) = z := ⟨_, rfl⟩
  obtain ⟨hi, hhi⟩ : ∃ z : Int, (if p < q then q else p) = z := ⟨_, rfl⟩
  have hR2 : zA (l.map (fun x => if x = hi then lo else x) = r) := ⟨by
    have e1 : max p q = hi := by rw [← hhi]; split <;> omega
    have e2 : min p q = lo := by rw [← hlo]; split <;> omega
    rw [← e1, ← e2]; exact hR.out⟩
  have HO := zA.mk ho0
  have HB := zA.mk hB
  have HP := zA.mk (ho0.1 g rfl)
  have HK := zA.mk (Kept.refl w P0_)
  have HC : zA (l = (l.take 0).map (fun x => if x = hi then lo else x) ++ l.drop 0) := ⟨by simp⟩
  clear ho0 hB hR
  go_enter Try.func92, Try.ntmps92
  go_wp2
  repeat (go_quiet (fail); try go_wp2)
  go_loopg [8] l.length (fun gg v8 w' => ∃ (n : Nat) (cur : List Int), n ≤ l.length ∧ l.length - n ≤ gg ∧ v8 = .int .i64 n ∧ zA (cur = (l.take n).map (fun x => if x = hi then lo else x) ++ l.drop n) ∧ zA (Kd.R (Kd.int .i64) 2 w' w0.heap.size P0_ (.slice (some ⟨g, 0, none⟩) l.length cap) cur) ∧ zA (Below w0.heap.size w0 w') ∧ zA (Kept w w' P0_))
  case atStart => exact ⟨0, l, Nat.zero_le _, by omega, rfl, HC, ⟨by (with_reducible repeat (first | apply Kd.zS | apply Kd.zU)); exact HO.out⟩, ⟨by (with_reducible repeat (first | apply zB | apply zD)); exact HB.out⟩, ⟨by (with_reducible repeat (first | apply Kept.drewN | apply Kept.drew)); exact HK.out⟩⟩
  case round =>
    clear HC HO HB HK hlo hhi
    obtain ⟨n, cur, hn, hg, rfl, HC, HO, HB, HK⟩ := hrel
    by_cases hlt : n < l.length
    · have hltz : (n : Int) < (l.length : Int) := by omega
      obtain ⟨hc, hf⟩ := Kd.Zg 0 HO.out (n : Int) (by omega) hltz
      replace hc : wr.cell? ⟨g, n, none⟩ = some (.int .i64 (rd cur (n : Int))) := hc
      replace hf : wr.frozen? ⟨g, n, none⟩ = false := hf
      rw [pt_get HC.out hlt] at hc
      by_cases hy : l[n] = hi
      · have HC2 := zA.mk (pt_put HC.out hlt)
        rw [hy] at hc HC2
        have HC3 : zA (cur.set n lo = (l.take (n + 1)).map (fun x => if x = hi then lo else x) ++ l.drop (n + 1)) := ⟨by have h := HC2.out; rwa [if_pos rfl] at h⟩
        have e1 : (hi == hi) = true := by simp
        clear hy HC2 HC
        go_wp2_with (first
          | ((with_reducible refine ZS (t := 2) (p := 42) rfl ?_); refine ZB (t := 2) (p := 42) (v := ?vo42) (w1 := (wr.setCell ⟨g, n, none⟩ (.int .i64 lo))) ?hg ?ho ?hn ?hr ?_; (case ho => rfl); (case hg => rfl); (case hn => rfl); (case hr => first | (go_simp; done) | (go_simp; rfl)); intro w4 hw; have HO2 := zA.mk (show Kd.R (Kd.int .i64) 2 w4 w0.heap.size P0_ (.slice (some ⟨g, 0, none⟩) l.length cap) (cur.set n lo) by rw [hw]; exact (Kd.Jl HO.out (n : Int) lo).1); have HB2 := zA.mk (show Below w0.heap.size w0 w4 by rw [hw]; exact zF HB.out hg1); have HK2 := zA.mk (show Kept w w4 P0_ by rw [hw]; exact HK.out.setCell (p := ⟨g, n, none⟩) (.inl HP.out) _); clear hw hc hf HO HB HK))
        go_roundg (l.length - (n + 1))
        case measure => omega
        case rel => exact ⟨n + 1, cur.set n lo, by omega, by omega, by go_num, HC3, HO2, HB2, HK2⟩
      · have HC2 := zA.mk (zFy HC.out hlt (if_neg hy))
        have e1 : (l[n] == hi) = false := by simpa using hy
        generalize l[n] = y at hc e1
        clear hy HC
        go_wp2
        go_roundg (l.length - (n + 1))
        case measure => omega
        case rel => exact ⟨n + 1, cur, by omega, by omega, by go_num, HC2, HO, HB, HK⟩
    · obtain rfl : n = l.length := by omega
      have hcr : cur = r := by rw [HC.out, ← hR2.out]; simp
      have HCR := zA.mk hcr
      clear hcr HC
      go_wp2
      first | go_end0 | ((try simp only [Exit.inBlock, Exit.then]); refine bodyPost_ret (results_none rfl _ _ _) rfl ?_)
      refine ⟨?_, by rw [← HCR.out]; exact HO.out, HB.out, HK.out⟩
      first | rfl | (simp <;> rfl)
mutual
def ze.l0 : Nat → List Int → Int → List Int → Int → List (List Int) → Int → Option ((List (List Int)) × Int)
 | 0, _, _, _, _, _, _ => none
 | k + 1, x0, x1, x6, x7, x8, x9 => if x9 < (x0.length : Int) then (if 0 ≤ x9 then (if (rd x0 x9) = x9 then (if x9 < (x6.length : Int) then (ze.l0 k x0 x1 (x6.set (x9 : Int).toNat x7) (wrap64 (x7 + 1)) x8 (wrap64 (x9 + 1))) else (none)) else (ze.l0 k x0 x1 x6 x7 x8 (wrap64 (x9 + 1)))) else (none)) else (ze.l1 k x0 x1 x6 x7 x8 0)
def ze.l1 : Nat → List Int → Int → List Int → Int → List (List Int) → Int → Option ((List (List Int)) × Int)
 | 0, _, _, _, _, _, _ => none
 | k + 1, x0, x1, x6, x7, x8, x10 => if x10 < (x0.length : Int) then (ze.l2 k x0 x1 x6 x7 x8 x10 (([] : List Int)) x10) else (some (x8, x7))
def ze.l2 : Nat → List Int → Int → List Int → Int → List (List Int) → Int → List Int → Int → Option ((List (List Int)) × Int)
 | 0, _, _, _, _, _, _, _, _ => none
 | k + 1, x0, x1, x6, x7, x8, x10, x11, x12 => if x12 < (wrap64 (x10 + x1)) then (if 0 ≤ x12 then (if x12 < (x0.length : Int) then (if 0 ≤ (rd x0 x12) then (if (rd x0 x12) < (x6.length : Int) then (if x11.length < 17592186044416 then (ze.l2 k x0 x1 x6 x7 x8 x10 (x11 ++ [rd x6 (rd x0 x12)]) (wrap64 (x12 + 1))) else (none)) else (none)) else (none)) else (none)) else (none)) else (if x8.length < 5864062014805 then (ze.l1 k x0 x1 x6 x7 (x8 ++ [x11]) (wrap64 (x10 + x1))) else (none))
end
def ze.f (k : Nat) (l0 : List Int) (a1 : Int) : Option ((List (List Int)) × Int) := if 0 ≤ (l0.length : Int) then (if ((l0.length : Int) : Int).toNat ≤ 35184372088832 then (ze.l0 k l0 a1 (List.replicate ((l0.length : Int) : Int).toNat 0) 0 (([] : List (List Int))) 0) else (none)) else (none)
set_option maxHeartbeats 8000000 in
set_option maxRecDepth 100000 in
theorem ze.calls (k : Nat) (A0 : Option Addr) (c0 : Nat) (l0 : List Int) (a1 : Int) (r1 : List (List Int)) (r2 : Int) (w : World) (hr0 : Kd.C (Kd.int .i64) w A0 l0.length l0) (hc0 : l0.length ≤ c0) (h : ze.f k l0 a1 = some (r1, r2)) :
 Calls Try.prog 117 #[.slice A0 l0.length c0, .int .i64 a1] w fun e w' => ∃ v0_ : Value, e = .returned (.tuple #[v0_, .int .i64 r2]) ∧ Kd.S (Kd.slice 2 (Kd.int .i64)) 22 w' w.heap.size (fun _ => True) v0_ r1 ∧ Below w.heap.size w w' := by
 have HR0 := zA.mk hr0
 have HC0 := zA.mk hc0
 clear hr0 hc0
 have HB := zA.mk (yry w.heap.size w)
 have H : (if 0 ≤ (l0.length : Int) then (if ((l0.length : Int) : Int).toNat ≤ 35184372088832 then (ze.l0 k l0 a1 (List.replicate ((l0.length : Int) : Int).toNat 0) 0 (([] : List (List Int))) 0) else (none)) else (none)) = some (r1, r2) := h
 clear h
 by_cases c3 : 0 ≤ (l0.length : Int)
 rotate_left
 next =>
  rw [if_neg c3] at H
  exact absurd H (by simp)
 rw [if_pos c3] at H
 have c3b0 := eq_true c3
 have c3b1 : decide (0 ≤ (l0.length : Int)) = true := ygy c3
 clear c3
 by_cases c4 : ((l0.length : Int) : Int).toNat ≤ 35184372088832
 rotate_left
 next =>
  rw [if_neg c4] at H
  exact absurd H (by simp)
 rw [if_pos c4] at H
 have c4b0 := eq_true c4
 have c4b1 : decide (((l0.length : Int) : Int).toNat ≤ 35184372088832) = true := ygy c4
 clear c4
 obtain ⟨y101, hy101⟩ : ∃ y_ : List Int, y_ = (List.replicate ((l0.length : Int) : Int).toNat 0) := ⟨_, rfl⟩
 replace H : (ze.l0 k l0 a1 y101 0 (([] : List (List Int))) 0) = some (r1, r2) := by first | (rw [hy101]; with_reducible exact H) | (have H2_ := (yfy _ _).symm.trans H; rw [hy101]; with_reducible exact H2_) | (have H2_ := (yfy _ _).symm.trans H; with_reducible exact H2_) | with_reducible exact H | (rw [hy101]; exact H) | exact H
 have Ny101 := zA.mk hy101
 clear hy101
 obtain ⟨y104, hy104⟩ : ∃ y_ : List (List Int), y_ = (([] : List (List Int))) := ⟨_, rfl⟩
 replace H : (ze.l0 k l0 a1 y101 0 y104 0) = some (r1, r2) := by first | (rw [hy104]; with_reducible exact H) | (have H2_ := (yfy _ _).symm.trans H; rw [hy104]; with_reducible exact H2_) | (have H2_ := (yfy _ _).symm.trans H; with_reducible exact H2_) | with_reducible exact H | (rw [hy104]; exact H) | exact H
 have Ny104 := zA.mk hy104
 clear hy104
 have H' := zA.mk H
 clear H
 go_enter Try.func117, Try.ntmps117
 go_wp2_with (first | ((with_reducible refine zq (N := 15) rfl ?_); refine Kd.zE4 (Kd.int .i64) _ 2 rfl (N := 15) rfl 22 _ _ rfl (l0.length : Int) rfl rfl Try.underlying22 (.int .i64 0) 8 Jg rfl (by decide) (by omega) 0 (ok := fun _ => True) (okp := fun _ => True) rfl (fun _ hk => hk) trivial (of_decide_eq_true (by first | (with_reducible assumption) | assumption)) (Nat.le_trans (Nat.mul_le_mul_right _ (of_decide_eq_true (by first | (with_reducible assumption) | assumption) : (l0.length : Int).toNat ≤ 35184372088832)) (by omega)) (yry _ _) (yqy _) ?_; intro v102 w5 ho6 hb hg_ hnew_; clear hg_ hnew_; (first | rw [← Ny101.out] at ho6 | (simp only [Int.reduceToNat] at ho6; rw [← Ny101.out] at ho6)); have n0_ := zA.mk (Kd.ZE ho6 (zO (by repeat (first | (with_reducible first | exact HB.out | apply zC | apply zB | apply zD) | exact HB.out)))); have n1_ := zA.mk (zN (by repeat (first | (with_reducible first | exact HB.out | apply zC | apply zB | apply zD) | exact HB.out)) hb); clear HB; have HO103 := n0_; have HB := n1_; clear n0_ n1_; clear hb ho6) | ((with_reducible refine zq (N := 16) rfl ?_); refine Kd.S_lit (Kd.slice 2 (Kd.int .i64)) _ 22 ?hg (N := 16) ?hd (xs := ([] : List (List Int))) (inner := []) (ok := fun _ => True) (okp := fun _ => True) ?hr ?hp (fun _ hk => hk) trivial (yry _ _) (yqy _) (by simp) ?_; (case hd => rfl); (case hg => rfl); (case hr => first | (go_simp; done) | (go_simp; rfl)); (case hp => exact (Zr.none _ _)); intro v105 w7 ho8 hb hg_ hnew_; clear hg_ hnew_; (first | rw [← Ny104.out] at ho8 | (simp only [Int.reduceToNat] at ho8; rw [← Ny104.out] at ho8)); have n0_ := zA.mk (Kd.qP (by (with_reducible repeat (first | apply Kd.zR | apply Kd.zS | apply Kd.zU)); exact HO103.out) hb); have n1_ := zA.mk (Kd.QS (Kd.QO ho8 (Kd.Qx (by (with_reducible repeat (first | apply Kd.zR | apply Kd.zS | apply Kd.zU)); exact HO103.out))) (zO (by repeat (first | (with_reducible first | exact HB.out | apply zC | apply zB | apply zD) | exact HB.out)))); have n2_ := zA.mk (zN (by repeat (first | (with_reducible first | exact HB.out | apply zC | apply zB | apply zD) | exact HB.out)) hb); clear HO103; clear HB; have HO103 := n0_; have HO106 := n1_; have HB := n2_; clear n0_ n1_ n2_; clear hb ho8))
 go_loopg [7, 9] k (fun kq v7 v9 w' => ∃ (x6_1 : List Int) (x7_1 : Int) (x9_1 : Int), v7 = .int .i64 x7_1 ∧ v9 = .int .i64 x9_1 ∧ zA (ze.l0 kq l0 a1 x6_1 x7_1 y104 x9_1 = some (r1, r2)) ∧ zA (kq ≤ k) ∧ zA (Kd.R (Kd.int .i64) 2 w' w.heap.size (fun _ => True) v102 x6_1) ∧ zA (Kd.S (Kd.slice 2 (Kd.int .i64)) 22 w' w.heap.size (fun k_ => some k_ ≠ (v102 : Value).ownBlock) v105 y104) ∧ zA (Below w.heap.size w w'))
 case atStart => exact ⟨(y101), (0), (0), (by first | rfl | (simp; done) | (simp [*]; done)), (by first | rfl | (simp; done) | (simp [*]; done)), H', ⟨yqy _⟩, ⟨by (with_reducible repeat (first | apply Kd.zR | apply Kd.zS | apply Kd.zU)); exact HO103.out⟩, ⟨by (with_reducible repeat (first | apply Kd.zl | apply Kd.zm | apply Kd.qE)); exact Kd.qx HO106.out (fun _ hk => hk.2)⟩, ⟨by repeat (first | (with_reducible first | exact HB.out | apply zC | apply zB | apply zD) | exact HB.out)⟩⟩
 case round =>
  clear H'
  try clear c1
  try clear p2
  try clear c3
  try clear c3b0
  try clear c3b1
  try clear c4
  try clear c4b0
  try clear c4b1
  obtain ⟨x6_1, x7_1, x9_1, rfl, rfl, HA, HK1, HO_6, HO_8, HB⟩ := hrel
  cases gk with
  | zero => exact absurd HA.out (by simp [ze.l0])
  | succ k1 =>
   have H := HA.out
   clear HA
   simp only [ze.l0] at H
   by_cases c9 : x9_1 < (l0.length : Int)
   next =>
    rw [if_pos c9] at H
    have c9b0 : decide (x9_1 < (l0.length : Int)) = true := ygy c9
    clear c9
    by_cases c10 : 0 ≤ x9_1
    rotate_left
    next =>
     rw [if_neg c10] at H
     exact absurd H (by simp)
    rw [if_pos c10] at H
    have c10b0 : decide (0 ≤ x9_1) = true := ygy c10
    clear c10
    by_cases c11 : (rd l0 x9_1) = x9_1
    rotate_left
    next =>
     rw [if_neg c11] at H
     have c11b0 : ((rd l0 x9_1) == x9_1) = false := beq_eq_false_iff_ne.mpr c11
     have c11b1 : ((rd l0 x9_1) != x9_1) = true := bne_iff_ne.mpr c11
     have H' := zA.mk H
     clear H
     have p107 : 0 ≤ (x9_1 : Int) := of_decide_eq_true (by first | (with_reducible assumption) | assumption)
     have q107 : x9_1 < (l0.length : Int) := of_decide_eq_true (by first | (with_reducible assumption) | assumption)
     obtain ⟨ad107, e107, hx107_0⟩ := Kd.ZN HR0.out x9_1 p107 q107
     cases e107
     replace hx107_0 := (HB.out.cell (ypy w _ hx107_0)).trans hx107_0
     replace p107 := eq_true p107
     replace q107 := eq_true q107
     go_wp2
     go_roundg k1
     case measure => have := HK1.out; omega
     case rel => exact ⟨(x6_1), (x7_1), (wrap64 (x9_1 + 1)), (by first | rfl | (simp; done) | (simp [*]; done)), (by first | rfl | (simp; done) | (simp [*]; done)), H', ⟨by have := HK1.out; omega⟩, ⟨by (with_reducible repeat (first | apply Kd.zR | apply Kd.zS | apply Kd.zU)); exact HO_6.out⟩, ⟨by (with_reducible repeat (first | apply Kd.zl | apply Kd.zm | apply Kd.qE)); exact HO_8.out⟩, ⟨by repeat (first | (with_reducible first | exact HB.out | apply zC | apply zB | apply zD) | exact HB.out)⟩⟩
    rw [if_pos c11] at H
    have c11b0 : ((rd l0 x9_1) == x9_1) = true := beq_iff_eq.mpr c11
    have c11b1 : ((rd l0 x9_1) != x9_1) = false := bne_eq_false_iff_eq.mpr c11
    clear c11
    by_cases c12 : x9_1 < (x6_1.length : Int)
    rotate_left
    next =>
     rw [if_neg c12] at H
     exact absurd H (by simp)
    rw [if_pos c12] at H
    have c12b0 : decide (x9_1 < (x6_1.length : Int)) = true := ygy c12
    clear c12
    obtain ⟨y108, hy108⟩ : ∃ y_ : List Int, y_ = (x6_1.set (x9_1 : Int).toNat x7_1) := ⟨_, rfl⟩
    replace H : (ze.l0 k1 l0 a1 y108 (wrap64 (x7_1 + 1)) y104 (wrap64 (x9_1 + 1))) = some (r1, r2) := by first | (rw [hy108]; with_reducible exact H) | (have H2_ := (yfy _ _).symm.trans H; rw [hy108]; with_reducible exact H2_) | (have H2_ := (yfy _ _).symm.trans H; with_reducible exact H2_) | with_reducible exact H | (rw [hy108]; exact H) | exact H
    have Ny108 := zA.mk hy108
    clear hy108
    have H' := zA.mk H
    clear H
    have p107 : 0 ≤ (x9_1 : Int) := of_decide_eq_true (by first | (with_reducible assumption) | assumption)
    have q107 : x9_1 < (l0.length : Int) := of_decide_eq_true (by first | (with_reducible assumption) | assumption)
    obtain ⟨ad107, e107, hx107_0⟩ := Kd.ZN HR0.out x9_1 p107 q107
    cases e107
    replace hx107_0 := (HB.out.cell (ypy w _ hx107_0)).trans hx107_0
    replace p107 := eq_true p107
    replace q107 := eq_true q107
    have p13 : 0 ≤ (x9_1 : Int) := of_decide_eq_true (by first | (with_reducible assumption) | assumption)
    have q13 : (x9_1 : Int) < ((x6_1.length : Int) : Int) := of_decide_eq_true (by first | (with_reducible assumption) | assumption)
    obtain ⟨go13, co13, eo13, gb13, gl13, cl13, HG13⟩ := Kd.JW HO_6.out (by omega)
    (first | cases eo13 | (injection eo13 with ea_ en_ ec_; (first | subst ea_ | (injection ea_ with ea_; subst ea_)); subst ec_; clear en_))
    have GB13 := zA.mk gb13
    have GG13 := zA.mk HG13
    clear gb13 gl13 HG13
    obtain ⟨hx13_0, hf13_0⟩ := Kd.Zg 0 HO_6.out (x9_1 : Int) p13 q13
    replace p13 := eq_true p13
    replace q13 := eq_true q13
    have HP14 := Kd.Jl HO_6.out (x9_1 : Int) x7_1
    go_wp2_with (first | ((with_reducible refine ZS (t := 2) (p := 32) rfl ?_); refine ZB (t := 2) (p := 32) (v := ?vo_w15) (w1 := (wr.setCell ⟨go13, (x9_1 : Int).toNat, none⟩ (.int .i64 x7_1))) ?hg ?ho ?hn ?hr ?_; (case ho => rfl); (case hg => rfl); (case hn => rfl); (case hr => first | (go_simp; done) | (go_simp; rfl)); intro w15 hw; have hg : wr.grownBy w15 (some go13) := (by rw [hw]; exact HP14.2); have hp_ : Kd.R (Kd.int .i64) 2 w15 w.heap.size (fun _ => True) (.slice (some ⟨go13, 0, none⟩) x6_1.length co13) y108 := (by rw [hw, Ny108.out]; exact HP14.1); clear HP14; have n0_ := zA.mk (hp_); have n1_ := zA.mk (Kd.Qq (v := (.slice (some ⟨go13, 0, none⟩) x6_1.length co13)) (v1 := (.slice (some ⟨go13, 0, none⟩) x6_1.length co13)) (ok := (fun _ => True)) (by (with_reducible repeat (first | apply Kd.zl | apply Kd.zm | apply Kd.qE)); exact Kd.qx HO_8.out (fun _ hk => ⟨trivial, hk⟩)) hg (.inl rfl)); have n2_ := zA.mk ((by rw [hw]; exact zF (HB.out) GB13.out : Below w.heap.size w w15)); clear HO_6; clear HO_8; clear HB; have HO_6 := n0_; have HO_8 := n1_; have HB := n2_; clear n0_ n1_ n2_; clear hg hw hp_))
    go_roundg k1
    case measure => have := HK1.out; omega
    case rel => exact ⟨(y108), (wrap64 (x7_1 + 1)), (wrap64 (x9_1 + 1)), (by first | rfl | (simp; done) | (simp [*]; done)), (by first | rfl | (simp; done) | (simp [*]; done)), H', ⟨by have := HK1.out; omega⟩, ⟨by (with_reducible repeat (first | apply Kd.zR | apply Kd.zS | apply Kd.zU)); exact HO_6.out⟩, ⟨by (with_reducible repeat (first | apply Kd.zl | apply Kd.zm | apply Kd.qE)); exact Kd.qx HO_8.out (fun _ hk => hk.2)⟩, ⟨by repeat (first | (with_reducible first | exact HB.out | apply zC | apply zB | apply zD) | exact HB.out)⟩⟩
   next =>
    rw [if_neg c9] at H
    have c9b0 : decide (x9_1 < (l0.length : Int)) = false := yhy c9
    clear c9
    have H' := zA.mk H
    clear H
    go_wp2
    go_loopg [8, 10] k1 (fun kq v8 v10 w' => ∃ (x8_2 : List (List Int)) (x10_2 : Int), v10 = .int .i64 x10_2 ∧ zA (ze.l1 kq l0 a1 x6_1 x7_1 x8_2 x10_2 = some (r1, r2)) ∧ zA (kq ≤ k1) ∧ zA (Kd.R (Kd.int .i64) 2 w' w.heap.size (fun _ => True) v102 x6_1) ∧ zA (Kd.S (Kd.slice 2 (Kd.int .i64)) 22 w' w.heap.size (fun k_ => some k_ ≠ (v102 : Value).ownBlock) v8 x8_2) ∧ zA (Below w.heap.size w w'))
    case atStart => exact ⟨(y104), (0), (by first | rfl | (simp; done) | (simp [*]; done)), H', ⟨yqy _⟩, ⟨by (with_reducible repeat (first | apply Kd.zR | apply Kd.zS | apply Kd.zU)); exact HO_6.out⟩, ⟨by (with_reducible repeat (first | apply Kd.zl | apply Kd.zm | apply Kd.qE)); exact HO_8.out⟩, ⟨by repeat (first | (with_reducible first | exact HB.out | apply zC | apply zB | apply zD) | exact HB.out)⟩⟩
    case round =>
     clear H'
     try clear c1
     try clear p1
     try clear q1
     try clear hx1
     try clear p2
     try clear c3
     try clear c3b0
     try clear c3b1
     try clear c4
     try clear c4b0
     try clear c4b1
     try clear p6
     try clear c9
     try clear c9b0
     try clear c10
     try clear c10b0
     try clear p10
     try clear q10
     try clear hx10
     try clear c11
     try clear c11b0
     try clear c11b1
     try clear c12
     try clear c12b0
     try clear p13
     try clear q13
     try clear hx13
     try clear hf13
     try clear hx107_0
     try clear hx13_0
     try clear p107
     try clear p13
     try clear p2
     try clear q107
     try clear q13
     obtain ⟨x8_2, x10_2, rfl, HA, HK2, HO_6, HO_8, HB⟩ := hrel
     cases gk with
     | zero => exact absurd HA.out (by simp [ze.l1])
     | succ k2 =>
      have H := HA.out
      clear HA
      simp only [ze.l1] at H
      by_cases c16 : x10_2 < (l0.length : Int)
      rotate_left
      next =>
       rw [if_neg c16] at H
       have c16b0 : decide (x10_2 < (l0.length : Int)) = false := yhy c16
       clear c16
       simp only [Option.some.injEq, Prod.mk.injEq] at H
       obtain ⟨rfl, rfl⟩ := H
       go_wp2
       go_ret2
       exact ⟨_, by first | rfl | (simp [zZ, za] <;> rfl) | (simp [*, zZ, za] <;> rfl), by (with_reducible repeat (first | apply Kd.zl | apply Kd.zm | apply Kd.qE)); exact Kd.qx HO_8.out (fun _ hk => trivial), by repeat (first | (with_reducible first | exact HB.out | apply zC | apply zB | apply zD) | exact HB.out)⟩
      rw [if_pos c16] at H
      have c16b0 : decide (x10_2 < (l0.length : Int)) = true := ygy c16
      clear c16
      obtain ⟨y109, hy109⟩ : ∃ y_ : List Int, y_ = (([] : List Int)) := ⟨_, rfl⟩
      replace H : (ze.l2 k2 l0 a1 x6_1 x7_1 x8_2 x10_2 y109 x10_2) = some (r1, r2) := by first | (rw [hy109]; with_reducible exact H) | (have H2_ := (yfy _ _).symm.trans H; rw [hy109]; with_reducible exact H2_) | (have H2_ := (yfy _ _).symm.trans H; with_reducible exact H2_) | with_reducible exact H | (rw [hy109]; exact H) | exact H
      have Ny109 := zA.mk hy109
      clear hy109
      have H' := zA.mk H
      clear H
      go_wp2_with (first | ((with_reducible refine zq (N := 42) rfl ?_); refine Kd.zAy (Kd.int .i64) _ 2 ?hg (N := 42) ?hd (xs := ([] : List Int)) (inner := []) (ok := fun _ => True) (okp := fun _ => True) ?hr ?hp (fun _ hk => hk) trivial (yry _ _) (yqy _) (by simp) ?_; (case hd => rfl); (case hg => rfl); (case hr => first | (go_simp; done) | (go_simp; rfl)); (case hp => exact (Zr.none _ _)); intro v110 w17 ho18 hb hg_ hnew_; clear hg_ hnew_; (first | rw [← Ny109.out] at ho18 | (simp only [Int.reduceToNat] at ho18; rw [← Ny109.out] at ho18)); have n0_ := zA.mk (Kd.ZV (by (with_reducible repeat (first | apply Kd.zR | apply Kd.zS | apply Kd.zU)); exact HO_6.out) (Kd.Zd ho18) hb); have n1_ := zA.mk (Kd.QC (by (with_reducible repeat (first | apply Kd.zl | apply Kd.zm | apply Kd.qE)); exact HO_8.out) (Kd.Zd ho18) hb); have n2_ := zA.mk (Kd.ZE (Kd.Qh ho18 (Kd.Qx (by (with_reducible repeat (first | apply Kd.zR | apply Kd.zS | apply Kd.zU)); exact HO_6.out))) (zO (by repeat (first | (with_reducible first | exact HB.out | apply zC | apply zB | apply zD) | exact HB.out)))); have n3_ := zA.mk (zN (by repeat (first | (with_reducible first | exact HB.out | apply zC | apply zB | apply zD) | exact HB.out)) hb); clear HO_6; clear HO_8; clear HB; have HO_6 := n0_; have HO_8 := n1_; have HO111 := n2_; have HB := n3_; clear n0_ n1_ n2_ n3_; clear hb ho18))
      go_loopg [11, 12] k2 (fun kq v11 v12 w' => ∃ (x11_3 : List Int) (x12_3 : Int), v12 = .int .i64 x12_3 ∧ zA (ze.l2 kq l0 a1 x6_1 x7_1 x8_2 x10_2 x11_3 x12_3 = some (r1, r2)) ∧ zA (kq ≤ k2) ∧ zA (Kd.R (Kd.int .i64) 2 w' w.heap.size (fun k_ => some k_ ≠ (v11 : Value).ownBlock) v102 x6_1) ∧ zA (Kd.S (Kd.slice 2 (Kd.int .i64)) 22 w' w.heap.size (fun k_ => some k_ ≠ (v102 : Value).ownBlock ∧ some k_ ≠ (v11 : Value).ownBlock) u8 x8_2) ∧ zA (Kd.R (Kd.int .i64) 2 w' w.heap.size (fun k_ => some k_ ≠ (v102 : Value).ownBlock) v11 x11_3) ∧ zA (Below w.heap.size w w'))
      case atStart => exact ⟨(y109), (x10_2), (by first | rfl | (simp; done) | (simp [*]; done)), H', ⟨yqy _⟩, ⟨by (with_reducible repeat (first | apply Kd.zR | apply Kd.zS | apply Kd.zU)); exact Kd.zo HO_6.out (fun _ hk => hk.2)⟩, ⟨by (with_reducible repeat (first | apply Kd.zl | apply Kd.zm | apply Kd.qE)); exact HO_8.out⟩, ⟨by (with_reducible repeat (first | apply Kd.zR | apply Kd.zS | apply Kd.zU)); exact Kd.zo HO111.out (fun _ hk => hk.2)⟩, ⟨by repeat (first | (with_reducible first | exact HB.out | apply zC | apply zB | apply zD) | exact HB.out)⟩⟩
      case round =>
       clear H'
       try clear c1
       try clear p1
       try clear q1
       try clear hx1
       try clear p2
       try clear c3
       try clear c3b0
       try clear c3b1
       try clear c4
       try clear c4b0
       try clear c4b1
       try clear p6
       try clear c9
       try clear c9b0
       try clear c10
       try clear c10b0
       try clear p10
       try clear q10
       try clear hx10
       try clear c11
       try clear c11b0
       try clear c11b1
       try clear c12
       try clear c12b0
       try clear p13
       try clear q13
       try clear hx13
       try clear hf13
       try clear c16
       try clear c16b0
       try clear hx107_0
       try clear hx13_0
       try clear p1
       try clear p10
       try clear p107
       try clear p13
       try clear p2
       try clear p6
       try clear q1
       try clear q10
       try clear q107
       try clear q13
       obtain ⟨x11_3, x12_3, rfl, HA, HK3, HO_6, HO_8, HO_11, HB⟩ := hrel
       cases gk with
       | zero => exact absurd HA.out (by simp [ze.l2])
       | succ k3 =>
        have H := HA.out
        clear HA
        simp only [ze.l2] at H
        by_cases c19 : x12_3 < (wrap64 (x10_2 + a1))
        rotate_left
        next =>
         rw [if_neg c19] at H
         have c19b0 : decide (x12_3 < (wrap64 (x10_2 + a1))) = false := yhy c19
         clear c19
         by_cases c27 : x8_2.length < 5864062014805
         rotate_left
         next =>
          rw [if_neg c27] at H
          exact absurd H (by simp)
         rw [if_pos c27] at H
         have LMc27 := zA.mk c27
         clear c27
         obtain ⟨y117, hy117⟩ : ∃ y_ : List (List Int), y_ = (x8_2 ++ [x11_3]) := ⟨_, rfl⟩
         replace H : (ze.l1 k3 l0 a1 x6_1 x7_1 y117 (wrap64 (x10_2 + a1))) = some (r1, r2) := by first | (rw [hy117]; with_reducible exact H) | (have H2_ := (yfy _ _).symm.trans H; rw [hy117]; with_reducible exact H2_) | (have H2_ := (yfy _ _).symm.trans H; with_reducible exact H2_) | with_reducible exact H | (rw [hy117]; exact H) | exact H
         have Ny117 := zA.mk hy117
         clear hy117
         have H' := zA.mk H
         clear H
         obtain ⟨Ao29, co29, eo29⟩ := Kd.ZA HO_11.out
         subst eo29
         go_wp2_with (first | ((with_reducible refine Za (b := .append) (xs := #[.tmp 61, .tmp 63]) rfl ?_); at_builtin; refine Kd.zBg (Kd.slice 2 (Kd.int .i64)) (w0 := w) w.heap.size rfl (.tmp 61) (.tmp 63) 30 22 (.slice none 0 0) 24 rfl Try.underlying30 zEO rfl (by decide) (by omega) u8 x8_2 x11_3 [.slice Ao29 x11_3.length co29] (fun k_ => some k_ ≠ (v102 : Value).ownBlock) (fun k_ => some k_ = (.slice Ao29 x11_3.length co29 : Value).ownBlock) rfl rfl ?aP (fun k_ hk_ => ((Kd.zo (ok' := fun k_ => ((fun k_ => some k_ ≠ (v102 : Value).ownBlock)) k_ ∧ some k_ ≠ (u8 : Value).ownBlock) (Kd.Zu (HO_11.out) (Kd.QG HO_8.out) (by decide)) (fun k_ hk => ⟨hk.1, hk.2⟩))).1 k_ hk_.symm) ?aF ?aO ?aB ?aS ?aL ?_; (case aP => exact Kd.zEz (Kd.zo (Kd.Qf rfl (Kd.zo (ok' := fun k_ => ((fun k_ => some k_ ≠ (v102 : Value).ownBlock)) k_ ∧ some k_ ≠ (u8 : Value).ownBlock) (Kd.Zu (HO_11.out) (Kd.QG HO_8.out) (by decide)) (fun k_ hk => ⟨hk.1, hk.2⟩))) (fun _ h_ => h_))); (case aB => exact (by repeat (first | (with_reducible first | exact HB.out | apply zC | apply zB | apply zD) | exact HB.out))); (case aF => exact (fun k_ hk => Kd.Qi (Kd.Qx (by (with_reducible repeat (first | apply Kd.zR | apply Kd.zS | apply Kd.zU)); exact HO_6.out)) k_ hk)); (case aO => exact (by (with_reducible repeat (first | apply Kd.zl | apply Kd.zm | apply Kd.qE)); exact Kd.qx HO_8.out (fun k_ hk => ⟨hk.1, fun e_ => hk.2 e_⟩))); (case aS => exact (zO (by repeat (first | (with_reducible first | exact HB.out | apply zC | apply zB | apply zD) | exact HB.out)))); (case aL => have := LMc27.out; omega); intro v118 w28 ho hb hg hat; rw [← Ny117.out] at ho; have n0_ := zA.mk (Kd.zE8 (by (with_reducible repeat (first | apply Kd.zR | apply Kd.zS | apply Kd.zU)); exact HO_6.out) (Kd.QG (by (with_reducible repeat (first | apply Kd.zl | apply Kd.zm | apply Kd.qE)); exact HO_8.out)) (by decide) hg); have n1_ := zA.mk (hb); have n2_ := zA.mk (ho); clear HO_6; clear HB; clear HO_8; clear HO_11; have HO_6 := n0_; have HB := n1_; have HO119 := n2_; clear n0_ n1_ n2_; clear ho hb hg hat))
         go_roundg k3
         case measure => have := HK1.out; have := HK2.out; have := HK3.out; omega
         case rel => exact ⟨(y117), (wrap64 (x10_2 + a1)), (by first | rfl | (simp; done) | (simp [*]; done)), H', ⟨by have := HK1.out; have := HK2.out; have := HK3.out; omega⟩, ⟨by (with_reducible repeat (first | apply Kd.zR | apply Kd.zS | apply Kd.zU)); exact Kd.zo HO_6.out (fun _ hk => trivial)⟩, ⟨by (with_reducible repeat (first | apply Kd.zl | apply Kd.zm | apply Kd.qE)); exact HO119.out⟩, ⟨by repeat (first | (with_reducible first | exact HB.out | apply zC | apply zB | apply zD) | exact HB.out)⟩⟩
        rw [if_pos c19] at H
        have c19b0 : decide (x12_3 < (wrap64 (x10_2 + a1))) = true := ygy c19
        clear c19
        by_cases c20 : 0 ≤ x12_3
        rotate_left
        next =>
         rw [if_neg c20] at H
         exact absurd H (by simp)
        rw [if_pos c20] at H
        have c20b0 : decide (0 ≤ x12_3) = true := ygy c20
        clear c20
        by_cases c21 : x12_3 < (l0.length : Int)
        rotate_left
        next =>
         rw [if_neg c21] at H
         exact absurd H (by simp)
        rw [if_pos c21] at H
        have c21b0 : decide (x12_3 < (l0.length : Int)) = true := ygy c21
        clear c21
        by_cases c22 : 0 ≤ (rd l0 x12_3)
        rotate_left
        next =>
         rw [if_neg c22] at H
         exact absurd H (by simp)
        rw [if_pos c22] at H
        have c22b0 : decide (0 ≤ (rd l0 x12_3)) = true := ygy c22
        clear c22
        by_cases c23 : (rd l0 x12_3) < (x6_1.length : Int)
        rotate_left
        next =>
         rw [if_neg c23] at H
         exact absurd H (by simp)
        rw [if_pos c23] at H
        have c23b0 : decide ((rd l0 x12_3) < (x6_1.length : Int)) = true := ygy c23
        clear c23
        by_cases c24 : x11_3.length < 17592186044416
        rotate_left
        next =>
         rw [if_neg c24] at H
         exact absurd H (by simp)
        rw [if_pos c24] at H
        have LMc24 := zA.mk c24
        clear c24
        obtain ⟨y114, hy114⟩ : ∃ y_ : List Int, y_ = (x11_3 ++ [rd x6_1 (rd l0 x12_3)]) := ⟨_, rfl⟩
        replace H : (ze.l2 k3 l0 a1 x6_1 x7_1 x8_2 x10_2 y114 (wrap64 (x12_3 + 1))) = some (r1, r2) := by first | (rw [hy114]; with_reducible exact H) | (have H2_ := (yfy _ _).symm.trans H; rw [hy114]; with_reducible exact H2_) | (have H2_ := (yfy _ _).symm.trans H; with_reducible exact H2_) | with_reducible exact H | (rw [hy114]; exact H) | exact H
        have Ny114 := zA.mk hy114
        clear hy114
        have H' := zA.mk H
        clear H
        have p112 : 0 ≤ (x12_3 : Int) := of_decide_eq_true (by first | (with_reducible assumption) | assumption)
        have q112 : x12_3 < (l0.length : Int) := of_decide_eq_true (by first | (with_reducible assumption) | assumption)
        obtain ⟨ad112, e112, hx112_0⟩ := Kd.ZN HR0.out x12_3 p112 q112
        cases e112
        replace hx112_0 := (HB.out.cell (ypy w _ hx112_0)).trans hx112_0
        replace p112 := eq_true p112
        replace q112 := eq_true q112
        obtain ⟨Ao25, co25, eo25⟩ := Kd.ZA HO_6.out
        subst eo25
        have p113 : 0 ≤ ((rd l0 x12_3) : Int) := of_decide_eq_true (by first | (with_reducible assumption) | assumption)
        have q113 : (rd l0 x12_3) < (x6_1.length : Int) := of_decide_eq_true (by first | (with_reducible assumption) | assumption)
        obtain ⟨ad113, e113, hx113_0⟩ := Kd.ZN (Kd.zp HO_6.out).2.2 (rd l0 x12_3) p113 q113
        cases e113
        replace p113 := eq_true p113
        replace q113 := eq_true q113
        go_wp2_with (first | ((with_reducible refine Za (b := .append) (xs := #[.tmp 51, .tmp 59]) rfl ?_); at_builtin; refine Kd.Qw (Kd.int .i64) (w0 := w) w.heap.size rfl (.tmp 51) (.tmp 59) 22 2 (.int .i64 0) 8 rfl Try.underlying22 Jg rfl (by decide) (by omega) u11 x11_3 (rd x6_1 (rd l0 x12_3)) [.int .i64 (rd x6_1 (rd l0 x12_3))] (fun k_ => some k_ ≠ (.slice (some ad113) x6_1.length co25 : Value).ownBlock) (fun _ => False) rfl rfl ?aP (fun _ hk => hk.elim) ?aF ?aO ?aB ?aS ?aL ?_; (case aP => exact rfl); (case aB => exact (by repeat (first | (with_reducible first | exact HB.out | apply zC | apply zB | apply zD) | exact HB.out))); (case aF => exact (fun k_ hk => Kd.Qi (Kd.Qx (by (with_reducible repeat (first | apply Kd.zR | apply Kd.zS | apply Kd.zU)); exact HO_6.out)) k_ hk)); (case aO => exact (by (with_reducible repeat (first | apply Kd.zR | apply Kd.zS | apply Kd.zU)); exact HO_11.out)); (case aS => exact (zO (by repeat (first | (with_reducible first | exact HB.out | apply zC | apply zB | apply zD) | exact HB.out)))); (case aL => have := LMc24.out; omega); intro v115 w26 ho hb hg hat; rw [← Ny114.out] at ho; have n0_ := zA.mk (Kd.qu (ok := (fun _ => True)) (by (with_reducible repeat (first | apply Kd.zR | apply Kd.zS | apply Kd.zU)); exact Kd.zo HO_6.out (fun _ hk => ⟨trivial, hk⟩)) hg hat); have n1_ := zA.mk (Kd.Qq (ok := (fun k_ => some k_ ≠ (.slice (some ad113) x6_1.length co25 : Value).ownBlock)) (by (with_reducible repeat (first | apply Kd.zl | apply Kd.zm | apply Kd.qE)); exact HO_8.out) hg hat); have n2_ := zA.mk (hb); have n3_ := zA.mk (ho); clear HO_6; clear HO_8; clear HB; clear HO_11; have HO_6 := n0_; have HO_8 := n1_; have HB := n2_; have HO116 := n3_; clear n0_ n1_ n2_ n3_; clear ho hb hg hat))
        go_roundg k3
        case measure => have := HK1.out; have := HK2.out; have := HK3.out; omega
        case rel => exact ⟨(y114), (wrap64 (x12_3 + 1)), (by first | rfl | (simp; done) | (simp [*]; done)), H', ⟨by have := HK1.out; have := HK2.out; have := HK3.out; omega⟩, ⟨by (with_reducible repeat (first | apply Kd.zR | apply Kd.zS | apply Kd.zU)); exact Kd.zo HO_6.out (fun _ hk => hk.2)⟩, ⟨by (with_reducible repeat (first | apply Kd.zl | apply Kd.zm | apply Kd.qE)); exact HO_8.out⟩, ⟨by (with_reducible repeat (first | apply Kd.zR | apply Kd.zS | apply Kd.zU)); exact HO116.out⟩, ⟨by repeat (first | (with_reducible first | exact HB.out | apply zC | apply zB | apply zD) | exact HB.out)⟩⟩
end Go.Proofs.Ytembbpalgfikiaa.P
