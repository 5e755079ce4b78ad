/- The statement FnExactVertexLinkVectorSaid, proved: part 6 of 7 (texts of this session and of the kit's print, put together and cut to what is used by a program of it). -/
import Derived.Test.YthjpdljdodalaaaMFnExactVertexLinkVector5
namespace Go.Proofs.Ythjpdljdodalaaa.P
open Go.RowKit Go.Proofs.YthjpdljdodalaaaW.PrintWords Go.Proofs.YthjpdljdodalaaaW.PrintLast Go.Proofs.YthjpdljdodalaaaW.PrintMore
attribute [local go_sem] Qa Qb Qx Qy QI QJ Qc Qd
set_option linter.unusedVariables false
set_option linter.unusedSimpArgs false
section
attribute [local go_sem high] zFb
mutual
def zK.l0 : Nat → Int → List (List (zp)) → Option (Bool)
 | 0, _, _ => none
 | k + 1, x3, x102000 => if x3 < (x102000.length : Int) then (if 0 ≤ x3 then (if ((zE x102000 x3).length : Int) = 4 then (zK.l0 k (wrap64 (x3 + 1)) x102000) else (some false)) else (none)) else (zK.l1 k 0 x102000)
def zK.l1 : Nat → Int → List (List (zp)) → Option (Bool)
 | 0, _, _ => none
 | k + 1, x4, x102000 => (zr.f x102000).bind fun t104 => (if x4 < t104 then (zK.l2 k x4 0 x102000) else (some true))
def zK.l2 : Nat → Int → Int → List (List (zp)) → Option (Bool)
 | 0, _, _, _ => none
 | k + 1, x4, x5, x102000 => if x5 < 4 then (if 0 ≤ x4 then (if x4 < (x102000.length : Int) then (if 0 ≤ x5 then (if x5 < ((zE x102000 x4).length : Int) then (if ((zI (zE x102000 x4) x5).f0) = (-1) then (zK.j3 k x4 x5 (((zI (zE x102000 x4) x5).f1) == 0) x102000 ((zI (zE x102000 x4) x5).f0) ((zI (zE x102000 x4) x5).f1)) else (zK.j3 k x4 x5 false x102000 ((zI (zE x102000 x4) x5).f0) ((zI (zE x102000 x4) x5).f1))) else (none)) else (none)) else (none)) else (none)) else (zK.l1 k (wrap64 (x4 + 1)) x102000)
def zK.j3 : Nat → Int → Int → Bool → List (List (zp)) → Int → Int → Option (Bool)
 | 0, _, _, _, _, _, _ => none
 | k + 1, x4, x5, x51, x102000, x108000, x108001 => if x51 = true then (zK.l2 k x4 (wrap64 (x5 + 1)) x102000) else ((zr.f x102000).bind fun t108 => ((QG.f x108000 0 (wrap64 (t108 - 1))).bind fun t109 => (if t109 = true then ((ZS.f x108001).bind fun t110 => (zK.j4 k x4 x5 (!t110) x102000 x108000 x108001)) else (zK.j4 k x4 x5 true x102000 x108000 x108001))))
def zK.j4 : Nat → Int → Int → Bool → List (List (zp)) → Int → Int → Option (Bool)
 | 0, _, _, _, _, _, _ => none
 | k + 1, x4, x5, x64, x102000, x108000, x108001 => if x64 = true then (some false) else ((qp.f k x108001 x5).bind fun t111 => ((qC.f k x108001).bind fun t112 => (if 0 ≤ x108000 then (if x108000 < (x102000.length : Int) then (if 0 ≤ t111 then (if t111 < ((zE x102000 x108000).length : Int) then (if (!(((zI (zE x102000 x108000) t111).f0) == x4) || (!(((zI (zE x102000 x108000) t111).f1) == t112))) = true then (some false) else (if x108000 = x4 then (if t111 = x5 then (some false) else (zK.l2 k x4 (wrap64 (x5 + 1)) x102000)) else (zK.l2 k x4 (wrap64 (x5 + 1)) x102000))) else (none)) else (none)) else (none)) else (none))))
end
def zK.f (k : Nat) (l0_0 : List (List (zp))) : Option (Bool) := (zr.f l0_0).bind fun t102 => (if t102 > 8 then (some false) else (zK.l0 k 0 l0_0))
def zK.T16 : Bool × List (List Nat × List Nat) := (true, [([], []), ([0], [0]), ([], []), ([2], [2]), ([3], [3]), ([1, 4, 3], [1, 4]), ([5], [5]), ([6, 5], [6]), ([7], [7]), ([8, 7], [7, 8]), ([9, 7, 7], [7, 9]), ([10, 7], [7, 10]), ([7, 11], [7, 11])])
def zK.B16 : List Nat := [0, 1, 0, 4, 12, 31, 63, 127, 255, 511, 1023, 2047, 4095]
theorem zK.tab16 : Qs .any (opsOf Try.f101 16) = zK.T16 := by kernel_rfl
theorem zK.zFd : Zk zK.T16.2 zK.B16 = true := by kernel_rfl
def zK.T20 : Bool × List (List Nat × List Nat) := (true, [([], []), ([0], [0]), ([], []), ([2], [2]), ([1, 3], [1, 3]), ([4], [4]), ([], []), ([5, 6], [5, 6]), ([7], [7]), ([], []), ([8, 9], [8, 9]), ([10], [10]), ([11], [11]), ([12, 11], [11, 12]), ([11], [11]), ([13, 14, 11], [11, 13, 14]), ([15, 11, 11], [11, 15]), ([16], [16]), ([16], [16]), ([17, 18, 16], [16, 17, 18]), ([16, 19, 11], [11, 16, 19]), ([11, 20], [11, 20])])
def zK.B20 : List Nat := [0, 1, 0, 4, 15, 31, 0, 127, 255, 0, 1023, 2047, 4095, 8191, 4095, 32767, 65535, 131071, 131071, 524287, 1048575, 2097151]
theorem zK.zFF : Qs .any (opsOf Try.f101 20) = zK.T20 := by kernel_rfl
theorem zK.zDM : Zk zK.T20.2 zK.B20 = true := by kernel_rfl
set_option maxHeartbeats 8000000 in
set_option maxRecDepth 100000 in
theorem zK.calls (k : Nat) (A0_0 : Option Addr) (c0_0 : Nat) (l0_0 : List (List (zp))) (r : Bool) (w : World) (hr0_0 : Kd.C (Kd.slice 115 qw) w A0_0 l0_0.length l0_0) (hc0_0 : l0_0.length ≤ c0_0) (h : zK.f k l0_0 = some r) :
 Calls Try.prog 101 #[.agg #[.slice A0_0 l0_0.length c0_0]] w fun e w' => e = .returned (.bool r) ∧ Below w.heap.size w w' := by
 have hu30 := Try.underlying30
 have hu115 := Try.underlying115
 have HR0_0 := zA.mk hr0_0
 have HC0_0 := zA.mk hc0_0
 clear hr0_0 hc0_0
 have HB := zA.mk (yry w.heap.size w)
 have H : ((zr.f l0_0).bind fun t102 => (if t102 > 8 then (some false) else (zK.l0 k 0 l0_0))) = some r := h
 clear h
 replace H := ydy.mp H
 obtain ⟨t102, A20, H⟩ := H
 replace H : (if t102 > 8 then (some false) else (zK.l0 k 0 l0_0)) = some r := H
 have A2 := zA.mk A20
 clear A20
 by_cases c3 : t102 > 8
 next =>
  rw [if_pos c3] at H
  have c3b0 : decide (8 < t102) = true := ygy c3
  clear c3
  obtain rfl := yey H
  go_enter Try.func101, Try.ntmps101
  go_wp2_with (first | ((with_reducible refine zj (N := 1) rfl ?_); refine zk ?hg (N := 1) ?hd (cs := #[.slice A0_0 l0_0.length c0_0]) (t := 30) ?hr ?_; (case hd => rfl); (case hg => rfl); (case hr => first | (go_simp; done) | (go_simp; rfl)); intro gb101 hg w4 hbox hb; have n0_ := zA.mk (zN (by repeat (first | (with_reducible first | exact HB.out | apply zC | apply zB | apply zD) | exact HB.out)) hb); have n1_ := zA.mk (hbox); have n2_ := zA.mk ((by rw [hg]; exact (zO (by repeat (first | (with_reducible first | exact HB.out | apply zC | apply zB | apply zD) | exact HB.out))) : w.heap.size ≤ gb101)); have n3_ := zA.mk ((by rw [hg]; exact (zO (by repeat (first | (with_reducible first | exact HB.out | apply zC | apply zB | apply zD) | exact HB.out))) : w.heap.size ≤ gb101)); clear HB; have HB := n0_; have BK101 := n1_; have GW101 := n2_; have GE101 := n3_; clear n0_ n1_ n2_ n3_; clear hb hbox hg; have hcz5_0 : w4.cell? ⟨gb101, 0, none⟩ = some (.slice A0_0 l0_0.length c0_0) := (zL BK101.out 0).trans rfl; have hfz5_0 := zM BK101.out 0) | ((with_reducible refine zX (f := 59) rfl ?_); refine qD (some 10) rfl rfl Try.func59 (by kernel_rfl) rfl #[.agg #[.slice A0_0 l0_0.length c0_0]] rfl (by (try simp only [yiy, yjy, yky]); first | done | rfl | (simp only [yly, ymy]; rfl)) ?_; (with_reducible refine (zr.calls _ _ l0_0 t102 _ ?side1 ?side2 A2.out).mono ?_); (case side1 => repeat (first | exact (Kd.qF HR0_0.out HB.out) | (with_reducible refine Kd.zy ?_ _) | (with_reducible refine Kd.zz ?_ _) | (with_reducible refine Kd.qK ?_))); (case side2 => exact HC0_0.out); rintro e w6 ⟨rfl, hb⟩; refine ⟨_, rfl, ?_⟩; have n0_ := zA.mk (zP (g := gb101) (o := .cells #[.slice A0_0 l0_0.length c0_0] 30 (0, 0)) (by (with_reducible repeat (first | refine zH ?_ _ | refine zJ ?_ | refine zG ?_ _)); exact BK101.out) hb); have n1_ := zA.mk (zN (by repeat (first | (with_reducible first | exact HB.out | apply zC | apply zB | apply zD | refine zF ?_ GE101.out) | exact HB.out)) hb); clear BK101; clear HB; have BK101 := n0_; have HB := n1_; clear n0_ n1_; (try clear hb); (try clear hb2); (try clear hk); (try clear hi)))
  go_ret
  exact ⟨by first | rfl | (simp [zY, zZ] <;> rfl) | (simp [*, zY, zZ] <;> rfl), by repeat (first | (with_reducible first | exact HB.out | apply zC | apply zB | apply zD | refine zF ?_ GE101.out) | exact HB.out)⟩
 next =>
  rw [if_neg c3] at H
  have c3b0 : decide (8 < t102) = false := yhy c3
  clear c3
  have H' := zA.mk H
  clear H
  go_enter Try.func101, Try.ntmps101
  go_wp2_with (first | ((with_reducible refine zj (N := 1) rfl ?_); refine zk ?hg (N := 1) ?hd (cs := #[.slice A0_0 l0_0.length c0_0]) (t := 30) ?hr ?_; (case hd => rfl); (case hg => rfl); (case hr => first | (go_simp; done) | (go_simp; rfl)); intro gb101 hg w7 hbox hb; have n0_ := zA.mk (zN (by repeat (first | (with_reducible first | exact HB.out | apply zC | apply zB | apply zD) | exact HB.out)) hb); have n1_ := zA.mk (hbox); have n2_ := zA.mk ((by rw [hg]; exact (zO (by repeat (first | (with_reducible first | exact HB.out | apply zC | apply zB | apply zD) | exact HB.out))) : w.heap.size ≤ gb101)); have n3_ := zA.mk ((by rw [hg]; exact (zO (by repeat (first | (with_reducible first | exact HB.out | apply zC | apply zB | apply zD) | exact HB.out))) : w.heap.size ≤ gb101)); clear HB; have HB := n0_; have BK101 := n1_; have GW101 := n2_; have GE101 := n3_; clear n0_ n1_ n2_ n3_; clear hb hbox hg; have hcz8_0 : w7.cell? ⟨gb101, 0, none⟩ = some (.slice A0_0 l0_0.length c0_0) := (zL BK101.out 0).trans rfl; have hfz8_0 := zM BK101.out 0) | ((with_reducible refine zX (f := 59) rfl ?_); refine qD (some 10) rfl rfl Try.func59 (by kernel_rfl) rfl #[.agg #[.slice A0_0 l0_0.length c0_0]] rfl (by (try simp only [yiy, yjy, yky]); first | done | rfl | (simp only [yly, ymy]; rfl)) ?_; (with_reducible refine (zr.calls _ _ l0_0 t102 _ ?side1 ?side2 A2.out).mono ?_); (case side1 => repeat (first | exact (Kd.qF HR0_0.out HB.out) | (with_reducible refine Kd.zy ?_ _) | (with_reducible refine Kd.zz ?_ _) | (with_reducible refine Kd.qK ?_))); (case side2 => exact HC0_0.out); rintro e w9 ⟨rfl, hb⟩; refine ⟨_, rfl, ?_⟩; have n0_ := zA.mk (zP (g := gb101) (o := .cells #[.slice A0_0 l0_0.length c0_0] 30 (0, 0)) (by (with_reducible repeat (first | refine zH ?_ _ | refine zJ ?_ | refine zG ?_ _)); exact BK101.out) hb); have n1_ := zA.mk (zN (by repeat (first | (with_reducible first | exact HB.out | apply zC | apply zB | apply zD | refine zF ?_ GE101.out) | exact HB.out)) hb); clear BK101; clear HB; have BK101 := n0_; have HB := n1_; clear n0_ n1_; (try clear hb); (try clear hb2); (try clear hk); (try clear hi)))
  go_loopg [3] k (fun kq v3 w' => ∃ (x3_1 : Int), v3 = .int .i64 x3_1 ∧ zA (zK.l0 kq x3_1 l0_0 = some r) ∧ zA (kq ≤ k) ∧ zA (w'.heap[gb101]? = some (.cells #[(.slice A0_0 l0_0.length c0_0)] 30 (0, 0))) ∧ zA (Below w.heap.size w w'))
  case atStart => exact ⟨(0), (by first | rfl | (simp; done) | (simp [*]; done)), H', ⟨yqy _⟩, ⟨by (with_reducible repeat (first | refine zH ?_ _ | refine zJ ?_ | refine zG ?_ _)); exact BK101.out⟩, ⟨by repeat (first | (with_reducible first | exact HB.out | apply zC | apply zB | apply zD | refine zF ?_ GE101.out) | exact HB.out)⟩⟩
  case round =>
   clear H'
   try clear c1
   try clear p2
   try clear c3
   try clear c3b0
   try clear c5
   try clear hcz5_0
   try clear hcz8_0
   try clear hfz5_0
   try clear hfz8_0
   obtain ⟨x3_1, rfl, HA, HK1, BK101, HB⟩ := hrel
   cases gk with
   | zero => exact absurd HA.out (by simp [zK.l0])
   | succ k1 =>
    have H := HA.out
    clear HA
    simp only [zK.l0] at H
    by_cases c10 : x3_1 < (l0_0.length : Int)
    next =>
     rw [if_pos c10] at H
     have c10b0 : decide (x3_1 < (l0_0.length : Int)) = true := ygy c10
     clear c10
     by_cases c11 : 0 ≤ x3_1
     rotate_left
     next =>
      rw [if_neg c11] at H
      exact absurd H (by simp)
     rw [if_pos c11] at H
     have c11b0 : decide (0 ≤ x3_1) = true := ygy c11
     clear c11
     by_cases c12 : ((zE l0_0 x3_1).length : Int) = 4
     rotate_left
     next =>
      rw [if_neg c12] at H
      have c12b0 : (((zE l0_0 x3_1).length : Int) == 4) = false := beq_eq_false_iff_ne.mpr c12
      have c12b1 : (((zE l0_0 x3_1).length : Int) != 4) = true := bne_iff_ne.mpr c12
      obtain rfl := yey H
      have hcz14_0 : wr.cell? ⟨gb101, 0, none⟩ = some (.slice A0_0 l0_0.length c0_0) := (zL BK101.out 0).trans rfl
      have hfz14_0 := zM BK101.out 0
      have p103 : 0 ≤ (x3_1 : Int) := of_decide_eq_true (by first | (with_reducible assumption) | assumption)
      have q103 : x3_1 < (l0_0.length : Int) := of_decide_eq_true (by first | (with_reducible assumption) | assumption)
      obtain ⟨ad103, A103_0, c103_0, e103, hx103_0, hl103_0, hi103_0⟩ := ZY HR0_0.out x3_1 p103 q103
      cases e103
      replace hx103_0 := (HB.out.cell (ypy w _ hx103_0)).trans hx103_0
      have HR103_0 := zA.mk hi103_0
      have HC103_0 := zA.mk hl103_0
      clear hi103_0 hl103_0
      replace p103 := eq_true p103
      replace q103 := eq_true q103
      go_wp2
      go_ret
      exact ⟨by first | rfl | (simp [zY, zZ] <;> rfl) | (simp [*, zY, zZ] <;> rfl), by repeat (first | (with_reducible first | exact HB.out | apply zC | apply zB | apply zD | refine zF ?_ GE101.out) | exact HB.out)⟩
     rw [if_pos c12] at H
     have c12b0 : (((zE l0_0 x3_1).length : Int) == 4) = true := beq_iff_eq.mpr c12
     have c12b1 : (((zE l0_0 x3_1).length : Int) != 4) = false := bne_eq_false_iff_eq.mpr c12
     clear c12
     have H' := zA.mk H
     clear H
     have hcz13_0 : wr.cell? ⟨gb101, 0, none⟩ = some (.slice A0_0 l0_0.length c0_0) := (zL BK101.out 0).trans rfl
     have hfz13_0 := zM BK101.out 0
     have p103 : 0 ≤ (x3_1 : Int) := of_decide_eq_true (by first | (with_reducible assumption) | assumption)
     have q103 : x3_1 < (l0_0.length : Int) := of_decide_eq_true (by first | (with_reducible assumption) | assumption)
     obtain ⟨ad103, A103_0, c103_0, e103, hx103_0, hl103_0, hi103_0⟩ := ZY HR0_0.out x3_1 p103 q103
     cases e103
     replace hx103_0 := (HB.out.cell (ypy w _ hx103_0)).trans hx103_0
     have HR103_0 := zA.mk hi103_0
     have HC103_0 := zA.mk hl103_0
     clear hi103_0 hl103_0
     replace p103 := eq_true p103
     replace q103 := eq_true q103
     go_wp2
     go_roundg k1
     case measure => have := HK1.out; omega
     case rel => exact ⟨(wrap64 (x3_1 + 1)), (by first | rfl | (simp; done) | (simp [*]; done)), H', ⟨by have := HK1.out; omega⟩, ⟨by (with_reducible repeat (first | refine zH ?_ _ | refine zJ ?_ | refine zG ?_ _)); exact BK101.out⟩, ⟨by repeat (first | (with_reducible first | exact HB.out | apply zC | apply zB | apply zD | refine zF ?_ GE101.out) | exact HB.out)⟩⟩
    next =>
     rw [if_neg c10] at H
     have c10b0 : decide (x3_1 < (l0_0.length : Int)) = false := yhy c10
     clear c10
     have H' := zA.mk H
     clear H
     have hcz15_0 : wr.cell? ⟨gb101, 0, none⟩ = some (.slice A0_0 l0_0.length c0_0) := (zL BK101.out 0).trans rfl
     have hfz15_0 := zM BK101.out 0
     go_wp2
     go_loopg [4] k1 (fun kq v4 w' => ∃ (x4_2 : Int), v4 = .int .i64 x4_2 ∧ zA (zK.l1 kq x4_2 l0_0 = some r) ∧ zA (kq ≤ k1) ∧ zA (w'.heap[gb101]? = some (.cells #[(.slice A0_0 l0_0.length c0_0)] 30 (0, 0))) ∧ zA (Below w.heap.size w w'))
     case atStart => exact ⟨(0), (by first | rfl | (simp; done) | (simp [*]; done)), H', ⟨yqy _⟩, ⟨by (with_reducible repeat (first | refine zH ?_ _ | refine zJ ?_ | refine zG ?_ _)); exact BK101.out⟩, ⟨by repeat (first | (with_reducible first | exact HB.out | apply zC | apply zB | apply zD | refine zF ?_ GE101.out) | exact HB.out)⟩⟩
     case round =>
      clear H'
      try clear c1
      try clear p1
      try clear q1
      try clear hx1
      try clear p2
      try clear c3
      try clear c3b0
      try clear c5
      try clear p6
      try clear c10
      try clear c10b0
      try clear p10
      try clear q10
      try clear hx10
      try clear c11
      try clear c11b0
      try clear c12
      try clear c12b0
      try clear c12b1
      try clear hcz13_0
      try clear hcz14_0
      try clear hcz15_0
      try clear hcz5_0
      try clear hcz8_0
      try clear hfz13_0
      try clear hfz14_0
      try clear hfz15_0
      try clear hfz5_0
      try clear hfz8_0
      try clear hx103_0
      try clear p103
      try clear p2
      try clear q103
      obtain ⟨x4_2, rfl, HA, HK2, BK101, HB⟩ := hrel
      cases gk with
      | zero => exact absurd HA.out (by simp [zK.l1])
      | succ k2 =>
       have H := HA.out
       clear HA
       simp only [zK.l1] at H
       replace H := ydy.mp H
       obtain ⟨t104, A160, H⟩ := H
       replace H : (if x4_2 < t104 then (zK.l2 k2 x4_2 0 l0_0) else (some true)) = some r := H
       have A16 := zA.mk A160
       clear A160
       by_cases c17 : x4_2 < t104
       rotate_left
       next =>
        rw [if_neg c17] at H
        have c17b0 : decide (x4_2 < t104) = false := yhy c17
        clear c17
        obtain rfl := yey H
        have hcz99_0 : wr.cell? ⟨gb101, 0, none⟩ = some (.slice A0_0 l0_0.length c0_0) := (zL BK101.out 0).trans rfl
        have hfz99_0 := zM BK101.out 0
        go_wp2_with (first | ((with_reducible refine zX (f := 59) rfl ?_); refine qD (some 28) rfl rfl Try.func59 (by kernel_rfl) rfl #[.agg #[.slice A0_0 l0_0.length c0_0]] rfl (by (try simp only [yiy, yjy, yky]); first | done | rfl | (simp only [yly, ymy]; rfl)) ?_; (with_reducible refine (zr.calls _ _ l0_0 t104 _ ?side1 ?side2 A16.out).mono ?_); (case side1 => repeat (first | exact (Kd.qF HR0_0.out HB.out) | (with_reducible refine Kd.zy ?_ _) | (with_reducible refine Kd.zz ?_ _) | (with_reducible refine Kd.qK ?_))); (case side2 => exact HC0_0.out); rintro e w100 ⟨rfl, hb⟩; refine ⟨_, rfl, ?_⟩; have n0_ := zA.mk (zP (g := gb101) (o := .cells #[.slice A0_0 l0_0.length c0_0] 30 (0, 0)) (by (with_reducible repeat (first | refine zH ?_ _ | refine zJ ?_ | refine zG ?_ _)); exact BK101.out) hb); have n1_ := zA.mk (zN (by repeat (first | (with_reducible first | exact HB.out | apply zC | apply zB | apply zD | refine zF ?_ GE101.out) | exact HB.out)) hb); clear BK101; clear HB; have BK101 := n0_; have HB := n1_; clear n0_ n1_; (try clear hb); (try clear hb2); (try clear hk); (try clear hi)))
        go_ret
        exact ⟨by first | rfl | (simp [zY, zZ] <;> rfl) | (simp [*, zY, zZ] <;> rfl), by repeat (first | (with_reducible first | exact HB.out | apply zC | apply zB | apply zD | refine zF ?_ GE101.out) | exact HB.out)⟩
       rw [if_pos c17] at H
       have c17b0 : decide (x4_2 < t104) = true := ygy c17
       clear c17
       have H' := zA.mk H
       clear H
       have hcz18_0 : wr.cell? ⟨gb101, 0, none⟩ = some (.slice A0_0 l0_0.length c0_0) := (zL BK101.out 0).trans rfl
       have hfz18_0 := zM BK101.out 0
       go_wp2_with (first | ((with_reducible refine zX (f := 59) rfl ?_); refine qD (some 28) rfl rfl Try.func59 (by kernel_rfl) rfl #[.agg #[.slice A0_0 l0_0.length c0_0]] rfl (by (try simp only [yiy, yjy, yky]); first | done | rfl | (simp only [yly, ymy]; rfl)) ?_; (with_reducible refine (zr.calls _ _ l0_0 t104 _ ?side1 ?side2 A16.out).mono ?_); (case side1 => repeat (first | exact (Kd.qF HR0_0.out HB.out) | (with_reducible refine Kd.zy ?_ _) | (with_reducible refine Kd.zz ?_ _) | (with_reducible refine Kd.qK ?_))); (case side2 => exact HC0_0.out); rintro e w19 ⟨rfl, hb⟩; refine ⟨_, rfl, ?_⟩; have n0_ := zA.mk (zP (g := gb101) (o := .cells #[.slice A0_0 l0_0.length c0_0] 30 (0, 0)) (by (with_reducible repeat (first | refine zH ?_ _ | refine zJ ?_ | refine zG ?_ _)); exact BK101.out) hb); have n1_ := zA.mk (zN (by repeat (first | (with_reducible first | exact HB.out | apply zC | apply zB | apply zD | refine zF ?_ GE101.out) | exact HB.out)) hb); clear BK101; clear HB; have BK101 := n0_; have HB := n1_; clear n0_ n1_; (try clear hb); (try clear hb2); (try clear hk); (try clear hi)))
       go_loopg [5] k2 (fun kq v5 w' => ∃ (x5_3 : Int), v5 = .int .i64 x5_3 ∧ zA (zK.l2 kq x4_2 x5_3 l0_0 = some r) ∧ zA (kq ≤ k2) ∧ zA (w'.heap[gb101]? = some (.cells #[(.slice A0_0 l0_0.length c0_0)] 30 (0, 0))) ∧ zA (Below w.heap.size w w'))
       case atStart => exact ⟨(0), (by first | rfl | (simp; done) | (simp [*]; done)), H', ⟨yqy _⟩, ⟨by (with_reducible repeat (first | refine zH ?_ _ | refine zJ ?_ | refine zG ?_ _)); exact BK101.out⟩, ⟨by repeat (first | (with_reducible first | exact HB.out | apply zC | apply zB | apply zD | refine zF ?_ GE101.out) | exact HB.out)⟩⟩
       case round =>
        clear H'
        try clear c1
        try clear p1
        try clear q1
        try clear hx1
        try clear p2
        try clear c3
        try clear c3b0
        try clear c5
        try clear p6
        try clear c10
        try clear c10b0
        try clear p10
        try clear q10
        try clear hx10
        try clear c11
        try clear c11b0
        try clear c12
        try clear c12b0
        try clear c12b1
        try clear c17
        try clear c17b0
        try clear hcz13_0
        try clear hcz14_0
        try clear hcz15_0
        try clear hcz18_0
        try clear hcz5_0
        try clear hcz8_0
        try clear hfz13_0
        try clear hfz14_0
        try clear hfz15_0
        try clear hfz18_0
        try clear hfz5_0
        try clear hfz8_0
        try clear hx103_0
        try clear p1
        try clear p10
        try clear p103
        try clear p2
        try clear p6
        try clear q1
        try clear q10
        try clear q103
        obtain ⟨x5_3, rfl, HA, HK3, BK101, HB⟩ := hrel
        cases gk with
        | zero => exact absurd HA.out (by simp [zK.l2])
        | succ k3 =>
         have H := HA.out
         clear HA
         simp only [zK.l2] at H
         by_cases c20 : x5_3 < 4
         rotate_left
         next =>
          rw [if_neg c20] at H
          have c20b0 : decide (x5_3 < 4) = false := yhy c20
          clear c20
          have H' := zA.mk H
          clear H
          go_wp2
          go_roundg k3
          case measure => have := HK1.out; have := HK2.out; have := HK3.out; omega
          case rel => exact ⟨(wrap64 (x4_2 + 1)), (by first | rfl | (simp; done) | (simp [*]; done)), H', ⟨by have := HK1.out; have := HK2.out; have := HK3.out; omega⟩, ⟨by (with_reducible repeat (first | refine zH ?_ _ | refine zJ ?_ | refine zG ?_ _)); exact BK101.out⟩, ⟨by repeat (first | (with_reducible first | exact HB.out | apply zC | apply zB | apply zD | refine zF ?_ GE101.out) | exact HB.out)⟩⟩
         rw [if_pos c20] at H
         have c20b0 : decide (x5_3 < 4) = true := ygy c20
         clear c20
         by_cases c21 : 0 ≤ x4_2
         rotate_left
         next =>
          rw [if_neg c21] at H
          exact absurd H (by simp)
         rw [if_pos c21] at H
         have c21b0 : decide (0 ≤ x4_2) = true := ygy c21
         clear c21
         by_cases c22 : x4_2 < (l0_0.length : Int)
         rotate_left
         next =>
          rw [if_neg c22] at H
          exact absurd H (by simp)
         rw [if_pos c22] at H
         have c22b0 : decide (x4_2 < (l0_0.length : Int)) = true := ygy c22
         clear c22
         by_cases c23 : 0 ≤ x5_3
         rotate_left
         next =>
          rw [if_neg c23] at H
          exact absurd H (by simp)
         rw [if_pos c23] at H
         have c23b0 : decide (0 ≤ x5_3) = true := ygy c23
         clear c23
         by_cases c24 : x5_3 < ((zE l0_0 x4_2).length : Int)
         rotate_left
         next =>
          rw [if_neg c24] at H
          exact absurd H (by simp)
         rw [if_pos c24] at H
         have c24b0 : decide (x5_3 < ((zE l0_0 x4_2).length : Int)) = true := ygy c24
         clear c24
         have HC25 := zA.mk H
         clear H
         have hcz26_0 : wr.cell? ⟨gb101, 0, none⟩ = some (.slice A0_0 l0_0.length c0_0) := (zL BK101.out 0).trans rfl
         have hfz26_0 := zM BK101.out 0
         have p105 : 0 ≤ (x4_2 : Int) := of_decide_eq_true (by first | (with_reducible assumption) | assumption)
         have q105 : x4_2 < (l0_0.length : Int) := of_decide_eq_true (by first | (with_reducible assumption) | assumption)
         obtain ⟨ad105, A105_0, c105_0, e105, hx105_0, hl105_0, hi105_0⟩ := ZY HR0_0.out x4_2 p105 q105
         cases e105
         replace hx105_0 := (HB.out.cell (ypy w _ hx105_0)).trans hx105_0
         have HR105_0 := zA.mk hi105_0
         have HC105_0 := zA.mk hl105_0
         clear hi105_0 hl105_0
         replace p105 := eq_true p105
         replace q105 := eq_true q105
         have p106 : 0 ≤ (x5_3 : Int) := of_decide_eq_true (by first | (with_reducible assumption) | assumption)
         have q106 : x5_3 < ((zE l0_0 x4_2).length : Int) := of_decide_eq_true (by first | (with_reducible assumption) | assumption)
         obtain ⟨ad106, e106, hx106_0, hx106_1⟩ := QB HR105_0.out x5_3 p106 q106
         cases e106
         replace hx106_0 := (HB.out.cell (ypy w _ hx106_0)).trans hx106_0
         replace hx106_1 := (HB.out.cell (ypy w _ hx106_1)).trans hx106_1
         replace p106 := eq_true p106
         replace q106 := eq_true q106
         go_upto_region 15 with (first | ((with_reducible refine zj (N := 6) rfl ?_); refine zk ?hg (N := 6) ?hd (cs := #[.int .i64 0, .int .i64 0]) (t := 115) ?hr ?_; (case hd => rfl); (case hg => rfl); (case hr => first | (go_simp; done) | (go_simp; rfl)); intro gb107 hg w27 hbox hb; have n0_ := zA.mk (zP (g := gb101) (o := .cells #[.slice (some ad105) l0_0.length c0_0] 30 (0, 0)) (by (with_reducible repeat (first | refine zH ?_ _ | refine zJ ?_ | refine zG ?_ _)); exact BK101.out) hb); have n1_ := zA.mk (zN (by repeat (first | (with_reducible first | exact HB.out | apply zC | apply zB | apply zD | refine zF ?_ GE101.out) | exact HB.out)) hb); have n2_ := zA.mk (hbox); have n3_ := zA.mk ((by rw [hg]; exact (zO (by repeat (first | (with_reducible first | exact HB.out | apply zC | apply zB | apply zD | refine zF ?_ GE101.out) | exact HB.out))) : w.heap.size ≤ gb107)); have n4_ := zA.mk ((by rw [hg]; exact (zO (by repeat (first | (with_reducible first | exact HB.out | apply zC | apply zB | apply zD | refine zF ?_ GE101.out) | exact HB.out))) : w.heap.size ≤ gb107)); have n5_ := zA.mk ((by rw [hg]; exact Nat.ne_of_lt (qP (g := gb101) (o := .cells #[.slice (some ad105) l0_0.length c0_0] 30 (0, 0)) (by (with_reducible repeat (first | refine zH ?_ _ | refine zJ ?_ | refine zG ?_ _)); exact BK101.out)) : gb101 ≠ gb107)); have n6_ := zA.mk ((by rw [hg]; exact Nat.ne_of_gt (qP (g := gb101) (o := .cells #[.slice (some ad105) l0_0.length c0_0] 30 (0, 0)) (by (with_reducible repeat (first | refine zH ?_ _ | refine zJ ?_ | refine zG ?_ _)); exact BK101.out)) : gb107 ≠ gb101)); clear BK101; clear HB; have BK101 := n0_; have HB := n1_; have BK107 := n2_; have GW107 := n3_; have GE107 := n4_; have NB101_107 := n5_; have NB107_101 := n6_; clear n0_ n1_ n2_ n3_ n4_ n5_ n6_; clear hb hbox hg; have hnb28 := NB107_101.out; have hnc28 := NB101_107.out; have hcz29_0 : w27.cell? ⟨gb107, 0, none⟩ = some (.int .i64 0) := (zL BK107.out 0).trans rfl; have hcz29_1 : w27.cell? ⟨gb107, 1, none⟩ = some (.int .i64 0) := (zL BK107.out 1).trans rfl; have hfz29_0 := zM BK107.out 0; have hfz29_1 := zM BK107.out 1))
         (try simp only [Act.put, yay, yby, ycy])
         go_cut [51] (fun v51 wc => ∃ (kq : Nat) (x51_24 : Bool), v51 = .bool x51_24 ∧ zA (zK.j3 kq x4_2 x5_3 x51_24 l0_0 ((zI (zE l0_0 x4_2) x5_3).f0) ((zI (zE l0_0 x4_2) x5_3).f1) = some r) ∧ zA (kq ≤ k3) ∧ zA (wc.heap[gb101]? = some (.cells #[(.slice (some ad105) l0_0.length c0_0)] 30 (0, 0))) ∧ zA (wc.heap[gb107]? = some (.cells #[.int .i64 ((zI (zE l0_0 x4_2) x5_3).f0), .int .i64 ((zI (zE l0_0 x4_2) x5_3).f1)] 115 (0, 0))) ∧ zA (Below w.heap.size w wc))
         case first =>
          have H := HC25.out
          clear HC25
          by_cases c30 : ((zI (zE l0_0 x4_2) x5_3).f0) = (-1)
          rotate_left
          next =>
           rw [if_neg c30] at H
           have c30b0 : (((zI (zE l0_0 x4_2) x5_3).f0) == (-1)) = false := beq_eq_false_iff_ne.mpr c30
           have c30b1 : (((zI (zE l0_0 x4_2) x5_3).f0) != (-1)) = true := bne_iff_ne.mpr c30
           (first | rw [c30b0] | (simp only [za, zb]; rw [c30b0]) | skip)
           have H' := zA.mk H
           clear H
           have hnb33 := NB107_101.out
           have hnc33 := NB101_107.out
           have hcz34_0 : w27.cell? ⟨gb107, 0, none⟩ = some (.int .i64 0) := (zL BK107.out 0).trans rfl
           have hcz34_1 : w27.cell? ⟨gb107, 1, none⟩ = some (.int .i64 0) := (zL BK107.out 1).trans rfl
           have hfz34_0 := zM BK107.out 0
           have hfz34_1 := zM BK107.out 1
           go_wp2
           go_meet
           case rel => exact ⟨_, (false), (by first | rfl | (simp; done) | (simp [*]; done)), H', ⟨by have := HK1.out; have := HK2.out; have := HK3.out; first | omega | exact yqy _⟩, ⟨by (with_reducible repeat (first | refine zH ?_ _ | refine zJ ?_ | refine zG ?_ _)); refine qI ?_ NB101_107.out _; (with_reducible repeat (first | refine zH ?_ _ | refine zJ ?_ | refine zG ?_ _)); refine qI ?_ NB101_107.out _; (with_reducible repeat (first | refine zH ?_ _ | refine zJ ?_ | refine zG ?_ _)); exact BK101.out⟩, ⟨by (with_reducible repeat (first | refine zH ?_ _ | refine zJ ?_ | refine zG ?_ _)); refine qY (cs := #[.int .i64 ((zI (zE l0_0 x4_2) x5_3).f0), .int .i64 0]) ?_ 1 _ rfl; (with_reducible repeat (first | refine zH ?_ _ | refine zJ ?_ | refine zG ?_ _)); refine qY (cs := #[.int .i64 0, .int .i64 0]) ?_ 0 _ rfl; (with_reducible repeat (first | refine zH ?_ _ | refine zJ ?_ | refine zG ?_ _)); exact BK107.out⟩, ⟨by repeat (first | (with_reducible first | exact HB.out | apply zC | apply zB | apply zD | refine zF ?_ GE101.out | refine zF ?_ GE107.out) | exact HB.out)⟩⟩
          rw [if_pos c30] at H
          have c30b0 : (((zI (zE l0_0 x4_2) x5_3).f0) == (-1)) = true := beq_iff_eq.mpr c30
          have c30b1 : (((zI (zE l0_0 x4_2) x5_3).f0) != (-1)) = false := bne_eq_false_iff_eq.mpr c30
          clear c30
          (first | rw [c30b0] | (simp only [za, zb]; rw [c30b0]) | skip)
          have H' := zA.mk H
          clear H
          have hnb31 := NB107_101.out
          have hnc31 := NB101_107.out
          have hcz32_0 : w27.cell? ⟨gb107, 0, none⟩ = some (.int .i64 0) := (zL BK107.out 0).trans rfl
          have hcz32_1 : w27.cell? ⟨gb107, 1, none⟩ = some (.int .i64 0) := (zL BK107.out 1).trans rfl
          have hfz32_0 := zM BK107.out 0
          have hfz32_1 := zM BK107.out 1
          go_wp2
          go_meet
          case rel => exact ⟨_, ((((zI (zE l0_0 x4_2) x5_3).f1) == 0)), (by first | rfl | (simp; done) | (simp [*]; done)), H', ⟨by have := HK1.out; have := HK2.out; have := HK3.out; first | omega | exact yqy _⟩, ⟨by (with_reducible repeat (first | refine zH ?_ _ | refine zJ ?_ | refine zG ?_ _)); refine qI ?_ NB101_107.out _; (with_reducible repeat (first | refine zH ?_ _ | refine zJ ?_ | refine zG ?_ _)); refine qI ?_ NB101_107.out _; (with_reducible repeat (first | refine zH ?_ _ | refine zJ ?_ | refine zG ?_ _)); exact BK101.out⟩, ⟨by (with_reducible repeat (first | refine zH ?_ _ | refine zJ ?_ | refine zG ?_ _)); refine qY (cs := #[.int .i64 ((zI (zE l0_0 x4_2) x5_3).f0), .int .i64 0]) ?_ 1 _ rfl; (with_reducible repeat (first | refine zH ?_ _ | refine zJ ?_ | refine zG ?_ _)); refine qY (cs := #[.int .i64 0, .int .i64 0]) ?_ 0 _ rfl; (with_reducible repeat (first | refine zH ?_ _ | refine zJ ?_ | refine zG ?_ _)); exact BK107.out⟩, ⟨by repeat (first | (with_reducible first | exact HB.out | apply zC | apply zB | apply zD | refine zF ?_ GE101.out | refine zF ?_ GE107.out) | exact HB.out)⟩⟩
         case rest =>
          clear HC25
          try clear c1
          try clear p1
          try clear q1
          try clear hx1
          try clear c2
          try clear p2
          try clear c3
          try clear c3b0
          try clear c5
          try clear p6
          try clear c10
          try clear c10b0
          try clear p10
          try clear q10
          try clear hx10
          try clear c11
          try clear c11b0
          try clear c12
          try clear c12b0
          try clear c12b1
          try clear c17
          try clear c17b0
          try clear c20
          try clear c20b0
          try clear c21
          try clear c21b0
          try clear c22
          try clear c22b0
          try clear c23
          try clear c23b0
          try clear c24
          try clear c24b0
          try clear c28
          try clear c30
          try clear c30b0
          try clear c30b1
          try clear c31
          try clear c33
          try clear hcz13_0
          try clear hcz14_0
          try clear hcz15_0
          try clear hcz18_0
          try clear hcz26_0
          try clear hcz29_0
          try clear hcz29_1
          try clear hcz32_0
          try clear hcz32_1
          try clear hcz34_0
          try clear hcz34_1
          try clear hcz5_0
          try clear hcz8_0
          try clear hfz13_0
          try clear hfz14_0
          try clear hfz15_0
          try clear hfz18_0
          try clear hfz26_0
          try clear hfz29_0
          try clear hfz29_1
          try clear hfz32_0
          try clear hfz32_1
          try clear hfz34_0
          try clear hfz34_1
          try clear hfz5_0
          try clear hfz8_0
          try clear hx103_0
          try clear hx105_0
          try clear hx106_0
          try clear hx106_1
          try clear p1
          try clear p10
          try clear p103
          try clear p105
          try clear p106
          try clear p2
          try clear p6
          try clear q1
          try clear q10
          try clear q103
          try clear q105
          try clear q106
          obtain ⟨kq, x51_24, rfl, HA, HJ24, BK101, BK107, HB⟩ := hcut
          cases kq with
          | zero => exact absurd HA.out (by simp [zK.j3])
          | succ kj24 =>
           have H := HA.out
           clear HA
           simp only [zK.j3] at H
           by_cases c35 : x51_24 = true
           next =>
            subst c35
            have H1 : (zK.l2 kj24 x4_2 (wrap64 (x5_3 + 1)) l0_0) = some r := by rw [if_pos rfl] at H; exact H
            clear H
            have H := H1
            clear H1
            have H' := zA.mk H
            clear H
            go_wp2
            go_roundg kj24
            case measure => have := HK1.out; have := HK2.out; have := HK3.out; have := HJ24.out; omega
            case rel => exact ⟨(wrap64 (x5_3 + 1)), (by first | rfl | (simp; done) | (simp [*]; done)), H', ⟨by have := HK1.out; have := HK2.out; have := HK3.out; have := HJ24.out; omega⟩, ⟨by (with_reducible repeat (first | refine zH ?_ _ | refine zJ ?_ | refine zG ?_ _)); exact BK101.out⟩, ⟨by repeat (first | (with_reducible first | exact HB.out | apply zC | apply zB | apply zD | refine zF ?_ GE101.out | refine zF ?_ GE107.out) | exact HB.out)⟩⟩
           next =>
            replace c35 := Bool.eq_false_iff.mpr c35
            subst c35
            have H1 : ((zr.f l0_0).bind fun t108 => ((QG.f ((zI (zE l0_0 x4_2) x5_3).f0) 0 (wrap64 (t108 - 1))).bind fun t109 => (if t109 = true then ((ZS.f ((zI (zE l0_0 x4_2) x5_3).f1)).bind fun t110 => (zK.j4 kj24 x4_2 x5_3 (!t110) l0_0 ((zI (zE l0_0 x4_2) x5_3).f0) ((zI (zE l0_0 x4_2) x5_3).f1))) else (zK.j4 kj24 x4_2 x5_3 true l0_0 ((zI (zE l0_0 x4_2) x5_3).f0) ((zI (zE l0_0 x4_2) x5_3).f1))))) = some r := by rw [if_neg (show ¬ (false = true) by decide)] at H; exact H
            clear H
            have H := H1
            clear H1
            have HC36 := zA.mk H
            clear H
            go_upto_region 16 with (fail)
            go_cut [64] (fun v64 wc => ∃ (kq : Nat) (x64_35 : Bool), v64 = .bool x64_35 ∧ zA (zK.j4 kq x4_2 x5_3 x64_35 l0_0 ((zI (zE l0_0 x4_2) x5_3).f0) ((zI (zE l0_0 x4_2) x5_3).f1) = some r) ∧ zA (kq ≤ kj24) ∧ zA (wc.heap[gb101]? = some (.cells #[(.slice (some ad105) l0_0.length c0_0)] 30 (0, 0))) ∧ zA (wc.heap[gb107]? = some (.cells #[.int .i64 ((zI (zE l0_0 x4_2) x5_3).f0), .int .i64 ((zI (zE l0_0 x4_2) x5_3).f1)] 115 (0, 0))) ∧ zA (Below w.heap.size w wc))
            case first =>
             have H := HC36.out
             clear HC36
             replace H := ydy.mp H
             obtain ⟨t108, A370, H⟩ := H
             replace H : ((QG.f ((zI (zE l0_0 x4_2) x5_3).f0) 0 (wrap64 (t108 - 1))).bind fun t109 => (if t109 = true then ((ZS.f ((zI (zE l0_0 x4_2) x5_3).f1)).bind fun t110 => (zK.j4 kj24 x4_2 x5_3 (!t110) l0_0 ((zI (zE l0_0 x4_2) x5_3).f0) ((zI (zE l0_0 x4_2) x5_3).f1))) else (zK.j4 kj24 x4_2 x5_3 true l0_0 ((zI (zE l0_0 x4_2) x5_3).f0) ((zI (zE l0_0 x4_2) x5_3).f1)))) = some r := H
             have A37 := zA.mk A370
             clear A370
             replace H := ydy.mp H
             obtain ⟨t109, A380, H⟩ := H
             replace H : (if t109 = true then ((ZS.f ((zI (zE l0_0 x4_2) x5_3).f1)).bind fun t110 => (zK.j4 kj24 x4_2 x5_3 (!t110) l0_0 ((zI (zE l0_0 x4_2) x5_3).f0) ((zI (zE l0_0 x4_2) x5_3).f1))) else (zK.j4 kj24 x4_2 x5_3 true l0_0 ((zI (zE l0_0 x4_2) x5_3).f0) ((zI (zE l0_0 x4_2) x5_3).f1))) = some r := H
             have A38 := zA.mk A380
             clear A380
             by_cases c39 : t109 = true
             rotate_left
             next =>
              replace c39 := Bool.eq_false_iff.mpr c39
              subst c39
              have H1 : (zK.j4 kj24 x4_2 x5_3 true l0_0 ((zI (zE l0_0 x4_2) x5_3).f0) ((zI (zE l0_0 x4_2) x5_3).f1)) = some r := by rw [if_neg (show ¬ (false = true) by decide)] at H; exact H
              clear H
              have H := H1
              clear H1
              have H' := zA.mk H
              clear H
              try go_wp2
              have n0_ := zA.mk (zJ BK101.out)
              have n1_ := zA.mk (zJ BK107.out)
              have n2_ := zA.mk (zD HB.out)
              clear BK101
              clear BK107
              clear HB
              have BK101 := n0_
              have BK107 := n1_
              have HB := n2_
              clear n0_ n1_ n2_
              refine Zw (n := 13) (S := fun w' => w'.cell? ⟨gb107, 0, none⟩ = some (.int .i64 ((zI (zE l0_0 x4_2) x5_3).f0)) ∧ w'.cell? ⟨gb107, 1, none⟩ = some (.int .i64 ((zI (zE l0_0 x4_2) x5_3).f1)) ∧ w'.cell? ⟨gb101, 0, none⟩ = some (.slice (some ad105) l0_0.length c0_0)) (ds := []) #[false, false, false, false, false, false, false, false, false, false, false, false, false] (by kernel_rfl) rfl rfl ⟨(zL BK107.out 0).trans rfl, (zL BK107.out 1).trans rfl, (zL BK101.out 0).trans rfl⟩ (fun hHeld => ?_); refine ZE zK.tab16 zK.zFd (fun HT_ HW_ => ?_)
              generalize wc.drew = w43 at BK101 BK107 HB hHeld ⊢
              refine zg (i := 0) (N := some 52) (v := ?_) (a' := ?_) #[true, false, false, false, false, false, false, false, false, false, false, false, false] rfl rfl (zd HT_.out (by kernel_rfl)) (fun _ _ _ h => h) (Or.inl ⟨by rfl, ?_⟩) ?_ ?_
              rotate_left
              next =>
               intro w'
               go_simp
               with_reducible rfl
              rotate_left
              next =>
               simp only [Act.put, yay, yby, ycy, za, zb]
               rfl
              refine qq (i := 1) (N := some 53) (v := ?_) (a' := ?_) #[true, true, false, false, false, false, false, false, false, false, false, false, false] rfl rfl (zx HT_.out HW_.out (by kernel_rfl)) (fun _ _ _ h => h) (Or.inl ⟨by rfl, ?_⟩) hHeld ?_ ?_
              rotate_left
              next =>
               rintro w' ⟨s0, s1, s2⟩
               go_simp
               with_reducible rfl
              rotate_left
              next =>
               simp only [Act.put, yay, yby, ycy, za, zb]
               rfl
              refine qq (i := 2) (N := some 54) (v := ?_) (a' := ?_) #[true, true, true, false, false, false, false, false, false, false, false, false, false] rfl rfl (zx HT_.out HW_.out (by kernel_rfl)) (fun _ _ _ h => h) (Or.inl ⟨by rfl, ?_⟩) hHeld ?_ ?_
              rotate_left
              next =>
               rintro w' ⟨s0, s1, s2⟩
               go_simp
               with_reducible rfl
              rotate_left
              next =>
               simp only [Act.put, yay, yby, ycy, za, zb]
               rfl
              refine zA1 (i := 3) (N := some 55) #[true, true, true, true, false, false, false, false, false, false, false, false, false] rfl rfl (Zj HT_.out (by kernel_rfl)) (by decide) (fun K hK => ?_)
              refine Qh Try.func59 (by kernel_rfl) rfl #[.agg #[.slice (some ad105) l0_0.length c0_0]] (by rfl) rfl rfl (by (try simp only [yiy, yjy, yky]); first | done | rfl | (simp only [yly, ymy]; rfl)) ?_
              with_reducible refine (zr.calls _ _ l0_0 t108 _ ?side1 ?side2 A37.out).mono ?_
              (case side1 => repeat (first | exact (Kd.qF HR0_0.out HB.out) | (with_reducible refine Kd.zy ?_ _) | (with_reducible refine Kd.zz ?_ _) | (with_reducible refine Kd.qK ?_)))
              (case side2 => exact HC0_0.out)
              rintro e w44 ⟨rfl, hb⟩
              refine ⟨_, rfl, ?_⟩
              have n0_ := zA.mk (zP (g := gb101) (o := .cells #[.slice (some ad105) l0_0.length c0_0] 30 (0, 0)) (by (with_reducible repeat (first | refine zH ?_ _ | refine zJ ?_ | refine zG ?_ _)); exact BK101.out) hb)
              have n1_ := zA.mk (zP (g := gb107) (o := .cells #[.int .i64 ((zI (zE l0_0 x4_2) x5_3).f0), .int .i64 ((zI (zE l0_0 x4_2) x5_3).f1)] 115 (0, 0)) (by (with_reducible repeat (first | refine zH ?_ _ | refine zJ ?_ | refine zG ?_ _)); exact BK107.out) hb)
              have n2_ := zA.mk (zN (by repeat (first | (with_reducible first | exact HB.out | apply zC | apply zB | apply zD | refine zF ?_ GE101.out | refine zF ?_ GE107.out) | exact HB.out)) hb)
              clear BK101
              clear BK107
              clear HB
              have BK101 := n0_
              have BK107 := n1_
              have HB := n2_
              clear n0_ n1_ n2_
              (try clear hb)
              (try clear hb2)
              (try clear hk)
              (try clear hi)
              refine hK.out _ _ ⟨(zL BK107.out 0).trans rfl, (zL BK107.out 1).trans rfl, (zL BK101.out 0).trans rfl⟩ (fun hHeld => ?_)
              clear hK K
              refine QN (a' := ?_) ?_ ?_
              rotate_left
              next =>
               show Act.put _ (some 55) _ = _
               simp only [Act.put, yay, yby, ycy, za, zb]
               rfl
              refine zg (i := 4) (N := some 56) (v := ?_) (a' := ?_) #[true, true, true, true, true, false, false, false, false, false, false, false, false] rfl rfl (zd HT_.out (by kernel_rfl)) (fun _ _ _ h => h) (Or.inl ⟨by rfl, ?_⟩) ?_ ?_
              rotate_left
              next =>
               intro w'
               go_simp
               with_reducible rfl
              rotate_left
              next =>
               simp only [Act.put, yay, yby, ycy, za, zb]
               rfl
              refine zA1 (i := 5) (N := some 57) #[true, true, true, true, true, true, false, false, false, false, false, false, false] rfl rfl (Zj HT_.out (by kernel_rfl)) (by decide) (fun K hK => ?_)
              refine Qh Try.func139 (by kernel_rfl) rfl #[.int .i64 ((zI (zE l0_0 x4_2) x5_3).f0), .int .i64 0, .int .i64 (wrap64 (t108 - 1))] (by rfl) rfl rfl (by (try simp only [yiy, yjy, yky]); first | done | rfl | (simp only [yly, ymy]; rfl)) ?_
              with_reducible refine (QG.calls ((zI (zE l0_0 x4_2) x5_3).f0) 0 (wrap64 (t108 - 1)) false _ A38.out).mono ?_
              rintro e w' ⟨rfl, ⟨nd, rfl⟩⟩
              refine ⟨_, rfl, ?_⟩
              refine hK.out _ _ ⟨(zL BK107.out 0).trans rfl, (zL BK107.out 1).trans rfl, (zL BK101.out 0).trans rfl⟩ (fun hHeld => ?_)
              clear hK K
              refine QN (a' := ?_) ?_ ?_
              rotate_left
              next =>
               show Act.put _ (some 57) _ = _
               simp only [Act.put, yay, yby, ycy, za, zb]
               rfl
              refine zg (i := 6) (N := some 58) (v := ?_) (a' := ?_) #[true, true, true, true, true, true, true, false, false, false, false, false, false] rfl rfl (zd HT_.out (by kernel_rfl)) (fun _ _ _ h => h) (Or.inl ⟨by rfl, ?_⟩) ?_ ?_
              rotate_left
              next =>
               intro w'
               go_simp
               with_reducible rfl
              rotate_left
              next =>
               simp only [Act.put, yay, yby, ycy, za, zb]
               rfl
              refine zg (i := 7) (N := some 59) (v := ?_) (a' := ?_) #[true, true, true, true, true, true, true, true, false, false, false, false, false] rfl rfl (zd HT_.out (by kernel_rfl)) (fun _ _ _ h => h) (Or.inl ⟨by rfl, ?_⟩) ?_ ?_
              rotate_left
              next =>
               intro w'
               go_simp
               with_reducible rfl
              rotate_left
              next =>
               simp only [Act.put, yay, yby, ycy, za, zb]
               rfl
              refine zg (i := 8) (N := some 60) (v := undef) (a' := ?_) #[true, true, true, true, true, true, true, true, true, false, false, false, false] rfl rfl (zd HT_.out (by kernel_rfl)) (fun _ _ _ h => h) (Or.inr ⟨by rfl, rfl⟩) ?_ ?_
              rotate_left
              next =>
               simp only [Act.put, yay, yby, ycy, za, zb]
               rfl
              refine zg (i := 9) (N := some 61) (v := undef) (a' := ?_) #[true, true, true, true, true, true, true, true, true, true, false, false, false] rfl rfl (zd HT_.out (by kernel_rfl)) (fun _ _ _ h => h) (Or.inr ⟨by rfl, rfl⟩) ?_ ?_
              rotate_left
              next =>
               simp only [Act.put, yay, yby, ycy, za, zb]
               rfl
              refine zg (i := 10) (N := some 62) (v := undef) (a' := ?_) #[true, true, true, true, true, true, true, true, true, true, true, false, false] rfl rfl (zd HT_.out (by kernel_rfl)) (fun _ _ _ h => h) (Or.inr ⟨by rfl, rfl⟩) ?_ ?_
              rotate_left
              next =>
               simp only [Act.put, yay, yby, ycy, za, zb]
               rfl
              refine zg (i := 11) (N := some 63) (v := undef) (a' := ?_) #[true, true, true, true, true, true, true, true, true, true, true, true, false] rfl rfl (zd HT_.out (by kernel_rfl)) (fun _ _ _ h => h) (Or.inr ⟨by rfl, rfl⟩) ?_ ?_
              rotate_left
              next =>
               simp only [Act.put, yay, yby, ycy, za, zb]
               rfl
              refine zg (i := 12) (N := some 64) (v := ?_) (a' := ?_) #[true, true, true, true, true, true, true, true, true, true, true, true, true] rfl rfl (zd HT_.out (by kernel_rfl)) (fun _ _ _ h => h) (Or.inl ⟨by rfl, ?_⟩) ?_ ?_
              rotate_left
              next =>
               intro w'
               go_simp
               with_reducible rfl
              rotate_left
              next =>
               simp only [Act.put, yay, yby, ycy, za, zb]
               rfl
              refine Qn (Zm HT_.out (by kernel_rfl)) ?_
              try go_wp2
              go_meet
              case rel => exact ⟨_, (true), (by first | rfl | (simp; done) | (simp [*]; done)), H', ⟨by have := HK1.out; have := HK2.out; have := HK3.out; have := HJ24.out; first | omega | exact yqy _⟩, ⟨by (with_reducible repeat (first | refine zH ?_ _ | refine zJ ?_ | refine zG ?_ _)); exact BK101.out⟩, ⟨by (with_reducible repeat (first | refine zH ?_ _ | refine zJ ?_ | refine zG ?_ _)); exact BK107.out⟩, ⟨by repeat (first | (with_reducible first | exact HB.out | apply zC | apply zB | apply zD | refine zF ?_ GE101.out | refine zF ?_ GE107.out) | exact HB.out)⟩⟩
             subst c39
             have H1 : ((ZS.f ((zI (zE l0_0 x4_2) x5_3).f1)).bind fun t110 => (zK.j4 kj24 x4_2 x5_3 (!t110) l0_0 ((zI (zE l0_0 x4_2) x5_3).f0) ((zI (zE l0_0 x4_2) x5_3).f1))) = some r := by rw [if_pos rfl] at H; exact H
             clear H
             have H := H1
             clear H1
             replace H := ydy.mp H
             obtain ⟨t110, A400, H⟩ := H
             replace H : (zK.j4 kj24 x4_2 x5_3 (!t110) l0_0 ((zI (zE l0_0 x4_2) x5_3).f0) ((zI (zE l0_0 x4_2) x5_3).f1)) = some r := H
             have A40 := zA.mk A400
             clear A400
             have H' := zA.mk H
             clear H
             try go_wp2
             have n0_ := zA.mk (zJ BK101.out)
             have n1_ := zA.mk (zJ BK107.out)
             have n2_ := zA.mk (zD HB.out)
             clear BK101
             clear BK107
             clear HB
             have BK101 := n0_
             have BK107 := n1_
             have HB := n2_
             clear n0_ n1_ n2_
             refine Zw (n := 13) (S := fun w' => w'.cell? ⟨gb107, 0, none⟩ = some (.int .i64 ((zI (zE l0_0 x4_2) x5_3).f0)) ∧ w'.cell? ⟨gb107, 1, none⟩ = some (.int .i64 ((zI (zE l0_0 x4_2) x5_3).f1)) ∧ w'.cell? ⟨gb101, 0, none⟩ = some (.slice (some ad105) l0_0.length c0_0)) (ds := []) #[false, false, false, false, false, false, false, false, false, false, false, false, false] (by kernel_rfl) rfl rfl ⟨(zL BK107.out 0).trans rfl, (zL BK107.out 1).trans rfl, (zL BK101.out 0).trans rfl⟩ (fun hHeld => ?_); refine ZE zK.tab16 zK.zFd (fun HT_ HW_ => ?_)
             generalize wc.drew = w41 at BK101 BK107 HB hHeld ⊢
             refine zg (i := 0) (N := some 52) (v := ?_) (a' := ?_) #[true, false, false, false, false, false, false, false, false, false, false, false, false] rfl rfl (zd HT_.out (by kernel_rfl)) (fun _ _ _ h => h) (Or.inl ⟨by rfl, ?_⟩) ?_ ?_
             rotate_left
             next =>
              intro w'
              go_simp
              with_reducible rfl
             rotate_left
             next =>
              simp only [Act.put, yay, yby, ycy, za, zb]
              rfl
             refine qq (i := 1) (N := some 53) (v := ?_) (a' := ?_) #[true, true, false, false, false, false, false, false, false, false, false, false, false] rfl rfl (zx HT_.out HW_.out (by kernel_rfl)) (fun _ _ _ h => h) (Or.inl ⟨by rfl, ?_⟩) hHeld ?_ ?_
             rotate_left
             next =>
              rintro w' ⟨s0, s1, s2⟩
              go_simp
              with_reducible rfl
             rotate_left
             next =>
              simp only [Act.put, yay, yby, ycy, za, zb]
              rfl
             refine qq (i := 2) (N := some 54) (v := ?_) (a' := ?_) #[true, true, true, false, false, false, false, false, false, false, false, false, false] rfl rfl (zx HT_.out HW_.out (by kernel_rfl)) (fun _ _ _ h => h) (Or.inl ⟨by rfl, ?_⟩) hHeld ?_ ?_
             rotate_left
             next =>
              rintro w' ⟨s0, s1, s2⟩
              go_simp
              with_reducible rfl
             rotate_left
             next =>
              simp only [Act.put, yay, yby, ycy, za, zb]
              rfl
             refine zA1 (i := 3) (N := some 55) #[true, true, true, true, false, false, false, false, false, false, false, false, false] rfl rfl (Zj HT_.out (by kernel_rfl)) (by decide) (fun K hK => ?_)
             refine Qh Try.func59 (by kernel_rfl) rfl #[.agg #[.slice (some ad105) l0_0.length c0_0]] (by rfl) rfl rfl (by (try simp only [yiy, yjy, yky]); first | done | rfl | (simp only [yly, ymy]; rfl)) ?_
             with_reducible refine (zr.calls _ _ l0_0 t108 _ ?side1 ?side2 A37.out).mono ?_
             (case side1 => repeat (first | exact (Kd.qF HR0_0.out HB.out) | (with_reducible refine Kd.zy ?_ _) | (with_reducible refine Kd.zz ?_ _) | (with_reducible refine Kd.qK ?_)))
             (case side2 => exact HC0_0.out)
             rintro e w42 ⟨rfl, hb⟩
             refine ⟨_, rfl, ?_⟩
             have n0_ := zA.mk (zP (g := gb101) (o := .cells #[.slice (some ad105) l0_0.length c0_0] 30 (0, 0)) (by (with_reducible repeat (first | refine zH ?_ _ | refine zJ ?_ | refine zG ?_ _)); exact BK101.out) hb)
             have n1_ := zA.mk (zP (g := gb107) (o := .cells #[.int .i64 ((zI (zE l0_0 x4_2) x5_3).f0), .int .i64 ((zI (zE l0_0 x4_2) x5_3).f1)] 115 (0, 0)) (by (with_reducible repeat (first | refine zH ?_ _ | refine zJ ?_ | refine zG ?_ _)); exact BK107.out) hb)
             have n2_ := zA.mk (zN (by repeat (first | (with_reducible first | exact HB.out | apply zC | apply zB | apply zD | refine zF ?_ GE101.out | refine zF ?_ GE107.out) | exact HB.out)) hb)
             clear BK101
             clear BK107
             clear HB
             have BK101 := n0_
             have BK107 := n1_
             have HB := n2_
             clear n0_ n1_ n2_
             (try clear hb)
             (try clear hb2)
             (try clear hk)
             (try clear hi)
             refine hK.out _ _ ⟨(zL BK107.out 0).trans rfl, (zL BK107.out 1).trans rfl, (zL BK101.out 0).trans rfl⟩ (fun hHeld => ?_)
             clear hK K
             refine QN (a' := ?_) ?_ ?_
             rotate_left
             next =>
              show Act.put _ (some 55) _ = _
              simp only [Act.put, yay, yby, ycy, za, zb]
              rfl
             refine zg (i := 4) (N := some 56) (v := ?_) (a' := ?_) #[true, true, true, true, true, false, false, false, false, false, false, false, false] rfl rfl (zd HT_.out (by kernel_rfl)) (fun _ _ _ h => h) (Or.inl ⟨by rfl, ?_⟩) ?_ ?_
             rotate_left
             next =>
              intro w'
              go_simp
              with_reducible rfl
             rotate_left
             next =>
              simp only [Act.put, yay, yby, ycy, za, zb]
              rfl
             refine zA1 (i := 5) (N := some 57) #[true, true, true, true, true, true, false, false, false, false, false, false, false] rfl rfl (Zj HT_.out (by kernel_rfl)) (by decide) (fun K hK => ?_)
             refine Qh Try.func139 (by kernel_rfl) rfl #[.int .i64 ((zI (zE l0_0 x4_2) x5_3).f0), .int .i64 0, .int .i64 (wrap64 (t108 - 1))] (by rfl) rfl rfl (by (try simp only [yiy, yjy, yky]); first | done | rfl | (simp only [yly, ymy]; rfl)) ?_
             with_reducible refine (QG.calls ((zI (zE l0_0 x4_2) x5_3).f0) 0 (wrap64 (t108 - 1)) true _ A38.out).mono ?_
             rintro e w' ⟨rfl, ⟨nd, rfl⟩⟩
             refine ⟨_, rfl, ?_⟩
             refine hK.out _ _ ⟨(zL BK107.out 0).trans rfl, (zL BK107.out 1).trans rfl, (zL BK101.out 0).trans rfl⟩ (fun hHeld => ?_)
             clear hK K
             refine QN (a' := ?_) ?_ ?_
             rotate_left
             next =>
              show Act.put _ (some 57) _ = _
              simp only [Act.put, yay, yby, ycy, za, zb]
              rfl
             refine zg (i := 6) (N := some 58) (v := ?_) (a' := ?_) #[true, true, true, true, true, true, true, false, false, false, false, false, false] rfl rfl (zd HT_.out (by kernel_rfl)) (fun _ _ _ h => h) (Or.inl ⟨by rfl, ?_⟩) ?_ ?_
             rotate_left
             next =>
              intro w'
              go_simp
              with_reducible rfl
             rotate_left
             next =>
              simp only [Act.put, yay, yby, ycy, za, zb]
              rfl
             refine zg (i := 7) (N := some 59) (v := ?_) (a' := ?_) #[true, true, true, true, true, true, true, true, false, false, false, false, false] rfl rfl (zd HT_.out (by kernel_rfl)) (fun _ _ _ h => h) (Or.inl ⟨by rfl, ?_⟩) ?_ ?_
             rotate_left
             next =>
              intro w'
              go_simp
              with_reducible rfl
             rotate_left
             next =>
              simp only [Act.put, yay, yby, ycy, za, zb]
              rfl
             refine zg (i := 8) (N := some 60) (v := ?_) (a' := ?_) #[true, true, true, true, true, true, true, true, true, false, false, false, false] rfl rfl (zd HT_.out (by kernel_rfl)) (fun _ _ _ h => h) (Or.inl ⟨by rfl, ?_⟩) ?_ ?_
             rotate_left
             next =>
              intro w'
              go_simp
              with_reducible rfl
             rotate_left
             next =>
              simp only [Act.put, yay, yby, ycy, za, zb]
              rfl
             refine qq (i := 9) (N := some 61) (v := ?_) (a' := ?_) #[true, true, true, true, true, true, true, true, true, true, false, false, false] rfl rfl (zx HT_.out HW_.out (by kernel_rfl)) (fun _ _ _ h => h) (Or.inl ⟨by rfl, ?_⟩) hHeld ?_ ?_
             rotate_left
             next =>
              rintro w' ⟨s0, s1, s2⟩
              go_simp
              with_reducible rfl
             rotate_left
             next =>
              simp only [Act.put, yay, yby, ycy, za, zb]
              rfl
             refine zA1 (i := 10) (N := some 62) #[true, true, true, true, true, true, true, true, true, true, true, false, false] rfl rfl (Zj HT_.out (by kernel_rfl)) (by decide) (fun K hK => ?_)
             refine Qh Try.func140 (by kernel_rfl) rfl #[.int .i64 ((zI (zE l0_0 x4_2) x5_3).f1)] (by rfl) rfl rfl (by (try simp only [yiy, yjy, yky]); first | done | rfl | (simp only [yly, ymy]; rfl)) ?_
             with_reducible refine (ZS.calls ((zI (zE l0_0 x4_2) x5_3).f1) t110 _ A40.out).mono ?_
             rintro e w' ⟨rfl, ⟨nd, rfl⟩⟩
             refine ⟨_, rfl, ?_⟩
             refine hK.out _ _ ⟨(zL BK107.out 0).trans rfl, (zL BK107.out 1).trans rfl, (zL BK101.out 0).trans rfl⟩ (fun hHeld => ?_)
             clear hK K
             refine QN (a' := ?_) ?_ ?_
             rotate_left
             next =>
              show Act.put _ (some 62) _ = _
              simp only [Act.put, yay, yby, ycy, za, zb]
              rfl
             refine zg (i := 11) (N := some 63) (v := ?_) (a' := ?_) #[true, true, true, true, true, true, true, true, true, true, true, true, false] rfl rfl (zd HT_.out (by kernel_rfl)) (fun _ _ _ h => h) (Or.inl ⟨by rfl, ?_⟩) ?_ ?_
             rotate_left
             next =>
              intro w'
              go_simp
              with_reducible rfl
             rotate_left
             next =>
              simp only [Act.put, yay, yby, ycy, za, zb]
              rfl
             refine zg (i := 12) (N := some 64) (v := ?_) (a' := ?_) #[true, true, true, true, true, true, true, true, true, true, true, true, true] rfl rfl (zd HT_.out (by kernel_rfl)) (fun _ _ _ h => h) (Or.inl ⟨by rfl, ?_⟩) ?_ ?_
             rotate_left
             next =>
              intro w'
              go_simp
              with_reducible rfl
             rotate_left
             next =>
              simp only [Act.put, yay, yby, ycy, za, zb]
              rfl
             refine Qn (Zm HT_.out (by kernel_rfl)) ?_
             try go_wp2
             go_meet
             case rel => exact ⟨_, (!t110), (by first | rfl | (simp; done) | (simp [*]; done)), H', ⟨by have := HK1.out; have := HK2.out; have := HK3.out; have := HJ24.out; first | omega | exact yqy _⟩, ⟨by (with_reducible repeat (first | refine zH ?_ _ | refine zJ ?_ | refine zG ?_ _)); exact BK101.out⟩, ⟨by (with_reducible repeat (first | refine zH ?_ _ | refine zJ ?_ | refine zG ?_ _)); exact BK107.out⟩, ⟨by repeat (first | (with_reducible first | exact HB.out | apply zC | apply zB | apply zD | refine zF ?_ GE101.out | refine zF ?_ GE107.out) | exact HB.out)⟩⟩
            case rest =>
             clear HC36
             try clear c1
             try clear p1
             try clear q1
             try clear hx1
             try clear c2
             try clear p2
             try clear c3
             try clear c3b0
             try clear c5
             try clear p6
             try clear c10
             try clear c10b0
             try clear p10
             try clear q10
             try clear hx10
             try clear c11
             try clear c11b0
             try clear c12
             try clear c12b0
             try clear c12b1
             try clear c13
             try clear c14
             try clear c17
             try clear c17b0
             try clear c20
             try clear c20b0
             try clear c21
             try clear c21b0
             try clear c22
             try clear c22b0
             try clear c23
             try clear c23b0
             try clear c24
             try clear c24b0
             try clear c28
             try clear c30
             try clear c30b0
             try clear c30b1
             try clear c31
             try clear c33
             try clear c35
             try clear c39
             try clear hcz13_0
             try clear hcz14_0
             try clear hcz15_0
             try clear hcz18_0
             try clear hcz26_0
             try clear hcz29_0
             try clear hcz29_1
             try clear hcz32_0
             try clear hcz32_1
             try clear hcz34_0
             try clear hcz34_1
             try clear hcz5_0
             try clear hcz8_0
             try clear hfz13_0
             try clear hfz14_0
             try clear hfz15_0
             try clear hfz18_0
             try clear hfz26_0
             try clear hfz29_0
             try clear hfz29_1
             try clear hfz32_0
             try clear hfz32_1
             try clear hfz34_0
             try clear hfz34_1
             try clear hfz5_0
             try clear hfz8_0
             try clear hx103_0
             try clear hx105_0
             try clear hx106_0
             try clear hx106_1
             try clear p1
             try clear p10
             try clear p103
             try clear p105
             try clear p106
             try clear p2
             try clear p6
             try clear q1
             try clear q10
             try clear q103
             try clear q105
             try clear q106
             obtain ⟨kq, x64_35, rfl, HA, HJ35, BK101, BK107, HB⟩ := hcut
             cases kq with
             | zero => exact absurd HA.out (by simp [zK.j4])
             | succ kj35 =>
              have H := HA.out
              clear HA
              simp only [zK.j4] at H
              by_cases c45 : x64_35 = true
              next =>
               subst c45
               have H1 : (some false) = some r := by rw [if_pos rfl] at H; exact H
               clear H
               have H := H1
               clear H1
               obtain rfl := yey H
               go_wp2
               go_ret
               exact ⟨by first | rfl | (simp [zY, zZ] <;> rfl) | (simp [*, zY, zZ] <;> rfl), by repeat (first | (with_reducible first | exact HB.out | apply zC | apply zB | apply zD | refine zF ?_ GE101.out | refine zF ?_ GE107.out) | exact HB.out)⟩
              next =>
               replace c45 := Bool.eq_false_iff.mpr c45
               subst c45
               have H1 : ((qp.f kj35 ((zI (zE l0_0 x4_2) x5_3).f1) x5_3).bind fun t111 => ((qC.f kj35 ((zI (zE l0_0 x4_2) x5_3).f1)).bind fun t112 => (if 0 ≤ ((zI (zE l0_0 x4_2) x5_3).f0) then (if ((zI (zE l0_0 x4_2) x5_3).f0) < (l0_0.length : Int) then (if 0 ≤ t111 then (if t111 < ((zE l0_0 ((zI (zE l0_0 x4_2) x5_3).f0)).length : Int) then (if (!(((zI (zE l0_0 ((zI (zE l0_0 x4_2) x5_3).f0)) t111).f0) == x4_2) || (!(((zI (zE l0_0 ((zI (zE l0_0 x4_2) x5_3).f0)) t111).f1) == t112))) = true then (some false) else (if ((zI (zE l0_0 x4_2) x5_3).f0) = x4_2 then (if t111 = x5_3 then (some false) else (zK.l2 kj35 x4_2 (wrap64 (x5_3 + 1)) l0_0)) else (zK.l2 kj35 x4_2 (wrap64 (x5_3 + 1)) l0_0))) else (none)) else (none)) else (none)) else (none)))) = some r := by rw [if_neg (show ¬ (false = true) by decide)] at H; exact H
               clear H
               have H := H1
               clear H1
               replace H := ydy.mp H
               obtain ⟨t111, A460, H⟩ := H
               replace H : ((qC.f kj35 ((zI (zE l0_0 x4_2) x5_3).f1)).bind fun t112 => (if 0 ≤ ((zI (zE l0_0 x4_2) x5_3).f0) then (if ((zI (zE l0_0 x4_2) x5_3).f0) < (l0_0.length : Int) then (if 0 ≤ t111 then (if t111 < ((zE l0_0 ((zI (zE l0_0 x4_2) x5_3).f0)).length : Int) then (if (!(((zI (zE l0_0 ((zI (zE l0_0 x4_2) x5_3).f0)) t111).f0) == x4_2) || (!(((zI (zE l0_0 ((zI (zE l0_0 x4_2) x5_3).f0)) t111).f1) == t112))) = true then (some false) else (if ((zI (zE l0_0 x4_2) x5_3).f0) = x4_2 then (if t111 = x5_3 then (some false) else (zK.l2 kj35 x4_2 (wrap64 (x5_3 + 1)) l0_0)) else (zK.l2 kj35 x4_2 (wrap64 (x5_3 + 1)) l0_0))) else (none)) else (none)) else (none)) else (none))) = some r := H
               have A46 := zA.mk A460
               clear A460
               replace H := ydy.mp H
               obtain ⟨t112, A470, H⟩ := H
               replace H : (if 0 ≤ ((zI (zE l0_0 x4_2) x5_3).f0) then (if ((zI (zE l0_0 x4_2) x5_3).f0) < (l0_0.length : Int) then (if 0 ≤ t111 then (if t111 < ((zE l0_0 ((zI (zE l0_0 x4_2) x5_3).f0)).length : Int) then (if (!(((zI (zE l0_0 ((zI (zE l0_0 x4_2) x5_3).f0)) t111).f0) == x4_2) || (!(((zI (zE l0_0 ((zI (zE l0_0 x4_2) x5_3).f0)) t111).f1) == t112))) = true then (some false) else (if ((zI (zE l0_0 x4_2) x5_3).f0) = x4_2 then (if t111 = x5_3 then (some false) else (zK.l2 kj35 x4_2 (wrap64 (x5_3 + 1)) l0_0)) else (zK.l2 kj35 x4_2 (wrap64 (x5_3 + 1)) l0_0))) else (none)) else (none)) else (none)) else (none)) = some r := H
               have A47 := zA.mk A470
               clear A470
               by_cases c48 : 0 ≤ ((zI (zE l0_0 x4_2) x5_3).f0)
               rotate_left
               next =>
                rw [if_neg c48] at H
                exact absurd H (by simp)
               rw [if_pos c48] at H
               have c48b0 : decide (0 ≤ ((zI (zE l0_0 x4_2) x5_3).f0)) = true := ygy c48
               clear c48
               by_cases c49 : ((zI (zE l0_0 x4_2) x5_3).f0) < (l0_0.length : Int)
               rotate_left
               next =>
                rw [if_neg c49] at H
                exact absurd H (by simp)
               rw [if_pos c49] at H
               have c49b0 : decide (((zI (zE l0_0 x4_2) x5_3).f0) < (l0_0.length : Int)) = true := ygy c49
               clear c49
               by_cases c50 : 0 ≤ t111
               rotate_left
               next =>
                rw [if_neg c50] at H
                exact absurd H (by simp)
               rw [if_pos c50] at H
               have c50b0 : decide (0 ≤ t111) = true := ygy c50
               clear c50
               by_cases c51 : t111 < ((zE l0_0 ((zI (zE l0_0 x4_2) x5_3).f0)).length : Int)
               rotate_left
               next =>
                rw [if_neg c51] at H
                exact absurd H (by simp)
               rw [if_pos c51] at H
               have c51b0 : decide (t111 < ((zE l0_0 ((zI (zE l0_0 x4_2) x5_3).f0)).length : Int)) = true := ygy c51
               clear c51
               by_cases c52 : (!(((zI (zE l0_0 ((zI (zE l0_0 x4_2) x5_3).f0)) t111).f0) == x4_2) || (!(((zI (zE l0_0 ((zI (zE l0_0 x4_2) x5_3).f0)) t111).f1) == t112))) = true
               next =>
                rw [if_pos c52] at H
                have c52b0 : (!(((zI (zE l0_0 ((zI (zE l0_0 x4_2) x5_3).f0)) t111).f0) == x4_2) || (!(((zI (zE l0_0 ((zI (zE l0_0 x4_2) x5_3).f0)) t111).f1) == t112))) = true := c52
                clear c52
                obtain rfl := yey H
                have hnb53 := NB107_101.out
                have hnc53 := NB101_107.out
                have hcz54_0 : wc.cell? ⟨gb107, 0, none⟩ = some (.int .i64 ((zI (zE l0_0 x4_2) x5_3).f0)) := (zL BK107.out 0).trans rfl
                have hcz54_1 : wc.cell? ⟨gb107, 1, none⟩ = some (.int .i64 ((zI (zE l0_0 x4_2) x5_3).f1)) := (zL BK107.out 1).trans rfl
                have hfz54_0 := zM BK107.out 0
                have hfz54_1 := zM BK107.out 1
                try go_wp2_with (first | ((with_reducible refine zX (f := 121) rfl ?_); refine qD (some 68) rfl rfl Try.func121 (by kernel_rfl) rfl #[.int .i64 ((zI (zE l0_0 x4_2) x5_3).f1), .int .i64 x5_3] rfl (by (try simp only [yiy, yjy, yky]); first | done | rfl | (simp only [yly, ymy]; rfl)) ?_; (with_reducible refine (qp.calls kj35 ((zI (zE l0_0 x4_2) x5_3).f1) x5_3 t111 _ A46.out).mono ?_); rintro e w55 ⟨rfl, hb⟩; refine ⟨_, rfl, ?_⟩; have n0_ := zA.mk (zP (g := gb101) (o := .cells #[.slice (some ad105) l0_0.length c0_0] 30 (0, 0)) (by (with_reducible repeat (first | refine zH ?_ _ | refine zJ ?_ | refine zG ?_ _)); exact BK101.out) hb); have n1_ := zA.mk (zP (g := gb107) (o := .cells #[.int .i64 ((zI (zE l0_0 x4_2) x5_3).f0), .int .i64 ((zI (zE l0_0 x4_2) x5_3).f1)] 115 (0, 0)) (by (with_reducible repeat (first | refine zH ?_ _ | refine zJ ?_ | refine zG ?_ _)); exact BK107.out) hb); have n2_ := zA.mk (zN (by repeat (first | (with_reducible first | exact HB.out | apply zC | apply zB | apply zD | refine zF ?_ GE101.out | refine zF ?_ GE107.out) | exact HB.out)) hb); clear BK101; clear BK107; clear HB; have BK101 := n0_; have BK107 := n1_; have HB := n2_; clear n0_ n1_ n2_; (try clear hb); (try clear hb2); (try clear hk); (try clear hi); have hcz56_0 : w55.cell? ⟨gb107, 0, none⟩ = some (.int .i64 ((zI (zE l0_0 x4_2) x5_3).f0)) := (zL BK107.out 0).trans rfl; have hcz56_1 : w55.cell? ⟨gb107, 1, none⟩ = some (.int .i64 ((zI (zE l0_0 x4_2) x5_3).f1)) := (zL BK107.out 1).trans rfl; have hfz56_0 := zM BK107.out 0; have hfz56_1 := zM BK107.out 1) | ((with_reducible refine zX (f := 141) rfl ?_); refine qD (some 72) rfl rfl Try.func141 (by kernel_rfl) rfl #[.int .i64 ((zI (zE l0_0 x4_2) x5_3).f1)] rfl (by (try simp only [yiy, yjy, yky]); first | done | rfl | (simp only [yly, ymy]; rfl)) ?_; (with_reducible refine (qC.calls kj35 ((zI (zE l0_0 x4_2) x5_3).f1) t112 _ A47.out).mono ?_); rintro e w57 ⟨rfl, hb⟩; refine ⟨_, rfl, ?_⟩; have n0_ := zA.mk (zP (g := gb101) (o := .cells #[.slice (some ad105) l0_0.length c0_0] 30 (0, 0)) (by (with_reducible repeat (first | refine zH ?_ _ | refine zJ ?_ | refine zG ?_ _)); exact BK101.out) hb); have n1_ := zA.mk (zP (g := gb107) (o := .cells #[.int .i64 ((zI (zE l0_0 x4_2) x5_3).f0), .int .i64 ((zI (zE l0_0 x4_2) x5_3).f1)] 115 (0, 0)) (by (with_reducible repeat (first | refine zH ?_ _ | refine zJ ?_ | refine zG ?_ _)); exact BK107.out) hb); have n2_ := zA.mk (zN (by repeat (first | (with_reducible first | exact HB.out | apply zC | apply zB | apply zD | refine zF ?_ GE101.out | refine zF ?_ GE107.out) | exact HB.out)) hb); clear BK101; clear BK107; clear HB; have BK101 := n0_; have BK107 := n1_; have HB := n2_; clear n0_ n1_ n2_; (try clear hb); (try clear hb2); (try clear hk); (try clear hi)) | ((with_reducible refine zj (N := 8) rfl ?_); refine zk ?hg (N := 8) ?hd (cs := #[.int .i64 0, .int .i64 0]) (t := 115) ?hr ?_; (case hd => rfl); (case hg => rfl); (case hr => first | (go_simp; done) | (go_simp; rfl)); intro gb113 hg w58 hbox hb; have n0_ := zA.mk (zP (g := gb101) (o := .cells #[.slice (some ad105) l0_0.length c0_0] 30 (0, 0)) (by (with_reducible repeat (first | refine zH ?_ _ | refine zJ ?_ | refine zG ?_ _)); exact BK101.out) hb); have n1_ := zA.mk (zP (g := gb107) (o := .cells #[.int .i64 ((zI (zE l0_0 x4_2) x5_3).f0), .int .i64 ((zI (zE l0_0 x4_2) x5_3).f1)] 115 (0, 0)) (by (with_reducible repeat (first | refine zH ?_ _ | refine zJ ?_ | refine zG ?_ _)); exact BK107.out) hb); have n2_ := zA.mk (zN (by repeat (first | (with_reducible first | exact HB.out | apply zC | apply zB | apply zD | refine zF ?_ GE101.out | refine zF ?_ GE107.out) | exact HB.out)) hb); have n3_ := zA.mk (hbox); have n4_ := zA.mk ((by rw [hg]; exact (zO (by repeat (first | (with_reducible first | exact HB.out | apply zC | apply zB | apply zD | refine zF ?_ GE101.out | refine zF ?_ GE107.out) | exact HB.out))) : w.heap.size ≤ gb113)); have n5_ := zA.mk ((by rw [hg]; exact (zO (by repeat (first | (with_reducible first | exact HB.out | apply zC | apply zB | apply zD | refine zF ?_ GE101.out | refine zF ?_ GE107.out) | exact HB.out))) : w.heap.size ≤ gb113)); have n6_ := zA.mk ((by rw [hg]; exact Nat.ne_of_lt (qP (g := gb101) (o := .cells #[.slice (some ad105) l0_0.length c0_0] 30 (0, 0)) (by (with_reducible repeat (first | refine zH ?_ _ | refine zJ ?_ | refine zG ?_ _)); exact BK101.out)) : gb101 ≠ gb113)); have n7_ := zA.mk ((by rw [hg]; exact Nat.ne_of_gt (qP (g := gb101) (o := .cells #[.slice (some ad105) l0_0.length c0_0] 30 (0, 0)) (by (with_reducible repeat (first | refine zH ?_ _ | refine zJ ?_ | refine zG ?_ _)); exact BK101.out)) : gb113 ≠ gb101)); have n8_ := zA.mk ((by rw [hg]; exact Nat.ne_of_lt (qP (g := gb107) (o := .cells #[.int .i64 ((zI (zE l0_0 x4_2) x5_3).f0), .int .i64 ((zI (zE l0_0 x4_2) x5_3).f1)] 115 (0, 0)) (by (with_reducible repeat (first | refine zH ?_ _ | refine zJ ?_ | refine zG ?_ _)); exact BK107.out)) : gb107 ≠ gb113)); have n9_ := zA.mk ((by rw [hg]; exact Nat.ne_of_gt (qP (g := gb107) (o := .cells #[.int .i64 ((zI (zE l0_0 x4_2) x5_3).f0), .int .i64 ((zI (zE l0_0 x4_2) x5_3).f1)] 115 (0, 0)) (by (with_reducible repeat (first | refine zH ?_ _ | refine zJ ?_ | refine zG ?_ _)); exact BK107.out)) : gb113 ≠ gb107)); clear BK101; clear BK107; clear HB; have BK101 := n0_; have BK107 := n1_; have HB := n2_; have BK113 := n3_; have GW113 := n4_; have GE113 := n5_; have NB101_113 := n6_; have NB113_101 := n7_; have NB107_113 := n8_; have NB113_107 := n9_; clear n0_ n1_ n2_ n3_ n4_ n5_ n6_ n7_ n8_ n9_; clear hb hbox hg; have hnb59 := NB113_101.out; have hnc59 := NB101_113.out; have hnb60 := NB113_107.out; have hnc60 := NB107_113.out; have hcz61_0 : w58.cell? ⟨gb113, 0, none⟩ = some (.int .i64 0) := (zL BK113.out 0).trans rfl; have hcz61_1 : w58.cell? ⟨gb113, 1, none⟩ = some (.int .i64 0) := (zL BK113.out 1).trans rfl; have hfz61_0 := zM BK113.out 0; have hfz61_1 := zM BK113.out 1))
                have n0_ : zA (((w58.setCell ⟨gb113, 0, none⟩ (.int .i64 x4_2)).setCell ⟨gb113, 1, none⟩ (.int .i64 t112)).heap[gb101]? = some (.cells #[.slice (some ad105) l0_0.length c0_0] 30 (0, 0))) := ⟨by (with_reducible repeat (first | refine zH ?_ _ | refine zJ ?_ | refine zG ?_ _)); refine qI ?_ NB101_113.out _; (with_reducible repeat (first | refine zH ?_ _ | refine zJ ?_ | refine zG ?_ _)); refine qI ?_ NB101_113.out _; (with_reducible repeat (first | refine zH ?_ _ | refine zJ ?_ | refine zG ?_ _)); exact BK101.out⟩
                have n1_ : zA (((w58.setCell ⟨gb113, 0, none⟩ (.int .i64 x4_2)).setCell ⟨gb113, 1, none⟩ (.int .i64 t112)).heap[gb107]? = some (.cells #[.int .i64 ((zI (zE l0_0 x4_2) x5_3).f0), .int .i64 ((zI (zE l0_0 x4_2) x5_3).f1)] 115 (0, 0))) := ⟨by (with_reducible repeat (first | refine zH ?_ _ | refine zJ ?_ | refine zG ?_ _)); refine qI ?_ NB107_113.out _; (with_reducible repeat (first | refine zH ?_ _ | refine zJ ?_ | refine zG ?_ _)); refine qI ?_ NB107_113.out _; (with_reducible repeat (first | refine zH ?_ _ | refine zJ ?_ | refine zG ?_ _)); exact BK107.out⟩
                have n2_ : zA (((w58.setCell ⟨gb113, 0, none⟩ (.int .i64 x4_2)).setCell ⟨gb113, 1, none⟩ (.int .i64 t112)).heap[gb113]? = some (.cells #[.int .i64 x4_2, .int .i64 t112] 115 (0, 0))) := ⟨by (with_reducible repeat (first | refine zH ?_ _ | refine zJ ?_ | refine zG ?_ _)); refine qY (cs := #[.int .i64 x4_2, .int .i64 0]) ?_ 1 _ rfl; (with_reducible repeat (first | refine zH ?_ _ | refine zJ ?_ | refine zG ?_ _)); refine qY (cs := #[.int .i64 0, .int .i64 0]) ?_ 0 _ rfl; (with_reducible repeat (first | refine zH ?_ _ | refine zJ ?_ | refine zG ?_ _)); exact BK113.out⟩
                have n3_ : zA (Below w.heap.size w ((w58.setCell ⟨gb113, 0, none⟩ (.int .i64 x4_2)).setCell ⟨gb113, 1, none⟩ (.int .i64 t112))) := ⟨by repeat (first | (with_reducible first | exact HB.out | apply zC | apply zB | apply zD | refine zF ?_ GE101.out | refine zF ?_ GE107.out | refine zF ?_ GE113.out) | exact HB.out)⟩
                (try clear BK101)
                (try clear BK107)
                (try clear BK113)
                (try clear HB)
                generalize ((w58.setCell ⟨gb113, 0, none⟩ (.int .i64 x4_2)).setCell ⟨gb113, 1, none⟩ (.int .i64 t112)) = w62 at n0_ n1_ n2_ n3_ ⊢
                have BK101 := n0_
                have BK107 := n1_
                have BK113 := n2_
                have HB := n3_
                clear n0_ n1_ n2_ n3_
                have n0_ := zA.mk (zJ BK101.out)
                have n1_ := zA.mk (zJ BK107.out)
                have n2_ := zA.mk (zJ BK113.out)
                have n3_ := zA.mk (zD HB.out)
                clear BK101
                clear BK107
                clear BK113
                clear HB
                have BK101 := n0_
                have BK107 := n1_
                have BK113 := n2_
                have HB := n3_
                clear n0_ n1_ n2_ n3_
                have p114 : 0 ≤ (((zI (zE l0_0 x4_2) x5_3).f0) : Int) := of_decide_eq_true (by first | (with_reducible assumption) | assumption)
                have q114 : ((zI (zE l0_0 x4_2) x5_3).f0) < (l0_0.length : Int) := of_decide_eq_true (by first | (with_reducible assumption) | assumption)
                obtain ⟨ad114, A114_0, c114_0, e114, hx114_0, hl114_0, hi114_0⟩ := ZY HR0_0.out ((zI (zE l0_0 x4_2) x5_3).f0) p114 q114
                have hw114_0 := hx114_0
                obtain rfl : ad105 = ad114 := (by injection e114)
                replace hx114_0 := (HB.out.cell (ypy w _ hx114_0)).trans hx114_0
                have HR114_0 := zA.mk hi114_0
                have HC114_0 := zA.mk hl114_0
                clear hi114_0 hl114_0
                replace p114 := eq_true p114
                replace q114 := eq_true q114
                have p115 : 0 ≤ (t111 : Int) := of_decide_eq_true (by first | (with_reducible assumption) | assumption)
                have q115 : t111 < ((zE l0_0 ((zI (zE l0_0 x4_2) x5_3).f0)).length : Int) := of_decide_eq_true (by first | (with_reducible assumption) | assumption)
                obtain ⟨ad115, e115, hx115_0, hx115_1⟩ := QB HR114_0.out t111 p115 q115
                have hw115_1 := hx115_1
                have hw115_0 := hx115_0
                cases e115
                replace hx115_0 := (HB.out.cell (ypy w _ hx115_0)).trans hx115_0
                replace hx115_1 := (HB.out.cell (ypy w _ hx115_1)).trans hx115_1
                replace p115 := eq_true p115
                replace q115 := eq_true q115
                refine Zw (n := 22) (S := fun w' => w'.cell? ⟨gb101, 0, none⟩ = some (.slice (some ad105) l0_0.length c0_0) ∧ w'.cell? ⟨gb107, 0, none⟩ = some (.int .i64 ((zI (zE l0_0 x4_2) x5_3).f0)) ∧ w'.cell? ⟨gb107, 1, none⟩ = some (.int .i64 ((zI (zE l0_0 x4_2) x5_3).f1)) ∧ w'.cell? ⟨gb113, 0, none⟩ = some (.int .i64 x4_2) ∧ w'.cell? ⟨gb113, 1, none⟩ = some (.int .i64 t112) ∧ w'.cell? (ad105.add (((zI (zE l0_0 x4_2) x5_3).f0)).toNat) = some (.slice (some ad115) (zE l0_0 ((zI (zE l0_0 x4_2) x5_3).f0)).length c114_0) ∧ w'.cell? (ad115.add ((t111).toNat * 2)) = some (.int .i64 ((zI (zE l0_0 ((zI (zE l0_0 x4_2) x5_3).f0)) t111).f0)) ∧ w'.cell? ⟨(ad115.add ((t111).toNat * 2)).block, (ad115.add ((t111).toNat * 2)).off + 1, none⟩ = some (.int .i64 ((zI (zE l0_0 ((zI (zE l0_0 x4_2) x5_3).f0)) t111).f1))) (ds := []) #[false, false, false, false, false, false, false, false, false, false, false, false, false, false, false, false, false, false, false, false, false, false] (by kernel_rfl) rfl rfl ⟨(zL BK101.out 0).trans rfl, (zL BK107.out 0).trans rfl, (zL BK107.out 1).trans rfl, (zL BK113.out 0).trans rfl, (zL BK113.out 1).trans rfl, ((HB.out.cell (ypy w _ hw114_0)).trans hw114_0), ((HB.out.cell (ypy w _ hw115_0)).trans hw115_0), ((HB.out.cell (ypy w _ hw115_1)).trans hw115_1)⟩ (fun hHeld => ?_); refine ZE zK.zFF zK.zDM (fun HT_ HW_ => ?_)
                generalize w62.drew = w63 at BK101 BK107 BK113 HB HR114_0 hx114_0 hx115_0 hx115_1 hHeld ⊢
                refine zg (i := 0) (N := some 74) (v := ?_) (a' := ?_) #[true, false, false, false, false, false, false, false, false, false, false, false, false, false, false, false, false, false, false, false, false, false] rfl rfl (zd HT_.out (by kernel_rfl)) (fun _ _ _ h => h) (Or.inl ⟨by rfl, ?_⟩) ?_ ?_
                rotate_left
                next =>
                 intro w'
                 go_simp
                 with_reducible rfl
                rotate_left
                next =>
                 simp only [Act.put, yay, yby, ycy, za, zb]
                 rfl
                refine zg (i := 2) (N := some 76) (v := ?_) (a' := ?_) #[true, false, true, false, false, false, false, false, false, false, false, false, false, false, false, false, false, false, false, false, false, false] rfl rfl (zd HT_.out (by kernel_rfl)) (fun _ _ _ h => h) (Or.inl ⟨by rfl, ?_⟩) ?_ ?_
                rotate_left
                next =>
                 intro w'
                 go_simp
                 with_reducible rfl
                rotate_left
                next =>
                 simp only [Act.put, yay, yby, ycy, za, zb]
                 rfl
                refine zg (i := 6) (N := some 80) (v := ?_) (a' := ?_) #[true, false, true, false, false, false, true, false, false, false, false, false, false, false, false, false, false, false, false, false, false, false] rfl rfl (zd HT_.out (by kernel_rfl)) (fun _ _ _ h => h) (Or.inl ⟨by rfl, ?_⟩) ?_ ?_
                rotate_left
                next =>
                 intro w'
                 go_simp
                 with_reducible rfl
                rotate_left
                next =>
                 simp only [Act.put, yay, yby, ycy, za, zb]
                 rfl
                refine qq (i := 1) (N := some 75) (v := ?_) (a' := ?_) #[true, true, true, false, false, false, true, false, false, false, false, false, false, false, false, false, false, false, false, false, false, false] rfl rfl (zx HT_.out HW_.out (by kernel_rfl)) (fun _ _ _ h => h) (Or.inl ⟨by rfl, ?_⟩) hHeld ?_ ?_
                rotate_left
                next =>
                 rintro w' ⟨s0, s1, s2, s3, s4, s5, s6, s7⟩
                 go_simp
                 with_reducible rfl
                rotate_left
                next =>
                 simp only [Act.put, yay, yby, ycy, za, zb]
                 rfl
                refine qq (i := 3) (N := some 77) (v := ?_) (a' := ?_) #[true, true, true, true, false, false, true, false, false, false, false, false, false, false, false, false, false, false, false, false, false, false] rfl rfl (zx HT_.out HW_.out (by kernel_rfl)) (fun _ _ _ h => h) (Or.inl ⟨by rfl, ?_⟩) hHeld ?_ ?_
                rotate_left
                next =>
                 rintro w' ⟨s0, s1, s2, s3, s4, s5, s6, s7⟩
                 go_simp
                 with_reducible rfl
                rotate_left
                next =>
                 simp only [Act.put, yay, yby, ycy, za, zb]
                 rfl
                refine zg (i := 4) (N := some 78) (v := ?_) (a' := ?_) #[true, true, true, true, true, false, true, false, false, false, false, false, false, false, false, false, false, false, false, false, false, false] rfl rfl (zd HT_.out (by kernel_rfl)) (fun _ _ _ h => h) (Or.inl ⟨by rfl, ?_⟩) ?_ ?_
                rotate_left
                next =>
                 intro w'
                 go_simp
                 with_reducible rfl
                rotate_left
                next =>
                 simp only [Act.put, yay, yby, ycy, za, zb]
                 rfl
                refine qq (i := 5) (N := some 79) (v := ?_) (a' := ?_) #[true, true, true, true, true, true, true, false, false, false, false, false, false, false, false, false, false, false, false, false, false, false] rfl rfl (zx HT_.out HW_.out (by kernel_rfl)) (fun _ _ _ h => h) (Or.inl ⟨by rfl, ?_⟩) hHeld ?_ ?_
                rotate_left
                next =>
                 rintro w' ⟨s0, s1, s2, s3, s4, s5, s6, s7⟩
                 go_simp
                 with_reducible rfl
                rotate_left
                next =>
                 simp only [Act.put, yay, yby, ycy, za, zb]
                 rfl
                refine zg (i := 7) (N := some 81) (v := ?_) (a' := ?_) #[true, true, true, true, true, true, true, true, false, false, false, false, false, false, false, false, false, false, false, false, false, false] rfl rfl (zd HT_.out (by kernel_rfl)) (fun _ _ _ h => h) (Or.inl ⟨by rfl, ?_⟩) ?_ ?_
                rotate_left
                next =>
                 intro w'
                 go_simp
                 with_reducible rfl
                rotate_left
                next =>
                 simp only [Act.put, yay, yby, ycy, za, zb]
                 rfl
                refine qq (i := 8) (N := some 82) (v := ?_) (a' := ?_) #[true, true, true, true, true, true, true, true, true, false, false, false, false, false, false, false, false, false, false, false, false, false] rfl rfl (zx HT_.out HW_.out (by kernel_rfl)) (fun _ _ _ h => h) (Or.inl ⟨by rfl, ?_⟩) hHeld ?_ ?_
                rotate_left
                next =>
                 rintro w' ⟨s0, s1, s2, s3, s4, s5, s6, s7⟩
                 go_simp
                 with_reducible rfl
                rotate_left
                next =>
                 simp only [Act.put, yay, yby, ycy, za, zb]
                 rfl
                refine qq (i := 9) (N := some 83) (v := ?_) (a' := ?_) #[true, true, true, true, true, true, true, true, true, true, false, false, false, false, false, false, false, false, false, false, false, false] rfl rfl (zx HT_.out HW_.out (by kernel_rfl)) (fun _ _ _ h => h) (Or.inl ⟨by rfl, ?_⟩) hHeld ?_ ?_
                rotate_left
                next =>
                 rintro w' ⟨s0, s1, s2, s3, s4, s5, s6, s7⟩
                 go_simp
                 with_reducible rfl
                rotate_left
                next =>
                 simp only [Act.put, yay, yby, ycy, za, zb]
                 rfl
                refine zg (i := 10) (N := some 84) (v := ?_) (a' := ?_) #[true, true, true, true, true, true, true, true, true, true, true, false, false, false, false, false, false, false, false, false, false, false] rfl rfl (zd HT_.out (by kernel_rfl)) (fun _ _ _ h => h) (Or.inl ⟨by rfl, ?_⟩) ?_ ?_
                rotate_left
                next =>
                 intro w'
                 go_simp
                 with_reducible rfl
                rotate_left
                next =>
                 simp only [Act.put, yay, yby, ycy, za, zb]
                 rfl
                refine zg (i := 11) (N := some 85) (v := ?_) (a' := ?_) #[true, true, true, true, true, true, true, true, true, true, true, true, false, false, false, false, false, false, false, false, false, false] rfl rfl (zd HT_.out (by kernel_rfl)) (fun _ _ _ h => h) (Or.inl ⟨by rfl, ?_⟩) ?_ ?_
                rotate_left
                next =>
                 intro w'
                 go_simp
                 with_reducible rfl
                rotate_left
                next =>
                 simp only [Act.put, yay, yby, ycy, za, zb]
                 rfl
                refine zg (i := 12) (N := some 86) (v := undef) (a' := ?_) #[true, true, true, true, true, true, true, true, true, true, true, true, true, false, false, false, false, false, false, false, false, false] rfl rfl (zd HT_.out (by kernel_rfl)) (fun _ _ _ h => h) (Or.inr ⟨by rfl, rfl⟩) ?_ ?_
                rotate_left
                next =>
                 simp only [Act.put, yay, yby, ycy, za, zb]
                 rfl
                refine zg (i := 13) (N := some 87) (v := undef) (a' := ?_) #[true, true, true, true, true, true, true, true, true, true, true, true, true, true, false, false, false, false, false, false, false, false] rfl rfl (zd HT_.out (by kernel_rfl)) (fun _ _ _ h => h) (Or.inr ⟨by rfl, rfl⟩) ?_ ?_
                rotate_left
                next =>
                 simp only [Act.put, yay, yby, ycy, za, zb]
                 rfl
                refine zg (i := 14) (N := some 88) (v := undef) (a' := ?_) #[true, true, true, true, true, true, true, true, true, true, true, true, true, true, true, false, false, false, false, false, false, false] rfl rfl (zd HT_.out (by kernel_rfl)) (fun _ _ _ h => h) (Or.inr ⟨by rfl, rfl⟩) ?_ ?_
                rotate_left
                next =>
                 simp only [Act.put, yay, yby, ycy, za, zb]
                 rfl
                refine zg (i := 15) (N := some 89) (v := undef) (a' := ?_) #[true, true, true, true, true, true, true, true, true, true, true, true, true, true, true, true, false, false, false, false, false, false] rfl rfl (zd HT_.out (by kernel_rfl)) (fun _ _ _ h => h) (Or.inr ⟨by rfl, rfl⟩) ?_ ?_
                rotate_left
                next =>
                 simp only [Act.put, yay, yby, ycy, za, zb]
                 rfl
                refine zg (i := 16) (N := some 90) (v := undef) (a' := ?_) #[true, true, true, true, true, true, true, true, true, true, true, true, true, true, true, true, true, false, false, false, false, false] rfl rfl (zd HT_.out (by kernel_rfl)) (fun _ _ _ h => h) (Or.inr ⟨by rfl, rfl⟩) ?_ ?_
                rotate_left
                next =>
                 simp only [Act.put, yay, yby, ycy, za, zb]
                 rfl
                refine zg (i := 17) (N := some 91) (v := undef) (a' := ?_) #[true, true, true, true, true, true, true, true, true, true, true, true, true, true, true, true, true, true, false, false, false, false] rfl rfl (zd HT_.out (by kernel_rfl)) (fun _ _ _ h => h) (Or.inr ⟨by rfl, rfl⟩) ?_ ?_
                rotate_left
                next =>
                 simp only [Act.put, yay, yby, ycy, za, zb]
                 rfl
                refine zg (i := 18) (N := some 92) (v := undef) (a' := ?_) #[true, true, true, true, true, true, true, true, true, true, true, true, true, true, true, true, true, true, true, false, false, false] rfl rfl (zd HT_.out (by kernel_rfl)) (fun _ _ _ h => h) (Or.inr ⟨by rfl, rfl⟩) ?_ ?_
                rotate_left
                next =>
                 simp only [Act.put, yay, yby, ycy, za, zb]
                 rfl
                refine zg (i := 19) (N := some 93) (v := undef) (a' := ?_) #[true, true, true, true, true, true, true, true, true, true, true, true, true, true, true, true, true, true, true, true, false, false] rfl rfl (zd HT_.out (by kernel_rfl)) (fun _ _ _ h => h) (Or.inr ⟨by rfl, rfl⟩) ?_ ?_
                rotate_left
                next =>
                 simp only [Act.put, yay, yby, ycy, za, zb]
                 rfl
                refine zg (i := 20) (N := some 94) (v := undef) (a' := ?_) #[true, true, true, true, true, true, true, true, true, true, true, true, true, true, true, true, true, true, true, true, true, false] rfl rfl (zd HT_.out (by kernel_rfl)) (fun _ _ _ h => h) (Or.inr ⟨by rfl, rfl⟩) ?_ ?_
                rotate_left
                next =>
                 simp only [Act.put, yay, yby, ycy, za, zb]
                 rfl
                refine zg (i := 21) (N := some 95) (v := ?_) (a' := ?_) #[true, true, true, true, true, true, true, true, true, true, true, true, true, true, true, true, true, true, true, true, true, true] rfl rfl (zd HT_.out (by kernel_rfl)) (fun _ _ _ h => h) (Or.inl ⟨by rfl, ?_⟩) ?_ ?_
                rotate_left
                next =>
                 intro w'
                 go_simp
                 with_reducible rfl
                rotate_left
                next =>
                 simp only [Act.put, yay, yby, ycy, za, zb]
                 rfl
                refine Qn (Zm HT_.out (by kernel_rfl)) ?_
                try go_wp2
                go_ret
                exact ⟨by first | rfl | (simp [zY, zZ] <;> rfl) | (simp [*, zY, zZ] <;> rfl), by repeat (first | (with_reducible first | exact HB.out | apply zC | apply zB | apply zD | refine zF ?_ GE101.out | refine zF ?_ GE107.out | refine zF ?_ GE113.out) | exact HB.out)⟩
               next =>
                rw [if_neg c52] at H
                have c52b0 : (!(((zI (zE l0_0 ((zI (zE l0_0 x4_2) x5_3).f0)) t111).f0) == x4_2) || (!(((zI (zE l0_0 ((zI (zE l0_0 x4_2) x5_3).f0)) t111).f1) == t112))) = false := by simpa using c52
                clear c52
                by_cases c64 : ((zI (zE l0_0 x4_2) x5_3).f0) = x4_2
                rotate_left
                next =>
                 rw [if_neg c64] at H
                 have c64b0 : (((zI (zE l0_0 x4_2) x5_3).f0) == x4_2) = false := beq_eq_false_iff_ne.mpr c64
                 have c64b1 : (((zI (zE l0_0 x4_2) x5_3).f0) != x4_2) = true := bne_iff_ne.mpr c64
                 have H' := zA.mk H
                 clear H
                 have hnb88 := NB107_101.out
                 have hnc88 := NB101_107.out
                 have hcz89_0 : wc.cell? ⟨gb107, 0, none⟩ = some (.int .i64 ((zI (zE l0_0 x4_2) x5_3).f0)) := (zL BK107.out 0).trans rfl
                 have hcz89_1 : wc.cell? ⟨gb107, 1, none⟩ = some (.int .i64 ((zI (zE l0_0 x4_2) x5_3).f1)) := (zL BK107.out 1).trans rfl
                 have hfz89_0 := zM BK107.out 0
                 have hfz89_1 := zM BK107.out 1
                 try go_wp2_with (first | ((with_reducible refine zX (f := 121) rfl ?_); refine qD (some 68) rfl rfl Try.func121 (by kernel_rfl) rfl #[.int .i64 ((zI (zE l0_0 x4_2) x5_3).f1), .int .i64 x5_3] rfl (by (try simp only [yiy, yjy, yky]); first | done | rfl | (simp only [yly, ymy]; rfl)) ?_; (with_reducible refine (qp.calls kj35 ((zI (zE l0_0 x4_2) x5_3).f1) x5_3 t111 _ A46.out).mono ?_); rintro e w90 ⟨rfl, hb⟩; refine ⟨_, rfl, ?_⟩; have n0_ := zA.mk (zP (g := gb101) (o := .cells #[.slice (some ad105) l0_0.length c0_0] 30 (0, 0)) (by (with_reducible repeat (first | refine zH ?_ _ | refine zJ ?_ | refine zG ?_ _)); exact BK101.out) hb); have n1_ := zA.mk (zP (g := gb107) (o := .cells #[.int .i64 ((zI (zE l0_0 x4_2) x5_3).f0), .int .i64 ((zI (zE l0_0 x4_2) x5_3).f1)] 115 (0, 0)) (by (with_reducible repeat (first | refine zH ?_ _ | refine zJ ?_ | refine zG ?_ _)); exact BK107.out) hb); have n2_ := zA.mk (zN (by repeat (first | (with_reducible first | exact HB.out | apply zC | apply zB | apply zD | refine zF ?_ GE101.out | refine zF ?_ GE107.out) | exact HB.out)) hb); clear BK101; clear BK107; clear HB; have BK101 := n0_; have BK107 := n1_; have HB := n2_; clear n0_ n1_ n2_; (try clear hb); (try clear hb2); (try clear hk); (try clear hi); have hcz91_0 : w90.cell? ⟨gb107, 0, none⟩ = some (.int .i64 ((zI (zE l0_0 x4_2) x5_3).f0)) := (zL BK107.out 0).trans rfl; have hcz91_1 : w90.cell? ⟨gb107, 1, none⟩ = some (.int .i64 ((zI (zE l0_0 x4_2) x5_3).f1)) := (zL BK107.out 1).trans rfl; have hfz91_0 := zM BK107.out 0; have hfz91_1 := zM BK107.out 1) | ((with_reducible refine zX (f := 141) rfl ?_); refine qD (some 72) rfl rfl Try.func141 (by kernel_rfl) rfl #[.int .i64 ((zI (zE l0_0 x4_2) x5_3).f1)] rfl (by (try simp only [yiy, yjy, yky]); first | done | rfl | (simp only [yly, ymy]; rfl)) ?_; (with_reducible refine (qC.calls kj35 ((zI (zE l0_0 x4_2) x5_3).f1) t112 _ A47.out).mono ?_); rintro e w92 ⟨rfl, hb⟩; refine ⟨_, rfl, ?_⟩; have n0_ := zA.mk (zP (g := gb101) (o := .cells #[.slice (some ad105) l0_0.length c0_0] 30 (0, 0)) (by (with_reducible repeat (first | refine zH ?_ _ | refine zJ ?_ | refine zG ?_ _)); exact BK101.out) hb); have n1_ := zA.mk (zP (g := gb107) (o := .cells #[.int .i64 ((zI (zE l0_0 x4_2) x5_3).f0), .int .i64 ((zI (zE l0_0 x4_2) x5_3).f1)] 115 (0, 0)) (by (with_reducible repeat (first | refine zH ?_ _ | refine zJ ?_ | refine zG ?_ _)); exact BK107.out) hb); have n2_ := zA.mk (zN (by repeat (first | (with_reducible first | exact HB.out | apply zC | apply zB | apply zD | refine zF ?_ GE101.out | refine zF ?_ GE107.out) | exact HB.out)) hb); clear BK101; clear BK107; clear HB; have BK101 := n0_; have BK107 := n1_; have HB := n2_; clear n0_ n1_ n2_; (try clear hb); (try clear hb2); (try clear hk); (try clear hi)) | ((with_reducible refine zj (N := 8) rfl ?_); refine zk ?hg (N := 8) ?hd (cs := #[.int .i64 0, .int .i64 0]) (t := 115) ?hr ?_; (case hd => rfl); (case hg => rfl); (case hr => first | (go_simp; done) | (go_simp; rfl)); intro gb113 hg w93 hbox hb; have n0_ := zA.mk (zP (g := gb101) (o := .cells #[.slice (some ad105) l0_0.length c0_0] 30 (0, 0)) (by (with_reducible repeat (first | refine zH ?_ _ | refine zJ ?_ | refine zG ?_ _)); exact BK101.out) hb); have n1_ := zA.mk (zP (g := gb107) (o := .cells #[.int .i64 ((zI (zE l0_0 x4_2) x5_3).f0), .int .i64 ((zI (zE l0_0 x4_2) x5_3).f1)] 115 (0, 0)) (by (with_reducible repeat (first | refine zH ?_ _ | refine zJ ?_ | refine zG ?_ _)); exact BK107.out) hb); have n2_ := zA.mk (zN (by repeat (first | (with_reducible first | exact HB.out | apply zC | apply zB | apply zD | refine zF ?_ GE101.out | refine zF ?_ GE107.out) | exact HB.out)) hb); have n3_ := zA.mk (hbox); have n4_ := zA.mk ((by rw [hg]; exact (zO (by repeat (first | (with_reducible first | exact HB.out | apply zC | apply zB | apply zD | refine zF ?_ GE101.out | refine zF ?_ GE107.out) | exact HB.out))) : w.heap.size ≤ gb113)); have n5_ := zA.mk ((by rw [hg]; exact (zO (by repeat (first | (with_reducible first | exact HB.out | apply zC | apply zB | apply zD | refine zF ?_ GE101.out | refine zF ?_ GE107.out) | exact HB.out))) : w.heap.size ≤ gb113)); have n6_ := zA.mk ((by rw [hg]; exact Nat.ne_of_lt (qP (g := gb101) (o := .cells #[.slice (some ad105) l0_0.length c0_0] 30 (0, 0)) (by (with_reducible repeat (first | refine zH ?_ _ | refine zJ ?_ | refine zG ?_ _)); exact BK101.out)) : gb101 ≠ gb113)); have n7_ := zA.mk ((by rw [hg]; exact Nat.ne_of_gt (qP (g := gb101) (o := .cells #[.slice (some ad105) l0_0.length c0_0] 30 (0, 0)) (by (with_reducible repeat (first | refine zH ?_ _ | refine zJ ?_ | refine zG ?_ _)); exact BK101.out)) : gb113 ≠ gb101)); have n8_ := zA.mk ((by rw [hg]; exact Nat.ne_of_lt (qP (g := gb107) (o := .cells #[.int .i64 ((zI (zE l0_0 x4_2) x5_3).f0), .int .i64 ((zI (zE l0_0 x4_2) x5_3).f1)] 115 (0, 0)) (by (with_reducible repeat (first | refine zH ?_ _ | refine zJ ?_ | refine zG ?_ _)); exact BK107.out)) : gb107 ≠ gb113)); have n9_ := zA.mk ((by rw [hg]; exact Nat.ne_of_gt (qP (g := gb107) (o := .cells #[.int .i64 ((zI (zE l0_0 x4_2) x5_3).f0), .int .i64 ((zI (zE l0_0 x4_2) x5_3).f1)] 115 (0, 0)) (by (with_reducible repeat (first | refine zH ?_ _ | refine zJ ?_ | refine zG ?_ _)); exact BK107.out)) : gb113 ≠ gb107)); clear BK101; clear BK107; clear HB; have BK101 := n0_; have BK107 := n1_; have HB := n2_; have BK113 := n3_; have GW113 := n4_; have GE113 := n5_; have NB101_113 := n6_; have NB113_101 := n7_; have NB107_113 := n8_; have NB113_107 := n9_; clear n0_ n1_ n2_ n3_ n4_ n5_ n6_ n7_ n8_ n9_; clear hb hbox hg; have hnb94 := NB113_101.out; have hnc94 := NB101_113.out; have hnb95 := NB113_107.out; have hnc95 := NB107_113.out; have hcz96_0 : w93.cell? ⟨gb113, 0, none⟩ = some (.int .i64 0) := (zL BK113.out 0).trans rfl; have hcz96_1 : w93.cell? ⟨gb113, 1, none⟩ = some (.int .i64 0) := (zL BK113.out 1).trans rfl; have hfz96_0 := zM BK113.out 0; have hfz96_1 := zM BK113.out 1))
                 have n0_ : zA (((w93.setCell ⟨gb113, 0, none⟩ (.int .i64 x4_2)).setCell ⟨gb113, 1, none⟩ (.int .i64 t112)).heap[gb101]? = some (.cells #[.slice (some ad105) l0_0.length c0_0] 30 (0, 0))) := ⟨by (with_reducible repeat (first | refine zH ?_ _ | refine zJ ?_ | refine zG ?_ _)); refine qI ?_ NB101_113.out _; (with_reducible repeat (first | refine zH ?_ _ | refine zJ ?_ | refine zG ?_ _)); refine qI ?_ NB101_113.out _; (with_reducible repeat (first | refine zH ?_ _ | refine zJ ?_ | refine zG ?_ _)); exact BK101.out⟩
                 have n1_ : zA (((w93.setCell ⟨gb113, 0, none⟩ (.int .i64 x4_2)).setCell ⟨gb113, 1, none⟩ (.int .i64 t112)).heap[gb107]? = some (.cells #[.int .i64 ((zI (zE l0_0 x4_2) x5_3).f0), .int .i64 ((zI (zE l0_0 x4_2) x5_3).f1)] 115 (0, 0))) := ⟨by (with_reducible repeat (first | refine zH ?_ _ | refine zJ ?_ | refine zG ?_ _)); refine qI ?_ NB107_113.out _; (with_reducible repeat (first | refine zH ?_ _ | refine zJ ?_ | refine zG ?_ _)); refine qI ?_ NB107_113.out _; (with_reducible repeat (first | refine zH ?_ _ | refine zJ ?_ | refine zG ?_ _)); exact BK107.out⟩
                 have n2_ : zA (((w93.setCell ⟨gb113, 0, none⟩ (.int .i64 x4_2)).setCell ⟨gb113, 1, none⟩ (.int .i64 t112)).heap[gb113]? = some (.cells #[.int .i64 x4_2, .int .i64 t112] 115 (0, 0))) := ⟨by (with_reducible repeat (first | refine zH ?_ _ | refine zJ ?_ | refine zG ?_ _)); refine qY (cs := #[.int .i64 x4_2, .int .i64 0]) ?_ 1 _ rfl; (with_reducible repeat (first | refine zH ?_ _ | refine zJ ?_ | refine zG ?_ _)); refine qY (cs := #[.int .i64 0, .int .i64 0]) ?_ 0 _ rfl; (with_reducible repeat (first | refine zH ?_ _ | refine zJ ?_ | refine zG ?_ _)); exact BK113.out⟩
                 have n3_ : zA (Below w.heap.size w ((w93.setCell ⟨gb113, 0, none⟩ (.int .i64 x4_2)).setCell ⟨gb113, 1, none⟩ (.int .i64 t112))) := ⟨by repeat (first | (with_reducible first | exact HB.out | apply zC | apply zB | apply zD | refine zF ?_ GE101.out | refine zF ?_ GE107.out | refine zF ?_ GE113.out) | exact HB.out)⟩
                 (try clear BK101)
                 (try clear BK107)
                 (try clear BK113)
                 (try clear HB)
                 generalize ((w93.setCell ⟨gb113, 0, none⟩ (.int .i64 x4_2)).setCell ⟨gb113, 1, none⟩ (.int .i64 t112)) = w97 at n0_ n1_ n2_ n3_ ⊢
                 have BK101 := n0_
                 have BK107 := n1_
                 have BK113 := n2_
                 have HB := n3_
                 clear n0_ n1_ n2_ n3_
                 have n0_ := zA.mk (zJ BK101.out)
                 have n1_ := zA.mk (zJ BK107.out)
                 have n2_ := zA.mk (zJ BK113.out)
                 have n3_ := zA.mk (zD HB.out)
                 clear BK101
                 clear BK107
                 clear BK113
                 clear HB
                 have BK101 := n0_
                 have BK107 := n1_
                 have BK113 := n2_
                 have HB := n3_
                 clear n0_ n1_ n2_ n3_
                 have p114 : 0 ≤ (((zI (zE l0_0 x4_2) x5_3).f0) : Int) := of_decide_eq_true (by first | (with_reducible assumption) | assumption)
                 have q114 : ((zI (zE l0_0 x4_2) x5_3).f0) < (l0_0.length : Int) := of_decide_eq_true (by first | (with_reducible assumption) | assumption)
                 obtain ⟨ad114, A114_0, c114_0, e114, hx114_0, hl114_0, hi114_0⟩ := ZY HR0_0.out ((zI (zE l0_0 x4_2) x5_3).f0) p114 q114
                 have hw114_0 := hx114_0
                 obtain rfl : ad105 = ad114 := (by injection e114)
                 replace hx114_0 := (HB.out.cell (ypy w _ hx114_0)).trans hx114_0
                 have HR114_0 := zA.mk hi114_0
                 have HC114_0 := zA.mk hl114_0
                 clear hi114_0 hl114_0
                 replace p114 := eq_true p114
                 replace q114 := eq_true q114
                 have p115 : 0 ≤ (t111 : Int) := of_decide_eq_true (by first | (with_reducible assumption) | assumption)
                 have q115 : t111 < ((zE l0_0 ((zI (zE l0_0 x4_2) x5_3).f0)).length : Int) := of_decide_eq_true (by first | (with_reducible assumption) | assumption)
                 obtain ⟨ad115, e115, hx115_0, hx115_1⟩ := QB HR114_0.out t111 p115 q115
                 have hw115_1 := hx115_1
                 have hw115_0 := hx115_0
                 cases e115
                 replace hx115_0 := (HB.out.cell (ypy w _ hx115_0)).trans hx115_0
                 replace hx115_1 := (HB.out.cell (ypy w _ hx115_1)).trans hx115_1
                 replace p115 := eq_true p115
                 replace q115 := eq_true q115
                 refine Zw (n := 22) (S := fun w' => w'.cell? ⟨gb101, 0, none⟩ = some (.slice (some ad105) l0_0.length c0_0) ∧ w'.cell? ⟨gb107, 0, none⟩ = some (.int .i64 ((zI (zE l0_0 x4_2) x5_3).f0)) ∧ w'.cell? ⟨gb107, 1, none⟩ = some (.int .i64 ((zI (zE l0_0 x4_2) x5_3).f1)) ∧ w'.cell? ⟨gb113, 0, none⟩ = some (.int .i64 x4_2) ∧ w'.cell? ⟨gb113, 1, none⟩ = some (.int .i64 t112) ∧ w'.cell? (ad105.add (((zI (zE l0_0 x4_2) x5_3).f0)).toNat) = some (.slice (some ad115) (zE l0_0 ((zI (zE l0_0 x4_2) x5_3).f0)).length c114_0) ∧ w'.cell? (ad115.add ((t111).toNat * 2)) = some (.int .i64 ((zI (zE l0_0 ((zI (zE l0_0 x4_2) x5_3).f0)) t111).f0)) ∧ w'.cell? ⟨(ad115.add ((t111).toNat * 2)).block, (ad115.add ((t111).toNat * 2)).off + 1, none⟩ = some (.int .i64 ((zI (zE l0_0 ((zI (zE l0_0 x4_2) x5_3).f0)) t111).f1))) (ds := []) #[false, false, false, false, false, false, false, false, false, false, false, false, false, false, false, false, false, false, false, false, false, false] (by kernel_rfl) rfl rfl ⟨(zL BK101.out 0).trans rfl, (zL BK107.out 0).trans rfl, (zL BK107.out 1).trans rfl, (zL BK113.out 0).trans rfl, (zL BK113.out 1).trans rfl, ((HB.out.cell (ypy w _ hw114_0)).trans hw114_0), ((HB.out.cell (ypy w _ hw115_0)).trans hw115_0), ((HB.out.cell (ypy w _ hw115_1)).trans hw115_1)⟩ (fun hHeld => ?_); refine ZE zK.zFF zK.zDM (fun HT_ HW_ => ?_)
                 generalize w97.drew = w98 at BK101 BK107 BK113 HB HR114_0 hx114_0 hx115_0 hx115_1 hHeld ⊢
                 refine zg (i := 0) (N := some 74) (v := ?_) (a' := ?_) #[true, false, false, false, false, false, false, false, false, false, false, false, false, false, false, false, false, false, false, false, false, false] rfl rfl (zd HT_.out (by kernel_rfl)) (fun _ _ _ h => h) (Or.inl ⟨by rfl, ?_⟩) ?_ ?_
                 rotate_left
                 next =>
                  intro w'
                  go_simp
                  with_reducible rfl
                 rotate_left
                 next =>
                  simp only [Act.put, yay, yby, ycy, za, zb]
                  rfl
                 refine zg (i := 2) (N := some 76) (v := ?_) (a' := ?_) #[true, false, true, false, false, false, false, false, false, false, false, false, false, false, false, false, false, false, false, false, false, false] rfl rfl (zd HT_.out (by kernel_rfl)) (fun _ _ _ h => h) (Or.inl ⟨by rfl, ?_⟩) ?_ ?_
                 rotate_left
                 next =>
                  intro w'
                  go_simp
                  with_reducible rfl
                 rotate_left
                 next =>
                  simp only [Act.put, yay, yby, ycy, za, zb]
                  rfl
                 refine zg (i := 6) (N := some 80) (v := ?_) (a' := ?_) #[true, false, true, false, false, false, true, false, false, false, false, false, false, false, false, false, false, false, false, false, false, false] rfl rfl (zd HT_.out (by kernel_rfl)) (fun _ _ _ h => h) (Or.inl ⟨by rfl, ?_⟩) ?_ ?_
                 rotate_left
                 next =>
                  intro w'
                  go_simp
                  with_reducible rfl
                 rotate_left
                 next =>
                  simp only [Act.put, yay, yby, ycy, za, zb]
                  rfl
                 refine qq (i := 1) (N := some 75) (v := ?_) (a' := ?_) #[true, true, true, false, false, false, true, false, false, false, false, false, false, false, false, false, false, false, false, false, false, false] rfl rfl (zx HT_.out HW_.out (by kernel_rfl)) (fun _ _ _ h => h) (Or.inl ⟨by rfl, ?_⟩) hHeld ?_ ?_
                 rotate_left
                 next =>
                  rintro w' ⟨s0, s1, s2, s3, s4, s5, s6, s7⟩
                  go_simp
                  with_reducible rfl
                 rotate_left
                 next =>
                  simp only [Act.put, yay, yby, ycy, za, zb]
                  rfl
                 refine qq (i := 3) (N := some 77) (v := ?_) (a' := ?_) #[true, true, true, true, false, false, true, false, false, false, false, false, false, false, false, false, false, false, false, false, false, false] rfl rfl (zx HT_.out HW_.out (by kernel_rfl)) (fun _ _ _ h => h) (Or.inl ⟨by rfl, ?_⟩) hHeld ?_ ?_
                 rotate_left
                 next =>
                  rintro w' ⟨s0, s1, s2, s3, s4, s5, s6, s7⟩
                  go_simp
                  with_reducible rfl
                 rotate_left
                 next =>
                  simp only [Act.put, yay, yby, ycy, za, zb]
                  rfl
                 refine zg (i := 4) (N := some 78) (v := ?_) (a' := ?_) #[true, true, true, true, true, false, true, false, false, false, false, false, false, false, false, false, false, false, false, false, false, false] rfl rfl (zd HT_.out (by kernel_rfl)) (fun _ _ _ h => h) (Or.inl ⟨by rfl, ?_⟩) ?_ ?_
                 rotate_left
                 next =>
                  intro w'
                  go_simp
                  with_reducible rfl
                 rotate_left
                 next =>
                  simp only [Act.put, yay, yby, ycy, za, zb]
                  rfl
                 refine qq (i := 5) (N := some 79) (v := ?_) (a' := ?_) #[true, true, true, true, true, true, true, false, false, false, false, false, false, false, false, false, false, false, false, false, false, false] rfl rfl (zx HT_.out HW_.out (by kernel_rfl)) (fun _ _ _ h => h) (Or.inl ⟨by rfl, ?_⟩) hHeld ?_ ?_
                 rotate_left
                 next =>
                  rintro w' ⟨s0, s1, s2, s3, s4, s5, s6, s7⟩
                  go_simp
                  with_reducible rfl
                 rotate_left
                 next =>
                  simp only [Act.put, yay, yby, ycy, za, zb]
                  rfl
                 refine zg (i := 7) (N := some 81) (v := ?_) (a' := ?_) #[true, true, true, true, true, true, true, true, false, false, false, false, false, false, false, false, false, false, false, false, false, false] rfl rfl (zd HT_.out (by kernel_rfl)) (fun _ _ _ h => h) (Or.inl ⟨by rfl, ?_⟩) ?_ ?_
                 rotate_left
                 next =>
                  intro w'
                  go_simp
                  with_reducible rfl
                 rotate_left
                 next =>
                  simp only [Act.put, yay, yby, ycy, za, zb]
                  rfl
                 refine qq (i := 8) (N := some 82) (v := ?_) (a' := ?_) #[true, true, true, true, true, true, true, true, true, false, false, false, false, false, false, false, false, false, false, false, false, false] rfl rfl (zx HT_.out HW_.out (by kernel_rfl)) (fun _ _ _ h => h) (Or.inl ⟨by rfl, ?_⟩) hHeld ?_ ?_
                 rotate_left
                 next =>
                  rintro w' ⟨s0, s1, s2, s3, s4, s5, s6, s7⟩
                  go_simp
                  with_reducible rfl
                 rotate_left
                 next =>
                  simp only [Act.put, yay, yby, ycy, za, zb]
                  rfl
                 refine qq (i := 9) (N := some 83) (v := ?_) (a' := ?_) #[true, true, true, true, true, true, true, true, true, true, false, false, false, false, false, false, false, false, false, false, false, false] rfl rfl (zx HT_.out HW_.out (by kernel_rfl)) (fun _ _ _ h => h) (Or.inl ⟨by rfl, ?_⟩) hHeld ?_ ?_
                 rotate_left
                 next =>
                  rintro w' ⟨s0, s1, s2, s3, s4, s5, s6, s7⟩
                  go_simp
                  with_reducible rfl
                 rotate_left
                 next =>
                  simp only [Act.put, yay, yby, ycy, za, zb]
                  rfl
                 refine zg (i := 10) (N := some 84) (v := ?_) (a' := ?_) #[true, true, true, true, true, true, true, true, true, true, true, false, false, false, false, false, false, false, false, false, false, false] rfl rfl (zd HT_.out (by kernel_rfl)) (fun _ _ _ h => h) (Or.inl ⟨by rfl, ?_⟩) ?_ ?_
                 rotate_left
                 next =>
                  intro w'
                  go_simp
                  with_reducible rfl
                 rotate_left
                 next =>
                  simp only [Act.put, yay, yby, ycy, za, zb]
                  rfl
                 refine zg (i := 11) (N := some 85) (v := ?_) (a' := ?_) #[true, true, true, true, true, true, true, true, true, true, true, true, false, false, false, false, false, false, false, false, false, false] rfl rfl (zd HT_.out (by kernel_rfl)) (fun _ _ _ h => h) (Or.inl ⟨by rfl, ?_⟩) ?_ ?_
                 rotate_left
                 next =>
                  intro w'
                  go_simp
                  with_reducible rfl
                 rotate_left
                 next =>
                  simp only [Act.put, yay, yby, ycy, za, zb]
                  rfl
                 refine zg (i := 12) (N := some 86) (v := ?_) (a' := ?_) #[true, true, true, true, true, true, true, true, true, true, true, true, true, false, false, false, false, false, false, false, false, false] rfl rfl (zd HT_.out (by kernel_rfl)) (fun _ _ _ h => h) (Or.inl ⟨by rfl, ?_⟩) ?_ ?_
                 rotate_left
                 next =>
                  intro w'
                  go_simp
                  with_reducible rfl
                 rotate_left
                 next =>
                  simp only [Act.put, yay, yby, ycy, za, zb]
                  rfl
                 refine zg (i := 14) (N := some 88) (v := ?_) (a' := ?_) #[true, true, true, true, true, true, true, true, true, true, true, true, true, false, true, false, false, false, false, false, false, false] rfl rfl (zd HT_.out (by kernel_rfl)) (fun _ _ _ h => h) (Or.inl ⟨by rfl, ?_⟩) ?_ ?_
                 rotate_left
                 next =>
                  intro w'
                  go_simp
                  with_reducible rfl
                 rotate_left
                 next =>
                  simp only [Act.put, yay, yby, ycy, za, zb]
                  rfl
                 refine qq (i := 13) (N := some 87) (v := ?_) (a' := ?_) #[true, true, true, true, true, true, true, true, true, true, true, true, true, true, true, false, false, false, false, false, false, false] rfl rfl (zx HT_.out HW_.out (by kernel_rfl)) (fun _ _ _ h => h) (Or.inl ⟨by rfl, ?_⟩) hHeld ?_ ?_
                 rotate_left
                 next =>
                  rintro w' ⟨s0, s1, s2, s3, s4, s5, s6, s7⟩
                  go_simp
                  with_reducible rfl
                 rotate_left
                 next =>
                  simp only [Act.put, yay, yby, ycy, za, zb]
                  rfl
                 refine zg (i := 15) (N := some 89) (v := ?_) (a' := ?_) #[true, true, true, true, true, true, true, true, true, true, true, true, true, true, true, true, false, false, false, false, false, false] rfl rfl (zd HT_.out (by kernel_rfl)) (fun _ _ _ h => h) (Or.inl ⟨by rfl, ?_⟩) ?_ ?_
                 rotate_left
                 next =>
                  intro w'
                  go_simp
                  with_reducible rfl
                 rotate_left
                 next =>
                  simp only [Act.put, yay, yby, ycy, za, zb]
                  rfl
                 refine zg (i := 16) (N := some 90) (v := ?_) (a' := ?_) #[true, true, true, true, true, true, true, true, true, true, true, true, true, true, true, true, true, false, false, false, false, false] rfl rfl (zd HT_.out (by kernel_rfl)) (fun _ _ _ h => h) (Or.inl ⟨by rfl, ?_⟩) ?_ ?_
                 rotate_left
                 next =>
                  intro w'
                  go_simp
                  with_reducible rfl
                 rotate_left
                 next =>
                  simp only [Act.put, yay, yby, ycy, za, zb]
                  rfl
                 refine zg (i := 17) (N := some 91) (v := undef) (a' := ?_) #[true, true, true, true, true, true, true, true, true, true, true, true, true, true, true, true, true, true, false, false, false, false] rfl rfl (zd HT_.out (by kernel_rfl)) (fun _ _ _ h => h) (Or.inr ⟨by rfl, rfl⟩) ?_ ?_
                 rotate_left
                 next =>
                  simp only [Act.put, yay, yby, ycy, za, zb]
                  rfl
                 refine zg (i := 18) (N := some 92) (v := undef) (a' := ?_) #[true, true, true, true, true, true, true, true, true, true, true, true, true, true, true, true, true, true, true, false, false, false] rfl rfl (zd HT_.out (by kernel_rfl)) (fun _ _ _ h => h) (Or.inr ⟨by rfl, rfl⟩) ?_ ?_
                 rotate_left
                 next =>
                  simp only [Act.put, yay, yby, ycy, za, zb]
                  rfl
                 refine zg (i := 19) (N := some 93) (v := undef) (a' := ?_) #[true, true, true, true, true, true, true, true, true, true, true, true, true, true, true, true, true, true, true, true, false, false] rfl rfl (zd HT_.out (by kernel_rfl)) (fun _ _ _ h => h) (Or.inr ⟨by rfl, rfl⟩) ?_ ?_
                 rotate_left
                 next =>
                  simp only [Act.put, yay, yby, ycy, za, zb]
                  rfl
                 refine zg (i := 20) (N := some 94) (v := ?_) (a' := ?_) #[true, true, true, true, true, true, true, true, true, true, true, true, true, true, true, true, true, true, true, true, true, false] rfl rfl (zd HT_.out (by kernel_rfl)) (fun _ _ _ h => h) (Or.inl ⟨by rfl, ?_⟩) ?_ ?_
                 rotate_left
                 next =>
                  intro w'
                  go_simp
                  with_reducible rfl
                 rotate_left
                 next =>
                  simp only [Act.put, yay, yby, ycy, za, zb]
                  rfl
                 refine zg (i := 21) (N := some 95) (v := ?_) (a' := ?_) #[true, true, true, true, true, true, true, true, true, true, true, true, true, true, true, true, true, true, true, true, true, true] rfl rfl (zd HT_.out (by kernel_rfl)) (fun _ _ _ h => h) (Or.inl ⟨by rfl, ?_⟩) ?_ ?_
                 rotate_left
                 next =>
                  intro w'
                  go_simp
                  with_reducible rfl
                 rotate_left
                 next =>
                  simp only [Act.put, yay, yby, ycy, za, zb]
                  rfl
                 refine Qn (Zm HT_.out (by kernel_rfl)) ?_
                 try go_wp2
                 go_roundg kj35
                 case measure => have := HK1.out; have := HK2.out; have := HK3.out; have := HJ24.out; have := HJ35.out; omega
                 case rel => exact ⟨(wrap64 (x5_3 + 1)), (by first | rfl | (simp; done) | (simp [*]; done)), H', ⟨by have := HK1.out; have := HK2.out; have := HK3.out; have := HJ24.out; have := HJ35.out; omega⟩, ⟨by (with_reducible repeat (first | refine zH ?_ _ | refine zJ ?_ | refine zG ?_ _)); exact BK101.out⟩, ⟨by repeat (first | (with_reducible first | exact HB.out | apply zC | apply zB | apply zD | refine zF ?_ GE101.out | refine zF ?_ GE107.out | refine zF ?_ GE113.out) | exact HB.out)⟩⟩
                rw [if_pos c64] at H
                have c64b0 : (((zI (zE l0_0 x4_2) x5_3).f0) == x4_2) = true := beq_iff_eq.mpr c64
                have c64b1 : (((zI (zE l0_0 x4_2) x5_3).f0) != x4_2) = false := bne_eq_false_iff_eq.mpr c64
                clear c64
                by_cases c65 : t111 = x5_3
                next =>
                 rw [if_pos c65] at H
                 have c65b0 : (t111 == x5_3) = true := beq_iff_eq.mpr c65
                 have c65b1 : (t111 != x5_3) = false := bne_eq_false_iff_eq.mpr c65
                 clear c65
                 obtain rfl := yey H
                 have hnb66 := NB107_101.out
                 have hnc66 := NB101_107.out
                 have hcz67_0 : wc.cell? ⟨gb107, 0, none⟩ = some (.int .i64 ((zI (zE l0_0 x4_2) x5_3).f0)) := (zL BK107.out 0).trans rfl
                 have hcz67_1 : wc.cell? ⟨gb107, 1, none⟩ = some (.int .i64 ((zI (zE l0_0 x4_2) x5_3).f1)) := (zL BK107.out 1).trans rfl
                 have hfz67_0 := zM BK107.out 0
                 have hfz67_1 := zM BK107.out 1
                 try go_wp2_with (first | ((with_reducible refine zX (f := 121) rfl ?_); refine qD (some 68) rfl rfl Try.func121 (by kernel_rfl) rfl #[.int .i64 ((zI (zE l0_0 x4_2) x5_3).f1), .int .i64 x5_3] rfl (by (try simp only [yiy, yjy, yky]); first | done | rfl | (simp only [yly, ymy]; rfl)) ?_; (with_reducible refine (qp.calls kj35 ((zI (zE l0_0 x4_2) x5_3).f1) x5_3 t111 _ A46.out).mono ?_); rintro e w68 ⟨rfl, hb⟩; refine ⟨_, rfl, ?_⟩; have n0_ := zA.mk (zP (g := gb101) (o := .cells #[.slice (some ad105) l0_0.length c0_0] 30 (0, 0)) (by (with_reducible repeat (first | refine zH ?_ _ | refine zJ ?_ | refine zG ?_ _)); exact BK101.out) hb); have n1_ := zA.mk (zP (g := gb107) (o := .cells #[.int .i64 ((zI (zE l0_0 x4_2) x5_3).f0), .int .i64 ((zI (zE l0_0 x4_2) x5_3).f1)] 115 (0, 0)) (by (with_reducible repeat (first | refine zH ?_ _ | refine zJ ?_ | refine zG ?_ _)); exact BK107.out) hb); have n2_ := zA.mk (zN (by repeat (first | (with_reducible first | exact HB.out | apply zC | apply zB | apply zD | refine zF ?_ GE101.out | refine zF ?_ GE107.out) | exact HB.out)) hb); clear BK101; clear BK107; clear HB; have BK101 := n0_; have BK107 := n1_; have HB := n2_; clear n0_ n1_ n2_; (try clear hb); (try clear hb2); (try clear hk); (try clear hi); have hcz69_0 : w68.cell? ⟨gb107, 0, none⟩ = some (.int .i64 ((zI (zE l0_0 x4_2) x5_3).f0)) := (zL BK107.out 0).trans rfl; have hcz69_1 : w68.cell? ⟨gb107, 1, none⟩ = some (.int .i64 ((zI (zE l0_0 x4_2) x5_3).f1)) := (zL BK107.out 1).trans rfl; have hfz69_0 := zM BK107.out 0; have hfz69_1 := zM BK107.out 1) | ((with_reducible refine zX (f := 141) rfl ?_); refine qD (some 72) rfl rfl Try.func141 (by kernel_rfl) rfl #[.int .i64 ((zI (zE l0_0 x4_2) x5_3).f1)] rfl (by (try simp only [yiy, yjy, yky]); first | done | rfl | (simp only [yly, ymy]; rfl)) ?_; (with_reducible refine (qC.calls kj35 ((zI (zE l0_0 x4_2) x5_3).f1) t112 _ A47.out).mono ?_); rintro e w70 ⟨rfl, hb⟩; refine ⟨_, rfl, ?_⟩; have n0_ := zA.mk (zP (g := gb101) (o := .cells #[.slice (some ad105) l0_0.length c0_0] 30 (0, 0)) (by (with_reducible repeat (first | refine zH ?_ _ | refine zJ ?_ | refine zG ?_ _)); exact BK101.out) hb); have n1_ := zA.mk (zP (g := gb107) (o := .cells #[.int .i64 ((zI (zE l0_0 x4_2) x5_3).f0), .int .i64 ((zI (zE l0_0 x4_2) x5_3).f1)] 115 (0, 0)) (by (with_reducible repeat (first | refine zH ?_ _ | refine zJ ?_ | refine zG ?_ _)); exact BK107.out) hb); have n2_ := zA.mk (zN (by repeat (first | (with_reducible first | exact HB.out | apply zC | apply zB | apply zD | refine zF ?_ GE101.out | refine zF ?_ GE107.out) | exact HB.out)) hb); clear BK101; clear BK107; clear HB; have BK101 := n0_; have BK107 := n1_; have HB := n2_; clear n0_ n1_ n2_; (try clear hb); (try clear hb2); (try clear hk); (try clear hi)) | ((with_reducible refine zj (N := 8) rfl ?_); refine zk ?hg (N := 8) ?hd (cs := #[.int .i64 0, .int .i64 0]) (t := 115) ?hr ?_; (case hd => rfl); (case hg => rfl); (case hr => first | (go_simp; done) | (go_simp; rfl)); intro gb113 hg w71 hbox hb; have n0_ := zA.mk (zP (g := gb101) (o := .cells #[.slice (some ad105) l0_0.length c0_0] 30 (0, 0)) (by (with_reducible repeat (first | refine zH ?_ _ | refine zJ ?_ | refine zG ?_ _)); exact BK101.out) hb); have n1_ := zA.mk (zP (g := gb107) (o := .cells #[.int .i64 ((zI (zE l0_0 x4_2) x5_3).f0), .int .i64 ((zI (zE l0_0 x4_2) x5_3).f1)] 115 (0, 0)) (by (with_reducible repeat (first | refine zH ?_ _ | refine zJ ?_ | refine zG ?_ _)); exact BK107.out) hb); have n2_ := zA.mk (zN (by repeat (first | (with_reducible first | exact HB.out | apply zC | apply zB | apply zD | refine zF ?_ GE101.out | refine zF ?_ GE107.out) | exact HB.out)) hb); have n3_ := zA.mk (hbox); have n4_ := zA.mk ((by rw [hg]; exact (zO (by repeat (first | (with_reducible first | exact HB.out | apply zC | apply zB | apply zD | refine zF ?_ GE101.out | refine zF ?_ GE107.out) | exact HB.out))) : w.heap.size ≤ gb113)); have n5_ := zA.mk ((by rw [hg]; exact (zO (by repeat (first | (with_reducible first | exact HB.out | apply zC | apply zB | apply zD | refine zF ?_ GE101.out | refine zF ?_ GE107.out) | exact HB.out))) : w.heap.size ≤ gb113)); have n6_ := zA.mk ((by rw [hg]; exact Nat.ne_of_lt (qP (g := gb101) (o := .cells #[.slice (some ad105) l0_0.length c0_0] 30 (0, 0)) (by (with_reducible repeat (first | refine zH ?_ _ | refine zJ ?_ | refine zG ?_ _)); exact BK101.out)) : gb101 ≠ gb113)); have n7_ := zA.mk ((by rw [hg]; exact Nat.ne_of_gt (qP (g := gb101) (o := .cells #[.slice (some ad105) l0_0.length c0_0] 30 (0, 0)) (by (with_reducible repeat (first | refine zH ?_ _ | refine zJ ?_ | refine zG ?_ _)); exact BK101.out)) : gb113 ≠ gb101)); have n8_ := zA.mk ((by rw [hg]; exact Nat.ne_of_lt (qP (g := gb107) (o := .cells #[.int .i64 ((zI (zE l0_0 x4_2) x5_3).f0), .int .i64 ((zI (zE l0_0 x4_2) x5_3).f1)] 115 (0, 0)) (by (with_reducible repeat (first | refine zH ?_ _ | refine zJ ?_ | refine zG ?_ _)); exact BK107.out)) : gb107 ≠ gb113)); have n9_ := zA.mk ((by rw [hg]; exact Nat.ne_of_gt (qP (g := gb107) (o := .cells #[.int .i64 ((zI (zE l0_0 x4_2) x5_3).f0), .int .i64 ((zI (zE l0_0 x4_2) x5_3).f1)] 115 (0, 0)) (by (with_reducible repeat (first | refine zH ?_ _ | refine zJ ?_ | refine zG ?_ _)); exact BK107.out)) : gb113 ≠ gb107)); clear BK101; clear BK107; clear HB; have BK101 := n0_; have BK107 := n1_; have HB := n2_; have BK113 := n3_; have GW113 := n4_; have GE113 := n5_; have NB101_113 := n6_; have NB113_101 := n7_; have NB107_113 := n8_; have NB113_107 := n9_; clear n0_ n1_ n2_ n3_ n4_ n5_ n6_ n7_ n8_ n9_; clear hb hbox hg; have hnb72 := NB113_101.out; have hnc72 := NB101_113.out; have hnb73 := NB113_107.out; have hnc73 := NB107_113.out; have hcz74_0 : w71.cell? ⟨gb113, 0, none⟩ = some (.int .i64 0) := (zL BK113.out 0).trans rfl; have hcz74_1 : w71.cell? ⟨gb113, 1, none⟩ = some (.int .i64 0) := (zL BK113.out 1).trans rfl; have hfz74_0 := zM BK113.out 0; have hfz74_1 := zM BK113.out 1))
                 have n0_ : zA (((w71.setCell ⟨gb113, 0, none⟩ (.int .i64 x4_2)).setCell ⟨gb113, 1, none⟩ (.int .i64 t112)).heap[gb101]? = some (.cells #[.slice (some ad105) l0_0.length c0_0] 30 (0, 0))) := ⟨by (with_reducible repeat (first | refine zH ?_ _ | refine zJ ?_ | refine zG ?_ _)); refine qI ?_ NB101_113.out _; (with_reducible repeat (first | refine zH ?_ _ | refine zJ ?_ | refine zG ?_ _)); refine qI ?_ NB101_113.out _; (with_reducible repeat (first | refine zH ?_ _ | refine zJ ?_ | refine zG ?_ _)); exact BK101.out⟩
                 have n1_ : zA (((w71.setCell ⟨gb113, 0, none⟩ (.int .i64 x4_2)).setCell ⟨gb113, 1, none⟩ (.int .i64 t112)).heap[gb107]? = some (.cells #[.int .i64 ((zI (zE l0_0 x4_2) x5_3).f0), .int .i64 ((zI (zE l0_0 x4_2) x5_3).f1)] 115 (0, 0))) := ⟨by (with_reducible repeat (first | refine zH ?_ _ | refine zJ ?_ | refine zG ?_ _)); refine qI ?_ NB107_113.out _; (with_reducible repeat (first | refine zH ?_ _ | refine zJ ?_ | refine zG ?_ _)); refine qI ?_ NB107_113.out _; (with_reducible repeat (first | refine zH ?_ _ | refine zJ ?_ | refine zG ?_ _)); exact BK107.out⟩
                 have n2_ : zA (((w71.setCell ⟨gb113, 0, none⟩ (.int .i64 x4_2)).setCell ⟨gb113, 1, none⟩ (.int .i64 t112)).heap[gb113]? = some (.cells #[.int .i64 x4_2, .int .i64 t112] 115 (0, 0))) := ⟨by (with_reducible repeat (first | refine zH ?_ _ | refine zJ ?_ | refine zG ?_ _)); refine qY (cs := #[.int .i64 x4_2, .int .i64 0]) ?_ 1 _ rfl; (with_reducible repeat (first | refine zH ?_ _ | refine zJ ?_ | refine zG ?_ _)); refine qY (cs := #[.int .i64 0, .int .i64 0]) ?_ 0 _ rfl; (with_reducible repeat (first | refine zH ?_ _ | refine zJ ?_ | refine zG ?_ _)); exact BK113.out⟩
                 have n3_ : zA (Below w.heap.size w ((w71.setCell ⟨gb113, 0, none⟩ (.int .i64 x4_2)).setCell ⟨gb113, 1, none⟩ (.int .i64 t112))) := ⟨by repeat (first | (with_reducible first | exact HB.out | apply zC | apply zB | apply zD | refine zF ?_ GE101.out | refine zF ?_ GE107.out | refine zF ?_ GE113.out) | exact HB.out)⟩
                 (try clear BK101)
                 (try clear BK107)
                 (try clear BK113)
                 (try clear HB)
                 generalize ((w71.setCell ⟨gb113, 0, none⟩ (.int .i64 x4_2)).setCell ⟨gb113, 1, none⟩ (.int .i64 t112)) = w75 at n0_ n1_ n2_ n3_ ⊢
                 have BK101 := n0_
                 have BK107 := n1_
                 have BK113 := n2_
                 have HB := n3_
                 clear n0_ n1_ n2_ n3_
                 have n0_ := zA.mk (zJ BK101.out)
                 have n1_ := zA.mk (zJ BK107.out)
                 have n2_ := zA.mk (zJ BK113.out)
                 have n3_ := zA.mk (zD HB.out)
                 clear BK101
                 clear BK107
                 clear BK113
                 clear HB
                 have BK101 := n0_
                 have BK107 := n1_
                 have BK113 := n2_
                 have HB := n3_
                 clear n0_ n1_ n2_ n3_
                 have p114 : 0 ≤ (((zI (zE l0_0 x4_2) x5_3).f0) : Int) := of_decide_eq_true (by first | (with_reducible assumption) | assumption)
                 have q114 : ((zI (zE l0_0 x4_2) x5_3).f0) < (l0_0.length : Int) := of_decide_eq_true (by first | (with_reducible assumption) | assumption)
                 obtain ⟨ad114, A114_0, c114_0, e114, hx114_0, hl114_0, hi114_0⟩ := ZY HR0_0.out ((zI (zE l0_0 x4_2) x5_3).f0) p114 q114
                 have hw114_0 := hx114_0
                 obtain rfl : ad105 = ad114 := (by injection e114)
                 replace hx114_0 := (HB.out.cell (ypy w _ hx114_0)).trans hx114_0
                 have HR114_0 := zA.mk hi114_0
                 have HC114_0 := zA.mk hl114_0
                 clear hi114_0 hl114_0
                 replace p114 := eq_true p114
                 replace q114 := eq_true q114
                 have p115 : 0 ≤ (t111 : Int) := of_decide_eq_true (by first | (with_reducible assumption) | assumption)
                 have q115 : t111 < ((zE l0_0 ((zI (zE l0_0 x4_2) x5_3).f0)).length : Int) := of_decide_eq_true (by first | (with_reducible assumption) | assumption)
                 obtain ⟨ad115, e115, hx115_0, hx115_1⟩ := QB HR114_0.out t111 p115 q115
                 have hw115_1 := hx115_1
                 have hw115_0 := hx115_0
                 cases e115
                 replace hx115_0 := (HB.out.cell (ypy w _ hx115_0)).trans hx115_0
                 replace hx115_1 := (HB.out.cell (ypy w _ hx115_1)).trans hx115_1
                 replace p115 := eq_true p115
                 replace q115 := eq_true q115
                 refine Zw (n := 22) (S := fun w' => w'.cell? ⟨gb101, 0, none⟩ = some (.slice (some ad105) l0_0.length c0_0) ∧ w'.cell? ⟨gb107, 0, none⟩ = some (.int .i64 ((zI (zE l0_0 x4_2) x5_3).f0)) ∧ w'.cell? ⟨gb107, 1, none⟩ = some (.int .i64 ((zI (zE l0_0 x4_2) x5_3).f1)) ∧ w'.cell? ⟨gb113, 0, none⟩ = some (.int .i64 x4_2) ∧ w'.cell? ⟨gb113, 1, none⟩ = some (.int .i64 t112) ∧ w'.cell? (ad105.add (((zI (zE l0_0 x4_2) x5_3).f0)).toNat) = some (.slice (some ad115) (zE l0_0 ((zI (zE l0_0 x4_2) x5_3).f0)).length c114_0) ∧ w'.cell? (ad115.add ((t111).toNat * 2)) = some (.int .i64 ((zI (zE l0_0 ((zI (zE l0_0 x4_2) x5_3).f0)) t111).f0)) ∧ w'.cell? ⟨(ad115.add ((t111).toNat * 2)).block, (ad115.add ((t111).toNat * 2)).off + 1, none⟩ = some (.int .i64 ((zI (zE l0_0 ((zI (zE l0_0 x4_2) x5_3).f0)) t111).f1))) (ds := []) #[false, false, false, false, false, false, false, false, false, false, false, false, false, false, false, false, false, false, false, false, false, false] (by kernel_rfl) rfl rfl ⟨(zL BK101.out 0).trans rfl, (zL BK107.out 0).trans rfl, (zL BK107.out 1).trans rfl, (zL BK113.out 0).trans rfl, (zL BK113.out 1).trans rfl, ((HB.out.cell (ypy w _ hw114_0)).trans hw114_0), ((HB.out.cell (ypy w _ hw115_0)).trans hw115_0), ((HB.out.cell (ypy w _ hw115_1)).trans hw115_1)⟩ (fun hHeld => ?_); refine ZE zK.zFF zK.zDM (fun HT_ HW_ => ?_)
                 generalize w75.drew = w76 at BK101 BK107 BK113 HB HR114_0 hx114_0 hx115_0 hx115_1 hHeld ⊢
                 refine zg (i := 0) (N := some 74) (v := ?_) (a' := ?_) #[true, false, false, false, false, false, false, false, false, false, false, false, false, false, false, false, false, false, false, false, false, false] rfl rfl (zd HT_.out (by kernel_rfl)) (fun _ _ _ h => h) (Or.inl ⟨by rfl, ?_⟩) ?_ ?_
                 rotate_left
                 next =>
                  intro w'
                  go_simp
                  with_reducible rfl
                 rotate_left
                 next =>
                  simp only [Act.put, yay, yby, ycy, za, zb]
                  rfl
                 refine zg (i := 2) (N := some 76) (v := ?_) (a' := ?_) #[true, false, true, false, false, false, false, false, false, false, false, false, false, false, false, false, false, false, false, false, false, false] rfl rfl (zd HT_.out (by kernel_rfl)) (fun _ _ _ h => h) (Or.inl ⟨by rfl, ?_⟩) ?_ ?_
                 rotate_left
                 next =>
                  intro w'
                  go_simp
                  with_reducible rfl
                 rotate_left
                 next =>
                  simp only [Act.put, yay, yby, ycy, za, zb]
                  rfl
                 refine zg (i := 6) (N := some 80) (v := ?_) (a' := ?_) #[true, false, true, false, false, false, true, false, false, false, false, false, false, false, false, false, false, false, false, false, false, false] rfl rfl (zd HT_.out (by kernel_rfl)) (fun _ _ _ h => h) (Or.inl ⟨by rfl, ?_⟩) ?_ ?_
                 rotate_left
                 next =>
                  intro w'
                  go_simp
                  with_reducible rfl
                 rotate_left
                 next =>
                  simp only [Act.put, yay, yby, ycy, za, zb]
                  rfl
                 refine qq (i := 1) (N := some 75) (v := ?_) (a' := ?_) #[true, true, true, false, false, false, true, false, false, false, false, false, false, false, false, false, false, false, false, false, false, false] rfl rfl (zx HT_.out HW_.out (by kernel_rfl)) (fun _ _ _ h => h) (Or.inl ⟨by rfl, ?_⟩) hHeld ?_ ?_
                 rotate_left
                 next =>
                  rintro w' ⟨s0, s1, s2, s3, s4, s5, s6, s7⟩
                  go_simp
                  with_reducible rfl
                 rotate_left
                 next =>
                  simp only [Act.put, yay, yby, ycy, za, zb]
                  rfl
                 refine qq (i := 3) (N := some 77) (v := ?_) (a' := ?_) #[true, true, true, true, false, false, true, false, false, false, false, false, false, false, false, false, false, false, false, false, false, false] rfl rfl (zx HT_.out HW_.out (by kernel_rfl)) (fun _ _ _ h => h) (Or.inl ⟨by rfl, ?_⟩) hHeld ?_ ?_
                 rotate_left
                 next =>
                  rintro w' ⟨s0, s1, s2, s3, s4, s5, s6, s7⟩
                  go_simp
                  with_reducible rfl
                 rotate_left
                 next =>
                  simp only [Act.put, yay, yby, ycy, za, zb]
                  rfl
                 refine zg (i := 4) (N := some 78) (v := ?_) (a' := ?_) #[true, true, true, true, true, false, true, false, false, false, false, false, false, false, false, false, false, false, false, false, false, false] rfl rfl (zd HT_.out (by kernel_rfl)) (fun _ _ _ h => h) (Or.inl ⟨by rfl, ?_⟩) ?_ ?_
                 rotate_left
                 next =>
                  intro w'
                  go_simp
                  with_reducible rfl
                 rotate_left
                 next =>
                  simp only [Act.put, yay, yby, ycy, za, zb]
                  rfl
                 refine qq (i := 5) (N := some 79) (v := ?_) (a' := ?_) #[true, true, true, true, true, true, true, false, false, false, false, false, false, false, false, false, false, false, false, false, false, false] rfl rfl (zx HT_.out HW_.out (by kernel_rfl)) (fun _ _ _ h => h) (Or.inl ⟨by rfl, ?_⟩) hHeld ?_ ?_
                 rotate_left
                 next =>
                  rintro w' ⟨s0, s1, s2, s3, s4, s5, s6, s7⟩
                  go_simp
                  with_reducible rfl
                 rotate_left
                 next =>
                  simp only [Act.put, yay, yby, ycy, za, zb]
                  rfl
                 refine zg (i := 7) (N := some 81) (v := ?_) (a' := ?_) #[true, true, true, true, true, true, true, true, false, false, false, false, false, false, false, false, false, false, false, false, false, false] rfl rfl (zd HT_.out (by kernel_rfl)) (fun _ _ _ h => h) (Or.inl ⟨by rfl, ?_⟩) ?_ ?_
                 rotate_left
                 next =>
                  intro w'
                  go_simp
                  with_reducible rfl
                 rotate_left
                 next =>
                  simp only [Act.put, yay, yby, ycy, za, zb]
                  rfl
                 refine qq (i := 8) (N := some 82) (v := ?_) (a' := ?_) #[true, true, true, true, true, true, true, true, true, false, false, false, false, false, false, false, false, false, false, false, false, false] rfl rfl (zx HT_.out HW_.out (by kernel_rfl)) (fun _ _ _ h => h) (Or.inl ⟨by rfl, ?_⟩) hHeld ?_ ?_
                 rotate_left
                 next =>
                  rintro w' ⟨s0, s1, s2, s3, s4, s5, s6, s7⟩
                  go_simp
                  with_reducible rfl
                 rotate_left
                 next =>
                  simp only [Act.put, yay, yby, ycy, za, zb]
                  rfl
                 refine qq (i := 9) (N := some 83) (v := ?_) (a' := ?_) #[true, true, true, true, true, true, true, true, true, true, false, false, false, false, false, false, false, false, false, false, false, false] rfl rfl (zx HT_.out HW_.out (by kernel_rfl)) (fun _ _ _ h => h) (Or.inl ⟨by rfl, ?_⟩) hHeld ?_ ?_
                 rotate_left
                 next =>
                  rintro w' ⟨s0, s1, s2, s3, s4, s5, s6, s7⟩
                  go_simp
                  with_reducible rfl
                 rotate_left
                 next =>
                  simp only [Act.put, yay, yby, ycy, za, zb]
                  rfl
                 refine zg (i := 10) (N := some 84) (v := ?_) (a' := ?_) #[true, true, true, true, true, true, true, true, true, true, true, false, false, false, false, false, false, false, false, false, false, false] rfl rfl (zd HT_.out (by kernel_rfl)) (fun _ _ _ h => h) (Or.inl ⟨by rfl, ?_⟩) ?_ ?_
                 rotate_left
                 next =>
                  intro w'
                  go_simp
                  with_reducible rfl
                 rotate_left
                 next =>
                  simp only [Act.put, yay, yby, ycy, za, zb]
                  rfl
                 refine zg (i := 11) (N := some 85) (v := ?_) (a' := ?_) #[true, true, true, true, true, true, true, true, true, true, true, true, false, false, false, false, false, false, false, false, false, false] rfl rfl (zd HT_.out (by kernel_rfl)) (fun _ _ _ h => h) (Or.inl ⟨by rfl, ?_⟩) ?_ ?_
                 rotate_left
                 next =>
                  intro w'
                  go_simp
                  with_reducible rfl
                 rotate_left
                 next =>
                  simp only [Act.put, yay, yby, ycy, za, zb]
                  rfl
                 refine zg (i := 12) (N := some 86) (v := ?_) (a' := ?_) #[true, true, true, true, true, true, true, true, true, true, true, true, true, false, false, false, false, false, false, false, false, false] rfl rfl (zd HT_.out (by kernel_rfl)) (fun _ _ _ h => h) (Or.inl ⟨by rfl, ?_⟩) ?_ ?_
                 rotate_left
                 next =>
                  intro w'
                  go_simp
                  with_reducible rfl
                 rotate_left
                 next =>
                  simp only [Act.put, yay, yby, ycy, za, zb]
                  rfl
                 refine zg (i := 14) (N := some 88) (v := ?_) (a' := ?_) #[true, true, true, true, true, true, true, true, true, true, true, true, true, false, true, false, false, false, false, false, false, false] rfl rfl (zd HT_.out (by kernel_rfl)) (fun _ _ _ h => h) (Or.inl ⟨by rfl, ?_⟩) ?_ ?_
                 rotate_left
                 next =>
                  intro w'
                  go_simp
                  with_reducible rfl
                 rotate_left
                 next =>
                  simp only [Act.put, yay, yby, ycy, za, zb]
                  rfl
                 refine qq (i := 13) (N := some 87) (v := ?_) (a' := ?_) #[true, true, true, true, true, true, true, true, true, true, true, true, true, true, true, false, false, false, false, false, false, false] rfl rfl (zx HT_.out HW_.out (by kernel_rfl)) (fun _ _ _ h => h) (Or.inl ⟨by rfl, ?_⟩) hHeld ?_ ?_
                 rotate_left
                 next =>
                  rintro w' ⟨s0, s1, s2, s3, s4, s5, s6, s7⟩
                  go_simp
                  with_reducible rfl
                 rotate_left
                 next =>
                  simp only [Act.put, yay, yby, ycy, za, zb]
                  rfl
                 refine zg (i := 15) (N := some 89) (v := ?_) (a' := ?_) #[true, true, true, true, true, true, true, true, true, true, true, true, true, true, true, true, false, false, false, false, false, false] rfl rfl (zd HT_.out (by kernel_rfl)) (fun _ _ _ h => h) (Or.inl ⟨by rfl, ?_⟩) ?_ ?_
                 rotate_left
                 next =>
                  intro w'
                  go_simp
                  with_reducible rfl
                 rotate_left
                 next =>
                  simp only [Act.put, yay, yby, ycy, za, zb]
                  rfl
                 refine zg (i := 16) (N := some 90) (v := ?_) (a' := ?_) #[true, true, true, true, true, true, true, true, true, true, true, true, true, true, true, true, true, false, false, false, false, false] rfl rfl (zd HT_.out (by kernel_rfl)) (fun _ _ _ h => h) (Or.inl ⟨by rfl, ?_⟩) ?_ ?_
                 rotate_left
                 next =>
                  intro w'
                  go_simp
                  with_reducible rfl
                 rotate_left
                 next =>
                  simp only [Act.put, yay, yby, ycy, za, zb]
                  rfl
                 refine zg (i := 17) (N := some 91) (v := ?_) (a' := ?_) #[true, true, true, true, true, true, true, true, true, true, true, true, true, true, true, true, true, true, false, false, false, false] rfl rfl (zd HT_.out (by kernel_rfl)) (fun _ _ _ h => h) (Or.inl ⟨by rfl, ?_⟩) ?_ ?_
                 rotate_left
                 next =>
                  intro w'
                  go_simp
                  with_reducible rfl
                 rotate_left
                 next =>
                  simp only [Act.put, yay, yby, ycy, za, zb]
                  rfl
                 refine zg (i := 18) (N := some 92) (v := ?_) (a' := ?_) #[true, true, true, true, true, true, true, true, true, true, true, true, true, true, true, true, true, true, true, false, false, false] rfl rfl (zd HT_.out (by kernel_rfl)) (fun _ _ _ h => h) (Or.inl ⟨by rfl, ?_⟩) ?_ ?_
                 rotate_left
                 next =>
                  intro w'
                  go_simp
                  with_reducible rfl
                 rotate_left
                 next =>
                  simp only [Act.put, yay, yby, ycy, za, zb]
                  rfl
                 refine zg (i := 19) (N := some 93) (v := ?_) (a' := ?_) #[true, true, true, true, true, true, true, true, true, true, true, true, true, true, true, true, true, true, true, true, false, false] rfl rfl (zd HT_.out (by kernel_rfl)) (fun _ _ _ h => h) (Or.inl ⟨by rfl, ?_⟩) ?_ ?_
                 rotate_left
                 next =>
                  intro w'
                  go_simp
                  with_reducible rfl
                 rotate_left
                 next =>
                  simp only [Act.put, yay, yby, ycy, za, zb]
                  rfl
                 refine zg (i := 20) (N := some 94) (v := ?_) (a' := ?_) #[true, true, true, true, true, true, true, true, true, true, true, true, true, true, true, true, true, true, true, true, true, false] rfl rfl (zd HT_.out (by kernel_rfl)) (fun _ _ _ h => h) (Or.inl ⟨by rfl, ?_⟩) ?_ ?_
                 rotate_left
                 next =>
                  intro w'
                  go_simp
                  with_reducible rfl
                 rotate_left
                 next =>
                  simp only [Act.put, yay, yby, ycy, za, zb]
                  rfl
                 refine zg (i := 21) (N := some 95) (v := ?_) (a' := ?_) #[true, true, true, true, true, true, true, true, true, true, true, true, true, true, true, true, true, true, true, true, true, true] rfl rfl (zd HT_.out (by kernel_rfl)) (fun _ _ _ h => h) (Or.inl ⟨by rfl, ?_⟩) ?_ ?_
                 rotate_left
                 next =>
                  intro w'
                  go_simp
                  with_reducible rfl
                 rotate_left
                 next =>
                  simp only [Act.put, yay, yby, ycy, za, zb]
                  rfl
                 refine Qn (Zm HT_.out (by kernel_rfl)) ?_
                 try go_wp2
                 go_ret
                 exact ⟨by first | rfl | (simp [zY, zZ] <;> rfl) | (simp [*, zY, zZ] <;> rfl), by repeat (first | (with_reducible first | exact HB.out | apply zC | apply zB | apply zD | refine zF ?_ GE101.out | refine zF ?_ GE107.out | refine zF ?_ GE113.out) | exact HB.out)⟩
                next =>
                 rw [if_neg c65] at H
                 have c65b0 : (t111 == x5_3) = false := beq_eq_false_iff_ne.mpr c65
                 have c65b1 : (t111 != x5_3) = true := bne_iff_ne.mpr c65
                 have H' := zA.mk H
                 clear H
                 have hnb77 := NB107_101.out
                 have hnc77 := NB101_107.out
                 have hcz78_0 : wc.cell? ⟨gb107, 0, none⟩ = some (.int .i64 ((zI (zE l0_0 x4_2) x5_3).f0)) := (zL BK107.out 0).trans rfl
                 have hcz78_1 : wc.cell? ⟨gb107, 1, none⟩ = some (.int .i64 ((zI (zE l0_0 x4_2) x5_3).f1)) := (zL BK107.out 1).trans rfl
                 have hfz78_0 := zM BK107.out 0
                 have hfz78_1 := zM BK107.out 1
                 try go_wp2_with (first | ((with_reducible refine zX (f := 121) rfl ?_); refine qD (some 68) rfl rfl Try.func121 (by kernel_rfl) rfl #[.int .i64 ((zI (zE l0_0 x4_2) x5_3).f1), .int .i64 x5_3] rfl (by (try simp only [yiy, yjy, yky]); first | done | rfl | (simp only [yly, ymy]; rfl)) ?_; (with_reducible refine (qp.calls kj35 ((zI (zE l0_0 x4_2) x5_3).f1) x5_3 t111 _ A46.out).mono ?_); rintro e w79 ⟨rfl, hb⟩; refine ⟨_, rfl, ?_⟩; have n0_ := zA.mk (zP (g := gb101) (o := .cells #[.slice (some ad105) l0_0.length c0_0] 30 (0, 0)) (by (with_reducible repeat (first | refine zH ?_ _ | refine zJ ?_ | refine zG ?_ _)); exact BK101.out) hb); have n1_ := zA.mk (zP (g := gb107) (o := .cells #[.int .i64 ((zI (zE l0_0 x4_2) x5_3).f0), .int .i64 ((zI (zE l0_0 x4_2) x5_3).f1)] 115 (0, 0)) (by (with_reducible repeat (first | refine zH ?_ _ | refine zJ ?_ | refine zG ?_ _)); exact BK107.out) hb); have n2_ := zA.mk (zN (by repeat (first | (with_reducible first | exact HB.out | apply zC | apply zB | apply zD | refine zF ?_ GE101.out | refine zF ?_ GE107.out) | exact HB.out)) hb); clear BK101; clear BK107; clear HB; have BK101 := n0_; have BK107 := n1_; have HB := n2_; clear n0_ n1_ n2_; (try clear hb); (try clear hb2); (try clear hk); (try clear hi); have hcz80_0 : w79.cell? ⟨gb107, 0, none⟩ = some (.int .i64 ((zI (zE l0_0 x4_2) x5_3).f0)) := (zL BK107.out 0).trans rfl; have hcz80_1 : w79.cell? ⟨gb107, 1, none⟩ = some (.int .i64 ((zI (zE l0_0 x4_2) x5_3).f1)) := (zL BK107.out 1).trans rfl; have hfz80_0 := zM BK107.out 0; have hfz80_1 := zM BK107.out 1) | ((with_reducible refine zX (f := 141) rfl ?_); refine qD (some 72) rfl rfl Try.func141 (by kernel_rfl) rfl #[.int .i64 ((zI (zE l0_0 x4_2) x5_3).f1)] rfl (by (try simp only [yiy, yjy, yky]); first | done | rfl | (simp only [yly, ymy]; rfl)) ?_; (with_reducible refine (qC.calls kj35 ((zI (zE l0_0 x4_2) x5_3).f1) t112 _ A47.out).mono ?_); rintro e w81 ⟨rfl, hb⟩; refine ⟨_, rfl, ?_⟩; have n0_ := zA.mk (zP (g := gb101) (o := .cells #[.slice (some ad105) l0_0.length c0_0] 30 (0, 0)) (by (with_reducible repeat (first | refine zH ?_ _ | refine zJ ?_ | refine zG ?_ _)); exact BK101.out) hb); have n1_ := zA.mk (zP (g := gb107) (o := .cells #[.int .i64 ((zI (zE l0_0 x4_2) x5_3).f0), .int .i64 ((zI (zE l0_0 x4_2) x5_3).f1)] 115 (0, 0)) (by (with_reducible repeat (first | refine zH ?_ _ | refine zJ ?_ | refine zG ?_ _)); exact BK107.out) hb); have n2_ := zA.mk (zN (by repeat (first | (with_reducible first | exact HB.out | apply zC | apply zB | apply zD | refine zF ?_ GE101.out | refine zF ?_ GE107.out) | exact HB.out)) hb); clear BK101; clear BK107; clear HB; have BK101 := n0_; have BK107 := n1_; have HB := n2_; clear n0_ n1_ n2_; (try clear hb); (try clear hb2); (try clear hk); (try clear hi)) | ((with_reducible refine zj (N := 8) rfl ?_); refine zk ?hg (N := 8) ?hd (cs := #[.int .i64 0, .int .i64 0]) (t := 115) ?hr ?_; (case hd => rfl); (case hg => rfl); (case hr => first | (go_simp; done) | (go_simp; rfl)); intro gb113 hg w82 hbox hb; have n0_ := zA.mk (zP (g := gb101) (o := .cells #[.slice (some ad105) l0_0.length c0_0] 30 (0, 0)) (by (with_reducible repeat (first | refine zH ?_ _ | refine zJ ?_ | refine zG ?_ _)); exact BK101.out) hb); have n1_ := zA.mk (zP (g := gb107) (o := .cells #[.int .i64 ((zI (zE l0_0 x4_2) x5_3).f0), .int .i64 ((zI (zE l0_0 x4_2) x5_3).f1)] 115 (0, 0)) (by (with_reducible repeat (first | refine zH ?_ _ | refine zJ ?_ | refine zG ?_ _)); exact BK107.out) hb); have n2_ := zA.mk (zN (by repeat (first | (with_reducible first | exact HB.out | apply zC | apply zB | apply zD | refine zF ?_ GE101.out | refine zF ?_ GE107.out) | exact HB.out)) hb); have n3_ := zA.mk (hbox); have n4_ := zA.mk ((by rw [hg]; exact (zO (by repeat (first | (with_reducible first | exact HB.out | apply zC | apply zB | apply zD | refine zF ?_ GE101.out | refine zF ?_ GE107.out) | exact HB.out))) : w.heap.size ≤ gb113)); have n5_ := zA.mk ((by rw [hg]; exact (zO (by repeat (first | (with_reducible first | exact HB.out | apply zC | apply zB | apply zD | refine zF ?_ GE101.out | refine zF ?_ GE107.out) | exact HB.out))) : w.heap.size ≤ gb113)); have n6_ := zA.mk ((by rw [hg]; exact Nat.ne_of_lt (qP (g := gb101) (o := .cells #[.slice (some ad105) l0_0.length c0_0] 30 (0, 0)) (by (with_reducible repeat (first | refine zH ?_ _ | refine zJ ?_ | refine zG ?_ _)); exact BK101.out)) : gb101 ≠ gb113)); have n7_ := zA.mk ((by rw [hg]; exact Nat.ne_of_gt (qP (g := gb101) (o := .cells #[.slice (some ad105) l0_0.length c0_0] 30 (0, 0)) (by (with_reducible repeat (first | refine zH ?_ _ | refine zJ ?_ | refine zG ?_ _)); exact BK101.out)) : gb113 ≠ gb101)); have n8_ := zA.mk ((by rw [hg]; exact Nat.ne_of_lt (qP (g := gb107) (o := .cells #[.int .i64 ((zI (zE l0_0 x4_2) x5_3).f0), .int .i64 ((zI (zE l0_0 x4_2) x5_3).f1)] 115 (0, 0)) (by (with_reducible repeat (first | refine zH ?_ _ | refine zJ ?_ | refine zG ?_ _)); exact BK107.out)) : gb107 ≠ gb113)); have n9_ := zA.mk ((by rw [hg]; exact Nat.ne_of_gt (qP (g := gb107) (o := .cells #[.int .i64 ((zI (zE l0_0 x4_2) x5_3).f0), .int .i64 ((zI (zE l0_0 x4_2) x5_3).f1)] 115 (0, 0)) (by (with_reducible repeat (first | refine zH ?_ _ | refine zJ ?_ | refine zG ?_ _)); exact BK107.out)) : gb113 ≠ gb107)); clear BK101; clear BK107; clear HB; have BK101 := n0_; have BK107 := n1_; have HB := n2_; have BK113 := n3_; have GW113 := n4_; have GE113 := n5_; have NB101_113 := n6_; have NB113_101 := n7_; have NB107_113 := n8_; have NB113_107 := n9_; clear n0_ n1_ n2_ n3_ n4_ n5_ n6_ n7_ n8_ n9_; clear hb hbox hg; have hnb83 := NB113_101.out; have hnc83 := NB101_113.out; have hnb84 := NB113_107.out; have hnc84 := NB107_113.out; have hcz85_0 : w82.cell? ⟨gb113, 0, none⟩ = some (.int .i64 0) := (zL BK113.out 0).trans rfl; have hcz85_1 : w82.cell? ⟨gb113, 1, none⟩ = some (.int .i64 0) := (zL BK113.out 1).trans rfl; have hfz85_0 := zM BK113.out 0; have hfz85_1 := zM BK113.out 1))
                 have n0_ : zA (((w82.setCell ⟨gb113, 0, none⟩ (.int .i64 x4_2)).setCell ⟨gb113, 1, none⟩ (.int .i64 t112)).heap[gb101]? = some (.cells #[.slice (some ad105) l0_0.length c0_0] 30 (0, 0))) := ⟨by (with_reducible repeat (first | refine zH ?_ _ | refine zJ ?_ | refine zG ?_ _)); refine qI ?_ NB101_113.out _; (with_reducible repeat (first | refine zH ?_ _ | refine zJ ?_ | refine zG ?_ _)); refine qI ?_ NB101_113.out _; (with_reducible repeat (first | refine zH ?_ _ | refine zJ ?_ | refine zG ?_ _)); exact BK101.out⟩
                 have n1_ : zA (((w82.setCell ⟨gb113, 0, none⟩ (.int .i64 x4_2)).setCell ⟨gb113, 1, none⟩ (.int .i64 t112)).heap[gb107]? = some (.cells #[.int .i64 ((zI (zE l0_0 x4_2) x5_3).f0), .int .i64 ((zI (zE l0_0 x4_2) x5_3).f1)] 115 (0, 0))) := ⟨by (with_reducible repeat (first | refine zH ?_ _ | refine zJ ?_ | refine zG ?_ _)); refine qI ?_ NB107_113.out _; (with_reducible repeat (first | refine zH ?_ _ | refine zJ ?_ | refine zG ?_ _)); refine qI ?_ NB107_113.out _; (with_reducible repeat (first | refine zH ?_ _ | refine zJ ?_ | refine zG ?_ _)); exact BK107.out⟩
                 have n2_ : zA (((w82.setCell ⟨gb113, 0, none⟩ (.int .i64 x4_2)).setCell ⟨gb113, 1, none⟩ (.int .i64 t112)).heap[gb113]? = some (.cells #[.int .i64 x4_2, .int .i64 t112] 115 (0, 0))) := ⟨by (with_reducible repeat (first | refine zH ?_ _ | refine zJ ?_ | refine zG ?_ _)); refine qY (cs := #[.int .i64 x4_2, .int .i64 0]) ?_ 1 _ rfl; (with_reducible repeat (first | refine zH ?_ _ | refine zJ ?_ | refine zG ?_ _)); refine qY (cs := #[.int .i64 0, .int .i64 0]) ?_ 0 _ rfl; (with_reducible repeat (first | refine zH ?_ _ | refine zJ ?_ | refine zG ?_ _)); exact BK113.out⟩
                 have n3_ : zA (Below w.heap.size w ((w82.setCell ⟨gb113, 0, none⟩ (.int .i64 x4_2)).setCell ⟨gb113, 1, none⟩ (.int .i64 t112))) := ⟨by repeat (first | (with_reducible first | exact HB.out | apply zC | apply zB | apply zD | refine zF ?_ GE101.out | refine zF ?_ GE107.out | refine zF ?_ GE113.out) | exact HB.out)⟩
                 (try clear BK101)
                 (try clear BK107)
                 (try clear BK113)
                 (try clear HB)
                 generalize ((w82.setCell ⟨gb113, 0, none⟩ (.int .i64 x4_2)).setCell ⟨gb113, 1, none⟩ (.int .i64 t112)) = w86 at n0_ n1_ n2_ n3_ ⊢
                 have BK101 := n0_
                 have BK107 := n1_
                 have BK113 := n2_
                 have HB := n3_
                 clear n0_ n1_ n2_ n3_
                 have n0_ := zA.mk (zJ BK101.out)
                 have n1_ := zA.mk (zJ BK107.out)
                 have n2_ := zA.mk (zJ BK113.out)
                 have n3_ := zA.mk (zD HB.out)
                 clear BK101
                 clear BK107
                 clear BK113
                 clear HB
                 have BK101 := n0_
                 have BK107 := n1_
                 have BK113 := n2_
                 have HB := n3_
                 clear n0_ n1_ n2_ n3_
                 have p114 : 0 ≤ (((zI (zE l0_0 x4_2) x5_3).f0) : Int) := of_decide_eq_true (by first | (with_reducible assumption) | assumption)
                 have q114 : ((zI (zE l0_0 x4_2) x5_3).f0) < (l0_0.length : Int) := of_decide_eq_true (by first | (with_reducible assumption) | assumption)
                 obtain ⟨ad114, A114_0, c114_0, e114, hx114_0, hl114_0, hi114_0⟩ := ZY HR0_0.out ((zI (zE l0_0 x4_2) x5_3).f0) p114 q114
                 have hw114_0 := hx114_0
                 obtain rfl : ad105 = ad114 := (by injection e114)
                 replace hx114_0 := (HB.out.cell (ypy w _ hx114_0)).trans hx114_0
                 have HR114_0 := zA.mk hi114_0
                 have HC114_0 := zA.mk hl114_0
                 clear hi114_0 hl114_0
                 replace p114 := eq_true p114
                 replace q114 := eq_true q114
                 have p115 : 0 ≤ (t111 : Int) := of_decide_eq_true (by first | (with_reducible assumption) | assumption)
                 have q115 : t111 < ((zE l0_0 ((zI (zE l0_0 x4_2) x5_3).f0)).length : Int) := of_decide_eq_true (by first | (with_reducible assumption) | assumption)
                 obtain ⟨ad115, e115, hx115_0, hx115_1⟩ := QB HR114_0.out t111 p115 q115
                 have hw115_1 := hx115_1
                 have hw115_0 := hx115_0
                 cases e115
                 replace hx115_0 := (HB.out.cell (ypy w _ hx115_0)).trans hx115_0
                 replace hx115_1 := (HB.out.cell (ypy w _ hx115_1)).trans hx115_1
                 replace p115 := eq_true p115
                 replace q115 := eq_true q115
                 refine Zw (n := 22) (S := fun w' => w'.cell? ⟨gb101, 0, none⟩ = some (.slice (some ad105) l0_0.length c0_0) ∧ w'.cell? ⟨gb107, 0, none⟩ = some (.int .i64 ((zI (zE l0_0 x4_2) x5_3).f0)) ∧ w'.cell? ⟨gb107, 1, none⟩ = some (.int .i64 ((zI (zE l0_0 x4_2) x5_3).f1)) ∧ w'.cell? ⟨gb113, 0, none⟩ = some (.int .i64 x4_2) ∧ w'.cell? ⟨gb113, 1, none⟩ = some (.int .i64 t112) ∧ w'.cell? (ad105.add (((zI (zE l0_0 x4_2) x5_3).f0)).toNat) = some (.slice (some ad115) (zE l0_0 ((zI (zE l0_0 x4_2) x5_3).f0)).length c114_0) ∧ w'.cell? (ad115.add ((t111).toNat * 2)) = some (.int .i64 ((zI (zE l0_0 ((zI (zE l0_0 x4_2) x5_3).f0)) t111).f0)) ∧ w'.cell? ⟨(ad115.add ((t111).toNat * 2)).block, (ad115.add ((t111).toNat * 2)).off + 1, none⟩ = some (.int .i64 ((zI (zE l0_0 ((zI (zE l0_0 x4_2) x5_3).f0)) t111).f1))) (ds := []) #[false, false, false, false, false, false, false, false, false, false, false, false, false, false, false, false, false, false, false, false, false, false] (by kernel_rfl) rfl rfl ⟨(zL BK101.out 0).trans rfl, (zL BK107.out 0).trans rfl, (zL BK107.out 1).trans rfl, (zL BK113.out 0).trans rfl, (zL BK113.out 1).trans rfl, ((HB.out.cell (ypy w _ hw114_0)).trans hw114_0), ((HB.out.cell (ypy w _ hw115_0)).trans hw115_0), ((HB.out.cell (ypy w _ hw115_1)).trans hw115_1)⟩ (fun hHeld => ?_); refine ZE zK.zFF zK.zDM (fun HT_ HW_ => ?_)
                 generalize w86.drew = w87 at BK101 BK107 BK113 HB HR114_0 hx114_0 hx115_0 hx115_1 hHeld ⊢
                 refine zg (i := 0) (N := some 74) (v := ?_) (a' := ?_) #[true, false, false, false, false, false, false, false, false, false, false, false, false, false, false, false, false, false, false, false, false, false] rfl rfl (zd HT_.out (by kernel_rfl)) (fun _ _ _ h => h) (Or.inl ⟨by rfl, ?_⟩) ?_ ?_
                 rotate_left
                 next =>
                  intro w'
                  go_simp
                  with_reducible rfl
                 rotate_left
                 next =>
                  simp only [Act.put, yay, yby, ycy, za, zb]
                  rfl
                 refine zg (i := 2) (N := some 76) (v := ?_) (a' := ?_) #[true, false, true, false, false, false, false, false, false, false, false, false, false, false, false, false, false, false, false, false, false, false] rfl rfl (zd HT_.out (by kernel_rfl)) (fun _ _ _ h => h) (Or.inl ⟨by rfl, ?_⟩) ?_ ?_
                 rotate_left
                 next =>
                  intro w'
                  go_simp
                  with_reducible rfl
                 rotate_left
                 next =>
                  simp only [Act.put, yay, yby, ycy, za, zb]
                  rfl
                 refine zg (i := 6) (N := some 80) (v := ?_) (a' := ?_) #[true, false, true, false, false, false, true, false, false, false, false, false, false, false, false, false, false, false, false, false, false, false] rfl rfl (zd HT_.out (by kernel_rfl)) (fun _ _ _ h => h) (Or.inl ⟨by rfl, ?_⟩) ?_ ?_
                 rotate_left
                 next =>
                  intro w'
                  go_simp
                  with_reducible rfl
                 rotate_left
                 next =>
                  simp only [Act.put, yay, yby, ycy, za, zb]
                  rfl
                 refine qq (i := 1) (N := some 75) (v := ?_) (a' := ?_) #[true, true, true, false, false, false, true, false, false, false, false, false, false, false, false, false, false, false, false, false, false, false] rfl rfl (zx HT_.out HW_.out (by kernel_rfl)) (fun _ _ _ h => h) (Or.inl ⟨by rfl, ?_⟩) hHeld ?_ ?_
                 rotate_left
                 next =>
                  rintro w' ⟨s0, s1, s2, s3, s4, s5, s6, s7⟩
                  go_simp
                  with_reducible rfl
                 rotate_left
                 next =>
                  simp only [Act.put, yay, yby, ycy, za, zb]
                  rfl
                 refine qq (i := 3) (N := some 77) (v := ?_) (a' := ?_) #[true, true, true, true, false, false, true, false, false, false, false, false, false, false, false, false, false, false, false, false, false, false] rfl rfl (zx HT_.out HW_.out (by kernel_rfl)) (fun _ _ _ h => h) (Or.inl ⟨by rfl, ?_⟩) hHeld ?_ ?_
                 rotate_left
                 next =>
                  rintro w' ⟨s0, s1, s2, s3, s4, s5, s6, s7⟩
                  go_simp
                  with_reducible rfl
                 rotate_left
                 next =>
                  simp only [Act.put, yay, yby, ycy, za, zb]
                  rfl
                 refine zg (i := 4) (N := some 78) (v := ?_) (a' := ?_) #[true, true, true, true, true, false, true, false, false, false, false, false, false, false, false, false, false, false, false, false, false, false] rfl rfl (zd HT_.out (by kernel_rfl)) (fun _ _ _ h => h) (Or.inl ⟨by rfl, ?_⟩) ?_ ?_
                 rotate_left
                 next =>
                  intro w'
                  go_simp
                  with_reducible rfl
                 rotate_left
                 next =>
                  simp only [Act.put, yay, yby, ycy, za, zb]
                  rfl
                 refine qq (i := 5) (N := some 79) (v := ?_) (a' := ?_) #[true, true, true, true, true, true, true, false, false, false, false, false, false, false, false, false, false, false, false, false, false, false] rfl rfl (zx HT_.out HW_.out (by kernel_rfl)) (fun _ _ _ h => h) (Or.inl ⟨by rfl, ?_⟩) hHeld ?_ ?_
                 rotate_left
                 next =>
                  rintro w' ⟨s0, s1, s2, s3, s4, s5, s6, s7⟩
                  go_simp
                  with_reducible rfl
                 rotate_left
                 next =>
                  simp only [Act.put, yay, yby, ycy, za, zb]
                  rfl
                 refine zg (i := 7) (N := some 81) (v := ?_) (a' := ?_) #[true, true, true, true, true, true, true, true, false, false, false, false, false, false, false, false, false, false, false, false, false, false] rfl rfl (zd HT_.out (by kernel_rfl)) (fun _ _ _ h => h) (Or.inl ⟨by rfl, ?_⟩) ?_ ?_
                 rotate_left
                 next =>
                  intro w'
                  go_simp
                  with_reducible rfl
                 rotate_left
                 next =>
                  simp only [Act.put, yay, yby, ycy, za, zb]
                  rfl
                 refine qq (i := 8) (N := some 82) (v := ?_) (a' := ?_) #[true, true, true, true, true, true, true, true, true, false, false, false, false, false, false, false, false, false, false, false, false, false] rfl rfl (zx HT_.out HW_.out (by kernel_rfl)) (fun _ _ _ h => h) (Or.inl ⟨by rfl, ?_⟩) hHeld ?_ ?_
                 rotate_left
                 next =>
                  rintro w' ⟨s0, s1, s2, s3, s4, s5, s6, s7⟩
                  go_simp
                  with_reducible rfl
                 rotate_left
                 next =>
                  simp only [Act.put, yay, yby, ycy, za, zb]
                  rfl
                 refine qq (i := 9) (N := some 83) (v := ?_) (a' := ?_) #[true, true, true, true, true, true, true, true, true, true, false, false, false, false, false, false, false, false, false, false, false, false] rfl rfl (zx HT_.out HW_.out (by kernel_rfl)) (fun _ _ _ h => h) (Or.inl ⟨by rfl, ?_⟩) hHeld ?_ ?_
                 rotate_left
                 next =>
                  rintro w' ⟨s0, s1, s2, s3, s4, s5, s6, s7⟩
                  go_simp
                  with_reducible rfl
                 rotate_left
                 next =>
                  simp only [Act.put, yay, yby, ycy, za, zb]
                  rfl
                 refine zg (i := 10) (N := some 84) (v := ?_) (a' := ?_) #[true, true, true, true, true, true, true, true, true, true, true, false, false, false, false, false, false, false, false, false, false, false] rfl rfl (zd HT_.out (by kernel_rfl)) (fun _ _ _ h => h) (Or.inl ⟨by rfl, ?_⟩) ?_ ?_
                 rotate_left
                 next =>
                  intro w'
                  go_simp
                  with_reducible rfl
                 rotate_left
                 next =>
                  simp only [Act.put, yay, yby, ycy, za, zb]
                  rfl
                 refine zg (i := 11) (N := some 85) (v := ?_) (a' := ?_) #[true, true, true, true, true, true, true, true, true, true, true, true, false, false, false, false, false, false, false, false, false, false] rfl rfl (zd HT_.out (by kernel_rfl)) (fun _ _ _ h => h) (Or.inl ⟨by rfl, ?_⟩) ?_ ?_
                 rotate_left
                 next =>
                  intro w'
                  go_simp
                  with_reducible rfl
                 rotate_left
                 next =>
                  simp only [Act.put, yay, yby, ycy, za, zb]
                  rfl
                 refine zg (i := 12) (N := some 86) (v := ?_) (a' := ?_) #[true, true, true, true, true, true, true, true, true, true, true, true, true, false, false, false, false, false, false, false, false, false] rfl rfl (zd HT_.out (by kernel_rfl)) (fun _ _ _ h => h) (Or.inl ⟨by rfl, ?_⟩) ?_ ?_
                 rotate_left
                 next =>
                  intro w'
                  go_simp
                  with_reducible rfl
                 rotate_left
                 next =>
                  simp only [Act.put, yay, yby, ycy, za, zb]
                  rfl
                 refine zg (i := 14) (N := some 88) (v := ?_) (a' := ?_) #[true, true, true, true, true, true, true, true, true, true, true, true, true, false, true, false, false, false, false, false, false, false] rfl rfl (zd HT_.out (by kernel_rfl)) (fun _ _ _ h => h) (Or.inl ⟨by rfl, ?_⟩) ?_ ?_
                 rotate_left
                 next =>
                  intro w'
                  go_simp
                  with_reducible rfl
                 rotate_left
                 next =>
                  simp only [Act.put, yay, yby, ycy, za, zb]
                  rfl
                 refine qq (i := 13) (N := some 87) (v := ?_) (a' := ?_) #[true, true, true, true, true, true, true, true, true, true, true, true, true, true, true, false, false, false, false, false, false, false] rfl rfl (zx HT_.out HW_.out (by kernel_rfl)) (fun _ _ _ h => h) (Or.inl ⟨by rfl, ?_⟩) hHeld ?_ ?_
                 rotate_left
                 next =>
                  rintro w' ⟨s0, s1, s2, s3, s4, s5, s6, s7⟩
                  go_simp
                  with_reducible rfl
                 rotate_left
                 next =>
                  simp only [Act.put, yay, yby, ycy, za, zb]
                  rfl
                 refine zg (i := 15) (N := some 89) (v := ?_) (a' := ?_) #[true, true, true, true, true, true, true, true, true, true, true, true, true, true, true, true, false, false, false, false, false, false] rfl rfl (zd HT_.out (by kernel_rfl)) (fun _ _ _ h => h) (Or.inl ⟨by rfl, ?_⟩) ?_ ?_
                 rotate_left
                 next =>
                  intro w'
                  go_simp
                  with_reducible rfl
                 rotate_left
                 next =>
                  simp only [Act.put, yay, yby, ycy, za, zb]
                  rfl
                 refine zg (i := 16) (N := some 90) (v := ?_) (a' := ?_) #[true, true, true, true, true, true, true, true, true, true, true, true, true, true, true, true, true, false, false, false, false, false] rfl rfl (zd HT_.out (by kernel_rfl)) (fun _ _ _ h => h) (Or.inl ⟨by rfl, ?_⟩) ?_ ?_
                 rotate_left
                 next =>
                  intro w'
                  go_simp
                  with_reducible rfl
                 rotate_left
                 next =>
                  simp only [Act.put, yay, yby, ycy, za, zb]
                  rfl
                 refine zg (i := 17) (N := some 91) (v := ?_) (a' := ?_) #[true, true, true, true, true, true, true, true, true, true, true, true, true, true, true, true, true, true, false, false, false, false] rfl rfl (zd HT_.out (by kernel_rfl)) (fun _ _ _ h => h) (Or.inl ⟨by rfl, ?_⟩) ?_ ?_
                 rotate_left
                 next =>
                  intro w'
                  go_simp
                  with_reducible rfl
                 rotate_left
                 next =>
                  simp only [Act.put, yay, yby, ycy, za, zb]
                  rfl
                 refine zg (i := 18) (N := some 92) (v := ?_) (a' := ?_) #[true, true, true, true, true, true, true, true, true, true, true, true, true, true, true, true, true, true, true, false, false, false] rfl rfl (zd HT_.out (by kernel_rfl)) (fun _ _ _ h => h) (Or.inl ⟨by rfl, ?_⟩) ?_ ?_
                 rotate_left
                 next =>
                  intro w'
                  go_simp
                  with_reducible rfl
                 rotate_left
                 next =>
                  simp only [Act.put, yay, yby, ycy, za, zb]
                  rfl
                 refine zg (i := 19) (N := some 93) (v := ?_) (a' := ?_) #[true, true, true, true, true, true, true, true, true, true, true, true, true, true, true, true, true, true, true, true, false, false] rfl rfl (zd HT_.out (by kernel_rfl)) (fun _ _ _ h => h) (Or.inl ⟨by rfl, ?_⟩) ?_ ?_
                 rotate_left
                 next =>
                  intro w'
                  go_simp
                  with_reducible rfl
                 rotate_left
                 next =>
                  simp only [Act.put, yay, yby, ycy, za, zb]
                  rfl
                 refine zg (i := 20) (N := some 94) (v := ?_) (a' := ?_) #[true, true, true, true, true, true, true, true, true, true, true, true, true, true, true, true, true, true, true, true, true, false] rfl rfl (zd HT_.out (by kernel_rfl)) (fun _ _ _ h => h) (Or.inl ⟨by rfl, ?_⟩) ?_ ?_
                 rotate_left
                 next =>
                  intro w'
                  go_simp
                  with_reducible rfl
                 rotate_left
                 next =>
                  simp only [Act.put, yay, yby, ycy, za, zb]
                  rfl
                 refine zg (i := 21) (N := some 95) (v := ?_) (a' := ?_) #[true, true, true, true, true, true, true, true, true, true, true, true, true, true, true, true, true, true, true, true, true, true] rfl rfl (zd HT_.out (by kernel_rfl)) (fun _ _ _ h => h) (Or.inl ⟨by rfl, ?_⟩) ?_ ?_
                 rotate_left
                 next =>
                  intro w'
                  go_simp
                  with_reducible rfl
                 rotate_left
                 next =>
                  simp only [Act.put, yay, yby, ycy, za, zb]
                  rfl
                 refine Qn (Zm HT_.out (by kernel_rfl)) ?_
                 try go_wp2
                 go_roundg kj35
                 case measure => have := HK1.out; have := HK2.out; have := HK3.out; have := HJ24.out; have := HJ35.out; omega
                 case rel => exact ⟨(wrap64 (x5_3 + 1)), (by first | rfl | (simp; done) | (simp [*]; done)), H', ⟨by have := HK1.out; have := HK2.out; have := HK3.out; have := HJ24.out; have := HJ35.out; omega⟩, ⟨by (with_reducible repeat (first | refine zH ?_ _ | refine zJ ?_ | refine zG ?_ _)); exact BK101.out⟩, ⟨by repeat (first | (with_reducible first | exact HB.out | apply zC | apply zB | apply zD | refine zF ?_ GE101.out | refine zF ?_ GE107.out | refine zF ?_ GE113.out) | exact HB.out)⟩⟩
end
def Zl.f (k : Nat) (l0_0 : List (List (zp))) : Option (Int) := (zK.f k l0_0).bind fun t102 => (if t102 = true then ((zr.f l0_0).bind fun t103 => (if t103 > 6 then (some 3) else (some 0))) else (some 1))
set_option maxHeartbeats 8000000 in
set_option maxRecDepth 100000 in
theorem Zl.calls (k : Nat) (A0_0 : Option Addr) (c0_0 : Nat) (l0_0 : List (List (zp))) (r : Int) (w : World) (hr0_0 : Kd.C (Kd.slice 115 qw) w A0_0 l0_0.length l0_0) (hc0_0 : l0_0.length ≤ c0_0) (h : Zl.f k l0_0 = some r) :
    Calls Try.prog 58 #[.agg #[.slice A0_0 l0_0.length c0_0]] w fun e w' => e = .returned (.int .i64 r) ∧ Below w.heap.size w w' := by
  have hu30 := Try.underlying30
  have HR0_0 := zA.mk hr0_0
  have HC0_0 := zA.mk hc0_0
  clear hr0_0 hc0_0
  have HB := zA.mk (yry w.heap.size w)
  have H : ((zK.f k l0_0).bind fun t102 => (if t102 = true then ((zr.f l0_0).bind fun t103 => (if t103 > 6 then (some 3) else (some 0))) else (some 1))) = some r := h
  clear h
  replace H := ydy.mp H
  obtain ⟨t102, A20, H⟩ := H
  replace H : (if t102 = true then ((zr.f l0_0).bind fun t103 => (if t103 > 6 then (some 3) else (some 0))) else (some 1)) = some r := H
  have A2 := zA.mk A20
  clear A20
  by_cases c3 : t102 = true
  · subst c3
    have H1 : ((zr.f l0_0).bind fun t103 => (if t103 > 6 then (some 3) else (some 0))) = some r := by rw [if_pos rfl] at H; exact H
    clear H
    have H := H1
    clear H1
    replace H := ydy.mp H
    obtain ⟨t103, A40, H⟩ := H
    replace H : (if t103 > 6 then (some 3) else (some 0)) = some r := H
    have A4 := zA.mk A40
    clear A40
    by_cases c5 : t103 > 6
    · rw [if_pos c5] at H
      have c5b0 : decide (6 < t103) = true := ygy c5
      clear c5
      obtain rfl := yey H
      go_enter Try.func58, Try.ntmps58
      go_wp2_with (first | ((with_reducible refine zj (N := 1) rfl ?_); refine zk ?hg (N := 1) ?hd (cs := #[.slice A0_0 l0_0.length c0_0]) (t := 30) ?hr ?_; (case hd => rfl); (case hg => rfl); (case hr => first | (go_simp; done) | (go_simp; rfl)); intro gb101 hg w6 hbox hb; have n0_ := zA.mk (zN (by repeat (first | (with_reducible first | exact HB.out | apply zC | apply zB | apply zD) | exact HB.out)) hb); have n1_ := zA.mk (hbox); have n2_ := zA.mk ((by rw [hg]; exact (zO (by repeat (first | (with_reducible first | exact HB.out | apply zC | apply zB | apply zD) | exact HB.out))) : w.heap.size ≤ gb101)); have n3_ := zA.mk ((by rw [hg]; exact (zO (by repeat (first | (with_reducible first | exact HB.out | apply zC | apply zB | apply zD) | exact HB.out))) : w.heap.size ≤ gb101)); clear HB; have HB := n0_; have BK101 := n1_; have GW101 := n2_; have GE101 := n3_; clear n0_ n1_ n2_ n3_; clear hb hbox hg; have hcz7_0 : w6.cell? ⟨gb101, 0, none⟩ = some (.slice A0_0 l0_0.length c0_0) := (zL BK101.out 0).trans rfl; have hfz7_0 := zM BK101.out 0) | ((with_reducible refine zX (f := 101) rfl ?_); refine qD (some 4) rfl rfl Try.func101 (by kernel_rfl) rfl #[.agg #[.slice A0_0 l0_0.length c0_0]] rfl (by (try simp only [yiy, yjy, yky]); first | done | rfl | (simp only [yly, ymy]; rfl)) ?_; (with_reducible refine (zK.calls k _ _ l0_0 true _ ?side1 ?side2 A2.out).mono ?_); (case side1 => repeat (first | exact (Kd.qF HR0_0.out HB.out) | (with_reducible refine Kd.zy ?_ _) | (with_reducible refine Kd.zz ?_ _) | (with_reducible refine Kd.qK ?_))); (case side2 => exact HC0_0.out); rintro e w8 ⟨rfl, hb⟩; refine ⟨_, rfl, ?_⟩; have n0_ := zA.mk (zP (g := gb101) (o := .cells #[.slice A0_0 l0_0.length c0_0] 30 (0, 0)) (by (with_reducible repeat (first | refine zH ?_ _ | refine zJ ?_ | refine zG ?_ _)); exact BK101.out) hb); have n1_ := zA.mk (zN (by repeat (first | (with_reducible first | exact HB.out | apply zC | apply zB | apply zD | refine zF ?_ GE101.out) | exact HB.out)) hb); clear BK101; clear HB; have BK101 := n0_; have HB := n1_; clear n0_ n1_; (try clear hb); (try clear hb2); (try clear hk); (try clear hi); have hcz9_0 : w8.cell? ⟨gb101, 0, none⟩ = some (.slice A0_0 l0_0.length c0_0) := (zL BK101.out 0).trans rfl; have hfz9_0 := zM BK101.out 0) | ((with_reducible refine zX (f := 59) rfl ?_); refine qD (some 7) rfl rfl Try.func59 (by kernel_rfl) rfl #[.agg #[.slice A0_0 l0_0.length c0_0]] rfl (by (try simp only [yiy, yjy, yky]); first | done | rfl | (simp only [yly, ymy]; rfl)) ?_; (with_reducible refine (zr.calls _ _ l0_0 t103 _ ?side1 ?side2 A4.out).mono ?_); (case side1 => repeat (first | exact (Kd.qF HR0_0.out HB.out) | (with_reducible refine Kd.zy ?_ _) | (with_reducible refine Kd.zz ?_ _) | (with_reducible refine Kd.qK ?_))); (case side2 => exact HC0_0.out); rintro e w10 ⟨rfl, hb⟩; refine ⟨_, rfl, ?_⟩; have n0_ := zA.mk (zP (g := gb101) (o := .cells #[.slice A0_0 l0_0.length c0_0] 30 (0, 0)) (by (with_reducible repeat (first | refine zH ?_ _ | refine zJ ?_ | refine zG ?_ _)); exact BK101.out) hb); have n1_ := zA.mk (zN (by repeat (first | (with_reducible first | exact HB.out | apply zC | apply zB | apply zD | refine zF ?_ GE101.out) | exact HB.out)) hb); clear BK101; clear HB; have BK101 := n0_; have HB := n1_; clear n0_ n1_; (try clear hb); (try clear hb2); (try clear hk); (try clear hi)))
      go_ret
      exact ⟨by first | rfl | (simp [zY, zZ] <;> rfl) | (simp [*, zY, zZ] <;> rfl), by repeat (first | (with_reducible first | exact HB.out | apply zC | apply zB | apply zD | refine zF ?_ GE101.out) | exact HB.out)⟩
    · rw [if_neg c5] at H
      have c5b0 : decide (6 < t103) = false := yhy c5
      clear c5
      obtain rfl := yey H
      go_enter Try.func58, Try.ntmps58
      go_wp2_with (first | ((with_reducible refine zj (N := 1) rfl ?_); refine zk ?hg (N := 1) ?hd (cs := #[.slice A0_0 l0_0.length c0_0]) (t := 30) ?hr ?_; (case hd => rfl); (case hg => rfl); (case hr => first | (go_simp; done) | (go_simp; rfl)); intro gb101 hg w11 hbox hb; have n0_ := zA.mk (zN (by repeat (first | (with_reducible first | exact HB.out | apply zC | apply zB | apply zD) | exact HB.out)) hb); have n1_ := zA.mk (hbox); have n2_ := zA.mk ((by rw [hg]; exact (zO (by repeat (first | (with_reducible first | exact HB.out | apply zC | apply zB | apply zD) | exact HB.out))) : w.heap.size ≤ gb101)); have n3_ := zA.mk ((by rw [hg]; exact (zO (by repeat (first | (with_reducible first | exact HB.out | apply zC | apply zB | apply zD) | exact HB.out))) : w.heap.size ≤ gb101)); clear HB; have HB := n0_; have BK101 := n1_; have GW101 := n2_; have GE101 := n3_; clear n0_ n1_ n2_ n3_; clear hb hbox hg; have hcz12_0 : w11.cell? ⟨gb101, 0, none⟩ = some (.slice A0_0 l0_0.length c0_0) := (zL BK101.out 0).trans rfl; have hfz12_0 := zM BK101.out 0) | ((with_reducible refine zX (f := 101) rfl ?_); refine qD (some 4) rfl rfl Try.func101 (by kernel_rfl) rfl #[.agg #[.slice A0_0 l0_0.length c0_0]] rfl (by (try simp only [yiy, yjy, yky]); first | done | rfl | (simp only [yly, ymy]; rfl)) ?_; (with_reducible refine (zK.calls k _ _ l0_0 true _ ?side1 ?side2 A2.out).mono ?_); (case side1 => repeat (first | exact (Kd.qF HR0_0.out HB.out) | (with_reducible refine Kd.zy ?_ _) | (with_reducible refine Kd.zz ?_ _) | (with_reducible refine Kd.qK ?_))); (case side2 => exact HC0_0.out); rintro e w13 ⟨rfl, hb⟩; refine ⟨_, rfl, ?_⟩; have n0_ := zA.mk (zP (g := gb101) (o := .cells #[.slice A0_0 l0_0.length c0_0] 30 (0, 0)) (by (with_reducible repeat (first | refine zH ?_ _ | refine zJ ?_ | refine zG ?_ _)); exact BK101.out) hb); have n1_ := zA.mk (zN (by repeat (first | (with_reducible first | exact HB.out | apply zC | apply zB | apply zD | refine zF ?_ GE101.out) | exact HB.out)) hb); clear BK101; clear HB; have BK101 := n0_; have HB := n1_; clear n0_ n1_; (try clear hb); (try clear hb2); (try clear hk); (try clear hi); have hcz14_0 : w13.cell? ⟨gb101, 0, none⟩ = some (.slice A0_0 l0_0.length c0_0) := (zL BK101.out 0).trans rfl; have hfz14_0 := zM BK101.out 0) | ((with_reducible refine zX (f := 59) rfl ?_); refine qD (some 7) rfl rfl Try.func59 (by kernel_rfl) rfl #[.agg #[.slice A0_0 l0_0.length c0_0]] rfl (by (try simp only [yiy, yjy, yky]); first | done | rfl | (simp only [yly, ymy]; rfl)) ?_; (with_reducible refine (zr.calls _ _ l0_0 t103 _ ?side1 ?side2 A4.out).mono ?_); (case side1 => repeat (first | exact (Kd.qF HR0_0.out HB.out) | (with_reducible refine Kd.zy ?_ _) | (with_reducible refine Kd.zz ?_ _) | (with_reducible refine Kd.qK ?_))); (case side2 => exact HC0_0.out); rintro e w15 ⟨rfl, hb⟩; refine ⟨_, rfl, ?_⟩; have n0_ := zA.mk (zP (g := gb101) (o := .cells #[.slice A0_0 l0_0.length c0_0] 30 (0, 0)) (by (with_reducible repeat (first | refine zH ?_ _ | refine zJ ?_ | refine zG ?_ _)); exact BK101.out) hb); have n1_ := zA.mk (zN (by repeat (first | (with_reducible first | exact HB.out | apply zC | apply zB | apply zD | refine zF ?_ GE101.out) | exact HB.out)) hb); clear BK101; clear HB; have BK101 := n0_; have HB := n1_; clear n0_ n1_; (try clear hb); (try clear hb2); (try clear hk); (try clear hi)))
      go_ret
      exact ⟨by first | rfl | (simp [zY, zZ] <;> rfl) | (simp [*, zY, zZ] <;> rfl), by repeat (first | (with_reducible first | exact HB.out | apply zC | apply zB | apply zD | refine zF ?_ GE101.out) | exact HB.out)⟩
  · replace c3 := Bool.eq_false_iff.mpr c3
    subst c3
    have H1 : (some 1) = some r := by rw [if_neg (show ¬ (false = true) by decide)] at H; exact H
    clear H
    have H := H1
    clear H1
    obtain rfl := yey H
    go_enter Try.func58, Try.ntmps58
    go_wp2_with (first | ((with_reducible refine zj (N := 1) rfl ?_); refine zk ?hg (N := 1) ?hd (cs := #[.slice A0_0 l0_0.length c0_0]) (t := 30) ?hr ?_; (case hd => rfl); (case hg => rfl); (case hr => first | (go_simp; done) | (go_simp; rfl)); intro gb101 hg w16 hbox hb; have n0_ := zA.mk (zN (by repeat (first | (with_reducible first | exact HB.out | apply zC | apply zB | apply zD) | exact HB.out)) hb); have n1_ := zA.mk (hbox); have n2_ := zA.mk ((by rw [hg]; exact (zO (by repeat (first | (with_reducible first | exact HB.out | apply zC | apply zB | apply zD) | exact HB.out))) : w.heap.size ≤ gb101)); have n3_ := zA.mk ((by rw [hg]; exact (zO (by repeat (first | (with_reducible first | exact HB.out | apply zC | apply zB | apply zD) | exact HB.out))) : w.heap.size ≤ gb101)); clear HB; have HB := n0_; have BK101 := n1_; have GW101 := n2_; have GE101 := n3_; clear n0_ n1_ n2_ n3_; clear hb hbox hg; have hcz17_0 : w16.cell? ⟨gb101, 0, none⟩ = some (.slice A0_0 l0_0.length c0_0) := (zL BK101.out 0).trans rfl; have hfz17_0 := zM BK101.out 0) | ((with_reducible refine zX (f := 101) rfl ?_); refine qD (some 4) rfl rfl Try.func101 (by kernel_rfl) rfl #[.agg #[.slice A0_0 l0_0.length c0_0]] rfl (by (try simp only [yiy, yjy, yky]); first | done | rfl | (simp only [yly, ymy]; rfl)) ?_; (with_reducible refine (zK.calls k _ _ l0_0 false _ ?side1 ?side2 A2.out).mono ?_); (case side1 => repeat (first | exact (Kd.qF HR0_0.out HB.out) | (with_reducible refine Kd.zy ?_ _) | (with_reducible refine Kd.zz ?_ _) | (with_reducible refine Kd.qK ?_))); (case side2 => exact HC0_0.out); rintro e w18 ⟨rfl, hb⟩; refine ⟨_, rfl, ?_⟩; have n0_ := zA.mk (zP (g := gb101) (o := .cells #[.slice A0_0 l0_0.length c0_0] 30 (0, 0)) (by (with_reducible repeat (first | refine zH ?_ _ | refine zJ ?_ | refine zG ?_ _)); exact BK101.out) hb); have n1_ := zA.mk (zN (by repeat (first | (with_reducible first | exact HB.out | apply zC | apply zB | apply zD | refine zF ?_ GE101.out) | exact HB.out)) hb); clear BK101; clear HB; have BK101 := n0_; have HB := n1_; clear n0_ n1_; (try clear hb); (try clear hb2); (try clear hk); (try clear hi)))
    go_ret
    exact ⟨by first | rfl | (simp [zY, zZ] <;> rfl) | (simp [*, zY, zZ] <;> rfl), by repeat (first | (with_reducible first | exact HB.out | apply zC | apply zB | apply zD | refine zF ?_ GE101.out) | exact HB.out)⟩
mutual
def zo.l0 : Nat → Int → List Int → Int → List (List (zp)) → List (List Int) → List (List Int) → List (List Int) → Option (List Int)
 | 0, _, _, _, _, _, _, _ => none
 | k + 1, x2, x7, x8, x102000, x103000, x103001, x103002 => (zr.f x102000).bind fun t107 => (if x8 < t107 then (zo.l1 k x2 x7 x8 0 x102000 x103000 x103001 x103002) else (some x7))
def zo.l1 : Nat → Int → List Int → Int → Int → List (List (zp)) → List (List Int) → List (List Int) → List (List Int) → Option (List Int)
 | 0, _, _, _, _, _, _, _, _ => none
 | k + 1, x2, x7, x8, x9, x102000, x103000, x103001, x103002 => if x9 < 4 then (if 0 ≤ x8 then (if x8 < (x103000.length : Int) then (if 0 ≤ x9 then (if x9 < ((qd x103000 x8).length : Int) then (if (rd (qd x103000 x8) x9) = x2 then (if 0 ≤ (wrap64 ((wrap64 (7 * x8)) + x9)) then (if (wrap64 ((wrap64 (7 * x8)) + x9)) < (x7.length : Int) then (zo.l1 k x2 (x7.set ((wrap64 ((wrap64 (7 * x8)) + x9)) : Int).toNat 1) x8 (wrap64 (x9 + 1)) x102000 x103000 x103001 x103002) else (none)) else (none)) else (zo.l1 k x2 x7 x8 (wrap64 (x9 + 1)) x102000 x103000 x103001 x103002)) else (none)) else (none)) else (none)) else (none)) else (zo.l0 k x2 x7 (wrap64 (x8 + 1)) x102000 x103000 x103001 x103002)
end
def zo.f (k : Nat) (l0_0 : List (List (zp))) (l1_0 : List (List Int)) (l1_1 : List (List Int)) (l1_2 : List (List Int)) (a2 : Int) : Option (List Int) := (zr.f l0_0).bind fun t103 => (if 0 ≤ (wrap64 (7 * t103)) then (if (wrap64 (7 * t103) : Int).toNat ≤ 35184372088832 then (zo.l0 k a2 (List.replicate (wrap64 (7 * t103) : Int).toNat 0) 0 l0_0 l1_0 l1_1 l1_2) else (none)) else (none))
set_option maxHeartbeats 8000000 in
set_option maxRecDepth 100000 in
theorem zo.calls (k : Nat) (A0_0 : Option Addr) (c0_0 : Nat) (l0_0 : List (List (zp))) (A1_0 : Option Addr) (c1_0 : Nat) (l1_0 : List (List Int)) (A1_1 : Option Addr) (c1_1 : Nat) (l1_1 : List (List Int)) (A1_2 : Option Addr) (c1_2 : Nat) (l1_2 : List (List Int)) (a2 : Int) (r : List Int) (w : World) (hr0_0 : Kd.C (Kd.slice 115 qw) w A0_0 l0_0.length l0_0) (hc0_0 : l0_0.length ≤ c0_0) (hr1_0 : Kd.C (Kd.slice 2 (Kd.int .i64)) w A1_0 l1_0.length l1_0) (hc1_0 : l1_0.length ≤ c1_0) (hr1_1 : Kd.C (Kd.slice 2 (Kd.int .i64)) w A1_1 l1_1.length l1_1) (hc1_1 : l1_1.length ≤ c1_1) (hr1_2 : Kd.C (Kd.slice 2 (Kd.int .i64)) w A1_2 l1_2.length l1_2) (hc1_2 : l1_2.length ≤ c1_2) (h : zo.f k l0_0 l1_0 l1_1 l1_2 a2 = some r) :
 Calls Try.prog 76 #[.agg #[.slice A0_0 l0_0.length c0_0], .agg #[.slice A1_0 l1_0.length c1_0, .slice A1_1 l1_1.length c1_1, .slice A1_2 l1_2.length c1_2], .int .i64 a2] w fun e w' => ∃ v0_ : Value, e = .returned (v0_) ∧ Kd.R (Kd.int .i64) 2 w' w.heap.size (fun _ => True) v0_ r ∧ Below w.heap.size w w' := by
 have hu30 := Try.underlying30
 have hu79 := Try.underlying79
 have HR0_0 := zA.mk hr0_0
 have HC0_0 := zA.mk hc0_0
 clear hr0_0 hc0_0
 have HR1_0 := zA.mk hr1_0
 have HC1_0 := zA.mk hc1_0
 clear hr1_0 hc1_0
 have HR1_1 := zA.mk hr1_1
 have HC1_1 := zA.mk hc1_1
 clear hr1_1 hc1_1
 have HR1_2 := zA.mk hr1_2
 have HC1_2 := zA.mk hc1_2
 clear hr1_2 hc1_2
 have HB := zA.mk (yry w.heap.size w)
 have H : ((zr.f l0_0).bind fun t103 => (if 0 ≤ (wrap64 (7 * t103)) then (if (wrap64 (7 * t103) : Int).toNat ≤ 35184372088832 then (zo.l0 k a2 (List.replicate (wrap64 (7 * t103) : Int).toNat 0) 0 l0_0 l1_0 l1_1 l1_2) else (none)) else (none))) = some r := h
 clear h
 replace H := ydy.mp H
 obtain ⟨t103, A40, H⟩ := H
 replace H : (if 0 ≤ (wrap64 (7 * t103)) then (if (wrap64 (7 * t103) : Int).toNat ≤ 35184372088832 then (zo.l0 k a2 (List.replicate (wrap64 (7 * t103) : Int).toNat 0) 0 l0_0 l1_0 l1_1 l1_2) else (none)) else (none)) = some r := H
 have A4 := zA.mk A40
 clear A40
 obtain ⟨ji5, hji5⟩ : ∃ j_ : Int, (wrap64 (7 * t103)) = j_ := ⟨_, rfl⟩
 replace H : (if 0 ≤ (ji5) then (if (ji5 : Int).toNat ≤ 35184372088832 then (zo.l0 k a2 (List.replicate (ji5 : Int).toNat 0) 0 l0_0 l1_0 l1_1 l1_2) else (none)) else (none)) = some r := by first | (rw [hji5] at H; exact H) | (simp only [hji5] at H ⊢; exact H)
 (try rw [hji5] at A4)
 have hji5w : (IntKind.i64.wrap (7 * t103)) = ji5 := (za _).trans hji5
 by_cases c6 : 0 ≤ (ji5)
 rotate_left
 next =>
  rw [if_neg c6] at H
  exact absurd H (by simp)
 rw [if_pos c6] at H
 have c6b0 := eq_true c6
 have c6b1 : decide (0 ≤ (ji5)) = true := ygy c6
 clear c6
 by_cases c7 : (ji5 : Int).toNat ≤ 35184372088832
 rotate_left
 next =>
  rw [if_neg c7] at H
  exact absurd H (by simp)
 rw [if_pos c7] at H
 have c7b0 := eq_true c7
 have c7b1 : decide ((ji5 : Int).toNat ≤ 35184372088832) = true := ygy c7
 clear c7
 obtain ⟨y104, hy104⟩ : ∃ y_ : List Int, y_ = (List.replicate (ji5 : Int).toNat 0) := ⟨_, rfl⟩
 replace H : (zo.l0 k a2 y104 0 l0_0 l1_0 l1_1 l1_2) = some r := by first | (rw [hy104]; with_reducible exact H) | (have H2_ := (yfy _ _).symm.trans H; rw [hy104]; with_reducible exact H2_) | (have H2_ := (yfy _ _).symm.trans H; with_reducible exact H2_) | with_reducible exact H | (rw [hy104]; exact H) | exact H
 have Ny104 := zA.mk hy104
 clear hy104
 have H' := zA.mk H
 clear H
 go_enter Try.func76, Try.ntmps76
 go_wp2_with (first | ((with_reducible refine zj (N := 3) rfl ?_); refine zk ?hg (N := 3) ?hd (cs := #[.slice A0_0 l0_0.length c0_0]) (t := 30) ?hr ?_; (case hd => rfl); (case hg => rfl); (case hr => first | (go_simp; done) | (go_simp; rfl)); intro gb101 hg w8 hbox hb; have n0_ := zA.mk (zN (by repeat (first | (with_reducible first | exact HB.out | apply zC | apply zB | apply zD) | exact HB.out)) hb); have n1_ := zA.mk (hbox); have n2_ := zA.mk ((by rw [hg]; exact (zO (by repeat (first | (with_reducible first | exact HB.out | apply zC | apply zB | apply zD) | exact HB.out))) : w.heap.size ≤ gb101)); have n3_ := zA.mk ((by rw [hg]; exact (zO (by repeat (first | (with_reducible first | exact HB.out | apply zC | apply zB | apply zD) | exact HB.out))) : w.heap.size ≤ gb101)); clear HB; have HB := n0_; have BK101 := n1_; have GW101 := n2_; have GE101 := n3_; clear n0_ n1_ n2_ n3_; clear hb hbox hg) | ((with_reducible refine zj (N := 4) rfl ?_); refine zk ?hg (N := 4) ?hd (cs := #[.slice A1_0 l1_0.length c1_0, .slice A1_1 l1_1.length c1_1, .slice A1_2 l1_2.length c1_2]) (t := 79) ?hr ?_; (case hd => rfl); (case hg => rfl); (case hr => first | (go_simp; done) | (go_simp; rfl)); intro gb102 hg w9 hbox hb; have n0_ := zA.mk (zP (g := gb101) (o := .cells #[.slice A0_0 l0_0.length c0_0] 30 (0, 0)) (by (with_reducible repeat (first | refine zH ?_ _ | refine zJ ?_ | refine zG ?_ _)); exact BK101.out) hb); have n1_ := zA.mk (zN (by repeat (first | (with_reducible first | exact HB.out | apply zC | apply zB | apply zD | refine zF ?_ GE101.out) | exact HB.out)) hb); have n2_ := zA.mk (hbox); have n3_ := zA.mk ((by rw [hg]; exact (zO (by repeat (first | (with_reducible first | exact HB.out | apply zC | apply zB | apply zD | refine zF ?_ GE101.out) | exact HB.out))) : w.heap.size ≤ gb102)); have n4_ := zA.mk ((by rw [hg]; exact (zO (by repeat (first | (with_reducible first | exact HB.out | apply zC | apply zB | apply zD | refine zF ?_ GE101.out) | exact HB.out))) : w.heap.size ≤ gb102)); have n5_ := zA.mk ((by rw [hg]; exact Nat.ne_of_lt (qP (g := gb101) (o := .cells #[.slice A0_0 l0_0.length c0_0] 30 (0, 0)) (by (with_reducible repeat (first | refine zH ?_ _ | refine zJ ?_ | refine zG ?_ _)); exact BK101.out)) : gb101 ≠ gb102)); have n6_ := zA.mk ((by rw [hg]; exact Nat.ne_of_gt (qP (g := gb101) (o := .cells #[.slice A0_0 l0_0.length c0_0] 30 (0, 0)) (by (with_reducible repeat (first | refine zH ?_ _ | refine zJ ?_ | refine zG ?_ _)); exact BK101.out)) : gb102 ≠ gb101)); clear BK101; clear HB; have BK101 := n0_; have HB := n1_; have BK102 := n2_; have GW102 := n3_; have GE102 := n4_; have NB101_102 := n5_; have NB102_101 := n6_; clear n0_ n1_ n2_ n3_ n4_ n5_ n6_; clear hb hbox hg; have hnb10 := NB101_102.out; have hnc10 := NB102_101.out; have hcz11_0 : w9.cell? ⟨gb101, 0, none⟩ = some (.slice A0_0 l0_0.length c0_0) := (zL BK101.out 0).trans rfl; have hfz11_0 := zM BK101.out 0) | ((with_reducible refine zX (f := 59) rfl ?_); refine qD (some 11) rfl rfl Try.func59 (by kernel_rfl) rfl #[.agg #[.slice A0_0 l0_0.length c0_0]] rfl (by (try simp only [yiy, yjy, yky]); first | done | rfl | (simp only [yly, ymy]; rfl)) ?_; (with_reducible refine (zr.calls _ _ l0_0 t103 _ ?side1 ?side2 A4.out).mono ?_); (case side1 => repeat (first | exact (Kd.qF HR0_0.out HB.out) | (with_reducible refine Kd.zy ?_ _) | (with_reducible refine Kd.zz ?_ _) | (with_reducible refine Kd.qK ?_))); (case side2 => exact HC0_0.out); rintro e w12 ⟨rfl, hb⟩; refine ⟨_, rfl, ?_⟩; have n0_ := zA.mk (zP (g := gb101) (o := .cells #[.slice A0_0 l0_0.length c0_0] 30 (0, 0)) (by (with_reducible repeat (first | refine zH ?_ _ | refine zJ ?_ | refine zG ?_ _)); exact BK101.out) hb); have n1_ := zA.mk (zP (g := gb102) (o := .cells #[.slice A1_0 l1_0.length c1_0, .slice A1_1 l1_1.length c1_1, .slice A1_2 l1_2.length c1_2] 79 (0, 0)) (by (with_reducible repeat (first | refine zH ?_ _ | refine zJ ?_ | refine zG ?_ _)); exact BK102.out) hb); have n2_ := zA.mk (zN (by repeat (first | (with_reducible first | exact HB.out | apply zC | apply zB | apply zD | refine zF ?_ GE101.out | refine zF ?_ GE102.out) | exact HB.out)) hb); clear BK101; clear BK102; clear HB; have BK101 := n0_; have BK102 := n1_; have HB := n2_; clear n0_ n1_ n2_; (try clear hb); (try clear hb2); (try clear hk); (try clear hi)) | ((with_reducible refine zj (N := 13) rfl ?_); refine Kd.zCA (Kd.int .i64) _ 2 rfl (N := 13) rfl 25 _ _ rfl ji5 rfl rfl Try.underlying25 (.int .i64 0) 8 JT rfl (by decide) (by omega) 0 (ok := fun _ => True) (okp := fun _ => True) rfl (fun _ hk => hk) trivial (of_decide_eq_true (by first | (with_reducible assumption) | assumption)) (Nat.le_trans (Nat.mul_le_mul_right _ (of_decide_eq_true (by first | (with_reducible assumption) | assumption) : ji5.toNat ≤ 35184372088832)) (by omega)) (yry _ _) (yqy _) ?_; intro v105 w13 ho14 hb hg_ hnew_; clear hg_ hnew_; (first | rw [← Ny104.out] at ho14 | (simp only [Int.reduceToNat] at ho14; rw [← Ny104.out] at ho14)); have n0_ := zA.mk (Kd.qx ho14 (zO (by repeat (first | (with_reducible first | exact HB.out | apply zC | apply zB | apply zD | refine zF ?_ GE101.out | refine zF ?_ GE102.out) | exact HB.out)))); have n1_ := zA.mk (zP (g := gb101) (o := .cells #[.slice A0_0 l0_0.length c0_0] 30 (0, 0)) (by (with_reducible repeat (first | refine zH ?_ _ | refine zJ ?_ | refine zG ?_ _)); exact BK101.out) hb); have n2_ := zA.mk (zP (g := gb102) (o := .cells #[.slice A1_0 l1_0.length c1_0, .slice A1_1 l1_1.length c1_1, .slice A1_2 l1_2.length c1_2] 79 (0, 0)) (by (with_reducible repeat (first | refine zH ?_ _ | refine zJ ?_ | refine zG ?_ _)); exact BK102.out) hb); have n3_ := zA.mk (zN (by repeat (first | (with_reducible first | exact HB.out | apply zC | apply zB | apply zD | refine zF ?_ GE101.out | refine zF ?_ GE102.out) | exact HB.out)) hb); clear BK101; clear BK102; clear HB; have HO106 := n0_; have BK101 := n1_; have BK102 := n2_; have HB := n3_; clear n0_ n1_ n2_ n3_; clear hb ho14))
 go_loopg [8] k (fun kq v8 w' => ∃ (x7_1 : List Int) (x8_1 : Int), v8 = .int .i64 x8_1 ∧ zA (zo.l0 kq a2 x7_1 x8_1 l0_0 l1_0 l1_1 l1_2 = some r) ∧ zA (kq ≤ k) ∧ zA (Kd.R (Kd.int .i64) 2 w' w.heap.size (fun _ => True) v105 x7_1) ∧ zA (w'.heap[gb101]? = some (.cells #[(.slice A0_0 l0_0.length c0_0)] 30 (0, 0))) ∧ zA (w'.heap[gb102]? = some (.cells #[(.slice A1_0 l1_0.length c1_0), (.slice A1_1 l1_1.length c1_1), (.slice A1_2 l1_2.length c1_2)] 79 (0, 0))) ∧ zA (Below w.heap.size w w'))
 case atStart => exact ⟨(y104), (0), (by first | rfl | (simp; done) | (simp [*]; done)), H', ⟨yqy _⟩, ⟨by (with_reducible repeat (first | apply Kd.zR | apply Kd.zS | apply Kd.zV)); exact HO106.out⟩, ⟨by (with_reducible repeat (first | refine zH ?_ _ | refine zJ ?_ | refine zG ?_ _)); exact BK101.out⟩, ⟨by (with_reducible repeat (first | refine zH ?_ _ | refine zJ ?_ | refine zG ?_ _)); exact BK102.out⟩, ⟨by repeat (first | (with_reducible first | exact HB.out | apply zC | apply zB | apply zD | refine zF ?_ GE101.out | refine zF ?_ GE102.out) | exact HB.out)⟩⟩
 case round =>
  clear H'
  try clear c1
  try clear p2
  try clear c5
  try clear c6
  try clear c6b0
  try clear c6b1
  try clear p6
  try clear c7
  try clear c7b0
  try clear c7b1
  try clear c10
  try clear hcz11_0
  try clear hfz11_0
  obtain ⟨x7_1, x8_1, rfl, HA, HK1, HO_7, BK101, BK102, HB⟩ := hrel
  cases gk with
  | zero => exact absurd HA.out (by simp [zo.l0])
  | succ k1 =>
   have H := HA.out
   clear HA
   simp only [zo.l0] at H
   replace H := ydy.mp H
   obtain ⟨t107, A150, H⟩ := H
   replace H : (if x8_1 < t107 then (zo.l1 k1 a2 x7_1 x8_1 0 l0_0 l1_0 l1_1 l1_2) else (some x7_1)) = some r := H
   have A15 := zA.mk A150
   clear A150
   by_cases c16 : x8_1 < t107
   rotate_left
   next =>
    rw [if_neg c16] at H
    have c16b0 : decide (x8_1 < t107) = false := yhy c16
    clear c16
    obtain rfl := yey H
    have hnb36 := NB101_102.out
    have hnc36 := NB102_101.out
    have hcz37_0 : wr.cell? ⟨gb101, 0, none⟩ = some (.slice A0_0 l0_0.length c0_0) := (zL BK101.out 0).trans rfl
    have hfz37_0 := zM BK101.out 0
    go_wp2_with (first | ((with_reducible refine zX (f := 59) rfl ?_); refine qD (some 16) rfl rfl Try.func59 (by kernel_rfl) rfl #[.agg #[.slice A0_0 l0_0.length c0_0]] rfl (by (try simp only [yiy, yjy, yky]); first | done | rfl | (simp only [yly, ymy]; rfl)) ?_; (with_reducible refine (zr.calls _ _ l0_0 t107 _ ?side1 ?side2 A15.out).mono ?_); (case side1 => repeat (first | exact (Kd.qF HR0_0.out HB.out) | (with_reducible refine Kd.zy ?_ _) | (with_reducible refine Kd.zz ?_ _) | (with_reducible refine Kd.qK ?_))); (case side2 => exact HC0_0.out); rintro e w38 ⟨rfl, hb⟩; refine ⟨_, rfl, ?_⟩; have n0_ := zA.mk (Kd.qL (by (with_reducible repeat (first | apply Kd.zR | apply Kd.zS | apply Kd.zV)); exact HO_7.out) hb); have n1_ := zA.mk (zP (g := gb101) (o := .cells #[.slice A0_0 l0_0.length c0_0] 30 (0, 0)) (by (with_reducible repeat (first | refine zH ?_ _ | refine zJ ?_ | refine zG ?_ _)); exact BK101.out) hb); have n2_ := zA.mk (zP (g := gb102) (o := .cells #[.slice A1_0 l1_0.length c1_0, .slice A1_1 l1_1.length c1_1, .slice A1_2 l1_2.length c1_2] 79 (0, 0)) (by (with_reducible repeat (first | refine zH ?_ _ | refine zJ ?_ | refine zG ?_ _)); exact BK102.out) hb); have n3_ := zA.mk (zN (by repeat (first | (with_reducible first | exact HB.out | apply zC | apply zB | apply zD | refine zF ?_ GE101.out | refine zF ?_ GE102.out) | exact HB.out)) hb); clear HO_7; clear BK101; clear BK102; clear HB; have HO_7 := n0_; have BK101 := n1_; have BK102 := n2_; have HB := n3_; clear n0_ n1_ n2_ n3_; (try clear hb); (try clear hb2); (try clear hk); (try clear hi)))
    go_ret
    exact ⟨_, by first | rfl | (simp [zY, zZ] <;> rfl) | (simp only [← hji5]; first | rfl | (simp [zY, zZ] <;> rfl)) | (simp [*, zY, zZ] <;> rfl), by (with_reducible repeat (first | apply Kd.zR | apply Kd.zS | apply Kd.zV)); exact HO_7.out, by repeat (first | (with_reducible first | exact HB.out | apply zC | apply zB | apply zD | refine zF ?_ GE101.out | refine zF ?_ GE102.out) | exact HB.out)⟩
   rw [if_pos c16] at H
   have c16b0 : decide (x8_1 < t107) = true := ygy c16
   clear c16
   have H' := zA.mk H
   clear H
   have hnb17 := NB101_102.out
   have hnc17 := NB102_101.out
   have hcz18_0 : wr.cell? ⟨gb101, 0, none⟩ = some (.slice A0_0 l0_0.length c0_0) := (zL BK101.out 0).trans rfl
   have hfz18_0 := zM BK101.out 0
   go_wp2_with (first | ((with_reducible refine zX (f := 59) rfl ?_); refine qD (some 16) rfl rfl Try.func59 (by kernel_rfl) rfl #[.agg #[.slice A0_0 l0_0.length c0_0]] rfl (by (try simp only [yiy, yjy, yky]); first | done | rfl | (simp only [yly, ymy]; rfl)) ?_; (with_reducible refine (zr.calls _ _ l0_0 t107 _ ?side1 ?side2 A15.out).mono ?_); (case side1 => repeat (first | exact (Kd.qF HR0_0.out HB.out) | (with_reducible refine Kd.zy ?_ _) | (with_reducible refine Kd.zz ?_ _) | (with_reducible refine Kd.qK ?_))); (case side2 => exact HC0_0.out); rintro e w19 ⟨rfl, hb⟩; refine ⟨_, rfl, ?_⟩; have n0_ := zA.mk (Kd.qL (by (with_reducible repeat (first | apply Kd.zR | apply Kd.zS | apply Kd.zV)); exact HO_7.out) hb); have n1_ := zA.mk (zP (g := gb101) (o := .cells #[.slice A0_0 l0_0.length c0_0] 30 (0, 0)) (by (with_reducible repeat (first | refine zH ?_ _ | refine zJ ?_ | refine zG ?_ _)); exact BK101.out) hb); have n2_ := zA.mk (zP (g := gb102) (o := .cells #[.slice A1_0 l1_0.length c1_0, .slice A1_1 l1_1.length c1_1, .slice A1_2 l1_2.length c1_2] 79 (0, 0)) (by (with_reducible repeat (first | refine zH ?_ _ | refine zJ ?_ | refine zG ?_ _)); exact BK102.out) hb); have n3_ := zA.mk (zN (by repeat (first | (with_reducible first | exact HB.out | apply zC | apply zB | apply zD | refine zF ?_ GE101.out | refine zF ?_ GE102.out) | exact HB.out)) hb); clear HO_7; clear BK101; clear BK102; clear HB; have HO_7 := n0_; have BK101 := n1_; have BK102 := n2_; have HB := n3_; clear n0_ n1_ n2_ n3_; (try clear hb); (try clear hb2); (try clear hk); (try clear hi)))
   go_loopg [9] k1 (fun kq v9 w' => ∃ (x7_2 : List Int) (x9_2 : Int), v9 = .int .i64 x9_2 ∧ zA (zo.l1 kq a2 x7_2 x8_1 x9_2 l0_0 l1_0 l1_1 l1_2 = some r) ∧ zA (kq ≤ k1) ∧ zA (Kd.R (Kd.int .i64) 2 w' w.heap.size (fun _ => True) v105 x7_2) ∧ zA (w'.heap[gb101]? = some (.cells #[(.slice A0_0 l0_0.length c0_0)] 30 (0, 0))) ∧ zA (w'.heap[gb102]? = some (.cells #[(.slice A1_0 l1_0.length c1_0), (.slice A1_1 l1_1.length c1_1), (.slice A1_2 l1_2.length c1_2)] 79 (0, 0))) ∧ zA (Below w.heap.size w w'))
   case atStart => exact ⟨(x7_1), (0), (by first | rfl | (simp; done) | (simp [*]; done)), H', ⟨yqy _⟩, ⟨by (with_reducible repeat (first | apply Kd.zR | apply Kd.zS | apply Kd.zV)); exact HO_7.out⟩, ⟨by (with_reducible repeat (first | refine zH ?_ _ | refine zJ ?_ | refine zG ?_ _)); exact BK101.out⟩, ⟨by (with_reducible repeat (first | refine zH ?_ _ | refine zJ ?_ | refine zG ?_ _)); exact BK102.out⟩, ⟨by repeat (first | (with_reducible first | exact HB.out | apply zC | apply zB | apply zD | refine zF ?_ GE101.out | refine zF ?_ GE102.out) | exact HB.out)⟩⟩
   case round =>
    clear H'
    try clear c1
    try clear p2
    try clear c5
    try clear c6
    try clear c6b0
    try clear c6b1
    try clear p6
    try clear c7
    try clear c7b0
    try clear c7b1
    try clear c10
    try clear c16
    try clear c16b0
    try clear c17
    try clear hcz11_0
    try clear hcz18_0
    try clear hfz11_0
    try clear hfz18_0
    try clear p2
    try clear p6
    obtain ⟨x7_2, x9_2, rfl, HA, HK2, HO_7, BK101, BK102, HB⟩ := hrel
    cases gk with
    | zero => exact absurd HA.out (by simp [zo.l1])
    | succ k2 =>
     have H := HA.out
     clear HA
     simp only [zo.l1] at H
     by_cases c20 : x9_2 < 4
     rotate_left
     next =>
      rw [if_neg c20] at H
      have c20b0 : decide (x9_2 < 4) = false := yhy c20
      clear c20
      have H' := zA.mk H
      clear H
      go_wp2
      go_roundg k2
      case measure => have := HK1.out; have := HK2.out; omega
      case rel => exact ⟨(x7_2), (wrap64 (x8_1 + 1)), (by first | rfl | (simp; done) | (simp [*]; done)), H', ⟨by have := HK1.out; have := HK2.out; omega⟩, ⟨by (with_reducible repeat (first | apply Kd.zR | apply Kd.zS | apply Kd.zV)); exact HO_7.out⟩, ⟨by (with_reducible repeat (first | refine zH ?_ _ | refine zJ ?_ | refine zG ?_ _)); exact BK101.out⟩, ⟨by (with_reducible repeat (first | refine zH ?_ _ | refine zJ ?_ | refine zG ?_ _)); exact BK102.out⟩, ⟨by repeat (first | (with_reducible first | exact HB.out | apply zC | apply zB | apply zD | refine zF ?_ GE101.out | refine zF ?_ GE102.out) | exact HB.out)⟩⟩
     rw [if_pos c20] at H
     have c20b0 : decide (x9_2 < 4) = true := ygy c20
     clear c20
     by_cases c21 : 0 ≤ x8_1
     rotate_left
     next =>
      rw [if_neg c21] at H
      exact absurd H (by simp)
     rw [if_pos c21] at H
     have c21b0 : decide (0 ≤ x8_1) = true := ygy c21
     clear c21
     by_cases c22 : x8_1 < (l1_0.length : Int)
     rotate_left
     next =>
      rw [if_neg c22] at H
      exact absurd H (by simp)
     rw [if_pos c22] at H
     have c22b0 : decide (x8_1 < (l1_0.length : Int)) = true := ygy c22
     clear c22
     by_cases c23 : 0 ≤ x9_2
     rotate_left
     next =>
      rw [if_neg c23] at H
      exact absurd H (by simp)
     rw [if_pos c23] at H
     have c23b0 : decide (0 ≤ x9_2) = true := ygy c23
     clear c23
     by_cases c24 : x9_2 < ((qd l1_0 x8_1).length : Int)
     rotate_left
     next =>
      rw [if_neg c24] at H
      exact absurd H (by simp)
     rw [if_pos c24] at H
     have c24b0 : decide (x9_2 < ((qd l1_0 x8_1).length : Int)) = true := ygy c24
     clear c24
     by_cases c25 : (rd (qd l1_0 x8_1) x9_2) = a2
     rotate_left
     next =>
      rw [if_neg c25] at H
      have c25b0 : ((rd (qd l1_0 x8_1) x9_2) == a2) = false := beq_eq_false_iff_ne.mpr c25
      have c25b1 : ((rd (qd l1_0 x8_1) x9_2) != a2) = true := bne_iff_ne.mpr c25
      have H' := zA.mk H
      clear H
      have hnb34 := NB102_101.out
      have hnc34 := NB101_102.out
      have hcz35_0 : wr.cell? ⟨gb102, 0, none⟩ = some (.slice A1_0 l1_0.length c1_0) := (zL BK102.out 0).trans rfl
      have hcz35_1 : wr.cell? ⟨gb102, 1, none⟩ = some (.slice A1_1 l1_1.length c1_1) := (zL BK102.out 1).trans rfl
      have hcz35_2 : wr.cell? ⟨gb102, 2, none⟩ = some (.slice A1_2 l1_2.length c1_2) := (zL BK102.out 2).trans rfl
      have hfz35_0 := zM BK102.out 0
      have hfz35_1 := zM BK102.out 1
      have hfz35_2 := zM BK102.out 2
      have p108 : 0 ≤ (x8_1 : Int) := of_decide_eq_true (by first | (with_reducible assumption) | assumption)
      have q108 : x8_1 < (l1_0.length : Int) := of_decide_eq_true (by first | (with_reducible assumption) | assumption)
      obtain ⟨ad108, A108_0, c108_0, e108, hx108_0, hl108_0, hi108_0⟩ := zCi HR1_0.out x8_1 p108 q108
      cases e108
      replace hx108_0 := (HB.out.cell (ypy w _ hx108_0)).trans hx108_0
      have HR108_0 := zA.mk hi108_0
      have HC108_0 := zA.mk hl108_0
      clear hi108_0 hl108_0
      replace p108 := eq_true p108
      replace q108 := eq_true q108
      have p109 : 0 ≤ (x9_2 : Int) := of_decide_eq_true (by first | (with_reducible assumption) | assumption)
      have q109 : x9_2 < ((qd l1_0 x8_1).length : Int) := of_decide_eq_true (by first | (with_reducible assumption) | assumption)
      obtain ⟨ad109, e109, hx109_0⟩ := Kd.ZD HR108_0.out x9_2 p109 q109
      cases e109
      replace hx109_0 := (HB.out.cell (ypy w _ hx109_0)).trans hx109_0
      replace p109 := eq_true p109
      replace q109 := eq_true q109
      go_wp2
      go_roundg k2
      case measure => have := HK1.out; have := HK2.out; omega
      case rel => exact ⟨(x7_2), (wrap64 (x9_2 + 1)), (by first | rfl | (simp; done) | (simp [*]; done)), H', ⟨by have := HK1.out; have := HK2.out; omega⟩, ⟨by (with_reducible repeat (first | apply Kd.zR | apply Kd.zS | apply Kd.zV)); exact HO_7.out⟩, ⟨by (with_reducible repeat (first | refine zH ?_ _ | refine zJ ?_ | refine zG ?_ _)); exact BK101.out⟩, ⟨by (with_reducible repeat (first | refine zH ?_ _ | refine zJ ?_ | refine zG ?_ _)); exact BK102.out⟩, ⟨by repeat (first | (with_reducible first | exact HB.out | apply zC | apply zB | apply zD | refine zF ?_ GE101.out | refine zF ?_ GE102.out) | exact HB.out)⟩⟩
     rw [if_pos c25] at H
     have c25b0 : ((rd (qd l1_0 x8_1) x9_2) == a2) = true := beq_iff_eq.mpr c25
     have c25b1 : ((rd (qd l1_0 x8_1) x9_2) != a2) = false := bne_eq_false_iff_eq.mpr c25
     clear c25
     obtain ⟨ji26, hji26⟩ : ∃ j_ : Int, (wrap64 ((wrap64 (7 * x8_1)) + x9_2)) = j_ := ⟨_, rfl⟩
     replace H : (if 0 ≤ (ji26) then (if (ji26) < (x7_2.length : Int) then (zo.l1 k2 a2 (x7_2.set ((ji26) : Int).toNat 1) x8_1 (wrap64 (x9_2 + 1)) l0_0 l1_0 l1_1 l1_2) else (none)) else (none)) = some r := by first | (rw [hji26] at H; exact H) | (simp only [hji26] at H ⊢; exact H)
     have hji26w : (IntKind.i64.wrap ((wrap64 (7 * x8_1)) + x9_2)) = ji26 := (za _).trans hji26
     by_cases c27 : 0 ≤ (ji26)
     rotate_left
     next =>
      rw [if_neg c27] at H
      exact absurd H (by simp)
     rw [if_pos c27] at H
     have c27b0 : decide (0 ≤ (ji26)) = true := ygy c27
     clear c27
     by_cases c28 : (ji26) < (x7_2.length : Int)
     rotate_left
     next =>
      rw [if_neg c28] at H
      exact absurd H (by simp)
     rw [if_pos c28] at H
     have c28b0 : decide ((ji26) < (x7_2.length : Int)) = true := ygy c28
     clear c28
     obtain ⟨y110, hy110⟩ : ∃ y_ : List Int, y_ = (x7_2.set ((ji26) : Int).toNat 1) := ⟨_, rfl⟩
     replace H : (zo.l1 k2 a2 y110 x8_1 (wrap64 (x9_2 + 1)) l0_0 l1_0 l1_1 l1_2) = some r := by first | (rw [hy110]; with_reducible exact H) | (have H2_ := (yfy _ _).symm.trans H; rw [hy110]; with_reducible exact H2_) | (have H2_ := (yfy _ _).symm.trans H; with_reducible exact H2_) | with_reducible exact H | (rw [hy110]; exact H) | exact H
     have Ny110 := zA.mk hy110
     clear hy110
     have H' := zA.mk H
     clear H
     have hnb30 := NB102_101.out
     have hnc30 := NB101_102.out
     have hcz31_0 : wr.cell? ⟨gb102, 0, none⟩ = some (.slice A1_0 l1_0.length c1_0) := (zL BK102.out 0).trans rfl
     have hcz31_1 : wr.cell? ⟨gb102, 1, none⟩ = some (.slice A1_1 l1_1.length c1_1) := (zL BK102.out 1).trans rfl
     have hcz31_2 : wr.cell? ⟨gb102, 2, none⟩ = some (.slice A1_2 l1_2.length c1_2) := (zL BK102.out 2).trans rfl
     have hfz31_0 := zM BK102.out 0
     have hfz31_1 := zM BK102.out 1
     have hfz31_2 := zM BK102.out 2
     have p108 : 0 ≤ (x8_1 : Int) := of_decide_eq_true (by first | (with_reducible assumption) | assumption)
     have q108 : x8_1 < (l1_0.length : Int) := of_decide_eq_true (by first | (with_reducible assumption) | assumption)
     obtain ⟨ad108, A108_0, c108_0, e108, hx108_0, hl108_0, hi108_0⟩ := zCi HR1_0.out x8_1 p108 q108
     cases e108
     replace hx108_0 := (HB.out.cell (ypy w _ hx108_0)).trans hx108_0
     have HR108_0 := zA.mk hi108_0
     have HC108_0 := zA.mk hl108_0
     clear hi108_0 hl108_0
     replace p108 := eq_true p108
     replace q108 := eq_true q108
     have p109 : 0 ≤ (x9_2 : Int) := of_decide_eq_true (by first | (with_reducible assumption) | assumption)
     have q109 : x9_2 < ((qd l1_0 x8_1).length : Int) := of_decide_eq_true (by first | (with_reducible assumption) | assumption)
     obtain ⟨ad109, e109, hx109_0⟩ := Kd.ZD HR108_0.out x9_2 p109 q109
     cases e109
     replace hx109_0 := (HB.out.cell (ypy w _ hx109_0)).trans hx109_0
     replace p109 := eq_true p109
     replace q109 := eq_true q109
     have p29 : 0 ≤ ((ji26) : Int) := of_decide_eq_true (by first | (with_reducible assumption) | assumption)
     have q29 : ((ji26) : Int) < ((x7_2.length : Int) : Int) := of_decide_eq_true (by first | (with_reducible assumption) | assumption)
     obtain ⟨go29, co29, eo29, gb29, gl29, cl29, HG29⟩ := Kd.JD HO_7.out (by omega)
     (first | cases eo29 | (injection eo29 with ea_ en_ ec_; (first | subst ea_ | (injection ea_ with ea_; subst ea_)); subst ec_; clear en_))
     have GB29 := zA.mk gb29
     have GG29 := zA.mk HG29
     clear gb29 gl29 HG29
     obtain ⟨hx29_0, hf29_0⟩ := Kd.Zc 0 HO_7.out ((ji26) : Int) p29 q29
     replace p29 := eq_true p29
     replace q29 := eq_true q29
     have HP32 := Kd.JW HO_7.out ((ji26) : Int) 1
     go_wp2_with (first | ((with_reducible refine ZJ (t := 2) (p := 39) rfl ?_); refine qz (t := 2) (p := 39) (v := ?vo_w33) (w1 := (wr.setCell ⟨go29, ((ji26) : Int).toNat, none⟩ (.int .i64 1))) ?hg ?ho ?hn ?hr ?_; (case ho => rfl); (case hg => rfl); (case hn => rfl); (case hr => first | (go_simp; done) | (go_simp; rfl)); intro w33 hw; have hg : wr.grownBy w33 (some go29) := (by rw [hw]; exact HP32.2); have hp_ : Kd.R (Kd.int .i64) 2 w33 w.heap.size (fun _ => True) (.slice (some ⟨go29, 0, none⟩) x7_2.length co29) y110 := (by rw [hw, Ny110.out]; exact HP32.1); clear HP32; have n0_ := zA.mk (hp_); have n1_ := zA.mk (qm (g := gb101) (o := .cells #[.slice A0_0 l0_0.length c0_0] 30 (0, 0)) (by (with_reducible repeat (first | refine zH ?_ _ | refine zJ ?_ | refine zG ?_ _)); exact BK101.out) hg (Kd.zAD HO_7.out BK101.out (by decide))); have n2_ := zA.mk (qm (g := gb102) (o := .cells #[.slice (some ad108) l1_0.length c1_0, .slice A1_1 l1_1.length c1_1, .slice A1_2 l1_2.length c1_2] 79 (0, 0)) (by (with_reducible repeat (first | refine zH ?_ _ | refine zJ ?_ | refine zG ?_ _)); exact BK102.out) hg (Kd.zAD HO_7.out BK102.out (by decide))); have n3_ := zA.mk ((by rw [hw]; exact zF (HB.out) GB29.out : Below w.heap.size w w33)); clear HO_7; clear BK101; clear BK102; clear HB; have HO_7 := n0_; have BK101 := n1_; have BK102 := n2_; have HB := n3_; clear n0_ n1_ n2_ n3_; clear hg hw hp_))
     go_roundg k2
     case measure => have := HK1.out; have := HK2.out; omega
     case rel => exact ⟨(y110), (wrap64 (x9_2 + 1)), (by first | rfl | (simp; done) | (simp [*]; done)), H', ⟨by have := HK1.out; have := HK2.out; omega⟩, ⟨by (with_reducible repeat (first | apply Kd.zR | apply Kd.zS | apply Kd.zV)); exact HO_7.out⟩, ⟨by (with_reducible repeat (first | refine zH ?_ _ | refine zJ ?_ | refine zG ?_ _)); exact BK101.out⟩, ⟨by (with_reducible repeat (first | refine zH ?_ _ | refine zJ ?_ | refine zG ?_ _)); exact BK102.out⟩, ⟨by repeat (first | (with_reducible first | exact HB.out | apply zC | apply zB | apply zD | refine zF ?_ GE101.out | refine zF ?_ GE102.out) | exact HB.out)⟩⟩
def ZV.f (k : Nat) (l0_0 : List (List (zp))) (a1 : Int) : Option (List Int × Int) := (Zl.f k l0_0).bind fun t102 => (if t102 = 0 then ((zQ.f k l0_0).bind fun bt103 => (if 0 < (bt103.2.2.2.length : Int) then ((Zt.f a1 0 (wrap64 ((rd bt103.2.2.2 0) - 1))).bind fun t117 => (if t117 = true then ((zo.f k l0_0 bt103.1 bt103.2.1 bt103.2.2.1 a1).bind fun t118 => (some (t118, 0))) else (some (([] : List Int), 2)))) else (none))) else (some (([] : List Int), t102)))
set_option maxHeartbeats 8000000 in
set_option maxRecDepth 100000 in
theorem ZV.calls (k : Nat) (A0_0 : Option Addr) (c0_0 : Nat) (l0_0 : List (List (zp))) (a1 : Int) (r1 : List Int) (r2 : Int) (w : World) (hr0_0 : Kd.C (Kd.slice 115 qw) w A0_0 l0_0.length l0_0) (hc0_0 : l0_0.length ≤ c0_0) (h : ZV.f k l0_0 a1 = some (r1, r2)) :
 Calls Try.prog 36 #[.agg #[.slice A0_0 l0_0.length c0_0], .int .i64 a1] w fun e w' => ∃ v0_ : Value, e = .returned (.tuple #[v0_, .int .i64 r2]) ∧ Kd.R (Kd.int .i64) 2 w' w.heap.size (fun _ => True) v0_ r1 ∧ Below w.heap.size w w' := by
 have hu30 := Try.underlying30
 have hu79 := Try.underlying79
 have HR0_0 := zA.mk hr0_0
 have HC0_0 := zA.mk hc0_0
 clear hr0_0 hc0_0
 have HB := zA.mk (yry w.heap.size w)
 have H : ((Zl.f k l0_0).bind fun t102 => (if t102 = 0 then ((zQ.f k l0_0).bind fun bt103 => (if 0 < (bt103.2.2.2.length : Int) then ((Zt.f a1 0 (wrap64 ((rd bt103.2.2.2 0) - 1))).bind fun t117 => (if t117 = true then ((zo.f k l0_0 bt103.1 bt103.2.1 bt103.2.2.1 a1).bind fun t118 => (some (t118, 0))) else (some (([] : List Int), 2)))) else (none))) else (some (([] : List Int), t102)))) = some (r1, r2) := h
 clear h
 replace H := ydy.mp H
 obtain ⟨t102, A30, H⟩ := H
 replace H : (if t102 = 0 then ((zQ.f k l0_0).bind fun bt103 => (if 0 < (bt103.2.2.2.length : Int) then ((Zt.f a1 0 (wrap64 ((rd bt103.2.2.2 0) - 1))).bind fun t117 => (if t117 = true then ((zo.f k l0_0 bt103.1 bt103.2.1 bt103.2.2.1 a1).bind fun t118 => (some (t118, 0))) else (some (([] : List Int), 2)))) else (none))) else (some (([] : List Int), t102))) = some (r1, r2) := H
 have A3 := zA.mk A30
 clear A30
 by_cases c4 : t102 = 0
 rotate_left
 next =>
  rw [if_neg c4] at H
  have c4b0 : (t102 == 0) = false := beq_eq_false_iff_ne.mpr c4
  have c4b1 : (t102 != 0) = true := bne_iff_ne.mpr c4
  simp only [Option.some.injEq, Prod.mk.injEq] at H
  obtain ⟨rfl, rfl⟩ := H
  go_enter Try.func36, Try.ntmps36
  go_wp2_with (first | ((with_reducible refine zj (N := 2) rfl ?_); refine zk ?hg (N := 2) ?hd (cs := #[.slice A0_0 l0_0.length c0_0]) (t := 30) ?hr ?_; (case hd => rfl); (case hg => rfl); (case hr => first | (go_simp; done) | (go_simp; rfl)); intro gb101 hg w36 hbox hb; have n0_ := zA.mk (zN (by repeat (first | (with_reducible first | exact HB.out | apply zC | apply zB | apply zD) | exact HB.out)) hb); have n1_ := zA.mk (hbox); have n2_ := zA.mk ((by rw [hg]; exact (zO (by repeat (first | (with_reducible first | exact HB.out | apply zC | apply zB | apply zD) | exact HB.out))) : w.heap.size ≤ gb101)); have n3_ := zA.mk ((by rw [hg]; exact (zO (by repeat (first | (with_reducible first | exact HB.out | apply zC | apply zB | apply zD) | exact HB.out))) : w.heap.size ≤ gb101)); clear HB; have HB := n0_; have BK101 := n1_; have GW101 := n2_; have GE101 := n3_; clear n0_ n1_ n2_ n3_; clear hb hbox hg; have hcz37_0 : w36.cell? ⟨gb101, 0, none⟩ = some (.slice A0_0 l0_0.length c0_0) := (zL BK101.out 0).trans rfl; have hfz37_0 := zM BK101.out 0) | ((with_reducible refine zX (f := 58) rfl ?_); refine qD (some 10) rfl rfl Try.func58 (by kernel_rfl) rfl #[.agg #[.slice A0_0 l0_0.length c0_0]] rfl (by (try simp only [yiy, yjy, yky]); first | done | rfl | (simp only [yly, ymy]; rfl)) ?_; (with_reducible refine (Zl.calls k _ _ l0_0 t102 _ ?side1 ?side2 A3.out).mono ?_); (case side1 => repeat (first | exact (Kd.qF HR0_0.out HB.out) | (with_reducible refine Kd.zy ?_ _) | (with_reducible refine Kd.zz ?_ _) | (with_reducible refine Kd.qK ?_))); (case side2 => exact HC0_0.out); rintro e w38 ⟨rfl, hb⟩; refine ⟨_, rfl, ?_⟩; have n0_ := zA.mk (zP (g := gb101) (o := .cells #[.slice A0_0 l0_0.length c0_0] 30 (0, 0)) (by (with_reducible repeat (first | refine zH ?_ _ | refine zJ ?_ | refine zG ?_ _)); exact BK101.out) hb); have n1_ := zA.mk (zN (by repeat (first | (with_reducible first | exact HB.out | apply zC | apply zB | apply zD | refine zF ?_ GE101.out) | exact HB.out)) hb); clear BK101; clear HB; have BK101 := n0_; have HB := n1_; clear n0_ n1_; (try clear hb); (try clear hb2); (try clear hk); (try clear hi)))
  go_ret2
  exact ⟨_, by first | rfl | (simp [zY, zZ] <;> rfl) | (simp [*, zY, zZ] <;> rfl), by first | exact Kd.zAh _ _ _ _ _ | exact Kd.zDb _ _ _ _ _ | exact Kd.zDd _ _ _ _ _ | exact Kd.zDX _ _ _ _ _ | exact Kd.zDa _ _ _ _ _, by repeat (first | (with_reducible first | exact HB.out | apply zC | apply zB | apply zD | refine zF ?_ GE101.out) | exact HB.out)⟩
 rw [if_pos c4] at H
 have c4b0 : (t102 == 0) = true := beq_iff_eq.mpr c4
 have c4b1 : (t102 != 0) = false := bne_eq_false_iff_eq.mpr c4
 clear c4
 replace H := ydy.mp H
 obtain ⟨⟨t103, t106, t109, t112⟩, A50, H⟩ := H
 replace H : (if 0 < (t112.length : Int) then ((Zt.f a1 0 (wrap64 ((rd t112 0) - 1))).bind fun t117 => (if t117 = true then ((zo.f k l0_0 t103 t106 t109 a1).bind fun t118 => (some (t118, 0))) else (some (([] : List Int), 2)))) else (none)) = some (r1, r2) := H
 have A5 := zA.mk A50
 clear A50
 by_cases c6 : 0 < (t112.length : Int)
 rotate_left
 next =>
  rw [if_neg c6] at H
  exact absurd H (by simp)
 rw [if_pos c6] at H
 have c6b0 : decide (0 < (t112.length : Int)) = true := ygy c6
 have c6b1 : decide (0 < t112.length) = true := ygy (by omega)
 clear c6
 replace H := ydy.mp H
 obtain ⟨t117, A70, H⟩ := H
 replace H : (if t117 = true then ((zo.f k l0_0 t103 t106 t109 a1).bind fun t118 => (some (t118, 0))) else (some (([] : List Int), 2))) = some (r1, r2) := H
 have A7 := zA.mk A70
 clear A70
 by_cases c8 : t117 = true
 rotate_left
 next =>
  replace c8 := Bool.eq_false_iff.mpr c8
  subst c8
  have H1 : (some (([] : List Int), 2)) = some (r1, r2) := by rw [if_neg (show ¬ (false = true) by decide)] at H; exact H
  clear H
  have H := H1
  clear H1
  simp only [Option.some.injEq, Prod.mk.injEq] at H
  obtain ⟨rfl, rfl⟩ := H
  go_enter Try.func36, Try.ntmps36
  go_wp2_with (first | ((with_reducible refine zj (N := 2) rfl ?_); refine zk ?hg (N := 2) ?hd (cs := #[.slice A0_0 l0_0.length c0_0]) (t := 30) ?hr ?_; (case hd => rfl); (case hg => rfl); (case hr => first | (go_simp; done) | (go_simp; rfl)); intro gb101 hg w24 hbox hb; have n0_ := zA.mk (zN (by repeat (first | (with_reducible first | exact HB.out | apply zC | apply zB | apply zD) | exact HB.out)) hb); have n1_ := zA.mk (hbox); have n2_ := zA.mk ((by rw [hg]; exact (zO (by repeat (first | (with_reducible first | exact HB.out | apply zC | apply zB | apply zD) | exact HB.out))) : w.heap.size ≤ gb101)); have n3_ := zA.mk ((by rw [hg]; exact (zO (by repeat (first | (with_reducible first | exact HB.out | apply zC | apply zB | apply zD) | exact HB.out))) : w.heap.size ≤ gb101)); clear HB; have HB := n0_; have BK101 := n1_; have GW101 := n2_; have GE101 := n3_; clear n0_ n1_ n2_ n3_; clear hb hbox hg; have hcz25_0 : w24.cell? ⟨gb101, 0, none⟩ = some (.slice A0_0 l0_0.length c0_0) := (zL BK101.out 0).trans rfl; have hfz25_0 := zM BK101.out 0) | ((with_reducible refine zX (f := 58) rfl ?_); refine qD (some 10) rfl rfl Try.func58 (by kernel_rfl) rfl #[.agg #[.slice A0_0 l0_0.length c0_0]] rfl (by (try simp only [yiy, yjy, yky]); first | done | rfl | (simp only [yly, ymy]; rfl)) ?_; (with_reducible refine (Zl.calls k _ _ l0_0 t102 _ ?side1 ?side2 A3.out).mono ?_); (case side1 => repeat (first | exact (Kd.qF HR0_0.out HB.out) | (with_reducible refine Kd.zy ?_ _) | (with_reducible refine Kd.zz ?_ _) | (with_reducible refine Kd.qK ?_))); (case side2 => exact HC0_0.out); rintro e w26 ⟨rfl, hb⟩; refine ⟨_, rfl, ?_⟩; have n0_ := zA.mk (zP (g := gb101) (o := .cells #[.slice A0_0 l0_0.length c0_0] 30 (0, 0)) (by (with_reducible repeat (first | refine zH ?_ _ | refine zJ ?_ | refine zG ?_ _)); exact BK101.out) hb); have n1_ := zA.mk (zN (by repeat (first | (with_reducible first | exact HB.out | apply zC | apply zB | apply zD | refine zF ?_ GE101.out) | exact HB.out)) hb); clear BK101; clear HB; have BK101 := n0_; have HB := n1_; clear n0_ n1_; (try clear hb); (try clear hb2); (try clear hk); (try clear hi); have hcz27_0 : w26.cell? ⟨gb101, 0, none⟩ = some (.slice A0_0 l0_0.length c0_0) := (zL BK101.out 0).trans rfl; have hfz27_0 := zM BK101.out 0) | ((with_reducible refine zX (f := 75) rfl ?_); refine qD (some 16) rfl rfl Try.func75 (by kernel_rfl) rfl #[.agg #[.slice A0_0 l0_0.length c0_0]] rfl (by (try simp only [yiy, yjy, yky]); first | done | rfl | (simp only [yly, ymy]; rfl)) ?_; (with_reducible refine (zQ.calls k _ _ l0_0 t103 t106 t109 t112 _ ?side1 ?side2 A5.out).mono ?_); (case side1 => repeat (first | exact (Kd.qF HR0_0.out HB.out) | (with_reducible refine Kd.zy ?_ _) | (with_reducible refine Kd.zz ?_ _) | (with_reducible refine Kd.qK ?_))); (case side2 => exact HC0_0.out); rintro e w28 ⟨v104, v107, v110, v113, rfl, ho0, ho1, ho2, ho3, hb⟩; refine ⟨_, rfl, ?_⟩; have n0_ := zA.mk (Kd.QS ho0 (zO (by repeat (first | (with_reducible first | exact HB.out | apply zC | apply zB | apply zD | refine zF ?_ GE101.out) | exact HB.out)))); have n1_ := zA.mk (Kd.QS ho1 (zO (by repeat (first | (with_reducible first | exact HB.out | apply zC | apply zB | apply zD | refine zF ?_ GE101.out) | exact HB.out)))); have n2_ := zA.mk (Kd.QS ho2 (zO (by repeat (first | (with_reducible first | exact HB.out | apply zC | apply zB | apply zD | refine zF ?_ GE101.out) | exact HB.out)))); have n3_ := zA.mk (Kd.qx ho3 (zO (by repeat (first | (with_reducible first | exact HB.out | apply zC | apply zB | apply zD | refine zF ?_ GE101.out) | exact HB.out)))); have n4_ := zA.mk (zP (g := gb101) (o := .cells #[.slice A0_0 l0_0.length c0_0] 30 (0, 0)) (by (with_reducible repeat (first | refine zH ?_ _ | refine zJ ?_ | refine zG ?_ _)); exact BK101.out) hb); have n5_ := zA.mk (zN (by repeat (first | (with_reducible first | exact HB.out | apply zC | apply zB | apply zD | refine zF ?_ GE101.out) | exact HB.out)) hb); clear BK101; clear HB; have HO105 := n0_; have HO108 := n1_; have HO111 := n2_; have HO114 := n3_; have BK101 := n4_; have HB := n5_; clear n0_ n1_ n2_ n3_ n4_ n5_; (try clear hb); (try clear hb2); (try clear hk); (try clear hi); (try clear ho0); (try clear ho1); (try clear ho2); (try clear ho3)) | ((with_reducible refine zj (N := 7) rfl ?_); refine zk ?hg (N := 7) ?hd (cs := #[.slice none 0 0, .slice none 0 0, .slice none 0 0]) (t := 79) ?hr ?_; (case hd => rfl); (case hg => rfl); (case hr => first | (go_simp; done) | (go_simp; rfl)); intro gb115 hg w29 hbox hb; have n0_ := zA.mk (Kd.Qw (by (with_reducible repeat (first | apply Kd.qH | apply Kd.qJ | apply Kd.qb)); exact HO105.out) hb); have n1_ := zA.mk (Kd.Qw (by (with_reducible repeat (first | apply Kd.qH | apply Kd.qJ | apply Kd.qb)); exact HO108.out) hb); have n2_ := zA.mk (Kd.Qw (by (with_reducible repeat (first | apply Kd.qH | apply Kd.qJ | apply Kd.qb)); exact HO111.out) hb); have n3_ := zA.mk (Kd.qL (by (with_reducible repeat (first | apply Kd.zR | apply Kd.zS | apply Kd.zV)); exact HO114.out) hb); have n4_ := zA.mk (zP (g := gb101) (o := .cells #[.slice A0_0 l0_0.length c0_0] 30 (0, 0)) (by (with_reducible repeat (first | refine zH ?_ _ | refine zJ ?_ | refine zG ?_ _)); exact BK101.out) hb); have n5_ := zA.mk (zN (by repeat (first | (with_reducible first | exact HB.out | apply zC | apply zB | apply zD | refine zF ?_ GE101.out) | exact HB.out)) hb); have n6_ := zA.mk (hbox); have n7_ := zA.mk ((by rw [hg]; exact (zO (by repeat (first | (with_reducible first | exact HB.out | apply zC | apply zB | apply zD | refine zF ?_ GE101.out) | exact HB.out))) : w.heap.size ≤ gb115)); have n8_ := zA.mk ((by rw [hg]; exact (zO (by repeat (first | (with_reducible first | exact HB.out | apply zC | apply zB | apply zD | refine zF ?_ GE101.out) | exact HB.out))) : w.heap.size ≤ gb115)); have n9_ := zA.mk ((by rw [hg]; exact Nat.ne_of_lt (qP (g := gb101) (o := .cells #[.slice A0_0 l0_0.length c0_0] 30 (0, 0)) (by (with_reducible repeat (first | refine zH ?_ _ | refine zJ ?_ | refine zG ?_ _)); exact BK101.out)) : gb101 ≠ gb115)); have n10_ := zA.mk ((by rw [hg]; exact Nat.ne_of_gt (qP (g := gb101) (o := .cells #[.slice A0_0 l0_0.length c0_0] 30 (0, 0)) (by (with_reducible repeat (first | refine zH ?_ _ | refine zJ ?_ | refine zG ?_ _)); exact BK101.out)) : gb115 ≠ gb101)); clear HO105; clear HO108; clear HO111; clear HO114; clear BK101; clear HB; have HO105 := n0_; have HO108 := n1_; have HO111 := n2_; have HO114 := n3_; have BK101 := n4_; have HB := n5_; have BK115 := n6_; have GW115 := n7_; have GE115 := n8_; have NB101_115 := n9_; have NB115_101 := n10_; clear n0_ n1_ n2_ n3_ n4_ n5_ n6_ n7_ n8_ n9_ n10_; clear hb hbox hg; obtain ⟨Ao30, co30, eo30⟩ := Kd.QT HO105.out; subst eo30; have hnb31 := NB115_101.out; have hnc31 := NB101_115.out; have hcz32_0 : w29.cell? ⟨gb115, 0, none⟩ = some (.slice none 0 0) := (zL BK115.out 0).trans rfl; have hcz32_1 : w29.cell? ⟨gb115, 1, none⟩ = some (.slice none 0 0) := (zL BK115.out 1).trans rfl; have hcz32_2 : w29.cell? ⟨gb115, 2, none⟩ = some (.slice none 0 0) := (zL BK115.out 2).trans rfl; have hfz32_0 := zM BK115.out 0; have hfz32_1 := zM BK115.out 1; have hfz32_2 := zM BK115.out 2; obtain ⟨Ao33, co33, eo33⟩ := Kd.QT HO108.out; subst eo33; obtain ⟨Ao34, co34, eo34⟩ := Kd.QT HO111.out; subst eo34; obtain ⟨Ao35, co35, eo35⟩ := Kd.ZB HO114.out; subst eo35; have p116 : 0 ≤ (0 : Int) := (by omega); have q116 : 0 < (t112.length : Int) := of_decide_eq_true (by first | (with_reducible assumption) | assumption); obtain ⟨ad116, e116, hx116_0⟩ := Kd.ZD (Kd.zn HO114.out).2.2 0 p116 q116; cases e116; have qi116 : (0 < t112.length) = True := eq_true (by omega); (try rw [show ((0 : Int)).toNat = 0 from rfl] at hx116_0); (try rw [Addr.add_zero'] at hx116_0); have hn116_0 : ad116.block ≠ gb115 := Kd.zAF (Kd.zAD HO114.out BK115.out (by decide)); have hn116_1 : ad116.block ≠ gb115 := Kd.zAF (Kd.zAD HO114.out BK115.out (by decide)); have hn116_2 : ad116.block ≠ gb115 := Kd.zAF (Kd.zAD HO114.out BK115.out (by decide)); replace hx116_0 := (cell_far (p := ⟨gb115, 0, none⟩) (by first | (rw [Zq]; exact hn116_0) | (show (Addr.add _ _).block ≠ _; rw [Zq]; exact hn116_0) | exact hn116_0) (.slice Ao30 t103.length co30)).trans hx116_0; replace hx116_0 := (cell_far (p := ⟨gb115, 1, none⟩) (by first | (rw [Zq]; exact hn116_1) | (show (Addr.add _ _).block ≠ _; rw [Zq]; exact hn116_1) | exact hn116_1) (.slice Ao33 t106.length co33)).trans hx116_0; replace hx116_0 := (cell_far (p := ⟨gb115, 2, none⟩) (by first | (rw [Zq]; exact hn116_2) | (show (Addr.add _ _).block ≠ _; rw [Zq]; exact hn116_2) | exact hn116_2) (.slice Ao34 t109.length co34)).trans hx116_0; clear hn116_0; clear hn116_1; clear hn116_2; replace p116 := eq_true p116; replace q116 := eq_true q116) | ((with_reducible refine zX (f := 60) rfl ?_); refine qD (some 24) rfl rfl Try.func60 (by kernel_rfl) rfl #[.int .i64 a1, .int .i64 0, .int .i64 (wrap64 ((rd t112 0) - 1))] rfl (by (try simp only [yiy, yjy, yky]); first | done | rfl | (simp only [yly, ymy]; rfl)) ?_; (with_reducible refine (Zt.calls a1 0 (wrap64 ((rd t112 0) - 1)) false _ A7.out).mono ?_); rintro e w' ⟨rfl, ⟨nd, rfl⟩⟩; refine ⟨_, rfl, ?_⟩))
  go_ret2
  exact ⟨_, by first | rfl | (simp [zY, zZ] <;> rfl) | (simp [*, zY, zZ] <;> rfl), by first | exact Kd.zAh _ _ _ _ _ | exact Kd.zDb _ _ _ _ _ | exact Kd.zDd _ _ _ _ _ | exact Kd.zDX _ _ _ _ _ | exact Kd.zDa _ _ _ _ _, by repeat (first | (with_reducible first | exact HB.out | apply zC | apply zB | apply zD | refine zF ?_ GE101.out | refine zF ?_ GE115.out) | exact HB.out)⟩
 subst c8
 have H1 : ((zo.f k l0_0 t103 t106 t109 a1).bind fun t118 => (some (t118, 0))) = some (r1, r2) := by rw [if_pos rfl] at H; exact H
 clear H
 have H := H1
 clear H1
 replace H := ydy.mp H
 obtain ⟨t118, A90, H⟩ := H
 replace H : (some (t118, 0)) = some (r1, r2) := H
 have A9 := zA.mk A90
 clear A90
 simp only [Option.some.injEq, Prod.mk.injEq] at H
 obtain ⟨rfl, rfl⟩ := H
 go_enter Try.func36, Try.ntmps36
 go_wp2_with (first | ((with_reducible refine zj (N := 2) rfl ?_); refine zk ?hg (N := 2) ?hd (cs := #[.slice A0_0 l0_0.length c0_0]) (t := 30) ?hr ?_; (case hd => rfl); (case hg => rfl); (case hr => first | (go_simp; done) | (go_simp; rfl)); intro gb101 hg w10 hbox hb; have n0_ := zA.mk (zN (by repeat (first | (with_reducible first | exact HB.out | apply zC | apply zB | apply zD) | exact HB.out)) hb); have n1_ := zA.mk (hbox); have n2_ := zA.mk ((by rw [hg]; exact (zO (by repeat (first | (with_reducible first | exact HB.out | apply zC | apply zB | apply zD) | exact HB.out))) : w.heap.size ≤ gb101)); have n3_ := zA.mk ((by rw [hg]; exact (zO (by repeat (first | (with_reducible first | exact HB.out | apply zC | apply zB | apply zD) | exact HB.out))) : w.heap.size ≤ gb101)); clear HB; have HB := n0_; have BK101 := n1_; have GW101 := n2_; have GE101 := n3_; clear n0_ n1_ n2_ n3_; clear hb hbox hg; have hcz11_0 : w10.cell? ⟨gb101, 0, none⟩ = some (.slice A0_0 l0_0.length c0_0) := (zL BK101.out 0).trans rfl; have hfz11_0 := zM BK101.out 0) | ((with_reducible refine zX (f := 58) rfl ?_); refine qD (some 10) rfl rfl Try.func58 (by kernel_rfl) rfl #[.agg #[.slice A0_0 l0_0.length c0_0]] rfl (by (try simp only [yiy, yjy, yky]); first | done | rfl | (simp only [yly, ymy]; rfl)) ?_; (with_reducible refine (Zl.calls k _ _ l0_0 t102 _ ?side1 ?side2 A3.out).mono ?_); (case side1 => repeat (first | exact (Kd.qF HR0_0.out HB.out) | (with_reducible refine Kd.zy ?_ _) | (with_reducible refine Kd.zz ?_ _) | (with_reducible refine Kd.qK ?_))); (case side2 => exact HC0_0.out); rintro e w12 ⟨rfl, hb⟩; refine ⟨_, rfl, ?_⟩; have n0_ := zA.mk (zP (g := gb101) (o := .cells #[.slice A0_0 l0_0.length c0_0] 30 (0, 0)) (by (with_reducible repeat (first | refine zH ?_ _ | refine zJ ?_ | refine zG ?_ _)); exact BK101.out) hb); have n1_ := zA.mk (zN (by repeat (first | (with_reducible first | exact HB.out | apply zC | apply zB | apply zD | refine zF ?_ GE101.out) | exact HB.out)) hb); clear BK101; clear HB; have BK101 := n0_; have HB := n1_; clear n0_ n1_; (try clear hb); (try clear hb2); (try clear hk); (try clear hi); have hcz13_0 : w12.cell? ⟨gb101, 0, none⟩ = some (.slice A0_0 l0_0.length c0_0) := (zL BK101.out 0).trans rfl; have hfz13_0 := zM BK101.out 0) | ((with_reducible refine zX (f := 75) rfl ?_); refine qD (some 16) rfl rfl Try.func75 (by kernel_rfl) rfl #[.agg #[.slice A0_0 l0_0.length c0_0]] rfl (by (try simp only [yiy, yjy, yky]); first | done | rfl | (simp only [yly, ymy]; rfl)) ?_; (with_reducible refine (zQ.calls k _ _ l0_0 t103 t106 t109 t112 _ ?side1 ?side2 A5.out).mono ?_); (case side1 => repeat (first | exact (Kd.qF HR0_0.out HB.out) | (with_reducible refine Kd.zy ?_ _) | (with_reducible refine Kd.zz ?_ _) | (with_reducible refine Kd.qK ?_))); (case side2 => exact HC0_0.out); rintro e w14 ⟨v104, v107, v110, v113, rfl, ho0, ho1, ho2, ho3, hb⟩; refine ⟨_, rfl, ?_⟩; have n0_ := zA.mk (Kd.QS ho0 (zO (by repeat (first | (with_reducible first | exact HB.out | apply zC | apply zB | apply zD | refine zF ?_ GE101.out) | exact HB.out)))); have n1_ := zA.mk (Kd.QS ho1 (zO (by repeat (first | (with_reducible first | exact HB.out | apply zC | apply zB | apply zD | refine zF ?_ GE101.out) | exact HB.out)))); have n2_ := zA.mk (Kd.QS ho2 (zO (by repeat (first | (with_reducible first | exact HB.out | apply zC | apply zB | apply zD | refine zF ?_ GE101.out) | exact HB.out)))); have n3_ := zA.mk (Kd.qx ho3 (zO (by repeat (first | (with_reducible first | exact HB.out | apply zC | apply zB | apply zD | refine zF ?_ GE101.out) | exact HB.out)))); have n4_ := zA.mk (zP (g := gb101) (o := .cells #[.slice A0_0 l0_0.length c0_0] 30 (0, 0)) (by (with_reducible repeat (first | refine zH ?_ _ | refine zJ ?_ | refine zG ?_ _)); exact BK101.out) hb); have n5_ := zA.mk (zN (by repeat (first | (with_reducible first | exact HB.out | apply zC | apply zB | apply zD | refine zF ?_ GE101.out) | exact HB.out)) hb); clear BK101; clear HB; have HO105 := n0_; have HO108 := n1_; have HO111 := n2_; have HO114 := n3_; have BK101 := n4_; have HB := n5_; clear n0_ n1_ n2_ n3_ n4_ n5_; (try clear hb); (try clear hb2); (try clear hk); (try clear hi); (try clear ho0); (try clear ho1); (try clear ho2); (try clear ho3)) | ((with_reducible refine zj (N := 7) rfl ?_); refine zk ?hg (N := 7) ?hd (cs := #[.slice none 0 0, .slice none 0 0, .slice none 0 0]) (t := 79) ?hr ?_; (case hd => rfl); (case hg => rfl); (case hr => first | (go_simp; done) | (go_simp; rfl)); intro gb115 hg w15 hbox hb; have n0_ := zA.mk (Kd.Qw (by (with_reducible repeat (first | apply Kd.qH | apply Kd.qJ | apply Kd.qb)); exact HO105.out) hb); have n1_ := zA.mk (Kd.Qw (by (with_reducible repeat (first | apply Kd.qH | apply Kd.qJ | apply Kd.qb)); exact HO108.out) hb); have n2_ := zA.mk (Kd.Qw (by (with_reducible repeat (first | apply Kd.qH | apply Kd.qJ | apply Kd.qb)); exact HO111.out) hb); have n3_ := zA.mk (Kd.qL (by (with_reducible repeat (first | apply Kd.zR | apply Kd.zS | apply Kd.zV)); exact HO114.out) hb); have n4_ := zA.mk (zP (g := gb101) (o := .cells #[.slice A0_0 l0_0.length c0_0] 30 (0, 0)) (by (with_reducible repeat (first | refine zH ?_ _ | refine zJ ?_ | refine zG ?_ _)); exact BK101.out) hb); have n5_ := zA.mk (zN (by repeat (first | (with_reducible first | exact HB.out | apply zC | apply zB | apply zD | refine zF ?_ GE101.out) | exact HB.out)) hb); have n6_ := zA.mk (hbox); have n7_ := zA.mk ((by rw [hg]; exact (zO (by repeat (first | (with_reducible first | exact HB.out | apply zC | apply zB | apply zD | refine zF ?_ GE101.out) | exact HB.out))) : w.heap.size ≤ gb115)); have n8_ := zA.mk ((by rw [hg]; exact (zO (by repeat (first | (with_reducible first | exact HB.out | apply zC | apply zB | apply zD | refine zF ?_ GE101.out) | exact HB.out))) : w.heap.size ≤ gb115)); have n9_ := zA.mk ((by rw [hg]; exact Nat.ne_of_lt (qP (g := gb101) (o := .cells #[.slice A0_0 l0_0.length c0_0] 30 (0, 0)) (by (with_reducible repeat (first | refine zH ?_ _ | refine zJ ?_ | refine zG ?_ _)); exact BK101.out)) : gb101 ≠ gb115)); have n10_ := zA.mk ((by rw [hg]; exact Nat.ne_of_gt (qP (g := gb101) (o := .cells #[.slice A0_0 l0_0.length c0_0] 30 (0, 0)) (by (with_reducible repeat (first | refine zH ?_ _ | refine zJ ?_ | refine zG ?_ _)); exact BK101.out)) : gb115 ≠ gb101)); clear HO105; clear HO108; clear HO111; clear HO114; clear BK101; clear HB; have HO105 := n0_; have HO108 := n1_; have HO111 := n2_; have HO114 := n3_; have BK101 := n4_; have HB := n5_; have BK115 := n6_; have GW115 := n7_; have GE115 := n8_; have NB101_115 := n9_; have NB115_101 := n10_; clear n0_ n1_ n2_ n3_ n4_ n5_ n6_ n7_ n8_ n9_ n10_; clear hb hbox hg; obtain ⟨Ao16, co16, eo16⟩ := Kd.QT HO105.out; subst eo16; have hnb17 := NB115_101.out; have hnc17 := NB101_115.out; have hcz18_0 : w15.cell? ⟨gb115, 0, none⟩ = some (.slice none 0 0) := (zL BK115.out 0).trans rfl; have hcz18_1 : w15.cell? ⟨gb115, 1, none⟩ = some (.slice none 0 0) := (zL BK115.out 1).trans rfl; have hcz18_2 : w15.cell? ⟨gb115, 2, none⟩ = some (.slice none 0 0) := (zL BK115.out 2).trans rfl; have hfz18_0 := zM BK115.out 0; have hfz18_1 := zM BK115.out 1; have hfz18_2 := zM BK115.out 2; obtain ⟨Ao19, co19, eo19⟩ := Kd.QT HO108.out; subst eo19; obtain ⟨Ao20, co20, eo20⟩ := Kd.QT HO111.out; subst eo20; obtain ⟨Ao21, co21, eo21⟩ := Kd.ZB HO114.out; subst eo21; have p116 : 0 ≤ (0 : Int) := (by omega); have q116 : 0 < (t112.length : Int) := of_decide_eq_true (by first | (with_reducible assumption) | assumption); obtain ⟨ad116, e116, hx116_0⟩ := Kd.ZD (Kd.zn HO114.out).2.2 0 p116 q116; cases e116; have qi116 : (0 < t112.length) = True := eq_true (by omega); (try rw [show ((0 : Int)).toNat = 0 from rfl] at hx116_0); (try rw [Addr.add_zero'] at hx116_0); have hn116_0 : ad116.block ≠ gb115 := Kd.zAF (Kd.zAD HO114.out BK115.out (by decide)); have hn116_1 : ad116.block ≠ gb115 := Kd.zAF (Kd.zAD HO114.out BK115.out (by decide)); have hn116_2 : ad116.block ≠ gb115 := Kd.zAF (Kd.zAD HO114.out BK115.out (by decide)); replace hx116_0 := (cell_far (p := ⟨gb115, 0, none⟩) (by first | (rw [Zq]; exact hn116_0) | (show (Addr.add _ _).block ≠ _; rw [Zq]; exact hn116_0) | exact hn116_0) (.slice Ao16 t103.length co16)).trans hx116_0; replace hx116_0 := (cell_far (p := ⟨gb115, 1, none⟩) (by first | (rw [Zq]; exact hn116_1) | (show (Addr.add _ _).block ≠ _; rw [Zq]; exact hn116_1) | exact hn116_1) (.slice Ao19 t106.length co19)).trans hx116_0; replace hx116_0 := (cell_far (p := ⟨gb115, 2, none⟩) (by first | (rw [Zq]; exact hn116_2) | (show (Addr.add _ _).block ≠ _; rw [Zq]; exact hn116_2) | exact hn116_2) (.slice Ao20 t109.length co20)).trans hx116_0; clear hn116_0; clear hn116_1; clear hn116_2; replace p116 := eq_true p116; replace q116 := eq_true q116) | ((with_reducible refine zX (f := 60) rfl ?_); refine qD (some 24) rfl rfl Try.func60 (by kernel_rfl) rfl #[.int .i64 a1, .int .i64 0, .int .i64 (wrap64 ((rd t112 0) - 1))] rfl (by (try simp only [yiy, yjy, yky]); first | done | rfl | (simp only [yly, ymy]; rfl)) ?_; (with_reducible refine (Zt.calls a1 0 (wrap64 ((rd t112 0) - 1)) true _ A7.out).mono ?_); rintro e w' ⟨rfl, ⟨nd, rfl⟩⟩; refine ⟨_, rfl, ?_⟩; have hcz22_0 : w15.cell? ⟨gb101, 0, none⟩ = some (.slice A0_0 l0_0.length c0_0) := (zL BK101.out 0).trans rfl; have hfz22_0 := zM BK101.out 0) | ((with_reducible refine zX (f := 76) rfl ?_); refine qD (some 29) rfl rfl Try.func76 (by kernel_rfl) rfl #[.agg #[.slice A0_0 l0_0.length c0_0], .agg #[.slice Ao16 t103.length co16, .slice Ao19 t106.length co19, .slice Ao20 t109.length co20], .int .i64 a1] rfl (by (try simp only [yiy, yjy, yky]); first | done | rfl | (simp only [yly, ymy]; rfl)) ?_; (with_reducible refine (zo.calls k _ _ l0_0 _ _ t103 _ _ t106 _ _ t109 a1 t118 _ ?side1 ?side2 ?side3 ?side4 ?side5 ?side6 ?side7 ?side8 A9.out).mono ?_); (case side1 => exact Kd.qF HR0_0.out (by repeat (first | (with_reducible first | exact HB.out | apply zC | apply zB | apply zD | refine zF ?_ GE101.out | refine zF ?_ GE115.out) | exact HB.out))); (case side2 => exact HC0_0.out); (case side3 => refine (Kd.QL (e := 25) (base := w.heap.size) (ok := fun k_ => (some k_ ≠ (.slice Ao19 t106.length co19 : Value).ownBlock ∧ (some k_ ≠ (.slice Ao20 t109.length co20 : Value).ownBlock ∧ some k_ ≠ (.slice (some ad116) t112.length co21 : Value).ownBlock))) (n := t103.length) (c := co16) ?_).2.2; exact (by (with_reducible repeat (first | apply Kd.qH | apply Kd.qJ | apply Kd.qb)); exact (Kd.ZR (Kd.Zu (p := ⟨gb115, 2, none⟩) (Kd.Zu (p := ⟨gb115, 1, none⟩) (Kd.Zu (p := ⟨gb115, 0, none⟩) (Kd.QA HO105.out BK115.out (by decide)) (fun _ hk => hk.2) (.slice Ao16 t103.length co16)) (fun _ hk => hk.2) (.slice Ao19 t106.length co19)) (fun _ hk => hk.2) (.slice Ao20 t109.length co20)) (fun _ h_ => h_.1)))); (case side4 => exact (Kd.QL HO105.out).2.1); (case side5 => refine (Kd.QL (e := 25) (base := w.heap.size) (ok := fun k_ => (some k_ ≠ (.slice Ao16 t103.length co16 : Value).ownBlock ∧ (some k_ ≠ (.slice Ao20 t109.length co20 : Value).ownBlock ∧ some k_ ≠ (.slice (some ad116) t112.length co21 : Value).ownBlock))) (n := t106.length) (c := co19) ?_).2.2; exact (by (with_reducible repeat (first | apply Kd.qH | apply Kd.qJ | apply Kd.qb)); exact (Kd.ZR (Kd.Zu (p := ⟨gb115, 2, none⟩) (Kd.Zu (p := ⟨gb115, 1, none⟩) (Kd.Zu (p := ⟨gb115, 0, none⟩) (Kd.QA HO108.out BK115.out (by decide)) (fun _ hk => hk.2) (.slice Ao16 t103.length co16)) (fun _ hk => hk.2) (.slice Ao19 t106.length co19)) (fun _ hk => hk.2) (.slice Ao20 t109.length co20)) (fun _ h_ => h_.1)))); (case side6 => exact (Kd.QL HO108.out).2.1); (case side7 => refine (Kd.QL (e := 25) (base := w.heap.size) (ok := fun k_ => (some k_ ≠ (.slice Ao16 t103.length co16 : Value).ownBlock ∧ (some k_ ≠ (.slice Ao19 t106.length co19 : Value).ownBlock ∧ some k_ ≠ (.slice (some ad116) t112.length co21 : Value).ownBlock))) (n := t109.length) (c := co20) ?_).2.2; exact (by (with_reducible repeat (first | apply Kd.qH | apply Kd.qJ | apply Kd.qb)); exact (Kd.ZR (Kd.Zu (p := ⟨gb115, 2, none⟩) (Kd.Zu (p := ⟨gb115, 1, none⟩) (Kd.Zu (p := ⟨gb115, 0, none⟩) (Kd.QA HO111.out BK115.out (by decide)) (fun _ hk => hk.2) (.slice Ao16 t103.length co16)) (fun _ hk => hk.2) (.slice Ao19 t106.length co19)) (fun _ hk => hk.2) (.slice Ao20 t109.length co20)) (fun _ h_ => h_.1)))); (case side8 => exact (Kd.QL HO111.out).2.1); rintro e w23 ⟨v119, rfl, ho0, hb⟩; refine ⟨_, rfl, ?_⟩; have n0_ := zA.mk (Kd.Qi (by (with_reducible repeat (first | apply Kd.qH | apply Kd.qJ | apply Kd.qb)); exact (Kd.ZR (Kd.Zu (p := ⟨gb115, 2, none⟩) (Kd.Zu (p := ⟨gb115, 1, none⟩) (Kd.Zu (p := ⟨gb115, 0, none⟩) (Kd.QA HO105.out BK115.out (by decide)) (fun _ hk => hk.2) (.slice Ao16 t103.length co16)) (fun _ hk => hk.2) (.slice Ao19 t106.length co19)) (fun _ hk => hk.2) (.slice Ao20 t109.length co20)) (fun _ h_ => h_.1))) (Kd.Zh ho0) hb); have n1_ := zA.mk (Kd.Qi (by (with_reducible repeat (first | apply Kd.qH | apply Kd.qJ | apply Kd.qb)); exact (Kd.ZR (Kd.Zu (p := ⟨gb115, 2, none⟩) (Kd.Zu (p := ⟨gb115, 1, none⟩) (Kd.Zu (p := ⟨gb115, 0, none⟩) (Kd.QA HO108.out BK115.out (by decide)) (fun _ hk => hk.2) (.slice Ao16 t103.length co16)) (fun _ hk => hk.2) (.slice Ao19 t106.length co19)) (fun _ hk => hk.2) (.slice Ao20 t109.length co20)) (fun _ h_ => h_.1))) (Kd.Zh ho0) hb); have n2_ := zA.mk (Kd.Qi (by (with_reducible repeat (first | apply Kd.qH | apply Kd.qJ | apply Kd.qb)); exact (Kd.ZR (Kd.Zu (p := ⟨gb115, 2, none⟩) (Kd.Zu (p := ⟨gb115, 1, none⟩) (Kd.Zu (p := ⟨gb115, 0, none⟩) (Kd.QA HO111.out BK115.out (by decide)) (fun _ hk => hk.2) (.slice Ao16 t103.length co16)) (fun _ hk => hk.2) (.slice Ao19 t106.length co19)) (fun _ hk => hk.2) (.slice Ao20 t109.length co20)) (fun _ h_ => h_.1))) (Kd.Zh ho0) hb); have n3_ := zA.mk (Kd.ZX (by (with_reducible repeat (first | apply Kd.zR | apply Kd.zS | apply Kd.zV)); exact (Kd.zt (Kd.ZN (p := ⟨gb115, 2, none⟩) (Kd.ZN (p := ⟨gb115, 1, none⟩) (Kd.ZN (p := ⟨gb115, 0, none⟩) (Kd.ZM HO114.out BK115.out (by decide)) (fun _ hk => hk.2) (.slice Ao16 t103.length co16)) (fun _ hk => hk.2) (.slice Ao19 t106.length co19)) (fun _ hk => hk.2) (.slice Ao20 t109.length co20)) (fun _ h_ => h_.1))) (Kd.Zh ho0) hb); have n4_ := zA.mk (Kd.qx (Kd.Qg ho0 (Kd.Qu (by (with_reducible repeat (first | apply Kd.zR | apply Kd.zS | apply Kd.zV)); exact (Kd.zt (Kd.ZN (p := ⟨gb115, 2, none⟩) (Kd.ZN (p := ⟨gb115, 1, none⟩) (Kd.ZN (p := ⟨gb115, 0, none⟩) (Kd.ZM HO114.out BK115.out (by decide)) (fun _ hk => hk.2) (.slice Ao16 t103.length co16)) (fun _ hk => hk.2) (.slice Ao19 t106.length co19)) (fun _ hk => hk.2) (.slice Ao20 t109.length co20)) (fun _ h_ => h_.1))))) (zO (by repeat (first | (with_reducible first | exact HB.out | apply zC | apply zB | apply zD | refine zF ?_ GE101.out | refine zF ?_ GE115.out) | exact HB.out)))); have n5_ := zA.mk (zP (g := gb101) (o := .cells #[.slice A0_0 l0_0.length c0_0] 30 (0, 0)) (by (with_reducible repeat (first | refine zH ?_ _ | refine zJ ?_ | refine zG ?_ _)); refine qI ?_ NB101_115.out _; (with_reducible repeat (first | refine zH ?_ _ | refine zJ ?_ | refine zG ?_ _)); refine qI ?_ NB101_115.out _; (with_reducible repeat (first | refine zH ?_ _ | refine zJ ?_ | refine zG ?_ _)); refine qI ?_ NB101_115.out _; (with_reducible repeat (first | refine zH ?_ _ | refine zJ ?_ | refine zG ?_ _)); exact BK101.out) hb); have n6_ := zA.mk (zP (g := gb115) (o := .cells #[.slice Ao16 t103.length co16, .slice Ao19 t106.length co19, .slice Ao20 t109.length co20] 79 (0, 0)) (by (with_reducible repeat (first | refine zH ?_ _ | refine zJ ?_ | refine zG ?_ _)); refine qY (cs := #[.slice Ao16 t103.length co16, .slice Ao19 t106.length co19, .slice none 0 0]) ?_ 2 _ rfl; (with_reducible repeat (first | refine zH ?_ _ | refine zJ ?_ | refine zG ?_ _)); refine qY (cs := #[.slice Ao16 t103.length co16, .slice none 0 0, .slice none 0 0]) ?_ 1 _ rfl; (with_reducible repeat (first | refine zH ?_ _ | refine zJ ?_ | refine zG ?_ _)); refine qY (cs := #[.slice none 0 0, .slice none 0 0, .slice none 0 0]) ?_ 0 _ rfl; (with_reducible repeat (first | refine zH ?_ _ | refine zJ ?_ | refine zG ?_ _)); exact BK115.out) hb); have n7_ := zA.mk (zN (by repeat (first | (with_reducible first | exact HB.out | apply zC | apply zB | apply zD | refine zF ?_ GE101.out | refine zF ?_ GE115.out) | exact HB.out)) hb); clear HO105; clear HO108; clear HO111; clear HO114; clear BK101; clear BK115; clear HB; have HO105 := n0_; have HO108 := n1_; have HO111 := n2_; have HO114 := n3_; have HO120 := n4_; have BK101 := n5_; have BK115 := n6_; have HB := n7_; clear n0_ n1_ n2_ n3_ n4_ n5_ n6_ n7_; (try clear hb); (try clear hb2); (try clear hk); (try clear hi); (try clear ho0)))
 go_ret2
 exact ⟨_, by first | rfl | (simp [zY, zZ] <;> rfl) | (simp [*, zY, zZ] <;> rfl), by (with_reducible repeat (first | apply Kd.zR | apply Kd.zS | apply Kd.zV)); exact Kd.zt HO120.out (fun _ hk => trivial), by repeat (first | (with_reducible first | exact HB.out | apply zC | apply zB | apply zD | refine zF ?_ GE101.out | refine zF ?_ GE115.out) | exact HB.out)⟩
end Go.Proofs.Ythjpdljdodalaaa.P
namespace Go.Proofs.Ythjpdljdodalaaa.Lib
open Go.RowKit Go.Proofs.YthjpdljdodalaaaW.PrintWords
set_option linter.unusedVariables false
section
variable {α : Type} {d : Kd α} {e b lo hi lo2 hi2 T : Nat} {w w' W : World} {v : Value} {xs ys : List α}
def ObS (d : Kd α) (e b : Nat) (w : World) (lo hi : Nat) (v : Value) (xs : List α) : Prop := hi ≤ w.heap.size ∧ Kd.S d e w b (fun k => lo ≤ k ∧ k < hi) v xs
def ObR (d : Kd α) (e b : Nat) (w : World) (lo hi : Nat) (v : Value) (xs : List α) : Prop := hi ≤ w.heap.size ∧ Kd.R d e w b (fun k => lo ≤ k ∧ k < hi) v xs
theorem size_set (w : World) (g i : Nat) (u : Value) : w.heap.size ≤ (w.setCell ⟨g, i, none⟩ u).heap.size := ((yry 0 w).setCell (Nat.zero_le _) u).size
theorem ObS.made (ho : Kd.S d e w' W.heap.size (fun _ => True) v xs) (hb : Below W.heap.size W w') (hT : T ≤ W.heap.size) (hB : b ≤ W.heap.size) : ∃ lo hi, (T ≤ lo ∧ lo ≤ hi) ∧ hi ≤ w'.heap.size ∧ ObS d e b w' lo hi v xs :=
  ⟨W.heap.size, w'.heap.size, ⟨hT, hb.size⟩, yqy _, yqy _, Kd.QS (Kd.ZR (Kd.zEI ho) (fun k hk => ⟨hk.2.1, hk.2.2.1⟩)) hB⟩
theorem ObR.made (ho : Kd.R d e w' W.heap.size (fun _ => True) v xs) (hb : Below W.heap.size W w') (hT : T ≤ W.heap.size) (hB : b ≤ W.heap.size) : ∃ lo hi, (T ≤ lo ∧ lo ≤ hi) ∧ hi ≤ w'.heap.size ∧ ObR d e b w' lo hi v xs :=
  ⟨W.heap.size, w'.heap.size, ⟨hT, hb.size⟩, yqy _, yqy _, Kd.qx (Kd.zt (Kd.QM ho) (fun k hk => ⟨hk.2.1, hk.2.2.1⟩)) hB⟩
theorem ObS.below (h : ObS d e b w lo hi v xs) (hb : Below w.heap.size w w') : ObS d e b w' lo hi v xs := ⟨Nat.le_trans h.1 hb.size, Kd.Qw h.2 hb⟩
theorem ObR.below (h : ObR d e b w lo hi v xs) (hb : Below w.heap.size w w') : ObR d e b w' lo hi v xs := ⟨Nat.le_trans h.1 hb.size, Kd.qL h.2 hb⟩
theorem ObS.drew (h : ObS d e b w lo hi v xs) : ObS d e b w.drew lo hi v xs := ⟨h.1, Kd.qb h.2⟩
theorem ObR.drew (h : ObR d e b w lo hi v xs) : ObR d e b w.drew lo hi v xs := ⟨h.1, Kd.zV h.2⟩
theorem ObS.far {g i : Nat} (h : ObS d e b w lo hi v xs) (hg : g < lo ∨ hi ≤ g) (u : Value) : ObS d e b (w.setCell ⟨g, i, none⟩ u) lo hi v xs :=
  ⟨Nat.le_trans h.1 (size_set _ _ _ _), Kd.Zu h.2 (fun k hk => by show k ≠ g; have := hk.1; have := hk.2; omega) u⟩
theorem ObR.far {g i : Nat} (h : ObR d e b w lo hi v xs) (hg : g < lo ∨ hi ≤ g) (u : Value) : ObR d e b (w.setCell ⟨g, i, none⟩ u) lo hi v xs :=
  ⟨Nat.le_trans h.1 (size_set _ _ _ _), Kd.ZN h.2 (fun k hk => by show k ≠ g; have := hk.1; have := hk.2; omega) u⟩
theorem ObS.kept (h : ObS d e b w lo hi v xs) (hk : Kept w w' (fun k => lo2 ≤ k ∧ k < hi2)) (hd : hi ≤ lo2 ∨ hi2 ≤ lo) : ObS d e b w' lo hi v xs :=
  ⟨Nat.le_trans h.1 hk.1, Kd.S_kept h.2 hk (fun k h1 h2 => by have := h1.1; have := h1.2; have := h2.1; have := h2.2; omega)⟩
theorem ObR.kept (h : ObR d e b w lo hi v xs) (hk : Kept w w' (fun k => lo2 ≤ k ∧ k < hi2)) (hd : hi ≤ lo2 ∨ hi2 ≤ lo) : ObR d e b w' lo hi v xs :=
  ⟨Nat.le_trans h.1 hk.1, Kd.zEM h.2 hk (fun k h1 h2 => by have := h1.1; have := h1.2; have := h2.1; have := h2.2; omega)⟩
theorem ObS.slice (h : ObS d e b w lo hi v xs) : ∃ A c, v = .slice A xs.length c := Kd.QT h.2
theorem ObR.slice (h : ObR d e b w lo hi v xs) : ∃ A c, v = .slice A xs.length c := Kd.ZB h.2
theorem ObS.reads {A : Option Addr} {n c : Nat} (h : ObS d e b w lo hi (.slice A n c) xs) : n = xs.length ∧ n ≤ c ∧ d.C w A xs.length xs := Kd.QL h.2
theorem ObR.reads {A : Option Addr} {n c : Nat} (h : ObR d e b w lo hi (.slice A n c) xs) : n = xs.length ∧ n ≤ c ∧ d.C w A xs.length xs := Kd.zn h.2
theorem ObS.room {A : Option Addr} {n c : Nat} (h : ObS d e b w lo hi (.slice A n c) xs) : xs.length ≤ c := by have := h.reads; omega
theorem ObR.room {A : Option Addr} {n c : Nat} (h : ObR d e b w lo hi (.slice A n c) xs) : xs.length ≤ c := by have := h.reads; omega
theorem ObR.marked {ok' : Nat → Prop} (h : ObR d e b w lo hi v xs) (hE : d.E = []) (hy : Kd.R d e w' b ok' v ys) (hs : w.heap.size ≤ w'.heap.size) : ObR d e b w' lo hi v ys :=
  ⟨Nat.le_trans h.1 hs, Kd.zCH hE hy (fun k e => h.2.1 k e)⟩
theorem ObS.marked (h : ObS d e b w lo hi v xs) (hy : Kd.S d e w' b (fun k => lo ≤ k ∧ k < hi) v ys) (hs : w.heap.size ≤ w'.heap.size) : ObS d e b w' lo hi v ys := ⟨Nat.le_trans h.1 hs, hy⟩
theorem ObR.range (h : ObR d e b w lo hi v xs) (hk : Kept w w' (fun k_ => some k_ = v.ownBlock)) : Kept w w' (fun k => lo ≤ k ∧ k < hi) := hk.mono (fun k e => h.2.1 k e.symm)
theorem ObS.row (h : ObS d e b w lo hi v xs) : Kd.S d e w b (fun k => lo ≤ k ∧ k < hi) v xs := h.2
theorem ObR.row (h : ObR d e b w lo hi v xs) : Kd.R d e w b (fun k => lo ≤ k ∧ k < hi) v xs := h.2
theorem QK {n : Nat} (h : w' = w.drewN n) : Below w.heap.size w w' := h ▸ zB (yry _ _) n
theorem ZQ (h : T ≤ w.heap.size) (hb : Below w.heap.size w w') : T ≤ w'.heap.size := Nat.le_trans h hb.size
theorem zFG (h : T ≤ w.heap.size) : T ≤ w.drew.heap.size := h
theorem zEX {g i : Nat} {u : Value} (h : T ≤ w.heap.size) : T ≤ (w.setCell ⟨g, i, none⟩ u).heap.size := Nat.le_trans h (size_set _ _ _ _)
end
end Go.Proofs.Ythjpdljdodalaaa.Lib
