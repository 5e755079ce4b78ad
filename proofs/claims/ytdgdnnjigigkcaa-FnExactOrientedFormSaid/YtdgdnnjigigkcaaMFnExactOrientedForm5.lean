/- The statement FnExactOrientedFormSaid, proved: part 5 of 8 (texts of this session and of the kit's print, put together and cut to what is used by a program of it). -/
import Derived.Test.YtdgdnnjigigkcaaMFnExactOrientedForm4
namespace Go.Proofs.Ytdgdnnjigigkcaa.P
open Go.RowKit Go.Proofs.YtdgdnnjigigkcaaW.PrintWords Go.Proofs.YtdgdnnjigigkcaaW.PrintLast Go.Proofs.YtdgdnnjigigkcaaW.PrintMore
attribute [local go_sem] Qm Qn JO JP QT QU Qo Qp
set_option linter.unusedVariables false
set_option linter.unusedSimpArgs false
mutual
def zR.l0 : Nat → List Int → Int → List (List (zh)) → Option (List Int × Bool)
 | 0, _, _, _ => none
 | k + 1, x4, x5, x102000 => (qF.f x102000).bind fun t105 => (if x5 < t105 then (if 0 ≤ x5 then (if x5 < (x4.length : Int) then (if (rd x4 x5) = 0 then (zR.l1 k (x4.set (x5 : Int).toNat 1) x5 (([x5] : List Int)) 0 x102000) else (zR.l0 k x4 (wrap64 (x5 + 1)) x102000)) else (none)) else (none)) else (some (x4, true)))
def zR.l1 : Nat → List Int → Int → List Int → Int → List (List (zh)) → Option (List Int × Bool)
 | 0, _, _, _, _, _ => none
 | k + 1, x4, x5, x6, x7, x102000 => if x7 < (x6.length : Int) then (zR.l2 k x4 x5 x6 x7 0 x102000) else (zR.l0 k x4 (wrap64 (x5 + 1)) x102000)
def zR.l2 : Nat → List Int → Int → List Int → Int → Int → List (List (zh)) → Option (List Int × Bool)
 | 0, _, _, _, _, _, _ => none
 | k + 1, x4, x5, x6, x7, x8, x102000 => if x8 < 4 then (if 0 ≤ x7 then (if x7 < (x6.length : Int) then (if 0 ≤ (rd x6 x7) then (if (rd x6 x7) < (x102000.length : Int) then (if 0 ≤ x8 then (if x8 < ((zC x102000 (rd x6 x7)).length : Int) then (if ((zF (zC x102000 (rd x6 x7)) x8).f0) < 0 then (zR.l2 k x4 x5 x6 x7 (wrap64 (x8 + 1)) x102000) else (if (rd x6 x7) < (x4.length : Int) then ((zi.f k ((zF (zC x102000 (rd x6 x7)) x8).f1)).bind fun t117 => (if 0 ≤ ((zF (zC x102000 (rd x6 x7)) x8).f0) then (if ((zF (zC x102000 (rd x6 x7)) x8).f0) < (x4.length : Int) then (if (rd x4 ((zF (zC x102000 (rd x6 x7)) x8).f0)) = 0 then ((some (x4.set (((zF (zC x102000 (rd x6 x7)) x8).f0) : Int).toNat (wrap64 ((wrap64 (-(rd x4 (rd x6 x7)))) * t117)) : List Int)).bind fun y119 => (if x6.length < 17592186044416 then (if (rd y119 ((zF (zC x102000 (rd x6 x7)) x8).f0)) = (wrap64 ((wrap64 (-(rd x4 (rd x6 x7)))) * t117)) then (zR.l2 k y119 x5 (x6 ++ [(zF (zC x102000 (rd x6 x7)) x8).f0]) x7 (wrap64 (x8 + 1)) x102000) else (some (([] : List Int), false))) else (none))) else (if (rd x4 ((zF (zC x102000 (rd x6 x7)) x8).f0)) = (wrap64 ((wrap64 (-(rd x4 (rd x6 x7)))) * t117)) then (zR.l2 k x4 x5 x6 x7 (wrap64 (x8 + 1)) x102000) else (some (([] : List Int), false)))) else (none)) else (none))) else (none))) else (none)) else (none)) else (none)) else (none)) else (none)) else (none)) else (zR.l1 k x4 x5 x6 (wrap64 (x7 + 1)) x102000)
end
def zR.f (k : Nat) (l0_0 : List (List (zh))) : Option (List Int × Bool) := if 0 ≤ (l0_0.length : Int) then (if ((l0_0.length : Int) : Int).toNat ≤ 35184372088832 then (zR.l0 k (List.replicate ((l0_0.length : Int) : Int).toNat 0) 0 l0_0) else (none)) else (none)
def zR.T14 : Bool × List (List Nat × List Nat) := (true, [([], []), ([0], [0]), ([], []), ([], []), ([2, 3], [2, 3]), ([4], [4]), ([1, 5], [1, 5]), ([6], [6]), ([], []), ([7, 8], [7, 8]), ([9], [9]), ([], []), ([11, 10, 0, 1, 2, 3, 4, 5, 6, 7, 8, 9, 10, 11], [10, 11])])
def zR.B14 : List Nat := [0, 1, 0, 0, 12, 28, 63, 127, 0, 511, 1023, 0, 4095]
theorem zR.zDc : Jq .any (opsOf Try.f138 14) = zR.T14 := by kernel_rfl
theorem zR.zBp : QM zR.T14.2 zR.B14 = true := by kernel_rfl
def zR.T16 : Bool × List (List Nat × List Nat) := (true, [([], []), ([], []), ([], []), ([1, 2], [1, 2]), ([3], [3]), ([0, 4], [0, 4]), ([5], [5]), ([6], [6]), ([], []), ([8], [8]), ([9], [9]), ([7, 10], [7, 10]), ([11, 10, 0, 1, 2, 3, 4, 5, 6, 7, 8, 9, 10, 11], [11])])
def zR.B16 : List Nat := [0, 0, 0, 6, 14, 31, 63, 127, 0, 256, 768, 2047, 4095]
theorem zR.zCE : Jq .any (opsOf Try.f138 16) = zR.T16 := by kernel_rfl
theorem zR.zAg : QM zR.T16.2 zR.B16 = true := by kernel_rfl
set_option maxHeartbeats 8000000 in
set_option maxRecDepth 100000 in
theorem zR.calls (k : Nat) (A0_0 : Option Addr) (c0_0 : Nat) (l0_0 : List (List (zh))) (r1 : List Int) (r2 : Bool) (w : World) (hr0_0 : Kd.C (Kd.slice 74 qJ) w A0_0 l0_0.length l0_0) (hc0_0 : l0_0.length ≤ c0_0) (h : zR.f k l0_0 = some (r1, r2)) :
 Calls Try.prog 138 #[.agg #[.slice A0_0 l0_0.length c0_0]] w fun e w' => ∃ v0_ : Value, e = .returned (.tuple #[v0_, .bool r2]) ∧ Kd.R (Kd.int .i64) 2 w' w.heap.size (fun _ => True) v0_ r1 ∧ Below w.heap.size w w' := by
 have hu28 := Try.underlying28
 have hu74 := Try.underlying74
 have HR0_0 := zA.mk hr0_0
 have HC0_0 := zA.mk hc0_0
 clear hr0_0 hc0_0
 have HB := zA.mk (yqy w.heap.size w)
 have H : (if 0 ≤ (l0_0.length : Int) then (if ((l0_0.length : Int) : Int).toNat ≤ 35184372088832 then (zR.l0 k (List.replicate ((l0_0.length : Int) : Int).toNat 0) 0 l0_0) else (none)) else (none)) = some (r1, r2) := h
 clear h
 by_cases c2 : 0 ≤ (l0_0.length : Int)
 rotate_left
 next =>
  rw [if_neg c2] at H
  exact absurd H (by simp)
 rw [if_pos c2] at H
 have c2b0 := eq_true c2
 have c2b1 : decide (0 ≤ (l0_0.length : Int)) = true := ygy c2
 clear c2
 by_cases c3 : ((l0_0.length : Int) : Int).toNat ≤ 35184372088832
 rotate_left
 next =>
  rw [if_neg c3] at H
  exact absurd H (by simp)
 rw [if_pos c3] at H
 have c3b0 := eq_true c3
 have c3b1 : decide (((l0_0.length : Int) : Int).toNat ≤ 35184372088832) = true := ygy c3
 clear c3
 obtain ⟨y102, hy102⟩ : ∃ y_ : List Int, y_ = (List.replicate ((l0_0.length : Int) : Int).toNat 0) := ⟨_, rfl⟩
 replace H : (zR.l0 k y102 0 l0_0) = some (r1, r2) := by first | (rw [hy102]; with_reducible exact H) | (have H2_ := (yfy _ _).symm.trans H; rw [hy102]; with_reducible exact H2_) | (have H2_ := (yfy _ _).symm.trans H; with_reducible exact H2_) | with_reducible exact H | (rw [hy102]; exact H) | exact H
 have Ny102 := zA.mk hy102
 clear hy102
 have H' := zA.mk H
 clear H
 go_enter Try.func138, Try.ntmps138
 go_wp2_with (first | ((with_reducible refine zm (N := 1) rfl ?_); refine zp ?hg (N := 1) ?hd (cs := #[.slice A0_0 l0_0.length c0_0]) (t := 28) ?hr ?_; (case hd => rfl); (case hg => rfl); (case hr => first | (go_simp; done) | (go_simp; rfl)); intro gb101 hg w4 hbox hb; have n0_ := zA.mk (zO (by repeat (first | (with_reducible first | exact HB.out | apply zD | apply zB | apply zE) | exact HB.out)) hb); have n1_ := zA.mk (hbox); have n2_ := zA.mk ((by rw [hg]; exact (zP (by repeat (first | (with_reducible first | exact HB.out | apply zD | apply zB | apply zE) | exact HB.out))) : w.heap.size ≤ gb101)); have n3_ := zA.mk ((by rw [hg]; exact (zP (by repeat (first | (with_reducible first | exact HB.out | apply zD | apply zB | apply zE) | exact HB.out))) : w.heap.size ≤ gb101)); clear HB; have HB := n0_; have BK101 := n1_; have GW101 := n2_; have GE101 := n3_; clear n0_ n1_ n2_ n3_; clear hb hbox hg; have hcz5_0 : w4.cell? ⟨gb101, 0, none⟩ = some (.slice A0_0 l0_0.length c0_0) := (zJ BK101.out 0).trans rfl; have hfz5_0 := zL BK101.out 0) | ((with_reducible refine zm (N := 14) rfl ?_); refine Kd.zAu (Kd.int .i64) _ 2 rfl (N := 14) rfl 41 _ _ rfl (l0_0.length : Int) rfl rfl Try.underlying41 (.int .i64 0) 8 JC rfl (by decide) (by omega) 0 (ok := fun _ => True) (okp := fun _ => True) rfl (fun _ hk => hk) trivial (of_decide_eq_true (by first | (with_reducible assumption) | assumption)) (Nat.le_trans (Nat.mul_le_mul_right _ (of_decide_eq_true (by first | (with_reducible assumption) | assumption) : (l0_0.length : Int).toNat ≤ 35184372088832)) (by omega)) (yqy _ _) (ypy _) ?_; intro v103 w6 ho7 hb hg_ hnew_; clear hg_ hnew_; (first | rw [← Ny102.out] at ho7 | (simp only [Int.reduceToNat] at ho7; rw [← Ny102.out] at ho7)); have n0_ := zA.mk (Kd.qy ho7 (zP (by repeat (first | (with_reducible first | exact HB.out | apply zD | apply zB | apply zE | refine zG ?_ GE101.out) | exact HB.out)))); have n1_ := zA.mk (zN (g := gb101) (o := .cells #[.slice A0_0 l0_0.length c0_0] 28 (0, 0)) (by (with_reducible repeat (first | refine zI ?_ _ | refine zK ?_ | refine zH ?_ _)); exact BK101.out) hb); have n2_ := zA.mk (zO (by repeat (first | (with_reducible first | exact HB.out | apply zD | apply zB | apply zE | refine zG ?_ GE101.out) | exact HB.out)) hb); clear BK101; clear HB; have HO104 := n0_; have BK101 := n1_; have HB := n2_; clear n0_ n1_ n2_; clear hb ho7))
 go_loopg [5] k (fun kq v5 w' => ∃ (x4_1 : List Int) (x5_1 : Int), v5 = .int .i64 x5_1 ∧ zA (zR.l0 kq x4_1 x5_1 l0_0 = some (r1, r2)) ∧ zA (kq ≤ k) ∧ zA (Kd.R (Kd.int .i64) 2 w' w.heap.size (fun _ => True) v103 x4_1) ∧ zA (w'.heap[gb101]? = some (.cells #[(.slice A0_0 l0_0.length c0_0)] 28 (0, 0))) ∧ zA (Below w.heap.size w w'))
 case atStart => exact ⟨(y102), (0), (by first | rfl | (simp; done) | (simp [*]; done)), H', ⟨ypy _⟩, ⟨by (with_reducible repeat (first | apply Kd.zZ | apply Kd.za | apply Kd.zf)); exact HO104.out⟩, ⟨by (with_reducible repeat (first | refine zI ?_ _ | refine zK ?_ | refine zH ?_ _)); exact BK101.out⟩, ⟨by repeat (first | (with_reducible first | exact HB.out | apply zD | apply zB | apply zE | refine zG ?_ GE101.out) | exact HB.out)⟩⟩
 case round =>
  clear H'
  try clear c1
  try clear c2
  try clear c2b0
  try clear c2b1
  try clear p2
  try clear c3
  try clear c3b0
  try clear c3b1
  try clear hcz5_0
  try clear hfz5_0
  obtain ⟨x4_1, x5_1, rfl, HA, HK1, HO_4, BK101, HB⟩ := hrel
  cases gk with
  | zero => exact absurd HA.out (by simp [zR.l0])
  | succ k1 =>
   have H := HA.out
   clear HA
   simp only [zR.l0] at H
   replace H := ydy.mp H
   obtain ⟨t105, A80, H⟩ := H
   replace H : (if x5_1 < t105 then (if 0 ≤ x5_1 then (if x5_1 < (x4_1.length : Int) then (if (rd x4_1 x5_1) = 0 then (zR.l1 k1 (x4_1.set (x5_1 : Int).toNat 1) x5_1 (([x5_1] : List Int)) 0 l0_0) else (zR.l0 k1 x4_1 (wrap64 (x5_1 + 1)) l0_0)) else (none)) else (none)) else (some (x4_1, true))) = some (r1, r2) := H
   have A8 := zA.mk A80
   clear A80
   by_cases c9 : x5_1 < t105
   rotate_left
   next =>
    rw [if_neg c9] at H
    have c9b0 : decide (x5_1 < t105) = false := yhy c9
    clear c9
    simp only [Option.some.injEq, Prod.mk.injEq] at H
    obtain ⟨rfl, rfl⟩ := H
    have hcz105_0 : wr.cell? ⟨gb101, 0, none⟩ = some (.slice A0_0 l0_0.length c0_0) := (zJ BK101.out 0).trans rfl
    have hfz105_0 := zL BK101.out 0
    go_wp2_with (first | ((with_reducible refine ze (f := 65) rfl ?_); refine qP (some 17) rfl rfl Try.func65 (by kernel_rfl) rfl #[.agg #[.slice A0_0 l0_0.length c0_0]] rfl (by (try simp only [yiy, yjy, yky]); first | done | rfl | (simp only [yly, ymy]; rfl)) ?_; (with_reducible refine (qF.calls _ _ l0_0 t105 _ ?side1 ?side2 A8.out).mono ?_); (case side1 => repeat (first | exact (Kd.qA HR0_0.out HB.out) | (with_reducible refine Kd.qB ?_ _) | (with_reducible refine Kd.qC ?_ _) | (with_reducible refine Kd.qW ?_))); (case side2 => exact HC0_0.out); rintro e w106 ⟨rfl, hb⟩; refine ⟨_, rfl, ?_⟩; have n0_ := zA.mk (Kd.qe (by (with_reducible repeat (first | apply Kd.zZ | apply Kd.za | apply Kd.zf)); exact HO_4.out) hb); have n1_ := zA.mk (zN (g := gb101) (o := .cells #[.slice A0_0 l0_0.length c0_0] 28 (0, 0)) (by (with_reducible repeat (first | refine zI ?_ _ | refine zK ?_ | refine zH ?_ _)); exact BK101.out) hb); have n2_ := zA.mk (zO (by repeat (first | (with_reducible first | exact HB.out | apply zD | apply zB | apply zE | refine zG ?_ GE101.out) | exact HB.out)) hb); clear HO_4; clear BK101; clear HB; have HO_4 := n0_; have BK101 := n1_; have HB := n2_; clear n0_ n1_ n2_; (try clear hb); (try clear hb2); (try clear hk); (try clear hi)))
    go_ret2
    exact ⟨_, by first | rfl | (simp [zX, zY] <;> rfl) | (simp [*, zX, zY] <;> rfl), by (with_reducible repeat (first | apply Kd.zZ | apply Kd.za | apply Kd.zf)); exact HO_4.out, by repeat (first | (with_reducible first | exact HB.out | apply zD | apply zB | apply zE | refine zG ?_ GE101.out) | exact HB.out)⟩
   rw [if_pos c9] at H
   have c9b0 : decide (x5_1 < t105) = true := ygy c9
   clear c9
   by_cases c10 : 0 ≤ x5_1
   rotate_left
   next =>
    rw [if_neg c10] at H
    exact absurd H (by simp)
   rw [if_pos c10] at H
   have c10b0 : decide (0 ≤ x5_1) = true := ygy c10
   clear c10
   by_cases c11 : x5_1 < (x4_1.length : Int)
   rotate_left
   next =>
    rw [if_neg c11] at H
    exact absurd H (by simp)
   rw [if_pos c11] at H
   have c11b0 : decide (x5_1 < (x4_1.length : Int)) = true := ygy c11
   clear c11
   by_cases c12 : (rd x4_1 x5_1) = 0
   rotate_left
   next =>
    rw [if_neg c12] at H
    have c12b0 : ((rd x4_1 x5_1) == 0) = false := beq_eq_false_iff_ne.mpr c12
    have c12b1 : ((rd x4_1 x5_1) != 0) = true := bne_iff_ne.mpr c12
    have H' := zA.mk H
    clear H
    have hcz102_0 : wr.cell? ⟨gb101, 0, none⟩ = some (.slice A0_0 l0_0.length c0_0) := (zJ BK101.out 0).trans rfl
    have hfz102_0 := zL BK101.out 0
    go_wp2_with (first | ((with_reducible refine ze (f := 65) rfl ?_); refine qP (some 17) rfl rfl Try.func65 (by kernel_rfl) rfl #[.agg #[.slice A0_0 l0_0.length c0_0]] rfl (by (try simp only [yiy, yjy, yky]); first | done | rfl | (simp only [yly, ymy]; rfl)) ?_; (with_reducible refine (qF.calls _ _ l0_0 t105 _ ?side1 ?side2 A8.out).mono ?_); (case side1 => repeat (first | exact (Kd.qA HR0_0.out HB.out) | (with_reducible refine Kd.qB ?_ _) | (with_reducible refine Kd.qC ?_ _) | (with_reducible refine Kd.qW ?_))); (case side2 => exact HC0_0.out); rintro e w103 ⟨rfl, hb⟩; refine ⟨_, rfl, ?_⟩; have n0_ := zA.mk (Kd.qe (by (with_reducible repeat (first | apply Kd.zZ | apply Kd.za | apply Kd.zf)); exact HO_4.out) hb); have n1_ := zA.mk (zN (g := gb101) (o := .cells #[.slice A0_0 l0_0.length c0_0] 28 (0, 0)) (by (with_reducible repeat (first | refine zI ?_ _ | refine zK ?_ | refine zH ?_ _)); exact BK101.out) hb); have n2_ := zA.mk (zO (by repeat (first | (with_reducible first | exact HB.out | apply zD | apply zB | apply zE | refine zG ?_ GE101.out) | exact HB.out)) hb); clear HO_4; clear BK101; clear HB; have HO_4 := n0_; have BK101 := n1_; have HB := n2_; clear n0_ n1_ n2_; (try clear hb); (try clear hb2); (try clear hk); (try clear hi); obtain ⟨Ao104, co104, eo104⟩ := Kd.qv HO_4.out; subst eo104; have p106 : 0 ≤ (x5_1 : Int) := of_decide_eq_true (by first | (with_reducible assumption) | assumption); have q106 : x5_1 < (x4_1.length : Int) := of_decide_eq_true (by first | (with_reducible assumption) | assumption); obtain ⟨ad106, e106, hx106_0⟩ := Kd.qi (Kd.zj HO_4.out).2.2 x5_1 p106 q106; cases e106; replace p106 := eq_true p106; replace q106 := eq_true q106))
    go_roundg k1
    case measure => have := HK1.out; omega
    case rel => exact ⟨(x4_1), (wrap64 (x5_1 + 1)), (by first | rfl | (simp; done) | (simp [*]; done)), H', ⟨by have := HK1.out; omega⟩, ⟨by (with_reducible repeat (first | apply Kd.zZ | apply Kd.za | apply Kd.zf)); exact HO_4.out⟩, ⟨by (with_reducible repeat (first | refine zI ?_ _ | refine zK ?_ | refine zH ?_ _)); exact BK101.out⟩, ⟨by repeat (first | (with_reducible first | exact HB.out | apply zD | apply zB | apply zE | refine zG ?_ GE101.out) | exact HB.out)⟩⟩
   rw [if_pos c12] at H
   have c12b0 : ((rd x4_1 x5_1) == 0) = true := beq_iff_eq.mpr c12
   have c12b1 : ((rd x4_1 x5_1) != 0) = false := bne_eq_false_iff_eq.mpr c12
   clear c12
   obtain ⟨y107, hy107⟩ : ∃ y_ : List Int, y_ = (x4_1.set (x5_1 : Int).toNat 1) := ⟨_, rfl⟩
   replace H : (zR.l1 k1 y107 x5_1 (([x5_1] : List Int)) 0 l0_0) = some (r1, r2) := by first | (rw [hy107]; with_reducible exact H) | (have H2_ := (yfy _ _).symm.trans H; rw [hy107]; with_reducible exact H2_) | (have H2_ := (yfy _ _).symm.trans H; with_reducible exact H2_) | with_reducible exact H | (rw [hy107]; exact H) | exact H
   have Ny107 := zA.mk hy107
   clear hy107
   obtain ⟨y108, hy108⟩ : ∃ y_ : List Int, y_ = (([x5_1] : List Int)) := ⟨_, rfl⟩
   replace H : (zR.l1 k1 y107 x5_1 y108 0 l0_0) = some (r1, r2) := by first | (rw [hy108]; with_reducible exact H) | (have H2_ := (yfy _ _).symm.trans H; rw [hy108]; with_reducible exact H2_) | (have H2_ := (yfy _ _).symm.trans H; with_reducible exact H2_) | with_reducible exact H | (rw [hy108]; exact H) | exact H
   have Ny108 := zA.mk hy108
   clear hy108
   have H' := zA.mk H
   clear H
   have hcz14_0 : wr.cell? ⟨gb101, 0, none⟩ = some (.slice A0_0 l0_0.length c0_0) := (zJ BK101.out 0).trans rfl
   have hfz14_0 := zL BK101.out 0
   go_wp2_with (first | ((with_reducible refine ze (f := 65) rfl ?_); refine qP (some 17) rfl rfl Try.func65 (by kernel_rfl) rfl #[.agg #[.slice A0_0 l0_0.length c0_0]] rfl (by (try simp only [yiy, yjy, yky]); first | done | rfl | (simp only [yly, ymy]; rfl)) ?_; (with_reducible refine (qF.calls _ _ l0_0 t105 _ ?side1 ?side2 A8.out).mono ?_); (case side1 => repeat (first | exact (Kd.qA HR0_0.out HB.out) | (with_reducible refine Kd.qB ?_ _) | (with_reducible refine Kd.qC ?_ _) | (with_reducible refine Kd.qW ?_))); (case side2 => exact HC0_0.out); rintro e w15 ⟨rfl, hb⟩; refine ⟨_, rfl, ?_⟩; have n0_ := zA.mk (Kd.qe (by (with_reducible repeat (first | apply Kd.zZ | apply Kd.za | apply Kd.zf)); exact HO_4.out) hb); have n1_ := zA.mk (zN (g := gb101) (o := .cells #[.slice A0_0 l0_0.length c0_0] 28 (0, 0)) (by (with_reducible repeat (first | refine zI ?_ _ | refine zK ?_ | refine zH ?_ _)); exact BK101.out) hb); have n2_ := zA.mk (zO (by repeat (first | (with_reducible first | exact HB.out | apply zD | apply zB | apply zE | refine zG ?_ GE101.out) | exact HB.out)) hb); clear HO_4; clear BK101; clear HB; have HO_4 := n0_; have BK101 := n1_; have HB := n2_; clear n0_ n1_ n2_; (try clear hb); (try clear hb2); (try clear hk); (try clear hi); obtain ⟨Ao16, co16, eo16⟩ := Kd.qv HO_4.out; subst eo16; have p106 : 0 ≤ (x5_1 : Int) := of_decide_eq_true (by first | (with_reducible assumption) | assumption); have q106 : x5_1 < (x4_1.length : Int) := of_decide_eq_true (by first | (with_reducible assumption) | assumption); obtain ⟨ad106, e106, hx106_0⟩ := Kd.qi (Kd.zj HO_4.out).2.2 x5_1 p106 q106; cases e106; replace p106 := eq_true p106; replace q106 := eq_true q106; have p13 : 0 ≤ (x5_1 : Int) := of_decide_eq_true (by first | (with_reducible assumption) | assumption); have q13 : (x5_1 : Int) < ((x4_1.length : Int) : Int) := of_decide_eq_true (by first | (with_reducible assumption) | assumption); obtain ⟨go13, co13, eo13, gb13, gl13, cl13, HG13⟩ := Kd.JJ HO_4.out (by omega); (first | cases eo13 | (injection eo13 with ea_ en_ ec_; (first | subst ea_ | (injection ea_ with ea_; subst ea_)); subst ec_; clear en_)); have GB13 := zA.mk gb13; have GG13 := zA.mk HG13; clear gb13 gl13 HG13; (first | simp only [add_plain] at hx106_0 | skip); obtain ⟨hx13_0, hf13_0⟩ := Kd.QL 0 HO_4.out (x5_1 : Int) p13 q13; replace p13 := eq_true p13; replace q13 := eq_true q13; obtain ⟨hy17_, hz17_⟩ := Kd.QL 0 HO_4.out (x5_1 : Int) (of_decide_eq_true (by first | (with_reducible assumption) | assumption)) (of_decide_eq_true (by first | (with_reducible assumption) | assumption)); have HP17 := Kd.zAB HO_4.out (x5_1 : Int) 1) | ((with_reducible refine Zk (t := 2) (p := 28) rfl ?_); refine ZW (t := 2) (p := 28) (v := ?vo_w18) (w1 := (w15.setCell ⟨go13, (x5_1 : Int).toNat, none⟩ (.int .i64 1))) ?hg ?ho ?hn ?hr ?_; (case ho => rfl); (case hg => rfl); (case hn => rfl); (case hr => first | (go_simp; done) | (go_simp; rfl)); intro w18 hw; have hg : w15.grownBy w18 (some go13) := (by rw [hw]; exact HP17.2); have hp_ : Kd.R (Kd.int .i64) 2 w18 w.heap.size (fun _ => True) (.slice (some ⟨go13, 0, none⟩) x4_1.length co16) y107 := (by rw [hw, Ny107.out]; exact HP17.1); clear HP17; have n0_ := zA.mk (hp_); have n1_ := zA.mk (zu (g := gb101) (o := .cells #[.slice A0_0 l0_0.length c0_0] 28 (0, 0)) (by (with_reducible repeat (first | refine zI ?_ _ | refine zK ?_ | refine zH ?_ _)); exact BK101.out) hg (Kd.QA HO_4.out BK101.out (by decide))); have n2_ := zA.mk ((by rw [hw]; exact zG (HB.out) GB13.out : Below w.heap.size w w18)); clear HO_4; clear BK101; clear HB; have HO_4 := n0_; have BK101 := n1_; have HB := n2_; clear n0_ n1_ n2_; clear hg hw hp_) | ((with_reducible refine zm (N := 30) rfl ?_); refine Kd.zBI (Kd.int .i64) _ 2 ?hg (N := 30) ?hd (xs := ([x5_1] : List Int)) (inner := [.int .i64 x5_1]) (ok := fun _ => True) (okp := fun _ => True) ?hr ?hp (fun _ hk => hk) trivial (yqy _ _) (ypy _) (by simp) ?_; (case hd => rfl); (case hg => rfl); (case hr => first | (go_simp; done) | (go_simp; rfl)); (case hp => exact (Zs.one (show Kd.M (Kd.int .i64) _ _ _ x5_1 [.int .i64 x5_1] from rfl) (Zs.none _ _))); intro v109 w19 ho20 hb hg_ hnew_; clear hg_ hnew_; (first | rw [← Ny108.out] at ho20 | (simp only [Int.reduceToNat] at ho20; rw [← Ny108.out] at ho20)); have n0_ := zA.mk (Kd.QB (by (with_reducible repeat (first | apply Kd.zZ | apply Kd.za | apply Kd.zf)); exact HO_4.out) (Kd.QI ho20) hb); have n1_ := zA.mk (Kd.qy (Kd.JK ho20 (Kd.zAS (by (with_reducible repeat (first | apply Kd.zZ | apply Kd.za | apply Kd.zf)); exact HO_4.out))) (zP (by repeat (first | (with_reducible first | exact HB.out | apply zD | apply zB | apply zE | refine zG ?_ GE101.out) | exact HB.out)))); have n2_ := zA.mk (zN (g := gb101) (o := .cells #[.slice A0_0 l0_0.length c0_0] 28 (0, 0)) (by (with_reducible repeat (first | refine zI ?_ _ | refine zK ?_ | refine zH ?_ _)); exact BK101.out) hb); have n3_ := zA.mk (zO (by repeat (first | (with_reducible first | exact HB.out | apply zD | apply zB | apply zE | refine zG ?_ GE101.out) | exact HB.out)) hb); clear HO_4; clear BK101; clear HB; have HO_4 := n0_; have HO110 := n1_; have BK101 := n2_; have HB := n3_; clear n0_ n1_ n2_ n3_; clear hb ho20))
   go_loopg [6, 7] k1 (fun kq v6 v7 w' => ∃ (x4_2 : List Int) (x6_2 : List Int) (x7_2 : Int), v7 = .int .i64 x7_2 ∧ zA (zR.l1 kq x4_2 x5_1 x6_2 x7_2 l0_0 = some (r1, r2)) ∧ zA (kq ≤ k1) ∧ zA (Kd.R (Kd.int .i64) 2 w' w.heap.size (fun k_ => some k_ ≠ (v6 : Value).ownBlock) (.slice (some ⟨go13, 0, none⟩) x4_1.length co16) x4_2) ∧ zA (Kd.R (Kd.int .i64) 2 w' w.heap.size (fun k_ => some k_ ≠ ((.slice (some ⟨go13, 0, none⟩) x4_1.length co16) : Value).ownBlock) v6 x6_2) ∧ zA (w'.heap[gb101]? = some (.cells #[(.slice A0_0 l0_0.length c0_0)] 28 (0, 0))) ∧ zA (Below w.heap.size w w'))
   case atStart => exact ⟨(y107), (y108), (0), (by first | rfl | (simp; done) | (simp [*]; done)), H', ⟨ypy _⟩, ⟨by (with_reducible repeat (first | apply Kd.zZ | apply Kd.za | apply Kd.zf)); exact Kd.qR HO_4.out (fun _ hk => hk.2)⟩, ⟨by (with_reducible repeat (first | apply Kd.zZ | apply Kd.za | apply Kd.zf)); exact Kd.qR HO110.out (fun _ hk => hk.2)⟩, ⟨by (with_reducible repeat (first | refine zI ?_ _ | refine zK ?_ | refine zH ?_ _)); exact BK101.out⟩, ⟨by repeat (first | (with_reducible first | exact HB.out | apply zD | apply zB | apply zE | refine zG ?_ GE101.out) | exact HB.out)⟩⟩
   case round =>
    clear H'
    try clear c1
    try clear p1
    try clear q1
    try clear hx1
    try clear hf1
    try clear c2
    try clear c2b0
    try clear c2b1
    try clear p2
    try clear c3
    try clear c3b0
    try clear c3b1
    try clear c6
    try clear p6
    try clear c9
    try clear c9b0
    try clear c10
    try clear c10b0
    try clear p10
    try clear q10
    try clear hx10
    try clear c11
    try clear c11b0
    try clear c12
    try clear c12b0
    try clear c12b1
    try clear c13
    try clear p13
    try clear q13
    try clear hx13
    try clear hf13
    try clear hcz14_0
    try clear hcz5_0
    try clear hfz14_0
    try clear hfz5_0
    try clear hx106_0
    try clear hx13_0
    try clear p106
    try clear p13
    try clear p2
    try clear q106
    try clear q13
    obtain ⟨x4_2, x6_2, x7_2, rfl, HA, HK2, HO_4, HO_6, BK101, HB⟩ := hrel
    have hl4_2 := (Kd.zj HO_4.out).1
    rw [hl4_2] at HO_4
    (try simp only [hl4_2])
    (try simp only [hl4_2] at BK101)
    (try simp only [hl4_2] at HO_6)
    cases gk with
    | zero => exact absurd HA.out (by simp [zR.l1])
    | succ k2 =>
     have H := HA.out
     clear HA
     simp only [zR.l1] at H
     by_cases c21 : x7_2 < (x6_2.length : Int)
     rotate_left
     next =>
      rw [if_neg c21] at H
      have c21b0 : decide (x7_2 < (x6_2.length : Int)) = false := yhy c21
      (try simp only [hl4_2] at c21b0)
      clear c21
      have H' := zA.mk H
      clear H
      obtain ⟨Ao101, co101, eo101⟩ := Kd.qv HO_6.out
      subst eo101
      go_wp2
      (try simp only [← hl4_2])
      go_roundg k2
      case measure => have := HK1.out; have := HK2.out; omega
      case rel => exact ⟨(x4_2), (wrap64 (x5_1 + 1)), (by first | rfl | (simp; done) | (simp [*]; done)), H', ⟨by have := HK1.out; have := HK2.out; omega⟩, ⟨by (try simp only [hl4_2]); (with_reducible repeat (first | apply Kd.zZ | apply Kd.za | apply Kd.zf)); exact Kd.qR HO_4.out (fun _ hk => trivial)⟩, ⟨by (try simp only [hl4_2]); (with_reducible repeat (first | refine zI ?_ _ | refine zK ?_ | refine zH ?_ _)); exact BK101.out⟩, ⟨by repeat (first | (with_reducible first | exact HB.out | apply zD | apply zB | apply zE | refine zG ?_ GE101.out) | exact HB.out)⟩⟩
     rw [if_pos c21] at H
     have c21b0 : decide (x7_2 < (x6_2.length : Int)) = true := ygy c21
     clear c21
     have H' := zA.mk H
     clear H
     obtain ⟨Ao22, co22, eo22⟩ := Kd.qv HO_6.out
     subst eo22
     go_wp2
     go_loopg [6, 8] k2 (fun kq v6 v8 w' => ∃ (x4_3 : List Int) (x6_3 : List Int) (x8_3 : Int), v8 = .int .i64 x8_3 ∧ zA (zR.l2 kq x4_3 x5_1 x6_3 x7_2 x8_3 l0_0 = some (r1, r2)) ∧ zA (kq ≤ k2) ∧ zA (Kd.R (Kd.int .i64) 2 w' w.heap.size (fun k_ => some k_ ≠ (v6 : Value).ownBlock) (.slice (some ⟨go13, 0, none⟩) x4_2.length co16) x4_3) ∧ zA (Kd.R (Kd.int .i64) 2 w' w.heap.size (fun k_ => some k_ ≠ ((.slice (some ⟨go13, 0, none⟩) x4_2.length co16) : Value).ownBlock) v6 x6_3) ∧ zA (w'.heap[gb101]? = some (.cells #[(.slice A0_0 l0_0.length c0_0)] 28 (0, 0))) ∧ zA (Below w.heap.size w w'))
     case atStart => exact ⟨(x4_2), (x6_2), (0), (by first | rfl | (simp; done) | (simp [*]; done)), H', ⟨ypy _⟩, ⟨by (try simp only [hl4_2]); (with_reducible repeat (first | apply Kd.zZ | apply Kd.za | apply Kd.zf)); exact HO_4.out⟩, ⟨by (try simp only [hl4_2]); (with_reducible repeat (first | apply Kd.zZ | apply Kd.za | apply Kd.zf)); exact HO_6.out⟩, ⟨by (try simp only [hl4_2]); (with_reducible repeat (first | refine zI ?_ _ | refine zK ?_ | refine zH ?_ _)); exact BK101.out⟩, ⟨by repeat (first | (with_reducible first | exact HB.out | apply zD | apply zB | apply zE | refine zG ?_ GE101.out) | exact HB.out)⟩⟩
     case round =>
      clear H'
      try clear c1
      try clear p1
      try clear q1
      try clear hx1
      try clear hf1
      try clear c2
      try clear c2b0
      try clear c2b1
      try clear p2
      try clear c3
      try clear c3b0
      try clear c3b1
      try clear c6
      try clear p6
      try clear c9
      try clear c9b0
      try clear c10
      try clear c10b0
      try clear p10
      try clear q10
      try clear hx10
      try clear c11
      try clear c11b0
      try clear c12
      try clear c12b0
      try clear c12b1
      try clear c13
      try clear p13
      try clear q13
      try clear hx13
      try clear hf13
      try clear c21
      try clear c21b0
      try clear hcz14_0
      try clear hcz5_0
      try clear hfz14_0
      try clear hfz5_0
      try clear hx106_0
      try clear hx13_0
      try clear p1
      try clear p10
      try clear p106
      try clear p13
      try clear p2
      try clear p6
      try clear q1
      try clear q10
      try clear q106
      try clear q13
      obtain ⟨x4_3, x6_3, x8_3, rfl, HA, HK3, HO_4, HO_6, BK101, HB⟩ := hrel
      have hl4_3 := (Kd.zj HO_4.out).1
      rw [hl4_3] at HO_4
      (try simp only [hl4_3])
      (try simp only [hl4_3] at BK101)
      (try simp only [hl4_3] at HO_6)
      cases gk with
      | zero => exact absurd HA.out (by simp [zR.l2])
      | succ k3 =>
       have H := HA.out
       clear HA
       simp only [zR.l2] at H
       by_cases c23 : x8_3 < 4
       rotate_left
       next =>
        rw [if_neg c23] at H
        have c23b0 : decide (x8_3 < 4) = false := yhy c23
        (try simp only [hl4_2, hl4_3] at c23b0)
        clear c23
        have H' := zA.mk H
        clear H
        go_wp2
        (try simp only [← hl4_2, ← hl4_3])
        go_roundg k3
        case measure => have := HK1.out; have := HK2.out; have := HK3.out; omega
        case rel => exact ⟨(x4_3), (x6_3), (wrap64 (x7_2 + 1)), (by first | rfl | (simp; done) | (simp [*]; done)), H', ⟨by have := HK1.out; have := HK2.out; have := HK3.out; omega⟩, ⟨by (try simp only [hl4_2]); (try simp only [hl4_3]); (with_reducible repeat (first | apply Kd.zZ | apply Kd.za | apply Kd.zf)); exact HO_4.out⟩, ⟨by (try simp only [hl4_2]); (try simp only [hl4_3]); (with_reducible repeat (first | apply Kd.zZ | apply Kd.za | apply Kd.zf)); exact HO_6.out⟩, ⟨by (try simp only [hl4_2]); (try simp only [hl4_3]); (with_reducible repeat (first | refine zI ?_ _ | refine zK ?_ | refine zH ?_ _)); exact BK101.out⟩, ⟨by repeat (first | (with_reducible first | exact HB.out | apply zD | apply zB | apply zE | refine zG ?_ GE101.out) | exact HB.out)⟩⟩
       rw [if_pos c23] at H
       have c23b0 : decide (x8_3 < 4) = true := ygy c23
       clear c23
       by_cases c24 : 0 ≤ x7_2
       rotate_left
       next =>
        rw [if_neg c24] at H
        exact absurd H (by simp)
       rw [if_pos c24] at H
       have c24b0 : decide (0 ≤ x7_2) = true := ygy c24
       clear c24
       by_cases c25 : x7_2 < (x6_3.length : Int)
       rotate_left
       next =>
        rw [if_neg c25] at H
        exact absurd H (by simp)
       rw [if_pos c25] at H
       have c25b0 : decide (x7_2 < (x6_3.length : Int)) = true := ygy c25
       clear c25
       by_cases c26 : 0 ≤ (rd x6_3 x7_2)
       rotate_left
       next =>
        rw [if_neg c26] at H
        exact absurd H (by simp)
       rw [if_pos c26] at H
       have c26b0 : decide (0 ≤ (rd x6_3 x7_2)) = true := ygy c26
       clear c26
       by_cases c27 : (rd x6_3 x7_2) < (l0_0.length : Int)
       rotate_left
       next =>
        rw [if_neg c27] at H
        exact absurd H (by simp)
       rw [if_pos c27] at H
       have c27b0 : decide ((rd x6_3 x7_2) < (l0_0.length : Int)) = true := ygy c27
       clear c27
       by_cases c28 : 0 ≤ x8_3
       rotate_left
       next =>
        rw [if_neg c28] at H
        exact absurd H (by simp)
       rw [if_pos c28] at H
       have c28b0 : decide (0 ≤ x8_3) = true := ygy c28
       clear c28
       by_cases c29 : x8_3 < ((zC l0_0 (rd x6_3 x7_2)).length : Int)
       rotate_left
       next =>
        rw [if_neg c29] at H
        exact absurd H (by simp)
       rw [if_pos c29] at H
       have c29b0 : decide (x8_3 < ((zC l0_0 (rd x6_3 x7_2)).length : Int)) = true := ygy c29
       clear c29
       by_cases c30 : ((zF (zC l0_0 (rd x6_3 x7_2)) x8_3).f0) < 0
       next =>
        rw [if_pos c30] at H
        have c30b0 : decide (((zF (zC l0_0 (rd x6_3 x7_2)) x8_3).f0) < 0) = true := ygy c30
        clear c30
        have H' := zA.mk H
        clear H
        try go_wp2
        have n0_ := zA.mk (Kd.zf HO_4.out)
        have n1_ := zA.mk (Kd.zf HO_6.out)
        have n2_ := zA.mk (zK BK101.out)
        have n3_ := zA.mk (zE HB.out)
        clear HO_4
        clear HO_6
        clear BK101
        clear HB
        have HO_4 := n0_
        have HO_6 := n1_
        have BK101 := n2_
        have HB := n3_
        clear n0_ n1_ n2_ n3_
        obtain ⟨Ao32, co32, eo32⟩ := Kd.qv HO_6.out
        (first | subst eo32 | (injection eo32 with f1_ f2_ f3_; have f4_ := f1_.symm; have f5_ := f3_.symm; clear f1_ f2_ f3_; subst f4_; subst f5_))
        have p111 : 0 ≤ (x7_2 : Int) := of_decide_eq_true (by first | (with_reducible assumption) | assumption)
        have q111 : x7_2 < (x6_3.length : Int) := of_decide_eq_true (by first | (with_reducible assumption) | assumption)
        obtain ⟨ad111, e111, hx111_0⟩ := Kd.qi (Kd.zj HO_6.out).2.2 x7_2 p111 q111
        cases e111
        replace p111 := eq_true p111
        replace q111 := eq_true q111
        have p112 : 0 ≤ ((rd x6_3 x7_2) : Int) := of_decide_eq_true (by first | (with_reducible assumption) | assumption)
        have q112 : (rd x6_3 x7_2) < (l0_0.length : Int) := of_decide_eq_true (by first | (with_reducible assumption) | assumption)
        obtain ⟨ad112, A112_0, c112_0, e112, hx112_0, hl112_0, hi112_0⟩ := qt HR0_0.out (rd x6_3 x7_2) p112 q112
        have hw112_0 := hx112_0
        cases e112
        replace hx112_0 := (HB.out.cell (yoy w _ hx112_0)).trans hx112_0
        have HR112_0 := zA.mk hi112_0
        have HC112_0 := zA.mk hl112_0
        clear hi112_0 hl112_0
        replace p112 := eq_true p112
        replace q112 := eq_true q112
        have p113 : 0 ≤ (x8_3 : Int) := of_decide_eq_true (by first | (with_reducible assumption) | assumption)
        have q113 : x8_3 < ((zC l0_0 (rd x6_3 x7_2)).length : Int) := of_decide_eq_true (by first | (with_reducible assumption) | assumption)
        obtain ⟨ad113, e113, hx113_0, hx113_1⟩ := ZM HR112_0.out x8_3 p113 q113
        have hw113_1 := hx113_1
        have hw113_0 := hx113_0
        cases e113
        replace hx113_0 := (HB.out.cell (yoy w _ hx113_0)).trans hx113_0
        replace hx113_1 := (HB.out.cell (yoy w _ hx113_1)).trans hx113_1
        replace p113 := eq_true p113
        replace q113 := eq_true q113
        refine ZN (n := 13) (S := fun w' => w'.cell? ⟨gb101, 0, none⟩ = some (.slice (some ad112) l0_0.length c0_0) ∧ w'.cell? (ad111.add (x7_2).toNat) = some (.int .i64 (rd x6_3 x7_2)) ∧ w'.cell? (ad112.add ((rd x6_3 x7_2)).toNat) = some (.slice (some ad113) (zC l0_0 (rd x6_3 x7_2)).length c112_0) ∧ w'.cell? (ad113.add ((x8_3).toNat * 2)) = some (.int .i64 ((zF (zC l0_0 (rd x6_3 x7_2)) x8_3).f0)) ∧ w'.cell? ⟨(ad113.add ((x8_3).toNat * 2)).block, (ad113.add ((x8_3).toNat * 2)).off + 1, none⟩ = some (.int .i64 ((zF (zC l0_0 (rd x6_3 x7_2)) x8_3).f1))) (ds := []) #[false, false, false, false, false, false, false, false, false, false, false, false, false] (by kernel_rfl) rfl rfl ⟨(zJ BK101.out 0).trans rfl, hx111_0, ((HB.out.cell (yoy w _ hw112_0)).trans hw112_0), ((HB.out.cell (yoy w _ hw113_0)).trans hw113_0), ((HB.out.cell (yoy w _ hw113_1)).trans hw113_1)⟩ (fun hHeld => ?_); refine qx zR.zDc zR.zBp (fun HT_ HW_ => ?_)
        generalize wr.drew = w31 at HO_4 HO_6 BK101 HB HR112_0 hx111_0 hx112_0 hx113_0 hx113_1 hHeld ⊢
        refine zg (i := 0) (N := some 41) (v := ?_) (a' := ?_) #[true, false, false, false, false, false, false, false, false, false, false, false, false] rfl rfl (zb HT_.out (by kernel_rfl)) (fun _ _ _ h => h) (Or.inl ⟨by rfl, ?_⟩) ?_ ?_
        rotate_left
        next =>
         intro w'
         go_simp
         with_reducible rfl
        rotate_left
        next =>
         simp only [Act.put, yay, yby, ycy, zT, zU]
         rfl
        refine zg (i := 2) (N := some 43) (v := ?_) (a' := ?_) #[true, false, true, false, false, false, false, false, false, false, false, false, false] rfl rfl (zb HT_.out (by kernel_rfl)) (fun _ _ _ h => h) (Or.inl ⟨by rfl, ?_⟩) ?_ ?_
        rotate_left
        next =>
         intro w'
         go_simp
         with_reducible rfl
        rotate_left
        next =>
         simp only [Act.put, yay, yby, ycy, zT, zU]
         rfl
        refine zg (i := 3) (N := some 44) (v := ?_) (a' := ?_) #[true, false, true, true, false, false, false, false, false, false, false, false, false] rfl rfl (zb HT_.out (by kernel_rfl)) (fun _ _ _ h => h) (Or.inl ⟨by rfl, ?_⟩) ?_ ?_
        rotate_left
        next =>
         intro w'
         go_simp
         with_reducible rfl
        rotate_left
        next =>
         simp only [Act.put, yay, yby, ycy, zT, zU]
         rfl
        refine zg (i := 4) (N := some 45) (v := ?_) (a' := ?_) #[true, false, true, true, true, false, false, false, false, false, false, false, false] rfl rfl (zb HT_.out (by kernel_rfl)) (fun _ _ _ h => h) (Or.inl ⟨by rfl, ?_⟩) ?_ ?_
        rotate_left
        next =>
         intro w'
         go_simp
         with_reducible rfl
        rotate_left
        next =>
         simp only [Act.put, yay, yby, ycy, zT, zU]
         rfl
        refine zg (i := 8) (N := some 49) (v := ?_) (a' := ?_) #[true, false, true, true, true, false, false, false, true, false, false, false, false] rfl rfl (zb HT_.out (by kernel_rfl)) (fun _ _ _ h => h) (Or.inl ⟨by rfl, ?_⟩) ?_ ?_
        rotate_left
        next =>
         intro w'
         go_simp
         with_reducible rfl
        rotate_left
        next =>
         simp only [Act.put, yay, yby, ycy, zT, zU]
         rfl
        refine qQ (i := 1) (N := some 42) (v := ?_) (a' := ?_) #[true, true, true, true, true, false, false, false, true, false, false, false, false] rfl rfl (zn HT_.out HW_.out (by kernel_rfl)) (fun _ _ _ h => h) (Or.inl ⟨by rfl, ?_⟩) hHeld ?_ ?_
        rotate_left
        next =>
         rintro w' ⟨s0, s1, s2, s3, s4⟩
         go_simp
         with_reducible rfl
        rotate_left
        next =>
         simp only [Act.put, yay, yby, ycy, zT, zU]
         rfl
        refine qQ (i := 5) (N := some 46) (v := ?_) (a' := ?_) #[true, true, true, true, true, true, false, false, true, false, false, false, false] rfl rfl (zn HT_.out HW_.out (by kernel_rfl)) (fun _ _ _ h => h) (Or.inl ⟨by rfl, ?_⟩) hHeld ?_ ?_
        rotate_left
        next =>
         rintro w' ⟨s0, s1, s2, s3, s4⟩
         go_simp
         with_reducible rfl
        rotate_left
        next =>
         simp only [Act.put, yay, yby, ycy, zT, zU]
         rfl
        refine zg (i := 6) (N := some 47) (v := ?_) (a' := ?_) #[true, true, true, true, true, true, true, false, true, false, false, false, false] rfl rfl (zb HT_.out (by kernel_rfl)) (fun _ _ _ h => h) (Or.inl ⟨by rfl, ?_⟩) ?_ ?_
        rotate_left
        next =>
         intro w'
         go_simp
         with_reducible rfl
        rotate_left
        next =>
         simp only [Act.put, yay, yby, ycy, zT, zU]
         rfl
        refine qQ (i := 7) (N := some 48) (v := ?_) (a' := ?_) #[true, true, true, true, true, true, true, true, true, false, false, false, false] rfl rfl (zn HT_.out HW_.out (by kernel_rfl)) (fun _ _ _ h => h) (Or.inl ⟨by rfl, ?_⟩) hHeld ?_ ?_
        rotate_left
        next =>
         rintro w' ⟨s0, s1, s2, s3, s4⟩
         go_simp
         with_reducible rfl
        rotate_left
        next =>
         simp only [Act.put, yay, yby, ycy, zT, zU]
         rfl
        refine zg (i := 9) (N := some 50) (v := ?_) (a' := ?_) #[true, true, true, true, true, true, true, true, true, true, false, false, false] rfl rfl (zb HT_.out (by kernel_rfl)) (fun _ _ _ h => h) (Or.inl ⟨by rfl, ?_⟩) ?_ ?_
        rotate_left
        next =>
         intro w'
         go_simp
         with_reducible rfl
        rotate_left
        next =>
         simp only [Act.put, yay, yby, ycy, zT, zU]
         rfl
        refine qQ (i := 10) (N := some 51) (v := ?_) (a' := ?_) #[true, true, true, true, true, true, true, true, true, true, true, false, false] rfl rfl (zn HT_.out HW_.out (by kernel_rfl)) (fun _ _ _ h => h) (Or.inl ⟨by rfl, ?_⟩) hHeld ?_ ?_
        rotate_left
        next =>
         rintro w' ⟨s0, s1, s2, s3, s4⟩
         go_simp
         with_reducible rfl
        rotate_left
        next =>
         simp only [Act.put, yay, yby, ycy, zT, zU]
         rfl
        refine QH (i := 11) (N := some 9) #[true, true, true, true, true, true, true, true, true, true, true, true, false] rfl rfl (ZF HT_.out (by kernel_rfl)) (by decide) (fun K hK => ?_)
        refine Jo ?hg (N := 9) ?hd (cs := #[.int .i64 0, .int .i64 0]) (t := 74) ?hr ?_; (case hd => rfl); (case hg => rfl); (case hr => first | (go_simp; done) | (go_simp; rfl))
        intro gb114 hg w33 hbox hb
        have HS1_ := (hb.cell (yoy _ _ (hHeld.2.1))).trans (hHeld.2.1)
        have n0_ := zA.mk (Kd.qe (by (with_reducible repeat (first | apply Kd.zZ | apply Kd.za | apply Kd.zf)); exact HO_4.out) hb)
        have n1_ := zA.mk (Kd.qe (by (with_reducible repeat (first | apply Kd.zZ | apply Kd.za | apply Kd.zf)); exact HO_6.out) hb)
        have n2_ := zA.mk (zN (g := gb101) (o := .cells #[.slice (some ad112) l0_0.length c0_0] 28 (0, 0)) (by (with_reducible repeat (first | refine zI ?_ _ | refine zK ?_ | refine zH ?_ _)); exact BK101.out) hb)
        have n3_ := zA.mk (zO (by repeat (first | (with_reducible first | exact HB.out | apply zD | apply zB | apply zE | refine zG ?_ GE101.out) | exact HB.out)) hb)
        have n4_ := zA.mk (hbox)
        have n5_ := zA.mk ((by rw [hg]; exact (zP (by repeat (first | (with_reducible first | exact HB.out | apply zD | apply zB | apply zE | refine zG ?_ GE101.out) | exact HB.out))) : w.heap.size ≤ gb114))
        have n6_ := zA.mk ((by rw [hg]; exact (zP (by repeat (first | (with_reducible first | exact HB.out | apply zD | apply zB | apply zE | refine zG ?_ GE101.out) | exact HB.out))) : w.heap.size ≤ gb114))
        have n7_ := zA.mk ((by rw [hg]; exact Nat.ne_of_lt (qE (g := gb101) (o := .cells #[.slice (some ad112) l0_0.length c0_0] 28 (0, 0)) (by (with_reducible repeat (first | refine zI ?_ _ | refine zK ?_ | refine zH ?_ _)); exact BK101.out)) : gb101 ≠ gb114))
        have n8_ := zA.mk ((by rw [hg]; exact Nat.ne_of_gt (qE (g := gb101) (o := .cells #[.slice (some ad112) l0_0.length c0_0] 28 (0, 0)) (by (with_reducible repeat (first | refine zI ?_ _ | refine zK ?_ | refine zH ?_ _)); exact BK101.out)) : gb114 ≠ gb101))
        clear HO_4
        clear HO_6
        clear BK101
        clear HB
        have HO_4 := n0_
        have HO_6 := n1_
        have BK101 := n2_
        have HB := n3_
        have BK114 := n4_
        have GW114 := n5_
        have GE114 := n6_
        have NB101_114 := n7_
        have NB114_101 := n8_
        clear n0_ n1_ n2_ n3_ n4_ n5_ n6_ n7_ n8_
        clear hb hbox hg
        refine hK.out _ _ ⟨(zJ BK101.out 0).trans rfl, HS1_, ((HB.out.cell (yoy w _ hw112_0)).trans hw112_0), ((HB.out.cell (yoy w _ hw113_0)).trans hw113_0), ((HB.out.cell (yoy w _ hw113_1)).trans hw113_1)⟩ (fun hHeld => ?_)
        clear hK K
        refine ZQ (a' := ?_) ?_ ?_
        rotate_left
        next =>
         show Act.put _ (some 9) _ = _
         simp only [Act.put, yay, yby, ycy, zT, zU]
         rfl
        refine QH (i := 12) (N := none) #[true, true, true, true, true, true, true, true, true, true, true, true, true] rfl rfl (ZF HT_.out (by kernel_rfl)) (by decide) (fun K hK => ?_)
        have hs34 : w33.cell? ⟨gb114, 0, none⟩ = some (.int .i64 0) := (zJ BK114.out 0).trans rfl
        have hfs34 := zL BK114.out 0
        have hns34_0 := NB101_114.out
        have hms34_0 := NB114_101.out
        have hs35 : w33.cell? ⟨gb114, 1, none⟩ = some (.int .i64 0) := (zJ BK114.out 1).trans rfl
        have hfs35 := zL BK114.out 1
        have hns35_0 := NB101_114.out
        have hms35_0 := NB114_101.out
        refine zAJ (w1 := ?_) (by rfl) rfl ?_ ?_
        rotate_left
        next =>
         go_simp
         rfl
        refine hK.out _ _ ⟨((cell_far (p := ⟨gb114, _, none⟩) NB101_114.out _).trans (((cell_far (p := ⟨gb114, _, none⟩) NB101_114.out _).trans (hHeld.1)))), ((cell_far (p := ⟨gb114, _, none⟩) (by first | exact Kd.qj (Kd.QA HO_6.out BK114.out (by decide)) | (rw [zQ]; exact Kd.qj (Kd.QA HO_6.out BK114.out (by decide))) | (show (Addr.add _ _).block ≠ _; rw [zQ]; exact Kd.qj (Kd.QA HO_6.out BK114.out (by decide))) | (dsimp only; exact Kd.qj (Kd.QA HO_6.out BK114.out (by decide)))) _).trans (((cell_far (p := ⟨gb114, _, none⟩) (by first | exact Kd.qj (Kd.QA HO_6.out BK114.out (by decide)) | (rw [zQ]; exact Kd.qj (Kd.QA HO_6.out BK114.out (by decide))) | (show (Addr.add _ _).block ≠ _; rw [zQ]; exact Kd.qj (Kd.QA HO_6.out BK114.out (by decide))) | (dsimp only; exact Kd.qj (Kd.QA HO_6.out BK114.out (by decide)))) _).trans (hHeld.2.1)))), ((cell_far (p := ⟨gb114, _, none⟩) (by first | exact Nat.ne_of_lt (Nat.lt_of_lt_of_le (by have := yoy _ _ hw112_0; first | rwa [zQ] at this | exact this) GW114.out) | (rw [zQ]; exact Nat.ne_of_lt (Nat.lt_of_lt_of_le (by have := yoy _ _ hw112_0; first | rwa [zQ] at this | exact this) GW114.out)) | (show (Addr.add _ _).block ≠ _; rw [zQ]; exact Nat.ne_of_lt (Nat.lt_of_lt_of_le (by have := yoy _ _ hw112_0; first | rwa [zQ] at this | exact this) GW114.out)) | (dsimp only; exact Nat.ne_of_lt (Nat.lt_of_lt_of_le (by have := yoy _ _ hw112_0; first | rwa [zQ] at this | exact this) GW114.out))) _).trans (((cell_far (p := ⟨gb114, _, none⟩) (by first | exact Nat.ne_of_lt (Nat.lt_of_lt_of_le (by have := yoy _ _ hw112_0; first | rwa [zQ] at this | exact this) GW114.out) | (rw [zQ]; exact Nat.ne_of_lt (Nat.lt_of_lt_of_le (by have := yoy _ _ hw112_0; first | rwa [zQ] at this | exact this) GW114.out)) | (show (Addr.add _ _).block ≠ _; rw [zQ]; exact Nat.ne_of_lt (Nat.lt_of_lt_of_le (by have := yoy _ _ hw112_0; first | rwa [zQ] at this | exact this) GW114.out)) | (dsimp only; exact Nat.ne_of_lt (Nat.lt_of_lt_of_le (by have := yoy _ _ hw112_0; first | rwa [zQ] at this | exact this) GW114.out))) _).trans (hHeld.2.2.1)))), ((cell_far (p := ⟨gb114, _, none⟩) (by first | exact Nat.ne_of_lt (Nat.lt_of_lt_of_le (by have := yoy _ _ hw113_0; first | rwa [zQ] at this | exact this) GW114.out) | (rw [zQ]; exact Nat.ne_of_lt (Nat.lt_of_lt_of_le (by have := yoy _ _ hw113_0; first | rwa [zQ] at this | exact this) GW114.out)) | (show (Addr.add _ _).block ≠ _; rw [zQ]; exact Nat.ne_of_lt (Nat.lt_of_lt_of_le (by have := yoy _ _ hw113_0; first | rwa [zQ] at this | exact this) GW114.out)) | (dsimp only; exact Nat.ne_of_lt (Nat.lt_of_lt_of_le (by have := yoy _ _ hw113_0; first | rwa [zQ] at this | exact this) GW114.out))) _).trans (((cell_far (p := ⟨gb114, _, none⟩) (by first | exact Nat.ne_of_lt (Nat.lt_of_lt_of_le (by have := yoy _ _ hw113_0; first | rwa [zQ] at this | exact this) GW114.out) | (rw [zQ]; exact Nat.ne_of_lt (Nat.lt_of_lt_of_le (by have := yoy _ _ hw113_0; first | rwa [zQ] at this | exact this) GW114.out)) | (show (Addr.add _ _).block ≠ _; rw [zQ]; exact Nat.ne_of_lt (Nat.lt_of_lt_of_le (by have := yoy _ _ hw113_0; first | rwa [zQ] at this | exact this) GW114.out)) | (dsimp only; exact Nat.ne_of_lt (Nat.lt_of_lt_of_le (by have := yoy _ _ hw113_0; first | rwa [zQ] at this | exact this) GW114.out))) _).trans (hHeld.2.2.2.1)))), ((cell_far (p := ⟨gb114, _, none⟩) (by first | exact Nat.ne_of_lt (Nat.lt_of_lt_of_le (by have := yoy _ _ hw113_1; first | rwa [zQ] at this | exact this) GW114.out) | (rw [zQ]; exact Nat.ne_of_lt (Nat.lt_of_lt_of_le (by have := yoy _ _ hw113_1; first | rwa [zQ] at this | exact this) GW114.out)) | (show (Addr.add _ _).block ≠ _; rw [zQ]; exact Nat.ne_of_lt (Nat.lt_of_lt_of_le (by have := yoy _ _ hw113_1; first | rwa [zQ] at this | exact this) GW114.out)) | (dsimp only; exact Nat.ne_of_lt (Nat.lt_of_lt_of_le (by have := yoy _ _ hw113_1; first | rwa [zQ] at this | exact this) GW114.out))) _).trans (((cell_far (p := ⟨gb114, _, none⟩) (by first | exact Nat.ne_of_lt (Nat.lt_of_lt_of_le (by have := yoy _ _ hw113_1; first | rwa [zQ] at this | exact this) GW114.out) | (rw [zQ]; exact Nat.ne_of_lt (Nat.lt_of_lt_of_le (by have := yoy _ _ hw113_1; first | rwa [zQ] at this | exact this) GW114.out)) | (show (Addr.add _ _).block ≠ _; rw [zQ]; exact Nat.ne_of_lt (Nat.lt_of_lt_of_le (by have := yoy _ _ hw113_1; first | rwa [zQ] at this | exact this) GW114.out)) | (dsimp only; exact Nat.ne_of_lt (Nat.lt_of_lt_of_le (by have := yoy _ _ hw113_1; first | rwa [zQ] at this | exact this) GW114.out))) _).trans (hHeld.2.2.2.2))))⟩ (fun hHeld => ?_)
        clear hK K
        refine Zo (ZS HT_.out (by kernel_rfl)) ?_
        have hnb36 := NB114_101.out
        have hnc36 := NB101_114.out
        have hcz37_0 : w33.cell? ⟨gb114, 0, none⟩ = some (.int .i64 0) := (zJ BK114.out 0).trans rfl
        have hcz37_1 : w33.cell? ⟨gb114, 1, none⟩ = some (.int .i64 0) := (zJ BK114.out 1).trans rfl
        have hfz37_0 := zL BK114.out 0
        have hfz37_1 := zL BK114.out 1
        try go_wp2
        (try simp only [← hl4_3])
        go_roundg k3
        case measure => have := HK1.out; have := HK2.out; have := HK3.out; omega
        case rel => exact ⟨(x4_3), (x6_3), (wrap64 (x8_3 + 1)), (by first | rfl | (simp; done) | (simp [*]; done)), H', ⟨by have := HK1.out; have := HK2.out; have := HK3.out; omega⟩, ⟨by (try simp only [hl4_2]); (try simp only [hl4_3]); (with_reducible repeat (first | apply Kd.zZ | apply Kd.za | apply Kd.zf)); exact Kd.qR (Kd.QG (p := ⟨gb114, 1, none⟩) (Kd.QG (p := ⟨gb114, 0, none⟩) (Kd.QX HO_4.out BK114.out (by decide)) (fun _ hk => hk.2) (.int .i64 ((zF (zC l0_0 (rd x6_3 x7_2)) x8_3).f0))) (fun _ hk => hk.2) (.int .i64 ((zF (zC l0_0 (rd x6_3 x7_2)) x8_3).f1))) (fun _ hk => hk.1)⟩, ⟨by (try simp only [hl4_2]); (try simp only [hl4_3]); (with_reducible repeat (first | apply Kd.zZ | apply Kd.za | apply Kd.zf)); exact Kd.qR (Kd.QG (p := ⟨gb114, 1, none⟩) (Kd.QG (p := ⟨gb114, 0, none⟩) (Kd.QX HO_6.out BK114.out (by decide)) (fun _ hk => hk.2) (.int .i64 ((zF (zC l0_0 (rd x6_3 x7_2)) x8_3).f0))) (fun _ hk => hk.2) (.int .i64 ((zF (zC l0_0 (rd x6_3 x7_2)) x8_3).f1))) (fun _ hk => hk.1)⟩, ⟨by (try simp only [hl4_2]); (try simp only [hl4_3]); (with_reducible repeat (first | refine zI ?_ _ | refine zK ?_ | refine zH ?_ _)); refine zv ?_ NB101_114.out _; (with_reducible repeat (first | refine zI ?_ _ | refine zK ?_ | refine zH ?_ _)); refine zv ?_ NB101_114.out _; (with_reducible repeat (first | refine zI ?_ _ | refine zK ?_ | refine zH ?_ _)); exact BK101.out⟩, ⟨by repeat (first | (with_reducible first | exact HB.out | apply zD | apply zB | apply zE | refine zG ?_ GE101.out | refine zG ?_ GE114.out) | exact HB.out)⟩⟩
       next =>
        rw [if_neg c30] at H
        have c30b0 : decide (((zF (zC l0_0 (rd x6_3 x7_2)) x8_3).f0) < 0) = false := yhy c30
        (try simp only [hl4_2, hl4_3] at c30b0)
        clear c30
        by_cases c38 : (rd x6_3 x7_2) < (x4_3.length : Int)
        rotate_left
        next =>
         rw [if_neg c38] at H
         exact absurd H (by simp)
        rw [if_pos c38] at H
        have c38b0 : decide ((rd x6_3 x7_2) < (x4_3.length : Int)) = true := ygy c38
        clear c38
        replace H := ydy.mp H
        obtain ⟨t117, A390, H⟩ := H
        replace H : (if 0 ≤ ((zF (zC l0_0 (rd x6_3 x7_2)) x8_3).f0) then (if ((zF (zC l0_0 (rd x6_3 x7_2)) x8_3).f0) < (x4_3.length : Int) then (if (rd x4_3 ((zF (zC l0_0 (rd x6_3 x7_2)) x8_3).f0)) = 0 then ((some (x4_3.set (((zF (zC l0_0 (rd x6_3 x7_2)) x8_3).f0) : Int).toNat (wrap64 ((wrap64 (-(rd x4_3 (rd x6_3 x7_2)))) * t117)) : List Int)).bind fun y119 => (if x6_3.length < 17592186044416 then (if (rd y119 ((zF (zC l0_0 (rd x6_3 x7_2)) x8_3).f0)) = (wrap64 ((wrap64 (-(rd x4_3 (rd x6_3 x7_2)))) * t117)) then (zR.l2 k3 y119 x5_1 (x6_3 ++ [(zF (zC l0_0 (rd x6_3 x7_2)) x8_3).f0]) x7_2 (wrap64 (x8_3 + 1)) l0_0) else (some (([] : List Int), false))) else (none))) else (if (rd x4_3 ((zF (zC l0_0 (rd x6_3 x7_2)) x8_3).f0)) = (wrap64 ((wrap64 (-(rd x4_3 (rd x6_3 x7_2)))) * t117)) then (zR.l2 k3 x4_3 x5_1 x6_3 x7_2 (wrap64 (x8_3 + 1)) l0_0) else (some (([] : List Int), false)))) else (none)) else (none)) = some (r1, r2) := H
        have A39 := zA.mk A390
        clear A390
        by_cases c40 : 0 ≤ ((zF (zC l0_0 (rd x6_3 x7_2)) x8_3).f0)
        rotate_left
        next =>
         rw [if_neg c40] at H
         exact absurd H (by simp)
        rw [if_pos c40] at H
        have c40b0 : decide (0 ≤ ((zF (zC l0_0 (rd x6_3 x7_2)) x8_3).f0)) = true := ygy c40
        clear c40
        by_cases c41 : ((zF (zC l0_0 (rd x6_3 x7_2)) x8_3).f0) < (x4_3.length : Int)
        rotate_left
        next =>
         rw [if_neg c41] at H
         exact absurd H (by simp)
        rw [if_pos c41] at H
        have c41b0 : decide (((zF (zC l0_0 (rd x6_3 x7_2)) x8_3).f0) < (x4_3.length : Int)) = true := ygy c41
        clear c41
        by_cases c42 : (rd x4_3 ((zF (zC l0_0 (rd x6_3 x7_2)) x8_3).f0)) = 0
        next =>
         rw [if_pos c42] at H
         have c42b0 : ((rd x4_3 ((zF (zC l0_0 (rd x6_3 x7_2)) x8_3).f0)) == 0) = true := beq_iff_eq.mpr c42
         have c42b1 : ((rd x4_3 ((zF (zC l0_0 (rd x6_3 x7_2)) x8_3).f0)) != 0) = false := bne_eq_false_iff_eq.mpr c42
         clear c42
         obtain ⟨y119, hy119⟩ : ∃ y_ : List Int, y_ = (x4_3.set (((zF (zC l0_0 (rd x6_3 x7_2)) x8_3).f0) : Int).toNat (wrap64 ((wrap64 (-(rd x4_3 (rd x6_3 x7_2)))) * t117))) := ⟨_, rfl⟩
         replace H : (if x6_3.length < 17592186044416 then (if (rd y119 ((zF (zC l0_0 (rd x6_3 x7_2)) x8_3).f0)) = (wrap64 ((wrap64 (-(rd x4_3 (rd x6_3 x7_2)))) * t117)) then (zR.l2 k3 y119 x5_1 (x6_3 ++ [(zF (zC l0_0 (rd x6_3 x7_2)) x8_3).f0]) x7_2 (wrap64 (x8_3 + 1)) l0_0) else (some (([] : List Int), false))) else (none)) = some (r1, r2) := by first | (rw [hy119]; with_reducible exact H) | (have H2_ := (yfy _ _).symm.trans H; rw [hy119]; with_reducible exact H2_) | (have H2_ := (yfy _ _).symm.trans H; with_reducible exact H2_) | with_reducible exact H | (rw [hy119]; exact H) | exact H
         have Ny119 := zA.mk hy119
         clear hy119
         by_cases c44 : x6_3.length < 17592186044416
         rotate_left
         next =>
          rw [if_neg c44] at H
          exact absurd H (by simp)
         rw [if_pos c44] at H
         have LMc44 := zA.mk c44
         clear c44
         obtain ⟨y120, hy120⟩ : ∃ y_ : List Int, y_ = (x6_3 ++ [(zF (zC l0_0 (rd x6_3 x7_2)) x8_3).f0]) := ⟨_, rfl⟩
         replace H : (if (rd y119 ((zF (zC l0_0 (rd x6_3 x7_2)) x8_3).f0)) = (wrap64 ((wrap64 (-(rd x4_3 (rd x6_3 x7_2)))) * t117)) then (zR.l2 k3 y119 x5_1 y120 x7_2 (wrap64 (x8_3 + 1)) l0_0) else (some (([] : List Int), false))) = some (r1, r2) := by first | (rw [hy120]; with_reducible exact H) | (have H2_ := (yfy _ _).symm.trans H; rw [hy120]; with_reducible exact H2_) | (have H2_ := (yfy _ _).symm.trans H; with_reducible exact H2_) | with_reducible exact H | (rw [hy120]; exact H) | exact H
         have Ny120 := zA.mk hy120
         clear hy120
         by_cases c45 : (rd y119 ((zF (zC l0_0 (rd x6_3 x7_2)) x8_3).f0)) = (wrap64 ((wrap64 (-(rd x4_3 (rd x6_3 x7_2)))) * t117))
         next =>
          rw [if_pos c45] at H
          have c45b0 : ((rd y119 ((zF (zC l0_0 (rd x6_3 x7_2)) x8_3).f0)) == (wrap64 ((wrap64 (-(rd x4_3 (rd x6_3 x7_2)))) * t117))) = true := beq_iff_eq.mpr c45
          have c45b1 : ((rd y119 ((zF (zC l0_0 (rd x6_3 x7_2)) x8_3).f0)) != (wrap64 ((wrap64 (-(rd x4_3 (rd x6_3 x7_2)))) * t117))) = false := bne_eq_false_iff_eq.mpr c45
          clear c45
          have H' := zA.mk H
          clear H
          try go_wp2
          have n0_ := zA.mk (Kd.zf HO_4.out)
          have n1_ := zA.mk (Kd.zf HO_6.out)
          have n2_ := zA.mk (zK BK101.out)
          have n3_ := zA.mk (zE HB.out)
          clear HO_4
          clear HO_6
          clear BK101
          clear HB
          have HO_4 := n0_
          have HO_6 := n1_
          have BK101 := n2_
          have HB := n3_
          clear n0_ n1_ n2_ n3_
          obtain ⟨Ao47, co47, eo47⟩ := Kd.qv HO_6.out
          (first | subst eo47 | (injection eo47 with f1_ f2_ f3_; have f4_ := f1_.symm; have f5_ := f3_.symm; clear f1_ f2_ f3_; subst f4_; subst f5_))
          have p111 : 0 ≤ (x7_2 : Int) := of_decide_eq_true (by first | (with_reducible assumption) | assumption)
          have q111 : x7_2 < (x6_3.length : Int) := of_decide_eq_true (by first | (with_reducible assumption) | assumption)
          obtain ⟨ad111, e111, hx111_0⟩ := Kd.qi (Kd.zj HO_6.out).2.2 x7_2 p111 q111
          cases e111
          replace p111 := eq_true p111
          replace q111 := eq_true q111
          have p112 : 0 ≤ ((rd x6_3 x7_2) : Int) := of_decide_eq_true (by first | (with_reducible assumption) | assumption)
          have q112 : (rd x6_3 x7_2) < (l0_0.length : Int) := of_decide_eq_true (by first | (with_reducible assumption) | assumption)
          obtain ⟨ad112, A112_0, c112_0, e112, hx112_0, hl112_0, hi112_0⟩ := qt HR0_0.out (rd x6_3 x7_2) p112 q112
          have hw112_0 := hx112_0
          cases e112
          replace hx112_0 := (HB.out.cell (yoy w _ hx112_0)).trans hx112_0
          have HR112_0 := zA.mk hi112_0
          have HC112_0 := zA.mk hl112_0
          clear hi112_0 hl112_0
          replace p112 := eq_true p112
          replace q112 := eq_true q112
          have p113 : 0 ≤ (x8_3 : Int) := of_decide_eq_true (by first | (with_reducible assumption) | assumption)
          have q113 : x8_3 < ((zC l0_0 (rd x6_3 x7_2)).length : Int) := of_decide_eq_true (by first | (with_reducible assumption) | assumption)
          obtain ⟨ad113, e113, hx113_0, hx113_1⟩ := ZM HR112_0.out x8_3 p113 q113
          have hw113_1 := hx113_1
          have hw113_0 := hx113_0
          cases e113
          replace hx113_0 := (HB.out.cell (yoy w _ hx113_0)).trans hx113_0
          replace hx113_1 := (HB.out.cell (yoy w _ hx113_1)).trans hx113_1
          replace p113 := eq_true p113
          replace q113 := eq_true q113
          refine ZN (n := 13) (S := fun w' => w'.cell? ⟨gb101, 0, none⟩ = some (.slice (some ad112) l0_0.length c0_0) ∧ w'.cell? (ad111.add (x7_2).toNat) = some (.int .i64 (rd x6_3 x7_2)) ∧ w'.cell? (ad112.add ((rd x6_3 x7_2)).toNat) = some (.slice (some ad113) (zC l0_0 (rd x6_3 x7_2)).length c112_0) ∧ w'.cell? (ad113.add ((x8_3).toNat * 2)) = some (.int .i64 ((zF (zC l0_0 (rd x6_3 x7_2)) x8_3).f0)) ∧ w'.cell? ⟨(ad113.add ((x8_3).toNat * 2)).block, (ad113.add ((x8_3).toNat * 2)).off + 1, none⟩ = some (.int .i64 ((zF (zC l0_0 (rd x6_3 x7_2)) x8_3).f1))) (ds := []) #[false, false, false, false, false, false, false, false, false, false, false, false, false] (by kernel_rfl) rfl rfl ⟨(zJ BK101.out 0).trans rfl, hx111_0, ((HB.out.cell (yoy w _ hw112_0)).trans hw112_0), ((HB.out.cell (yoy w _ hw113_0)).trans hw113_0), ((HB.out.cell (yoy w _ hw113_1)).trans hw113_1)⟩ (fun hHeld => ?_); refine qx zR.zDc zR.zBp (fun HT_ HW_ => ?_)
          generalize wr.drew = w46 at HO_4 HO_6 BK101 HB HR112_0 hx111_0 hx112_0 hx113_0 hx113_1 hHeld ⊢
          refine zg (i := 0) (N := some 41) (v := ?_) (a' := ?_) #[true, false, false, false, false, false, false, false, false, false, false, false, false] rfl rfl (zb HT_.out (by kernel_rfl)) (fun _ _ _ h => h) (Or.inl ⟨by rfl, ?_⟩) ?_ ?_
          rotate_left
          next =>
           intro w'
           go_simp
           with_reducible rfl
          rotate_left
          next =>
           simp only [Act.put, yay, yby, ycy, zT, zU]
           rfl
          refine zg (i := 2) (N := some 43) (v := ?_) (a' := ?_) #[true, false, true, false, false, false, false, false, false, false, false, false, false] rfl rfl (zb HT_.out (by kernel_rfl)) (fun _ _ _ h => h) (Or.inl ⟨by rfl, ?_⟩) ?_ ?_
          rotate_left
          next =>
           intro w'
           go_simp
           with_reducible rfl
          rotate_left
          next =>
           simp only [Act.put, yay, yby, ycy, zT, zU]
           rfl
          refine zg (i := 3) (N := some 44) (v := ?_) (a' := ?_) #[true, false, true, true, false, false, false, false, false, false, false, false, false] rfl rfl (zb HT_.out (by kernel_rfl)) (fun _ _ _ h => h) (Or.inl ⟨by rfl, ?_⟩) ?_ ?_
          rotate_left
          next =>
           intro w'
           go_simp
           with_reducible rfl
          rotate_left
          next =>
           simp only [Act.put, yay, yby, ycy, zT, zU]
           rfl
          refine zg (i := 4) (N := some 45) (v := ?_) (a' := ?_) #[true, false, true, true, true, false, false, false, false, false, false, false, false] rfl rfl (zb HT_.out (by kernel_rfl)) (fun _ _ _ h => h) (Or.inl ⟨by rfl, ?_⟩) ?_ ?_
          rotate_left
          next =>
           intro w'
           go_simp
           with_reducible rfl
          rotate_left
          next =>
           simp only [Act.put, yay, yby, ycy, zT, zU]
           rfl
          refine zg (i := 8) (N := some 49) (v := ?_) (a' := ?_) #[true, false, true, true, true, false, false, false, true, false, false, false, false] rfl rfl (zb HT_.out (by kernel_rfl)) (fun _ _ _ h => h) (Or.inl ⟨by rfl, ?_⟩) ?_ ?_
          rotate_left
          next =>
           intro w'
           go_simp
           with_reducible rfl
          rotate_left
          next =>
           simp only [Act.put, yay, yby, ycy, zT, zU]
           rfl
          refine qQ (i := 1) (N := some 42) (v := ?_) (a' := ?_) #[true, true, true, true, true, false, false, false, true, false, false, false, false] rfl rfl (zn HT_.out HW_.out (by kernel_rfl)) (fun _ _ _ h => h) (Or.inl ⟨by rfl, ?_⟩) hHeld ?_ ?_
          rotate_left
          next =>
           rintro w' ⟨s0, s1, s2, s3, s4⟩
           go_simp
           with_reducible rfl
          rotate_left
          next =>
           simp only [Act.put, yay, yby, ycy, zT, zU]
           rfl
          refine qQ (i := 5) (N := some 46) (v := ?_) (a' := ?_) #[true, true, true, true, true, true, false, false, true, false, false, false, false] rfl rfl (zn HT_.out HW_.out (by kernel_rfl)) (fun _ _ _ h => h) (Or.inl ⟨by rfl, ?_⟩) hHeld ?_ ?_
          rotate_left
          next =>
           rintro w' ⟨s0, s1, s2, s3, s4⟩
           go_simp
           with_reducible rfl
          rotate_left
          next =>
           simp only [Act.put, yay, yby, ycy, zT, zU]
           rfl
          refine zg (i := 6) (N := some 47) (v := ?_) (a' := ?_) #[true, true, true, true, true, true, true, false, true, false, false, false, false] rfl rfl (zb HT_.out (by kernel_rfl)) (fun _ _ _ h => h) (Or.inl ⟨by rfl, ?_⟩) ?_ ?_
          rotate_left
          next =>
           intro w'
           go_simp
           with_reducible rfl
          rotate_left
          next =>
           simp only [Act.put, yay, yby, ycy, zT, zU]
           rfl
          refine qQ (i := 7) (N := some 48) (v := ?_) (a' := ?_) #[true, true, true, true, true, true, true, true, true, false, false, false, false] rfl rfl (zn HT_.out HW_.out (by kernel_rfl)) (fun _ _ _ h => h) (Or.inl ⟨by rfl, ?_⟩) hHeld ?_ ?_
          rotate_left
          next =>
           rintro w' ⟨s0, s1, s2, s3, s4⟩
           go_simp
           with_reducible rfl
          rotate_left
          next =>
           simp only [Act.put, yay, yby, ycy, zT, zU]
           rfl
          refine zg (i := 9) (N := some 50) (v := ?_) (a' := ?_) #[true, true, true, true, true, true, true, true, true, true, false, false, false] rfl rfl (zb HT_.out (by kernel_rfl)) (fun _ _ _ h => h) (Or.inl ⟨by rfl, ?_⟩) ?_ ?_
          rotate_left
          next =>
           intro w'
           go_simp
           with_reducible rfl
          rotate_left
          next =>
           simp only [Act.put, yay, yby, ycy, zT, zU]
           rfl
          refine qQ (i := 10) (N := some 51) (v := ?_) (a' := ?_) #[true, true, true, true, true, true, true, true, true, true, true, false, false] rfl rfl (zn HT_.out HW_.out (by kernel_rfl)) (fun _ _ _ h => h) (Or.inl ⟨by rfl, ?_⟩) hHeld ?_ ?_
          rotate_left
          next =>
           rintro w' ⟨s0, s1, s2, s3, s4⟩
           go_simp
           with_reducible rfl
          rotate_left
          next =>
           simp only [Act.put, yay, yby, ycy, zT, zU]
           rfl
          refine QH (i := 11) (N := some 9) #[true, true, true, true, true, true, true, true, true, true, true, true, false] rfl rfl (ZF HT_.out (by kernel_rfl)) (by decide) (fun K hK => ?_)
          refine Jo ?hg (N := 9) ?hd (cs := #[.int .i64 0, .int .i64 0]) (t := 74) ?hr ?_; (case hd => rfl); (case hg => rfl); (case hr => first | (go_simp; done) | (go_simp; rfl))
          intro gb114 hg w48 hbox hb
          have HS1_ := (hb.cell (yoy _ _ (hHeld.2.1))).trans (hHeld.2.1)
          have n0_ := zA.mk (Kd.qe (by (with_reducible repeat (first | apply Kd.zZ | apply Kd.za | apply Kd.zf)); exact HO_4.out) hb)
          have n1_ := zA.mk (Kd.qe (by (with_reducible repeat (first | apply Kd.zZ | apply Kd.za | apply Kd.zf)); exact HO_6.out) hb)
          have n2_ := zA.mk (zN (g := gb101) (o := .cells #[.slice (some ad112) l0_0.length c0_0] 28 (0, 0)) (by (with_reducible repeat (first | refine zI ?_ _ | refine zK ?_ | refine zH ?_ _)); exact BK101.out) hb)
          have n3_ := zA.mk (zO (by repeat (first | (with_reducible first | exact HB.out | apply zD | apply zB | apply zE | refine zG ?_ GE101.out) | exact HB.out)) hb)
          have n4_ := zA.mk (hbox)
          have n5_ := zA.mk ((by rw [hg]; exact (zP (by repeat (first | (with_reducible first | exact HB.out | apply zD | apply zB | apply zE | refine zG ?_ GE101.out) | exact HB.out))) : w.heap.size ≤ gb114))
          have n6_ := zA.mk ((by rw [hg]; exact (zP (by repeat (first | (with_reducible first | exact HB.out | apply zD | apply zB | apply zE | refine zG ?_ GE101.out) | exact HB.out))) : w.heap.size ≤ gb114))
          have n7_ := zA.mk ((by rw [hg]; exact Nat.ne_of_lt (qE (g := gb101) (o := .cells #[.slice (some ad112) l0_0.length c0_0] 28 (0, 0)) (by (with_reducible repeat (first | refine zI ?_ _ | refine zK ?_ | refine zH ?_ _)); exact BK101.out)) : gb101 ≠ gb114))
          have n8_ := zA.mk ((by rw [hg]; exact Nat.ne_of_gt (qE (g := gb101) (o := .cells #[.slice (some ad112) l0_0.length c0_0] 28 (0, 0)) (by (with_reducible repeat (first | refine zI ?_ _ | refine zK ?_ | refine zH ?_ _)); exact BK101.out)) : gb114 ≠ gb101))
          clear HO_4
          clear HO_6
          clear BK101
          clear HB
          have HO_4 := n0_
          have HO_6 := n1_
          have BK101 := n2_
          have HB := n3_
          have BK114 := n4_
          have GW114 := n5_
          have GE114 := n6_
          have NB101_114 := n7_
          have NB114_101 := n8_
          clear n0_ n1_ n2_ n3_ n4_ n5_ n6_ n7_ n8_
          clear hb hbox hg
          refine hK.out _ _ ⟨(zJ BK101.out 0).trans rfl, HS1_, ((HB.out.cell (yoy w _ hw112_0)).trans hw112_0), ((HB.out.cell (yoy w _ hw113_0)).trans hw113_0), ((HB.out.cell (yoy w _ hw113_1)).trans hw113_1)⟩ (fun hHeld => ?_)
          clear hK K
          refine ZQ (a' := ?_) ?_ ?_
          rotate_left
          next =>
           show Act.put _ (some 9) _ = _
           simp only [Act.put, yay, yby, ycy, zT, zU]
           rfl
          refine QH (i := 12) (N := none) #[true, true, true, true, true, true, true, true, true, true, true, true, true] rfl rfl (ZF HT_.out (by kernel_rfl)) (by decide) (fun K hK => ?_)
          have hs49 : w48.cell? ⟨gb114, 0, none⟩ = some (.int .i64 0) := (zJ BK114.out 0).trans rfl
          have hfs49 := zL BK114.out 0
          have hns49_0 := NB101_114.out
          have hms49_0 := NB114_101.out
          have hs50 : w48.cell? ⟨gb114, 1, none⟩ = some (.int .i64 0) := (zJ BK114.out 1).trans rfl
          have hfs50 := zL BK114.out 1
          have hns50_0 := NB101_114.out
          have hms50_0 := NB114_101.out
          refine zAJ (w1 := ?_) (by rfl) rfl ?_ ?_
          rotate_left
          next =>
           go_simp
           rfl
          refine hK.out _ _ ⟨((cell_far (p := ⟨gb114, _, none⟩) NB101_114.out _).trans (((cell_far (p := ⟨gb114, _, none⟩) NB101_114.out _).trans (hHeld.1)))), ((cell_far (p := ⟨gb114, _, none⟩) (by first | exact Kd.qj (Kd.QA HO_6.out BK114.out (by decide)) | (rw [zQ]; exact Kd.qj (Kd.QA HO_6.out BK114.out (by decide))) | (show (Addr.add _ _).block ≠ _; rw [zQ]; exact Kd.qj (Kd.QA HO_6.out BK114.out (by decide))) | (dsimp only; exact Kd.qj (Kd.QA HO_6.out BK114.out (by decide)))) _).trans (((cell_far (p := ⟨gb114, _, none⟩) (by first | exact Kd.qj (Kd.QA HO_6.out BK114.out (by decide)) | (rw [zQ]; exact Kd.qj (Kd.QA HO_6.out BK114.out (by decide))) | (show (Addr.add _ _).block ≠ _; rw [zQ]; exact Kd.qj (Kd.QA HO_6.out BK114.out (by decide))) | (dsimp only; exact Kd.qj (Kd.QA HO_6.out BK114.out (by decide)))) _).trans (hHeld.2.1)))), ((cell_far (p := ⟨gb114, _, none⟩) (by first | exact Nat.ne_of_lt (Nat.lt_of_lt_of_le (by have := yoy _ _ hw112_0; first | rwa [zQ] at this | exact this) GW114.out) | (rw [zQ]; exact Nat.ne_of_lt (Nat.lt_of_lt_of_le (by have := yoy _ _ hw112_0; first | rwa [zQ] at this | exact this) GW114.out)) | (show (Addr.add _ _).block ≠ _; rw [zQ]; exact Nat.ne_of_lt (Nat.lt_of_lt_of_le (by have := yoy _ _ hw112_0; first | rwa [zQ] at this | exact this) GW114.out)) | (dsimp only; exact Nat.ne_of_lt (Nat.lt_of_lt_of_le (by have := yoy _ _ hw112_0; first | rwa [zQ] at this | exact this) GW114.out))) _).trans (((cell_far (p := ⟨gb114, _, none⟩) (by first | exact Nat.ne_of_lt (Nat.lt_of_lt_of_le (by have := yoy _ _ hw112_0; first | rwa [zQ] at this | exact this) GW114.out) | (rw [zQ]; exact Nat.ne_of_lt (Nat.lt_of_lt_of_le (by have := yoy _ _ hw112_0; first | rwa [zQ] at this | exact this) GW114.out)) | (show (Addr.add _ _).block ≠ _; rw [zQ]; exact Nat.ne_of_lt (Nat.lt_of_lt_of_le (by have := yoy _ _ hw112_0; first | rwa [zQ] at this | exact this) GW114.out)) | (dsimp only; exact Nat.ne_of_lt (Nat.lt_of_lt_of_le (by have := yoy _ _ hw112_0; first | rwa [zQ] at this | exact this) GW114.out))) _).trans (hHeld.2.2.1)))), ((cell_far (p := ⟨gb114, _, none⟩) (by first | exact Nat.ne_of_lt (Nat.lt_of_lt_of_le (by have := yoy _ _ hw113_0; first | rwa [zQ] at this | exact this) GW114.out) | (rw [zQ]; exact Nat.ne_of_lt (Nat.lt_of_lt_of_le (by have := yoy _ _ hw113_0; first | rwa [zQ] at this | exact this) GW114.out)) | (show (Addr.add _ _).block ≠ _; rw [zQ]; exact Nat.ne_of_lt (Nat.lt_of_lt_of_le (by have := yoy _ _ hw113_0; first | rwa [zQ] at this | exact this) GW114.out)) | (dsimp only; exact Nat.ne_of_lt (Nat.lt_of_lt_of_le (by have := yoy _ _ hw113_0; first | rwa [zQ] at this | exact this) GW114.out))) _).trans (((cell_far (p := ⟨gb114, _, none⟩) (by first | exact Nat.ne_of_lt (Nat.lt_of_lt_of_le (by have := yoy _ _ hw113_0; first | rwa [zQ] at this | exact this) GW114.out) | (rw [zQ]; exact Nat.ne_of_lt (Nat.lt_of_lt_of_le (by have := yoy _ _ hw113_0; first | rwa [zQ] at this | exact this) GW114.out)) | (show (Addr.add _ _).block ≠ _; rw [zQ]; exact Nat.ne_of_lt (Nat.lt_of_lt_of_le (by have := yoy _ _ hw113_0; first | rwa [zQ] at this | exact this) GW114.out)) | (dsimp only; exact Nat.ne_of_lt (Nat.lt_of_lt_of_le (by have := yoy _ _ hw113_0; first | rwa [zQ] at this | exact this) GW114.out))) _).trans (hHeld.2.2.2.1)))), ((cell_far (p := ⟨gb114, _, none⟩) (by first | exact Nat.ne_of_lt (Nat.lt_of_lt_of_le (by have := yoy _ _ hw113_1; first | rwa [zQ] at this | exact this) GW114.out) | (rw [zQ]; exact Nat.ne_of_lt (Nat.lt_of_lt_of_le (by have := yoy _ _ hw113_1; first | rwa [zQ] at this | exact this) GW114.out)) | (show (Addr.add _ _).block ≠ _; rw [zQ]; exact Nat.ne_of_lt (Nat.lt_of_lt_of_le (by have := yoy _ _ hw113_1; first | rwa [zQ] at this | exact this) GW114.out)) | (dsimp only; exact Nat.ne_of_lt (Nat.lt_of_lt_of_le (by have := yoy _ _ hw113_1; first | rwa [zQ] at this | exact this) GW114.out))) _).trans (((cell_far (p := ⟨gb114, _, none⟩) (by first | exact Nat.ne_of_lt (Nat.lt_of_lt_of_le (by have := yoy _ _ hw113_1; first | rwa [zQ] at this | exact this) GW114.out) | (rw [zQ]; exact Nat.ne_of_lt (Nat.lt_of_lt_of_le (by have := yoy _ _ hw113_1; first | rwa [zQ] at this | exact this) GW114.out)) | (show (Addr.add _ _).block ≠ _; rw [zQ]; exact Nat.ne_of_lt (Nat.lt_of_lt_of_le (by have := yoy _ _ hw113_1; first | rwa [zQ] at this | exact this) GW114.out)) | (dsimp only; exact Nat.ne_of_lt (Nat.lt_of_lt_of_le (by have := yoy _ _ hw113_1; first | rwa [zQ] at this | exact this) GW114.out))) _).trans (hHeld.2.2.2.2))))⟩ (fun hHeld => ?_)
          clear hK K
          refine Zo (ZS HT_.out (by kernel_rfl)) ?_
          have hnb51 := NB114_101.out
          have hnc51 := NB101_114.out
          have hcz52_0 : w48.cell? ⟨gb114, 0, none⟩ = some (.int .i64 0) := (zJ BK114.out 0).trans rfl
          have hcz52_1 : w48.cell? ⟨gb114, 1, none⟩ = some (.int .i64 0) := (zJ BK114.out 1).trans rfl
          have hfz52_0 := zL BK114.out 0
          have hfz52_1 := zL BK114.out 1
          try go_wp2
          have n0_ : zA (Kd.R (Kd.int .i64) 2 ((w48.setCell ⟨gb114, 0, none⟩ (.int .i64 ((zF (zC l0_0 (rd x6_3 x7_2)) x8_3).f0))).setCell ⟨gb114, 1, none⟩ (.int .i64 ((zF (zC l0_0 (rd x6_3 x7_2)) x8_3).f1))) w.heap.size (fun k_ => some k_ ≠ (.slice (some ad111) x6_3.length co47 : Value).ownBlock) (.slice (some ⟨go13, 0, none⟩) x4_3.length co16) x4_3) := ⟨by (with_reducible repeat (first | apply Kd.zZ | apply Kd.za | apply Kd.zf)); exact Kd.qR (Kd.QG (p := ⟨gb114, 1, none⟩) (Kd.QG (p := ⟨gb114, 0, none⟩) (Kd.QX HO_4.out BK114.out (by decide)) (fun _ hk => hk.2) (.int .i64 ((zF (zC l0_0 (rd x6_3 x7_2)) x8_3).f0))) (fun _ hk => hk.2) (.int .i64 ((zF (zC l0_0 (rd x6_3 x7_2)) x8_3).f1))) (fun _ hk => hk.1)⟩
          have n1_ : zA (Kd.R (Kd.int .i64) 2 ((w48.setCell ⟨gb114, 0, none⟩ (.int .i64 ((zF (zC l0_0 (rd x6_3 x7_2)) x8_3).f0))).setCell ⟨gb114, 1, none⟩ (.int .i64 ((zF (zC l0_0 (rd x6_3 x7_2)) x8_3).f1))) w.heap.size (fun k_ => some k_ ≠ (.slice (some ⟨go13, 0, none⟩) x4_3.length co16 : Value).ownBlock) (.slice (some ad111) x6_3.length co47) x6_3) := ⟨by (with_reducible repeat (first | apply Kd.zZ | apply Kd.za | apply Kd.zf)); exact Kd.qR (Kd.QG (p := ⟨gb114, 1, none⟩) (Kd.QG (p := ⟨gb114, 0, none⟩) (Kd.QX HO_6.out BK114.out (by decide)) (fun _ hk => hk.2) (.int .i64 ((zF (zC l0_0 (rd x6_3 x7_2)) x8_3).f0))) (fun _ hk => hk.2) (.int .i64 ((zF (zC l0_0 (rd x6_3 x7_2)) x8_3).f1))) (fun _ hk => hk.1)⟩
          have n2_ : zA (((w48.setCell ⟨gb114, 0, none⟩ (.int .i64 ((zF (zC l0_0 (rd x6_3 x7_2)) x8_3).f0))).setCell ⟨gb114, 1, none⟩ (.int .i64 ((zF (zC l0_0 (rd x6_3 x7_2)) x8_3).f1))).heap[gb101]? = some (.cells #[.slice (some ad112) l0_0.length c0_0] 28 (0, 0))) := ⟨by (with_reducible repeat (first | refine zI ?_ _ | refine zK ?_ | refine zH ?_ _)); refine zv ?_ NB101_114.out _; (with_reducible repeat (first | refine zI ?_ _ | refine zK ?_ | refine zH ?_ _)); refine zv ?_ NB101_114.out _; (with_reducible repeat (first | refine zI ?_ _ | refine zK ?_ | refine zH ?_ _)); exact BK101.out⟩
          have n3_ : zA (((w48.setCell ⟨gb114, 0, none⟩ (.int .i64 ((zF (zC l0_0 (rd x6_3 x7_2)) x8_3).f0))).setCell ⟨gb114, 1, none⟩ (.int .i64 ((zF (zC l0_0 (rd x6_3 x7_2)) x8_3).f1))).heap[gb114]? = some (.cells #[.int .i64 ((zF (zC l0_0 (rd x6_3 x7_2)) x8_3).f0), .int .i64 ((zF (zC l0_0 (rd x6_3 x7_2)) x8_3).f1)] 74 (0, 0))) := ⟨by (with_reducible repeat (first | refine zI ?_ _ | refine zK ?_ | refine zH ?_ _)); refine qH (cs := #[.int .i64 ((zF (zC l0_0 (rd x6_3 x7_2)) x8_3).f0), .int .i64 0]) ?_ 1 _ rfl; (with_reducible repeat (first | refine zI ?_ _ | refine zK ?_ | refine zH ?_ _)); refine qH (cs := #[.int .i64 0, .int .i64 0]) ?_ 0 _ rfl; (with_reducible repeat (first | refine zI ?_ _ | refine zK ?_ | refine zH ?_ _)); exact BK114.out⟩
          have n4_ : zA (Below w.heap.size w ((w48.setCell ⟨gb114, 0, none⟩ (.int .i64 ((zF (zC l0_0 (rd x6_3 x7_2)) x8_3).f0))).setCell ⟨gb114, 1, none⟩ (.int .i64 ((zF (zC l0_0 (rd x6_3 x7_2)) x8_3).f1)))) := ⟨by repeat (first | (with_reducible first | exact HB.out | apply zD | apply zB | apply zE | refine zG ?_ GE101.out | refine zG ?_ GE114.out) | exact HB.out)⟩
          (try clear HO_4)
          (try clear HO_6)
          (try clear BK101)
          (try clear BK114)
          (try clear HB)
          generalize ((w48.setCell ⟨gb114, 0, none⟩ (.int .i64 ((zF (zC l0_0 (rd x6_3 x7_2)) x8_3).f0))).setCell ⟨gb114, 1, none⟩ (.int .i64 ((zF (zC l0_0 (rd x6_3 x7_2)) x8_3).f1))) = w53 at n0_ n1_ n2_ n3_ n4_ ⊢
          have HO_4 := n0_
          have HO_6 := n1_
          have BK101 := n2_
          have BK114 := n3_
          have HB := n4_
          clear n0_ n1_ n2_ n3_ n4_
          have n0_ := zA.mk (Kd.zf HO_4.out)
          have n1_ := zA.mk (Kd.zf HO_6.out)
          have n2_ := zA.mk (zK BK101.out)
          have n3_ := zA.mk (zK BK114.out)
          have n4_ := zA.mk (zE HB.out)
          clear HO_4
          clear HO_6
          clear BK101
          clear BK114
          clear HB
          have HO_4 := n0_
          have HO_6 := n1_
          have BK101 := n2_
          have BK114 := n3_
          have HB := n4_
          clear n0_ n1_ n2_ n3_ n4_
          have p115 : 0 ≤ (x7_2 : Int) := of_decide_eq_true (by first | (with_reducible assumption) | assumption)
          have q115 : x7_2 < (x6_3.length : Int) := of_decide_eq_true (by first | (with_reducible assumption) | assumption)
          obtain ⟨ad115, e115, hx115_0⟩ := Kd.qi (Kd.zj HO_6.out).2.2 x7_2 p115 q115
          obtain rfl : ad111 = ad115 := (by injection e115)
          replace p115 := eq_true p115
          replace q115 := eq_true q115
          have p116 : 0 ≤ ((rd x6_3 x7_2) : Int) := of_decide_eq_true (by first | (with_reducible assumption) | assumption)
          have q116 : (rd x6_3 x7_2) < (x4_3.length : Int) := of_decide_eq_true (by first | (with_reducible assumption) | assumption)
          obtain ⟨ad116, e116, hx116_0⟩ := Kd.qi (Kd.zj HO_4.out).2.2 (rd x6_3 x7_2) p116 q116
          obtain rfl : (⟨go13, 0, none⟩ : Addr) = ad116 := (by injection e116)
          (first | simp only [add_plain] at hx116_0 | simp only [Qw] at hx116_0 | simp only [Addr.add, Nat.zero_add] at hx116_0 | skip)
          replace p116 := eq_true p116
          replace q116 := eq_true q116
          refine ZN (n := 13) (S := fun w' => w'.cell? ⟨gb114, 0, none⟩ = some (.int .i64 ((zF (zC l0_0 (rd x6_3 x7_2)) x8_3).f0)) ∧ w'.cell? ⟨gb114, 1, none⟩ = some (.int .i64 ((zF (zC l0_0 (rd x6_3 x7_2)) x8_3).f1)) ∧ w'.cell? (ad111.add (x7_2).toNat) = some (.int .i64 (rd x6_3 x7_2)) ∧ w'.cell? ⟨go13, ((rd x6_3 x7_2)).toNat, none⟩ = some (.int .i64 (rd x4_3 (rd x6_3 x7_2)))) (ds := []) #[false, false, false, false, false, false, false, false, false, false, false, false, false] (by kernel_rfl) rfl rfl ⟨(zJ BK114.out 0).trans rfl, (zJ BK114.out 1).trans rfl, hx115_0, hx116_0⟩ (fun hHeld => ?_); refine qx zR.zCE zR.zAg (fun HT_ HW_ => ?_)
          generalize w53.drew = w54 at HO_4 HO_6 BK101 BK114 HB hx115_0 hx116_0 hHeld ⊢
          refine zg (i := 0) (N := some 55) (v := ?_) (a' := ?_) #[true, false, false, false, false, false, false, false, false, false, false, false, false] rfl rfl (zb HT_.out (by kernel_rfl)) (fun _ _ _ h => h) (Or.inl ⟨by rfl, ?_⟩) ?_ ?_
          rotate_left
          next =>
           intro w'
           go_simp
           with_reducible rfl
          rotate_left
          next =>
           simp only [Act.put, yay, yby, ycy, zT, zU]
           rfl
          refine zg (i := 1) (N := some 56) (v := ?_) (a' := ?_) #[true, true, false, false, false, false, false, false, false, false, false, false, false] rfl rfl (zb HT_.out (by kernel_rfl)) (fun _ _ _ h => h) (Or.inl ⟨by rfl, ?_⟩) ?_ ?_
          rotate_left
          next =>
           intro w'
           go_simp
           with_reducible rfl
          rotate_left
          next =>
           simp only [Act.put, yay, yby, ycy, zT, zU]
           rfl
          refine zg (i := 2) (N := some 57) (v := ?_) (a' := ?_) #[true, true, true, false, false, false, false, false, false, false, false, false, false] rfl rfl (zb HT_.out (by kernel_rfl)) (fun _ _ _ h => h) (Or.inl ⟨by rfl, ?_⟩) ?_ ?_
          rotate_left
          next =>
           intro w'
           go_simp
           with_reducible rfl
          rotate_left
          next =>
           simp only [Act.put, yay, yby, ycy, zT, zU]
           rfl
          refine zg (i := 3) (N := some 58) (v := ?_) (a' := ?_) #[true, true, true, true, false, false, false, false, false, false, false, false, false] rfl rfl (zb HT_.out (by kernel_rfl)) (fun _ _ _ h => h) (Or.inl ⟨by rfl, ?_⟩) ?_ ?_
          rotate_left
          next =>
           intro w'
           go_simp
           with_reducible rfl
          rotate_left
          next =>
           simp only [Act.put, yay, yby, ycy, zT, zU]
           rfl
          refine zg (i := 8) (N := some 63) (v := ?_) (a' := ?_) #[true, true, true, true, false, false, false, false, true, false, false, false, false] rfl rfl (zb HT_.out (by kernel_rfl)) (fun _ _ _ h => h) (Or.inl ⟨by rfl, ?_⟩) ?_ ?_
          rotate_left
          next =>
           intro w'
           go_simp
           with_reducible rfl
          rotate_left
          next =>
           simp only [Act.put, yay, yby, ycy, zT, zU]
           rfl
          refine qQ (i := 4) (N := some 59) (v := ?_) (a' := ?_) #[true, true, true, true, true, false, false, false, true, false, false, false, false] rfl rfl (zn HT_.out HW_.out (by kernel_rfl)) (fun _ _ _ h => h) (Or.inl ⟨by rfl, ?_⟩) hHeld ?_ ?_
          rotate_left
          next =>
           rintro w' ⟨s0, s1, s2, s3⟩
           go_simp
           with_reducible rfl
          rotate_left
          next =>
           simp only [Act.put, yay, yby, ycy, zT, zU]
           rfl
          refine zg (i := 5) (N := some 60) (v := ?_) (a' := ?_) #[true, true, true, true, true, true, false, false, true, false, false, false, false] rfl rfl (zb HT_.out (by kernel_rfl)) (fun _ _ _ h => h) (Or.inl ⟨by rfl, ?_⟩) ?_ ?_
          rotate_left
          next =>
           intro w'
           go_simp
           with_reducible rfl
          rotate_left
          next =>
           simp only [Act.put, yay, yby, ycy, zT, zU]
           rfl
          refine qQ (i := 6) (N := some 61) (v := ?_) (a' := ?_) #[true, true, true, true, true, true, true, false, true, false, false, false, false] rfl rfl (zn HT_.out HW_.out (by kernel_rfl)) (fun _ _ _ h => h) (Or.inl ⟨by rfl, ?_⟩) hHeld ?_ ?_
          rotate_left
          next =>
           rintro w' ⟨s0, s1, s2, s3⟩
           go_simp
           with_reducible rfl
          rotate_left
          next =>
           simp only [Act.put, yay, yby, ycy, zT, zU]
           rfl
          refine zg (i := 7) (N := some 62) (v := ?_) (a' := ?_) #[true, true, true, true, true, true, true, true, true, false, false, false, false] rfl rfl (zb HT_.out (by kernel_rfl)) (fun _ _ _ h => h) (Or.inl ⟨by rfl, ?_⟩) ?_ ?_
          rotate_left
          next =>
           intro w'
           go_simp
           with_reducible rfl
          rotate_left
          next =>
           simp only [Act.put, yay, yby, ycy, zT, zU]
           rfl
          refine qQ (i := 9) (N := some 64) (v := ?_) (a' := ?_) #[true, true, true, true, true, true, true, true, true, true, false, false, false] rfl rfl (zn HT_.out HW_.out (by kernel_rfl)) (fun _ _ _ h => h) (Or.inl ⟨by rfl, ?_⟩) hHeld ?_ ?_
          rotate_left
          next =>
           rintro w' ⟨s0, s1, s2, s3⟩
           go_simp
           with_reducible rfl
          rotate_left
          next =>
           simp only [Act.put, yay, yby, ycy, zT, zU]
           rfl
          refine QH (i := 10) (N := some 65) #[true, true, true, true, true, true, true, true, true, true, true, false, false] rfl rfl (ZF HT_.out (by kernel_rfl)) (by decide) (fun K hK => ?_)
          refine Zv Try.func81 (by kernel_rfl) rfl #[.int .i64 ((zF (zC l0_0 (rd x6_3 x7_2)) x8_3).f1)] (by rfl) rfl rfl (by (try simp only [yiy, yjy, yky]); first | done | rfl | (simp only [yly, ymy]; rfl)) ?_
          with_reducible refine (zi.calls k3 ((zF (zC l0_0 (rd x6_3 x7_2)) x8_3).f1) t117 _ A39.out).mono ?_
          rintro e w55 ⟨rfl, hb⟩
          have HS2_ := (hb.cell (yoy _ _ (hHeld.2.2.1))).trans (hHeld.2.2.1)
          have HS3_ := (hb.cell (yoy _ _ (hHeld.2.2.2))).trans (hHeld.2.2.2)
          refine ⟨_, rfl, ?_⟩
          have n0_ := zA.mk (Kd.qe (by (with_reducible repeat (first | apply Kd.zZ | apply Kd.za | apply Kd.zf)); exact HO_4.out) hb)
          have n1_ := zA.mk (Kd.qe (by (with_reducible repeat (first | apply Kd.zZ | apply Kd.za | apply Kd.zf)); exact HO_6.out) hb)
          have n2_ := zA.mk (zN (g := gb101) (o := .cells #[.slice (some ad112) l0_0.length c0_0] 28 (0, 0)) (by (with_reducible repeat (first | refine zI ?_ _ | refine zK ?_ | refine zH ?_ _)); exact BK101.out) hb)
          have n3_ := zA.mk (zN (g := gb114) (o := .cells #[.int .i64 ((zF (zC l0_0 (rd x6_3 x7_2)) x8_3).f0), .int .i64 ((zF (zC l0_0 (rd x6_3 x7_2)) x8_3).f1)] 74 (0, 0)) (by (with_reducible repeat (first | refine zI ?_ _ | refine zK ?_ | refine zH ?_ _)); exact BK114.out) hb)
          have n4_ := zA.mk (zO (by repeat (first | (with_reducible first | exact HB.out | apply zD | apply zB | apply zE | refine zG ?_ GE101.out | refine zG ?_ GE114.out) | exact HB.out)) hb)
          clear HO_4
          clear HO_6
          clear BK101
          clear BK114
          clear HB
          have HO_4 := n0_
          have HO_6 := n1_
          have BK101 := n2_
          have BK114 := n3_
          have HB := n4_
          clear n0_ n1_ n2_ n3_ n4_
          (try clear hb)
          (try clear hb2)
          (try clear hk)
          (try clear hi)
          refine hK.out _ _ ⟨(zJ BK114.out 0).trans rfl, (zJ BK114.out 1).trans rfl, HS2_, HS3_⟩ (fun hHeld => ?_)
          clear hK K
          refine ZQ (a' := ?_) ?_ ?_
          rotate_left
          next =>
           show Act.put _ (some 65) _ = _
           simp only [Act.put, yay, yby, ycy, zT, zU]
           rfl
          refine zg (i := 11) (N := some 66) (v := ?_) (a' := ?_) #[true, true, true, true, true, true, true, true, true, true, true, true, false] rfl rfl (zb HT_.out (by kernel_rfl)) (fun _ _ _ h => h) (Or.inl ⟨by rfl, ?_⟩) ?_ ?_
          rotate_left
          next =>
           intro w'
           go_simp
           with_reducible rfl
          rotate_left
          next =>
           simp only [Act.put, yay, yby, ycy, zT, zU]
           rfl
          refine zg (i := 12) (N := some 10) (v := ?_) (a' := ?_) #[true, true, true, true, true, true, true, true, true, true, true, true, true] rfl rfl (zb HT_.out (by kernel_rfl)) (fun _ _ _ h => h) (Or.inl ⟨by rfl, ?_⟩) ?_ ?_
          rotate_left
          next =>
           intro w'
           go_simp
           with_reducible rfl
          rotate_left
          next =>
           simp only [Act.put, yay, yby, ycy, zT, zU]
           rfl
          refine Zo (ZS HT_.out (by kernel_rfl)) ?_
          have hcz56_0 : w55.cell? ⟨gb114, 0, none⟩ = some (.int .i64 ((zF (zC l0_0 (rd x6_3 x7_2)) x8_3).f0)) := (zJ BK114.out 0).trans rfl
          have hcz56_1 : w55.cell? ⟨gb114, 1, none⟩ = some (.int .i64 ((zF (zC l0_0 (rd x6_3 x7_2)) x8_3).f1)) := (zJ BK114.out 1).trans rfl
          have hfz56_0 := zL BK114.out 0
          have hfz56_1 := zL BK114.out 1
          have p118 : 0 ≤ (((zF (zC l0_0 (rd x6_3 x7_2)) x8_3).f0) : Int) := of_decide_eq_true (by first | (with_reducible assumption) | assumption)
          have q118 : ((zF (zC l0_0 (rd x6_3 x7_2)) x8_3).f0) < (x4_3.length : Int) := of_decide_eq_true (by first | (with_reducible assumption) | assumption)
          obtain ⟨ad118, e118, hx118_0⟩ := Kd.qi (Kd.zj HO_4.out).2.2 ((zF (zC l0_0 (rd x6_3 x7_2)) x8_3).f0) p118 q118
          obtain rfl : (⟨go13, 0, none⟩ : Addr) = ad118 := (by injection e118)
          (first | simp only [add_plain] at hx118_0 | simp only [Qw] at hx118_0 | simp only [Addr.add, Nat.zero_add] at hx118_0 | skip)
          replace p118 := eq_true p118
          replace q118 := eq_true q118
          have p43 : 0 ≤ (((zF (zC l0_0 (rd x6_3 x7_2)) x8_3).f0) : Int) := of_decide_eq_true (by first | (with_reducible assumption) | assumption)
          have q43 : (((zF (zC l0_0 (rd x6_3 x7_2)) x8_3).f0) : Int) < ((x4_3.length : Int) : Int) := of_decide_eq_true (by first | (with_reducible assumption) | assumption)
          obtain ⟨hx43_0, hf43_0⟩ := Kd.QL 0 HO_4.out (((zF (zC l0_0 (rd x6_3 x7_2)) x8_3).f0) : Int) p43 q43
          replace p43 := eq_true p43
          replace q43 := eq_true q43
          obtain ⟨hy57_, hz57_⟩ := Kd.QL 0 HO_4.out (((zF (zC l0_0 (rd x6_3 x7_2)) x8_3).f0) : Int) (of_decide_eq_true (by first | (with_reducible assumption) | assumption)) (of_decide_eq_true (by first | (with_reducible assumption) | assumption))
          have HP57 := Kd.zAB HO_4.out (((zF (zC l0_0 (rd x6_3 x7_2)) x8_3).f0) : Int) (wrap64 ((wrap64 (-(rd x4_3 (rd x6_3 x7_2)))) * t117))
          try go_wp2_with (first | ((with_reducible refine Zk (t := 2) (p := 77) rfl ?_); refine ZW (t := 2) (p := 77) (v := ?vo_w58) (w1 := (w55.setCell ⟨go13, (((zF (zC l0_0 (rd x6_3 x7_2)) x8_3).f0) : Int).toNat, none⟩ (.int .i64 (wrap64 ((wrap64 (-(rd x4_3 (rd x6_3 x7_2)))) * t117))))) ?hg ?ho ?hn ?hr ?_; (case ho => rfl); (case hg => rfl); (case hn => rfl); (case hr => first | (go_simp; done) | (go_simp; rfl)); intro w58 hw; have hg : w55.grownBy w58 (some go13) := (by rw [hw]; exact HP57.2); have hp_ : Kd.R (Kd.int .i64) 2 w58 w.heap.size (fun k_ => some k_ ≠ (.slice (some ad111) x6_3.length co47 : Value).ownBlock) (.slice (some ⟨go13, 0, none⟩) x4_3.length co16) y119 := (by rw [hw, Ny119.out]; exact HP57.1); clear HP57; have n0_ := zA.mk (hp_); have n1_ := zA.mk (Kd.ZL (v := (.slice (some ⟨go13, 0, none⟩) x4_3.length co16)) (v1 := (.slice (some ⟨go13, 0, none⟩) x4_3.length co16)) (ok := (fun _ => True)) (by (with_reducible repeat (first | apply Kd.zZ | apply Kd.za | apply Kd.zf)); exact Kd.qR HO_6.out (fun _ hk => ⟨trivial, hk⟩)) hg (.inl rfl)); have n2_ := zA.mk (zu (g := gb101) (o := .cells #[.slice (some ad112) l0_0.length c0_0] 28 (0, 0)) (by (with_reducible repeat (first | refine zI ?_ _ | refine zK ?_ | refine zH ?_ _)); exact BK101.out) hg (Kd.QA HO_4.out BK101.out (by decide))); have n3_ := zA.mk (zu (g := gb114) (o := .cells #[.int .i64 ((zF (zC l0_0 (rd x6_3 x7_2)) x8_3).f0), .int .i64 ((zF (zC l0_0 (rd x6_3 x7_2)) x8_3).f1)] 74 (0, 0)) (by (with_reducible repeat (first | refine zI ?_ _ | refine zK ?_ | refine zH ?_ _)); exact BK114.out) hg (Kd.QA HO_4.out BK114.out (by decide))); have n4_ := zA.mk ((by rw [hw]; exact zG (HB.out) GB13.out : Below w.heap.size w w58)); clear HO_4; clear HO_6; clear BK101; clear BK114; clear HB; have HO_4 := n0_; have HO_6 := n1_; have BK101 := n2_; have BK114 := n3_; have HB := n4_; clear n0_ n1_ n2_ n3_ n4_; clear hg hw hp_; have hcz59_0 : w58.cell? ⟨gb114, 0, none⟩ = some (.int .i64 ((zF (zC l0_0 (rd x6_3 x7_2)) x8_3).f0)) := (zJ BK114.out 0).trans rfl; have hcz59_1 : w58.cell? ⟨gb114, 1, none⟩ = some (.int .i64 ((zF (zC l0_0 (rd x6_3 x7_2)) x8_3).f1)) := (zJ BK114.out 1).trans rfl; have hfz59_0 := zL BK114.out 0; have hfz59_1 := zL BK114.out 1) | ((with_reducible refine Zd (b := .append) (xs := #[.tmp 78, .tmp 81]) rfl ?_); at_builtin; refine Kd.Qj (Kd.int .i64) (w0 := w) w.heap.size rfl (.tmp 78) (.tmp 81) 41 2 (.int .i64 0) 8 rfl Try.underlying41 JC rfl (by decide) (by omega) (.slice (some ad111) x6_3.length co47) x6_3 ((zF (zC l0_0 (rd x6_3 x7_2)) x8_3).f0) [.int .i64 ((zF (zC l0_0 (rd x6_3 x7_2)) x8_3).f0)] (fun k_ => some k_ ≠ (.slice (some ⟨go13, 0, none⟩) x4_3.length co16 : Value).ownBlock) (fun _ => False) rfl rfl ?aP (fun _ hk => hk.elim) ?aF ?aO ?aB ?aS ?aL ?_; (case aP => exact rfl); (case aB => exact (by repeat (first | (with_reducible first | exact HB.out | apply zD | apply zB | apply zE | refine zG ?_ GE101.out | refine zG ?_ GE114.out) | exact HB.out))); (case aF => exact (fun k_ hk => Kd.JF (Kd.zAS (by (with_reducible repeat (first | apply Kd.zZ | apply Kd.za | apply Kd.zf)); exact HO_4.out)) k_ hk)); (case aO => exact (by (with_reducible repeat (first | apply Kd.zZ | apply Kd.za | apply Kd.zf)); exact Kd.qR HO_6.out (fun _ hk => hk.2))); (case aS => exact (zP (by repeat (first | (with_reducible first | exact HB.out | apply zD | apply zB | apply zE | refine zG ?_ GE101.out | refine zG ?_ GE114.out) | exact HB.out)))); (case aL => have := LMc44.out; omega); intro v121 w60 ho hb hg hat; rw [← Ny120.out] at ho; have n0_ := zA.mk (Kd.ZL (ok := (fun _ => True)) (by (with_reducible repeat (first | apply Kd.zZ | apply Kd.za | apply Kd.zf)); exact Kd.qR HO_4.out (fun _ hk => ⟨trivial, hk⟩)) hg hat); have n1_ := zA.mk (zu (g := gb101) (o := .cells #[.slice (some ad112) l0_0.length c0_0] 28 (0, 0)) (by (with_reducible repeat (first | refine zI ?_ _ | refine zK ?_ | refine zH ?_ _)); exact BK101.out) hg (Kd.QA HO_6.out BK101.out (by decide))); have n2_ := zA.mk (zu (g := gb114) (o := .cells #[.int .i64 ((zF (zC l0_0 (rd x6_3 x7_2)) x8_3).f0), .int .i64 ((zF (zC l0_0 (rd x6_3 x7_2)) x8_3).f1)] 74 (0, 0)) (by (with_reducible repeat (first | refine zI ?_ _ | refine zK ?_ | refine zH ?_ _)); exact BK114.out) hg (Kd.QA HO_6.out BK114.out (by decide))); have n3_ := zA.mk (hb); have n4_ := zA.mk (ho); clear HO_4; clear BK101; clear BK114; clear HB; clear HO_6; have HO_4 := n0_; have BK101 := n1_; have BK114 := n2_; have HB := n3_; have HO122 := n4_; clear n0_ n1_ n2_ n3_ n4_; clear ho hb hg hat; have hcz61_0 : w60.cell? ⟨gb114, 0, none⟩ = some (.int .i64 ((zF (zC l0_0 (rd x6_3 x7_2)) x8_3).f0)) := (zJ BK114.out 0).trans rfl; have hcz61_1 : w60.cell? ⟨gb114, 1, none⟩ = some (.int .i64 ((zF (zC l0_0 (rd x6_3 x7_2)) x8_3).f1)) := (zJ BK114.out 1).trans rfl; have hfz61_0 := zL BK114.out 0; have hfz61_1 := zL BK114.out 1; have p123 : 0 ≤ (((zF (zC l0_0 (rd x6_3 x7_2)) x8_3).f0) : Int) := of_decide_eq_true (by first | (with_reducible assumption) | assumption); have q123 : ((zF (zC l0_0 (rd x6_3 x7_2)) x8_3).f0) < (y119.length : Int) := (by have h_ : (((zF (zC l0_0 (rd x6_3 x7_2)) x8_3).f0) : Int) < ((x4_3.length : Int) : Int) := of_decide_eq_true (by first | (with_reducible assumption) | assumption); first | (have e_ := (Kd.zj HO_4.out).1; omega) | simpa only [Ny119.out, List.length_set] using h_); have ql123 : ((((zF (zC l0_0 (rd x6_3 x7_2)) x8_3).f0) : Int) < ((x4_3.length : Int) : Int)) = True := eq_true (of_decide_eq_true (by first | (with_reducible assumption) | assumption)); obtain ⟨ad123, e123, hx123_0⟩ := Kd.qi (Kd.zj HO_4.out).2.2 ((zF (zC l0_0 (rd x6_3 x7_2)) x8_3).f0) p123 q123; obtain rfl : (⟨go13, 0, none⟩ : Addr) = ad123 := (by injection e123); (first | simp only [add_plain] at hx123_0 | simp only [Qw] at hx123_0 | simp only [Addr.add, Nat.zero_add] at hx123_0 | skip); replace p123 := eq_true p123; replace q123 := eq_true q123))
          (try simp only [← hl4_3])
          go_roundg k3
          case measure => have := HK1.out; have := HK2.out; have := HK3.out; omega
          case rel => exact ⟨(y119), (y120), (wrap64 (x8_3 + 1)), (by first | rfl | (simp; done) | (simp [*]; done)), H', ⟨by have := HK1.out; have := HK2.out; have := HK3.out; omega⟩, ⟨by (try simp only [hl4_2]); (try simp only [hl4_3]); (with_reducible repeat (first | apply Kd.zZ | apply Kd.za | apply Kd.zf)); exact Kd.qR HO_4.out (fun _ hk => hk.2)⟩, ⟨by (try simp only [hl4_2]); (try simp only [hl4_3]); (with_reducible repeat (first | apply Kd.zZ | apply Kd.za | apply Kd.zf)); exact HO122.out⟩, ⟨by (try simp only [hl4_2]); (try simp only [hl4_3]); (with_reducible repeat (first | refine zI ?_ _ | refine zK ?_ | refine zH ?_ _)); exact BK101.out⟩, ⟨by repeat (first | (with_reducible first | exact HB.out | apply zD | apply zB | apply zE | refine zG ?_ GE101.out | refine zG ?_ GE114.out) | exact HB.out)⟩⟩
         next =>
          rw [if_neg c45] at H
          have c45b0 : ((rd y119 ((zF (zC l0_0 (rd x6_3 x7_2)) x8_3).f0)) == (wrap64 ((wrap64 (-(rd x4_3 (rd x6_3 x7_2)))) * t117))) = false := beq_eq_false_iff_ne.mpr c45
          have c45b1 : ((rd y119 ((zF (zC l0_0 (rd x6_3 x7_2)) x8_3).f0)) != (wrap64 ((wrap64 (-(rd x4_3 (rd x6_3 x7_2)))) * t117))) = true := bne_iff_ne.mpr c45
          simp only [Option.some.injEq, Prod.mk.injEq] at H
          obtain ⟨rfl, rfl⟩ := H
          try go_wp2
          have n0_ := zA.mk (Kd.zf HO_4.out)
          have n1_ := zA.mk (Kd.zf HO_6.out)
          have n2_ := zA.mk (zK BK101.out)
          have n3_ := zA.mk (zE HB.out)
          clear HO_4
          clear HO_6
          clear BK101
          clear HB
          have HO_4 := n0_
          have HO_6 := n1_
          have BK101 := n2_
          have HB := n3_
          clear n0_ n1_ n2_ n3_
          obtain ⟨Ao63, co63, eo63⟩ := Kd.qv HO_6.out
          (first | subst eo63 | (injection eo63 with f1_ f2_ f3_; have f4_ := f1_.symm; have f5_ := f3_.symm; clear f1_ f2_ f3_; subst f4_; subst f5_))
          have p111 : 0 ≤ (x7_2 : Int) := of_decide_eq_true (by first | (with_reducible assumption) | assumption)
          have q111 : x7_2 < (x6_3.length : Int) := of_decide_eq_true (by first | (with_reducible assumption) | assumption)
          obtain ⟨ad111, e111, hx111_0⟩ := Kd.qi (Kd.zj HO_6.out).2.2 x7_2 p111 q111
          cases e111
          replace p111 := eq_true p111
          replace q111 := eq_true q111
          have p112 : 0 ≤ ((rd x6_3 x7_2) : Int) := of_decide_eq_true (by first | (with_reducible assumption) | assumption)
          have q112 : (rd x6_3 x7_2) < (l0_0.length : Int) := of_decide_eq_true (by first | (with_reducible assumption) | assumption)
          obtain ⟨ad112, A112_0, c112_0, e112, hx112_0, hl112_0, hi112_0⟩ := qt HR0_0.out (rd x6_3 x7_2) p112 q112
          have hw112_0 := hx112_0
          cases e112
          replace hx112_0 := (HB.out.cell (yoy w _ hx112_0)).trans hx112_0
          have HR112_0 := zA.mk hi112_0
          have HC112_0 := zA.mk hl112_0
          clear hi112_0 hl112_0
          replace p112 := eq_true p112
          replace q112 := eq_true q112
          have p113 : 0 ≤ (x8_3 : Int) := of_decide_eq_true (by first | (with_reducible assumption) | assumption)
          have q113 : x8_3 < ((zC l0_0 (rd x6_3 x7_2)).length : Int) := of_decide_eq_true (by first | (with_reducible assumption) | assumption)
          obtain ⟨ad113, e113, hx113_0, hx113_1⟩ := ZM HR112_0.out x8_3 p113 q113
          have hw113_1 := hx113_1
          have hw113_0 := hx113_0
          cases e113
          replace hx113_0 := (HB.out.cell (yoy w _ hx113_0)).trans hx113_0
          replace hx113_1 := (HB.out.cell (yoy w _ hx113_1)).trans hx113_1
          replace p113 := eq_true p113
          replace q113 := eq_true q113
          refine ZN (n := 13) (S := fun w' => w'.cell? ⟨gb101, 0, none⟩ = some (.slice (some ad112) l0_0.length c0_0) ∧ w'.cell? (ad111.add (x7_2).toNat) = some (.int .i64 (rd x6_3 x7_2)) ∧ w'.cell? (ad112.add ((rd x6_3 x7_2)).toNat) = some (.slice (some ad113) (zC l0_0 (rd x6_3 x7_2)).length c112_0) ∧ w'.cell? (ad113.add ((x8_3).toNat * 2)) = some (.int .i64 ((zF (zC l0_0 (rd x6_3 x7_2)) x8_3).f0)) ∧ w'.cell? ⟨(ad113.add ((x8_3).toNat * 2)).block, (ad113.add ((x8_3).toNat * 2)).off + 1, none⟩ = some (.int .i64 ((zF (zC l0_0 (rd x6_3 x7_2)) x8_3).f1))) (ds := []) #[false, false, false, false, false, false, false, false, false, false, false, false, false] (by kernel_rfl) rfl rfl ⟨(zJ BK101.out 0).trans rfl, hx111_0, ((HB.out.cell (yoy w _ hw112_0)).trans hw112_0), ((HB.out.cell (yoy w _ hw113_0)).trans hw113_0), ((HB.out.cell (yoy w _ hw113_1)).trans hw113_1)⟩ (fun hHeld => ?_); refine qx zR.zDc zR.zBp (fun HT_ HW_ => ?_)
          generalize wr.drew = w62 at HO_4 HO_6 BK101 HB HR112_0 hx111_0 hx112_0 hx113_0 hx113_1 hHeld ⊢
          refine zg (i := 0) (N := some 41) (v := ?_) (a' := ?_) #[true, false, false, false, false, false, false, false, false, false, false, false, false] rfl rfl (zb HT_.out (by kernel_rfl)) (fun _ _ _ h => h) (Or.inl ⟨by rfl, ?_⟩) ?_ ?_
          rotate_left
          next =>
           intro w'
           go_simp
           with_reducible rfl
          rotate_left
          next =>
           simp only [Act.put, yay, yby, ycy, zT, zU]
           rfl
          refine zg (i := 2) (N := some 43) (v := ?_) (a' := ?_) #[true, false, true, false, false, false, false, false, false, false, false, false, false] rfl rfl (zb HT_.out (by kernel_rfl)) (fun _ _ _ h => h) (Or.inl ⟨by rfl, ?_⟩) ?_ ?_
          rotate_left
          next =>
           intro w'
           go_simp
           with_reducible rfl
          rotate_left
          next =>
           simp only [Act.put, yay, yby, ycy, zT, zU]
           rfl
          refine zg (i := 3) (N := some 44) (v := ?_) (a' := ?_) #[true, false, true, true, false, false, false, false, false, false, false, false, false] rfl rfl (zb HT_.out (by kernel_rfl)) (fun _ _ _ h => h) (Or.inl ⟨by rfl, ?_⟩) ?_ ?_
          rotate_left
          next =>
           intro w'
           go_simp
           with_reducible rfl
          rotate_left
          next =>
           simp only [Act.put, yay, yby, ycy, zT, zU]
           rfl
          refine zg (i := 4) (N := some 45) (v := ?_) (a' := ?_) #[true, false, true, true, true, false, false, false, false, false, false, false, false] rfl rfl (zb HT_.out (by kernel_rfl)) (fun _ _ _ h => h) (Or.inl ⟨by rfl, ?_⟩) ?_ ?_
          rotate_left
          next =>
           intro w'
           go_simp
           with_reducible rfl
          rotate_left
          next =>
           simp only [Act.put, yay, yby, ycy, zT, zU]
           rfl
          refine zg (i := 8) (N := some 49) (v := ?_) (a' := ?_) #[true, false, true, true, true, false, false, false, true, false, false, false, false] rfl rfl (zb HT_.out (by kernel_rfl)) (fun _ _ _ h => h) (Or.inl ⟨by rfl, ?_⟩) ?_ ?_
          rotate_left
          next =>
           intro w'
           go_simp
           with_reducible rfl
          rotate_left
          next =>
           simp only [Act.put, yay, yby, ycy, zT, zU]
           rfl
          refine qQ (i := 1) (N := some 42) (v := ?_) (a' := ?_) #[true, true, true, true, true, false, false, false, true, false, false, false, false] rfl rfl (zn HT_.out HW_.out (by kernel_rfl)) (fun _ _ _ h => h) (Or.inl ⟨by rfl, ?_⟩) hHeld ?_ ?_
          rotate_left
          next =>
           rintro w' ⟨s0, s1, s2, s3, s4⟩
           go_simp
           with_reducible rfl
          rotate_left
          next =>
           simp only [Act.put, yay, yby, ycy, zT, zU]
           rfl
          refine qQ (i := 5) (N := some 46) (v := ?_) (a' := ?_) #[true, true, true, true, true, true, false, false, true, false, false, false, false] rfl rfl (zn HT_.out HW_.out (by kernel_rfl)) (fun _ _ _ h => h) (Or.inl ⟨by rfl, ?_⟩) hHeld ?_ ?_
          rotate_left
          next =>
           rintro w' ⟨s0, s1, s2, s3, s4⟩
           go_simp
           with_reducible rfl
          rotate_left
          next =>
           simp only [Act.put, yay, yby, ycy, zT, zU]
           rfl
          refine zg (i := 6) (N := some 47) (v := ?_) (a' := ?_) #[true, true, true, true, true, true, true, false, true, false, false, false, false] rfl rfl (zb HT_.out (by kernel_rfl)) (fun _ _ _ h => h) (Or.inl ⟨by rfl, ?_⟩) ?_ ?_
          rotate_left
          next =>
           intro w'
           go_simp
           with_reducible rfl
          rotate_left
          next =>
           simp only [Act.put, yay, yby, ycy, zT, zU]
           rfl
          refine qQ (i := 7) (N := some 48) (v := ?_) (a' := ?_) #[true, true, true, true, true, true, true, true, true, false, false, false, false] rfl rfl (zn HT_.out HW_.out (by kernel_rfl)) (fun _ _ _ h => h) (Or.inl ⟨by rfl, ?_⟩) hHeld ?_ ?_
          rotate_left
          next =>
           rintro w' ⟨s0, s1, s2, s3, s4⟩
           go_simp
           with_reducible rfl
          rotate_left
          next =>
           simp only [Act.put, yay, yby, ycy, zT, zU]
           rfl
          refine zg (i := 9) (N := some 50) (v := ?_) (a' := ?_) #[true, true, true, true, true, true, true, true, true, true, false, false, false] rfl rfl (zb HT_.out (by kernel_rfl)) (fun _ _ _ h => h) (Or.inl ⟨by rfl, ?_⟩) ?_ ?_
          rotate_left
          next =>
           intro w'
           go_simp
           with_reducible rfl
          rotate_left
          next =>
           simp only [Act.put, yay, yby, ycy, zT, zU]
           rfl
          refine qQ (i := 10) (N := some 51) (v := ?_) (a' := ?_) #[true, true, true, true, true, true, true, true, true, true, true, false, false] rfl rfl (zn HT_.out HW_.out (by kernel_rfl)) (fun _ _ _ h => h) (Or.inl ⟨by rfl, ?_⟩) hHeld ?_ ?_
          rotate_left
          next =>
           rintro w' ⟨s0, s1, s2, s3, s4⟩
           go_simp
           with_reducible rfl
          rotate_left
          next =>
           simp only [Act.put, yay, yby, ycy, zT, zU]
           rfl
          refine QH (i := 11) (N := some 9) #[true, true, true, true, true, true, true, true, true, true, true, true, false] rfl rfl (ZF HT_.out (by kernel_rfl)) (by decide) (fun K hK => ?_)
          refine Jo ?hg (N := 9) ?hd (cs := #[.int .i64 0, .int .i64 0]) (t := 74) ?hr ?_; (case hd => rfl); (case hg => rfl); (case hr => first | (go_simp; done) | (go_simp; rfl))
          intro gb114 hg w64 hbox hb
          have HS1_ := (hb.cell (yoy _ _ (hHeld.2.1))).trans (hHeld.2.1)
          have n0_ := zA.mk (Kd.qe (by (with_reducible repeat (first | apply Kd.zZ | apply Kd.za | apply Kd.zf)); exact HO_4.out) hb)
          have n1_ := zA.mk (Kd.qe (by (with_reducible repeat (first | apply Kd.zZ | apply Kd.za | apply Kd.zf)); exact HO_6.out) hb)
          have n2_ := zA.mk (zN (g := gb101) (o := .cells #[.slice (some ad112) l0_0.length c0_0] 28 (0, 0)) (by (with_reducible repeat (first | refine zI ?_ _ | refine zK ?_ | refine zH ?_ _)); exact BK101.out) hb)
          have n3_ := zA.mk (zO (by repeat (first | (with_reducible first | exact HB.out | apply zD | apply zB | apply zE | refine zG ?_ GE101.out) | exact HB.out)) hb)
          have n4_ := zA.mk (hbox)
          have n5_ := zA.mk ((by rw [hg]; exact (zP (by repeat (first | (with_reducible first | exact HB.out | apply zD | apply zB | apply zE | refine zG ?_ GE101.out) | exact HB.out))) : w.heap.size ≤ gb114))
          have n6_ := zA.mk ((by rw [hg]; exact (zP (by repeat (first | (with_reducible first | exact HB.out | apply zD | apply zB | apply zE | refine zG ?_ GE101.out) | exact HB.out))) : w.heap.size ≤ gb114))
          have n7_ := zA.mk ((by rw [hg]; exact Nat.ne_of_lt (qE (g := gb101) (o := .cells #[.slice (some ad112) l0_0.length c0_0] 28 (0, 0)) (by (with_reducible repeat (first | refine zI ?_ _ | refine zK ?_ | refine zH ?_ _)); exact BK101.out)) : gb101 ≠ gb114))
          have n8_ := zA.mk ((by rw [hg]; exact Nat.ne_of_gt (qE (g := gb101) (o := .cells #[.slice (some ad112) l0_0.length c0_0] 28 (0, 0)) (by (with_reducible repeat (first | refine zI ?_ _ | refine zK ?_ | refine zH ?_ _)); exact BK101.out)) : gb114 ≠ gb101))
          clear HO_4
          clear HO_6
          clear BK101
          clear HB
          have HO_4 := n0_
          have HO_6 := n1_
          have BK101 := n2_
          have HB := n3_
          have BK114 := n4_
          have GW114 := n5_
          have GE114 := n6_
          have NB101_114 := n7_
          have NB114_101 := n8_
          clear n0_ n1_ n2_ n3_ n4_ n5_ n6_ n7_ n8_
          clear hb hbox hg
          refine hK.out _ _ ⟨(zJ BK101.out 0).trans rfl, HS1_, ((HB.out.cell (yoy w _ hw112_0)).trans hw112_0), ((HB.out.cell (yoy w _ hw113_0)).trans hw113_0), ((HB.out.cell (yoy w _ hw113_1)).trans hw113_1)⟩ (fun hHeld => ?_)
          clear hK K
          refine ZQ (a' := ?_) ?_ ?_
          rotate_left
          next =>
           show Act.put _ (some 9) _ = _
           simp only [Act.put, yay, yby, ycy, zT, zU]
           rfl
          refine QH (i := 12) (N := none) #[true, true, true, true, true, true, true, true, true, true, true, true, true] rfl rfl (ZF HT_.out (by kernel_rfl)) (by decide) (fun K hK => ?_)
          have hs65 : w64.cell? ⟨gb114, 0, none⟩ = some (.int .i64 0) := (zJ BK114.out 0).trans rfl
          have hfs65 := zL BK114.out 0
          have hns65_0 := NB101_114.out
          have hms65_0 := NB114_101.out
          have hs66 : w64.cell? ⟨gb114, 1, none⟩ = some (.int .i64 0) := (zJ BK114.out 1).trans rfl
          have hfs66 := zL BK114.out 1
          have hns66_0 := NB101_114.out
          have hms66_0 := NB114_101.out
          refine zAJ (w1 := ?_) (by rfl) rfl ?_ ?_
          rotate_left
          next =>
           go_simp
           rfl
          refine hK.out _ _ ⟨((cell_far (p := ⟨gb114, _, none⟩) NB101_114.out _).trans (((cell_far (p := ⟨gb114, _, none⟩) NB101_114.out _).trans (hHeld.1)))), ((cell_far (p := ⟨gb114, _, none⟩) (by first | exact Kd.qj (Kd.QA HO_6.out BK114.out (by decide)) | (rw [zQ]; exact Kd.qj (Kd.QA HO_6.out BK114.out (by decide))) | (show (Addr.add _ _).block ≠ _; rw [zQ]; exact Kd.qj (Kd.QA HO_6.out BK114.out (by decide))) | (dsimp only; exact Kd.qj (Kd.QA HO_6.out BK114.out (by decide)))) _).trans (((cell_far (p := ⟨gb114, _, none⟩) (by first | exact Kd.qj (Kd.QA HO_6.out BK114.out (by decide)) | (rw [zQ]; exact Kd.qj (Kd.QA HO_6.out BK114.out (by decide))) | (show (Addr.add _ _).block ≠ _; rw [zQ]; exact Kd.qj (Kd.QA HO_6.out BK114.out (by decide))) | (dsimp only; exact Kd.qj (Kd.QA HO_6.out BK114.out (by decide)))) _).trans (hHeld.2.1)))), ((cell_far (p := ⟨gb114, _, none⟩) (by first | exact Nat.ne_of_lt (Nat.lt_of_lt_of_le (by have := yoy _ _ hw112_0; first | rwa [zQ] at this | exact this) GW114.out) | (rw [zQ]; exact Nat.ne_of_lt (Nat.lt_of_lt_of_le (by have := yoy _ _ hw112_0; first | rwa [zQ] at this | exact this) GW114.out)) | (show (Addr.add _ _).block ≠ _; rw [zQ]; exact Nat.ne_of_lt (Nat.lt_of_lt_of_le (by have := yoy _ _ hw112_0; first | rwa [zQ] at this | exact this) GW114.out)) | (dsimp only; exact Nat.ne_of_lt (Nat.lt_of_lt_of_le (by have := yoy _ _ hw112_0; first | rwa [zQ] at this | exact this) GW114.out))) _).trans (((cell_far (p := ⟨gb114, _, none⟩) (by first | exact Nat.ne_of_lt (Nat.lt_of_lt_of_le (by have := yoy _ _ hw112_0; first | rwa [zQ] at this | exact this) GW114.out) | (rw [zQ]; exact Nat.ne_of_lt (Nat.lt_of_lt_of_le (by have := yoy _ _ hw112_0; first | rwa [zQ] at this | exact this) GW114.out)) | (show (Addr.add _ _).block ≠ _; rw [zQ]; exact Nat.ne_of_lt (Nat.lt_of_lt_of_le (by have := yoy _ _ hw112_0; first | rwa [zQ] at this | exact this) GW114.out)) | (dsimp only; exact Nat.ne_of_lt (Nat.lt_of_lt_of_le (by have := yoy _ _ hw112_0; first | rwa [zQ] at this | exact this) GW114.out))) _).trans (hHeld.2.2.1)))), ((cell_far (p := ⟨gb114, _, none⟩) (by first | exact Nat.ne_of_lt (Nat.lt_of_lt_of_le (by have := yoy _ _ hw113_0; first | rwa [zQ] at this | exact this) GW114.out) | (rw [zQ]; exact Nat.ne_of_lt (Nat.lt_of_lt_of_le (by have := yoy _ _ hw113_0; first | rwa [zQ] at this | exact this) GW114.out)) | (show (Addr.add _ _).block ≠ _; rw [zQ]; exact Nat.ne_of_lt (Nat.lt_of_lt_of_le (by have := yoy _ _ hw113_0; first | rwa [zQ] at this | exact this) GW114.out)) | (dsimp only; exact Nat.ne_of_lt (Nat.lt_of_lt_of_le (by have := yoy _ _ hw113_0; first | rwa [zQ] at this | exact this) GW114.out))) _).trans (((cell_far (p := ⟨gb114, _, none⟩) (by first | exact Nat.ne_of_lt (Nat.lt_of_lt_of_le (by have := yoy _ _ hw113_0; first | rwa [zQ] at this | exact this) GW114.out) | (rw [zQ]; exact Nat.ne_of_lt (Nat.lt_of_lt_of_le (by have := yoy _ _ hw113_0; first | rwa [zQ] at this | exact this) GW114.out)) | (show (Addr.add _ _).block ≠ _; rw [zQ]; exact Nat.ne_of_lt (Nat.lt_of_lt_of_le (by have := yoy _ _ hw113_0; first | rwa [zQ] at this | exact this) GW114.out)) | (dsimp only; exact Nat.ne_of_lt (Nat.lt_of_lt_of_le (by have := yoy _ _ hw113_0; first | rwa [zQ] at this | exact this) GW114.out))) _).trans (hHeld.2.2.2.1)))), ((cell_far (p := ⟨gb114, _, none⟩) (by first | exact Nat.ne_of_lt (Nat.lt_of_lt_of_le (by have := yoy _ _ hw113_1; first | rwa [zQ] at this | exact this) GW114.out) | (rw [zQ]; exact Nat.ne_of_lt (Nat.lt_of_lt_of_le (by have := yoy _ _ hw113_1; first | rwa [zQ] at this | exact this) GW114.out)) | (show (Addr.add _ _).block ≠ _; rw [zQ]; exact Nat.ne_of_lt (Nat.lt_of_lt_of_le (by have := yoy _ _ hw113_1; first | rwa [zQ] at this | exact this) GW114.out)) | (dsimp only; exact Nat.ne_of_lt (Nat.lt_of_lt_of_le (by have := yoy _ _ hw113_1; first | rwa [zQ] at this | exact this) GW114.out))) _).trans (((cell_far (p := ⟨gb114, _, none⟩) (by first | exact Nat.ne_of_lt (Nat.lt_of_lt_of_le (by have := yoy _ _ hw113_1; first | rwa [zQ] at this | exact this) GW114.out) | (rw [zQ]; exact Nat.ne_of_lt (Nat.lt_of_lt_of_le (by have := yoy _ _ hw113_1; first | rwa [zQ] at this | exact this) GW114.out)) | (show (Addr.add _ _).block ≠ _; rw [zQ]; exact Nat.ne_of_lt (Nat.lt_of_lt_of_le (by have := yoy _ _ hw113_1; first | rwa [zQ] at this | exact this) GW114.out)) | (dsimp only; exact Nat.ne_of_lt (Nat.lt_of_lt_of_le (by have := yoy _ _ hw113_1; first | rwa [zQ] at this | exact this) GW114.out))) _).trans (hHeld.2.2.2.2))))⟩ (fun hHeld => ?_)
          clear hK K
          refine Zo (ZS HT_.out (by kernel_rfl)) ?_
          have hnb67 := NB114_101.out
          have hnc67 := NB101_114.out
          have hcz68_0 : w64.cell? ⟨gb114, 0, none⟩ = some (.int .i64 0) := (zJ BK114.out 0).trans rfl
          have hcz68_1 : w64.cell? ⟨gb114, 1, none⟩ = some (.int .i64 0) := (zJ BK114.out 1).trans rfl
          have hfz68_0 := zL BK114.out 0
          have hfz68_1 := zL BK114.out 1
          try go_wp2
          have n0_ : zA (Kd.R (Kd.int .i64) 2 ((w64.setCell ⟨gb114, 0, none⟩ (.int .i64 ((zF (zC l0_0 (rd x6_3 x7_2)) x8_3).f0))).setCell ⟨gb114, 1, none⟩ (.int .i64 ((zF (zC l0_0 (rd x6_3 x7_2)) x8_3).f1))) w.heap.size (fun k_ => some k_ ≠ (.slice (some ad111) x6_3.length co63 : Value).ownBlock) (.slice (some ⟨go13, 0, none⟩) x4_3.length co16) x4_3) := ⟨by (with_reducible repeat (first | apply Kd.zZ | apply Kd.za | apply Kd.zf)); exact Kd.qR (Kd.QG (p := ⟨gb114, 1, none⟩) (Kd.QG (p := ⟨gb114, 0, none⟩) (Kd.QX HO_4.out BK114.out (by decide)) (fun _ hk => hk.2) (.int .i64 ((zF (zC l0_0 (rd x6_3 x7_2)) x8_3).f0))) (fun _ hk => hk.2) (.int .i64 ((zF (zC l0_0 (rd x6_3 x7_2)) x8_3).f1))) (fun _ hk => hk.1)⟩
          have n1_ : zA (Kd.R (Kd.int .i64) 2 ((w64.setCell ⟨gb114, 0, none⟩ (.int .i64 ((zF (zC l0_0 (rd x6_3 x7_2)) x8_3).f0))).setCell ⟨gb114, 1, none⟩ (.int .i64 ((zF (zC l0_0 (rd x6_3 x7_2)) x8_3).f1))) w.heap.size (fun k_ => some k_ ≠ (.slice (some ⟨go13, 0, none⟩) x4_3.length co16 : Value).ownBlock) (.slice (some ad111) x6_3.length co63) x6_3) := ⟨by (with_reducible repeat (first | apply Kd.zZ | apply Kd.za | apply Kd.zf)); exact Kd.qR (Kd.QG (p := ⟨gb114, 1, none⟩) (Kd.QG (p := ⟨gb114, 0, none⟩) (Kd.QX HO_6.out BK114.out (by decide)) (fun _ hk => hk.2) (.int .i64 ((zF (zC l0_0 (rd x6_3 x7_2)) x8_3).f0))) (fun _ hk => hk.2) (.int .i64 ((zF (zC l0_0 (rd x6_3 x7_2)) x8_3).f1))) (fun _ hk => hk.1)⟩
          have n2_ : zA (((w64.setCell ⟨gb114, 0, none⟩ (.int .i64 ((zF (zC l0_0 (rd x6_3 x7_2)) x8_3).f0))).setCell ⟨gb114, 1, none⟩ (.int .i64 ((zF (zC l0_0 (rd x6_3 x7_2)) x8_3).f1))).heap[gb101]? = some (.cells #[.slice (some ad112) l0_0.length c0_0] 28 (0, 0))) := ⟨by (with_reducible repeat (first | refine zI ?_ _ | refine zK ?_ | refine zH ?_ _)); refine zv ?_ NB101_114.out _; (with_reducible repeat (first | refine zI ?_ _ | refine zK ?_ | refine zH ?_ _)); refine zv ?_ NB101_114.out _; (with_reducible repeat (first | refine zI ?_ _ | refine zK ?_ | refine zH ?_ _)); exact BK101.out⟩
          have n3_ : zA (((w64.setCell ⟨gb114, 0, none⟩ (.int .i64 ((zF (zC l0_0 (rd x6_3 x7_2)) x8_3).f0))).setCell ⟨gb114, 1, none⟩ (.int .i64 ((zF (zC l0_0 (rd x6_3 x7_2)) x8_3).f1))).heap[gb114]? = some (.cells #[.int .i64 ((zF (zC l0_0 (rd x6_3 x7_2)) x8_3).f0), .int .i64 ((zF (zC l0_0 (rd x6_3 x7_2)) x8_3).f1)] 74 (0, 0))) := ⟨by (with_reducible repeat (first | refine zI ?_ _ | refine zK ?_ | refine zH ?_ _)); refine qH (cs := #[.int .i64 ((zF (zC l0_0 (rd x6_3 x7_2)) x8_3).f0), .int .i64 0]) ?_ 1 _ rfl; (with_reducible repeat (first | refine zI ?_ _ | refine zK ?_ | refine zH ?_ _)); refine qH (cs := #[.int .i64 0, .int .i64 0]) ?_ 0 _ rfl; (with_reducible repeat (first | refine zI ?_ _ | refine zK ?_ | refine zH ?_ _)); exact BK114.out⟩
          have n4_ : zA (Below w.heap.size w ((w64.setCell ⟨gb114, 0, none⟩ (.int .i64 ((zF (zC l0_0 (rd x6_3 x7_2)) x8_3).f0))).setCell ⟨gb114, 1, none⟩ (.int .i64 ((zF (zC l0_0 (rd x6_3 x7_2)) x8_3).f1)))) := ⟨by repeat (first | (with_reducible first | exact HB.out | apply zD | apply zB | apply zE | refine zG ?_ GE101.out | refine zG ?_ GE114.out) | exact HB.out)⟩
          (try clear HO_4)
          (try clear HO_6)
          (try clear BK101)
          (try clear BK114)
          (try clear HB)
          generalize ((w64.setCell ⟨gb114, 0, none⟩ (.int .i64 ((zF (zC l0_0 (rd x6_3 x7_2)) x8_3).f0))).setCell ⟨gb114, 1, none⟩ (.int .i64 ((zF (zC l0_0 (rd x6_3 x7_2)) x8_3).f1))) = w69 at n0_ n1_ n2_ n3_ n4_ ⊢
          have HO_4 := n0_
          have HO_6 := n1_
          have BK101 := n2_
          have BK114 := n3_
          have HB := n4_
          clear n0_ n1_ n2_ n3_ n4_
          have n0_ := zA.mk (Kd.zf HO_4.out)
          have n1_ := zA.mk (Kd.zf HO_6.out)
          have n2_ := zA.mk (zK BK101.out)
          have n3_ := zA.mk (zK BK114.out)
          have n4_ := zA.mk (zE HB.out)
          clear HO_4
          clear HO_6
          clear BK101
          clear BK114
          clear HB
          have HO_4 := n0_
          have HO_6 := n1_
          have BK101 := n2_
          have BK114 := n3_
          have HB := n4_
          clear n0_ n1_ n2_ n3_ n4_
          have p115 : 0 ≤ (x7_2 : Int) := of_decide_eq_true (by first | (with_reducible assumption) | assumption)
          have q115 : x7_2 < (x6_3.length : Int) := of_decide_eq_true (by first | (with_reducible assumption) | assumption)
          obtain ⟨ad115, e115, hx115_0⟩ := Kd.qi (Kd.zj HO_6.out).2.2 x7_2 p115 q115
          obtain rfl : ad111 = ad115 := (by injection e115)
          replace p115 := eq_true p115
          replace q115 := eq_true q115
          have p116 : 0 ≤ ((rd x6_3 x7_2) : Int) := of_decide_eq_true (by first | (with_reducible assumption) | assumption)
          have q116 : (rd x6_3 x7_2) < (x4_3.length : Int) := of_decide_eq_true (by first | (with_reducible assumption) | assumption)
          obtain ⟨ad116, e116, hx116_0⟩ := Kd.qi (Kd.zj HO_4.out).2.2 (rd x6_3 x7_2) p116 q116
          obtain rfl : (⟨go13, 0, none⟩ : Addr) = ad116 := (by injection e116)
          (first | simp only [add_plain] at hx116_0 | simp only [Qw] at hx116_0 | simp only [Addr.add, Nat.zero_add] at hx116_0 | skip)
          replace p116 := eq_true p116
          replace q116 := eq_true q116
          refine ZN (n := 13) (S := fun w' => w'.cell? ⟨gb114, 0, none⟩ = some (.int .i64 ((zF (zC l0_0 (rd x6_3 x7_2)) x8_3).f0)) ∧ w'.cell? ⟨gb114, 1, none⟩ = some (.int .i64 ((zF (zC l0_0 (rd x6_3 x7_2)) x8_3).f1)) ∧ w'.cell? (ad111.add (x7_2).toNat) = some (.int .i64 (rd x6_3 x7_2)) ∧ w'.cell? ⟨go13, ((rd x6_3 x7_2)).toNat, none⟩ = some (.int .i64 (rd x4_3 (rd x6_3 x7_2)))) (ds := []) #[false, false, false, false, false, false, false, false, false, false, false, false, false] (by kernel_rfl) rfl rfl ⟨(zJ BK114.out 0).trans rfl, (zJ BK114.out 1).trans rfl, hx115_0, hx116_0⟩ (fun hHeld => ?_); refine qx zR.zCE zR.zAg (fun HT_ HW_ => ?_)
          generalize w69.drew = w70 at HO_4 HO_6 BK101 BK114 HB hx115_0 hx116_0 hHeld ⊢
          refine zg (i := 0) (N := some 55) (v := ?_) (a' := ?_) #[true, false, false, false, false, false, false, false, false, false, false, false, false] rfl rfl (zb HT_.out (by kernel_rfl)) (fun _ _ _ h => h) (Or.inl ⟨by rfl, ?_⟩) ?_ ?_
          rotate_left
          next =>
           intro w'
           go_simp
           with_reducible rfl
          rotate_left
          next =>
           simp only [Act.put, yay, yby, ycy, zT, zU]
           rfl
          refine zg (i := 1) (N := some 56) (v := ?_) (a' := ?_) #[true, true, false, false, false, false, false, false, false, false, false, false, false] rfl rfl (zb HT_.out (by kernel_rfl)) (fun _ _ _ h => h) (Or.inl ⟨by rfl, ?_⟩) ?_ ?_
          rotate_left
          next =>
           intro w'
           go_simp
           with_reducible rfl
          rotate_left
          next =>
           simp only [Act.put, yay, yby, ycy, zT, zU]
           rfl
          refine zg (i := 2) (N := some 57) (v := ?_) (a' := ?_) #[true, true, true, false, false, false, false, false, false, false, false, false, false] rfl rfl (zb HT_.out (by kernel_rfl)) (fun _ _ _ h => h) (Or.inl ⟨by rfl, ?_⟩) ?_ ?_
          rotate_left
          next =>
           intro w'
           go_simp
           with_reducible rfl
          rotate_left
          next =>
           simp only [Act.put, yay, yby, ycy, zT, zU]
           rfl
          refine zg (i := 3) (N := some 58) (v := ?_) (a' := ?_) #[true, true, true, true, false, false, false, false, false, false, false, false, false] rfl rfl (zb HT_.out (by kernel_rfl)) (fun _ _ _ h => h) (Or.inl ⟨by rfl, ?_⟩) ?_ ?_
          rotate_left
          next =>
           intro w'
           go_simp
           with_reducible rfl
          rotate_left
          next =>
           simp only [Act.put, yay, yby, ycy, zT, zU]
           rfl
          refine zg (i := 8) (N := some 63) (v := ?_) (a' := ?_) #[true, true, true, true, false, false, false, false, true, false, false, false, false] rfl rfl (zb HT_.out (by kernel_rfl)) (fun _ _ _ h => h) (Or.inl ⟨by rfl, ?_⟩) ?_ ?_
          rotate_left
          next =>
           intro w'
           go_simp
           with_reducible rfl
          rotate_left
          next =>
           simp only [Act.put, yay, yby, ycy, zT, zU]
           rfl
          refine qQ (i := 4) (N := some 59) (v := ?_) (a' := ?_) #[true, true, true, true, true, false, false, false, true, false, false, false, false] rfl rfl (zn HT_.out HW_.out (by kernel_rfl)) (fun _ _ _ h => h) (Or.inl ⟨by rfl, ?_⟩) hHeld ?_ ?_
          rotate_left
          next =>
           rintro w' ⟨s0, s1, s2, s3⟩
           go_simp
           with_reducible rfl
          rotate_left
          next =>
           simp only [Act.put, yay, yby, ycy, zT, zU]
           rfl
          refine zg (i := 5) (N := some 60) (v := ?_) (a' := ?_) #[true, true, true, true, true, true, false, false, true, false, false, false, false] rfl rfl (zb HT_.out (by kernel_rfl)) (fun _ _ _ h => h) (Or.inl ⟨by rfl, ?_⟩) ?_ ?_
          rotate_left
          next =>
           intro w'
           go_simp
           with_reducible rfl
          rotate_left
          next =>
           simp only [Act.put, yay, yby, ycy, zT, zU]
           rfl
          refine qQ (i := 6) (N := some 61) (v := ?_) (a' := ?_) #[true, true, true, true, true, true, true, false, true, false, false, false, false] rfl rfl (zn HT_.out HW_.out (by kernel_rfl)) (fun _ _ _ h => h) (Or.inl ⟨by rfl, ?_⟩) hHeld ?_ ?_
          rotate_left
          next =>
           rintro w' ⟨s0, s1, s2, s3⟩
           go_simp
           with_reducible rfl
          rotate_left
          next =>
           simp only [Act.put, yay, yby, ycy, zT, zU]
           rfl
          refine zg (i := 7) (N := some 62) (v := ?_) (a' := ?_) #[true, true, true, true, true, true, true, true, true, false, false, false, false] rfl rfl (zb HT_.out (by kernel_rfl)) (fun _ _ _ h => h) (Or.inl ⟨by rfl, ?_⟩) ?_ ?_
          rotate_left
          next =>
           intro w'
           go_simp
           with_reducible rfl
          rotate_left
          next =>
           simp only [Act.put, yay, yby, ycy, zT, zU]
           rfl
          refine qQ (i := 9) (N := some 64) (v := ?_) (a' := ?_) #[true, true, true, true, true, true, true, true, true, true, false, false, false] rfl rfl (zn HT_.out HW_.out (by kernel_rfl)) (fun _ _ _ h => h) (Or.inl ⟨by rfl, ?_⟩) hHeld ?_ ?_
          rotate_left
          next =>
           rintro w' ⟨s0, s1, s2, s3⟩
           go_simp
           with_reducible rfl
          rotate_left
          next =>
           simp only [Act.put, yay, yby, ycy, zT, zU]
           rfl
          refine QH (i := 10) (N := some 65) #[true, true, true, true, true, true, true, true, true, true, true, false, false] rfl rfl (ZF HT_.out (by kernel_rfl)) (by decide) (fun K hK => ?_)
          refine Zv Try.func81 (by kernel_rfl) rfl #[.int .i64 ((zF (zC l0_0 (rd x6_3 x7_2)) x8_3).f1)] (by rfl) rfl rfl (by (try simp only [yiy, yjy, yky]); first | done | rfl | (simp only [yly, ymy]; rfl)) ?_
          with_reducible refine (zi.calls k3 ((zF (zC l0_0 (rd x6_3 x7_2)) x8_3).f1) t117 _ A39.out).mono ?_
          rintro e w71 ⟨rfl, hb⟩
          have HS2_ := (hb.cell (yoy _ _ (hHeld.2.2.1))).trans (hHeld.2.2.1)
          have HS3_ := (hb.cell (yoy _ _ (hHeld.2.2.2))).trans (hHeld.2.2.2)
          refine ⟨_, rfl, ?_⟩
          have n0_ := zA.mk (Kd.qe (by (with_reducible repeat (first | apply Kd.zZ | apply Kd.za | apply Kd.zf)); exact HO_4.out) hb)
          have n1_ := zA.mk (Kd.qe (by (with_reducible repeat (first | apply Kd.zZ | apply Kd.za | apply Kd.zf)); exact HO_6.out) hb)
          have n2_ := zA.mk (zN (g := gb101) (o := .cells #[.slice (some ad112) l0_0.length c0_0] 28 (0, 0)) (by (with_reducible repeat (first | refine zI ?_ _ | refine zK ?_ | refine zH ?_ _)); exact BK101.out) hb)
          have n3_ := zA.mk (zN (g := gb114) (o := .cells #[.int .i64 ((zF (zC l0_0 (rd x6_3 x7_2)) x8_3).f0), .int .i64 ((zF (zC l0_0 (rd x6_3 x7_2)) x8_3).f1)] 74 (0, 0)) (by (with_reducible repeat (first | refine zI ?_ _ | refine zK ?_ | refine zH ?_ _)); exact BK114.out) hb)
          have n4_ := zA.mk (zO (by repeat (first | (with_reducible first | exact HB.out | apply zD | apply zB | apply zE | refine zG ?_ GE101.out | refine zG ?_ GE114.out) | exact HB.out)) hb)
          clear HO_4
          clear HO_6
          clear BK101
          clear BK114
          clear HB
          have HO_4 := n0_
          have HO_6 := n1_
          have BK101 := n2_
          have BK114 := n3_
          have HB := n4_
          clear n0_ n1_ n2_ n3_ n4_
          (try clear hb)
          (try clear hb2)
          (try clear hk)
          (try clear hi)
          refine hK.out _ _ ⟨(zJ BK114.out 0).trans rfl, (zJ BK114.out 1).trans rfl, HS2_, HS3_⟩ (fun hHeld => ?_)
          clear hK K
          refine ZQ (a' := ?_) ?_ ?_
          rotate_left
          next =>
           show Act.put _ (some 65) _ = _
           simp only [Act.put, yay, yby, ycy, zT, zU]
           rfl
          refine zg (i := 11) (N := some 66) (v := ?_) (a' := ?_) #[true, true, true, true, true, true, true, true, true, true, true, true, false] rfl rfl (zb HT_.out (by kernel_rfl)) (fun _ _ _ h => h) (Or.inl ⟨by rfl, ?_⟩) ?_ ?_
          rotate_left
          next =>
           intro w'
           go_simp
           with_reducible rfl
          rotate_left
          next =>
           simp only [Act.put, yay, yby, ycy, zT, zU]
           rfl
          refine zg (i := 12) (N := some 10) (v := ?_) (a' := ?_) #[true, true, true, true, true, true, true, true, true, true, true, true, true] rfl rfl (zb HT_.out (by kernel_rfl)) (fun _ _ _ h => h) (Or.inl ⟨by rfl, ?_⟩) ?_ ?_
          rotate_left
          next =>
           intro w'
           go_simp
           with_reducible rfl
          rotate_left
          next =>
           simp only [Act.put, yay, yby, ycy, zT, zU]
           rfl
          refine Zo (ZS HT_.out (by kernel_rfl)) ?_
          have hcz72_0 : w71.cell? ⟨gb114, 0, none⟩ = some (.int .i64 ((zF (zC l0_0 (rd x6_3 x7_2)) x8_3).f0)) := (zJ BK114.out 0).trans rfl
          have hcz72_1 : w71.cell? ⟨gb114, 1, none⟩ = some (.int .i64 ((zF (zC l0_0 (rd x6_3 x7_2)) x8_3).f1)) := (zJ BK114.out 1).trans rfl
          have hfz72_0 := zL BK114.out 0
          have hfz72_1 := zL BK114.out 1
          have p118 : 0 ≤ (((zF (zC l0_0 (rd x6_3 x7_2)) x8_3).f0) : Int) := of_decide_eq_true (by first | (with_reducible assumption) | assumption)
          have q118 : ((zF (zC l0_0 (rd x6_3 x7_2)) x8_3).f0) < (x4_3.length : Int) := of_decide_eq_true (by first | (with_reducible assumption) | assumption)
          obtain ⟨ad118, e118, hx118_0⟩ := Kd.qi (Kd.zj HO_4.out).2.2 ((zF (zC l0_0 (rd x6_3 x7_2)) x8_3).f0) p118 q118
          obtain rfl : (⟨go13, 0, none⟩ : Addr) = ad118 := (by injection e118)
          (first | simp only [add_plain] at hx118_0 | simp only [Qw] at hx118_0 | simp only [Addr.add, Nat.zero_add] at hx118_0 | skip)
          replace p118 := eq_true p118
          replace q118 := eq_true q118
          have p43 : 0 ≤ (((zF (zC l0_0 (rd x6_3 x7_2)) x8_3).f0) : Int) := of_decide_eq_true (by first | (with_reducible assumption) | assumption)
          have q43 : (((zF (zC l0_0 (rd x6_3 x7_2)) x8_3).f0) : Int) < ((x4_3.length : Int) : Int) := of_decide_eq_true (by first | (with_reducible assumption) | assumption)
          obtain ⟨hx43_0, hf43_0⟩ := Kd.QL 0 HO_4.out (((zF (zC l0_0 (rd x6_3 x7_2)) x8_3).f0) : Int) p43 q43
          replace p43 := eq_true p43
          replace q43 := eq_true q43
          obtain ⟨hy73_, hz73_⟩ := Kd.QL 0 HO_4.out (((zF (zC l0_0 (rd x6_3 x7_2)) x8_3).f0) : Int) (of_decide_eq_true (by first | (with_reducible assumption) | assumption)) (of_decide_eq_true (by first | (with_reducible assumption) | assumption))
          have HP73 := Kd.zAB HO_4.out (((zF (zC l0_0 (rd x6_3 x7_2)) x8_3).f0) : Int) (wrap64 ((wrap64 (-(rd x4_3 (rd x6_3 x7_2)))) * t117))
          try go_wp2_with (first | ((with_reducible refine Zk (t := 2) (p := 77) rfl ?_); refine ZW (t := 2) (p := 77) (v := ?vo_w74) (w1 := (w71.setCell ⟨go13, (((zF (zC l0_0 (rd x6_3 x7_2)) x8_3).f0) : Int).toNat, none⟩ (.int .i64 (wrap64 ((wrap64 (-(rd x4_3 (rd x6_3 x7_2)))) * t117))))) ?hg ?ho ?hn ?hr ?_; (case ho => rfl); (case hg => rfl); (case hn => rfl); (case hr => first | (go_simp; done) | (go_simp; rfl)); intro w74 hw; have hg : w71.grownBy w74 (some go13) := (by rw [hw]; exact HP73.2); have hp_ : Kd.R (Kd.int .i64) 2 w74 w.heap.size (fun k_ => some k_ ≠ (.slice (some ad111) x6_3.length co63 : Value).ownBlock) (.slice (some ⟨go13, 0, none⟩) x4_3.length co16) y119 := (by rw [hw, Ny119.out]; exact HP73.1); clear HP73; have n0_ := zA.mk (hp_); have n1_ := zA.mk (Kd.ZL (v := (.slice (some ⟨go13, 0, none⟩) x4_3.length co16)) (v1 := (.slice (some ⟨go13, 0, none⟩) x4_3.length co16)) (ok := (fun _ => True)) (by (with_reducible repeat (first | apply Kd.zZ | apply Kd.za | apply Kd.zf)); exact Kd.qR HO_6.out (fun _ hk => ⟨trivial, hk⟩)) hg (.inl rfl)); have n2_ := zA.mk (zu (g := gb101) (o := .cells #[.slice (some ad112) l0_0.length c0_0] 28 (0, 0)) (by (with_reducible repeat (first | refine zI ?_ _ | refine zK ?_ | refine zH ?_ _)); exact BK101.out) hg (Kd.QA HO_4.out BK101.out (by decide))); have n3_ := zA.mk (zu (g := gb114) (o := .cells #[.int .i64 ((zF (zC l0_0 (rd x6_3 x7_2)) x8_3).f0), .int .i64 ((zF (zC l0_0 (rd x6_3 x7_2)) x8_3).f1)] 74 (0, 0)) (by (with_reducible repeat (first | refine zI ?_ _ | refine zK ?_ | refine zH ?_ _)); exact BK114.out) hg (Kd.QA HO_4.out BK114.out (by decide))); have n4_ := zA.mk ((by rw [hw]; exact zG (HB.out) GB13.out : Below w.heap.size w w74)); clear HO_4; clear HO_6; clear BK101; clear BK114; clear HB; have HO_4 := n0_; have HO_6 := n1_; have BK101 := n2_; have BK114 := n3_; have HB := n4_; clear n0_ n1_ n2_ n3_ n4_; clear hg hw hp_; have hcz75_0 : w74.cell? ⟨gb114, 0, none⟩ = some (.int .i64 ((zF (zC l0_0 (rd x6_3 x7_2)) x8_3).f0)) := (zJ BK114.out 0).trans rfl; have hcz75_1 : w74.cell? ⟨gb114, 1, none⟩ = some (.int .i64 ((zF (zC l0_0 (rd x6_3 x7_2)) x8_3).f1)) := (zJ BK114.out 1).trans rfl; have hfz75_0 := zL BK114.out 0; have hfz75_1 := zL BK114.out 1) | ((with_reducible refine Zd (b := .append) (xs := #[.tmp 78, .tmp 81]) rfl ?_); at_builtin; refine Kd.Qj (Kd.int .i64) (w0 := w) w.heap.size rfl (.tmp 78) (.tmp 81) 41 2 (.int .i64 0) 8 rfl Try.underlying41 JC rfl (by decide) (by omega) (.slice (some ad111) x6_3.length co63) x6_3 ((zF (zC l0_0 (rd x6_3 x7_2)) x8_3).f0) [.int .i64 ((zF (zC l0_0 (rd x6_3 x7_2)) x8_3).f0)] (fun k_ => some k_ ≠ (.slice (some ⟨go13, 0, none⟩) x4_3.length co16 : Value).ownBlock) (fun _ => False) rfl rfl ?aP (fun _ hk => hk.elim) ?aF ?aO ?aB ?aS ?aL ?_; (case aP => exact rfl); (case aB => exact (by repeat (first | (with_reducible first | exact HB.out | apply zD | apply zB | apply zE | refine zG ?_ GE101.out | refine zG ?_ GE114.out) | exact HB.out))); (case aF => exact (fun k_ hk => Kd.JF (Kd.zAS (by (with_reducible repeat (first | apply Kd.zZ | apply Kd.za | apply Kd.zf)); exact HO_4.out)) k_ hk)); (case aO => exact (by (with_reducible repeat (first | apply Kd.zZ | apply Kd.za | apply Kd.zf)); exact Kd.qR HO_6.out (fun _ hk => hk.2))); (case aS => exact (zP (by repeat (first | (with_reducible first | exact HB.out | apply zD | apply zB | apply zE | refine zG ?_ GE101.out | refine zG ?_ GE114.out) | exact HB.out)))); (case aL => have := LMc44.out; omega); intro v121 w76 ho hb hg hat; rw [← Ny120.out] at ho; have n0_ := zA.mk (Kd.ZL (ok := (fun _ => True)) (by (with_reducible repeat (first | apply Kd.zZ | apply Kd.za | apply Kd.zf)); exact Kd.qR HO_4.out (fun _ hk => ⟨trivial, hk⟩)) hg hat); have n1_ := zA.mk (zu (g := gb101) (o := .cells #[.slice (some ad112) l0_0.length c0_0] 28 (0, 0)) (by (with_reducible repeat (first | refine zI ?_ _ | refine zK ?_ | refine zH ?_ _)); exact BK101.out) hg (Kd.QA HO_6.out BK101.out (by decide))); have n2_ := zA.mk (zu (g := gb114) (o := .cells #[.int .i64 ((zF (zC l0_0 (rd x6_3 x7_2)) x8_3).f0), .int .i64 ((zF (zC l0_0 (rd x6_3 x7_2)) x8_3).f1)] 74 (0, 0)) (by (with_reducible repeat (first | refine zI ?_ _ | refine zK ?_ | refine zH ?_ _)); exact BK114.out) hg (Kd.QA HO_6.out BK114.out (by decide))); have n3_ := zA.mk (hb); have n4_ := zA.mk (ho); clear HO_4; clear BK101; clear BK114; clear HB; clear HO_6; have HO_4 := n0_; have BK101 := n1_; have BK114 := n2_; have HB := n3_; have HO122 := n4_; clear n0_ n1_ n2_ n3_ n4_; clear ho hb hg hat; have hcz77_0 : w76.cell? ⟨gb114, 0, none⟩ = some (.int .i64 ((zF (zC l0_0 (rd x6_3 x7_2)) x8_3).f0)) := (zJ BK114.out 0).trans rfl; have hcz77_1 : w76.cell? ⟨gb114, 1, none⟩ = some (.int .i64 ((zF (zC l0_0 (rd x6_3 x7_2)) x8_3).f1)) := (zJ BK114.out 1).trans rfl; have hfz77_0 := zL BK114.out 0; have hfz77_1 := zL BK114.out 1; have p123 : 0 ≤ (((zF (zC l0_0 (rd x6_3 x7_2)) x8_3).f0) : Int) := of_decide_eq_true (by first | (with_reducible assumption) | assumption); have q123 : ((zF (zC l0_0 (rd x6_3 x7_2)) x8_3).f0) < (y119.length : Int) := (by have h_ : (((zF (zC l0_0 (rd x6_3 x7_2)) x8_3).f0) : Int) < ((x4_3.length : Int) : Int) := of_decide_eq_true (by first | (with_reducible assumption) | assumption); first | (have e_ := (Kd.zj HO_4.out).1; omega) | simpa only [Ny119.out, List.length_set] using h_); have ql123 : ((((zF (zC l0_0 (rd x6_3 x7_2)) x8_3).f0) : Int) < ((x4_3.length : Int) : Int)) = True := eq_true (of_decide_eq_true (by first | (with_reducible assumption) | assumption)); obtain ⟨ad123, e123, hx123_0⟩ := Kd.qi (Kd.zj HO_4.out).2.2 ((zF (zC l0_0 (rd x6_3 x7_2)) x8_3).f0) p123 q123; obtain rfl : (⟨go13, 0, none⟩ : Addr) = ad123 := (by injection e123); (first | simp only [add_plain] at hx123_0 | simp only [Qw] at hx123_0 | simp only [Addr.add, Nat.zero_add] at hx123_0 | skip); replace p123 := eq_true p123; replace q123 := eq_true q123))
          go_ret2
          exact ⟨_, by first | rfl | (simp [zX, zY] <;> rfl) | (simp [*, zX, zY] <;> rfl), by first | exact Kd.Jl _ _ _ _ _ | exact Kd.zBP _ _ _ _ _ | exact Kd.zBQ _ _ _ _ _ | exact Kd.zBJ _ _ _ _ _ | exact Kd.zAq _ _ _ _ _, by repeat (first | (with_reducible first | exact HB.out | apply zD | apply zB | apply zE | refine zG ?_ GE101.out | refine zG ?_ GE114.out) | exact HB.out)⟩
        next =>
         rw [if_neg c42] at H
         have c42b0 : ((rd x4_3 ((zF (zC l0_0 (rd x6_3 x7_2)) x8_3).f0)) == 0) = false := beq_eq_false_iff_ne.mpr c42
         have c42b1 : ((rd x4_3 ((zF (zC l0_0 (rd x6_3 x7_2)) x8_3).f0)) != 0) = true := bne_iff_ne.mpr c42
         by_cases c78 : (rd x4_3 ((zF (zC l0_0 (rd x6_3 x7_2)) x8_3).f0)) = (wrap64 ((wrap64 (-(rd x4_3 (rd x6_3 x7_2)))) * t117))
         next =>
          rw [if_pos c78] at H
          have c78b0 : ((rd x4_3 ((zF (zC l0_0 (rd x6_3 x7_2)) x8_3).f0)) == (wrap64 ((wrap64 (-(rd x4_3 (rd x6_3 x7_2)))) * t117))) = true := beq_iff_eq.mpr c78
          have c78b1 : ((rd x4_3 ((zF (zC l0_0 (rd x6_3 x7_2)) x8_3).f0)) != (wrap64 ((wrap64 (-(rd x4_3 (rd x6_3 x7_2)))) * t117))) = false := bne_eq_false_iff_eq.mpr c78
          clear c78
          have H' := zA.mk H
          clear H
          try go_wp2
          have n0_ := zA.mk (Kd.zf HO_4.out)
          have n1_ := zA.mk (Kd.zf HO_6.out)
          have n2_ := zA.mk (zK BK101.out)
          have n3_ := zA.mk (zE HB.out)
          clear HO_4
          clear HO_6
          clear BK101
          clear HB
          have HO_4 := n0_
          have HO_6 := n1_
          have BK101 := n2_
          have HB := n3_
          clear n0_ n1_ n2_ n3_
          obtain ⟨Ao80, co80, eo80⟩ := Kd.qv HO_6.out
          (first | subst eo80 | (injection eo80 with f1_ f2_ f3_; have f4_ := f1_.symm; have f5_ := f3_.symm; clear f1_ f2_ f3_; subst f4_; subst f5_))
          have p111 : 0 ≤ (x7_2 : Int) := of_decide_eq_true (by first | (with_reducible assumption) | assumption)
          have q111 : x7_2 < (x6_3.length : Int) := of_decide_eq_true (by first | (with_reducible assumption) | assumption)
          obtain ⟨ad111, e111, hx111_0⟩ := Kd.qi (Kd.zj HO_6.out).2.2 x7_2 p111 q111
          cases e111
          replace p111 := eq_true p111
          replace q111 := eq_true q111
          have p112 : 0 ≤ ((rd x6_3 x7_2) : Int) := of_decide_eq_true (by first | (with_reducible assumption) | assumption)
          have q112 : (rd x6_3 x7_2) < (l0_0.length : Int) := of_decide_eq_true (by first | (with_reducible assumption) | assumption)
          obtain ⟨ad112, A112_0, c112_0, e112, hx112_0, hl112_0, hi112_0⟩ := qt HR0_0.out (rd x6_3 x7_2) p112 q112
          have hw112_0 := hx112_0
          cases e112
          replace hx112_0 := (HB.out.cell (yoy w _ hx112_0)).trans hx112_0
          have HR112_0 := zA.mk hi112_0
          have HC112_0 := zA.mk hl112_0
          clear hi112_0 hl112_0
          replace p112 := eq_true p112
          replace q112 := eq_true q112
          have p113 : 0 ≤ (x8_3 : Int) := of_decide_eq_true (by first | (with_reducible assumption) | assumption)
          have q113 : x8_3 < ((zC l0_0 (rd x6_3 x7_2)).length : Int) := of_decide_eq_true (by first | (with_reducible assumption) | assumption)
          obtain ⟨ad113, e113, hx113_0, hx113_1⟩ := ZM HR112_0.out x8_3 p113 q113
          have hw113_1 := hx113_1
          have hw113_0 := hx113_0
          cases e113
          replace hx113_0 := (HB.out.cell (yoy w _ hx113_0)).trans hx113_0
          replace hx113_1 := (HB.out.cell (yoy w _ hx113_1)).trans hx113_1
          replace p113 := eq_true p113
          replace q113 := eq_true q113
          refine ZN (n := 13) (S := fun w' => w'.cell? ⟨gb101, 0, none⟩ = some (.slice (some ad112) l0_0.length c0_0) ∧ w'.cell? (ad111.add (x7_2).toNat) = some (.int .i64 (rd x6_3 x7_2)) ∧ w'.cell? (ad112.add ((rd x6_3 x7_2)).toNat) = some (.slice (some ad113) (zC l0_0 (rd x6_3 x7_2)).length c112_0) ∧ w'.cell? (ad113.add ((x8_3).toNat * 2)) = some (.int .i64 ((zF (zC l0_0 (rd x6_3 x7_2)) x8_3).f0)) ∧ w'.cell? ⟨(ad113.add ((x8_3).toNat * 2)).block, (ad113.add ((x8_3).toNat * 2)).off + 1, none⟩ = some (.int .i64 ((zF (zC l0_0 (rd x6_3 x7_2)) x8_3).f1))) (ds := []) #[false, false, false, false, false, false, false, false, false, false, false, false, false] (by kernel_rfl) rfl rfl ⟨(zJ BK101.out 0).trans rfl, hx111_0, ((HB.out.cell (yoy w _ hw112_0)).trans hw112_0), ((HB.out.cell (yoy w _ hw113_0)).trans hw113_0), ((HB.out.cell (yoy w _ hw113_1)).trans hw113_1)⟩ (fun hHeld => ?_); refine qx zR.zDc zR.zBp (fun HT_ HW_ => ?_)
          generalize wr.drew = w79 at HO_4 HO_6 BK101 HB HR112_0 hx111_0 hx112_0 hx113_0 hx113_1 hHeld ⊢
          refine zg (i := 0) (N := some 41) (v := ?_) (a' := ?_) #[true, false, false, false, false, false, false, false, false, false, false, false, false] rfl rfl (zb HT_.out (by kernel_rfl)) (fun _ _ _ h => h) (Or.inl ⟨by rfl, ?_⟩) ?_ ?_
          rotate_left
          next =>
           intro w'
           go_simp
           with_reducible rfl
          rotate_left
          next =>
           simp only [Act.put, yay, yby, ycy, zT, zU]
           rfl
          refine zg (i := 2) (N := some 43) (v := ?_) (a' := ?_) #[true, false, true, false, false, false, false, false, false, false, false, false, false] rfl rfl (zb HT_.out (by kernel_rfl)) (fun _ _ _ h => h) (Or.inl ⟨by rfl, ?_⟩) ?_ ?_
          rotate_left
          next =>
           intro w'
           go_simp
           with_reducible rfl
          rotate_left
          next =>
           simp only [Act.put, yay, yby, ycy, zT, zU]
           rfl
          refine zg (i := 3) (N := some 44) (v := ?_) (a' := ?_) #[true, false, true, true, false, false, false, false, false, false, false, false, false] rfl rfl (zb HT_.out (by kernel_rfl)) (fun _ _ _ h => h) (Or.inl ⟨by rfl, ?_⟩) ?_ ?_
          rotate_left
          next =>
           intro w'
           go_simp
           with_reducible rfl
          rotate_left
          next =>
           simp only [Act.put, yay, yby, ycy, zT, zU]
           rfl
          refine zg (i := 4) (N := some 45) (v := ?_) (a' := ?_) #[true, false, true, true, true, false, false, false, false, false, false, false, false] rfl rfl (zb HT_.out (by kernel_rfl)) (fun _ _ _ h => h) (Or.inl ⟨by rfl, ?_⟩) ?_ ?_
          rotate_left
          next =>
           intro w'
           go_simp
           with_reducible rfl
          rotate_left
          next =>
           simp only [Act.put, yay, yby, ycy, zT, zU]
           rfl
          refine zg (i := 8) (N := some 49) (v := ?_) (a' := ?_) #[true, false, true, true, true, false, false, false, true, false, false, false, false] rfl rfl (zb HT_.out (by kernel_rfl)) (fun _ _ _ h => h) (Or.inl ⟨by rfl, ?_⟩) ?_ ?_
          rotate_left
          next =>
           intro w'
           go_simp
           with_reducible rfl
          rotate_left
          next =>
           simp only [Act.put, yay, yby, ycy, zT, zU]
           rfl
          refine qQ (i := 1) (N := some 42) (v := ?_) (a' := ?_) #[true, true, true, true, true, false, false, false, true, false, false, false, false] rfl rfl (zn HT_.out HW_.out (by kernel_rfl)) (fun _ _ _ h => h) (Or.inl ⟨by rfl, ?_⟩) hHeld ?_ ?_
          rotate_left
          next =>
           rintro w' ⟨s0, s1, s2, s3, s4⟩
           go_simp
           with_reducible rfl
          rotate_left
          next =>
           simp only [Act.put, yay, yby, ycy, zT, zU]
           rfl
          refine qQ (i := 5) (N := some 46) (v := ?_) (a' := ?_) #[true, true, true, true, true, true, false, false, true, false, false, false, false] rfl rfl (zn HT_.out HW_.out (by kernel_rfl)) (fun _ _ _ h => h) (Or.inl ⟨by rfl, ?_⟩) hHeld ?_ ?_
          rotate_left
          next =>
           rintro w' ⟨s0, s1, s2, s3, s4⟩
           go_simp
           with_reducible rfl
          rotate_left
          next =>
           simp only [Act.put, yay, yby, ycy, zT, zU]
           rfl
          refine zg (i := 6) (N := some 47) (v := ?_) (a' := ?_) #[true, true, true, true, true, true, true, false, true, false, false, false, false] rfl rfl (zb HT_.out (by kernel_rfl)) (fun _ _ _ h => h) (Or.inl ⟨by rfl, ?_⟩) ?_ ?_
          rotate_left
          next =>
           intro w'
           go_simp
           with_reducible rfl
          rotate_left
          next =>
           simp only [Act.put, yay, yby, ycy, zT, zU]
           rfl
          refine qQ (i := 7) (N := some 48) (v := ?_) (a' := ?_) #[true, true, true, true, true, true, true, true, true, false, false, false, false] rfl rfl (zn HT_.out HW_.out (by kernel_rfl)) (fun _ _ _ h => h) (Or.inl ⟨by rfl, ?_⟩) hHeld ?_ ?_
          rotate_left
          next =>
           rintro w' ⟨s0, s1, s2, s3, s4⟩
           go_simp
           with_reducible rfl
          rotate_left
          next =>
           simp only [Act.put, yay, yby, ycy, zT, zU]
           rfl
          refine zg (i := 9) (N := some 50) (v := ?_) (a' := ?_) #[true, true, true, true, true, true, true, true, true, true, false, false, false] rfl rfl (zb HT_.out (by kernel_rfl)) (fun _ _ _ h => h) (Or.inl ⟨by rfl, ?_⟩) ?_ ?_
          rotate_left
          next =>
           intro w'
           go_simp
           with_reducible rfl
          rotate_left
          next =>
           simp only [Act.put, yay, yby, ycy, zT, zU]
           rfl
          refine qQ (i := 10) (N := some 51) (v := ?_) (a' := ?_) #[true, true, true, true, true, true, true, true, true, true, true, false, false] rfl rfl (zn HT_.out HW_.out (by kernel_rfl)) (fun _ _ _ h => h) (Or.inl ⟨by rfl, ?_⟩) hHeld ?_ ?_
          rotate_left
          next =>
           rintro w' ⟨s0, s1, s2, s3, s4⟩
           go_simp
           with_reducible rfl
          rotate_left
          next =>
           simp only [Act.put, yay, yby, ycy, zT, zU]
           rfl
          refine QH (i := 11) (N := some 9) #[true, true, true, true, true, true, true, true, true, true, true, true, false] rfl rfl (ZF HT_.out (by kernel_rfl)) (by decide) (fun K hK => ?_)
          refine Jo ?hg (N := 9) ?hd (cs := #[.int .i64 0, .int .i64 0]) (t := 74) ?hr ?_; (case hd => rfl); (case hg => rfl); (case hr => first | (go_simp; done) | (go_simp; rfl))
          intro gb114 hg w81 hbox hb
          have HS1_ := (hb.cell (yoy _ _ (hHeld.2.1))).trans (hHeld.2.1)
          have n0_ := zA.mk (Kd.qe (by (with_reducible repeat (first | apply Kd.zZ | apply Kd.za | apply Kd.zf)); exact HO_4.out) hb)
          have n1_ := zA.mk (Kd.qe (by (with_reducible repeat (first | apply Kd.zZ | apply Kd.za | apply Kd.zf)); exact HO_6.out) hb)
          have n2_ := zA.mk (zN (g := gb101) (o := .cells #[.slice (some ad112) l0_0.length c0_0] 28 (0, 0)) (by (with_reducible repeat (first | refine zI ?_ _ | refine zK ?_ | refine zH ?_ _)); exact BK101.out) hb)
          have n3_ := zA.mk (zO (by repeat (first | (with_reducible first | exact HB.out | apply zD | apply zB | apply zE | refine zG ?_ GE101.out) | exact HB.out)) hb)
          have n4_ := zA.mk (hbox)
          have n5_ := zA.mk ((by rw [hg]; exact (zP (by repeat (first | (with_reducible first | exact HB.out | apply zD | apply zB | apply zE | refine zG ?_ GE101.out) | exact HB.out))) : w.heap.size ≤ gb114))
          have n6_ := zA.mk ((by rw [hg]; exact (zP (by repeat (first | (with_reducible first | exact HB.out | apply zD | apply zB | apply zE | refine zG ?_ GE101.out) | exact HB.out))) : w.heap.size ≤ gb114))
          have n7_ := zA.mk ((by rw [hg]; exact Nat.ne_of_lt (qE (g := gb101) (o := .cells #[.slice (some ad112) l0_0.length c0_0] 28 (0, 0)) (by (with_reducible repeat (first | refine zI ?_ _ | refine zK ?_ | refine zH ?_ _)); exact BK101.out)) : gb101 ≠ gb114))
          have n8_ := zA.mk ((by rw [hg]; exact Nat.ne_of_gt (qE (g := gb101) (o := .cells #[.slice (some ad112) l0_0.length c0_0] 28 (0, 0)) (by (with_reducible repeat (first | refine zI ?_ _ | refine zK ?_ | refine zH ?_ _)); exact BK101.out)) : gb114 ≠ gb101))
          clear HO_4
          clear HO_6
          clear BK101
          clear HB
          have HO_4 := n0_
          have HO_6 := n1_
          have BK101 := n2_
          have HB := n3_
          have BK114 := n4_
          have GW114 := n5_
          have GE114 := n6_
          have NB101_114 := n7_
          have NB114_101 := n8_
          clear n0_ n1_ n2_ n3_ n4_ n5_ n6_ n7_ n8_
          clear hb hbox hg
          refine hK.out _ _ ⟨(zJ BK101.out 0).trans rfl, HS1_, ((HB.out.cell (yoy w _ hw112_0)).trans hw112_0), ((HB.out.cell (yoy w _ hw113_0)).trans hw113_0), ((HB.out.cell (yoy w _ hw113_1)).trans hw113_1)⟩ (fun hHeld => ?_)
          clear hK K
          refine ZQ (a' := ?_) ?_ ?_
          rotate_left
          next =>
           show Act.put _ (some 9) _ = _
           simp only [Act.put, yay, yby, ycy, zT, zU]
           rfl
          refine QH (i := 12) (N := none) #[true, true, true, true, true, true, true, true, true, true, true, true, true] rfl rfl (ZF HT_.out (by kernel_rfl)) (by decide) (fun K hK => ?_)
          have hs82 : w81.cell? ⟨gb114, 0, none⟩ = some (.int .i64 0) := (zJ BK114.out 0).trans rfl
          have hfs82 := zL BK114.out 0
          have hns82_0 := NB101_114.out
          have hms82_0 := NB114_101.out
          have hs83 : w81.cell? ⟨gb114, 1, none⟩ = some (.int .i64 0) := (zJ BK114.out 1).trans rfl
          have hfs83 := zL BK114.out 1
          have hns83_0 := NB101_114.out
          have hms83_0 := NB114_101.out
          refine zAJ (w1 := ?_) (by rfl) rfl ?_ ?_
          rotate_left
          next =>
           go_simp
           rfl
          refine hK.out _ _ ⟨((cell_far (p := ⟨gb114, _, none⟩) NB101_114.out _).trans (((cell_far (p := ⟨gb114, _, none⟩) NB101_114.out _).trans (hHeld.1)))), ((cell_far (p := ⟨gb114, _, none⟩) (by first | exact Kd.qj (Kd.QA HO_6.out BK114.out (by decide)) | (rw [zQ]; exact Kd.qj (Kd.QA HO_6.out BK114.out (by decide))) | (show (Addr.add _ _).block ≠ _; rw [zQ]; exact Kd.qj (Kd.QA HO_6.out BK114.out (by decide))) | (dsimp only; exact Kd.qj (Kd.QA HO_6.out BK114.out (by decide)))) _).trans (((cell_far (p := ⟨gb114, _, none⟩) (by first | exact Kd.qj (Kd.QA HO_6.out BK114.out (by decide)) | (rw [zQ]; exact Kd.qj (Kd.QA HO_6.out BK114.out (by decide))) | (show (Addr.add _ _).block ≠ _; rw [zQ]; exact Kd.qj (Kd.QA HO_6.out BK114.out (by decide))) | (dsimp only; exact Kd.qj (Kd.QA HO_6.out BK114.out (by decide)))) _).trans (hHeld.2.1)))), ((cell_far (p := ⟨gb114, _, none⟩) (by first | exact Nat.ne_of_lt (Nat.lt_of_lt_of_le (by have := yoy _ _ hw112_0; first | rwa [zQ] at this | exact this) GW114.out) | (rw [zQ]; exact Nat.ne_of_lt (Nat.lt_of_lt_of_le (by have := yoy _ _ hw112_0; first | rwa [zQ] at this | exact this) GW114.out)) | (show (Addr.add _ _).block ≠ _; rw [zQ]; exact Nat.ne_of_lt (Nat.lt_of_lt_of_le (by have := yoy _ _ hw112_0; first | rwa [zQ] at this | exact this) GW114.out)) | (dsimp only; exact Nat.ne_of_lt (Nat.lt_of_lt_of_le (by have := yoy _ _ hw112_0; first | rwa [zQ] at this | exact this) GW114.out))) _).trans (((cell_far (p := ⟨gb114, _, none⟩) (by first | exact Nat.ne_of_lt (Nat.lt_of_lt_of_le (by have := yoy _ _ hw112_0; first | rwa [zQ] at this | exact this) GW114.out) | (rw [zQ]; exact Nat.ne_of_lt (Nat.lt_of_lt_of_le (by have := yoy _ _ hw112_0; first | rwa [zQ] at this | exact this) GW114.out)) | (show (Addr.add _ _).block ≠ _; rw [zQ]; exact Nat.ne_of_lt (Nat.lt_of_lt_of_le (by have := yoy _ _ hw112_0; first | rwa [zQ] at this | exact this) GW114.out)) | (dsimp only; exact Nat.ne_of_lt (Nat.lt_of_lt_of_le (by have := yoy _ _ hw112_0; first | rwa [zQ] at this | exact this) GW114.out))) _).trans (hHeld.2.2.1)))), ((cell_far (p := ⟨gb114, _, none⟩) (by first | exact Nat.ne_of_lt (Nat.lt_of_lt_of_le (by have := yoy _ _ hw113_0; first | rwa [zQ] at this | exact this) GW114.out) | (rw [zQ]; exact Nat.ne_of_lt (Nat.lt_of_lt_of_le (by have := yoy _ _ hw113_0; first | rwa [zQ] at this | exact this) GW114.out)) | (show (Addr.add _ _).block ≠ _; rw [zQ]; exact Nat.ne_of_lt (Nat.lt_of_lt_of_le (by have := yoy _ _ hw113_0; first | rwa [zQ] at this | exact this) GW114.out)) | (dsimp only; exact Nat.ne_of_lt (Nat.lt_of_lt_of_le (by have := yoy _ _ hw113_0; first | rwa [zQ] at this | exact this) GW114.out))) _).trans (((cell_far (p := ⟨gb114, _, none⟩) (by first | exact Nat.ne_of_lt (Nat.lt_of_lt_of_le (by have := yoy _ _ hw113_0; first | rwa [zQ] at this | exact this) GW114.out) | (rw [zQ]; exact Nat.ne_of_lt (Nat.lt_of_lt_of_le (by have := yoy _ _ hw113_0; first | rwa [zQ] at this | exact this) GW114.out)) | (show (Addr.add _ _).block ≠ _; rw [zQ]; exact Nat.ne_of_lt (Nat.lt_of_lt_of_le (by have := yoy _ _ hw113_0; first | rwa [zQ] at this | exact this) GW114.out)) | (dsimp only; exact Nat.ne_of_lt (Nat.lt_of_lt_of_le (by have := yoy _ _ hw113_0; first | rwa [zQ] at this | exact this) GW114.out))) _).trans (hHeld.2.2.2.1)))), ((cell_far (p := ⟨gb114, _, none⟩) (by first | exact Nat.ne_of_lt (Nat.lt_of_lt_of_le (by have := yoy _ _ hw113_1; first | rwa [zQ] at this | exact this) GW114.out) | (rw [zQ]; exact Nat.ne_of_lt (Nat.lt_of_lt_of_le (by have := yoy _ _ hw113_1; first | rwa [zQ] at this | exact this) GW114.out)) | (show (Addr.add _ _).block ≠ _; rw [zQ]; exact Nat.ne_of_lt (Nat.lt_of_lt_of_le (by have := yoy _ _ hw113_1; first | rwa [zQ] at this | exact this) GW114.out)) | (dsimp only; exact Nat.ne_of_lt (Nat.lt_of_lt_of_le (by have := yoy _ _ hw113_1; first | rwa [zQ] at this | exact this) GW114.out))) _).trans (((cell_far (p := ⟨gb114, _, none⟩) (by first | exact Nat.ne_of_lt (Nat.lt_of_lt_of_le (by have := yoy _ _ hw113_1; first | rwa [zQ] at this | exact this) GW114.out) | (rw [zQ]; exact Nat.ne_of_lt (Nat.lt_of_lt_of_le (by have := yoy _ _ hw113_1; first | rwa [zQ] at this | exact this) GW114.out)) | (show (Addr.add _ _).block ≠ _; rw [zQ]; exact Nat.ne_of_lt (Nat.lt_of_lt_of_le (by have := yoy _ _ hw113_1; first | rwa [zQ] at this | exact this) GW114.out)) | (dsimp only; exact Nat.ne_of_lt (Nat.lt_of_lt_of_le (by have := yoy _ _ hw113_1; first | rwa [zQ] at this | exact this) GW114.out))) _).trans (hHeld.2.2.2.2))))⟩ (fun hHeld => ?_)
          clear hK K
          refine Zo (ZS HT_.out (by kernel_rfl)) ?_
          have hnb84 := NB114_101.out
          have hnc84 := NB101_114.out
          have hcz85_0 : w81.cell? ⟨gb114, 0, none⟩ = some (.int .i64 0) := (zJ BK114.out 0).trans rfl
          have hcz85_1 : w81.cell? ⟨gb114, 1, none⟩ = some (.int .i64 0) := (zJ BK114.out 1).trans rfl
          have hfz85_0 := zL BK114.out 0
          have hfz85_1 := zL BK114.out 1
          try go_wp2
          have n0_ : zA (Kd.R (Kd.int .i64) 2 ((w81.setCell ⟨gb114, 0, none⟩ (.int .i64 ((zF (zC l0_0 (rd x6_3 x7_2)) x8_3).f0))).setCell ⟨gb114, 1, none⟩ (.int .i64 ((zF (zC l0_0 (rd x6_3 x7_2)) x8_3).f1))) w.heap.size (fun k_ => some k_ ≠ (.slice (some ad111) x6_3.length co80 : Value).ownBlock) (.slice (some ⟨go13, 0, none⟩) x4_3.length co16) x4_3) := ⟨by (with_reducible repeat (first | apply Kd.zZ | apply Kd.za | apply Kd.zf)); exact Kd.qR (Kd.QG (p := ⟨gb114, 1, none⟩) (Kd.QG (p := ⟨gb114, 0, none⟩) (Kd.QX HO_4.out BK114.out (by decide)) (fun _ hk => hk.2) (.int .i64 ((zF (zC l0_0 (rd x6_3 x7_2)) x8_3).f0))) (fun _ hk => hk.2) (.int .i64 ((zF (zC l0_0 (rd x6_3 x7_2)) x8_3).f1))) (fun _ hk => hk.1)⟩
          have n1_ : zA (Kd.R (Kd.int .i64) 2 ((w81.setCell ⟨gb114, 0, none⟩ (.int .i64 ((zF (zC l0_0 (rd x6_3 x7_2)) x8_3).f0))).setCell ⟨gb114, 1, none⟩ (.int .i64 ((zF (zC l0_0 (rd x6_3 x7_2)) x8_3).f1))) w.heap.size (fun k_ => some k_ ≠ (.slice (some ⟨go13, 0, none⟩) x4_3.length co16 : Value).ownBlock) (.slice (some ad111) x6_3.length co80) x6_3) := ⟨by (with_reducible repeat (first | apply Kd.zZ | apply Kd.za | apply Kd.zf)); exact Kd.qR (Kd.QG (p := ⟨gb114, 1, none⟩) (Kd.QG (p := ⟨gb114, 0, none⟩) (Kd.QX HO_6.out BK114.out (by decide)) (fun _ hk => hk.2) (.int .i64 ((zF (zC l0_0 (rd x6_3 x7_2)) x8_3).f0))) (fun _ hk => hk.2) (.int .i64 ((zF (zC l0_0 (rd x6_3 x7_2)) x8_3).f1))) (fun _ hk => hk.1)⟩
          have n2_ : zA (((w81.setCell ⟨gb114, 0, none⟩ (.int .i64 ((zF (zC l0_0 (rd x6_3 x7_2)) x8_3).f0))).setCell ⟨gb114, 1, none⟩ (.int .i64 ((zF (zC l0_0 (rd x6_3 x7_2)) x8_3).f1))).heap[gb101]? = some (.cells #[.slice (some ad112) l0_0.length c0_0] 28 (0, 0))) := ⟨by (with_reducible repeat (first | refine zI ?_ _ | refine zK ?_ | refine zH ?_ _)); refine zv ?_ NB101_114.out _; (with_reducible repeat (first | refine zI ?_ _ | refine zK ?_ | refine zH ?_ _)); refine zv ?_ NB101_114.out _; (with_reducible repeat (first | refine zI ?_ _ | refine zK ?_ | refine zH ?_ _)); exact BK101.out⟩
          have n3_ : zA (((w81.setCell ⟨gb114, 0, none⟩ (.int .i64 ((zF (zC l0_0 (rd x6_3 x7_2)) x8_3).f0))).setCell ⟨gb114, 1, none⟩ (.int .i64 ((zF (zC l0_0 (rd x6_3 x7_2)) x8_3).f1))).heap[gb114]? = some (.cells #[.int .i64 ((zF (zC l0_0 (rd x6_3 x7_2)) x8_3).f0), .int .i64 ((zF (zC l0_0 (rd x6_3 x7_2)) x8_3).f1)] 74 (0, 0))) := ⟨by (with_reducible repeat (first | refine zI ?_ _ | refine zK ?_ | refine zH ?_ _)); refine qH (cs := #[.int .i64 ((zF (zC l0_0 (rd x6_3 x7_2)) x8_3).f0), .int .i64 0]) ?_ 1 _ rfl; (with_reducible repeat (first | refine zI ?_ _ | refine zK ?_ | refine zH ?_ _)); refine qH (cs := #[.int .i64 0, .int .i64 0]) ?_ 0 _ rfl; (with_reducible repeat (first | refine zI ?_ _ | refine zK ?_ | refine zH ?_ _)); exact BK114.out⟩
          have n4_ : zA (Below w.heap.size w ((w81.setCell ⟨gb114, 0, none⟩ (.int .i64 ((zF (zC l0_0 (rd x6_3 x7_2)) x8_3).f0))).setCell ⟨gb114, 1, none⟩ (.int .i64 ((zF (zC l0_0 (rd x6_3 x7_2)) x8_3).f1)))) := ⟨by repeat (first | (with_reducible first | exact HB.out | apply zD | apply zB | apply zE | refine zG ?_ GE101.out | refine zG ?_ GE114.out) | exact HB.out)⟩
          (try clear HO_4)
          (try clear HO_6)
          (try clear BK101)
          (try clear BK114)
          (try clear HB)
          generalize ((w81.setCell ⟨gb114, 0, none⟩ (.int .i64 ((zF (zC l0_0 (rd x6_3 x7_2)) x8_3).f0))).setCell ⟨gb114, 1, none⟩ (.int .i64 ((zF (zC l0_0 (rd x6_3 x7_2)) x8_3).f1))) = w86 at n0_ n1_ n2_ n3_ n4_ ⊢
          have HO_4 := n0_
          have HO_6 := n1_
          have BK101 := n2_
          have BK114 := n3_
          have HB := n4_
          clear n0_ n1_ n2_ n3_ n4_
          have n0_ := zA.mk (Kd.zf HO_4.out)
          have n1_ := zA.mk (Kd.zf HO_6.out)
          have n2_ := zA.mk (zK BK101.out)
          have n3_ := zA.mk (zK BK114.out)
          have n4_ := zA.mk (zE HB.out)
          clear HO_4
          clear HO_6
          clear BK101
          clear BK114
          clear HB
          have HO_4 := n0_
          have HO_6 := n1_
          have BK101 := n2_
          have BK114 := n3_
          have HB := n4_
          clear n0_ n1_ n2_ n3_ n4_
          have p115 : 0 ≤ (x7_2 : Int) := of_decide_eq_true (by first | (with_reducible assumption) | assumption)
          have q115 : x7_2 < (x6_3.length : Int) := of_decide_eq_true (by first | (with_reducible assumption) | assumption)
          obtain ⟨ad115, e115, hx115_0⟩ := Kd.qi (Kd.zj HO_6.out).2.2 x7_2 p115 q115
          obtain rfl : ad111 = ad115 := (by injection e115)
          replace p115 := eq_true p115
          replace q115 := eq_true q115
          have p116 : 0 ≤ ((rd x6_3 x7_2) : Int) := of_decide_eq_true (by first | (with_reducible assumption) | assumption)
          have q116 : (rd x6_3 x7_2) < (x4_3.length : Int) := of_decide_eq_true (by first | (with_reducible assumption) | assumption)
          obtain ⟨ad116, e116, hx116_0⟩ := Kd.qi (Kd.zj HO_4.out).2.2 (rd x6_3 x7_2) p116 q116
          obtain rfl : (⟨go13, 0, none⟩ : Addr) = ad116 := (by injection e116)
          (first | simp only [add_plain] at hx116_0 | simp only [Qw] at hx116_0 | simp only [Addr.add, Nat.zero_add] at hx116_0 | skip)
          replace p116 := eq_true p116
          replace q116 := eq_true q116
          refine ZN (n := 13) (S := fun w' => w'.cell? ⟨gb114, 0, none⟩ = some (.int .i64 ((zF (zC l0_0 (rd x6_3 x7_2)) x8_3).f0)) ∧ w'.cell? ⟨gb114, 1, none⟩ = some (.int .i64 ((zF (zC l0_0 (rd x6_3 x7_2)) x8_3).f1)) ∧ w'.cell? (ad111.add (x7_2).toNat) = some (.int .i64 (rd x6_3 x7_2)) ∧ w'.cell? ⟨go13, ((rd x6_3 x7_2)).toNat, none⟩ = some (.int .i64 (rd x4_3 (rd x6_3 x7_2)))) (ds := []) #[false, false, false, false, false, false, false, false, false, false, false, false, false] (by kernel_rfl) rfl rfl ⟨(zJ BK114.out 0).trans rfl, (zJ BK114.out 1).trans rfl, hx115_0, hx116_0⟩ (fun hHeld => ?_); refine qx zR.zCE zR.zAg (fun HT_ HW_ => ?_)
          generalize w86.drew = w87 at HO_4 HO_6 BK101 BK114 HB hx115_0 hx116_0 hHeld ⊢
          refine zg (i := 0) (N := some 55) (v := ?_) (a' := ?_) #[true, false, false, false, false, false, false, false, false, false, false, false, false] rfl rfl (zb HT_.out (by kernel_rfl)) (fun _ _ _ h => h) (Or.inl ⟨by rfl, ?_⟩) ?_ ?_
          rotate_left
          next =>
           intro w'
           go_simp
           with_reducible rfl
          rotate_left
          next =>
           simp only [Act.put, yay, yby, ycy, zT, zU]
           rfl
          refine zg (i := 1) (N := some 56) (v := ?_) (a' := ?_) #[true, true, false, false, false, false, false, false, false, false, false, false, false] rfl rfl (zb HT_.out (by kernel_rfl)) (fun _ _ _ h => h) (Or.inl ⟨by rfl, ?_⟩) ?_ ?_
          rotate_left
          next =>
           intro w'
           go_simp
           with_reducible rfl
          rotate_left
          next =>
           simp only [Act.put, yay, yby, ycy, zT, zU]
           rfl
          refine zg (i := 2) (N := some 57) (v := ?_) (a' := ?_) #[true, true, true, false, false, false, false, false, false, false, false, false, false] rfl rfl (zb HT_.out (by kernel_rfl)) (fun _ _ _ h => h) (Or.inl ⟨by rfl, ?_⟩) ?_ ?_
          rotate_left
          next =>
           intro w'
           go_simp
           with_reducible rfl
          rotate_left
          next =>
           simp only [Act.put, yay, yby, ycy, zT, zU]
           rfl
          refine zg (i := 3) (N := some 58) (v := ?_) (a' := ?_) #[true, true, true, true, false, false, false, false, false, false, false, false, false] rfl rfl (zb HT_.out (by kernel_rfl)) (fun _ _ _ h => h) (Or.inl ⟨by rfl, ?_⟩) ?_ ?_
          rotate_left
          next =>
           intro w'
           go_simp
           with_reducible rfl
          rotate_left
          next =>
           simp only [Act.put, yay, yby, ycy, zT, zU]
           rfl
          refine zg (i := 8) (N := some 63) (v := ?_) (a' := ?_) #[true, true, true, true, false, false, false, false, true, false, false, false, false] rfl rfl (zb HT_.out (by kernel_rfl)) (fun _ _ _ h => h) (Or.inl ⟨by rfl, ?_⟩) ?_ ?_
          rotate_left
          next =>
           intro w'
           go_simp
           with_reducible rfl
          rotate_left
          next =>
           simp only [Act.put, yay, yby, ycy, zT, zU]
           rfl
          refine qQ (i := 4) (N := some 59) (v := ?_) (a' := ?_) #[true, true, true, true, true, false, false, false, true, false, false, false, false] rfl rfl (zn HT_.out HW_.out (by kernel_rfl)) (fun _ _ _ h => h) (Or.inl ⟨by rfl, ?_⟩) hHeld ?_ ?_
          rotate_left
          next =>
           rintro w' ⟨s0, s1, s2, s3⟩
           go_simp
           with_reducible rfl
          rotate_left
          next =>
           simp only [Act.put, yay, yby, ycy, zT, zU]
           rfl
          refine zg (i := 5) (N := some 60) (v := ?_) (a' := ?_) #[true, true, true, true, true, true, false, false, true, false, false, false, false] rfl rfl (zb HT_.out (by kernel_rfl)) (fun _ _ _ h => h) (Or.inl ⟨by rfl, ?_⟩) ?_ ?_
          rotate_left
          next =>
           intro w'
           go_simp
           with_reducible rfl
          rotate_left
          next =>
           simp only [Act.put, yay, yby, ycy, zT, zU]
           rfl
          refine qQ (i := 6) (N := some 61) (v := ?_) (a' := ?_) #[true, true, true, true, true, true, true, false, true, false, false, false, false] rfl rfl (zn HT_.out HW_.out (by kernel_rfl)) (fun _ _ _ h => h) (Or.inl ⟨by rfl, ?_⟩) hHeld ?_ ?_
          rotate_left
          next =>
           rintro w' ⟨s0, s1, s2, s3⟩
           go_simp
           with_reducible rfl
          rotate_left
          next =>
           simp only [Act.put, yay, yby, ycy, zT, zU]
           rfl
          refine zg (i := 7) (N := some 62) (v := ?_) (a' := ?_) #[true, true, true, true, true, true, true, true, true, false, false, false, false] rfl rfl (zb HT_.out (by kernel_rfl)) (fun _ _ _ h => h) (Or.inl ⟨by rfl, ?_⟩) ?_ ?_
          rotate_left
          next =>
           intro w'
           go_simp
           with_reducible rfl
          rotate_left
          next =>
           simp only [Act.put, yay, yby, ycy, zT, zU]
           rfl
          refine qQ (i := 9) (N := some 64) (v := ?_) (a' := ?_) #[true, true, true, true, true, true, true, true, true, true, false, false, false] rfl rfl (zn HT_.out HW_.out (by kernel_rfl)) (fun _ _ _ h => h) (Or.inl ⟨by rfl, ?_⟩) hHeld ?_ ?_
          rotate_left
          next =>
           rintro w' ⟨s0, s1, s2, s3⟩
           go_simp
           with_reducible rfl
          rotate_left
          next =>
           simp only [Act.put, yay, yby, ycy, zT, zU]
           rfl
          refine QH (i := 10) (N := some 65) #[true, true, true, true, true, true, true, true, true, true, true, false, false] rfl rfl (ZF HT_.out (by kernel_rfl)) (by decide) (fun K hK => ?_)
          refine Zv Try.func81 (by kernel_rfl) rfl #[.int .i64 ((zF (zC l0_0 (rd x6_3 x7_2)) x8_3).f1)] (by rfl) rfl rfl (by (try simp only [yiy, yjy, yky]); first | done | rfl | (simp only [yly, ymy]; rfl)) ?_
          with_reducible refine (zi.calls k3 ((zF (zC l0_0 (rd x6_3 x7_2)) x8_3).f1) t117 _ A39.out).mono ?_
          rintro e w88 ⟨rfl, hb⟩
          have HS2_ := (hb.cell (yoy _ _ (hHeld.2.2.1))).trans (hHeld.2.2.1)
          have HS3_ := (hb.cell (yoy _ _ (hHeld.2.2.2))).trans (hHeld.2.2.2)
          refine ⟨_, rfl, ?_⟩
          have n0_ := zA.mk (Kd.qe (by (with_reducible repeat (first | apply Kd.zZ | apply Kd.za | apply Kd.zf)); exact HO_4.out) hb)
          have n1_ := zA.mk (Kd.qe (by (with_reducible repeat (first | apply Kd.zZ | apply Kd.za | apply Kd.zf)); exact HO_6.out) hb)
          have n2_ := zA.mk (zN (g := gb101) (o := .cells #[.slice (some ad112) l0_0.length c0_0] 28 (0, 0)) (by (with_reducible repeat (first | refine zI ?_ _ | refine zK ?_ | refine zH ?_ _)); exact BK101.out) hb)
          have n3_ := zA.mk (zN (g := gb114) (o := .cells #[.int .i64 ((zF (zC l0_0 (rd x6_3 x7_2)) x8_3).f0), .int .i64 ((zF (zC l0_0 (rd x6_3 x7_2)) x8_3).f1)] 74 (0, 0)) (by (with_reducible repeat (first | refine zI ?_ _ | refine zK ?_ | refine zH ?_ _)); exact BK114.out) hb)
          have n4_ := zA.mk (zO (by repeat (first | (with_reducible first | exact HB.out | apply zD | apply zB | apply zE | refine zG ?_ GE101.out | refine zG ?_ GE114.out) | exact HB.out)) hb)
          clear HO_4
          clear HO_6
          clear BK101
          clear BK114
          clear HB
          have HO_4 := n0_
          have HO_6 := n1_
          have BK101 := n2_
          have BK114 := n3_
          have HB := n4_
          clear n0_ n1_ n2_ n3_ n4_
          (try clear hb)
          (try clear hb2)
          (try clear hk)
          (try clear hi)
          refine hK.out _ _ ⟨(zJ BK114.out 0).trans rfl, (zJ BK114.out 1).trans rfl, HS2_, HS3_⟩ (fun hHeld => ?_)
          clear hK K
          refine ZQ (a' := ?_) ?_ ?_
          rotate_left
          next =>
           show Act.put _ (some 65) _ = _
           simp only [Act.put, yay, yby, ycy, zT, zU]
           rfl
          refine zg (i := 11) (N := some 66) (v := ?_) (a' := ?_) #[true, true, true, true, true, true, true, true, true, true, true, true, false] rfl rfl (zb HT_.out (by kernel_rfl)) (fun _ _ _ h => h) (Or.inl ⟨by rfl, ?_⟩) ?_ ?_
          rotate_left
          next =>
           intro w'
           go_simp
           with_reducible rfl
          rotate_left
          next =>
           simp only [Act.put, yay, yby, ycy, zT, zU]
           rfl
          refine zg (i := 12) (N := some 10) (v := ?_) (a' := ?_) #[true, true, true, true, true, true, true, true, true, true, true, true, true] rfl rfl (zb HT_.out (by kernel_rfl)) (fun _ _ _ h => h) (Or.inl ⟨by rfl, ?_⟩) ?_ ?_
          rotate_left
          next =>
           intro w'
           go_simp
           with_reducible rfl
          rotate_left
          next =>
           simp only [Act.put, yay, yby, ycy, zT, zU]
           rfl
          refine Zo (ZS HT_.out (by kernel_rfl)) ?_
          have hcz89_0 : w88.cell? ⟨gb114, 0, none⟩ = some (.int .i64 ((zF (zC l0_0 (rd x6_3 x7_2)) x8_3).f0)) := (zJ BK114.out 0).trans rfl
          have hcz89_1 : w88.cell? ⟨gb114, 1, none⟩ = some (.int .i64 ((zF (zC l0_0 (rd x6_3 x7_2)) x8_3).f1)) := (zJ BK114.out 1).trans rfl
          have hfz89_0 := zL BK114.out 0
          have hfz89_1 := zL BK114.out 1
          have p118 : 0 ≤ (((zF (zC l0_0 (rd x6_3 x7_2)) x8_3).f0) : Int) := of_decide_eq_true (by first | (with_reducible assumption) | assumption)
          have q118 : ((zF (zC l0_0 (rd x6_3 x7_2)) x8_3).f0) < (x4_3.length : Int) := of_decide_eq_true (by first | (with_reducible assumption) | assumption)
          obtain ⟨ad118, e118, hx118_0⟩ := Kd.qi (Kd.zj HO_4.out).2.2 ((zF (zC l0_0 (rd x6_3 x7_2)) x8_3).f0) p118 q118
          obtain rfl : (⟨go13, 0, none⟩ : Addr) = ad118 := (by injection e118)
          (first | simp only [add_plain] at hx118_0 | simp only [Qw] at hx118_0 | simp only [Addr.add, Nat.zero_add] at hx118_0 | skip)
          replace p118 := eq_true p118
          replace q118 := eq_true q118
          have p124 : 0 ≤ (((zF (zC l0_0 (rd x6_3 x7_2)) x8_3).f0) : Int) := of_decide_eq_true (by first | (with_reducible assumption) | assumption)
          have q124 : ((zF (zC l0_0 (rd x6_3 x7_2)) x8_3).f0) < (x4_3.length : Int) := of_decide_eq_true (by first | (with_reducible assumption) | assumption)
          obtain ⟨ad124, e124, hx124_0⟩ := Kd.qi (Kd.zj HO_4.out).2.2 ((zF (zC l0_0 (rd x6_3 x7_2)) x8_3).f0) p124 q124
          obtain rfl : (⟨go13, 0, none⟩ : Addr) = ad124 := (by injection e124)
          (first | simp only [add_plain] at hx124_0 | simp only [Qw] at hx124_0 | simp only [Addr.add, Nat.zero_add] at hx124_0 | skip)
          replace p124 := eq_true p124
          replace q124 := eq_true q124
          try go_wp2
          (try simp only [← hl4_3])
          go_roundg k3
          case measure => have := HK1.out; have := HK2.out; have := HK3.out; omega
          case rel => exact ⟨(x4_3), (x6_3), (wrap64 (x8_3 + 1)), (by first | rfl | (simp; done) | (simp [*]; done)), H', ⟨by have := HK1.out; have := HK2.out; have := HK3.out; omega⟩, ⟨by (try simp only [hl4_2]); (try simp only [hl4_3]); (with_reducible repeat (first | apply Kd.zZ | apply Kd.za | apply Kd.zf)); exact HO_4.out⟩, ⟨by (try simp only [hl4_2]); (try simp only [hl4_3]); (with_reducible repeat (first | apply Kd.zZ | apply Kd.za | apply Kd.zf)); exact HO_6.out⟩, ⟨by (try simp only [hl4_2]); (try simp only [hl4_3]); (with_reducible repeat (first | refine zI ?_ _ | refine zK ?_ | refine zH ?_ _)); exact BK101.out⟩, ⟨by repeat (first | (with_reducible first | exact HB.out | apply zD | apply zB | apply zE | refine zG ?_ GE101.out | refine zG ?_ GE114.out) | exact HB.out)⟩⟩
         next =>
          rw [if_neg c78] at H
          have c78b0 : ((rd x4_3 ((zF (zC l0_0 (rd x6_3 x7_2)) x8_3).f0)) == (wrap64 ((wrap64 (-(rd x4_3 (rd x6_3 x7_2)))) * t117))) = false := beq_eq_false_iff_ne.mpr c78
          have c78b1 : ((rd x4_3 ((zF (zC l0_0 (rd x6_3 x7_2)) x8_3).f0)) != (wrap64 ((wrap64 (-(rd x4_3 (rd x6_3 x7_2)))) * t117))) = true := bne_iff_ne.mpr c78
          simp only [Option.some.injEq, Prod.mk.injEq] at H
          obtain ⟨rfl, rfl⟩ := H
          try go_wp2
          have n0_ := zA.mk (Kd.zf HO_4.out)
          have n1_ := zA.mk (Kd.zf HO_6.out)
          have n2_ := zA.mk (zK BK101.out)
          have n3_ := zA.mk (zE HB.out)
          clear HO_4
          clear HO_6
          clear BK101
          clear HB
          have HO_4 := n0_
          have HO_6 := n1_
          have BK101 := n2_
          have HB := n3_
          clear n0_ n1_ n2_ n3_
          obtain ⟨Ao91, co91, eo91⟩ := Kd.qv HO_6.out
          (first | subst eo91 | (injection eo91 with f1_ f2_ f3_; have f4_ := f1_.symm; have f5_ := f3_.symm; clear f1_ f2_ f3_; subst f4_; subst f5_))
          have p111 : 0 ≤ (x7_2 : Int) := of_decide_eq_true (by first | (with_reducible assumption) | assumption)
          have q111 : x7_2 < (x6_3.length : Int) := of_decide_eq_true (by first | (with_reducible assumption) | assumption)
          obtain ⟨ad111, e111, hx111_0⟩ := Kd.qi (Kd.zj HO_6.out).2.2 x7_2 p111 q111
          cases e111
          replace p111 := eq_true p111
          replace q111 := eq_true q111
          have p112 : 0 ≤ ((rd x6_3 x7_2) : Int) := of_decide_eq_true (by first | (with_reducible assumption) | assumption)
          have q112 : (rd x6_3 x7_2) < (l0_0.length : Int) := of_decide_eq_true (by first | (with_reducible assumption) | assumption)
          obtain ⟨ad112, A112_0, c112_0, e112, hx112_0, hl112_0, hi112_0⟩ := qt HR0_0.out (rd x6_3 x7_2) p112 q112
          have hw112_0 := hx112_0
          cases e112
          replace hx112_0 := (HB.out.cell (yoy w _ hx112_0)).trans hx112_0
          have HR112_0 := zA.mk hi112_0
          have HC112_0 := zA.mk hl112_0
          clear hi112_0 hl112_0
          replace p112 := eq_true p112
          replace q112 := eq_true q112
          have p113 : 0 ≤ (x8_3 : Int) := of_decide_eq_true (by first | (with_reducible assumption) | assumption)
          have q113 : x8_3 < ((zC l0_0 (rd x6_3 x7_2)).length : Int) := of_decide_eq_true (by first | (with_reducible assumption) | assumption)
          obtain ⟨ad113, e113, hx113_0, hx113_1⟩ := ZM HR112_0.out x8_3 p113 q113
          have hw113_1 := hx113_1
          have hw113_0 := hx113_0
          cases e113
          replace hx113_0 := (HB.out.cell (yoy w _ hx113_0)).trans hx113_0
          replace hx113_1 := (HB.out.cell (yoy w _ hx113_1)).trans hx113_1
          replace p113 := eq_true p113
          replace q113 := eq_true q113
          refine ZN (n := 13) (S := fun w' => w'.cell? ⟨gb101, 0, none⟩ = some (.slice (some ad112) l0_0.length c0_0) ∧ w'.cell? (ad111.add (x7_2).toNat) = some (.int .i64 (rd x6_3 x7_2)) ∧ w'.cell? (ad112.add ((rd x6_3 x7_2)).toNat) = some (.slice (some ad113) (zC l0_0 (rd x6_3 x7_2)).length c112_0) ∧ w'.cell? (ad113.add ((x8_3).toNat * 2)) = some (.int .i64 ((zF (zC l0_0 (rd x6_3 x7_2)) x8_3).f0)) ∧ w'.cell? ⟨(ad113.add ((x8_3).toNat * 2)).block, (ad113.add ((x8_3).toNat * 2)).off + 1, none⟩ = some (.int .i64 ((zF (zC l0_0 (rd x6_3 x7_2)) x8_3).f1))) (ds := []) #[false, false, false, false, false, false, false, false, false, false, false, false, false] (by kernel_rfl) rfl rfl ⟨(zJ BK101.out 0).trans rfl, hx111_0, ((HB.out.cell (yoy w _ hw112_0)).trans hw112_0), ((HB.out.cell (yoy w _ hw113_0)).trans hw113_0), ((HB.out.cell (yoy w _ hw113_1)).trans hw113_1)⟩ (fun hHeld => ?_); refine qx zR.zDc zR.zBp (fun HT_ HW_ => ?_)
          generalize wr.drew = w90 at HO_4 HO_6 BK101 HB HR112_0 hx111_0 hx112_0 hx113_0 hx113_1 hHeld ⊢
          refine zg (i := 0) (N := some 41) (v := ?_) (a' := ?_) #[true, false, false, false, false, false, false, false, false, false, false, false, false] rfl rfl (zb HT_.out (by kernel_rfl)) (fun _ _ _ h => h) (Or.inl ⟨by rfl, ?_⟩) ?_ ?_
          rotate_left
          next =>
           intro w'
           go_simp
           with_reducible rfl
          rotate_left
          next =>
           simp only [Act.put, yay, yby, ycy, zT, zU]
           rfl
          refine zg (i := 2) (N := some 43) (v := ?_) (a' := ?_) #[true, false, true, false, false, false, false, false, false, false, false, false, false] rfl rfl (zb HT_.out (by kernel_rfl)) (fun _ _ _ h => h) (Or.inl ⟨by rfl, ?_⟩) ?_ ?_
          rotate_left
          next =>
           intro w'
           go_simp
           with_reducible rfl
          rotate_left
          next =>
           simp only [Act.put, yay, yby, ycy, zT, zU]
           rfl
          refine zg (i := 3) (N := some 44) (v := ?_) (a' := ?_) #[true, false, true, true, false, false, false, false, false, false, false, false, false] rfl rfl (zb HT_.out (by kernel_rfl)) (fun _ _ _ h => h) (Or.inl ⟨by rfl, ?_⟩) ?_ ?_
          rotate_left
          next =>
           intro w'
           go_simp
           with_reducible rfl
          rotate_left
          next =>
           simp only [Act.put, yay, yby, ycy, zT, zU]
           rfl
          refine zg (i := 4) (N := some 45) (v := ?_) (a' := ?_) #[true, false, true, true, true, false, false, false, false, false, false, false, false] rfl rfl (zb HT_.out (by kernel_rfl)) (fun _ _ _ h => h) (Or.inl ⟨by rfl, ?_⟩) ?_ ?_
          rotate_left
          next =>
           intro w'
           go_simp
           with_reducible rfl
          rotate_left
          next =>
           simp only [Act.put, yay, yby, ycy, zT, zU]
           rfl
          refine zg (i := 8) (N := some 49) (v := ?_) (a' := ?_) #[true, false, true, true, true, false, false, false, true, false, false, false, false] rfl rfl (zb HT_.out (by kernel_rfl)) (fun _ _ _ h => h) (Or.inl ⟨by rfl, ?_⟩) ?_ ?_
          rotate_left
          next =>
           intro w'
           go_simp
           with_reducible rfl
          rotate_left
          next =>
           simp only [Act.put, yay, yby, ycy, zT, zU]
           rfl
          refine qQ (i := 1) (N := some 42) (v := ?_) (a' := ?_) #[true, true, true, true, true, false, false, false, true, false, false, false, false] rfl rfl (zn HT_.out HW_.out (by kernel_rfl)) (fun _ _ _ h => h) (Or.inl ⟨by rfl, ?_⟩) hHeld ?_ ?_
          rotate_left
          next =>
           rintro w' ⟨s0, s1, s2, s3, s4⟩
           go_simp
           with_reducible rfl
          rotate_left
          next =>
           simp only [Act.put, yay, yby, ycy, zT, zU]
           rfl
          refine qQ (i := 5) (N := some 46) (v := ?_) (a' := ?_) #[true, true, true, true, true, true, false, false, true, false, false, false, false] rfl rfl (zn HT_.out HW_.out (by kernel_rfl)) (fun _ _ _ h => h) (Or.inl ⟨by rfl, ?_⟩) hHeld ?_ ?_
          rotate_left
          next =>
           rintro w' ⟨s0, s1, s2, s3, s4⟩
           go_simp
           with_reducible rfl
          rotate_left
          next =>
           simp only [Act.put, yay, yby, ycy, zT, zU]
           rfl
          refine zg (i := 6) (N := some 47) (v := ?_) (a' := ?_) #[true, true, true, true, true, true, true, false, true, false, false, false, false] rfl rfl (zb HT_.out (by kernel_rfl)) (fun _ _ _ h => h) (Or.inl ⟨by rfl, ?_⟩) ?_ ?_
          rotate_left
          next =>
           intro w'
           go_simp
           with_reducible rfl
          rotate_left
          next =>
           simp only [Act.put, yay, yby, ycy, zT, zU]
           rfl
          refine qQ (i := 7) (N := some 48) (v := ?_) (a' := ?_) #[true, true, true, true, true, true, true, true, true, false, false, false, false] rfl rfl (zn HT_.out HW_.out (by kernel_rfl)) (fun _ _ _ h => h) (Or.inl ⟨by rfl, ?_⟩) hHeld ?_ ?_
          rotate_left
          next =>
           rintro w' ⟨s0, s1, s2, s3, s4⟩
           go_simp
           with_reducible rfl
          rotate_left
          next =>
           simp only [Act.put, yay, yby, ycy, zT, zU]
           rfl
          refine zg (i := 9) (N := some 50) (v := ?_) (a' := ?_) #[true, true, true, true, true, true, true, true, true, true, false, false, false] rfl rfl (zb HT_.out (by kernel_rfl)) (fun _ _ _ h => h) (Or.inl ⟨by rfl, ?_⟩) ?_ ?_
          rotate_left
          next =>
           intro w'
           go_simp
           with_reducible rfl
          rotate_left
          next =>
           simp only [Act.put, yay, yby, ycy, zT, zU]
           rfl
          refine qQ (i := 10) (N := some 51) (v := ?_) (a' := ?_) #[true, true, true, true, true, true, true, true, true, true, true, false, false] rfl rfl (zn HT_.out HW_.out (by kernel_rfl)) (fun _ _ _ h => h) (Or.inl ⟨by rfl, ?_⟩) hHeld ?_ ?_
          rotate_left
          next =>
           rintro w' ⟨s0, s1, s2, s3, s4⟩
           go_simp
           with_reducible rfl
          rotate_left
          next =>
           simp only [Act.put, yay, yby, ycy, zT, zU]
           rfl
          refine QH (i := 11) (N := some 9) #[true, true, true, true, true, true, true, true, true, true, true, true, false] rfl rfl (ZF HT_.out (by kernel_rfl)) (by decide) (fun K hK => ?_)
          refine Jo ?hg (N := 9) ?hd (cs := #[.int .i64 0, .int .i64 0]) (t := 74) ?hr ?_; (case hd => rfl); (case hg => rfl); (case hr => first | (go_simp; done) | (go_simp; rfl))
          intro gb114 hg w92 hbox hb
          have HS1_ := (hb.cell (yoy _ _ (hHeld.2.1))).trans (hHeld.2.1)
          have n0_ := zA.mk (Kd.qe (by (with_reducible repeat (first | apply Kd.zZ | apply Kd.za | apply Kd.zf)); exact HO_4.out) hb)
          have n1_ := zA.mk (Kd.qe (by (with_reducible repeat (first | apply Kd.zZ | apply Kd.za | apply Kd.zf)); exact HO_6.out) hb)
          have n2_ := zA.mk (zN (g := gb101) (o := .cells #[.slice (some ad112) l0_0.length c0_0] 28 (0, 0)) (by (with_reducible repeat (first | refine zI ?_ _ | refine zK ?_ | refine zH ?_ _)); exact BK101.out) hb)
          have n3_ := zA.mk (zO (by repeat (first | (with_reducible first | exact HB.out | apply zD | apply zB | apply zE | refine zG ?_ GE101.out) | exact HB.out)) hb)
          have n4_ := zA.mk (hbox)
          have n5_ := zA.mk ((by rw [hg]; exact (zP (by repeat (first | (with_reducible first | exact HB.out | apply zD | apply zB | apply zE | refine zG ?_ GE101.out) | exact HB.out))) : w.heap.size ≤ gb114))
          have n6_ := zA.mk ((by rw [hg]; exact (zP (by repeat (first | (with_reducible first | exact HB.out | apply zD | apply zB | apply zE | refine zG ?_ GE101.out) | exact HB.out))) : w.heap.size ≤ gb114))
          have n7_ := zA.mk ((by rw [hg]; exact Nat.ne_of_lt (qE (g := gb101) (o := .cells #[.slice (some ad112) l0_0.length c0_0] 28 (0, 0)) (by (with_reducible repeat (first | refine zI ?_ _ | refine zK ?_ | refine zH ?_ _)); exact BK101.out)) : gb101 ≠ gb114))
          have n8_ := zA.mk ((by rw [hg]; exact Nat.ne_of_gt (qE (g := gb101) (o := .cells #[.slice (some ad112) l0_0.length c0_0] 28 (0, 0)) (by (with_reducible repeat (first | refine zI ?_ _ | refine zK ?_ | refine zH ?_ _)); exact BK101.out)) : gb114 ≠ gb101))
          clear HO_4
          clear HO_6
          clear BK101
          clear HB
          have HO_4 := n0_
          have HO_6 := n1_
          have BK101 := n2_
          have HB := n3_
          have BK114 := n4_
          have GW114 := n5_
          have GE114 := n6_
          have NB101_114 := n7_
          have NB114_101 := n8_
          clear n0_ n1_ n2_ n3_ n4_ n5_ n6_ n7_ n8_
          clear hb hbox hg
          refine hK.out _ _ ⟨(zJ BK101.out 0).trans rfl, HS1_, ((HB.out.cell (yoy w _ hw112_0)).trans hw112_0), ((HB.out.cell (yoy w _ hw113_0)).trans hw113_0), ((HB.out.cell (yoy w _ hw113_1)).trans hw113_1)⟩ (fun hHeld => ?_)
          clear hK K
          refine ZQ (a' := ?_) ?_ ?_
          rotate_left
          next =>
           show Act.put _ (some 9) _ = _
           simp only [Act.put, yay, yby, ycy, zT, zU]
           rfl
          refine QH (i := 12) (N := none) #[true, true, true, true, true, true, true, true, true, true, true, true, true] rfl rfl (ZF HT_.out (by kernel_rfl)) (by decide) (fun K hK => ?_)
          have hs93 : w92.cell? ⟨gb114, 0, none⟩ = some (.int .i64 0) := (zJ BK114.out 0).trans rfl
          have hfs93 := zL BK114.out 0
          have hns93_0 := NB101_114.out
          have hms93_0 := NB114_101.out
          have hs94 : w92.cell? ⟨gb114, 1, none⟩ = some (.int .i64 0) := (zJ BK114.out 1).trans rfl
          have hfs94 := zL BK114.out 1
          have hns94_0 := NB101_114.out
          have hms94_0 := NB114_101.out
          refine zAJ (w1 := ?_) (by rfl) rfl ?_ ?_
          rotate_left
          next =>
           go_simp
           rfl
          refine hK.out _ _ ⟨((cell_far (p := ⟨gb114, _, none⟩) NB101_114.out _).trans (((cell_far (p := ⟨gb114, _, none⟩) NB101_114.out _).trans (hHeld.1)))), ((cell_far (p := ⟨gb114, _, none⟩) (by first | exact Kd.qj (Kd.QA HO_6.out BK114.out (by decide)) | (rw [zQ]; exact Kd.qj (Kd.QA HO_6.out BK114.out (by decide))) | (show (Addr.add _ _).block ≠ _; rw [zQ]; exact Kd.qj (Kd.QA HO_6.out BK114.out (by decide))) | (dsimp only; exact Kd.qj (Kd.QA HO_6.out BK114.out (by decide)))) _).trans (((cell_far (p := ⟨gb114, _, none⟩) (by first | exact Kd.qj (Kd.QA HO_6.out BK114.out (by decide)) | (rw [zQ]; exact Kd.qj (Kd.QA HO_6.out BK114.out (by decide))) | (show (Addr.add _ _).block ≠ _; rw [zQ]; exact Kd.qj (Kd.QA HO_6.out BK114.out (by decide))) | (dsimp only; exact Kd.qj (Kd.QA HO_6.out BK114.out (by decide)))) _).trans (hHeld.2.1)))), ((cell_far (p := ⟨gb114, _, none⟩) (by first | exact Nat.ne_of_lt (Nat.lt_of_lt_of_le (by have := yoy _ _ hw112_0; first | rwa [zQ] at this | exact this) GW114.out) | (rw [zQ]; exact Nat.ne_of_lt (Nat.lt_of_lt_of_le (by have := yoy _ _ hw112_0; first | rwa [zQ] at this | exact this) GW114.out)) | (show (Addr.add _ _).block ≠ _; rw [zQ]; exact Nat.ne_of_lt (Nat.lt_of_lt_of_le (by have := yoy _ _ hw112_0; first | rwa [zQ] at this | exact this) GW114.out)) | (dsimp only; exact Nat.ne_of_lt (Nat.lt_of_lt_of_le (by have := yoy _ _ hw112_0; first | rwa [zQ] at this | exact this) GW114.out))) _).trans (((cell_far (p := ⟨gb114, _, none⟩) (by first | exact Nat.ne_of_lt (Nat.lt_of_lt_of_le (by have := yoy _ _ hw112_0; first | rwa [zQ] at this | exact this) GW114.out) | (rw [zQ]; exact Nat.ne_of_lt (Nat.lt_of_lt_of_le (by have := yoy _ _ hw112_0; first | rwa [zQ] at this | exact this) GW114.out)) | (show (Addr.add _ _).block ≠ _; rw [zQ]; exact Nat.ne_of_lt (Nat.lt_of_lt_of_le (by have := yoy _ _ hw112_0; first | rwa [zQ] at this | exact this) GW114.out)) | (dsimp only; exact Nat.ne_of_lt (Nat.lt_of_lt_of_le (by have := yoy _ _ hw112_0; first | rwa [zQ] at this | exact this) GW114.out))) _).trans (hHeld.2.2.1)))), ((cell_far (p := ⟨gb114, _, none⟩) (by first | exact Nat.ne_of_lt (Nat.lt_of_lt_of_le (by have := yoy _ _ hw113_0; first | rwa [zQ] at this | exact this) GW114.out) | (rw [zQ]; exact Nat.ne_of_lt (Nat.lt_of_lt_of_le (by have := yoy _ _ hw113_0; first | rwa [zQ] at this | exact this) GW114.out)) | (show (Addr.add _ _).block ≠ _; rw [zQ]; exact Nat.ne_of_lt (Nat.lt_of_lt_of_le (by have := yoy _ _ hw113_0; first | rwa [zQ] at this | exact this) GW114.out)) | (dsimp only; exact Nat.ne_of_lt (Nat.lt_of_lt_of_le (by have := yoy _ _ hw113_0; first | rwa [zQ] at this | exact this) GW114.out))) _).trans (((cell_far (p := ⟨gb114, _, none⟩) (by first | exact Nat.ne_of_lt (Nat.lt_of_lt_of_le (by have := yoy _ _ hw113_0; first | rwa [zQ] at this | exact this) GW114.out) | (rw [zQ]; exact Nat.ne_of_lt (Nat.lt_of_lt_of_le (by have := yoy _ _ hw113_0; first | rwa [zQ] at this | exact this) GW114.out)) | (show (Addr.add _ _).block ≠ _; rw [zQ]; exact Nat.ne_of_lt (Nat.lt_of_lt_of_le (by have := yoy _ _ hw113_0; first | rwa [zQ] at this | exact this) GW114.out)) | (dsimp only; exact Nat.ne_of_lt (Nat.lt_of_lt_of_le (by have := yoy _ _ hw113_0; first | rwa [zQ] at this | exact this) GW114.out))) _).trans (hHeld.2.2.2.1)))), ((cell_far (p := ⟨gb114, _, none⟩) (by first | exact Nat.ne_of_lt (Nat.lt_of_lt_of_le (by have := yoy _ _ hw113_1; first | rwa [zQ] at this | exact this) GW114.out) | (rw [zQ]; exact Nat.ne_of_lt (Nat.lt_of_lt_of_le (by have := yoy _ _ hw113_1; first | rwa [zQ] at this | exact this) GW114.out)) | (show (Addr.add _ _).block ≠ _; rw [zQ]; exact Nat.ne_of_lt (Nat.lt_of_lt_of_le (by have := yoy _ _ hw113_1; first | rwa [zQ] at this | exact this) GW114.out)) | (dsimp only; exact Nat.ne_of_lt (Nat.lt_of_lt_of_le (by have := yoy _ _ hw113_1; first | rwa [zQ] at this | exact this) GW114.out))) _).trans (((cell_far (p := ⟨gb114, _, none⟩) (by first | exact Nat.ne_of_lt (Nat.lt_of_lt_of_le (by have := yoy _ _ hw113_1; first | rwa [zQ] at this | exact this) GW114.out) | (rw [zQ]; exact Nat.ne_of_lt (Nat.lt_of_lt_of_le (by have := yoy _ _ hw113_1; first | rwa [zQ] at this | exact this) GW114.out)) | (show (Addr.add _ _).block ≠ _; rw [zQ]; exact Nat.ne_of_lt (Nat.lt_of_lt_of_le (by have := yoy _ _ hw113_1; first | rwa [zQ] at this | exact this) GW114.out)) | (dsimp only; exact Nat.ne_of_lt (Nat.lt_of_lt_of_le (by have := yoy _ _ hw113_1; first | rwa [zQ] at this | exact this) GW114.out))) _).trans (hHeld.2.2.2.2))))⟩ (fun hHeld => ?_)
          clear hK K
          refine Zo (ZS HT_.out (by kernel_rfl)) ?_
          have hnb95 := NB114_101.out
          have hnc95 := NB101_114.out
          have hcz96_0 : w92.cell? ⟨gb114, 0, none⟩ = some (.int .i64 0) := (zJ BK114.out 0).trans rfl
          have hcz96_1 : w92.cell? ⟨gb114, 1, none⟩ = some (.int .i64 0) := (zJ BK114.out 1).trans rfl
          have hfz96_0 := zL BK114.out 0
          have hfz96_1 := zL BK114.out 1
          try go_wp2
          have n0_ : zA (Kd.R (Kd.int .i64) 2 ((w92.setCell ⟨gb114, 0, none⟩ (.int .i64 ((zF (zC l0_0 (rd x6_3 x7_2)) x8_3).f0))).setCell ⟨gb114, 1, none⟩ (.int .i64 ((zF (zC l0_0 (rd x6_3 x7_2)) x8_3).f1))) w.heap.size (fun k_ => some k_ ≠ (.slice (some ad111) x6_3.length co91 : Value).ownBlock) (.slice (some ⟨go13, 0, none⟩) x4_3.length co16) x4_3) := ⟨by (with_reducible repeat (first | apply Kd.zZ | apply Kd.za | apply Kd.zf)); exact Kd.qR (Kd.QG (p := ⟨gb114, 1, none⟩) (Kd.QG (p := ⟨gb114, 0, none⟩) (Kd.QX HO_4.out BK114.out (by decide)) (fun _ hk => hk.2) (.int .i64 ((zF (zC l0_0 (rd x6_3 x7_2)) x8_3).f0))) (fun _ hk => hk.2) (.int .i64 ((zF (zC l0_0 (rd x6_3 x7_2)) x8_3).f1))) (fun _ hk => hk.1)⟩
          have n1_ : zA (Kd.R (Kd.int .i64) 2 ((w92.setCell ⟨gb114, 0, none⟩ (.int .i64 ((zF (zC l0_0 (rd x6_3 x7_2)) x8_3).f0))).setCell ⟨gb114, 1, none⟩ (.int .i64 ((zF (zC l0_0 (rd x6_3 x7_2)) x8_3).f1))) w.heap.size (fun k_ => some k_ ≠ (.slice (some ⟨go13, 0, none⟩) x4_3.length co16 : Value).ownBlock) (.slice (some ad111) x6_3.length co91) x6_3) := ⟨by (with_reducible repeat (first | apply Kd.zZ | apply Kd.za | apply Kd.zf)); exact Kd.qR (Kd.QG (p := ⟨gb114, 1, none⟩) (Kd.QG (p := ⟨gb114, 0, none⟩) (Kd.QX HO_6.out BK114.out (by decide)) (fun _ hk => hk.2) (.int .i64 ((zF (zC l0_0 (rd x6_3 x7_2)) x8_3).f0))) (fun _ hk => hk.2) (.int .i64 ((zF (zC l0_0 (rd x6_3 x7_2)) x8_3).f1))) (fun _ hk => hk.1)⟩
          have n2_ : zA (((w92.setCell ⟨gb114, 0, none⟩ (.int .i64 ((zF (zC l0_0 (rd x6_3 x7_2)) x8_3).f0))).setCell ⟨gb114, 1, none⟩ (.int .i64 ((zF (zC l0_0 (rd x6_3 x7_2)) x8_3).f1))).heap[gb101]? = some (.cells #[.slice (some ad112) l0_0.length c0_0] 28 (0, 0))) := ⟨by (with_reducible repeat (first | refine zI ?_ _ | refine zK ?_ | refine zH ?_ _)); refine zv ?_ NB101_114.out _; (with_reducible repeat (first | refine zI ?_ _ | refine zK ?_ | refine zH ?_ _)); refine zv ?_ NB101_114.out _; (with_reducible repeat (first | refine zI ?_ _ | refine zK ?_ | refine zH ?_ _)); exact BK101.out⟩
          have n3_ : zA (((w92.setCell ⟨gb114, 0, none⟩ (.int .i64 ((zF (zC l0_0 (rd x6_3 x7_2)) x8_3).f0))).setCell ⟨gb114, 1, none⟩ (.int .i64 ((zF (zC l0_0 (rd x6_3 x7_2)) x8_3).f1))).heap[gb114]? = some (.cells #[.int .i64 ((zF (zC l0_0 (rd x6_3 x7_2)) x8_3).f0), .int .i64 ((zF (zC l0_0 (rd x6_3 x7_2)) x8_3).f1)] 74 (0, 0))) := ⟨by (with_reducible repeat (first | refine zI ?_ _ | refine zK ?_ | refine zH ?_ _)); refine qH (cs := #[.int .i64 ((zF (zC l0_0 (rd x6_3 x7_2)) x8_3).f0), .int .i64 0]) ?_ 1 _ rfl; (with_reducible repeat (first | refine zI ?_ _ | refine zK ?_ | refine zH ?_ _)); refine qH (cs := #[.int .i64 0, .int .i64 0]) ?_ 0 _ rfl; (with_reducible repeat (first | refine zI ?_ _ | refine zK ?_ | refine zH ?_ _)); exact BK114.out⟩
          have n4_ : zA (Below w.heap.size w ((w92.setCell ⟨gb114, 0, none⟩ (.int .i64 ((zF (zC l0_0 (rd x6_3 x7_2)) x8_3).f0))).setCell ⟨gb114, 1, none⟩ (.int .i64 ((zF (zC l0_0 (rd x6_3 x7_2)) x8_3).f1)))) := ⟨by repeat (first | (with_reducible first | exact HB.out | apply zD | apply zB | apply zE | refine zG ?_ GE101.out | refine zG ?_ GE114.out) | exact HB.out)⟩
          (try clear HO_4)
          (try clear HO_6)
          (try clear BK101)
          (try clear BK114)
          (try clear HB)
          generalize ((w92.setCell ⟨gb114, 0, none⟩ (.int .i64 ((zF (zC l0_0 (rd x6_3 x7_2)) x8_3).f0))).setCell ⟨gb114, 1, none⟩ (.int .i64 ((zF (zC l0_0 (rd x6_3 x7_2)) x8_3).f1))) = w97 at n0_ n1_ n2_ n3_ n4_ ⊢
          have HO_4 := n0_
          have HO_6 := n1_
          have BK101 := n2_
          have BK114 := n3_
          have HB := n4_
          clear n0_ n1_ n2_ n3_ n4_
          have n0_ := zA.mk (Kd.zf HO_4.out)
          have n1_ := zA.mk (Kd.zf HO_6.out)
          have n2_ := zA.mk (zK BK101.out)
          have n3_ := zA.mk (zK BK114.out)
          have n4_ := zA.mk (zE HB.out)
          clear HO_4
          clear HO_6
          clear BK101
          clear BK114
          clear HB
          have HO_4 := n0_
          have HO_6 := n1_
          have BK101 := n2_
          have BK114 := n3_
          have HB := n4_
          clear n0_ n1_ n2_ n3_ n4_
          have p115 : 0 ≤ (x7_2 : Int) := of_decide_eq_true (by first | (with_reducible assumption) | assumption)
          have q115 : x7_2 < (x6_3.length : Int) := of_decide_eq_true (by first | (with_reducible assumption) | assumption)
          obtain ⟨ad115, e115, hx115_0⟩ := Kd.qi (Kd.zj HO_6.out).2.2 x7_2 p115 q115
          obtain rfl : ad111 = ad115 := (by injection e115)
          replace p115 := eq_true p115
          replace q115 := eq_true q115
          have p116 : 0 ≤ ((rd x6_3 x7_2) : Int) := of_decide_eq_true (by first | (with_reducible assumption) | assumption)
          have q116 : (rd x6_3 x7_2) < (x4_3.length : Int) := of_decide_eq_true (by first | (with_reducible assumption) | assumption)
          obtain ⟨ad116, e116, hx116_0⟩ := Kd.qi (Kd.zj HO_4.out).2.2 (rd x6_3 x7_2) p116 q116
          obtain rfl : (⟨go13, 0, none⟩ : Addr) = ad116 := (by injection e116)
          (first | simp only [add_plain] at hx116_0 | simp only [Qw] at hx116_0 | simp only [Addr.add, Nat.zero_add] at hx116_0 | skip)
          replace p116 := eq_true p116
          replace q116 := eq_true q116
          refine ZN (n := 13) (S := fun w' => w'.cell? ⟨gb114, 0, none⟩ = some (.int .i64 ((zF (zC l0_0 (rd x6_3 x7_2)) x8_3).f0)) ∧ w'.cell? ⟨gb114, 1, none⟩ = some (.int .i64 ((zF (zC l0_0 (rd x6_3 x7_2)) x8_3).f1)) ∧ w'.cell? (ad111.add (x7_2).toNat) = some (.int .i64 (rd x6_3 x7_2)) ∧ w'.cell? ⟨go13, ((rd x6_3 x7_2)).toNat, none⟩ = some (.int .i64 (rd x4_3 (rd x6_3 x7_2)))) (ds := []) #[false, false, false, false, false, false, false, false, false, false, false, false, false] (by kernel_rfl) rfl rfl ⟨(zJ BK114.out 0).trans rfl, (zJ BK114.out 1).trans rfl, hx115_0, hx116_0⟩ (fun hHeld => ?_); refine qx zR.zCE zR.zAg (fun HT_ HW_ => ?_)
          generalize w97.drew = w98 at HO_4 HO_6 BK101 BK114 HB hx115_0 hx116_0 hHeld ⊢
          refine zg (i := 0) (N := some 55) (v := ?_) (a' := ?_) #[true, false, false, false, false, false, false, false, false, false, false, false, false] rfl rfl (zb HT_.out (by kernel_rfl)) (fun _ _ _ h => h) (Or.inl ⟨by rfl, ?_⟩) ?_ ?_
          rotate_left
          next =>
           intro w'
           go_simp
           with_reducible rfl
          rotate_left
          next =>
           simp only [Act.put, yay, yby, ycy, zT, zU]
           rfl
          refine zg (i := 1) (N := some 56) (v := ?_) (a' := ?_) #[true, true, false, false, false, false, false, false, false, false, false, false, false] rfl rfl (zb HT_.out (by kernel_rfl)) (fun _ _ _ h => h) (Or.inl ⟨by rfl, ?_⟩) ?_ ?_
          rotate_left
          next =>
           intro w'
           go_simp
           with_reducible rfl
          rotate_left
          next =>
           simp only [Act.put, yay, yby, ycy, zT, zU]
           rfl
          refine zg (i := 2) (N := some 57) (v := ?_) (a' := ?_) #[true, true, true, false, false, false, false, false, false, false, false, false, false] rfl rfl (zb HT_.out (by kernel_rfl)) (fun _ _ _ h => h) (Or.inl ⟨by rfl, ?_⟩) ?_ ?_
          rotate_left
          next =>
           intro w'
           go_simp
           with_reducible rfl
          rotate_left
          next =>
           simp only [Act.put, yay, yby, ycy, zT, zU]
           rfl
          refine zg (i := 3) (N := some 58) (v := ?_) (a' := ?_) #[true, true, true, true, false, false, false, false, false, false, false, false, false] rfl rfl (zb HT_.out (by kernel_rfl)) (fun _ _ _ h => h) (Or.inl ⟨by rfl, ?_⟩) ?_ ?_
          rotate_left
          next =>
           intro w'
           go_simp
           with_reducible rfl
          rotate_left
          next =>
           simp only [Act.put, yay, yby, ycy, zT, zU]
           rfl
          refine zg (i := 8) (N := some 63) (v := ?_) (a' := ?_) #[true, true, true, true, false, false, false, false, true, false, false, false, false] rfl rfl (zb HT_.out (by kernel_rfl)) (fun _ _ _ h => h) (Or.inl ⟨by rfl, ?_⟩) ?_ ?_
          rotate_left
          next =>
           intro w'
           go_simp
           with_reducible rfl
          rotate_left
          next =>
           simp only [Act.put, yay, yby, ycy, zT, zU]
           rfl
          refine qQ (i := 4) (N := some 59) (v := ?_) (a' := ?_) #[true, true, true, true, true, false, false, false, true, false, false, false, false] rfl rfl (zn HT_.out HW_.out (by kernel_rfl)) (fun _ _ _ h => h) (Or.inl ⟨by rfl, ?_⟩) hHeld ?_ ?_
          rotate_left
          next =>
           rintro w' ⟨s0, s1, s2, s3⟩
           go_simp
           with_reducible rfl
          rotate_left
          next =>
           simp only [Act.put, yay, yby, ycy, zT, zU]
           rfl
          refine zg (i := 5) (N := some 60) (v := ?_) (a' := ?_) #[true, true, true, true, true, true, false, false, true, false, false, false, false] rfl rfl (zb HT_.out (by kernel_rfl)) (fun _ _ _ h => h) (Or.inl ⟨by rfl, ?_⟩) ?_ ?_
          rotate_left
          next =>
           intro w'
           go_simp
           with_reducible rfl
          rotate_left
          next =>
           simp only [Act.put, yay, yby, ycy, zT, zU]
           rfl
          refine qQ (i := 6) (N := some 61) (v := ?_) (a' := ?_) #[true, true, true, true, true, true, true, false, true, false, false, false, false] rfl rfl (zn HT_.out HW_.out (by kernel_rfl)) (fun _ _ _ h => h) (Or.inl ⟨by rfl, ?_⟩) hHeld ?_ ?_
          rotate_left
          next =>
           rintro w' ⟨s0, s1, s2, s3⟩
           go_simp
           with_reducible rfl
          rotate_left
          next =>
           simp only [Act.put, yay, yby, ycy, zT, zU]
           rfl
          refine zg (i := 7) (N := some 62) (v := ?_) (a' := ?_) #[true, true, true, true, true, true, true, true, true, false, false, false, false] rfl rfl (zb HT_.out (by kernel_rfl)) (fun _ _ _ h => h) (Or.inl ⟨by rfl, ?_⟩) ?_ ?_
          rotate_left
          next =>
           intro w'
           go_simp
           with_reducible rfl
          rotate_left
          next =>
           simp only [Act.put, yay, yby, ycy, zT, zU]
           rfl
          refine qQ (i := 9) (N := some 64) (v := ?_) (a' := ?_) #[true, true, true, true, true, true, true, true, true, true, false, false, false] rfl rfl (zn HT_.out HW_.out (by kernel_rfl)) (fun _ _ _ h => h) (Or.inl ⟨by rfl, ?_⟩) hHeld ?_ ?_
          rotate_left
          next =>
           rintro w' ⟨s0, s1, s2, s3⟩
           go_simp
           with_reducible rfl
          rotate_left
          next =>
           simp only [Act.put, yay, yby, ycy, zT, zU]
           rfl
          refine QH (i := 10) (N := some 65) #[true, true, true, true, true, true, true, true, true, true, true, false, false] rfl rfl (ZF HT_.out (by kernel_rfl)) (by decide) (fun K hK => ?_)
          refine Zv Try.func81 (by kernel_rfl) rfl #[.int .i64 ((zF (zC l0_0 (rd x6_3 x7_2)) x8_3).f1)] (by rfl) rfl rfl (by (try simp only [yiy, yjy, yky]); first | done | rfl | (simp only [yly, ymy]; rfl)) ?_
          with_reducible refine (zi.calls k3 ((zF (zC l0_0 (rd x6_3 x7_2)) x8_3).f1) t117 _ A39.out).mono ?_
          rintro e w99 ⟨rfl, hb⟩
          have HS2_ := (hb.cell (yoy _ _ (hHeld.2.2.1))).trans (hHeld.2.2.1)
          have HS3_ := (hb.cell (yoy _ _ (hHeld.2.2.2))).trans (hHeld.2.2.2)
          refine ⟨_, rfl, ?_⟩
          have n0_ := zA.mk (Kd.qe (by (with_reducible repeat (first | apply Kd.zZ | apply Kd.za | apply Kd.zf)); exact HO_4.out) hb)
          have n1_ := zA.mk (Kd.qe (by (with_reducible repeat (first | apply Kd.zZ | apply Kd.za | apply Kd.zf)); exact HO_6.out) hb)
          have n2_ := zA.mk (zN (g := gb101) (o := .cells #[.slice (some ad112) l0_0.length c0_0] 28 (0, 0)) (by (with_reducible repeat (first | refine zI ?_ _ | refine zK ?_ | refine zH ?_ _)); exact BK101.out) hb)
          have n3_ := zA.mk (zN (g := gb114) (o := .cells #[.int .i64 ((zF (zC l0_0 (rd x6_3 x7_2)) x8_3).f0), .int .i64 ((zF (zC l0_0 (rd x6_3 x7_2)) x8_3).f1)] 74 (0, 0)) (by (with_reducible repeat (first | refine zI ?_ _ | refine zK ?_ | refine zH ?_ _)); exact BK114.out) hb)
          have n4_ := zA.mk (zO (by repeat (first | (with_reducible first | exact HB.out | apply zD | apply zB | apply zE | refine zG ?_ GE101.out | refine zG ?_ GE114.out) | exact HB.out)) hb)
          clear HO_4
          clear HO_6
          clear BK101
          clear BK114
          clear HB
          have HO_4 := n0_
          have HO_6 := n1_
          have BK101 := n2_
          have BK114 := n3_
          have HB := n4_
          clear n0_ n1_ n2_ n3_ n4_
          (try clear hb)
          (try clear hb2)
          (try clear hk)
          (try clear hi)
          refine hK.out _ _ ⟨(zJ BK114.out 0).trans rfl, (zJ BK114.out 1).trans rfl, HS2_, HS3_⟩ (fun hHeld => ?_)
          clear hK K
          refine ZQ (a' := ?_) ?_ ?_
          rotate_left
          next =>
           show Act.put _ (some 65) _ = _
           simp only [Act.put, yay, yby, ycy, zT, zU]
           rfl
          refine zg (i := 11) (N := some 66) (v := ?_) (a' := ?_) #[true, true, true, true, true, true, true, true, true, true, true, true, false] rfl rfl (zb HT_.out (by kernel_rfl)) (fun _ _ _ h => h) (Or.inl ⟨by rfl, ?_⟩) ?_ ?_
          rotate_left
          next =>
           intro w'
           go_simp
           with_reducible rfl
          rotate_left
          next =>
           simp only [Act.put, yay, yby, ycy, zT, zU]
           rfl
          refine zg (i := 12) (N := some 10) (v := ?_) (a' := ?_) #[true, true, true, true, true, true, true, true, true, true, true, true, true] rfl rfl (zb HT_.out (by kernel_rfl)) (fun _ _ _ h => h) (Or.inl ⟨by rfl, ?_⟩) ?_ ?_
          rotate_left
          next =>
           intro w'
           go_simp
           with_reducible rfl
          rotate_left
          next =>
           simp only [Act.put, yay, yby, ycy, zT, zU]
           rfl
          refine Zo (ZS HT_.out (by kernel_rfl)) ?_
          have hcz100_0 : w99.cell? ⟨gb114, 0, none⟩ = some (.int .i64 ((zF (zC l0_0 (rd x6_3 x7_2)) x8_3).f0)) := (zJ BK114.out 0).trans rfl
          have hcz100_1 : w99.cell? ⟨gb114, 1, none⟩ = some (.int .i64 ((zF (zC l0_0 (rd x6_3 x7_2)) x8_3).f1)) := (zJ BK114.out 1).trans rfl
          have hfz100_0 := zL BK114.out 0
          have hfz100_1 := zL BK114.out 1
          have p118 : 0 ≤ (((zF (zC l0_0 (rd x6_3 x7_2)) x8_3).f0) : Int) := of_decide_eq_true (by first | (with_reducible assumption) | assumption)
          have q118 : ((zF (zC l0_0 (rd x6_3 x7_2)) x8_3).f0) < (x4_3.length : Int) := of_decide_eq_true (by first | (with_reducible assumption) | assumption)
          obtain ⟨ad118, e118, hx118_0⟩ := Kd.qi (Kd.zj HO_4.out).2.2 ((zF (zC l0_0 (rd x6_3 x7_2)) x8_3).f0) p118 q118
          obtain rfl : (⟨go13, 0, none⟩ : Addr) = ad118 := (by injection e118)
          (first | simp only [add_plain] at hx118_0 | simp only [Qw] at hx118_0 | simp only [Addr.add, Nat.zero_add] at hx118_0 | skip)
          replace p118 := eq_true p118
          replace q118 := eq_true q118
          have p124 : 0 ≤ (((zF (zC l0_0 (rd x6_3 x7_2)) x8_3).f0) : Int) := of_decide_eq_true (by first | (with_reducible assumption) | assumption)
          have q124 : ((zF (zC l0_0 (rd x6_3 x7_2)) x8_3).f0) < (x4_3.length : Int) := of_decide_eq_true (by first | (with_reducible assumption) | assumption)
          obtain ⟨ad124, e124, hx124_0⟩ := Kd.qi (Kd.zj HO_4.out).2.2 ((zF (zC l0_0 (rd x6_3 x7_2)) x8_3).f0) p124 q124
          obtain rfl : (⟨go13, 0, none⟩ : Addr) = ad124 := (by injection e124)
          (first | simp only [add_plain] at hx124_0 | simp only [Qw] at hx124_0 | simp only [Addr.add, Nat.zero_add] at hx124_0 | skip)
          replace p124 := eq_true p124
          replace q124 := eq_true q124
          try go_wp2
          go_ret2
          exact ⟨_, by first | rfl | (simp [zX, zY] <;> rfl) | (simp [*, zX, zY] <;> rfl), by first | exact Kd.Jl _ _ _ _ _ | exact Kd.zBP _ _ _ _ _ | exact Kd.zBQ _ _ _ _ _ | exact Kd.zBJ _ _ _ _ _ | exact Kd.zAq _ _ _ _ _, by repeat (first | (with_reducible first | exact HB.out | apply zD | apply zB | apply zE | refine zG ?_ GE101.out | refine zG ?_ GE114.out) | exact HB.out)⟩
def ZP.f (k : Nat) (l0_0 : List (List (zh))) : Option (List Int × Int) := (zM.f k l0_0).bind fun t102 => (if t102 = true then ((zR.f k l0_0).bind fun bt103 => (if bt103.2 = true then (some (bt103.1, 0)) else (some (([] : List Int), 5)))) else (some (([] : List Int), 1)))
set_option maxHeartbeats 8000000 in
set_option maxRecDepth 100000 in
theorem ZP.calls (k : Nat) (A0_0 : Option Addr) (c0_0 : Nat) (l0_0 : List (List (zh))) (r1 : List Int) (r2 : Int) (w : World) (hr0_0 : Kd.C (Kd.slice 74 qJ) w A0_0 l0_0.length l0_0) (hc0_0 : l0_0.length ≤ c0_0) (h : ZP.f k l0_0 = some (r1, r2)) :
    Calls Try.prog 91 #[.agg #[.slice A0_0 l0_0.length c0_0]] w fun e w' => ∃ v0_ : Value, e = .returned (.tuple #[v0_, .int .i64 r2]) ∧ Kd.R (Kd.int .i64) 2 w' w.heap.size (fun _ => True) v0_ r1 ∧ Below w.heap.size w w' := by
  have hu28 := Try.underlying28
  have HR0_0 := zA.mk hr0_0
  have HC0_0 := zA.mk hc0_0
  clear hr0_0 hc0_0
  have HB := zA.mk (yqy w.heap.size w)
  have H : ((zM.f k l0_0).bind fun t102 => (if t102 = true then ((zR.f k l0_0).bind fun bt103 => (if bt103.2 = true then (some (bt103.1, 0)) else (some (([] : List Int), 5)))) else (some (([] : List Int), 1)))) = some (r1, r2) := h
  clear h
  replace H := ydy.mp H
  obtain ⟨t102, A20, H⟩ := H
  replace H : (if t102 = true then ((zR.f k l0_0).bind fun bt103 => (if bt103.2 = true then (some (bt103.1, 0)) else (some (([] : List Int), 5)))) else (some (([] : List Int), 1))) = some (r1, r2) := H
  have A2 := zA.mk A20
  clear A20
  by_cases c3 : t102 = true
  · subst c3
    have H1 : ((zR.f k l0_0).bind fun bt103 => (if bt103.2 = true then (some (bt103.1, 0)) else (some (([] : List Int), 5)))) = some (r1, r2) := by rw [if_pos rfl] at H; exact H
    clear H
    have H := H1
    clear H1
    replace H := ydy.mp H
    obtain ⟨⟨t103, t106⟩, A40, H⟩ := H
    replace H : (if t106 = true then (some (t103, 0)) else (some (([] : List Int), 5))) = some (r1, r2) := H
    have A4 := zA.mk A40
    clear A40
    by_cases c5 : t106 = true
    · subst c5
      have H1 : (some (t103, 0)) = some (r1, r2) := by rw [if_pos rfl] at H; exact H
      clear H
      have H := H1
      clear H1
      simp only [Option.some.injEq, Prod.mk.injEq] at H
      obtain ⟨rfl, rfl⟩ := H
      go_enter Try.func91, Try.ntmps91
      go_wp2_with (first | ((with_reducible refine zm (N := 1) rfl ?_); refine zp ?hg (N := 1) ?hd (cs := #[.slice A0_0 l0_0.length c0_0]) (t := 28) ?hr ?_; (case hd => rfl); (case hg => rfl); (case hr => first | (go_simp; done) | (go_simp; rfl)); intro gb101 hg w6 hbox hb; have n0_ := zA.mk (zO (by repeat (first | (with_reducible first | exact HB.out | apply zD | apply zB | apply zE) | exact HB.out)) hb); have n1_ := zA.mk (hbox); have n2_ := zA.mk ((by rw [hg]; exact (zP (by repeat (first | (with_reducible first | exact HB.out | apply zD | apply zB | apply zE) | exact HB.out))) : w.heap.size ≤ gb101)); have n3_ := zA.mk ((by rw [hg]; exact (zP (by repeat (first | (with_reducible first | exact HB.out | apply zD | apply zB | apply zE) | exact HB.out))) : w.heap.size ≤ gb101)); clear HB; have HB := n0_; have BK101 := n1_; have GW101 := n2_; have GE101 := n3_; clear n0_ n1_ n2_ n3_; clear hb hbox hg; have hcz7_0 : w6.cell? ⟨gb101, 0, none⟩ = some (.slice A0_0 l0_0.length c0_0) := (zJ BK101.out 0).trans rfl; have hfz7_0 := zL BK101.out 0) | ((with_reducible refine ze (f := 52) rfl ?_); refine qP (some 7) rfl rfl Try.func52 (by kernel_rfl) rfl #[.agg #[.slice A0_0 l0_0.length c0_0]] rfl (by (try simp only [yiy, yjy, yky]); first | done | rfl | (simp only [yly, ymy]; rfl)) ?_; (with_reducible refine (zM.calls k _ _ l0_0 true _ ?side1 ?side2 A2.out).mono ?_); (case side1 => repeat (first | exact (Kd.qA HR0_0.out HB.out) | (with_reducible refine Kd.qB ?_ _) | (with_reducible refine Kd.qC ?_ _) | (with_reducible refine Kd.qW ?_))); (case side2 => exact HC0_0.out); rintro e w8 ⟨rfl, hb⟩; refine ⟨_, rfl, ?_⟩; have n0_ := zA.mk (zN (g := gb101) (o := .cells #[.slice A0_0 l0_0.length c0_0] 28 (0, 0)) (by (with_reducible repeat (first | refine zI ?_ _ | refine zK ?_ | refine zH ?_ _)); exact BK101.out) hb); have n1_ := zA.mk (zO (by repeat (first | (with_reducible first | exact HB.out | apply zD | apply zB | apply zE | refine zG ?_ GE101.out) | exact HB.out)) hb); clear BK101; clear HB; have BK101 := n0_; have HB := n1_; clear n0_ n1_; (try clear hb); (try clear hb2); (try clear hk); (try clear hi); have hcz9_0 : w8.cell? ⟨gb101, 0, none⟩ = some (.slice A0_0 l0_0.length c0_0) := (zJ BK101.out 0).trans rfl; have hfz9_0 := zL BK101.out 0) | ((with_reducible refine ze (f := 138) rfl ?_); refine qP (some 11) rfl rfl Try.func138 (by kernel_rfl) rfl #[.agg #[.slice A0_0 l0_0.length c0_0]] rfl (by (try simp only [yiy, yjy, yky]); first | done | rfl | (simp only [yly, ymy]; rfl)) ?_; (with_reducible refine (zR.calls k _ _ l0_0 t103 true _ ?side1 ?side2 A4.out).mono ?_); (case side1 => repeat (first | exact (Kd.qA HR0_0.out HB.out) | (with_reducible refine Kd.qB ?_ _) | (with_reducible refine Kd.qC ?_ _) | (with_reducible refine Kd.qW ?_))); (case side2 => exact HC0_0.out); rintro e w10 ⟨v104, rfl, ho0, hb⟩; refine ⟨_, rfl, ?_⟩; have n0_ := zA.mk (Kd.qy ho0 (zP (by repeat (first | (with_reducible first | exact HB.out | apply zD | apply zB | apply zE | refine zG ?_ GE101.out) | exact HB.out)))); have n1_ := zA.mk (zN (g := gb101) (o := .cells #[.slice A0_0 l0_0.length c0_0] 28 (0, 0)) (by (with_reducible repeat (first | refine zI ?_ _ | refine zK ?_ | refine zH ?_ _)); exact BK101.out) hb); have n2_ := zA.mk (zO (by repeat (first | (with_reducible first | exact HB.out | apply zD | apply zB | apply zE | refine zG ?_ GE101.out) | exact HB.out)) hb); clear BK101; clear HB; have HO105 := n0_; have BK101 := n1_; have HB := n2_; clear n0_ n1_ n2_; (try clear hb); (try clear hb2); (try clear hk); (try clear hi); (try clear ho0)))
      go_ret2
      exact ⟨_, by first | rfl | (simp [zX, zY] <;> rfl) | (simp [*, zX, zY] <;> rfl), by (with_reducible repeat (first | apply Kd.zZ | apply Kd.za | apply Kd.zf)); exact HO105.out, by repeat (first | (with_reducible first | exact HB.out | apply zD | apply zB | apply zE | refine zG ?_ GE101.out) | exact HB.out)⟩
    · replace c5 := Bool.eq_false_iff.mpr c5
      subst c5
      have H1 : (some (([] : List Int), 5)) = some (r1, r2) := by rw [if_neg (show ¬ (false = true) by decide)] at H; exact H
      clear H
      have H := H1
      clear H1
      simp only [Option.some.injEq, Prod.mk.injEq] at H
      obtain ⟨rfl, rfl⟩ := H
      go_enter Try.func91, Try.ntmps91
      go_wp2_with (first | ((with_reducible refine zm (N := 1) rfl ?_); refine zp ?hg (N := 1) ?hd (cs := #[.slice A0_0 l0_0.length c0_0]) (t := 28) ?hr ?_; (case hd => rfl); (case hg => rfl); (case hr => first | (go_simp; done) | (go_simp; rfl)); intro gb101 hg w11 hbox hb; have n0_ := zA.mk (zO (by repeat (first | (with_reducible first | exact HB.out | apply zD | apply zB | apply zE) | exact HB.out)) hb); have n1_ := zA.mk (hbox); have n2_ := zA.mk ((by rw [hg]; exact (zP (by repeat (first | (with_reducible first | exact HB.out | apply zD | apply zB | apply zE) | exact HB.out))) : w.heap.size ≤ gb101)); have n3_ := zA.mk ((by rw [hg]; exact (zP (by repeat (first | (with_reducible first | exact HB.out | apply zD | apply zB | apply zE) | exact HB.out))) : w.heap.size ≤ gb101)); clear HB; have HB := n0_; have BK101 := n1_; have GW101 := n2_; have GE101 := n3_; clear n0_ n1_ n2_ n3_; clear hb hbox hg; have hcz12_0 : w11.cell? ⟨gb101, 0, none⟩ = some (.slice A0_0 l0_0.length c0_0) := (zJ BK101.out 0).trans rfl; have hfz12_0 := zL BK101.out 0) | ((with_reducible refine ze (f := 52) rfl ?_); refine qP (some 7) rfl rfl Try.func52 (by kernel_rfl) rfl #[.agg #[.slice A0_0 l0_0.length c0_0]] rfl (by (try simp only [yiy, yjy, yky]); first | done | rfl | (simp only [yly, ymy]; rfl)) ?_; (with_reducible refine (zM.calls k _ _ l0_0 true _ ?side1 ?side2 A2.out).mono ?_); (case side1 => repeat (first | exact (Kd.qA HR0_0.out HB.out) | (with_reducible refine Kd.qB ?_ _) | (with_reducible refine Kd.qC ?_ _) | (with_reducible refine Kd.qW ?_))); (case side2 => exact HC0_0.out); rintro e w13 ⟨rfl, hb⟩; refine ⟨_, rfl, ?_⟩; have n0_ := zA.mk (zN (g := gb101) (o := .cells #[.slice A0_0 l0_0.length c0_0] 28 (0, 0)) (by (with_reducible repeat (first | refine zI ?_ _ | refine zK ?_ | refine zH ?_ _)); exact BK101.out) hb); have n1_ := zA.mk (zO (by repeat (first | (with_reducible first | exact HB.out | apply zD | apply zB | apply zE | refine zG ?_ GE101.out) | exact HB.out)) hb); clear BK101; clear HB; have BK101 := n0_; have HB := n1_; clear n0_ n1_; (try clear hb); (try clear hb2); (try clear hk); (try clear hi); have hcz14_0 : w13.cell? ⟨gb101, 0, none⟩ = some (.slice A0_0 l0_0.length c0_0) := (zJ BK101.out 0).trans rfl; have hfz14_0 := zL BK101.out 0) | ((with_reducible refine ze (f := 138) rfl ?_); refine qP (some 11) rfl rfl Try.func138 (by kernel_rfl) rfl #[.agg #[.slice A0_0 l0_0.length c0_0]] rfl (by (try simp only [yiy, yjy, yky]); first | done | rfl | (simp only [yly, ymy]; rfl)) ?_; (with_reducible refine (zR.calls k _ _ l0_0 t103 false _ ?side1 ?side2 A4.out).mono ?_); (case side1 => repeat (first | exact (Kd.qA HR0_0.out HB.out) | (with_reducible refine Kd.qB ?_ _) | (with_reducible refine Kd.qC ?_ _) | (with_reducible refine Kd.qW ?_))); (case side2 => exact HC0_0.out); rintro e w15 ⟨v104, rfl, ho0, hb⟩; refine ⟨_, rfl, ?_⟩; have n0_ := zA.mk (Kd.qy ho0 (zP (by repeat (first | (with_reducible first | exact HB.out | apply zD | apply zB | apply zE | refine zG ?_ GE101.out) | exact HB.out)))); have n1_ := zA.mk (zN (g := gb101) (o := .cells #[.slice A0_0 l0_0.length c0_0] 28 (0, 0)) (by (with_reducible repeat (first | refine zI ?_ _ | refine zK ?_ | refine zH ?_ _)); exact BK101.out) hb); have n2_ := zA.mk (zO (by repeat (first | (with_reducible first | exact HB.out | apply zD | apply zB | apply zE | refine zG ?_ GE101.out) | exact HB.out)) hb); clear BK101; clear HB; have HO105 := n0_; have BK101 := n1_; have HB := n2_; clear n0_ n1_ n2_; (try clear hb); (try clear hb2); (try clear hk); (try clear hi); (try clear ho0)))
      go_ret2
      exact ⟨_, by first | rfl | (simp [zX, zY] <;> rfl) | (simp [*, zX, zY] <;> rfl), by first | exact Kd.Jl _ _ _ _ _ | exact Kd.zBP _ _ _ _ _ | exact Kd.zBQ _ _ _ _ _ | exact Kd.zBJ _ _ _ _ _ | exact Kd.zAq _ _ _ _ _, by repeat (first | (with_reducible first | exact HB.out | apply zD | apply zB | apply zE | refine zG ?_ GE101.out) | exact HB.out)⟩
  · replace c3 := Bool.eq_false_iff.mpr c3
    subst c3
    have H1 : (some (([] : List Int), 1)) = some (r1, r2) := by rw [if_neg (show ¬ (false = true) by decide)] at H; exact H
    clear H
    have H := H1
    clear H1
    simp only [Option.some.injEq, Prod.mk.injEq] at H
    obtain ⟨rfl, rfl⟩ := H
    go_enter Try.func91, Try.ntmps91
    go_wp2_with (first | ((with_reducible refine zm (N := 1) rfl ?_); refine zp ?hg (N := 1) ?hd (cs := #[.slice A0_0 l0_0.length c0_0]) (t := 28) ?hr ?_; (case hd => rfl); (case hg => rfl); (case hr => first | (go_simp; done) | (go_simp; rfl)); intro gb101 hg w16 hbox hb; have n0_ := zA.mk (zO (by repeat (first | (with_reducible first | exact HB.out | apply zD | apply zB | apply zE) | exact HB.out)) hb); have n1_ := zA.mk (hbox); have n2_ := zA.mk ((by rw [hg]; exact (zP (by repeat (first | (with_reducible first | exact HB.out | apply zD | apply zB | apply zE) | exact HB.out))) : w.heap.size ≤ gb101)); have n3_ := zA.mk ((by rw [hg]; exact (zP (by repeat (first | (with_reducible first | exact HB.out | apply zD | apply zB | apply zE) | exact HB.out))) : w.heap.size ≤ gb101)); clear HB; have HB := n0_; have BK101 := n1_; have GW101 := n2_; have GE101 := n3_; clear n0_ n1_ n2_ n3_; clear hb hbox hg; have hcz17_0 : w16.cell? ⟨gb101, 0, none⟩ = some (.slice A0_0 l0_0.length c0_0) := (zJ BK101.out 0).trans rfl; have hfz17_0 := zL BK101.out 0) | ((with_reducible refine ze (f := 52) rfl ?_); refine qP (some 7) rfl rfl Try.func52 (by kernel_rfl) rfl #[.agg #[.slice A0_0 l0_0.length c0_0]] rfl (by (try simp only [yiy, yjy, yky]); first | done | rfl | (simp only [yly, ymy]; rfl)) ?_; (with_reducible refine (zM.calls k _ _ l0_0 false _ ?side1 ?side2 A2.out).mono ?_); (case side1 => repeat (first | exact (Kd.qA HR0_0.out HB.out) | (with_reducible refine Kd.qB ?_ _) | (with_reducible refine Kd.qC ?_ _) | (with_reducible refine Kd.qW ?_))); (case side2 => exact HC0_0.out); rintro e w18 ⟨rfl, hb⟩; refine ⟨_, rfl, ?_⟩; have n0_ := zA.mk (zN (g := gb101) (o := .cells #[.slice A0_0 l0_0.length c0_0] 28 (0, 0)) (by (with_reducible repeat (first | refine zI ?_ _ | refine zK ?_ | refine zH ?_ _)); exact BK101.out) hb); have n1_ := zA.mk (zO (by repeat (first | (with_reducible first | exact HB.out | apply zD | apply zB | apply zE | refine zG ?_ GE101.out) | exact HB.out)) hb); clear BK101; clear HB; have BK101 := n0_; have HB := n1_; clear n0_ n1_; (try clear hb); (try clear hb2); (try clear hk); (try clear hi)))
    go_ret2
    exact ⟨_, by first | rfl | (simp [zX, zY] <;> rfl) | (simp [*, zX, zY] <;> rfl), by first | exact Kd.Jl _ _ _ _ _ | exact Kd.zBP _ _ _ _ _ | exact Kd.zBQ _ _ _ _ _ | exact Kd.zBJ _ _ _ _ _ | exact Kd.zAq _ _ _ _ _, by repeat (first | (with_reducible first | exact HB.out | apply zD | apply zB | apply zE | refine zG ?_ GE101.out) | exact HB.out)⟩
def qZ.f (k : Nat) (a0 : Int) (a1 : Int) : Option (Int) := (zS.f k a0).bind fun t101 => ((zS.f k a1).bind fun t104 => (if 0 < (t101.length : Int) then (if 0 ≤ (rd t101 0) then (if (rd t101 0) < (t104.length : Int) then (if 1 < (t101.length : Int) then (if 0 ≤ (rd t101 1) then (if (rd t101 1) < (t104.length : Int) then (if 2 < (t101.length : Int) then (if 0 ≤ (rd t101 2) then (if (rd t101 2) < (t104.length : Int) then (if 3 < (t101.length : Int) then (if 0 ≤ (rd t101 3) then (if (rd t101 3) < (t104.length : Int) then ((zk.f k (([rd t104 (rd t101 0), rd t104 (rd t101 1), rd t104 (rd t101 2), rd t104 (rd t101 3)] : List Int))).bind fun t118 => (some t118)) else (none)) else (none)) else (none)) else (none)) else (none)) else (none)) else (none)) else (none)) else (none)) else (none)) else (none)) else (none)))
theorem qZ.mono : ∀ a0 a1 k, LeO (qZ.f k a0 a1) (qZ.f (k + 1) a0 a1) := by
 intro a0 a1 k
 unfold qZ.f
 repeat' first
  | (with_reducible exact zS.mono _ _)
  | (with_reducible exact zk.mono _ _)
  | (with_reducible exact LeO.refl _)
  | (with_reducible exact LeO.none _)
  | (with_reducible refine LeO.ite ?_ ?_)
  | (with_reducible refine LeO.bind ?_ (fun _ => ?_))
  | exact zS.mono _ _
  | exact zk.mono _ _
  | exact LeO.none _
  | refine LeO.ite ?_ ?_
  | refine LeO.bind ?_ (fun _ => ?_)
def qZ.T3 : Bool × List (List Nat × List Nat) := (true, [([], []), ([], []), ([1], [1]), ([2], [2]), ([0, 3], [0, 3]), ([4], [4]), ([], []), ([], []), ([7], [7]), ([8], [8]), ([6, 9], [6, 9]), ([10], [10]), ([], []), ([], []), ([13], [13]), ([14], [14]), ([12, 15], [12, 15]), ([16], [16]), ([], []), ([], []), ([19], [19]), ([20], [20]), ([18, 21], [18, 21]), ([22], [22]), ([5, 11, 17, 23], [5, 11, 17, 23]), ([24], [24]), ([25, 25, 0, 1, 2, 3, 4, 5, 6, 7, 8, 9, 10, 11, 12, 13, 14, 15, 16, 17, 18, 19, 20, 21, 22, 23, 24, 25], [25])])
def qZ.B3 : List Nat := [0, 0, 2, 6, 15, 31, 0, 0, 128, 384, 960, 1984, 0, 0, 8192, 24576, 61440, 126976, 0, 0, 524288, 1572864, 3932160, 8126464, 16777215, 33554431, 67108863]
theorem qZ.tab3 : Jq .any (opsOf Try.f132 3) = qZ.T3 := by kernel_rfl
theorem qZ.bits3 : QM qZ.T3.2 qZ.B3 = true := by kernel_rfl
set_option maxHeartbeats 8000000 in
set_option maxRecDepth 100000 in
theorem qZ.calls (k : Nat) (a0 : Int) (a1 : Int) (r : Int) (w : World) (h : qZ.f k a0 a1 = some r) :
 Calls Try.prog 132 #[.int .i64 a0, .int .i64 a1] w fun e w' => e = .returned (.int .i64 r) ∧ Below w.heap.size w w' := by
 have HB := zA.mk (yqy w.heap.size w)
 have H : ((zS.f k a0).bind fun t101 => ((zS.f k a1).bind fun t104 => (if 0 < (t101.length : Int) then (if 0 ≤ (rd t101 0) then (if (rd t101 0) < (t104.length : Int) then (if 1 < (t101.length : Int) then (if 0 ≤ (rd t101 1) then (if (rd t101 1) < (t104.length : Int) then (if 2 < (t101.length : Int) then (if 0 ≤ (rd t101 2) then (if (rd t101 2) < (t104.length : Int) then (if 3 < (t101.length : Int) then (if 0 ≤ (rd t101 3) then (if (rd t101 3) < (t104.length : Int) then ((zk.f k (([rd t104 (rd t101 0), rd t104 (rd t101 1), rd t104 (rd t101 2), rd t104 (rd t101 3)] : List Int))).bind fun t118 => (some t118)) else (none)) else (none)) else (none)) else (none)) else (none)) else (none)) else (none)) else (none)) else (none)) else (none)) else (none)) else (none)))) = some r := h
 clear h
 replace H := ydy.mp H
 obtain ⟨t101, A30, H⟩ := H
 replace H : ((zS.f k a1).bind fun t104 => (if 0 < (t101.length : Int) then (if 0 ≤ (rd t101 0) then (if (rd t101 0) < (t104.length : Int) then (if 1 < (t101.length : Int) then (if 0 ≤ (rd t101 1) then (if (rd t101 1) < (t104.length : Int) then (if 2 < (t101.length : Int) then (if 0 ≤ (rd t101 2) then (if (rd t101 2) < (t104.length : Int) then (if 3 < (t101.length : Int) then (if 0 ≤ (rd t101 3) then (if (rd t101 3) < (t104.length : Int) then ((zk.f k (([rd t104 (rd t101 0), rd t104 (rd t101 1), rd t104 (rd t101 2), rd t104 (rd t101 3)] : List Int))).bind fun t118 => (some t118)) else (none)) else (none)) else (none)) else (none)) else (none)) else (none)) else (none)) else (none)) else (none)) else (none)) else (none)) else (none))) = some r := H
 have A3 := zA.mk A30
 clear A30
 replace H := ydy.mp H
 obtain ⟨t104, A40, H⟩ := H
 replace H : (if 0 < (t101.length : Int) then (if 0 ≤ (rd t101 0) then (if (rd t101 0) < (t104.length : Int) then (if 1 < (t101.length : Int) then (if 0 ≤ (rd t101 1) then (if (rd t101 1) < (t104.length : Int) then (if 2 < (t101.length : Int) then (if 0 ≤ (rd t101 2) then (if (rd t101 2) < (t104.length : Int) then (if 3 < (t101.length : Int) then (if 0 ≤ (rd t101 3) then (if (rd t101 3) < (t104.length : Int) then ((zk.f k (([rd t104 (rd t101 0), rd t104 (rd t101 1), rd t104 (rd t101 2), rd t104 (rd t101 3)] : List Int))).bind fun t118 => (some t118)) else (none)) else (none)) else (none)) else (none)) else (none)) else (none)) else (none)) else (none)) else (none)) else (none)) else (none)) else (none)) = some r := H
 have A4 := zA.mk A40
 clear A40
 by_cases c5 : 0 < (t101.length : Int)
 rotate_left
 next =>
  rw [if_neg c5] at H
  exact absurd H (by simp)
 rw [if_pos c5] at H
 have c5b0 : decide (0 < (t101.length : Int)) = true := ygy c5
 have c5b1 : decide (0 < t101.length) = true := ygy (by omega)
 clear c5
 by_cases c6 : 0 ≤ (rd t101 0)
 rotate_left
 next =>
  rw [if_neg c6] at H
  exact absurd H (by simp)
 rw [if_pos c6] at H
 have c6b0 : decide (0 ≤ (rd t101 0)) = true := ygy c6
 clear c6
 by_cases c7 : (rd t101 0) < (t104.length : Int)
 rotate_left
 next =>
  rw [if_neg c7] at H
  exact absurd H (by simp)
 rw [if_pos c7] at H
 have c7b0 : decide ((rd t101 0) < (t104.length : Int)) = true := ygy c7
 clear c7
 by_cases c8 : 1 < (t101.length : Int)
 rotate_left
 next =>
  rw [if_neg c8] at H
  exact absurd H (by simp)
 rw [if_pos c8] at H
 have c8b0 : decide (1 < (t101.length : Int)) = true := ygy c8
 have c8b1 : decide (1 < t101.length) = true := ygy (by omega)
 clear c8
 by_cases c9 : 0 ≤ (rd t101 1)
 rotate_left
 next =>
  rw [if_neg c9] at H
  exact absurd H (by simp)
 rw [if_pos c9] at H
 have c9b0 : decide (0 ≤ (rd t101 1)) = true := ygy c9
 clear c9
 by_cases c10 : (rd t101 1) < (t104.length : Int)
 rotate_left
 next =>
  rw [if_neg c10] at H
  exact absurd H (by simp)
 rw [if_pos c10] at H
 have c10b0 : decide ((rd t101 1) < (t104.length : Int)) = true := ygy c10
 clear c10
 by_cases c11 : 2 < (t101.length : Int)
 rotate_left
 next =>
  rw [if_neg c11] at H
  exact absurd H (by simp)
 rw [if_pos c11] at H
 have c11b0 : decide (2 < (t101.length : Int)) = true := ygy c11
 have c11b1 : decide (2 < t101.length) = true := ygy (by omega)
 clear c11
 by_cases c12 : 0 ≤ (rd t101 2)
 rotate_left
 next =>
  rw [if_neg c12] at H
  exact absurd H (by simp)
 rw [if_pos c12] at H
 have c12b0 : decide (0 ≤ (rd t101 2)) = true := ygy c12
 clear c12
 by_cases c13 : (rd t101 2) < (t104.length : Int)
 rotate_left
 next =>
  rw [if_neg c13] at H
  exact absurd H (by simp)
 rw [if_pos c13] at H
 have c13b0 : decide ((rd t101 2) < (t104.length : Int)) = true := ygy c13
 clear c13
 by_cases c14 : 3 < (t101.length : Int)
 rotate_left
 next =>
  rw [if_neg c14] at H
  exact absurd H (by simp)
 rw [if_pos c14] at H
 have c14b0 : decide (3 < (t101.length : Int)) = true := ygy c14
 have c14b1 : decide (3 < t101.length) = true := ygy (by omega)
 clear c14
 by_cases c15 : 0 ≤ (rd t101 3)
 rotate_left
 next =>
  rw [if_neg c15] at H
  exact absurd H (by simp)
 rw [if_pos c15] at H
 have c15b0 : decide (0 ≤ (rd t101 3)) = true := ygy c15
 clear c15
 by_cases c16 : (rd t101 3) < (t104.length : Int)
 rotate_left
 next =>
  rw [if_neg c16] at H
  exact absurd H (by simp)
 rw [if_pos c16] at H
 have c16b0 : decide ((rd t101 3) < (t104.length : Int)) = true := ygy c16
 clear c16
 obtain ⟨y115, hy115⟩ : ∃ y_ : List Int, y_ = (([rd t104 (rd t101 0), rd t104 (rd t101 1), rd t104 (rd t101 2), rd t104 (rd t101 3)] : List Int)) := ⟨_, rfl⟩
 replace H : ((zk.f k y115).bind fun t118 => (some t118)) = some r := by first | (rw [hy115]; with_reducible exact H) | (have H2_ := (yfy _ _).symm.trans H; rw [hy115]; with_reducible exact H2_) | (have H2_ := (yfy _ _).symm.trans H; with_reducible exact H2_) | with_reducible exact H | (rw [hy115]; exact H) | exact H
 have Ny115 := zA.mk hy115
 clear hy115
 replace H := ydy.mp H
 obtain ⟨t118, A170, H⟩ := H
 replace H : (some t118) = some r := H
 have A17 := zA.mk A170
 clear A170
 obtain rfl := yey H
 go_enter Try.func132, Try.ntmps132
 try go_wp2_with (first | ((with_reducible refine ze (f := 126) rfl ?_); refine qP (some 8) rfl rfl Try.func126 (by kernel_rfl) rfl #[.int .i64 a0] rfl (by (try simp only [yiy, yjy, yky]); first | done | rfl | (simp only [yly, ymy]; rfl)) ?_; (with_reducible refine (zS.calls k a0 t101 _ A3.out).mono ?_); rintro e w18 ⟨v102, rfl, ho0, hb⟩; refine ⟨_, rfl, ?_⟩; have n0_ := zA.mk (Kd.qy ho0 (zP (by repeat (first | (with_reducible first | exact HB.out | apply zD | apply zB | apply zE) | exact HB.out)))); have n1_ := zA.mk (zO (by repeat (first | (with_reducible first | exact HB.out | apply zD | apply zB | apply zE) | exact HB.out)) hb); clear HB; have HO103 := n0_; have HB := n1_; clear n0_ n1_; (try clear hb); (try clear hb2); (try clear hk); (try clear hi); (try clear ho0)) | ((with_reducible refine ze (f := 126) rfl ?_); refine qP (some 10) rfl rfl Try.func126 (by kernel_rfl) rfl #[.int .i64 a1] rfl (by (try simp only [yiy, yjy, yky]); first | done | rfl | (simp only [yly, ymy]; rfl)) ?_; (with_reducible refine (zS.calls k a1 t104 _ A4.out).mono ?_); rintro e w19 ⟨v105, rfl, ho0, hb⟩; refine ⟨_, rfl, ?_⟩; have n0_ := zA.mk (Kd.QB (by (with_reducible repeat (first | apply Kd.zZ | apply Kd.za | apply Kd.zf)); exact HO103.out) (Kd.QI ho0) hb); have n1_ := zA.mk (Kd.qy (Kd.JK ho0 (Kd.zAS (by (with_reducible repeat (first | apply Kd.zZ | apply Kd.za | apply Kd.zf)); exact HO103.out))) (zP (by repeat (first | (with_reducible first | exact HB.out | apply zD | apply zB | apply zE) | exact HB.out)))); have n2_ := zA.mk (zO (by repeat (first | (with_reducible first | exact HB.out | apply zD | apply zB | apply zE) | exact HB.out)) hb); clear HO103; clear HB; have HO103 := n0_; have HO106 := n1_; have HB := n2_; clear n0_ n1_ n2_; (try clear hb); (try clear hb2); (try clear hk); (try clear hi); (try clear ho0)))
 have n0_ := zA.mk (Kd.zf HO103.out)
 have n1_ := zA.mk (Kd.zf HO106.out)
 have n2_ := zA.mk (zE HB.out)
 clear HO103
 clear HO106
 clear HB
 have HO103 := n0_
 have HO106 := n1_
 have HB := n2_
 clear n0_ n1_ n2_
 obtain ⟨Ao21, co21, eo21⟩ := Kd.qv HO103.out
 (first | subst eo21 | (injection eo21 with f1_ f2_ f3_; have f4_ := f1_.symm; have f5_ := f3_.symm; clear f1_ f2_ f3_; subst f4_; subst f5_))
 have p107 : 0 ≤ (0 : Int) := (by omega)
 have q107 : 0 < (t101.length : Int) := of_decide_eq_true (by first | (with_reducible assumption) | assumption)
 obtain ⟨ad107, e107, hx107_0⟩ := Kd.qi (Kd.zj HO103.out).2.2 0 p107 q107
 cases e107
 have qi107 : (0 < t101.length) = True := eq_true (by omega)
 (try rw [show ((0 : Int)).toNat = 0 from rfl] at hx107_0)
 (try rw [Addr.add_zero'] at hx107_0)
 replace p107 := eq_true p107
 replace q107 := eq_true q107
 obtain ⟨Ao22, co22, eo22⟩ := Kd.qv HO106.out
 (first | subst eo22 | (injection eo22 with f1_ f2_ f3_; have f4_ := f1_.symm; have f5_ := f3_.symm; clear f1_ f2_ f3_; subst f4_; subst f5_))
 have p108 : 0 ≤ ((rd t101 0) : Int) := of_decide_eq_true (by first | (with_reducible assumption) | assumption)
 have q108 : (rd t101 0) < (t104.length : Int) := of_decide_eq_true (by first | (with_reducible assumption) | assumption)
 obtain ⟨ad108, e108, hx108_0⟩ := Kd.qi (Kd.zj HO106.out).2.2 (rd t101 0) p108 q108
 cases e108
 replace p108 := eq_true p108
 replace q108 := eq_true q108
 have p109 : 0 ≤ (1 : Int) := (by omega)
 have q109 : 1 < (t101.length : Int) := of_decide_eq_true (by first | (with_reducible assumption) | assumption)
 obtain ⟨ad109, e109, hx109_0⟩ := Kd.qi (Kd.zj HO103.out).2.2 1 p109 q109
 obtain rfl : ad107 = ad109 := (by injection e109)
 (try simp only [show (1 : Int).toNat = 1 from rfl, Nat.reduceMul, Nat.reduceEqDiff, Go.Addr.add, ↓reduceIte] at hx109_0)
 have qi109 : (1 < t101.length) = True := eq_true (by omega)
 (try rw [show ((1 : Int)).toNat = 1 from rfl] at hx109_0)
 replace p109 := eq_true p109
 replace q109 := eq_true q109
 have p110 : 0 ≤ ((rd t101 1) : Int) := of_decide_eq_true (by first | (with_reducible assumption) | assumption)
 have q110 : (rd t101 1) < (t104.length : Int) := of_decide_eq_true (by first | (with_reducible assumption) | assumption)
 obtain ⟨ad110, e110, hx110_0⟩ := Kd.qi (Kd.zj HO106.out).2.2 (rd t101 1) p110 q110
 obtain rfl : ad108 = ad110 := (by injection e110)
 replace p110 := eq_true p110
 replace q110 := eq_true q110
 have p111 : 0 ≤ (2 : Int) := (by omega)
 have q111 : 2 < (t101.length : Int) := of_decide_eq_true (by first | (with_reducible assumption) | assumption)
 obtain ⟨ad111, e111, hx111_0⟩ := Kd.qi (Kd.zj HO103.out).2.2 2 p111 q111
 obtain rfl : ad107 = ad111 := (by injection e111)
 (try simp only [show (2 : Int).toNat = 2 from rfl, Nat.reduceMul, Nat.reduceEqDiff, Go.Addr.add, ↓reduceIte] at hx111_0)
 have qi111 : (2 < t101.length) = True := eq_true (by omega)
 (try rw [show ((2 : Int)).toNat = 2 from rfl] at hx111_0)
 replace p111 := eq_true p111
 replace q111 := eq_true q111
 have p112 : 0 ≤ ((rd t101 2) : Int) := of_decide_eq_true (by first | (with_reducible assumption) | assumption)
 have q112 : (rd t101 2) < (t104.length : Int) := of_decide_eq_true (by first | (with_reducible assumption) | assumption)
 obtain ⟨ad112, e112, hx112_0⟩ := Kd.qi (Kd.zj HO106.out).2.2 (rd t101 2) p112 q112
 obtain rfl : ad108 = ad112 := (by injection e112)
 replace p112 := eq_true p112
 replace q112 := eq_true q112
 have p113 : 0 ≤ (3 : Int) := (by omega)
 have q113 : 3 < (t101.length : Int) := of_decide_eq_true (by first | (with_reducible assumption) | assumption)
 obtain ⟨ad113, e113, hx113_0⟩ := Kd.qi (Kd.zj HO103.out).2.2 3 p113 q113
 obtain rfl : ad107 = ad113 := (by injection e113)
 (try simp only [show (3 : Int).toNat = 3 from rfl, Nat.reduceMul, Nat.reduceEqDiff, Go.Addr.add, ↓reduceIte] at hx113_0)
 have qi113 : (3 < t101.length) = True := eq_true (by omega)
 (try rw [show ((3 : Int)).toNat = 3 from rfl] at hx113_0)
 replace p113 := eq_true p113
 replace q113 := eq_true q113
 have p114 : 0 ≤ ((rd t101 3) : Int) := of_decide_eq_true (by first | (with_reducible assumption) | assumption)
 have q114 : (rd t101 3) < (t104.length : Int) := of_decide_eq_true (by first | (with_reducible assumption) | assumption)
 obtain ⟨ad114, e114, hx114_0⟩ := Kd.qi (Kd.zj HO106.out).2.2 (rd t101 3) p114 q114
 obtain rfl : ad108 = ad114 := (by injection e114)
 replace p114 := eq_true p114
 replace q114 := eq_true q114
 refine ZN (n := 27) (S := fun w' => w'.cell? ad107 = some (.int .i64 (rd t101 0)) ∧ w'.cell? (ad108.add ((rd t101 0)).toNat) = some (.int .i64 (rd t104 (rd t101 0))) ∧ w'.cell? ⟨ad107.block, ad107.off + 1, none⟩ = some (.int .i64 (rd t101 1)) ∧ w'.cell? (ad108.add ((rd t101 1)).toNat) = some (.int .i64 (rd t104 (rd t101 1))) ∧ w'.cell? ⟨ad107.block, ad107.off + 2, none⟩ = some (.int .i64 (rd t101 2)) ∧ w'.cell? (ad108.add ((rd t101 2)).toNat) = some (.int .i64 (rd t104 (rd t101 2))) ∧ w'.cell? ⟨ad107.block, ad107.off + 3, none⟩ = some (.int .i64 (rd t101 3)) ∧ w'.cell? (ad108.add ((rd t101 3)).toNat) = some (.int .i64 (rd t104 (rd t101 3)))) (ds := []) #[false, false, false, false, false, false, false, false, false, false, false, false, false, false, false, false, false, false, false, false, false, false, false, false, false, false, false] (by kernel_rfl) rfl rfl ⟨hx107_0, hx108_0, hx109_0, hx110_0, hx111_0, hx112_0, hx113_0, hx114_0⟩ (fun hHeld => ?_); refine qx qZ.tab3 qZ.bits3 (fun HT_ HW_ => ?_)
 generalize w19.drew = w20 at HO103 HO106 HB hx107_0 hx108_0 hx109_0 hx110_0 hx111_0 hx112_0 hx113_0 hx114_0 hHeld ⊢
 refine zg (i := 0) (N := some 11) (v := ?_) (a' := ?_) #[true, false, false, false, false, false, false, false, false, false, false, false, false, false, false, false, false, false, false, false, false, false, false, false, false, false, false] rfl rfl (zb HT_.out (by kernel_rfl)) (fun _ _ _ h => h) (Or.inl ⟨by rfl, ?_⟩) ?_ ?_
 rotate_left
 next =>
  intro w'
  go_simp
  with_reducible rfl
 rotate_left
 next =>
  simp only [Act.put, yay, yby, ycy, zT, zU]
  rfl
 refine zg (i := 1) (N := some 12) (v := ?_) (a' := ?_) #[true, true, false, false, false, false, false, false, false, false, false, false, false, false, false, false, false, false, false, false, false, false, false, false, false, false, false] rfl rfl (zb HT_.out (by kernel_rfl)) (fun _ _ _ h => h) (Or.inl ⟨by rfl, ?_⟩) ?_ ?_
 rotate_left
 next =>
  intro w'
  go_simp
  with_reducible rfl
 rotate_left
 next =>
  simp only [Act.put, yay, yby, ycy, zT, zU]
  rfl
 refine zg (i := 2) (N := some 13) (v := ?_) (a' := ?_) #[true, true, true, false, false, false, false, false, false, false, false, false, false, false, false, false, false, false, false, false, false, false, false, false, false, false, false] rfl rfl (zb HT_.out (by kernel_rfl)) (fun _ _ _ h => h) (Or.inl ⟨by rfl, ?_⟩) ?_ ?_
 rotate_left
 next =>
  intro w'
  go_simp
  with_reducible rfl
 rotate_left
 next =>
  simp only [Act.put, yay, yby, ycy, zT, zU]
  rfl
 refine zg (i := 6) (N := some 17) (v := ?_) (a' := ?_) #[true, true, true, false, false, false, true, false, false, false, false, false, false, false, false, false, false, false, false, false, false, false, false, false, false, false, false] rfl rfl (zb HT_.out (by kernel_rfl)) (fun _ _ _ h => h) (Or.inl ⟨by rfl, ?_⟩) ?_ ?_
 rotate_left
 next =>
  intro w'
  go_simp
  with_reducible rfl
 rotate_left
 next =>
  simp only [Act.put, yay, yby, ycy, zT, zU]
  rfl
 refine zg (i := 7) (N := some 18) (v := ?_) (a' := ?_) #[true, true, true, false, false, false, true, true, false, false, false, false, false, false, false, false, false, false, false, false, false, false, false, false, false, false, false] rfl rfl (zb HT_.out (by kernel_rfl)) (fun _ _ _ h => h) (Or.inl ⟨by rfl, ?_⟩) ?_ ?_
 rotate_left
 next =>
  intro w'
  go_simp
  with_reducible rfl
 rotate_left
 next =>
  simp only [Act.put, yay, yby, ycy, zT, zU]
  rfl
 refine zg (i := 8) (N := some 19) (v := ?_) (a' := ?_) #[true, true, true, false, false, false, true, true, true, false, false, false, false, false, false, false, false, false, false, false, false, false, false, false, false, false, false] rfl rfl (zb HT_.out (by kernel_rfl)) (fun _ _ _ h => h) (Or.inl ⟨by rfl, ?_⟩) ?_ ?_
 rotate_left
 next =>
  intro w'
  go_simp
  with_reducible rfl
 rotate_left
 next =>
  simp only [Act.put, yay, yby, ycy, zT, zU]
  rfl
 refine zg (i := 12) (N := some 23) (v := ?_) (a' := ?_) #[true, true, true, false, false, false, true, true, true, false, false, false, true, false, false, false, false, false, false, false, false, false, false, false, false, false, false] rfl rfl (zb HT_.out (by kernel_rfl)) (fun _ _ _ h => h) (Or.inl ⟨by rfl, ?_⟩) ?_ ?_
 rotate_left
 next =>
  intro w'
  go_simp
  with_reducible rfl
 rotate_left
 next =>
  simp only [Act.put, yay, yby, ycy, zT, zU]
  rfl
 refine zg (i := 13) (N := some 24) (v := ?_) (a' := ?_) #[true, true, true, false, false, false, true, true, true, false, false, false, true, true, false, false, false, false, false, false, false, false, false, false, false, false, false] rfl rfl (zb HT_.out (by kernel_rfl)) (fun _ _ _ h => h) (Or.inl ⟨by rfl, ?_⟩) ?_ ?_
 rotate_left
 next =>
  intro w'
  go_simp
  with_reducible rfl
 rotate_left
 next =>
  simp only [Act.put, yay, yby, ycy, zT, zU]
  rfl
 refine zg (i := 14) (N := some 25) (v := ?_) (a' := ?_) #[true, true, true, false, false, false, true, true, true, false, false, false, true, true, true, false, false, false, false, false, false, false, false, false, false, false, false] rfl rfl (zb HT_.out (by kernel_rfl)) (fun _ _ _ h => h) (Or.inl ⟨by rfl, ?_⟩) ?_ ?_
 rotate_left
 next =>
  intro w'
  go_simp
  with_reducible rfl
 rotate_left
 next =>
  simp only [Act.put, yay, yby, ycy, zT, zU]
  rfl
 refine zg (i := 18) (N := some 29) (v := ?_) (a' := ?_) #[true, true, true, false, false, false, true, true, true, false, false, false, true, true, true, false, false, false, true, false, false, false, false, false, false, false, false] rfl rfl (zb HT_.out (by kernel_rfl)) (fun _ _ _ h => h) (Or.inl ⟨by rfl, ?_⟩) ?_ ?_
 rotate_left
 next =>
  intro w'
  go_simp
  with_reducible rfl
 rotate_left
 next =>
  simp only [Act.put, yay, yby, ycy, zT, zU]
  rfl
 refine zg (i := 19) (N := some 30) (v := ?_) (a' := ?_) #[true, true, true, false, false, false, true, true, true, false, false, false, true, true, true, false, false, false, true, true, false, false, false, false, false, false, false] rfl rfl (zb HT_.out (by kernel_rfl)) (fun _ _ _ h => h) (Or.inl ⟨by rfl, ?_⟩) ?_ ?_
 rotate_left
 next =>
  intro w'
  go_simp
  with_reducible rfl
 rotate_left
 next =>
  simp only [Act.put, yay, yby, ycy, zT, zU]
  rfl
 refine zg (i := 20) (N := some 31) (v := ?_) (a' := ?_) #[true, true, true, false, false, false, true, true, true, false, false, false, true, true, true, false, false, false, true, true, true, false, false, false, false, false, false] rfl rfl (zb HT_.out (by kernel_rfl)) (fun _ _ _ h => h) (Or.inl ⟨by rfl, ?_⟩) ?_ ?_
 rotate_left
 next =>
  intro w'
  go_simp
  with_reducible rfl
 rotate_left
 next =>
  simp only [Act.put, yay, yby, ycy, zT, zU]
  rfl
 refine qQ (i := 3) (N := some 14) (v := ?_) (a' := ?_) #[true, true, true, true, false, false, true, true, true, false, false, false, true, true, true, false, false, false, true, true, true, false, false, false, false, false, false] rfl rfl (zn HT_.out HW_.out (by kernel_rfl)) (fun _ _ _ h => h) (Or.inl ⟨by rfl, ?_⟩) hHeld ?_ ?_
 rotate_left
 next =>
  rintro w' ⟨s0, s1, s2, s3, s4, s5, s6, s7⟩
  go_simp
  with_reducible rfl
 rotate_left
 next =>
  simp only [Act.put, yay, yby, ycy, zT, zU]
  rfl
 refine zg (i := 4) (N := some 15) (v := ?_) (a' := ?_) #[true, true, true, true, true, false, true, true, true, false, false, false, true, true, true, false, false, false, true, true, true, false, false, false, false, false, false] rfl rfl (zb HT_.out (by kernel_rfl)) (fun _ _ _ h => h) (Or.inl ⟨by rfl, ?_⟩) ?_ ?_
 rotate_left
 next =>
  intro w'
  go_simp
  with_reducible rfl
 rotate_left
 next =>
  simp only [Act.put, yay, yby, ycy, zT, zU]
  rfl
 refine qQ (i := 5) (N := some 16) (v := ?_) (a' := ?_) #[true, true, true, true, true, true, true, true, true, false, false, false, true, true, true, false, false, false, true, true, true, false, false, false, false, false, false] rfl rfl (zn HT_.out HW_.out (by kernel_rfl)) (fun _ _ _ h => h) (Or.inl ⟨by rfl, ?_⟩) hHeld ?_ ?_
 rotate_left
 next =>
  rintro w' ⟨s0, s1, s2, s3, s4, s5, s6, s7⟩
  go_simp
  with_reducible rfl
 rotate_left
 next =>
  simp only [Act.put, yay, yby, ycy, zT, zU]
  rfl
 refine qQ (i := 9) (N := some 20) (v := ?_) (a' := ?_) #[true, true, true, true, true, true, true, true, true, true, false, false, true, true, true, false, false, false, true, true, true, false, false, false, false, false, false] rfl rfl (zn HT_.out HW_.out (by kernel_rfl)) (fun _ _ _ h => h) (Or.inl ⟨by rfl, ?_⟩) hHeld ?_ ?_
 rotate_left
 next =>
  rintro w' ⟨s0, s1, s2, s3, s4, s5, s6, s7⟩
  go_simp
  with_reducible rfl
 rotate_left
 next =>
  simp only [Act.put, yay, yby, ycy, zT, zU]
  rfl
 refine zg (i := 10) (N := some 21) (v := ?_) (a' := ?_) #[true, true, true, true, true, true, true, true, true, true, true, false, true, true, true, false, false, false, true, true, true, false, false, false, false, false, false] rfl rfl (zb HT_.out (by kernel_rfl)) (fun _ _ _ h => h) (Or.inl ⟨by rfl, ?_⟩) ?_ ?_
 rotate_left
 next =>
  intro w'
  go_simp
  with_reducible rfl
 rotate_left
 next =>
  simp only [Act.put, yay, yby, ycy, zT, zU]
  rfl
 refine qQ (i := 11) (N := some 22) (v := ?_) (a' := ?_) #[true, true, true, true, true, true, true, true, true, true, true, true, true, true, true, false, false, false, true, true, true, false, false, false, false, false, false] rfl rfl (zn HT_.out HW_.out (by kernel_rfl)) (fun _ _ _ h => h) (Or.inl ⟨by rfl, ?_⟩) hHeld ?_ ?_
 rotate_left
 next =>
  rintro w' ⟨s0, s1, s2, s3, s4, s5, s6, s7⟩
  go_simp
  with_reducible rfl
 rotate_left
 next =>
  simp only [Act.put, yay, yby, ycy, zT, zU]
  rfl
 refine qQ (i := 15) (N := some 26) (v := ?_) (a' := ?_) #[true, true, true, true, true, true, true, true, true, true, true, true, true, true, true, true, false, false, true, true, true, false, false, false, false, false, false] rfl rfl (zn HT_.out HW_.out (by kernel_rfl)) (fun _ _ _ h => h) (Or.inl ⟨by rfl, ?_⟩) hHeld ?_ ?_
 rotate_left
 next =>
  rintro w' ⟨s0, s1, s2, s3, s4, s5, s6, s7⟩
  go_simp
  with_reducible rfl
 rotate_left
 next =>
  simp only [Act.put, yay, yby, ycy, zT, zU]
  rfl
 refine zg (i := 16) (N := some 27) (v := ?_) (a' := ?_) #[true, true, true, true, true, true, true, true, true, true, true, true, true, true, true, true, true, false, true, true, true, false, false, false, false, false, false] rfl rfl (zb HT_.out (by kernel_rfl)) (fun _ _ _ h => h) (Or.inl ⟨by rfl, ?_⟩) ?_ ?_
 rotate_left
 next =>
  intro w'
  go_simp
  with_reducible rfl
 rotate_left
 next =>
  simp only [Act.put, yay, yby, ycy, zT, zU]
  rfl
 refine qQ (i := 17) (N := some 28) (v := ?_) (a' := ?_) #[true, true, true, true, true, true, true, true, true, true, true, true, true, true, true, true, true, true, true, true, true, false, false, false, false, false, false] rfl rfl (zn HT_.out HW_.out (by kernel_rfl)) (fun _ _ _ h => h) (Or.inl ⟨by rfl, ?_⟩) hHeld ?_ ?_
 rotate_left
 next =>
  rintro w' ⟨s0, s1, s2, s3, s4, s5, s6, s7⟩
  go_simp
  with_reducible rfl
 rotate_left
 next =>
  simp only [Act.put, yay, yby, ycy, zT, zU]
  rfl
 refine qQ (i := 21) (N := some 32) (v := ?_) (a' := ?_) #[true, true, true, true, true, true, true, true, true, true, true, true, true, true, true, true, true, true, true, true, true, true, false, false, false, false, false] rfl rfl (zn HT_.out HW_.out (by kernel_rfl)) (fun _ _ _ h => h) (Or.inl ⟨by rfl, ?_⟩) hHeld ?_ ?_
 rotate_left
 next =>
  rintro w' ⟨s0, s1, s2, s3, s4, s5, s6, s7⟩
  go_simp
  with_reducible rfl
 rotate_left
 next =>
  simp only [Act.put, yay, yby, ycy, zT, zU]
  rfl
 refine zg (i := 22) (N := some 33) (v := ?_) (a' := ?_) #[true, true, true, true, true, true, true, true, true, true, true, true, true, true, true, true, true, true, true, true, true, true, true, false, false, false, false] rfl rfl (zb HT_.out (by kernel_rfl)) (fun _ _ _ h => h) (Or.inl ⟨by rfl, ?_⟩) ?_ ?_
 rotate_left
 next =>
  intro w'
  go_simp
  with_reducible rfl
 rotate_left
 next =>
  simp only [Act.put, yay, yby, ycy, zT, zU]
  rfl
 refine qQ (i := 23) (N := some 34) (v := ?_) (a' := ?_) #[true, true, true, true, true, true, true, true, true, true, true, true, true, true, true, true, true, true, true, true, true, true, true, true, false, false, false] rfl rfl (zn HT_.out HW_.out (by kernel_rfl)) (fun _ _ _ h => h) (Or.inl ⟨by rfl, ?_⟩) hHeld ?_ ?_
 rotate_left
 next =>
  rintro w' ⟨s0, s1, s2, s3, s4, s5, s6, s7⟩
  go_simp
  with_reducible rfl
 rotate_left
 next =>
  simp only [Act.put, yay, yby, ycy, zT, zU]
  rfl
 refine QH (i := 24) (N := some 35) #[true, true, true, true, true, true, true, true, true, true, true, true, true, true, true, true, true, true, true, true, true, true, true, true, true, false, false] rfl rfl (ZF HT_.out (by kernel_rfl)) (by decide) (fun K hK => ?_)
 refine Kd.JW (Kd.int .i64) _ 2 ?hg (N := 35) ?hd (xs := ([rd t104 (rd t101 0), rd t104 (rd t101 1), rd t104 (rd t101 2), rd t104 (rd t101 3)] : List Int)) (inner := [.int .i64 (rd t104 (rd t101 0)), .int .i64 (rd t104 (rd t101 1)), .int .i64 (rd t104 (rd t101 2)), .int .i64 (rd t104 (rd t101 3))]) (ok := fun _ => True) (okp := fun _ => True) ?hr ?hp (fun _ hk => hk) trivial (yqy _ _) (ypy _) (by simp) ?_; (case hd => rfl); (case hg => rfl); (case hr => first | (go_simp; done) | (go_simp; rfl)); (case hp => exact (Zs.one (show Kd.M (Kd.int .i64) _ _ _ (rd t104 (rd t101 0)) [.int .i64 (rd t104 (rd t101 0))] from rfl) (Zs.one (show Kd.M (Kd.int .i64) _ _ _ (rd t104 (rd t101 1)) [.int .i64 (rd t104 (rd t101 1))] from rfl) (Zs.one (show Kd.M (Kd.int .i64) _ _ _ (rd t104 (rd t101 2)) [.int .i64 (rd t104 (rd t101 2))] from rfl) (Zs.one (show Kd.M (Kd.int .i64) _ _ _ (rd t104 (rd t101 3)) [.int .i64 (rd t104 (rd t101 3))] from rfl) (Zs.none _ _))))))
 intro v116 w23 ho24 hb hg_ hnew_
 have HS0_ := (hb.cell (yoy _ _ (hHeld.1))).trans (hHeld.1)
 have HS1_ := (hb.cell (yoy _ _ (hHeld.2.1))).trans (hHeld.2.1)
 have HS2_ := (hb.cell (yoy _ _ (hHeld.2.2.1))).trans (hHeld.2.2.1)
 have HS3_ := (hb.cell (yoy _ _ (hHeld.2.2.2.1))).trans (hHeld.2.2.2.1)
 have HS4_ := (hb.cell (yoy _ _ (hHeld.2.2.2.2.1))).trans (hHeld.2.2.2.2.1)
 have HS5_ := (hb.cell (yoy _ _ (hHeld.2.2.2.2.2.1))).trans (hHeld.2.2.2.2.2.1)
 have HS6_ := (hb.cell (yoy _ _ (hHeld.2.2.2.2.2.2.1))).trans (hHeld.2.2.2.2.2.2.1)
 have HS7_ := (hb.cell (yoy _ _ (hHeld.2.2.2.2.2.2.2))).trans (hHeld.2.2.2.2.2.2.2)
 clear hg_ hnew_
 (first | rw [← Ny115.out] at ho24 | (simp only [Int.reduceToNat] at ho24; rw [← Ny115.out] at ho24))
 have n0_ := zA.mk (Kd.QB (by (with_reducible repeat (first | apply Kd.zZ | apply Kd.za | apply Kd.zf)); exact HO103.out) (Kd.QI ho24) hb)
 have n1_ := zA.mk (Kd.QB (by (with_reducible repeat (first | apply Kd.zZ | apply Kd.za | apply Kd.zf)); exact HO106.out) (Kd.QI ho24) hb)
 have n2_ := zA.mk (Kd.qy (Kd.JK (Kd.JK ho24 (Kd.zAS (by (with_reducible repeat (first | apply Kd.zZ | apply Kd.za | apply Kd.zf)); exact HO103.out))) (Kd.zAS (by (with_reducible repeat (first | apply Kd.zZ | apply Kd.za | apply Kd.zf)); exact HO106.out))) (zP (by repeat (first | (with_reducible first | exact HB.out | apply zD | apply zB | apply zE) | exact HB.out))))
 have n3_ := zA.mk (zO (by repeat (first | (with_reducible first | exact HB.out | apply zD | apply zB | apply zE) | exact HB.out)) hb)
 clear HO103
 clear HO106
 clear HB
 have HO103 := n0_
 have HO106 := n1_
 have HO117 := n2_
 have HB := n3_
 clear n0_ n1_ n2_ n3_
 clear hb ho24
 obtain ⟨Ao25, co25, eo25⟩ := Kd.qv HO117.out
 (first | subst eo25 | (injection eo25 with f1_ f2_ f3_; have f4_ := f1_.symm; have f5_ := f3_.symm; clear f1_ f2_ f3_; subst f4_; subst f5_))
 refine hK.out _ _ ⟨HS0_, HS1_, HS2_, HS3_, HS4_, HS5_, HS6_, HS7_⟩ (fun hHeld => ?_)
 clear hK K
 refine ZQ (a' := ?_) ?_ ?_
 rotate_left
 next =>
  show Act.put _ (some 35) _ = _
  simp only [Act.put, yay, yby, ycy, zT, zU]
  rfl
 refine QH (i := 25) (N := some 36) #[true, true, true, true, true, true, true, true, true, true, true, true, true, true, true, true, true, true, true, true, true, true, true, true, true, true, false] rfl rfl (ZF HT_.out (by kernel_rfl)) (by decide) (fun K hK => ?_)
 refine Zv Try.func165 (by kernel_rfl) rfl #[.slice Ao25 y115.length co25] (by rfl) rfl rfl (by (try simp only [yiy, yjy, yky]); first | done | rfl | (simp only [yly, ymy]; rfl)) ?_
 with_reducible refine (zk.calls k _ _ y115 t118 _ ?side1 ?side2 A17.out).mono ?_
 (case side1 => repeat (first | exact (Kd.zj HO117.out).2.2 | (with_reducible refine Kd.qB ?_ _) | (with_reducible refine Kd.qC ?_ _) | (with_reducible refine Kd.qW ?_)))
 (case side2 => exact (Kd.zj HO117.out).2.1)
 rintro e w' ⟨rfl, ⟨nd, rfl⟩⟩
 refine ⟨_, rfl, ?_⟩
 refine hK.out _ _ ⟨hHeld.1, hHeld.2.1, hHeld.2.2.1, hHeld.2.2.2.1, hHeld.2.2.2.2.1, hHeld.2.2.2.2.2.1, hHeld.2.2.2.2.2.2.1, hHeld.2.2.2.2.2.2.2⟩ (fun hHeld => ?_)
 clear hK K
 refine ZQ (a' := ?_) ?_ ?_
 rotate_left
 next =>
  show Act.put _ (some 36) _ = _
  simp only [Act.put, yay, yby, ycy, zT, zU]
  rfl
 refine zg (i := 26) (N := some 4) (v := ?_) (a' := ?_) #[true, true, true, true, true, true, true, true, true, true, true, true, true, true, true, true, true, true, true, true, true, true, true, true, true, true, true] rfl rfl (zb HT_.out (by kernel_rfl)) (fun _ _ _ h => h) (Or.inl ⟨by rfl, ?_⟩) ?_ ?_
 rotate_left
 next =>
  intro w'
  go_simp
  with_reducible rfl
 rotate_left
 next =>
  simp only [Act.put, yay, yby, ycy, zT, zU]
  rfl
 refine Zo (ZS HT_.out (by kernel_rfl)) ?_
 try go_wp2
 go_ret
 exact ⟨by first | rfl | (simp [zX, zY] <;> rfl) | (simp [*, zX, zY] <;> rfl), by repeat (first | (with_reducible first | exact HB.out | apply zD | apply zB | apply zE) | exact HB.out)⟩
def JU.f  : Option ((List (zh))) := some (([(⟨(-1), 0⟩ : zh), (⟨(-1), 0⟩ : zh), (⟨(-1), 0⟩ : zh), (⟨(-1), 0⟩ : zh)] : List (zh)))
set_option maxHeartbeats 8000000 in
set_option maxRecDepth 100000 in
theorem JU.calls  (r : List (zh)) (w : World) (h : JU.f  = some r) :
    Calls Try.prog 80 #[] w fun e w' => ∃ v0_ : Value, e = .returned (v0_) ∧ Kd.R qJ 74 w' w.heap.size (fun _ => True) v0_ r ∧ Below w.heap.size w w' := by
  have hu74 := Try.underlying74
  have HB := zA.mk (yqy w.heap.size w)
  have H : (some (([(⟨(-1), 0⟩ : zh), (⟨(-1), 0⟩ : zh), (⟨(-1), 0⟩ : zh), (⟨(-1), 0⟩ : zh)] : List (zh)))) = some r := h
  clear h
  obtain ⟨y101, hy101⟩ : ∃ y_ : List (zh), y_ = (([(⟨(-1), 0⟩ : zh), (⟨(-1), 0⟩ : zh), (⟨(-1), 0⟩ : zh), (⟨(-1), 0⟩ : zh)] : List (zh))) := ⟨_, rfl⟩
  replace H : (some y101) = some r := by first | (rw [hy101]; with_reducible exact H) | (have H2_ := (yfy _ _).symm.trans H; rw [hy101]; with_reducible exact H2_) | (have H2_ := (yfy _ _).symm.trans H; with_reducible exact H2_) | with_reducible exact H | (rw [hy101]; exact H) | exact H
  have Ny101 := zA.mk hy101
  clear hy101
  obtain rfl := yey H
  go_enter Try.func80, Try.ntmps80
  go_wp2_with (first | ((with_reducible refine zm (N := 5) rfl ?_); refine Kd.zBI qJ _ 74 ?hg (N := 5) ?hd (xs := ([(⟨(-1), 0⟩ : zh), (⟨(-1), 0⟩ : zh), (⟨(-1), 0⟩ : zh), (⟨(-1), 0⟩ : zh)] : List (zh))) (inner := [.int .i64 (-1), .int .i64 0, .int .i64 (-1), .int .i64 0, .int .i64 (-1), .int .i64 0, .int .i64 (-1), .int .i64 0]) (ok := fun _ => True) (okp := fun _ => True) ?hr ?hp (fun _ hk => hk) trivial (yqy _ _) (ypy _) (by simp) ?_; (case hd => rfl); (case hg => rfl); (case hr => first | (go_simp; done) | (go_simp; rfl)); (case hp => exact (Zs.c2 (show Kd.M qJ _ _ _ (⟨(-1), 0⟩ : zh) [.int .i64 (-1), .int .i64 0] from (Zi _ _ _ (⟨(-1), 0⟩ : zh) )) (Zs.c2 (show Kd.M qJ _ _ _ (⟨(-1), 0⟩ : zh) [.int .i64 (-1), .int .i64 0] from (Zi _ _ _ (⟨(-1), 0⟩ : zh) )) (Zs.c2 (show Kd.M qJ _ _ _ (⟨(-1), 0⟩ : zh) [.int .i64 (-1), .int .i64 0] from (Zi _ _ _ (⟨(-1), 0⟩ : zh) )) (Zs.c2 (show Kd.M qJ _ _ _ (⟨(-1), 0⟩ : zh) [.int .i64 (-1), .int .i64 0] from (Zi _ _ _ (⟨(-1), 0⟩ : zh) )) (Zs.none _ _)))))); intro v102 w1 ho2 hb hg_ hnew_; clear hg_ hnew_; (first | rw [← Ny101.out] at ho2 | (simp only [Int.reduceToNat] at ho2; rw [← Ny101.out] at ho2)); have n0_ := zA.mk (Kd.qy ho2 (zP (by repeat (first | (with_reducible first | exact HB.out | apply zD | apply zB | apply zE) | exact HB.out)))); have n1_ := zA.mk (zO (by repeat (first | (with_reducible first | exact HB.out | apply zD | apply zB | apply zE) | exact HB.out)) hb); clear HB; have HO103 := n0_; have HB := n1_; clear n0_ n1_; clear hb ho2))
  go_ret
  exact ⟨_, by first | rfl | (simp [zX, zY] <;> rfl) | (simp [*, zX, zY] <;> rfl), by (with_reducible repeat (first | apply Kd.zZ | apply Kd.za | apply Kd.zf)); exact HO103.out, by repeat (first | (with_reducible first | exact HB.out | apply zD | apply zB | apply zE) | exact HB.out)⟩
end Go.Proofs.Ytdgdnnjigigkcaa.P
