/- The statement FnExactLinkCornersSaid, proved: part 6 of 7 (texts of this session and of the kit's print, put together and cut to what is used by a program of it). -/
import Derived.Test.YtembbpalgfikiaaMFnExactLinkCorners5
namespace Go.Proofs.Ytembbpalgfikiaa.P
open Go.RowKit Go.Proofs.YtembbpalgfikiaaW.PrintWords Go.Proofs.YtembbpalgfikiaaW.PrintLast Go.Proofs.YtembbpalgfikiaaW.PrintMore
attribute [local go_sem] Qa Qb Qz JA QI QJ Qc Qd
set_option linter.unusedVariables false
set_option linter.unusedSimpArgs false
mutual
def zQ.l0 : Nat → Int → List Int → List Int → List Int → Int → List (List (zr)) → Option ((List (List Int)) × (List (List Int)) × (List (List Int)) × List Int)
 | 0, _, _, _, _, _, _ => none
 | k + 1, x4, x5, x6, x7, x8, x102000 => if x8 < x4 then (zQ.l1 k x4 x5 x6 x7 x8 0 x102000) else ((some (([0, 0, 0, x4] : List Int) : List Int)).bind fun y114 => ((ze.f k x5 4).bind fun bt117 => (if 0 < (y114.length : Int) then ((ze.f k x6 6).bind fun bt122 => (if 1 < (y114.length : Int) then ((ze.f k x7 4).bind fun bt127 => (if 2 < (y114.length : Int) then (some (bt117.1, bt122.1, bt127.1, (((y114.set (0 : Int).toNat bt117.2).set (1 : Int).toNat bt122.2).set (2 : Int).toNat bt127.2))) else (none))) else (none))) else (none))))
def zQ.l1 : Nat → Int → List Int → List Int → List Int → Int → Int → List (List (zr)) → Option ((List (List Int)) × (List (List Int)) × (List (List Int)) × List Int)
 | 0, _, _, _, _, _, _, _ => none
 | k + 1, x4, x5, x6, x7, x8, x9, x102000 => if x9 < 4 then (if 0 ≤ x8 then (if x8 < (x102000.length : Int) then (if 0 ≤ x9 then (if x9 < ((zE x102000 x8).length : Int) then (if ((zI (zE x102000 x8) x9).f0) < 0 then (zQ.l1 k x4 x5 x6 x7 x8 (wrap64 (x9 + 1)) x102000) else ((qt.f k ((zI (zE x102000 x8) x9).f1) x9).bind fun t135 => ((qn.f x7 (wrap64 ((wrap64 (4 * x8)) + x9)) (wrap64 ((wrap64 (4 * ((zI (zE x102000 x8) x9).f0))) + t135))).bind fun t136 => (zQ.l2 k x4 x5 x6 t136 x8 x9 0 x102000 ((zI (zE x102000 x8) x9).f0) ((zI (zE x102000 x8) x9).f1))))) else (none)) else (none)) else (none)) else (none)) else (zQ.l0 k x4 x5 x6 x7 (wrap64 (x8 + 1)) x102000)
def zQ.l2 : Nat → Int → List Int → List Int → List Int → Int → Int → Int → List (List (zr)) → Int → Int → Option ((List (List Int)) × (List (List Int)) × (List (List Int)) × List Int)
 | 0, _, _, _, _, _, _, _, _, _, _ => none
 | k + 1, x4, x5, x6, x7, x8, x9, x11, x102000, x135000, x135001 => if x11 < 4 then (if x11 = x9 then (zQ.l2 k x4 x5 x6 x7 x8 x9 (wrap64 (x11 + 1)) x102000 x135000 x135001) else ((qt.f k x135001 x11).bind fun t137 => ((qn.f x5 (wrap64 ((wrap64 (4 * x8)) + x11)) (wrap64 ((wrap64 (4 * x135000)) + t137))).bind fun t138 => (zQ.l2 k x4 t138 x6 x7 x8 x9 (wrap64 (x11 + 1)) x102000 x135000 x135001)))) else (zQ.l3 k x4 x5 x6 x7 x8 x9 0 x102000 x135000 x135001)
def zQ.l3 : Nat → Int → List Int → List Int → List Int → Int → Int → Int → List (List (zr)) → Int → Int → Option ((List (List Int)) × (List (List Int)) × (List (List Int)) × List Int)
 | 0, _, _, _, _, _, _, _, _, _, _ => none
 | k + 1, x4, x5, x6, x7, x8, x9, x12, x102000, x135000, x135001 => if x12 < 6 then ((qj.f x12).bind fun bt139 => (if bt139.1 = x9 then (zQ.j4 k x4 x5 x6 x7 x8 x9 x12 bt139.1 bt139.2 false x102000 x135000 x135001) else (zQ.j4 k x4 x5 x6 x7 x8 x9 x12 bt139.1 bt139.2 (bt139.2 != x9) x102000 x135000 x135001))) else (zQ.l1 k x4 x5 x6 x7 x8 (wrap64 (x9 + 1)) x102000)
def zQ.j4 : Nat → Int → List Int → List Int → List Int → Int → Int → Int → Int → Int → Bool → List (List (zr)) → Int → Int → Option ((List (List Int)) × (List (List Int)) × (List (List Int)) × List Int)
 | 0, _, _, _, _, _, _, _, _, _, _, _, _, _ => none
 | k + 1, x4, x5, x6, x7, x8, x9, x12, x13, x14, x99, x102000, x135000, x135001 => if x99 = true then ((qt.f k x135001 x13).bind fun t141 => ((qt.f k x135001 x14).bind fun t142 => ((zw.f k t141 t142).bind fun t143 => ((qn.f x6 (wrap64 ((wrap64 (6 * x8)) + x12)) (wrap64 ((wrap64 (6 * x135000)) + t143))).bind fun t144 => (zQ.l3 k x4 x5 t144 x7 x8 x9 (wrap64 (x12 + 1)) x102000 x135000 x135001))))) else (zQ.l3 k x4 x5 x6 x7 x8 x9 (wrap64 (x12 + 1)) x102000 x135000 x135001)
end
def zQ.f (k : Nat) (l0_0 : List (List (zr))) : Option ((List (List Int)) × (List (List Int)) × (List (List Int)) × List Int) := (qZ.f l0_0).bind fun t103 => ((zz.f k (wrap64 (4 * t103))).bind fun t104 => ((zz.f k (wrap64 (6 * t103))).bind fun t107 => ((zz.f k (wrap64 (4 * t103))).bind fun t110 => (zQ.l0 k t103 t104 t107 t110 0 l0_0))))
def zQ.T13 : Bool × List (List Nat × List Nat) := (true, [([], []), ([], []), ([1], [1]), ([], []), ([2, 3], [2, 3]), ([], []), ([5], [5]), ([6], [6]), ([], []), ([8], [8]), ([], []), ([9, 10], [9, 10]), ([7, 11], [7, 11]), ([0, 4, 12, 11], [0, 4, 12])])
def zQ.B13 : List Nat := [0, 0, 2, 0, 14, 0, 32, 96, 0, 256, 0, 1792, 4064, 8191]
theorem zQ.tab13 : Qv .any (opsOf Try.f84 13) = zQ.T13 := by kernel_rfl
theorem zQ.bits13 : Zj zQ.T13.2 zQ.B13 = true := by kernel_rfl
def zQ.T18 : Bool × List (List Nat × List Nat) := (true, [([], []), ([], []), ([1], [1]), ([], []), ([2, 3], [2, 3]), ([], []), ([5], [5]), ([6], [6]), ([], []), ([8], [8]), ([], []), ([9, 10], [9, 10]), ([7, 11], [7, 11]), ([0, 4, 12, 11], [0, 4, 12])])
def zQ.B18 : List Nat := [0, 0, 2, 0, 14, 0, 32, 96, 0, 256, 0, 1792, 4064, 8191]
theorem zQ.tab18 : Qv .any (opsOf Try.f84 18) = zQ.T18 := by kernel_rfl
theorem zQ.bits18 : Zj zQ.T18.2 zQ.B18 = true := by kernel_rfl
def zQ.T24 : Bool × List (List Nat × List Nat) := (true, [([], []), ([], []), ([1], [1]), ([], []), ([2, 3], [2, 3]), ([], []), ([5], [5]), ([6], [6]), ([], []), ([8], [8]), ([], []), ([9, 10], [9, 10]), ([], []), ([12], [12]), ([], []), ([13, 14, 11], [13, 14]), ([11, 15, 15], [11, 15]), ([7, 16], [7, 16]), ([0, 4, 17, 16], [0, 4, 17])])
def zQ.B24 : List Nat := [0, 0, 2, 0, 14, 0, 32, 96, 0, 256, 0, 1792, 0, 4096, 0, 32512, 65280, 131040, 262143]
theorem zQ.tab24 : Qv .any (opsOf Try.f84 24) = zQ.T24 := by kernel_rfl
theorem zQ.bits24 : Zj zQ.T24.2 zQ.B24 = true := by kernel_rfl
set_option maxHeartbeats 8000000 in
set_option maxRecDepth 100000 in
theorem zQ.calls (k : Nat) (A0_0 : Option Addr) (c0_0 : Nat) (l0_0 : List (List (zr))) (r1 : List (List Int)) (r2 : List (List Int)) (r3 : List (List Int)) (r4 : List Int) (w : World) (hr0_0 : Kd.C (Kd.slice 75 qy) w A0_0 l0_0.length l0_0) (hc0_0 : l0_0.length ≤ c0_0) (h : zQ.f k l0_0 = some (r1, r2, r3, r4)) :
 Calls Try.prog 84 #[.agg #[.slice A0_0 l0_0.length c0_0]] w fun e w' => ∃ v0_ v1_ v2_ v3_ : Value, e = .returned (.tuple #[.agg #[v0_, v1_, v2_], v3_]) ∧ Kd.S (Kd.slice 2 (Kd.int .i64)) 22 w' w.heap.size (fun k_ => some k_ ≠ (v1_ : Value).ownBlock ∧ some k_ ≠ (v2_ : Value).ownBlock ∧ some k_ ≠ (v3_ : Value).ownBlock) v0_ r1 ∧ Kd.S (Kd.slice 2 (Kd.int .i64)) 22 w' w.heap.size (fun k_ => some k_ ≠ (v0_ : Value).ownBlock ∧ some k_ ≠ (v2_ : Value).ownBlock ∧ some k_ ≠ (v3_ : Value).ownBlock) v1_ r2 ∧ Kd.S (Kd.slice 2 (Kd.int .i64)) 22 w' w.heap.size (fun k_ => some k_ ≠ (v0_ : Value).ownBlock ∧ some k_ ≠ (v1_ : Value).ownBlock ∧ some k_ ≠ (v3_ : Value).ownBlock) v2_ r3 ∧ Kd.R (Kd.int .i64) 2 w' w.heap.size (fun _ => True) v3_ r4 ∧ Below w.heap.size w w' := by
 have hu35 := Try.underlying35
 have hu88 := Try.underlying88
 have hu75 := Try.underlying75
 have HR0_0 := zA.mk hr0_0
 have HC0_0 := zA.mk hc0_0
 clear hr0_0 hc0_0
 have HB := zA.mk (yry w.heap.size w)
 have H : ((qZ.f l0_0).bind fun t103 => ((zz.f k (wrap64 (4 * t103))).bind fun t104 => ((zz.f k (wrap64 (6 * t103))).bind fun t107 => ((zz.f k (wrap64 (4 * t103))).bind fun t110 => (zQ.l0 k t103 t104 t107 t110 0 l0_0))))) = some (r1, r2, r3, r4) := h
 clear h
 replace H := ydy.mp H
 obtain ⟨t103, A20, H⟩ := H
 replace H : ((zz.f k (wrap64 (4 * t103))).bind fun t104 => ((zz.f k (wrap64 (6 * t103))).bind fun t107 => ((zz.f k (wrap64 (4 * t103))).bind fun t110 => (zQ.l0 k t103 t104 t107 t110 0 l0_0)))) = some (r1, r2, r3, r4) := H
 have A2 := zA.mk A20
 clear A20
 replace H := ydy.mp H
 obtain ⟨t104, A30, H⟩ := H
 replace H : ((zz.f k (wrap64 (6 * t103))).bind fun t107 => ((zz.f k (wrap64 (4 * t103))).bind fun t110 => (zQ.l0 k t103 t104 t107 t110 0 l0_0))) = some (r1, r2, r3, r4) := H
 have A3 := zA.mk A30
 clear A30
 replace H := ydy.mp H
 obtain ⟨t107, A40, H⟩ := H
 replace H : ((zz.f k (wrap64 (4 * t103))).bind fun t110 => (zQ.l0 k t103 t104 t107 t110 0 l0_0)) = some (r1, r2, r3, r4) := H
 have A4 := zA.mk A40
 clear A40
 replace H := ydy.mp H
 obtain ⟨t110, A50, H⟩ := H
 replace H : (zQ.l0 k t103 t104 t107 t110 0 l0_0) = some (r1, r2, r3, r4) := H
 have A5 := zA.mk A50
 clear A50
 have H' := zA.mk H
 clear H
 go_enter Try.func84, Try.ntmps84
 go_wp2_with (first | ((with_reducible refine zq (N := 1) rfl ?_); refine zv ?hg (N := 1) ?hd (cs := #[.slice A0_0 l0_0.length c0_0]) (t := 35) ?hr ?_; (case hd => rfl); (case hg => rfl); (case hr => first | (go_simp; done) | (go_simp; rfl)); intro gb101 hg w6 hbox hb; have n0_ := zA.mk (zN (by repeat (first | (with_reducible first | exact HB.out | apply zC | apply zB | apply zD) | exact HB.out)) hb); have n1_ := zA.mk (hbox); have n2_ := zA.mk ((by rw [hg]; exact (zO (by repeat (first | (with_reducible first | exact HB.out | apply zC | apply zB | apply zD) | exact HB.out))) : w.heap.size ≤ gb101)); have n3_ := zA.mk ((by rw [hg]; exact (zO (by repeat (first | (with_reducible first | exact HB.out | apply zC | apply zB | apply zD) | exact HB.out))) : w.heap.size ≤ gb101)); clear HB; have HB := n0_; have BK101 := n1_; have GW101 := n2_; have GE101 := n3_; clear n0_ n1_ n2_ n3_; clear hb hbox hg) | ((with_reducible refine zq (N := 2) rfl ?_); refine zv ?hg (N := 2) ?hd (cs := #[.slice none 0 0, .slice none 0 0, .slice none 0 0]) (t := 88) ?hr ?_; (case hd => rfl); (case hg => rfl); (case hr => first | (go_simp; done) | (go_simp; rfl)); intro gb102 hg w7 hbox hb; have n0_ := zA.mk (zP (g := gb101) (o := .cells #[.slice A0_0 l0_0.length c0_0] 35 (0, 0)) (by (with_reducible repeat (first | refine zH ?_ _ | refine zJ ?_ | refine zG ?_ _)); exact BK101.out) hb); have n1_ := zA.mk (zN (by repeat (first | (with_reducible first | exact HB.out | apply zC | apply zB | apply zD | refine zF ?_ GE101.out) | exact HB.out)) hb); have n2_ := zA.mk (hbox); have n3_ := zA.mk ((by rw [hg]; exact (zO (by repeat (first | (with_reducible first | exact HB.out | apply zC | apply zB | apply zD | refine zF ?_ GE101.out) | exact HB.out))) : w.heap.size ≤ gb102)); have n4_ := zA.mk ((by rw [hg]; exact (zO (by repeat (first | (with_reducible first | exact HB.out | apply zC | apply zB | apply zD | refine zF ?_ GE101.out) | exact HB.out))) : w.heap.size ≤ gb102)); have n5_ := zA.mk ((by rw [hg]; exact Nat.ne_of_lt (qT (g := gb101) (o := .cells #[.slice A0_0 l0_0.length c0_0] 35 (0, 0)) (by (with_reducible repeat (first | refine zH ?_ _ | refine zJ ?_ | refine zG ?_ _)); exact BK101.out)) : gb101 ≠ gb102)); have n6_ := zA.mk ((by rw [hg]; exact Nat.ne_of_gt (qT (g := gb101) (o := .cells #[.slice A0_0 l0_0.length c0_0] 35 (0, 0)) (by (with_reducible repeat (first | refine zH ?_ _ | refine zJ ?_ | refine zG ?_ _)); exact BK101.out)) : gb102 ≠ gb101)); clear BK101; clear HB; have BK101 := n0_; have HB := n1_; have BK102 := n2_; have GW102 := n3_; have GE102 := n4_; have NB101_102 := n5_; have NB102_101 := n6_; clear n0_ n1_ n2_ n3_ n4_ n5_ n6_; clear hb hbox hg; have hnb8 := NB101_102.out; have hnc8 := NB102_101.out; have hcz9_0 : w7.cell? ⟨gb101, 0, none⟩ = some (.slice A0_0 l0_0.length c0_0) := (zL BK101.out 0).trans rfl; have hfz9_0 := zM BK101.out 0) | ((with_reducible refine zb (f := 66) rfl ?_); refine qH (some 18) rfl rfl Try.func66 (by kernel_rfl) rfl #[.agg #[.slice A0_0 l0_0.length c0_0]] rfl (by (try simp only [yiy, yjy, yky]); first | done | rfl | (simp only [yly, ymy]; rfl)) ?_; (with_reducible refine (qZ.calls _ _ l0_0 t103 _ ?side1 ?side2 A2.out).mono ?_); (case side1 => repeat (first | exact (Kd.qK HR0_0.out HB.out) | (with_reducible refine Kd.zx ?_ _) | (with_reducible refine Kd.zy ?_ _) | (with_reducible refine Kd.qM ?_))); (case side2 => exact HC0_0.out); rintro e w10 ⟨rfl, hb⟩; refine ⟨_, rfl, ?_⟩; have n0_ := zA.mk (zP (g := gb101) (o := .cells #[.slice A0_0 l0_0.length c0_0] 35 (0, 0)) (by (with_reducible repeat (first | refine zH ?_ _ | refine zJ ?_ | refine zG ?_ _)); exact BK101.out) hb); have n1_ := zA.mk (zP (g := gb102) (o := .cells #[.slice none 0 0, .slice none 0 0, .slice none 0 0] 88 (0, 0)) (by (with_reducible repeat (first | refine zH ?_ _ | refine zJ ?_ | refine zG ?_ _)); exact BK102.out) hb); have n2_ := zA.mk (zN (by repeat (first | (with_reducible first | exact HB.out | apply zC | apply zB | apply zD | refine zF ?_ GE101.out | refine zF ?_ GE102.out) | exact HB.out)) hb); clear BK101; clear BK102; clear HB; have BK101 := n0_; have BK102 := n1_; have HB := n2_; clear n0_ n1_ n2_; (try clear hb); (try clear hb2); (try clear hk); (try clear hi)) | ((with_reducible refine zb (f := 91) rfl ?_); refine qH (some 21) rfl rfl Try.func91 (by kernel_rfl) rfl #[.int .i64 (wrap64 (4 * t103))] rfl (by (try simp only [yiy, yjy, yky]); first | done | rfl | (simp only [yly, ymy]; rfl)) ?_; (with_reducible refine (zz.calls k (wrap64 (4 * t103)) t104 _ A3.out).mono ?_); rintro e w11 ⟨v105, rfl, ho0, hb⟩; refine ⟨_, rfl, ?_⟩; have n0_ := zA.mk (Kd.ZE ho0 (zO (by repeat (first | (with_reducible first | exact HB.out | apply zC | apply zB | apply zD | refine zF ?_ GE101.out | refine zF ?_ GE102.out) | exact HB.out)))); have n1_ := zA.mk (zP (g := gb101) (o := .cells #[.slice A0_0 l0_0.length c0_0] 35 (0, 0)) (by (with_reducible repeat (first | refine zH ?_ _ | refine zJ ?_ | refine zG ?_ _)); exact BK101.out) hb); have n2_ := zA.mk (zP (g := gb102) (o := .cells #[.slice none 0 0, .slice none 0 0, .slice none 0 0] 88 (0, 0)) (by (with_reducible repeat (first | refine zH ?_ _ | refine zJ ?_ | refine zG ?_ _)); exact BK102.out) hb); have n3_ := zA.mk (zN (by repeat (first | (with_reducible first | exact HB.out | apply zC | apply zB | apply zD | refine zF ?_ GE101.out | refine zF ?_ GE102.out) | exact HB.out)) hb); clear BK101; clear BK102; clear HB; have HO106 := n0_; have BK101 := n1_; have BK102 := n2_; have HB := n3_; clear n0_ n1_ n2_ n3_; (try clear hb); (try clear hb2); (try clear hk); (try clear hi); (try clear ho0)) | ((with_reducible refine zb (f := 91) rfl ?_); refine qH (some 24) rfl rfl Try.func91 (by kernel_rfl) rfl #[.int .i64 (wrap64 (6 * t103))] rfl (by (try simp only [yiy, yjy, yky]); first | done | rfl | (simp only [yly, ymy]; rfl)) ?_; (with_reducible refine (zz.calls k (wrap64 (6 * t103)) t107 _ A4.out).mono ?_); rintro e w12 ⟨v108, rfl, ho0, hb⟩; refine ⟨_, rfl, ?_⟩; have n0_ := zA.mk (Kd.ZV (by (with_reducible repeat (first | apply Kd.zR | apply Kd.zS | apply Kd.zU)); exact HO106.out) (Kd.Zd ho0) hb); have n1_ := zA.mk (Kd.ZE (Kd.Qh ho0 (Kd.Qx (by (with_reducible repeat (first | apply Kd.zR | apply Kd.zS | apply Kd.zU)); exact HO106.out))) (zO (by repeat (first | (with_reducible first | exact HB.out | apply zC | apply zB | apply zD | refine zF ?_ GE101.out | refine zF ?_ GE102.out) | exact HB.out)))); have n2_ := zA.mk (zP (g := gb101) (o := .cells #[.slice A0_0 l0_0.length c0_0] 35 (0, 0)) (by (with_reducible repeat (first | refine zH ?_ _ | refine zJ ?_ | refine zG ?_ _)); exact BK101.out) hb); have n3_ := zA.mk (zP (g := gb102) (o := .cells #[.slice none 0 0, .slice none 0 0, .slice none 0 0] 88 (0, 0)) (by (with_reducible repeat (first | refine zH ?_ _ | refine zJ ?_ | refine zG ?_ _)); exact BK102.out) hb); have n4_ := zA.mk (zN (by repeat (first | (with_reducible first | exact HB.out | apply zC | apply zB | apply zD | refine zF ?_ GE101.out | refine zF ?_ GE102.out) | exact HB.out)) hb); clear HO106; clear BK101; clear BK102; clear HB; have HO106 := n0_; have HO109 := n1_; have BK101 := n2_; have BK102 := n3_; have HB := n4_; clear n0_ n1_ n2_ n3_ n4_; (try clear hb); (try clear hb2); (try clear hk); (try clear hi); (try clear ho0)) | ((with_reducible refine zb (f := 91) rfl ?_); refine qH (some 27) rfl rfl Try.func91 (by kernel_rfl) rfl #[.int .i64 (wrap64 (4 * t103))] rfl (by (try simp only [yiy, yjy, yky]); first | done | rfl | (simp only [yly, ymy]; rfl)) ?_; (with_reducible refine (zz.calls k (wrap64 (4 * t103)) t110 _ A5.out).mono ?_); rintro e w13 ⟨v111, rfl, ho0, hb⟩; refine ⟨_, rfl, ?_⟩; have n0_ := zA.mk (Kd.ZV (by (with_reducible repeat (first | apply Kd.zR | apply Kd.zS | apply Kd.zU)); exact HO106.out) (Kd.Zd ho0) hb); have n1_ := zA.mk (Kd.ZV (by (with_reducible repeat (first | apply Kd.zR | apply Kd.zS | apply Kd.zU)); exact HO109.out) (Kd.Zd ho0) hb); have n2_ := zA.mk (Kd.ZE (Kd.Qh (Kd.Qh ho0 (Kd.Qx (by (with_reducible repeat (first | apply Kd.zR | apply Kd.zS | apply Kd.zU)); exact HO106.out))) (Kd.Qx (by (with_reducible repeat (first | apply Kd.zR | apply Kd.zS | apply Kd.zU)); exact HO109.out))) (zO (by repeat (first | (with_reducible first | exact HB.out | apply zC | apply zB | apply zD | refine zF ?_ GE101.out | refine zF ?_ GE102.out) | exact HB.out)))); have n3_ := zA.mk (zP (g := gb101) (o := .cells #[.slice A0_0 l0_0.length c0_0] 35 (0, 0)) (by (with_reducible repeat (first | refine zH ?_ _ | refine zJ ?_ | refine zG ?_ _)); exact BK101.out) hb); have n4_ := zA.mk (zP (g := gb102) (o := .cells #[.slice none 0 0, .slice none 0 0, .slice none 0 0] 88 (0, 0)) (by (with_reducible repeat (first | refine zH ?_ _ | refine zJ ?_ | refine zG ?_ _)); exact BK102.out) hb); have n5_ := zA.mk (zN (by repeat (first | (with_reducible first | exact HB.out | apply zC | apply zB | apply zD | refine zF ?_ GE101.out | refine zF ?_ GE102.out) | exact HB.out)) hb); clear HO106; clear HO109; clear BK101; clear BK102; clear HB; have HO106 := n0_; have HO109 := n1_; have HO112 := n2_; have BK101 := n3_; have BK102 := n4_; have HB := n5_; clear n0_ n1_ n2_ n3_ n4_ n5_; (try clear hb); (try clear hb2); (try clear hk); (try clear hi); (try clear ho0)))
 go_loopg [8] k (fun kq v8 w' => ∃ (x5_1 : List Int) (x6_1 : List Int) (x7_1 : List Int) (x8_1 : Int), v8 = .int .i64 x8_1 ∧ zA (zQ.l0 kq t103 x5_1 x6_1 x7_1 x8_1 l0_0 = some (r1, r2, r3, r4)) ∧ zA (kq ≤ k) ∧ zA (Kd.R (Kd.int .i64) 2 w' w.heap.size (fun k_ => some k_ ≠ (v108 : Value).ownBlock ∧ some k_ ≠ (v111 : Value).ownBlock) v105 x5_1) ∧ zA (Kd.R (Kd.int .i64) 2 w' w.heap.size (fun k_ => some k_ ≠ (v105 : Value).ownBlock ∧ some k_ ≠ (v111 : Value).ownBlock) v108 x6_1) ∧ zA (Kd.R (Kd.int .i64) 2 w' w.heap.size (fun k_ => some k_ ≠ (v105 : Value).ownBlock ∧ some k_ ≠ (v108 : Value).ownBlock) v111 x7_1) ∧ zA (w'.heap[gb101]? = some (.cells #[(.slice A0_0 l0_0.length c0_0)] 35 (0, 0))) ∧ zA (w'.heap[gb102]? = some (.cells #[(.slice none 0 0), (.slice none 0 0), (.slice none 0 0)] 88 (0, 0))) ∧ zA (Below w.heap.size w w'))
 case atStart => exact ⟨(t104), (t107), (t110), (0), (by first | rfl | (simp; done) | (simp [*]; done)), H', ⟨yqy _⟩, ⟨by (with_reducible repeat (first | apply Kd.zR | apply Kd.zS | apply Kd.zU)); exact Kd.zo HO106.out (fun _ hk => ⟨hk.1.2, hk.2⟩)⟩, ⟨by (with_reducible repeat (first | apply Kd.zR | apply Kd.zS | apply Kd.zU)); exact Kd.zo HO109.out (fun _ hk => ⟨hk.1.2, hk.2⟩)⟩, ⟨by (with_reducible repeat (first | apply Kd.zR | apply Kd.zS | apply Kd.zU)); exact Kd.zo HO112.out (fun _ hk => ⟨hk.1.2, hk.2⟩)⟩, ⟨by (with_reducible repeat (first | refine zH ?_ _ | refine zJ ?_ | refine zG ?_ _)); exact BK101.out⟩, ⟨by (with_reducible repeat (first | refine zH ?_ _ | refine zJ ?_ | refine zG ?_ _)); exact BK102.out⟩, ⟨by repeat (first | (with_reducible first | exact HB.out | apply zC | apply zB | apply zD | refine zF ?_ GE101.out | refine zF ?_ GE102.out) | exact HB.out)⟩⟩
 case round =>
  clear H'
  try clear p2
  try clear c6
  try clear p6
  try clear c8
  try clear c9
  try clear hcz9_0
  try clear hfz9_0
  obtain ⟨x5_1, x6_1, x7_1, x8_1, rfl, HA, HK1, HO_5, HO_6, HO_7, BK101, BK102, HB⟩ := hrel
  cases gk with
  | zero => exact absurd HA.out (by simp [zQ.l0])
  | succ k1 =>
   have H := HA.out
   clear HA
   simp only [zQ.l0] at H
   by_cases c14 : x8_1 < t103
   rotate_left
   next =>
    rw [if_neg c14] at H
    have c14b0 : decide (x8_1 < t103) = false := yhy c14
    clear c14
    obtain ⟨y114, hy114⟩ : ∃ y_ : List Int, y_ = (([0, 0, 0, t103] : List Int)) := ⟨_, rfl⟩
    replace H : ((ze.f k1 x5_1 4).bind fun bt117 => (if 0 < (y114.length : Int) then ((ze.f k1 x6_1 6).bind fun bt122 => (if 1 < (y114.length : Int) then ((ze.f k1 x7_1 4).bind fun bt127 => (if 2 < (y114.length : Int) then (some (bt117.1, bt122.1, bt127.1, (((y114.set (0 : Int).toNat bt117.2).set (1 : Int).toNat bt122.2).set (2 : Int).toNat bt127.2))) else (none))) else (none))) else (none))) = some (r1, r2, r3, r4) := by first | (rw [hy114]; with_reducible exact H) | (have H2_ := (yfy _ _).symm.trans H; rw [hy114]; with_reducible exact H2_) | (have H2_ := (yfy _ _).symm.trans H; with_reducible exact H2_) | with_reducible exact H | (rw [hy114]; exact H) | exact H
    have Ny114 := zA.mk hy114
    clear hy114
    replace H := ydy.mp H
    obtain ⟨⟨t117, t118⟩, A640, H⟩ := H
    replace H : (if 0 < (y114.length : Int) then ((ze.f k1 x6_1 6).bind fun bt122 => (if 1 < (y114.length : Int) then ((ze.f k1 x7_1 4).bind fun bt127 => (if 2 < (y114.length : Int) then (some (t117, bt122.1, bt127.1, (((y114.set (0 : Int).toNat t118).set (1 : Int).toNat bt122.2).set (2 : Int).toNat bt127.2))) else (none))) else (none))) else (none)) = some (r1, r2, r3, r4) := H
    have A64 := zA.mk A640
    clear A640
    by_cases c65 : 0 < (y114.length : Int)
    rotate_left
    next =>
     rw [if_neg c65] at H
     exact absurd H (by simp)
    rw [if_pos c65] at H
    have c65b0 : decide (0 < (y114.length : Int)) = true := ygy c65
    have c65b1 : decide (0 < y114.length) = true := ygy (by omega)
    clear c65
    obtain ⟨y121, hy121⟩ : ∃ y_ : List Int, y_ = (y114.set (0 : Int).toNat t118) := ⟨_, rfl⟩
    replace H : ((ze.f k1 x6_1 6).bind fun bt122 => (if 1 < (y114.length : Int) then ((ze.f k1 x7_1 4).bind fun bt127 => (if 2 < (y114.length : Int) then (some (t117, bt122.1, bt127.1, ((y121.set (1 : Int).toNat bt122.2).set (2 : Int).toNat bt127.2))) else (none))) else (none))) = some (r1, r2, r3, r4) := by first | (rw [hy121]; with_reducible exact H) | (have H2_ := (yfy _ _).symm.trans H; rw [hy121]; with_reducible exact H2_) | (have H2_ := (yfy _ _).symm.trans H; with_reducible exact H2_) | with_reducible exact H | (rw [hy121]; exact H) | exact H
    have Ny121 := zA.mk hy121
    clear hy121
    replace H := ydy.mp H
    obtain ⟨⟨t122, t123⟩, A670, H⟩ := H
    replace H : (if 1 < (y114.length : Int) then ((ze.f k1 x7_1 4).bind fun bt127 => (if 2 < (y114.length : Int) then (some (t117, t122, bt127.1, ((y121.set (1 : Int).toNat t123).set (2 : Int).toNat bt127.2))) else (none))) else (none)) = some (r1, r2, r3, r4) := H
    have A67 := zA.mk A670
    clear A670
    by_cases c68 : 1 < (y114.length : Int)
    rotate_left
    next =>
     rw [if_neg c68] at H
     exact absurd H (by simp)
    rw [if_pos c68] at H
    have c68b0 : decide (1 < (y114.length : Int)) = true := ygy c68
    have c68b1 : decide (1 < y114.length) = true := ygy (by omega)
    clear c68
    obtain ⟨y126, hy126⟩ : ∃ y_ : List Int, y_ = (y121.set (1 : Int).toNat t123) := ⟨_, rfl⟩
    replace H : ((ze.f k1 x7_1 4).bind fun bt127 => (if 2 < (y114.length : Int) then (some (t117, t122, bt127.1, (y126.set (2 : Int).toNat bt127.2))) else (none))) = some (r1, r2, r3, r4) := by first | (rw [hy126]; with_reducible exact H) | (have H2_ := (yfy _ _).symm.trans H; rw [hy126]; with_reducible exact H2_) | (have H2_ := (yfy _ _).symm.trans H; with_reducible exact H2_) | with_reducible exact H | (rw [hy126]; exact H) | exact H
    have Ny126 := zA.mk hy126
    clear hy126
    replace H := ydy.mp H
    obtain ⟨⟨t127, t128⟩, A700, H⟩ := H
    replace H : (if 2 < (y114.length : Int) then (some (t117, t122, t127, (y126.set (2 : Int).toNat t128))) else (none)) = some (r1, r2, r3, r4) := H
    have A70 := zA.mk A700
    clear A700
    by_cases c71 : 2 < (y114.length : Int)
    rotate_left
    next =>
     rw [if_neg c71] at H
     exact absurd H (by simp)
    rw [if_pos c71] at H
    have c71b0 : decide (2 < (y114.length : Int)) = true := ygy c71
    have c71b1 : decide (2 < y114.length) = true := ygy (by omega)
    clear c71
    obtain ⟨y131, hy131⟩ : ∃ y_ : List Int, y_ = (y126.set (2 : Int).toNat t128) := ⟨_, rfl⟩
    replace H : (some (t117, t122, t127, y131)) = some (r1, r2, r3, r4) := by first | (rw [hy131]; with_reducible exact H) | (have H2_ := (yfy _ _).symm.trans H; rw [hy131]; with_reducible exact H2_) | (have H2_ := (yfy _ _).symm.trans H; with_reducible exact H2_) | with_reducible exact H | (rw [hy131]; exact H) | exact H
    have Ny131 := zA.mk hy131
    clear hy131
    simp only [Option.some.injEq, Prod.mk.injEq] at H
    obtain ⟨rfl, rfl, rfl, rfl⟩ := H
    go_wp2_with (first | ((with_reducible refine zq (N := 15) rfl ?_); refine zv ?hg (N := 15) ?hd (cs := #[.slice none 0 0, .slice none 0 0, .slice none 0 0]) (t := 88) ?hr ?_; (case hd => rfl); (case hg => rfl); (case hr => first | (go_simp; done) | (go_simp; rfl)); intro gb113 hg w73 hbox hb; have n0_ := zA.mk (Kd.qP (by (with_reducible repeat (first | apply Kd.zR | apply Kd.zS | apply Kd.zU)); exact HO_5.out) hb); have n1_ := zA.mk (Kd.qP (by (with_reducible repeat (first | apply Kd.zR | apply Kd.zS | apply Kd.zU)); exact HO_6.out) hb); have n2_ := zA.mk (Kd.qP (by (with_reducible repeat (first | apply Kd.zR | apply Kd.zS | apply Kd.zU)); exact HO_7.out) hb); have n3_ := zA.mk (zP (g := gb101) (o := .cells #[.slice A0_0 l0_0.length c0_0] 35 (0, 0)) (by (with_reducible repeat (first | refine zH ?_ _ | refine zJ ?_ | refine zG ?_ _)); exact BK101.out) hb); have n4_ := zA.mk (zP (g := gb102) (o := .cells #[.slice none 0 0, .slice none 0 0, .slice none 0 0] 88 (0, 0)) (by (with_reducible repeat (first | refine zH ?_ _ | refine zJ ?_ | refine zG ?_ _)); exact BK102.out) hb); have n5_ := zA.mk (zN (by repeat (first | (with_reducible first | exact HB.out | apply zC | apply zB | apply zD | refine zF ?_ GE101.out | refine zF ?_ GE102.out) | exact HB.out)) hb); have n6_ := zA.mk (hbox); have n7_ := zA.mk ((by rw [hg]; exact (zO (by repeat (first | (with_reducible first | exact HB.out | apply zC | apply zB | apply zD | refine zF ?_ GE101.out | refine zF ?_ GE102.out) | exact HB.out))) : w.heap.size ≤ gb113)); have n8_ := zA.mk ((by rw [hg]; exact (zO (by repeat (first | (with_reducible first | exact HB.out | apply zC | apply zB | apply zD | refine zF ?_ GE101.out | refine zF ?_ GE102.out) | exact HB.out))) : w.heap.size ≤ gb113)); have n9_ := zA.mk ((by rw [hg]; exact Nat.ne_of_lt (qT (g := gb101) (o := .cells #[.slice A0_0 l0_0.length c0_0] 35 (0, 0)) (by (with_reducible repeat (first | refine zH ?_ _ | refine zJ ?_ | refine zG ?_ _)); exact BK101.out)) : gb101 ≠ gb113)); have n10_ := zA.mk ((by rw [hg]; exact Nat.ne_of_gt (qT (g := gb101) (o := .cells #[.slice A0_0 l0_0.length c0_0] 35 (0, 0)) (by (with_reducible repeat (first | refine zH ?_ _ | refine zJ ?_ | refine zG ?_ _)); exact BK101.out)) : gb113 ≠ gb101)); have n11_ := zA.mk ((by rw [hg]; exact Nat.ne_of_lt (qT (g := gb102) (o := .cells #[.slice none 0 0, .slice none 0 0, .slice none 0 0] 88 (0, 0)) (by (with_reducible repeat (first | refine zH ?_ _ | refine zJ ?_ | refine zG ?_ _)); exact BK102.out)) : gb102 ≠ gb113)); have n12_ := zA.mk ((by rw [hg]; exact Nat.ne_of_gt (qT (g := gb102) (o := .cells #[.slice none 0 0, .slice none 0 0, .slice none 0 0] 88 (0, 0)) (by (with_reducible repeat (first | refine zH ?_ _ | refine zJ ?_ | refine zG ?_ _)); exact BK102.out)) : gb113 ≠ gb102)); clear HO_5; clear HO_6; clear HO_7; clear BK101; clear BK102; clear HB; have HO_5 := n0_; have HO_6 := n1_; have HO_7 := n2_; have BK101 := n3_; have BK102 := n4_; have HB := n5_; have BK113 := n6_; have GW113 := n7_; have GE113 := n8_; have NB101_113 := n9_; have NB113_101 := n10_; have NB102_113 := n11_; have NB113_102 := n12_; clear n0_ n1_ n2_ n3_ n4_ n5_ n6_ n7_ n8_ n9_ n10_ n11_ n12_; clear hb hbox hg; have hnb74 := NB113_101.out; have hnc74 := NB101_113.out; have hnb75 := NB113_102.out; have hnc75 := NB102_113.out; have hcz76_0 : w73.cell? ⟨gb113, 0, none⟩ = some (.slice none 0 0) := (zL BK113.out 0).trans rfl; have hcz76_1 : w73.cell? ⟨gb113, 1, none⟩ = some (.slice none 0 0) := (zL BK113.out 1).trans rfl; have hcz76_2 : w73.cell? ⟨gb113, 2, none⟩ = some (.slice none 0 0) := (zL BK113.out 2).trans rfl; have hfz76_0 := zM BK113.out 0; have hfz76_1 := zM BK113.out 1; have hfz76_2 := zM BK113.out 2) | ((with_reducible refine zq (N := 121) rfl ?_); refine Kd.zAy (Kd.int .i64) _ 2 ?hg (N := 121) ?hd (xs := ([0, 0, 0, t103] : List Int)) (inner := [.int .i64 0, .int .i64 0, .int .i64 0, .int .i64 t103]) (ok := fun _ => True) (okp := fun _ => True) ?hr ?hp (fun _ hk => hk) trivial (yry _ _) (yqy _) (by simp) ?_; (case hd => rfl); (case hg => rfl); (case hr => first | (go_simp; done) | (go_simp; rfl)); (case hp => exact (Zr.one (show Kd.M (Kd.int .i64) _ _ _ 0 [.int .i64 0] from rfl) (Zr.one (show Kd.M (Kd.int .i64) _ _ _ 0 [.int .i64 0] from rfl) (Zr.one (show Kd.M (Kd.int .i64) _ _ _ 0 [.int .i64 0] from rfl) (Zr.one (show Kd.M (Kd.int .i64) _ _ _ t103 [.int .i64 t103] from rfl) (Zr.none _ _)))))); intro v115 w77 ho78 hb hg_ hnew_; clear hg_ hnew_; (first | rw [← Ny114.out] at ho78 | (simp only [Int.reduceToNat] at ho78; rw [← Ny114.out] at ho78)); have n0_ := zA.mk (Kd.ZV (by (with_reducible repeat (first | apply Kd.zR | apply Kd.zS | apply Kd.zU)); exact (Kd.zo (Kd.ZR (p := ⟨gb113, 2, none⟩) (Kd.ZR (p := ⟨gb113, 1, none⟩) (Kd.ZR (p := ⟨gb113, 0, none⟩) (Kd.ZM HO_5.out BK113.out (by decide)) (fun _ hk => hk.2) (.slice none 0 0)) (fun _ hk => hk.2) (.slice none 0 0)) (fun _ hk => hk.2) (.slice none 0 0)) (fun _ h_ => h_.1))) (Kd.Zd ho78) hb); have n1_ := zA.mk (Kd.ZV (by (with_reducible repeat (first | apply Kd.zR | apply Kd.zS | apply Kd.zU)); exact (Kd.zo (Kd.ZR (p := ⟨gb113, 2, none⟩) (Kd.ZR (p := ⟨gb113, 1, none⟩) (Kd.ZR (p := ⟨gb113, 0, none⟩) (Kd.ZM HO_6.out BK113.out (by decide)) (fun _ hk => hk.2) (.slice none 0 0)) (fun _ hk => hk.2) (.slice none 0 0)) (fun _ hk => hk.2) (.slice none 0 0)) (fun _ h_ => h_.1))) (Kd.Zd ho78) hb); have n2_ := zA.mk (Kd.ZV (by (with_reducible repeat (first | apply Kd.zR | apply Kd.zS | apply Kd.zU)); exact (Kd.zo (Kd.ZR (p := ⟨gb113, 2, none⟩) (Kd.ZR (p := ⟨gb113, 1, none⟩) (Kd.ZR (p := ⟨gb113, 0, none⟩) (Kd.ZM HO_7.out BK113.out (by decide)) (fun _ hk => hk.2) (.slice none 0 0)) (fun _ hk => hk.2) (.slice none 0 0)) (fun _ hk => hk.2) (.slice none 0 0)) (fun _ h_ => h_.1))) (Kd.Zd ho78) hb); have n3_ := zA.mk (Kd.ZE (Kd.Qh (Kd.Qh (Kd.Qh ho78 (Kd.Qx (by (with_reducible repeat (first | apply Kd.zR | apply Kd.zS | apply Kd.zU)); exact (Kd.zo (Kd.ZR (p := ⟨gb113, 2, none⟩) (Kd.ZR (p := ⟨gb113, 1, none⟩) (Kd.ZR (p := ⟨gb113, 0, none⟩) (Kd.ZM HO_5.out BK113.out (by decide)) (fun _ hk => hk.2) (.slice none 0 0)) (fun _ hk => hk.2) (.slice none 0 0)) (fun _ hk => hk.2) (.slice none 0 0)) (fun _ h_ => h_.1))))) (Kd.Qx (by (with_reducible repeat (first | apply Kd.zR | apply Kd.zS | apply Kd.zU)); exact (Kd.zo (Kd.ZR (p := ⟨gb113, 2, none⟩) (Kd.ZR (p := ⟨gb113, 1, none⟩) (Kd.ZR (p := ⟨gb113, 0, none⟩) (Kd.ZM HO_6.out BK113.out (by decide)) (fun _ hk => hk.2) (.slice none 0 0)) (fun _ hk => hk.2) (.slice none 0 0)) (fun _ hk => hk.2) (.slice none 0 0)) (fun _ h_ => h_.1))))) (Kd.Qx (by (with_reducible repeat (first | apply Kd.zR | apply Kd.zS | apply Kd.zU)); exact (Kd.zo (Kd.ZR (p := ⟨gb113, 2, none⟩) (Kd.ZR (p := ⟨gb113, 1, none⟩) (Kd.ZR (p := ⟨gb113, 0, none⟩) (Kd.ZM HO_7.out BK113.out (by decide)) (fun _ hk => hk.2) (.slice none 0 0)) (fun _ hk => hk.2) (.slice none 0 0)) (fun _ hk => hk.2) (.slice none 0 0)) (fun _ h_ => h_.1))))) (zO (by repeat (first | (with_reducible first | exact HB.out | apply zC | apply zB | apply zD | refine zF ?_ GE101.out | refine zF ?_ GE102.out | refine zF ?_ GE113.out) | exact HB.out)))); have n4_ := zA.mk (zP (g := gb101) (o := .cells #[.slice A0_0 l0_0.length c0_0] 35 (0, 0)) (by (with_reducible repeat (first | refine zH ?_ _ | refine zJ ?_ | refine zG ?_ _)); refine qJ ?_ NB101_113.out _; (with_reducible repeat (first | refine zH ?_ _ | refine zJ ?_ | refine zG ?_ _)); refine qJ ?_ NB101_113.out _; (with_reducible repeat (first | refine zH ?_ _ | refine zJ ?_ | refine zG ?_ _)); refine qJ ?_ NB101_113.out _; (with_reducible repeat (first | refine zH ?_ _ | refine zJ ?_ | refine zG ?_ _)); exact BK101.out) hb); have n5_ := zA.mk (zP (g := gb102) (o := .cells #[.slice none 0 0, .slice none 0 0, .slice none 0 0] 88 (0, 0)) (by (with_reducible repeat (first | refine zH ?_ _ | refine zJ ?_ | refine zG ?_ _)); refine qJ ?_ NB102_113.out _; (with_reducible repeat (first | refine zH ?_ _ | refine zJ ?_ | refine zG ?_ _)); refine qJ ?_ NB102_113.out _; (with_reducible repeat (first | refine zH ?_ _ | refine zJ ?_ | refine zG ?_ _)); refine qJ ?_ NB102_113.out _; (with_reducible repeat (first | refine zH ?_ _ | refine zJ ?_ | refine zG ?_ _)); exact BK102.out) hb); have n6_ := zA.mk (zP (g := gb113) (o := .cells #[.slice none 0 0, .slice none 0 0, .slice none 0 0] 88 (0, 0)) (by (with_reducible repeat (first | refine zH ?_ _ | refine zJ ?_ | refine zG ?_ _)); refine qa (cs := #[.slice none 0 0, .slice none 0 0, .slice none 0 0]) ?_ 2 _ rfl; (with_reducible repeat (first | refine zH ?_ _ | refine zJ ?_ | refine zG ?_ _)); refine qa (cs := #[.slice none 0 0, .slice none 0 0, .slice none 0 0]) ?_ 1 _ rfl; (with_reducible repeat (first | refine zH ?_ _ | refine zJ ?_ | refine zG ?_ _)); refine qa (cs := #[.slice none 0 0, .slice none 0 0, .slice none 0 0]) ?_ 0 _ rfl; (with_reducible repeat (first | refine zH ?_ _ | refine zJ ?_ | refine zG ?_ _)); exact BK113.out) hb); have n7_ := zA.mk (zN (by repeat (first | (with_reducible first | exact HB.out | apply zC | apply zB | apply zD | refine zF ?_ GE101.out | refine zF ?_ GE102.out | refine zF ?_ GE113.out) | exact HB.out)) hb); clear HO_5; clear HO_6; clear HO_7; clear BK101; clear BK102; clear BK113; clear HB; have HO_5 := n0_; have HO_6 := n1_; have HO_7 := n2_; have HO116 := n3_; have BK101 := n4_; have BK102 := n5_; have BK113 := n6_; have HB := n7_; clear n0_ n1_ n2_ n3_ n4_ n5_ n6_ n7_; clear hb ho78; obtain ⟨Ao79, co79, eo79⟩ := Kd.ZA HO_5.out; subst eo79) | ((with_reducible refine zb (f := 117) rfl ?_); refine qH (some 125) rfl rfl Try.func117 (by kernel_rfl) rfl #[.slice Ao79 x5_1.length co79, .int .i64 4] rfl (by (try simp only [yiy, yjy, yky]); first | done | rfl | (simp only [yly, ymy]; rfl)) ?_; (with_reducible refine (ze.calls k1 _ _ x5_1 4 t117 t118 _ ?side1 ?side2 A64.out).mono ?_); (case side1 => repeat (first | exact (Kd.zp HO_5.out).2.2 | (with_reducible refine Kd.zx ?_ _) | (with_reducible refine Kd.zy ?_ _) | (with_reducible refine Kd.qM ?_))); (case side2 => exact (Kd.zp HO_5.out).2.1); rintro e w80 ⟨v119, rfl, ho0, hb⟩; refine ⟨_, rfl, ?_⟩; have n0_ := zA.mk (Kd.qP (by (with_reducible repeat (first | apply Kd.zR | apply Kd.zS | apply Kd.zU)); exact HO_5.out) hb); have n1_ := zA.mk (Kd.qP (by (with_reducible repeat (first | apply Kd.zR | apply Kd.zS | apply Kd.zU)); exact HO_6.out) hb); have n2_ := zA.mk (Kd.qP (by (with_reducible repeat (first | apply Kd.zR | apply Kd.zS | apply Kd.zU)); exact HO_7.out) hb); have n3_ := zA.mk (Kd.qP (by (with_reducible repeat (first | apply Kd.zR | apply Kd.zS | apply Kd.zU)); exact HO116.out) hb); have n4_ := zA.mk (Kd.QS (Kd.QO (Kd.QO (Kd.QO (Kd.QO ho0 (Kd.Qx (by (with_reducible repeat (first | apply Kd.zR | apply Kd.zS | apply Kd.zU)); exact HO_5.out))) (Kd.Qx (by (with_reducible repeat (first | apply Kd.zR | apply Kd.zS | apply Kd.zU)); exact HO_6.out))) (Kd.Qx (by (with_reducible repeat (first | apply Kd.zR | apply Kd.zS | apply Kd.zU)); exact HO_7.out))) (Kd.Qx (by (with_reducible repeat (first | apply Kd.zR | apply Kd.zS | apply Kd.zU)); exact HO116.out))) (zO (by repeat (first | (with_reducible first | exact HB.out | apply zC | apply zB | apply zD | refine zF ?_ GE101.out | refine zF ?_ GE102.out | refine zF ?_ GE113.out) | exact HB.out)))); have n5_ := zA.mk (zP (g := gb101) (o := .cells #[.slice A0_0 l0_0.length c0_0] 35 (0, 0)) (by (with_reducible repeat (first | refine zH ?_ _ | refine zJ ?_ | refine zG ?_ _)); exact BK101.out) hb); have n6_ := zA.mk (zP (g := gb102) (o := .cells #[.slice none 0 0, .slice none 0 0, .slice none 0 0] 88 (0, 0)) (by (with_reducible repeat (first | refine zH ?_ _ | refine zJ ?_ | refine zG ?_ _)); exact BK102.out) hb); have n7_ := zA.mk (zP (g := gb113) (o := .cells #[.slice none 0 0, .slice none 0 0, .slice none 0 0] 88 (0, 0)) (by (with_reducible repeat (first | refine zH ?_ _ | refine zJ ?_ | refine zG ?_ _)); exact BK113.out) hb); have n8_ := zA.mk (zN (by repeat (first | (with_reducible first | exact HB.out | apply zC | apply zB | apply zD | refine zF ?_ GE101.out | refine zF ?_ GE102.out | refine zF ?_ GE113.out) | exact HB.out)) hb); clear HO_5; clear HO_6; clear HO_7; clear HO116; clear BK101; clear BK102; clear BK113; clear HB; have HO_5 := n0_; have HO_6 := n1_; have HO_7 := n2_; have HO116 := n3_; have HO120 := n4_; have BK101 := n5_; have BK102 := n6_; have BK113 := n7_; have HB := n8_; clear n0_ n1_ n2_ n3_ n4_ n5_ n6_ n7_ n8_; (try clear hb); (try clear hb2); (try clear hk); (try clear hi); (try clear ho0); obtain ⟨Ao81, co81, eo81⟩ := Kd.QW HO120.out; subst eo81; have hcz82_0 : w80.cell? ⟨gb113, 0, none⟩ = some (.slice none 0 0) := (zL BK113.out 0).trans rfl; have hcz82_1 : w80.cell? ⟨gb113, 1, none⟩ = some (.slice none 0 0) := (zL BK113.out 1).trans rfl; have hcz82_2 : w80.cell? ⟨gb113, 2, none⟩ = some (.slice none 0 0) := (zL BK113.out 2).trans rfl; have hfz82_0 := zM BK113.out 0; have hfz82_1 := zM BK113.out 1; have hfz82_2 := zM BK113.out 2) | ((with_reducible refine ZS (t := 30) (p := 128) rfl ?_); refine ZB (t := 30) (p := 128) (v := ?vo_w83) (w1 := (w80.setCell ⟨gb113, 0, none⟩ (.slice Ao81 t117.length co81))) ?hg ?ho ?hn ?hr ?_; (case ho => rfl); (case hg => rfl); (case hn => rfl); (case hr => first | (go_simp; done) | (go_simp; rfl)); intro w83 hw; have n0_ : zA (Kd.R (Kd.int .i64) 2 w83 w.heap.size (fun k_ => some k_ ≠ (v108 : Value).ownBlock ∧ some k_ ≠ (v111 : Value).ownBlock ∧ some k_ ≠ (v115 : Value).ownBlock) (.slice Ao79 x5_1.length co79) x5_1) := ⟨(by rw [hw]; exact (by (with_reducible repeat (first | apply Kd.zR | apply Kd.zS | apply Kd.zU)); exact Kd.zo (Kd.ZR (p := ⟨gb113, 0, none⟩) (Kd.ZM HO_5.out BK113.out (by decide)) (fun _ hk => hk.2) (.slice Ao81 t117.length co81)) (fun _ hk => ⟨hk.1.1.1, ⟨hk.1.1.2, hk.1.2⟩⟩)))⟩; have n1_ : zA (Kd.R (Kd.int .i64) 2 w83 w.heap.size (fun k_ => some k_ ≠ (.slice Ao79 x5_1.length co79 : Value).ownBlock ∧ some k_ ≠ (v111 : Value).ownBlock ∧ some k_ ≠ (v115 : Value).ownBlock) v108 x6_1) := ⟨(by rw [hw]; exact (by (with_reducible repeat (first | apply Kd.zR | apply Kd.zS | apply Kd.zU)); exact Kd.zo (Kd.ZR (p := ⟨gb113, 0, none⟩) (Kd.ZM HO_6.out BK113.out (by decide)) (fun _ hk => hk.2) (.slice Ao81 t117.length co81)) (fun _ hk => ⟨hk.1.1.1, ⟨hk.1.1.2, hk.1.2⟩⟩)))⟩; have n2_ : zA (Kd.R (Kd.int .i64) 2 w83 w.heap.size (fun k_ => some k_ ≠ (.slice Ao79 x5_1.length co79 : Value).ownBlock ∧ some k_ ≠ (v108 : Value).ownBlock ∧ some k_ ≠ (v115 : Value).ownBlock) v111 x7_1) := ⟨(by rw [hw]; exact (by (with_reducible repeat (first | apply Kd.zR | apply Kd.zS | apply Kd.zU)); exact Kd.zo (Kd.ZR (p := ⟨gb113, 0, none⟩) (Kd.ZM HO_7.out BK113.out (by decide)) (fun _ hk => hk.2) (.slice Ao81 t117.length co81)) (fun _ hk => ⟨hk.1.1.1, ⟨hk.1.1.2, hk.1.2⟩⟩)))⟩; have n3_ : zA (Kd.R (Kd.int .i64) 2 w83 w.heap.size (fun k_ => some k_ ≠ (.slice Ao79 x5_1.length co79 : Value).ownBlock ∧ some k_ ≠ (v108 : Value).ownBlock ∧ some k_ ≠ (v111 : Value).ownBlock) v115 y114) := ⟨(by rw [hw]; exact (by (with_reducible repeat (first | apply Kd.zR | apply Kd.zS | apply Kd.zU)); exact Kd.zo (Kd.ZR (p := ⟨gb113, 0, none⟩) (Kd.ZM HO116.out BK113.out (by decide)) (fun _ hk => hk.2) (.slice Ao81 t117.length co81)) (fun _ hk => ⟨hk.1.1.1.2, ⟨hk.1.1.2, hk.1.2⟩⟩)))⟩; have n4_ : zA (Kd.S (Kd.slice 2 (Kd.int .i64)) 22 w83 w.heap.size (fun k_ => some k_ ≠ (.slice Ao79 x5_1.length co79 : Value).ownBlock ∧ some k_ ≠ (v108 : Value).ownBlock ∧ some k_ ≠ (v111 : Value).ownBlock ∧ some k_ ≠ (v115 : Value).ownBlock) (.slice Ao81 t117.length co81) t117) := ⟨(by rw [hw]; exact (by (with_reducible repeat (first | apply Kd.zl | apply Kd.zm | apply Kd.qE)); exact Kd.qx (Kd.Zw (p := ⟨gb113, 0, none⟩) (Kd.Zz HO120.out BK113.out (by decide)) (fun _ hk => hk.2) (.slice Ao81 t117.length co81)) (fun _ hk => ⟨hk.1.1.1.1.2, ⟨hk.1.1.1.2, ⟨hk.1.1.2, hk.1.2⟩⟩⟩)))⟩; have n5_ : zA (w83.heap[gb101]? = some (.cells #[.slice A0_0 l0_0.length c0_0] 35 (0, 0))) := ⟨(by rw [hw]; exact (by (with_reducible repeat (first | refine zH ?_ _ | refine zJ ?_ | refine zG ?_ _)); refine qJ ?_ NB101_113.out _; (with_reducible repeat (first | refine zH ?_ _ | refine zJ ?_ | refine zG ?_ _)); exact BK101.out))⟩; have n6_ : zA (w83.heap[gb102]? = some (.cells #[.slice none 0 0, .slice none 0 0, .slice none 0 0] 88 (0, 0))) := ⟨(by rw [hw]; exact (by (with_reducible repeat (first | refine zH ?_ _ | refine zJ ?_ | refine zG ?_ _)); refine qJ ?_ NB102_113.out _; (with_reducible repeat (first | refine zH ?_ _ | refine zJ ?_ | refine zG ?_ _)); exact BK102.out))⟩; have n7_ : zA (w83.heap[gb113]? = some (.cells #[.slice Ao81 t117.length co81, .slice none 0 0, .slice none 0 0] 88 (0, 0))) := ⟨(by rw [hw]; exact (by (with_reducible repeat (first | refine zH ?_ _ | refine zJ ?_ | refine zG ?_ _)); refine qa (cs := #[.slice none 0 0, .slice none 0 0, .slice none 0 0]) ?_ 0 _ rfl; (with_reducible repeat (first | refine zH ?_ _ | refine zJ ?_ | refine zG ?_ _)); exact BK113.out))⟩; have n8_ : zA (Below w.heap.size w w83) := ⟨(by rw [hw]; exact (by repeat (first | (with_reducible first | exact HB.out | apply zC | apply zB | apply zD | refine zF ?_ GE101.out | refine zF ?_ GE102.out | refine zF ?_ GE113.out) | exact HB.out)))⟩; clear hw; clear HO_5; clear HO_6; clear HO_7; clear HO116; clear HO120; clear BK101; clear BK102; clear BK113; clear HB; have HO_5 := n0_; have HO_6 := n1_; have HO_7 := n2_; have HO116 := n3_; have HO120 := n4_; have BK101 := n5_; have BK102 := n6_; have BK113 := n7_; have HB := n8_; clear n0_ n1_ n2_ n3_ n4_ n5_ n6_ n7_ n8_; have p66 : 0 ≤ (0 : Int) := (by omega); have q66 : (0 : Int) < ((y114.length : Int) : Int) := of_decide_eq_true (by first | (with_reducible assumption) | assumption); have qi66 : (0 < y114.length) = True := eq_true (by omega); obtain ⟨go66, co66, eo66, gb66, gl66, cl66, HG66⟩ := Kd.JW HO116.out (by omega); (first | cases eo66 | (injection eo66 with ea_ en_ ec_; (first | subst ea_ | (injection ea_ with ea_; subst ea_)); subst ec_; clear en_)); have GB66 := zA.mk gb66; have GG66 := zA.mk HG66; clear gb66 gl66 HG66; obtain ⟨hx66_0, hf66_0⟩ := Kd.Zg 0 HO116.out (0 : Int) p66 q66; (try rw [show ((0 : Int)).toNat = 0 from rfl] at hx66_0); (try simp only [Nat.reduceMul, Nat.zero_mul, Nat.zero_add, Nat.reduceAdd] at hx66_0); (try rw [show ((0 : Int)).toNat = 0 from rfl] at hf66_0); (try simp only [Nat.reduceMul, Nat.zero_mul, Nat.zero_add, Nat.reduceAdd] at hf66_0); replace p66 := eq_true p66; replace q66 := eq_true q66; obtain ⟨hy84_, hz84_⟩ := Kd.Zg 0 HO116.out (0 : Int) (by omega) (of_decide_eq_true (by first | (with_reducible assumption) | assumption)); (try simp only [Int.reduceToNat, Int.toNat_zero, Int.toNat_ofNat, Nat.reduceMul, Nat.zero_mul, Nat.zero_add] at hy84_ hz84_); (try rw [show ((0 : Int)).toNat = 0 from rfl] at hy84_); (try rw [show ((0 : Int)).toNat = 0 from rfl] at hz84_); have HP84 := Kd.Jl HO116.out (0 : Int) t118) | ((with_reducible refine ZS (t := 2) (p := 129) rfl ?_); refine ZB (t := 2) (p := 129) (v := ?vo_w85) (w1 := (w83.setCell ⟨go66, (0 : Int).toNat, none⟩ (.int .i64 t118))) ?hg ?ho ?hn ?hr ?_; (case ho => rfl); (case hg => rfl); (case hn => rfl); (case hr => first | (go_simp; done) | (go_simp; rfl)); intro w85 hw; have hg : w83.grownBy w85 (some go66) := (by rw [hw]; exact HP84.2); have hp_ : Kd.R (Kd.int .i64) 2 w85 w.heap.size (fun k_ => some k_ ≠ (.slice Ao79 x5_1.length co79 : Value).ownBlock ∧ some k_ ≠ (v108 : Value).ownBlock ∧ some k_ ≠ (v111 : Value).ownBlock) (.slice (some ⟨go66, 0, none⟩) y114.length co66) y121 := (by rw [hw, Ny121.out]; exact HP84.1); clear HP84; have n0_ := zA.mk (Kd.qu (v := (.slice (some ⟨go66, 0, none⟩) y114.length co66)) (v1 := (.slice (some ⟨go66, 0, none⟩) y114.length co66)) (ok := (fun k_ => some k_ ≠ (v108 : Value).ownBlock ∧ some k_ ≠ (v111 : Value).ownBlock)) (by (with_reducible repeat (first | apply Kd.zR | apply Kd.zS | apply Kd.zU)); exact Kd.zo HO_5.out (fun _ hk => ⟨⟨hk.1, hk.2.1⟩, hk.2.2⟩)) hg (.inl rfl)); have n1_ := zA.mk (Kd.qu (v := (.slice (some ⟨go66, 0, none⟩) y114.length co66)) (v1 := (.slice (some ⟨go66, 0, none⟩) y114.length co66)) (ok := (fun k_ => some k_ ≠ (.slice Ao79 x5_1.length co79 : Value).ownBlock ∧ some k_ ≠ (v111 : Value).ownBlock)) (by (with_reducible repeat (first | apply Kd.zR | apply Kd.zS | apply Kd.zU)); exact Kd.zo HO_6.out (fun _ hk => ⟨⟨hk.1, hk.2.1⟩, hk.2.2⟩)) hg (.inl rfl)); have n2_ := zA.mk (Kd.qu (v := (.slice (some ⟨go66, 0, none⟩) y114.length co66)) (v1 := (.slice (some ⟨go66, 0, none⟩) y114.length co66)) (ok := (fun k_ => some k_ ≠ (.slice Ao79 x5_1.length co79 : Value).ownBlock ∧ some k_ ≠ (v108 : Value).ownBlock)) (by (with_reducible repeat (first | apply Kd.zR | apply Kd.zS | apply Kd.zU)); exact Kd.zo HO_7.out (fun _ hk => ⟨⟨hk.1, hk.2.1⟩, hk.2.2⟩)) hg (.inl rfl)); have n3_ := zA.mk (qo (g := gb101) (o := .cells #[.slice A0_0 l0_0.length c0_0] 35 (0, 0)) (by (with_reducible repeat (first | refine zH ?_ _ | refine zJ ?_ | refine zG ?_ _)); exact BK101.out) hg (Kd.zBb HO116.out BK101.out (by decide))); have n4_ := zA.mk (qo (g := gb102) (o := .cells #[.slice none 0 0, .slice none 0 0, .slice none 0 0] 88 (0, 0)) (by (with_reducible repeat (first | refine zH ?_ _ | refine zJ ?_ | refine zG ?_ _)); exact BK102.out) hg (Kd.zBb HO116.out BK102.out (by decide))); have n5_ := zA.mk (qo (g := gb113) (o := .cells #[.slice Ao81 t117.length co81, .slice none 0 0, .slice none 0 0] 88 (0, 0)) (by (with_reducible repeat (first | refine zH ?_ _ | refine zJ ?_ | refine zG ?_ _)); exact BK113.out) hg (Kd.zBb HO116.out BK113.out (by decide))); have n6_ := zA.mk (hp_); have n7_ := zA.mk (Kd.Qq (v := (.slice (some ⟨go66, 0, none⟩) y114.length co66)) (v1 := (.slice (some ⟨go66, 0, none⟩) y114.length co66)) (ok := (fun k_ => some k_ ≠ (.slice Ao79 x5_1.length co79 : Value).ownBlock ∧ some k_ ≠ (v108 : Value).ownBlock ∧ some k_ ≠ (v111 : Value).ownBlock)) (by (with_reducible repeat (first | apply Kd.zl | apply Kd.zm | apply Kd.qE)); exact Kd.qx HO120.out (fun _ hk => ⟨⟨hk.1, ⟨hk.2.1, hk.2.2.1⟩⟩, hk.2.2.2⟩)) hg (.inl rfl)); have n8_ := zA.mk ((by rw [hw]; exact zF (HB.out) GB66.out : Below w.heap.size w w85)); clear HO_5; clear HO_6; clear HO_7; clear BK101; clear BK102; clear BK113; clear HO116; clear HO120; clear HB; have HO_5 := n0_; have HO_6 := n1_; have HO_7 := n2_; have BK101 := n3_; have BK102 := n4_; have BK113 := n5_; have HO116 := n6_; have HO120 := n7_; have HB := n8_; clear n0_ n1_ n2_ n3_ n4_ n5_ n6_ n7_ n8_; clear hg hw hp_; obtain ⟨Ao86, co86, eo86⟩ := Kd.ZA HO_6.out; subst eo86) | ((with_reducible refine zb (f := 117) rfl ?_); refine qH (some 133) rfl rfl Try.func117 (by kernel_rfl) rfl #[.slice Ao86 x6_1.length co86, .int .i64 6] rfl (by (try simp only [yiy, yjy, yky]); first | done | rfl | (simp only [yly, ymy]; rfl)) ?_; (with_reducible refine (ze.calls k1 _ _ x6_1 6 t122 t123 _ ?side1 ?side2 A67.out).mono ?_); (case side1 => repeat (first | exact (Kd.zp HO_6.out).2.2 | (with_reducible refine Kd.zx ?_ _) | (with_reducible refine Kd.zy ?_ _) | (with_reducible refine Kd.qM ?_))); (case side2 => exact (Kd.zp HO_6.out).2.1); rintro e w87 ⟨v124, rfl, ho0, hb⟩; refine ⟨_, rfl, ?_⟩; have n0_ := zA.mk (Kd.qP (by (with_reducible repeat (first | apply Kd.zR | apply Kd.zS | apply Kd.zU)); exact HO_5.out) hb); have n1_ := zA.mk (Kd.qP (by (with_reducible repeat (first | apply Kd.zR | apply Kd.zS | apply Kd.zU)); exact HO_6.out) hb); have n2_ := zA.mk (Kd.qP (by (with_reducible repeat (first | apply Kd.zR | apply Kd.zS | apply Kd.zU)); exact HO_7.out) hb); have n3_ := zA.mk (Kd.qP (by (with_reducible repeat (first | apply Kd.zR | apply Kd.zS | apply Kd.zU)); exact HO116.out) hb); have n4_ := zA.mk (Kd.QC (by (with_reducible repeat (first | apply Kd.zl | apply Kd.zm | apply Kd.qE)); exact HO120.out) (Kd.zBB ho0) hb); have n5_ := zA.mk (Kd.QS (Kd.QO (Kd.QO (Kd.QO (Kd.QO (Kd.QO ho0 (Kd.Qx (by (with_reducible repeat (first | apply Kd.zR | apply Kd.zS | apply Kd.zU)); exact HO_5.out))) (Kd.Qx (by (with_reducible repeat (first | apply Kd.zR | apply Kd.zS | apply Kd.zU)); exact HO_6.out))) (Kd.Qx (by (with_reducible repeat (first | apply Kd.zR | apply Kd.zS | apply Kd.zU)); exact HO_7.out))) (Kd.Qx (by (with_reducible repeat (first | apply Kd.zR | apply Kd.zS | apply Kd.zU)); exact HO116.out))) (Kd.zF7 (by (with_reducible repeat (first | apply Kd.zl | apply Kd.zm | apply Kd.qE)); exact HO120.out))) (zO (by repeat (first | (with_reducible first | exact HB.out | apply zC | apply zB | apply zD | refine zF ?_ GE101.out | refine zF ?_ GE102.out | refine zF ?_ GE113.out) | exact HB.out)))); have n6_ := zA.mk (zP (g := gb101) (o := .cells #[.slice A0_0 l0_0.length c0_0] 35 (0, 0)) (by (with_reducible repeat (first | refine zH ?_ _ | refine zJ ?_ | refine zG ?_ _)); exact BK101.out) hb); have n7_ := zA.mk (zP (g := gb102) (o := .cells #[.slice none 0 0, .slice none 0 0, .slice none 0 0] 88 (0, 0)) (by (with_reducible repeat (first | refine zH ?_ _ | refine zJ ?_ | refine zG ?_ _)); exact BK102.out) hb); have n8_ := zA.mk (zP (g := gb113) (o := .cells #[.slice Ao81 t117.length co81, .slice none 0 0, .slice none 0 0] 88 (0, 0)) (by (with_reducible repeat (first | refine zH ?_ _ | refine zJ ?_ | refine zG ?_ _)); exact BK113.out) hb); have n9_ := zA.mk (zN (by repeat (first | (with_reducible first | exact HB.out | apply zC | apply zB | apply zD | refine zF ?_ GE101.out | refine zF ?_ GE102.out | refine zF ?_ GE113.out) | exact HB.out)) hb); clear HO_5; clear HO_6; clear HO_7; clear HO116; clear HO120; clear BK101; clear BK102; clear BK113; clear HB; have HO_5 := n0_; have HO_6 := n1_; have HO_7 := n2_; have HO116 := n3_; have HO120 := n4_; have HO125 := n5_; have BK101 := n6_; have BK102 := n7_; have BK113 := n8_; have HB := n9_; clear n0_ n1_ n2_ n3_ n4_ n5_ n6_ n7_ n8_ n9_; (try clear hb); (try clear hb2); (try clear hk); (try clear hi); (try clear ho0); obtain ⟨Ao88, co88, eo88⟩ := Kd.QW HO125.out; subst eo88; have hcz89_0 : w87.cell? ⟨gb113, 0, none⟩ = some (.slice Ao81 t117.length co81) := (zL BK113.out 0).trans rfl; have hcz89_1 : w87.cell? ⟨gb113, 1, none⟩ = some (.slice none 0 0) := (zL BK113.out 1).trans rfl; have hcz89_2 : w87.cell? ⟨gb113, 2, none⟩ = some (.slice none 0 0) := (zL BK113.out 2).trans rfl; have hfz89_0 := zM BK113.out 0; have hfz89_1 := zM BK113.out 1; have hfz89_2 := zM BK113.out 2) | ((with_reducible refine ZS (t := 30) (p := 136) rfl ?_); refine ZB (t := 30) (p := 136) (v := ?vo_w90) (w1 := (w87.setCell ⟨gb113, 1, none⟩ (.slice Ao88 t122.length co88))) ?hg ?ho ?hn ?hr ?_; (case ho => rfl); (case hg => rfl); (case hn => rfl); (case hr => first | (go_simp; done) | (go_simp; rfl)); intro w90 hw; have n0_ : zA (Kd.R (Kd.int .i64) 2 w90 w.heap.size (fun k_ => some k_ ≠ (.slice Ao86 x6_1.length co86 : Value).ownBlock ∧ some k_ ≠ (v111 : Value).ownBlock ∧ some k_ ≠ (.slice (some ⟨go66, 0, none⟩) y114.length co66 : Value).ownBlock) (.slice Ao79 x5_1.length co79) x5_1) := ⟨(by rw [hw]; exact (by (with_reducible repeat (first | apply Kd.zR | apply Kd.zS | apply Kd.zU)); exact Kd.zo (Kd.ZR (p := ⟨gb113, 1, none⟩) (Kd.ZM HO_5.out BK113.out (by decide)) (fun _ hk => hk.2) (.slice Ao88 t122.length co88)) (fun _ hk => ⟨hk.1.1.1, ⟨hk.1.1.2, hk.1.2⟩⟩)))⟩; have n1_ : zA (Kd.R (Kd.int .i64) 2 w90 w.heap.size (fun k_ => some k_ ≠ (.slice Ao79 x5_1.length co79 : Value).ownBlock ∧ some k_ ≠ (v111 : Value).ownBlock ∧ some k_ ≠ (.slice (some ⟨go66, 0, none⟩) y114.length co66 : Value).ownBlock) (.slice Ao86 x6_1.length co86) x6_1) := ⟨(by rw [hw]; exact (by (with_reducible repeat (first | apply Kd.zR | apply Kd.zS | apply Kd.zU)); exact Kd.zo (Kd.ZR (p := ⟨gb113, 1, none⟩) (Kd.ZM HO_6.out BK113.out (by decide)) (fun _ hk => hk.2) (.slice Ao88 t122.length co88)) (fun _ hk => ⟨hk.1.1.1, ⟨hk.1.1.2, hk.1.2⟩⟩)))⟩; have n2_ : zA (Kd.R (Kd.int .i64) 2 w90 w.heap.size (fun k_ => some k_ ≠ (.slice Ao79 x5_1.length co79 : Value).ownBlock ∧ some k_ ≠ (.slice Ao86 x6_1.length co86 : Value).ownBlock ∧ some k_ ≠ (.slice (some ⟨go66, 0, none⟩) y114.length co66 : Value).ownBlock) v111 x7_1) := ⟨(by rw [hw]; exact (by (with_reducible repeat (first | apply Kd.zR | apply Kd.zS | apply Kd.zU)); exact Kd.zo (Kd.ZR (p := ⟨gb113, 1, none⟩) (Kd.ZM HO_7.out BK113.out (by decide)) (fun _ hk => hk.2) (.slice Ao88 t122.length co88)) (fun _ hk => ⟨hk.1.1.1, ⟨hk.1.1.2, hk.1.2⟩⟩)))⟩; have n3_ : zA (Kd.R (Kd.int .i64) 2 w90 w.heap.size (fun k_ => some k_ ≠ (.slice Ao79 x5_1.length co79 : Value).ownBlock ∧ some k_ ≠ (.slice Ao86 x6_1.length co86 : Value).ownBlock ∧ some k_ ≠ (v111 : Value).ownBlock) (.slice (some ⟨go66, 0, none⟩) y114.length co66) y121) := ⟨(by rw [hw]; exact (by (with_reducible repeat (first | apply Kd.zR | apply Kd.zS | apply Kd.zU)); exact Kd.zo (Kd.ZR (p := ⟨gb113, 1, none⟩) (Kd.ZM HO116.out BK113.out (by decide)) (fun _ hk => hk.2) (.slice Ao88 t122.length co88)) (fun _ hk => ⟨hk.1.1, ⟨hk.1.2.1, hk.1.2.2⟩⟩)))⟩; have n4_ : zA (Kd.S (Kd.slice 2 (Kd.int .i64)) 22 w90 w.heap.size (fun k_ => some k_ ≠ (.slice Ao79 x5_1.length co79 : Value).ownBlock ∧ some k_ ≠ (.slice Ao86 x6_1.length co86 : Value).ownBlock ∧ some k_ ≠ (v111 : Value).ownBlock ∧ some k_ ≠ (.slice (some ⟨go66, 0, none⟩) y114.length co66 : Value).ownBlock ∧ some k_ ≠ (.slice Ao88 t122.length co88 : Value).ownBlock) (.slice Ao81 t117.length co81) t117) := ⟨(by rw [hw]; exact (by (with_reducible repeat (first | apply Kd.zl | apply Kd.zm | apply Kd.qE)); exact Kd.qx (Kd.Zw (p := ⟨gb113, 1, none⟩) (Kd.Zz HO120.out BK113.out (by decide)) (fun _ hk => hk.2) (.slice Ao88 t122.length co88)) (fun _ hk => ⟨hk.1.1.1.1, ⟨hk.1.1.1.2.1, ⟨hk.1.1.1.2.2, ⟨hk.1.1.2, hk.1.2⟩⟩⟩⟩)))⟩; have n5_ : zA (Kd.S (Kd.slice 2 (Kd.int .i64)) 22 w90 w.heap.size (fun k_ => some k_ ≠ (.slice Ao79 x5_1.length co79 : Value).ownBlock ∧ some k_ ≠ (.slice Ao86 x6_1.length co86 : Value).ownBlock ∧ some k_ ≠ (v111 : Value).ownBlock ∧ some k_ ≠ (.slice (some ⟨go66, 0, none⟩) y114.length co66 : Value).ownBlock ∧ some k_ ≠ (.slice Ao81 t117.length co81 : Value).ownBlock) (.slice Ao88 t122.length co88) t122) := ⟨(by rw [hw]; exact (by (with_reducible repeat (first | apply Kd.zl | apply Kd.zm | apply Kd.qE)); exact Kd.qx (Kd.Zw (p := ⟨gb113, 1, none⟩) (Kd.Zz HO125.out BK113.out (by decide)) (fun _ hk => hk.2) (.slice Ao88 t122.length co88)) (fun _ hk => ⟨hk.1.1.1.1.1.2, ⟨hk.1.1.1.1.2, ⟨hk.1.1.1.2, ⟨hk.1.1.2, hk.1.2⟩⟩⟩⟩)))⟩; have n6_ : zA (w90.heap[gb101]? = some (.cells #[.slice A0_0 l0_0.length c0_0] 35 (0, 0))) := ⟨(by rw [hw]; exact (by (with_reducible repeat (first | refine zH ?_ _ | refine zJ ?_ | refine zG ?_ _)); refine qJ ?_ NB101_113.out _; (with_reducible repeat (first | refine zH ?_ _ | refine zJ ?_ | refine zG ?_ _)); exact BK101.out))⟩; have n7_ : zA (w90.heap[gb102]? = some (.cells #[.slice none 0 0, .slice none 0 0, .slice none 0 0] 88 (0, 0))) := ⟨(by rw [hw]; exact (by (with_reducible repeat (first | refine zH ?_ _ | refine zJ ?_ | refine zG ?_ _)); refine qJ ?_ NB102_113.out _; (with_reducible repeat (first | refine zH ?_ _ | refine zJ ?_ | refine zG ?_ _)); exact BK102.out))⟩; have n8_ : zA (w90.heap[gb113]? = some (.cells #[.slice Ao81 t117.length co81, .slice Ao88 t122.length co88, .slice none 0 0] 88 (0, 0))) := ⟨(by rw [hw]; exact (by (with_reducible repeat (first | refine zH ?_ _ | refine zJ ?_ | refine zG ?_ _)); refine qa (cs := #[.slice Ao81 t117.length co81, .slice none 0 0, .slice none 0 0]) ?_ 1 _ rfl; (with_reducible repeat (first | refine zH ?_ _ | refine zJ ?_ | refine zG ?_ _)); exact BK113.out))⟩; have n9_ : zA (Below w.heap.size w w90) := ⟨(by rw [hw]; exact (by repeat (first | (with_reducible first | exact HB.out | apply zC | apply zB | apply zD | refine zF ?_ GE101.out | refine zF ?_ GE102.out | refine zF ?_ GE113.out) | exact HB.out)))⟩; clear hw; clear HO_5; clear HO_6; clear HO_7; clear HO116; clear HO120; clear HO125; clear BK101; clear BK102; clear BK113; clear HB; have HO_5 := n0_; have HO_6 := n1_; have HO_7 := n2_; have HO116 := n3_; have HO120 := n4_; have HO125 := n5_; have BK101 := n6_; have BK102 := n7_; have BK113 := n8_; have HB := n9_; clear n0_ n1_ n2_ n3_ n4_ n5_ n6_ n7_ n8_ n9_; have p69 : 0 ≤ (1 : Int) := (by omega); have q69 : (1 : Int) < ((y114.length : Int) : Int) := of_decide_eq_true (by first | (with_reducible assumption) | assumption); have qi69 : (1 < y114.length) = True := eq_true (by omega); obtain ⟨hx69_0, hf69_0⟩ := Kd.Zg 0 HO116.out (1 : Int) p69 q69; (try rw [show ((1 : Int)).toNat = 1 from rfl] at hx69_0); (try simp only [Nat.reduceMul, Nat.zero_mul, Nat.zero_add, Nat.reduceAdd] at hx69_0); (try rw [show ((1 : Int)).toNat = 1 from rfl] at hf69_0); (try simp only [Nat.reduceMul, Nat.zero_mul, Nat.zero_add, Nat.reduceAdd] at hf69_0); replace p69 := eq_true p69; replace q69 := eq_true q69; obtain ⟨hy91_, hz91_⟩ := Kd.Zg 0 HO116.out (1 : Int) (by omega) (of_decide_eq_true (by first | (with_reducible assumption) | assumption)); (try simp only [Int.reduceToNat, Int.toNat_zero, Int.toNat_ofNat, Nat.reduceMul, Nat.zero_mul, Nat.zero_add] at hy91_ hz91_); (try rw [show ((1 : Int)).toNat = 1 from rfl] at hy91_); (try rw [show ((1 : Int)).toNat = 1 from rfl] at hz91_); have HP91 := Kd.Jl HO116.out (1 : Int) t123) | ((with_reducible refine ZS (t := 2) (p := 137) rfl ?_); refine ZB (t := 2) (p := 137) (v := ?vo_w92) (w1 := (w90.setCell ⟨go66, (1 : Int).toNat, none⟩ (.int .i64 t123))) ?hg ?ho ?hn ?hr ?_; (case ho => rfl); (case hg => rfl); (case hn => rfl); (case hr => first | (go_simp; done) | (go_simp; rfl)); intro w92 hw; have hg : w90.grownBy w92 (some go66) := (by rw [hw]; exact HP91.2); have hp_ : Kd.R (Kd.int .i64) 2 w92 w.heap.size (fun k_ => some k_ ≠ (.slice Ao79 x5_1.length co79 : Value).ownBlock ∧ some k_ ≠ (.slice Ao86 x6_1.length co86 : Value).ownBlock ∧ some k_ ≠ (v111 : Value).ownBlock) (.slice (some ⟨go66, 0, none⟩) y114.length co66) y126 := (by rw [hw, Ny126.out]; exact HP91.1); clear HP91; have n0_ := zA.mk (Kd.qu (v := (.slice (some ⟨go66, 0, none⟩) y114.length co66)) (v1 := (.slice (some ⟨go66, 0, none⟩) y114.length co66)) (ok := (fun k_ => some k_ ≠ (.slice Ao86 x6_1.length co86 : Value).ownBlock ∧ some k_ ≠ (v111 : Value).ownBlock)) (by (with_reducible repeat (first | apply Kd.zR | apply Kd.zS | apply Kd.zU)); exact Kd.zo HO_5.out (fun _ hk => ⟨⟨hk.1, hk.2.1⟩, hk.2.2⟩)) hg (.inl rfl)); have n1_ := zA.mk (Kd.qu (v := (.slice (some ⟨go66, 0, none⟩) y114.length co66)) (v1 := (.slice (some ⟨go66, 0, none⟩) y114.length co66)) (ok := (fun k_ => some k_ ≠ (.slice Ao79 x5_1.length co79 : Value).ownBlock ∧ some k_ ≠ (v111 : Value).ownBlock)) (by (with_reducible repeat (first | apply Kd.zR | apply Kd.zS | apply Kd.zU)); exact Kd.zo HO_6.out (fun _ hk => ⟨⟨hk.1, hk.2.1⟩, hk.2.2⟩)) hg (.inl rfl)); have n2_ := zA.mk (Kd.qu (v := (.slice (some ⟨go66, 0, none⟩) y114.length co66)) (v1 := (.slice (some ⟨go66, 0, none⟩) y114.length co66)) (ok := (fun k_ => some k_ ≠ (.slice Ao79 x5_1.length co79 : Value).ownBlock ∧ some k_ ≠ (.slice Ao86 x6_1.length co86 : Value).ownBlock)) (by (with_reducible repeat (first | apply Kd.zR | apply Kd.zS | apply Kd.zU)); exact Kd.zo HO_7.out (fun _ hk => ⟨⟨hk.1, hk.2.1⟩, hk.2.2⟩)) hg (.inl rfl)); have n3_ := zA.mk (qo (g := gb101) (o := .cells #[.slice A0_0 l0_0.length c0_0] 35 (0, 0)) (by (with_reducible repeat (first | refine zH ?_ _ | refine zJ ?_ | refine zG ?_ _)); exact BK101.out) hg (Kd.zBb HO116.out BK101.out (by decide))); have n4_ := zA.mk (qo (g := gb102) (o := .cells #[.slice none 0 0, .slice none 0 0, .slice none 0 0] 88 (0, 0)) (by (with_reducible repeat (first | refine zH ?_ _ | refine zJ ?_ | refine zG ?_ _)); exact BK102.out) hg (Kd.zBb HO116.out BK102.out (by decide))); have n5_ := zA.mk (qo (g := gb113) (o := .cells #[.slice Ao81 t117.length co81, .slice Ao88 t122.length co88, .slice none 0 0] 88 (0, 0)) (by (with_reducible repeat (first | refine zH ?_ _ | refine zJ ?_ | refine zG ?_ _)); exact BK113.out) hg (Kd.zBb HO116.out BK113.out (by decide))); have n6_ := zA.mk (hp_); have n7_ := zA.mk (Kd.Qq (v := (.slice (some ⟨go66, 0, none⟩) y114.length co66)) (v1 := (.slice (some ⟨go66, 0, none⟩) y114.length co66)) (ok := (fun k_ => some k_ ≠ (.slice Ao79 x5_1.length co79 : Value).ownBlock ∧ some k_ ≠ (.slice Ao86 x6_1.length co86 : Value).ownBlock ∧ some k_ ≠ (v111 : Value).ownBlock ∧ some k_ ≠ (.slice Ao88 t122.length co88 : Value).ownBlock)) (by (with_reducible repeat (first | apply Kd.zl | apply Kd.zm | apply Kd.qE)); exact Kd.qx HO120.out (fun _ hk => ⟨⟨hk.1, ⟨hk.2.1, ⟨hk.2.2.1, hk.2.2.2.2⟩⟩⟩, hk.2.2.2.1⟩)) hg (.inl rfl)); have n8_ := zA.mk (Kd.Qq (v := (.slice (some ⟨go66, 0, none⟩) y114.length co66)) (v1 := (.slice (some ⟨go66, 0, none⟩) y114.length co66)) (ok := (fun k_ => some k_ ≠ (.slice Ao79 x5_1.length co79 : Value).ownBlock ∧ some k_ ≠ (.slice Ao86 x6_1.length co86 : Value).ownBlock ∧ some k_ ≠ (v111 : Value).ownBlock ∧ some k_ ≠ (.slice Ao81 t117.length co81 : Value).ownBlock)) (by (with_reducible repeat (first | apply Kd.zl | apply Kd.zm | apply Kd.qE)); exact Kd.qx HO125.out (fun _ hk => ⟨⟨hk.1, ⟨hk.2.1, ⟨hk.2.2.1, hk.2.2.2.2⟩⟩⟩, hk.2.2.2.1⟩)) hg (.inl rfl)); have n9_ := zA.mk ((by rw [hw]; exact zF (HB.out) GB66.out : Below w.heap.size w w92)); clear HO_5; clear HO_6; clear HO_7; clear BK101; clear BK102; clear BK113; clear HO116; clear HO120; clear HO125; clear HB; have HO_5 := n0_; have HO_6 := n1_; have HO_7 := n2_; have BK101 := n3_; have BK102 := n4_; have BK113 := n5_; have HO116 := n6_; have HO120 := n7_; have HO125 := n8_; have HB := n9_; clear n0_ n1_ n2_ n3_ n4_ n5_ n6_ n7_ n8_ n9_; clear hg hw hp_; obtain ⟨Ao93, co93, eo93⟩ := Kd.ZA HO_7.out; subst eo93) | ((with_reducible refine zb (f := 117) rfl ?_); refine qH (some 141) rfl rfl Try.func117 (by kernel_rfl) rfl #[.slice Ao93 x7_1.length co93, .int .i64 4] rfl (by (try simp only [yiy, yjy, yky]); first | done | rfl | (simp only [yly, ymy]; rfl)) ?_; (with_reducible refine (ze.calls k1 _ _ x7_1 4 t127 t128 _ ?side1 ?side2 A70.out).mono ?_); (case side1 => repeat (first | exact (Kd.zp HO_7.out).2.2 | (with_reducible refine Kd.zx ?_ _) | (with_reducible refine Kd.zy ?_ _) | (with_reducible refine Kd.qM ?_))); (case side2 => exact (Kd.zp HO_7.out).2.1); rintro e w94 ⟨v129, rfl, ho0, hb⟩; refine ⟨_, rfl, ?_⟩; have n0_ := zA.mk (Kd.qP (by (with_reducible repeat (first | apply Kd.zR | apply Kd.zS | apply Kd.zU)); exact HO_5.out) hb); have n1_ := zA.mk (Kd.qP (by (with_reducible repeat (first | apply Kd.zR | apply Kd.zS | apply Kd.zU)); exact HO_6.out) hb); have n2_ := zA.mk (Kd.qP (by (with_reducible repeat (first | apply Kd.zR | apply Kd.zS | apply Kd.zU)); exact HO_7.out) hb); have n3_ := zA.mk (Kd.qP (by (with_reducible repeat (first | apply Kd.zR | apply Kd.zS | apply Kd.zU)); exact HO116.out) hb); have n4_ := zA.mk (Kd.QC (by (with_reducible repeat (first | apply Kd.zl | apply Kd.zm | apply Kd.qE)); exact HO120.out) (Kd.zBB ho0) hb); have n5_ := zA.mk (Kd.QC (by (with_reducible repeat (first | apply Kd.zl | apply Kd.zm | apply Kd.qE)); exact HO125.out) (Kd.zBB ho0) hb); have n6_ := zA.mk (Kd.QS (Kd.QO (Kd.QO (Kd.QO (Kd.QO (Kd.QO (Kd.QO ho0 (Kd.Qx (by (with_reducible repeat (first | apply Kd.zR | apply Kd.zS | apply Kd.zU)); exact HO_5.out))) (Kd.Qx (by (with_reducible repeat (first | apply Kd.zR | apply Kd.zS | apply Kd.zU)); exact HO_6.out))) (Kd.Qx (by (with_reducible repeat (first | apply Kd.zR | apply Kd.zS | apply Kd.zU)); exact HO_7.out))) (Kd.Qx (by (with_reducible repeat (first | apply Kd.zR | apply Kd.zS | apply Kd.zU)); exact HO116.out))) (Kd.zF7 (by (with_reducible repeat (first | apply Kd.zl | apply Kd.zm | apply Kd.qE)); exact HO120.out))) (Kd.zF7 (by (with_reducible repeat (first | apply Kd.zl | apply Kd.zm | apply Kd.qE)); exact HO125.out))) (zO (by repeat (first | (with_reducible first | exact HB.out | apply zC | apply zB | apply zD | refine zF ?_ GE101.out | refine zF ?_ GE102.out | refine zF ?_ GE113.out) | exact HB.out)))); have n7_ := zA.mk (zP (g := gb101) (o := .cells #[.slice A0_0 l0_0.length c0_0] 35 (0, 0)) (by (with_reducible repeat (first | refine zH ?_ _ | refine zJ ?_ | refine zG ?_ _)); exact BK101.out) hb); have n8_ := zA.mk (zP (g := gb102) (o := .cells #[.slice none 0 0, .slice none 0 0, .slice none 0 0] 88 (0, 0)) (by (with_reducible repeat (first | refine zH ?_ _ | refine zJ ?_ | refine zG ?_ _)); exact BK102.out) hb); have n9_ := zA.mk (zP (g := gb113) (o := .cells #[.slice Ao81 t117.length co81, .slice Ao88 t122.length co88, .slice none 0 0] 88 (0, 0)) (by (with_reducible repeat (first | refine zH ?_ _ | refine zJ ?_ | refine zG ?_ _)); exact BK113.out) hb); have n10_ := zA.mk (zN (by repeat (first | (with_reducible first | exact HB.out | apply zC | apply zB | apply zD | refine zF ?_ GE101.out | refine zF ?_ GE102.out | refine zF ?_ GE113.out) | exact HB.out)) hb); clear HO_5; clear HO_6; clear HO_7; clear HO116; clear HO120; clear HO125; clear BK101; clear BK102; clear BK113; clear HB; have HO_5 := n0_; have HO_6 := n1_; have HO_7 := n2_; have HO116 := n3_; have HO120 := n4_; have HO125 := n5_; have HO130 := n6_; have BK101 := n7_; have BK102 := n8_; have BK113 := n9_; have HB := n10_; clear n0_ n1_ n2_ n3_ n4_ n5_ n6_ n7_ n8_ n9_ n10_; (try clear hb); (try clear hb2); (try clear hk); (try clear hi); (try clear ho0); obtain ⟨Ao95, co95, eo95⟩ := Kd.QW HO130.out; subst eo95; have hcz96_0 : w94.cell? ⟨gb113, 0, none⟩ = some (.slice Ao81 t117.length co81) := (zL BK113.out 0).trans rfl; have hcz96_1 : w94.cell? ⟨gb113, 1, none⟩ = some (.slice Ao88 t122.length co88) := (zL BK113.out 1).trans rfl; have hcz96_2 : w94.cell? ⟨gb113, 2, none⟩ = some (.slice none 0 0) := (zL BK113.out 2).trans rfl; have hfz96_0 := zM BK113.out 0; have hfz96_1 := zM BK113.out 1; have hfz96_2 := zM BK113.out 2) | ((with_reducible refine ZS (t := 30) (p := 144) rfl ?_); refine ZB (t := 30) (p := 144) (v := ?vo_w97) (w1 := (w94.setCell ⟨gb113, 2, none⟩ (.slice Ao95 t127.length co95))) ?hg ?ho ?hn ?hr ?_; (case ho => rfl); (case hg => rfl); (case hn => rfl); (case hr => first | (go_simp; done) | (go_simp; rfl)); intro w97 hw; have n0_ : zA (Kd.R (Kd.int .i64) 2 w97 w.heap.size (fun k_ => some k_ ≠ (.slice Ao86 x6_1.length co86 : Value).ownBlock ∧ some k_ ≠ (.slice Ao93 x7_1.length co93 : Value).ownBlock ∧ some k_ ≠ (.slice (some ⟨go66, 0, none⟩) y114.length co66 : Value).ownBlock) (.slice Ao79 x5_1.length co79) x5_1) := ⟨(by rw [hw]; exact (by (with_reducible repeat (first | apply Kd.zR | apply Kd.zS | apply Kd.zU)); exact Kd.zo (Kd.ZR (p := ⟨gb113, 2, none⟩) (Kd.ZM HO_5.out BK113.out (by decide)) (fun _ hk => hk.2) (.slice Ao95 t127.length co95)) (fun _ hk => ⟨hk.1.1.1, ⟨hk.1.1.2, hk.1.2⟩⟩)))⟩; have n1_ : zA (Kd.R (Kd.int .i64) 2 w97 w.heap.size (fun k_ => some k_ ≠ (.slice Ao79 x5_1.length co79 : Value).ownBlock ∧ some k_ ≠ (.slice Ao93 x7_1.length co93 : Value).ownBlock ∧ some k_ ≠ (.slice (some ⟨go66, 0, none⟩) y114.length co66 : Value).ownBlock) (.slice Ao86 x6_1.length co86) x6_1) := ⟨(by rw [hw]; exact (by (with_reducible repeat (first | apply Kd.zR | apply Kd.zS | apply Kd.zU)); exact Kd.zo (Kd.ZR (p := ⟨gb113, 2, none⟩) (Kd.ZM HO_6.out BK113.out (by decide)) (fun _ hk => hk.2) (.slice Ao95 t127.length co95)) (fun _ hk => ⟨hk.1.1.1, ⟨hk.1.1.2, hk.1.2⟩⟩)))⟩; have n2_ : zA (Kd.R (Kd.int .i64) 2 w97 w.heap.size (fun k_ => some k_ ≠ (.slice Ao79 x5_1.length co79 : Value).ownBlock ∧ some k_ ≠ (.slice Ao86 x6_1.length co86 : Value).ownBlock ∧ some k_ ≠ (.slice (some ⟨go66, 0, none⟩) y114.length co66 : Value).ownBlock) (.slice Ao93 x7_1.length co93) x7_1) := ⟨(by rw [hw]; exact (by (with_reducible repeat (first | apply Kd.zR | apply Kd.zS | apply Kd.zU)); exact Kd.zo (Kd.ZR (p := ⟨gb113, 2, none⟩) (Kd.ZM HO_7.out BK113.out (by decide)) (fun _ hk => hk.2) (.slice Ao95 t127.length co95)) (fun _ hk => ⟨hk.1.1.1, ⟨hk.1.1.2, hk.1.2⟩⟩)))⟩; have n3_ : zA (Kd.R (Kd.int .i64) 2 w97 w.heap.size (fun k_ => some k_ ≠ (.slice Ao79 x5_1.length co79 : Value).ownBlock ∧ some k_ ≠ (.slice Ao86 x6_1.length co86 : Value).ownBlock ∧ some k_ ≠ (.slice Ao93 x7_1.length co93 : Value).ownBlock) (.slice (some ⟨go66, 0, none⟩) y114.length co66) y126) := ⟨(by rw [hw]; exact (by (with_reducible repeat (first | apply Kd.zR | apply Kd.zS | apply Kd.zU)); exact Kd.zo (Kd.ZR (p := ⟨gb113, 2, none⟩) (Kd.ZM HO116.out BK113.out (by decide)) (fun _ hk => hk.2) (.slice Ao95 t127.length co95)) (fun _ hk => ⟨hk.1.1, ⟨hk.1.2.1, hk.1.2.2⟩⟩)))⟩; have n4_ : zA (Kd.S (Kd.slice 2 (Kd.int .i64)) 22 w97 w.heap.size (fun k_ => some k_ ≠ (.slice Ao79 x5_1.length co79 : Value).ownBlock ∧ some k_ ≠ (.slice Ao86 x6_1.length co86 : Value).ownBlock ∧ some k_ ≠ (.slice Ao93 x7_1.length co93 : Value).ownBlock ∧ some k_ ≠ (.slice (some ⟨go66, 0, none⟩) y114.length co66 : Value).ownBlock ∧ some k_ ≠ (.slice Ao88 t122.length co88 : Value).ownBlock ∧ some k_ ≠ (.slice Ao95 t127.length co95 : Value).ownBlock) (.slice Ao81 t117.length co81) t117) := ⟨(by rw [hw]; exact (by (with_reducible repeat (first | apply Kd.zl | apply Kd.zm | apply Kd.qE)); exact Kd.qx (Kd.Zw (p := ⟨gb113, 2, none⟩) (Kd.Zz HO120.out BK113.out (by decide)) (fun _ hk => hk.2) (.slice Ao95 t127.length co95)) (fun _ hk => ⟨hk.1.1.1.1, ⟨hk.1.1.1.2.1, ⟨hk.1.1.1.2.2.1, ⟨hk.1.1.2, ⟨hk.1.1.1.2.2.2, hk.1.2⟩⟩⟩⟩⟩)))⟩; have n5_ : zA (Kd.S (Kd.slice 2 (Kd.int .i64)) 22 w97 w.heap.size (fun k_ => some k_ ≠ (.slice Ao79 x5_1.length co79 : Value).ownBlock ∧ some k_ ≠ (.slice Ao86 x6_1.length co86 : Value).ownBlock ∧ some k_ ≠ (.slice Ao93 x7_1.length co93 : Value).ownBlock ∧ some k_ ≠ (.slice (some ⟨go66, 0, none⟩) y114.length co66 : Value).ownBlock ∧ some k_ ≠ (.slice Ao81 t117.length co81 : Value).ownBlock ∧ some k_ ≠ (.slice Ao95 t127.length co95 : Value).ownBlock) (.slice Ao88 t122.length co88) t122) := ⟨(by rw [hw]; exact (by (with_reducible repeat (first | apply Kd.zl | apply Kd.zm | apply Kd.qE)); exact Kd.qx (Kd.Zw (p := ⟨gb113, 2, none⟩) (Kd.Zz HO125.out BK113.out (by decide)) (fun _ hk => hk.2) (.slice Ao95 t127.length co95)) (fun _ hk => ⟨hk.1.1.1.1, ⟨hk.1.1.1.2.1, ⟨hk.1.1.1.2.2.1, ⟨hk.1.1.2, ⟨hk.1.1.1.2.2.2, hk.1.2⟩⟩⟩⟩⟩)))⟩; have n6_ : zA (Kd.S (Kd.slice 2 (Kd.int .i64)) 22 w97 w.heap.size (fun k_ => some k_ ≠ (.slice Ao79 x5_1.length co79 : Value).ownBlock ∧ some k_ ≠ (.slice Ao86 x6_1.length co86 : Value).ownBlock ∧ some k_ ≠ (.slice Ao93 x7_1.length co93 : Value).ownBlock ∧ some k_ ≠ (.slice (some ⟨go66, 0, none⟩) y114.length co66 : Value).ownBlock ∧ some k_ ≠ (.slice Ao81 t117.length co81 : Value).ownBlock ∧ some k_ ≠ (.slice Ao88 t122.length co88 : Value).ownBlock) (.slice Ao95 t127.length co95) t127) := ⟨(by rw [hw]; exact (by (with_reducible repeat (first | apply Kd.zl | apply Kd.zm | apply Kd.qE)); exact Kd.qx (Kd.Zw (p := ⟨gb113, 2, none⟩) (Kd.Zz HO130.out BK113.out (by decide)) (fun _ hk => hk.2) (.slice Ao95 t127.length co95)) (fun _ hk => ⟨hk.1.1.1.1.1.1.2, ⟨hk.1.1.1.1.1.2, ⟨hk.1.1.1.1.2, ⟨hk.1.1.1.2, ⟨hk.1.1.2, hk.1.2⟩⟩⟩⟩⟩)))⟩; have n7_ : zA (w97.heap[gb101]? = some (.cells #[.slice A0_0 l0_0.length c0_0] 35 (0, 0))) := ⟨(by rw [hw]; exact (by (with_reducible repeat (first | refine zH ?_ _ | refine zJ ?_ | refine zG ?_ _)); refine qJ ?_ NB101_113.out _; (with_reducible repeat (first | refine zH ?_ _ | refine zJ ?_ | refine zG ?_ _)); exact BK101.out))⟩; have n8_ : zA (w97.heap[gb102]? = some (.cells #[.slice none 0 0, .slice none 0 0, .slice none 0 0] 88 (0, 0))) := ⟨(by rw [hw]; exact (by (with_reducible repeat (first | refine zH ?_ _ | refine zJ ?_ | refine zG ?_ _)); refine qJ ?_ NB102_113.out _; (with_reducible repeat (first | refine zH ?_ _ | refine zJ ?_ | refine zG ?_ _)); exact BK102.out))⟩; have n9_ : zA (w97.heap[gb113]? = some (.cells #[.slice Ao81 t117.length co81, .slice Ao88 t122.length co88, .slice Ao95 t127.length co95] 88 (0, 0))) := ⟨(by rw [hw]; exact (by (with_reducible repeat (first | refine zH ?_ _ | refine zJ ?_ | refine zG ?_ _)); refine qa (cs := #[.slice Ao81 t117.length co81, .slice Ao88 t122.length co88, .slice none 0 0]) ?_ 2 _ rfl; (with_reducible repeat (first | refine zH ?_ _ | refine zJ ?_ | refine zG ?_ _)); exact BK113.out))⟩; have n10_ : zA (Below w.heap.size w w97) := ⟨(by rw [hw]; exact (by repeat (first | (with_reducible first | exact HB.out | apply zC | apply zB | apply zD | refine zF ?_ GE101.out | refine zF ?_ GE102.out | refine zF ?_ GE113.out) | exact HB.out)))⟩; clear hw; clear HO_5; clear HO_6; clear HO_7; clear HO116; clear HO120; clear HO125; clear HO130; clear BK101; clear BK102; clear BK113; clear HB; have HO_5 := n0_; have HO_6 := n1_; have HO_7 := n2_; have HO116 := n3_; have HO120 := n4_; have HO125 := n5_; have HO130 := n6_; have BK101 := n7_; have BK102 := n8_; have BK113 := n9_; have HB := n10_; clear n0_ n1_ n2_ n3_ n4_ n5_ n6_ n7_ n8_ n9_ n10_; have p72 : 0 ≤ (2 : Int) := (by omega); have q72 : (2 : Int) < ((y114.length : Int) : Int) := of_decide_eq_true (by first | (with_reducible assumption) | assumption); have qi72 : (2 < y114.length) = True := eq_true (by omega); obtain ⟨hx72_0, hf72_0⟩ := Kd.Zg 0 HO116.out (2 : Int) p72 q72; (try rw [show ((2 : Int)).toNat = 2 from rfl] at hx72_0); (try simp only [Nat.reduceMul, Nat.zero_mul, Nat.zero_add, Nat.reduceAdd] at hx72_0); (try rw [show ((2 : Int)).toNat = 2 from rfl] at hf72_0); (try simp only [Nat.reduceMul, Nat.zero_mul, Nat.zero_add, Nat.reduceAdd] at hf72_0); replace p72 := eq_true p72; replace q72 := eq_true q72; obtain ⟨hy98_, hz98_⟩ := Kd.Zg 0 HO116.out (2 : Int) (by omega) (of_decide_eq_true (by first | (with_reducible assumption) | assumption)); (try simp only [Int.reduceToNat, Int.toNat_zero, Int.toNat_ofNat, Nat.reduceMul, Nat.zero_mul, Nat.zero_add] at hy98_ hz98_); (try rw [show ((2 : Int)).toNat = 2 from rfl] at hy98_); (try rw [show ((2 : Int)).toNat = 2 from rfl] at hz98_); have HP98 := Kd.Jl HO116.out (2 : Int) t128) | ((with_reducible refine ZS (t := 2) (p := 145) rfl ?_); refine ZB (t := 2) (p := 145) (v := ?vo_w99) (w1 := (w97.setCell ⟨go66, (2 : Int).toNat, none⟩ (.int .i64 t128))) ?hg ?ho ?hn ?hr ?_; (case ho => rfl); (case hg => rfl); (case hn => rfl); (case hr => first | (go_simp; done) | (go_simp; rfl)); intro w99 hw; have hg : w97.grownBy w99 (some go66) := (by rw [hw]; exact HP98.2); have hp_ : Kd.R (Kd.int .i64) 2 w99 w.heap.size (fun k_ => some k_ ≠ (.slice Ao79 x5_1.length co79 : Value).ownBlock ∧ some k_ ≠ (.slice Ao86 x6_1.length co86 : Value).ownBlock ∧ some k_ ≠ (.slice Ao93 x7_1.length co93 : Value).ownBlock) (.slice (some ⟨go66, 0, none⟩) y114.length co66) y131 := (by rw [hw, Ny131.out]; exact HP98.1); clear HP98; have n0_ := zA.mk (Kd.qu (v := (.slice (some ⟨go66, 0, none⟩) y114.length co66)) (v1 := (.slice (some ⟨go66, 0, none⟩) y114.length co66)) (ok := (fun k_ => some k_ ≠ (.slice Ao86 x6_1.length co86 : Value).ownBlock ∧ some k_ ≠ (.slice Ao93 x7_1.length co93 : Value).ownBlock)) (by (with_reducible repeat (first | apply Kd.zR | apply Kd.zS | apply Kd.zU)); exact Kd.zo HO_5.out (fun _ hk => ⟨⟨hk.1, hk.2.1⟩, hk.2.2⟩)) hg (.inl rfl)); have n1_ := zA.mk (Kd.qu (v := (.slice (some ⟨go66, 0, none⟩) y114.length co66)) (v1 := (.slice (some ⟨go66, 0, none⟩) y114.length co66)) (ok := (fun k_ => some k_ ≠ (.slice Ao79 x5_1.length co79 : Value).ownBlock ∧ some k_ ≠ (.slice Ao93 x7_1.length co93 : Value).ownBlock)) (by (with_reducible repeat (first | apply Kd.zR | apply Kd.zS | apply Kd.zU)); exact Kd.zo HO_6.out (fun _ hk => ⟨⟨hk.1, hk.2.1⟩, hk.2.2⟩)) hg (.inl rfl)); have n2_ := zA.mk (Kd.qu (v := (.slice (some ⟨go66, 0, none⟩) y114.length co66)) (v1 := (.slice (some ⟨go66, 0, none⟩) y114.length co66)) (ok := (fun k_ => some k_ ≠ (.slice Ao79 x5_1.length co79 : Value).ownBlock ∧ some k_ ≠ (.slice Ao86 x6_1.length co86 : Value).ownBlock)) (by (with_reducible repeat (first | apply Kd.zR | apply Kd.zS | apply Kd.zU)); exact Kd.zo HO_7.out (fun _ hk => ⟨⟨hk.1, hk.2.1⟩, hk.2.2⟩)) hg (.inl rfl)); have n3_ := zA.mk (qo (g := gb101) (o := .cells #[.slice A0_0 l0_0.length c0_0] 35 (0, 0)) (by (with_reducible repeat (first | refine zH ?_ _ | refine zJ ?_ | refine zG ?_ _)); exact BK101.out) hg (Kd.zBb HO116.out BK101.out (by decide))); have n4_ := zA.mk (qo (g := gb102) (o := .cells #[.slice none 0 0, .slice none 0 0, .slice none 0 0] 88 (0, 0)) (by (with_reducible repeat (first | refine zH ?_ _ | refine zJ ?_ | refine zG ?_ _)); exact BK102.out) hg (Kd.zBb HO116.out BK102.out (by decide))); have n5_ := zA.mk (qo (g := gb113) (o := .cells #[.slice Ao81 t117.length co81, .slice Ao88 t122.length co88, .slice Ao95 t127.length co95] 88 (0, 0)) (by (with_reducible repeat (first | refine zH ?_ _ | refine zJ ?_ | refine zG ?_ _)); exact BK113.out) hg (Kd.zBb HO116.out BK113.out (by decide))); have n6_ := zA.mk (hp_); have n7_ := zA.mk (Kd.Qq (v := (.slice (some ⟨go66, 0, none⟩) y114.length co66)) (v1 := (.slice (some ⟨go66, 0, none⟩) y114.length co66)) (ok := (fun k_ => some k_ ≠ (.slice Ao79 x5_1.length co79 : Value).ownBlock ∧ some k_ ≠ (.slice Ao86 x6_1.length co86 : Value).ownBlock ∧ some k_ ≠ (.slice Ao93 x7_1.length co93 : Value).ownBlock ∧ some k_ ≠ (.slice Ao88 t122.length co88 : Value).ownBlock ∧ some k_ ≠ (.slice Ao95 t127.length co95 : Value).ownBlock)) (by (with_reducible repeat (first | apply Kd.zl | apply Kd.zm | apply Kd.qE)); exact Kd.qx HO120.out (fun _ hk => ⟨⟨hk.1, ⟨hk.2.1, ⟨hk.2.2.1, ⟨hk.2.2.2.2.1, hk.2.2.2.2.2⟩⟩⟩⟩, hk.2.2.2.1⟩)) hg (.inl rfl)); have n8_ := zA.mk (Kd.Qq (v := (.slice (some ⟨go66, 0, none⟩) y114.length co66)) (v1 := (.slice (some ⟨go66, 0, none⟩) y114.length co66)) (ok := (fun k_ => some k_ ≠ (.slice Ao79 x5_1.length co79 : Value).ownBlock ∧ some k_ ≠ (.slice Ao86 x6_1.length co86 : Value).ownBlock ∧ some k_ ≠ (.slice Ao93 x7_1.length co93 : Value).ownBlock ∧ some k_ ≠ (.slice Ao81 t117.length co81 : Value).ownBlock ∧ some k_ ≠ (.slice Ao95 t127.length co95 : Value).ownBlock)) (by (with_reducible repeat (first | apply Kd.zl | apply Kd.zm | apply Kd.qE)); exact Kd.qx HO125.out (fun _ hk => ⟨⟨hk.1, ⟨hk.2.1, ⟨hk.2.2.1, ⟨hk.2.2.2.2.1, hk.2.2.2.2.2⟩⟩⟩⟩, hk.2.2.2.1⟩)) hg (.inl rfl)); have n9_ := zA.mk (Kd.Qq (v := (.slice (some ⟨go66, 0, none⟩) y114.length co66)) (v1 := (.slice (some ⟨go66, 0, none⟩) y114.length co66)) (ok := (fun k_ => some k_ ≠ (.slice Ao79 x5_1.length co79 : Value).ownBlock ∧ some k_ ≠ (.slice Ao86 x6_1.length co86 : Value).ownBlock ∧ some k_ ≠ (.slice Ao93 x7_1.length co93 : Value).ownBlock ∧ some k_ ≠ (.slice Ao81 t117.length co81 : Value).ownBlock ∧ some k_ ≠ (.slice Ao88 t122.length co88 : Value).ownBlock)) (by (with_reducible repeat (first | apply Kd.zl | apply Kd.zm | apply Kd.qE)); exact Kd.qx HO130.out (fun _ hk => ⟨⟨hk.1, ⟨hk.2.1, ⟨hk.2.2.1, ⟨hk.2.2.2.2.1, hk.2.2.2.2.2⟩⟩⟩⟩, hk.2.2.2.1⟩)) hg (.inl rfl)); have n10_ := zA.mk ((by rw [hw]; exact zF (HB.out) GB66.out : Below w.heap.size w w99)); clear HO_5; clear HO_6; clear HO_7; clear BK101; clear BK102; clear BK113; clear HO116; clear HO120; clear HO125; clear HO130; clear HB; have HO_5 := n0_; have HO_6 := n1_; have HO_7 := n2_; have BK101 := n3_; have BK102 := n4_; have BK113 := n5_; have HO116 := n6_; have HO120 := n7_; have HO125 := n8_; have HO130 := n9_; have HB := n10_; clear n0_ n1_ n2_ n3_ n4_ n5_ n6_ n7_ n8_ n9_ n10_; clear hg hw hp_; have hcz100_0 : w99.cell? ⟨gb113, 0, none⟩ = some (.slice Ao81 t117.length co81) := (zL BK113.out 0).trans rfl; have hcz100_1 : w99.cell? ⟨gb113, 1, none⟩ = some (.slice Ao88 t122.length co88) := (zL BK113.out 1).trans rfl; have hcz100_2 : w99.cell? ⟨gb113, 2, none⟩ = some (.slice Ao95 t127.length co95) := (zL BK113.out 2).trans rfl; have hfz100_0 := zM BK113.out 0; have hfz100_1 := zM BK113.out 1; have hfz100_2 := zM BK113.out 2; have hnb101 := NB102_101.out; have hnc101 := NB101_102.out; have hcz102_0 : w99.cell? ⟨gb102, 0, none⟩ = some (.slice none 0 0) := (zL BK102.out 0).trans rfl; have hcz102_1 : w99.cell? ⟨gb102, 1, none⟩ = some (.slice none 0 0) := (zL BK102.out 1).trans rfl; have hcz102_2 : w99.cell? ⟨gb102, 2, none⟩ = some (.slice none 0 0) := (zL BK102.out 2).trans rfl; have hfz102_0 := zM BK102.out 0; have hfz102_1 := zM BK102.out 1; have hfz102_2 := zM BK102.out 2))
    refine bodyPost_ret (zDV rfl _ _ gb102 88 #[.slice Ao81 t117.length co81, .slice Ao88 t122.length co88, .slice Ao95 t127.length co95] (0, 0) _ rfl (by (with_reducible repeat (first | refine zH ?_ _ | refine zJ ?_ | refine zG ?_ _)); refine qa (cs := #[.slice Ao81 t117.length co81, .slice Ao88 t122.length co88, .slice none 0 0]) ?_ 2 _ rfl; (with_reducible repeat (first | refine zH ?_ _ | refine zJ ?_ | refine zG ?_ _)); refine qa (cs := #[.slice Ao81 t117.length co81, .slice none 0 0, .slice none 0 0]) ?_ 1 _ rfl; (with_reducible repeat (first | refine zH ?_ _ | refine zJ ?_ | refine zG ?_ _)); refine qa (cs := #[.slice none 0 0, .slice none 0 0, .slice none 0 0]) ?_ 0 _ rfl; (with_reducible repeat (first | refine zH ?_ _ | refine zJ ?_ | refine zG ?_ _)); exact BK102.out) Try.underlying88 rfl (by kernel_rfl)) rfl ?_
    exact ⟨_, _, _, _, by first | rfl | (simp [zZ, za] <;> rfl) | (simp [*, zZ, za] <;> rfl), by (with_reducible repeat (first | apply Kd.zl | apply Kd.zm | apply Kd.qE)); exact Kd.qx (Kd.Zw (p := ⟨gb102, 2, none⟩) (Kd.Zw (p := ⟨gb102, 1, none⟩) (Kd.Zw (p := ⟨gb102, 0, none⟩) (Kd.Zz HO120.out BK102.out (by decide)) (fun _ hk => hk.2) (.slice Ao81 t117.length co81)) (fun _ hk => hk.2) (.slice Ao88 t122.length co88)) (fun _ hk => hk.2) (.slice Ao95 t127.length co95)) (fun _ hk => ⟨hk.1.1.2.2.2.1, ⟨hk.1.1.2.2.2.2, hk.1.2⟩⟩), by (with_reducible repeat (first | apply Kd.zl | apply Kd.zm | apply Kd.qE)); exact Kd.qx (Kd.Zw (p := ⟨gb102, 2, none⟩) (Kd.Zw (p := ⟨gb102, 1, none⟩) (Kd.Zw (p := ⟨gb102, 0, none⟩) (Kd.Zz HO125.out BK102.out (by decide)) (fun _ hk => hk.2) (.slice Ao81 t117.length co81)) (fun _ hk => hk.2) (.slice Ao88 t122.length co88)) (fun _ hk => hk.2) (.slice Ao95 t127.length co95)) (fun _ hk => ⟨hk.1.1.2.2.2.1, ⟨hk.1.1.2.2.2.2, hk.1.2⟩⟩), by (with_reducible repeat (first | apply Kd.zl | apply Kd.zm | apply Kd.qE)); exact Kd.qx (Kd.Zw (p := ⟨gb102, 2, none⟩) (Kd.Zw (p := ⟨gb102, 1, none⟩) (Kd.Zw (p := ⟨gb102, 0, none⟩) (Kd.Zz HO130.out BK102.out (by decide)) (fun _ hk => hk.2) (.slice Ao81 t117.length co81)) (fun _ hk => hk.2) (.slice Ao88 t122.length co88)) (fun _ hk => hk.2) (.slice Ao95 t127.length co95)) (fun _ hk => ⟨hk.1.1.2.2.2.1, ⟨hk.1.1.2.2.2.2, hk.1.2⟩⟩), by (with_reducible repeat (first | apply Kd.zR | apply Kd.zS | apply Kd.zU)); exact Kd.zo (Kd.ZR (p := ⟨gb102, 2, none⟩) (Kd.ZR (p := ⟨gb102, 1, none⟩) (Kd.ZR (p := ⟨gb102, 0, none⟩) (Kd.ZM HO116.out BK102.out (by decide)) (fun _ hk => hk.2) (.slice Ao81 t117.length co81)) (fun _ hk => hk.2) (.slice Ao88 t122.length co88)) (fun _ hk => hk.2) (.slice Ao95 t127.length co95)) (fun _ hk => trivial), by repeat (first | (with_reducible first | exact HB.out | apply zC | apply zB | apply zD | refine zF ?_ GE101.out | refine zF ?_ GE102.out | refine zF ?_ GE113.out) | exact HB.out)⟩
   rw [if_pos c14] at H
   have c14b0 : decide (x8_1 < t103) = true := ygy c14
   clear c14
   have H' := zA.mk H
   clear H
   go_wp2
   go_loopg [9] k1 (fun kq v9 w' => ∃ (x5_2 : List Int) (x6_2 : List Int) (x7_2 : List Int) (x9_2 : Int), v9 = .int .i64 x9_2 ∧ zA (zQ.l1 kq t103 x5_2 x6_2 x7_2 x8_1 x9_2 l0_0 = some (r1, r2, r3, r4)) ∧ zA (kq ≤ k1) ∧ zA (Kd.R (Kd.int .i64) 2 w' w.heap.size (fun k_ => some k_ ≠ (v108 : Value).ownBlock ∧ some k_ ≠ (v111 : Value).ownBlock) v105 x5_2) ∧ zA (Kd.R (Kd.int .i64) 2 w' w.heap.size (fun k_ => some k_ ≠ (v105 : Value).ownBlock ∧ some k_ ≠ (v111 : Value).ownBlock) v108 x6_2) ∧ zA (Kd.R (Kd.int .i64) 2 w' w.heap.size (fun k_ => some k_ ≠ (v105 : Value).ownBlock ∧ some k_ ≠ (v108 : Value).ownBlock) v111 x7_2) ∧ zA (w'.heap[gb101]? = some (.cells #[(.slice A0_0 l0_0.length c0_0)] 35 (0, 0))) ∧ zA (w'.heap[gb102]? = some (.cells #[(.slice none 0 0), (.slice none 0 0), (.slice none 0 0)] 88 (0, 0))) ∧ zA (Below w.heap.size w w'))
   case atStart => exact ⟨(x5_1), (x6_1), (x7_1), (0), (by first | rfl | (simp; done) | (simp [*]; done)), H', ⟨yqy _⟩, ⟨by (with_reducible repeat (first | apply Kd.zR | apply Kd.zS | apply Kd.zU)); exact HO_5.out⟩, ⟨by (with_reducible repeat (first | apply Kd.zR | apply Kd.zS | apply Kd.zU)); exact HO_6.out⟩, ⟨by (with_reducible repeat (first | apply Kd.zR | apply Kd.zS | apply Kd.zU)); exact HO_7.out⟩, ⟨by (with_reducible repeat (first | refine zH ?_ _ | refine zJ ?_ | refine zG ?_ _)); exact BK101.out⟩, ⟨by (with_reducible repeat (first | refine zH ?_ _ | refine zJ ?_ | refine zG ?_ _)); exact BK102.out⟩, ⟨by repeat (first | (with_reducible first | exact HB.out | apply zC | apply zB | apply zD | refine zF ?_ GE101.out | refine zF ?_ GE102.out) | exact HB.out)⟩⟩
   case round =>
    clear H'
    try clear c1
    try clear p2
    try clear c6
    try clear p6
    try clear c8
    try clear c9
    try clear c14
    try clear c14b0
    try clear hcz9_0
    try clear hfz9_0
    try clear p2
    try clear p6
    obtain ⟨x5_2, x6_2, x7_2, x9_2, rfl, HA, HK2, HO_5, HO_6, HO_7, BK101, BK102, HB⟩ := hrel
    cases gk with
    | zero => exact absurd HA.out (by simp [zQ.l1])
    | succ k2 =>
     have H := HA.out
     clear HA
     simp only [zQ.l1] at H
     by_cases c15 : x9_2 < 4
     rotate_left
     next =>
      rw [if_neg c15] at H
      have c15b0 : decide (x9_2 < 4) = false := yhy c15
      clear c15
      have H' := zA.mk H
      clear H
      go_wp2
      go_roundg k2
      case measure => have := HK1.out; have := HK2.out; omega
      case rel => exact ⟨(x5_2), (x6_2), (x7_2), (wrap64 (x8_1 + 1)), (by first | rfl | (simp; done) | (simp [*]; done)), H', ⟨by have := HK1.out; have := HK2.out; omega⟩, ⟨by (with_reducible repeat (first | apply Kd.zR | apply Kd.zS | apply Kd.zU)); exact HO_5.out⟩, ⟨by (with_reducible repeat (first | apply Kd.zR | apply Kd.zS | apply Kd.zU)); exact HO_6.out⟩, ⟨by (with_reducible repeat (first | apply Kd.zR | apply Kd.zS | apply Kd.zU)); exact HO_7.out⟩, ⟨by (with_reducible repeat (first | refine zH ?_ _ | refine zJ ?_ | refine zG ?_ _)); exact BK101.out⟩, ⟨by (with_reducible repeat (first | refine zH ?_ _ | refine zJ ?_ | refine zG ?_ _)); exact BK102.out⟩, ⟨by repeat (first | (with_reducible first | exact HB.out | apply zC | apply zB | apply zD | refine zF ?_ GE101.out | refine zF ?_ GE102.out) | exact HB.out)⟩⟩
     rw [if_pos c15] at H
     have c15b0 : decide (x9_2 < 4) = true := ygy c15
     clear c15
     by_cases c16 : 0 ≤ x8_1
     rotate_left
     next =>
      rw [if_neg c16] at H
      exact absurd H (by simp)
     rw [if_pos c16] at H
     have c16b0 : decide (0 ≤ x8_1) = true := ygy c16
     clear c16
     by_cases c17 : x8_1 < (l0_0.length : Int)
     rotate_left
     next =>
      rw [if_neg c17] at H
      exact absurd H (by simp)
     rw [if_pos c17] at H
     have c17b0 : decide (x8_1 < (l0_0.length : Int)) = true := ygy c17
     clear c17
     by_cases c18 : 0 ≤ x9_2
     rotate_left
     next =>
      rw [if_neg c18] at H
      exact absurd H (by simp)
     rw [if_pos c18] at H
     have c18b0 : decide (0 ≤ x9_2) = true := ygy c18
     clear c18
     by_cases c19 : x9_2 < ((zE l0_0 x8_1).length : Int)
     rotate_left
     next =>
      rw [if_neg c19] at H
      exact absurd H (by simp)
     rw [if_pos c19] at H
     have c19b0 : decide (x9_2 < ((zE l0_0 x8_1).length : Int)) = true := ygy c19
     clear c19
     by_cases c20 : ((zI (zE l0_0 x8_1) x9_2).f0) < 0
     next =>
      rw [if_pos c20] at H
      have c20b0 : decide (((zI (zE l0_0 x8_1) x9_2).f0) < 0) = true := ygy c20
      clear c20
      have H' := zA.mk H
      clear H
      have hnb21 := NB101_102.out
      have hnc21 := NB102_101.out
      have hcz22_0 : wr.cell? ⟨gb101, 0, none⟩ = some (.slice A0_0 l0_0.length c0_0) := (zL BK101.out 0).trans rfl
      have hfz22_0 := zM BK101.out 0
      have p132 : 0 ≤ (x8_1 : Int) := of_decide_eq_true (by first | (with_reducible assumption) | assumption)
      have q132 : x8_1 < (l0_0.length : Int) := of_decide_eq_true (by first | (with_reducible assumption) | assumption)
      obtain ⟨ad132, A132_0, c132_0, e132, hx132_0, hl132_0, hi132_0⟩ := ZW HR0_0.out x8_1 p132 q132
      cases e132
      replace hx132_0 := (HB.out.cell (ypy w _ hx132_0)).trans hx132_0
      have HR132_0 := zA.mk hi132_0
      have HC132_0 := zA.mk hl132_0
      clear hi132_0 hl132_0
      replace p132 := eq_true p132
      replace q132 := eq_true q132
      have p133 : 0 ≤ (x9_2 : Int) := of_decide_eq_true (by first | (with_reducible assumption) | assumption)
      have q133 : x9_2 < ((zE l0_0 x8_1).length : Int) := of_decide_eq_true (by first | (with_reducible assumption) | assumption)
      obtain ⟨ad133, e133, hx133_0, hx133_1⟩ := QA HR132_0.out x9_2 p133 q133
      cases e133
      replace hx133_0 := (HB.out.cell (ypy w _ hx133_0)).trans hx133_0
      replace hx133_1 := (HB.out.cell (ypy w _ hx133_1)).trans hx133_1
      replace p133 := eq_true p133
      replace q133 := eq_true q133
      go_wp2_with (first | ((with_reducible refine zq (N := 10) rfl ?_); refine zv ?hg (N := 10) ?hd (cs := #[.int .i64 0, .int .i64 0]) (t := 75) ?hr ?_; (case hd => rfl); (case hg => rfl); (case hr => first | (go_simp; done) | (go_simp; rfl)); intro gb134 hg w23 hbox hb; have n0_ := zA.mk (Kd.qP (by (with_reducible repeat (first | apply Kd.zR | apply Kd.zS | apply Kd.zU)); exact HO_5.out) hb); have n1_ := zA.mk (Kd.qP (by (with_reducible repeat (first | apply Kd.zR | apply Kd.zS | apply Kd.zU)); exact HO_6.out) hb); have n2_ := zA.mk (Kd.qP (by (with_reducible repeat (first | apply Kd.zR | apply Kd.zS | apply Kd.zU)); exact HO_7.out) hb); have n3_ := zA.mk (zP (g := gb101) (o := .cells #[.slice (some ad132) l0_0.length c0_0] 35 (0, 0)) (by (with_reducible repeat (first | refine zH ?_ _ | refine zJ ?_ | refine zG ?_ _)); exact BK101.out) hb); have n4_ := zA.mk (zP (g := gb102) (o := .cells #[.slice none 0 0, .slice none 0 0, .slice none 0 0] 88 (0, 0)) (by (with_reducible repeat (first | refine zH ?_ _ | refine zJ ?_ | refine zG ?_ _)); exact BK102.out) hb); have n5_ := zA.mk (zN (by repeat (first | (with_reducible first | exact HB.out | apply zC | apply zB | apply zD | refine zF ?_ GE101.out | refine zF ?_ GE102.out) | exact HB.out)) hb); have n6_ := zA.mk (hbox); have n7_ := zA.mk ((by rw [hg]; exact (zO (by repeat (first | (with_reducible first | exact HB.out | apply zC | apply zB | apply zD | refine zF ?_ GE101.out | refine zF ?_ GE102.out) | exact HB.out))) : w.heap.size ≤ gb134)); have n8_ := zA.mk ((by rw [hg]; exact (zO (by repeat (first | (with_reducible first | exact HB.out | apply zC | apply zB | apply zD | refine zF ?_ GE101.out | refine zF ?_ GE102.out) | exact HB.out))) : w.heap.size ≤ gb134)); have n9_ := zA.mk ((by rw [hg]; exact Nat.ne_of_lt (qT (g := gb101) (o := .cells #[.slice (some ad132) l0_0.length c0_0] 35 (0, 0)) (by (with_reducible repeat (first | refine zH ?_ _ | refine zJ ?_ | refine zG ?_ _)); exact BK101.out)) : gb101 ≠ gb134)); have n10_ := zA.mk ((by rw [hg]; exact Nat.ne_of_gt (qT (g := gb101) (o := .cells #[.slice (some ad132) l0_0.length c0_0] 35 (0, 0)) (by (with_reducible repeat (first | refine zH ?_ _ | refine zJ ?_ | refine zG ?_ _)); exact BK101.out)) : gb134 ≠ gb101)); have n11_ := zA.mk ((by rw [hg]; exact Nat.ne_of_lt (qT (g := gb102) (o := .cells #[.slice none 0 0, .slice none 0 0, .slice none 0 0] 88 (0, 0)) (by (with_reducible repeat (first | refine zH ?_ _ | refine zJ ?_ | refine zG ?_ _)); exact BK102.out)) : gb102 ≠ gb134)); have n12_ := zA.mk ((by rw [hg]; exact Nat.ne_of_gt (qT (g := gb102) (o := .cells #[.slice none 0 0, .slice none 0 0, .slice none 0 0] 88 (0, 0)) (by (with_reducible repeat (first | refine zH ?_ _ | refine zJ ?_ | refine zG ?_ _)); exact BK102.out)) : gb134 ≠ gb102)); clear HO_5; clear HO_6; clear HO_7; clear BK101; clear BK102; clear HB; have HO_5 := n0_; have HO_6 := n1_; have HO_7 := n2_; have BK101 := n3_; have BK102 := n4_; have HB := n5_; have BK134 := n6_; have GW134 := n7_; have GE134 := n8_; have NB101_134 := n9_; have NB134_101 := n10_; have NB102_134 := n11_; have NB134_102 := n12_; clear n0_ n1_ n2_ n3_ n4_ n5_ n6_ n7_ n8_ n9_ n10_ n11_ n12_; clear hb hbox hg; have hnb24 := NB134_101.out; have hnc24 := NB101_134.out; have hnb25 := NB134_102.out; have hnc25 := NB102_134.out; have hcz26_0 : w23.cell? ⟨gb134, 0, none⟩ = some (.int .i64 0) := (zL BK134.out 0).trans rfl; have hcz26_1 : w23.cell? ⟨gb134, 1, none⟩ = some (.int .i64 0) := (zL BK134.out 1).trans rfl; have hfz26_0 := zM BK134.out 0; have hfz26_1 := zM BK134.out 1))
      go_roundg k2
      case measure => have := HK1.out; have := HK2.out; omega
      case rel => exact ⟨(x5_2), (x6_2), (x7_2), (wrap64 (x9_2 + 1)), (by first | rfl | (simp; done) | (simp [*]; done)), H', ⟨by have := HK1.out; have := HK2.out; omega⟩, ⟨by (with_reducible repeat (first | apply Kd.zR | apply Kd.zS | apply Kd.zU)); exact Kd.zo (Kd.ZR (p := ⟨gb134, 1, none⟩) (Kd.ZR (p := ⟨gb134, 0, none⟩) (Kd.ZM HO_5.out BK134.out (by decide)) (fun _ hk => hk.2) (.int .i64 ((zI (zE l0_0 x8_1) x9_2).f0))) (fun _ hk => hk.2) (.int .i64 ((zI (zE l0_0 x8_1) x9_2).f1))) (fun _ hk => ⟨hk.1.1, hk.1.2⟩)⟩, ⟨by (with_reducible repeat (first | apply Kd.zR | apply Kd.zS | apply Kd.zU)); exact Kd.zo (Kd.ZR (p := ⟨gb134, 1, none⟩) (Kd.ZR (p := ⟨gb134, 0, none⟩) (Kd.ZM HO_6.out BK134.out (by decide)) (fun _ hk => hk.2) (.int .i64 ((zI (zE l0_0 x8_1) x9_2).f0))) (fun _ hk => hk.2) (.int .i64 ((zI (zE l0_0 x8_1) x9_2).f1))) (fun _ hk => ⟨hk.1.1, hk.1.2⟩)⟩, ⟨by (with_reducible repeat (first | apply Kd.zR | apply Kd.zS | apply Kd.zU)); exact Kd.zo (Kd.ZR (p := ⟨gb134, 1, none⟩) (Kd.ZR (p := ⟨gb134, 0, none⟩) (Kd.ZM HO_7.out BK134.out (by decide)) (fun _ hk => hk.2) (.int .i64 ((zI (zE l0_0 x8_1) x9_2).f0))) (fun _ hk => hk.2) (.int .i64 ((zI (zE l0_0 x8_1) x9_2).f1))) (fun _ hk => ⟨hk.1.1, hk.1.2⟩)⟩, ⟨by (with_reducible repeat (first | refine zH ?_ _ | refine zJ ?_ | refine zG ?_ _)); refine qJ ?_ NB101_134.out _; (with_reducible repeat (first | refine zH ?_ _ | refine zJ ?_ | refine zG ?_ _)); refine qJ ?_ NB101_134.out _; (with_reducible repeat (first | refine zH ?_ _ | refine zJ ?_ | refine zG ?_ _)); exact BK101.out⟩, ⟨by (with_reducible repeat (first | refine zH ?_ _ | refine zJ ?_ | refine zG ?_ _)); refine qJ ?_ NB102_134.out _; (with_reducible repeat (first | refine zH ?_ _ | refine zJ ?_ | refine zG ?_ _)); refine qJ ?_ NB102_134.out _; (with_reducible repeat (first | refine zH ?_ _ | refine zJ ?_ | refine zG ?_ _)); exact BK102.out⟩, ⟨by repeat (first | (with_reducible first | exact HB.out | apply zC | apply zB | apply zD | refine zF ?_ GE101.out | refine zF ?_ GE102.out | refine zF ?_ GE134.out) | exact HB.out)⟩⟩
     next =>
      rw [if_neg c20] at H
      have c20b0 : decide (((zI (zE l0_0 x8_1) x9_2).f0) < 0) = false := yhy c20
      clear c20
      replace H := ydy.mp H
      obtain ⟨t135, A270, H⟩ := H
      replace H : ((qn.f x7_2 (wrap64 ((wrap64 (4 * x8_1)) + x9_2)) (wrap64 ((wrap64 (4 * ((zI (zE l0_0 x8_1) x9_2).f0))) + t135))).bind fun t136 => (zQ.l2 k2 t103 x5_2 x6_2 t136 x8_1 x9_2 0 l0_0 ((zI (zE l0_0 x8_1) x9_2).f0) ((zI (zE l0_0 x8_1) x9_2).f1))) = some (r1, r2, r3, r4) := H
      have A27 := zA.mk A270
      clear A270
      replace H := ydy.mp H
      obtain ⟨t136, A280, H⟩ := H
      replace H : (zQ.l2 k2 t103 x5_2 x6_2 t136 x8_1 x9_2 0 l0_0 ((zI (zE l0_0 x8_1) x9_2).f0) ((zI (zE l0_0 x8_1) x9_2).f1)) = some (r1, r2, r3, r4) := H
      have A28 := zA.mk A280
      clear A280
      have H' := zA.mk H
      clear H
      have hnb29 := NB101_102.out
      have hnc29 := NB102_101.out
      have hcz30_0 : wr.cell? ⟨gb101, 0, none⟩ = some (.slice A0_0 l0_0.length c0_0) := (zL BK101.out 0).trans rfl
      have hfz30_0 := zM BK101.out 0
      have p132 : 0 ≤ (x8_1 : Int) := of_decide_eq_true (by first | (with_reducible assumption) | assumption)
      have q132 : x8_1 < (l0_0.length : Int) := of_decide_eq_true (by first | (with_reducible assumption) | assumption)
      obtain ⟨ad132, A132_0, c132_0, e132, hx132_0, hl132_0, hi132_0⟩ := ZW HR0_0.out x8_1 p132 q132
      cases e132
      replace hx132_0 := (HB.out.cell (ypy w _ hx132_0)).trans hx132_0
      have HR132_0 := zA.mk hi132_0
      have HC132_0 := zA.mk hl132_0
      clear hi132_0 hl132_0
      replace p132 := eq_true p132
      replace q132 := eq_true q132
      have p133 : 0 ≤ (x9_2 : Int) := of_decide_eq_true (by first | (with_reducible assumption) | assumption)
      have q133 : x9_2 < ((zE l0_0 x8_1).length : Int) := of_decide_eq_true (by first | (with_reducible assumption) | assumption)
      obtain ⟨ad133, e133, hx133_0, hx133_1⟩ := QA HR132_0.out x9_2 p133 q133
      cases e133
      replace hx133_0 := (HB.out.cell (ypy w _ hx133_0)).trans hx133_0
      replace hx133_1 := (HB.out.cell (ypy w _ hx133_1)).trans hx133_1
      replace p133 := eq_true p133
      replace q133 := eq_true q133
      try go_wp2_with (first | ((with_reducible refine zq (N := 10) rfl ?_); refine zv ?hg (N := 10) ?hd (cs := #[.int .i64 0, .int .i64 0]) (t := 75) ?hr ?_; (case hd => rfl); (case hg => rfl); (case hr => first | (go_simp; done) | (go_simp; rfl)); intro gb134 hg w31 hbox hb; have n0_ := zA.mk (Kd.qP (by (with_reducible repeat (first | apply Kd.zR | apply Kd.zS | apply Kd.zU)); exact HO_5.out) hb); have n1_ := zA.mk (Kd.qP (by (with_reducible repeat (first | apply Kd.zR | apply Kd.zS | apply Kd.zU)); exact HO_6.out) hb); have n2_ := zA.mk (Kd.qP (by (with_reducible repeat (first | apply Kd.zR | apply Kd.zS | apply Kd.zU)); exact HO_7.out) hb); have n3_ := zA.mk (zP (g := gb101) (o := .cells #[.slice (some ad132) l0_0.length c0_0] 35 (0, 0)) (by (with_reducible repeat (first | refine zH ?_ _ | refine zJ ?_ | refine zG ?_ _)); exact BK101.out) hb); have n4_ := zA.mk (zP (g := gb102) (o := .cells #[.slice none 0 0, .slice none 0 0, .slice none 0 0] 88 (0, 0)) (by (with_reducible repeat (first | refine zH ?_ _ | refine zJ ?_ | refine zG ?_ _)); exact BK102.out) hb); have n5_ := zA.mk (zN (by repeat (first | (with_reducible first | exact HB.out | apply zC | apply zB | apply zD | refine zF ?_ GE101.out | refine zF ?_ GE102.out) | exact HB.out)) hb); have n6_ := zA.mk (hbox); have n7_ := zA.mk ((by rw [hg]; exact (zO (by repeat (first | (with_reducible first | exact HB.out | apply zC | apply zB | apply zD | refine zF ?_ GE101.out | refine zF ?_ GE102.out) | exact HB.out))) : w.heap.size ≤ gb134)); have n8_ := zA.mk ((by rw [hg]; exact (zO (by repeat (first | (with_reducible first | exact HB.out | apply zC | apply zB | apply zD | refine zF ?_ GE101.out | refine zF ?_ GE102.out) | exact HB.out))) : w.heap.size ≤ gb134)); have n9_ := zA.mk ((by rw [hg]; exact Nat.ne_of_lt (qT (g := gb101) (o := .cells #[.slice (some ad132) l0_0.length c0_0] 35 (0, 0)) (by (with_reducible repeat (first | refine zH ?_ _ | refine zJ ?_ | refine zG ?_ _)); exact BK101.out)) : gb101 ≠ gb134)); have n10_ := zA.mk ((by rw [hg]; exact Nat.ne_of_gt (qT (g := gb101) (o := .cells #[.slice (some ad132) l0_0.length c0_0] 35 (0, 0)) (by (with_reducible repeat (first | refine zH ?_ _ | refine zJ ?_ | refine zG ?_ _)); exact BK101.out)) : gb134 ≠ gb101)); have n11_ := zA.mk ((by rw [hg]; exact Nat.ne_of_lt (qT (g := gb102) (o := .cells #[.slice none 0 0, .slice none 0 0, .slice none 0 0] 88 (0, 0)) (by (with_reducible repeat (first | refine zH ?_ _ | refine zJ ?_ | refine zG ?_ _)); exact BK102.out)) : gb102 ≠ gb134)); have n12_ := zA.mk ((by rw [hg]; exact Nat.ne_of_gt (qT (g := gb102) (o := .cells #[.slice none 0 0, .slice none 0 0, .slice none 0 0] 88 (0, 0)) (by (with_reducible repeat (first | refine zH ?_ _ | refine zJ ?_ | refine zG ?_ _)); exact BK102.out)) : gb134 ≠ gb102)); clear HO_5; clear HO_6; clear HO_7; clear BK101; clear BK102; clear HB; have HO_5 := n0_; have HO_6 := n1_; have HO_7 := n2_; have BK101 := n3_; have BK102 := n4_; have HB := n5_; have BK134 := n6_; have GW134 := n7_; have GE134 := n8_; have NB101_134 := n9_; have NB134_101 := n10_; have NB102_134 := n11_; have NB134_102 := n12_; clear n0_ n1_ n2_ n3_ n4_ n5_ n6_ n7_ n8_ n9_ n10_ n11_ n12_; clear hb hbox hg; have hnb32 := NB134_101.out; have hnc32 := NB101_134.out; have hnb33 := NB134_102.out; have hnc33 := NB102_134.out; have hcz34_0 : w31.cell? ⟨gb134, 0, none⟩ = some (.int .i64 0) := (zL BK134.out 0).trans rfl; have hcz34_1 : w31.cell? ⟨gb134, 1, none⟩ = some (.int .i64 0) := (zL BK134.out 1).trans rfl; have hfz34_0 := zM BK134.out 0; have hfz34_1 := zM BK134.out 1))
      have n0_ : zA (Kd.R (Kd.int .i64) 2 ((w31.setCell ⟨gb134, 0, none⟩ (.int .i64 ((zI (zE l0_0 x8_1) x9_2).f0))).setCell ⟨gb134, 1, none⟩ (.int .i64 ((zI (zE l0_0 x8_1) x9_2).f1))) w.heap.size (fun k_ => some k_ ≠ (v108 : Value).ownBlock ∧ some k_ ≠ (v111 : Value).ownBlock) v105 x5_2) := ⟨by (with_reducible repeat (first | apply Kd.zR | apply Kd.zS | apply Kd.zU)); exact Kd.zo (Kd.ZR (p := ⟨gb134, 1, none⟩) (Kd.ZR (p := ⟨gb134, 0, none⟩) (Kd.ZM HO_5.out BK134.out (by decide)) (fun _ hk => hk.2) (.int .i64 ((zI (zE l0_0 x8_1) x9_2).f0))) (fun _ hk => hk.2) (.int .i64 ((zI (zE l0_0 x8_1) x9_2).f1))) (fun _ hk => ⟨hk.1.1, hk.1.2⟩)⟩
      have n1_ : zA (Kd.R (Kd.int .i64) 2 ((w31.setCell ⟨gb134, 0, none⟩ (.int .i64 ((zI (zE l0_0 x8_1) x9_2).f0))).setCell ⟨gb134, 1, none⟩ (.int .i64 ((zI (zE l0_0 x8_1) x9_2).f1))) w.heap.size (fun k_ => some k_ ≠ (v105 : Value).ownBlock ∧ some k_ ≠ (v111 : Value).ownBlock) v108 x6_2) := ⟨by (with_reducible repeat (first | apply Kd.zR | apply Kd.zS | apply Kd.zU)); exact Kd.zo (Kd.ZR (p := ⟨gb134, 1, none⟩) (Kd.ZR (p := ⟨gb134, 0, none⟩) (Kd.ZM HO_6.out BK134.out (by decide)) (fun _ hk => hk.2) (.int .i64 ((zI (zE l0_0 x8_1) x9_2).f0))) (fun _ hk => hk.2) (.int .i64 ((zI (zE l0_0 x8_1) x9_2).f1))) (fun _ hk => ⟨hk.1.1, hk.1.2⟩)⟩
      have n2_ : zA (Kd.R (Kd.int .i64) 2 ((w31.setCell ⟨gb134, 0, none⟩ (.int .i64 ((zI (zE l0_0 x8_1) x9_2).f0))).setCell ⟨gb134, 1, none⟩ (.int .i64 ((zI (zE l0_0 x8_1) x9_2).f1))) w.heap.size (fun k_ => some k_ ≠ (v105 : Value).ownBlock ∧ some k_ ≠ (v108 : Value).ownBlock) v111 x7_2) := ⟨by (with_reducible repeat (first | apply Kd.zR | apply Kd.zS | apply Kd.zU)); exact Kd.zo (Kd.ZR (p := ⟨gb134, 1, none⟩) (Kd.ZR (p := ⟨gb134, 0, none⟩) (Kd.ZM HO_7.out BK134.out (by decide)) (fun _ hk => hk.2) (.int .i64 ((zI (zE l0_0 x8_1) x9_2).f0))) (fun _ hk => hk.2) (.int .i64 ((zI (zE l0_0 x8_1) x9_2).f1))) (fun _ hk => ⟨hk.1.1, hk.1.2⟩)⟩
      have n3_ : zA (((w31.setCell ⟨gb134, 0, none⟩ (.int .i64 ((zI (zE l0_0 x8_1) x9_2).f0))).setCell ⟨gb134, 1, none⟩ (.int .i64 ((zI (zE l0_0 x8_1) x9_2).f1))).heap[gb101]? = some (.cells #[.slice (some ad132) l0_0.length c0_0] 35 (0, 0))) := ⟨by (with_reducible repeat (first | refine zH ?_ _ | refine zJ ?_ | refine zG ?_ _)); refine qJ ?_ NB101_134.out _; (with_reducible repeat (first | refine zH ?_ _ | refine zJ ?_ | refine zG ?_ _)); refine qJ ?_ NB101_134.out _; (with_reducible repeat (first | refine zH ?_ _ | refine zJ ?_ | refine zG ?_ _)); exact BK101.out⟩
      have n4_ : zA (((w31.setCell ⟨gb134, 0, none⟩ (.int .i64 ((zI (zE l0_0 x8_1) x9_2).f0))).setCell ⟨gb134, 1, none⟩ (.int .i64 ((zI (zE l0_0 x8_1) x9_2).f1))).heap[gb102]? = some (.cells #[.slice none 0 0, .slice none 0 0, .slice none 0 0] 88 (0, 0))) := ⟨by (with_reducible repeat (first | refine zH ?_ _ | refine zJ ?_ | refine zG ?_ _)); refine qJ ?_ NB102_134.out _; (with_reducible repeat (first | refine zH ?_ _ | refine zJ ?_ | refine zG ?_ _)); refine qJ ?_ NB102_134.out _; (with_reducible repeat (first | refine zH ?_ _ | refine zJ ?_ | refine zG ?_ _)); exact BK102.out⟩
      have n5_ : zA (((w31.setCell ⟨gb134, 0, none⟩ (.int .i64 ((zI (zE l0_0 x8_1) x9_2).f0))).setCell ⟨gb134, 1, none⟩ (.int .i64 ((zI (zE l0_0 x8_1) x9_2).f1))).heap[gb134]? = some (.cells #[.int .i64 ((zI (zE l0_0 x8_1) x9_2).f0), .int .i64 ((zI (zE l0_0 x8_1) x9_2).f1)] 75 (0, 0))) := ⟨by (with_reducible repeat (first | refine zH ?_ _ | refine zJ ?_ | refine zG ?_ _)); refine qa (cs := #[.int .i64 ((zI (zE l0_0 x8_1) x9_2).f0), .int .i64 0]) ?_ 1 _ rfl; (with_reducible repeat (first | refine zH ?_ _ | refine zJ ?_ | refine zG ?_ _)); refine qa (cs := #[.int .i64 0, .int .i64 0]) ?_ 0 _ rfl; (with_reducible repeat (first | refine zH ?_ _ | refine zJ ?_ | refine zG ?_ _)); exact BK134.out⟩
      have n6_ : zA (Below w.heap.size w ((w31.setCell ⟨gb134, 0, none⟩ (.int .i64 ((zI (zE l0_0 x8_1) x9_2).f0))).setCell ⟨gb134, 1, none⟩ (.int .i64 ((zI (zE l0_0 x8_1) x9_2).f1)))) := ⟨by repeat (first | (with_reducible first | exact HB.out | apply zC | apply zB | apply zD | refine zF ?_ GE101.out | refine zF ?_ GE102.out | refine zF ?_ GE134.out) | exact HB.out)⟩
      (try clear HO_5)
      (try clear HO_6)
      (try clear HO_7)
      (try clear BK101)
      (try clear BK102)
      (try clear BK134)
      (try clear HB)
      generalize ((w31.setCell ⟨gb134, 0, none⟩ (.int .i64 ((zI (zE l0_0 x8_1) x9_2).f0))).setCell ⟨gb134, 1, none⟩ (.int .i64 ((zI (zE l0_0 x8_1) x9_2).f1))) = w35 at n0_ n1_ n2_ n3_ n4_ n5_ n6_ ⊢
      have HO_5 := n0_
      have HO_6 := n1_
      have HO_7 := n2_
      have BK101 := n3_
      have BK102 := n4_
      have BK134 := n5_
      have HB := n6_
      clear n0_ n1_ n2_ n3_ n4_ n5_ n6_
      have n0_ := zA.mk (Kd.zU HO_5.out)
      have n1_ := zA.mk (Kd.zU HO_6.out)
      have n2_ := zA.mk (Kd.zU HO_7.out)
      have n3_ := zA.mk (zJ BK101.out)
      have n4_ := zA.mk (zJ BK102.out)
      have n5_ := zA.mk (zJ BK134.out)
      have n6_ := zA.mk (zD HB.out)
      clear HO_5
      clear HO_6
      clear HO_7
      clear BK101
      clear BK102
      clear BK134
      clear HB
      have HO_5 := n0_
      have HO_6 := n1_
      have HO_7 := n2_
      have BK101 := n3_
      have BK102 := n4_
      have BK134 := n5_
      have HB := n6_
      clear n0_ n1_ n2_ n3_ n4_ n5_ n6_
      refine Zy (n := 14) (S := fun w' => w'.cell? ⟨gb134, 0, none⟩ = some (.int .i64 ((zI (zE l0_0 x8_1) x9_2).f0)) ∧ w'.cell? ⟨gb134, 1, none⟩ = some (.int .i64 ((zI (zE l0_0 x8_1) x9_2).f1))) (ds := []) #[false, false, false, false, false, false, false, false, false, false, false, false, false, false] (by kernel_rfl) rfl rfl ⟨(zL BK134.out 0).trans rfl, (zL BK134.out 1).trans rfl⟩ (fun hHeld => ?_); refine ZF zQ.tab13 zQ.bits13 (fun HT_ HW_ => ?_)
      generalize w35.drew = w36 at HO_5 HO_6 HO_7 BK101 BK102 BK134 HB hHeld ⊢
      refine zf (i := 0) (N := some 48) (v := ?_) (a' := ?_) #[true, false, false, false, false, false, false, false, false, false, false, false, false, false] rfl rfl (zc HT_.out (by kernel_rfl)) (fun _ _ _ h => h) (Or.inl ⟨by rfl, ?_⟩) ?_ ?_
      rotate_left
      next =>
       intro w'
       go_simp
       with_reducible rfl
      rotate_left
      next =>
       simp only [Act.put, yay, yby, ycy, zX, zY]
       rfl
      refine zf (i := 1) (N := some 49) (v := ?_) (a' := ?_) #[true, true, false, false, false, false, false, false, false, false, false, false, false, false] rfl rfl (zc HT_.out (by kernel_rfl)) (fun _ _ _ h => h) (Or.inl ⟨by rfl, ?_⟩) ?_ ?_
      rotate_left
      next =>
       intro w'
       go_simp
       with_reducible rfl
      rotate_left
      next =>
       simp only [Act.put, yay, yby, ycy, zX, zY]
       rfl
      refine zf (i := 2) (N := some 50) (v := ?_) (a' := ?_) #[true, true, true, false, false, false, false, false, false, false, false, false, false, false] rfl rfl (zc HT_.out (by kernel_rfl)) (fun _ _ _ h => h) (Or.inl ⟨by rfl, ?_⟩) ?_ ?_
      rotate_left
      next =>
       intro w'
       go_simp
       with_reducible rfl
      rotate_left
      next =>
       simp only [Act.put, yay, yby, ycy, zX, zY]
       rfl
      refine zf (i := 3) (N := some 51) (v := ?_) (a' := ?_) #[true, true, true, true, false, false, false, false, false, false, false, false, false, false] rfl rfl (zc HT_.out (by kernel_rfl)) (fun _ _ _ h => h) (Or.inl ⟨by rfl, ?_⟩) ?_ ?_
      rotate_left
      next =>
       intro w'
       go_simp
       with_reducible rfl
      rotate_left
      next =>
       simp only [Act.put, yay, yby, ycy, zX, zY]
       rfl
      refine zf (i := 4) (N := some 52) (v := ?_) (a' := ?_) #[true, true, true, true, true, false, false, false, false, false, false, false, false, false] rfl rfl (zc HT_.out (by kernel_rfl)) (fun _ _ _ h => h) (Or.inl ⟨by rfl, ?_⟩) ?_ ?_
      rotate_left
      next =>
       intro w'
       go_simp
       with_reducible rfl
      rotate_left
      next =>
       simp only [Act.put, yay, yby, ycy, zX, zY]
       rfl
      refine zf (i := 5) (N := some 53) (v := ?_) (a' := ?_) #[true, true, true, true, true, true, false, false, false, false, false, false, false, false] rfl rfl (zc HT_.out (by kernel_rfl)) (fun _ _ _ h => h) (Or.inl ⟨by rfl, ?_⟩) ?_ ?_
      rotate_left
      next =>
       intro w'
       go_simp
       with_reducible rfl
      rotate_left
      next =>
       simp only [Act.put, yay, yby, ycy, zX, zY]
       rfl
      refine zf (i := 8) (N := some 56) (v := ?_) (a' := ?_) #[true, true, true, true, true, true, false, false, true, false, false, false, false, false] rfl rfl (zc HT_.out (by kernel_rfl)) (fun _ _ _ h => h) (Or.inl ⟨by rfl, ?_⟩) ?_ ?_
      rotate_left
      next =>
       intro w'
       go_simp
       with_reducible rfl
      rotate_left
      next =>
       simp only [Act.put, yay, yby, ycy, zX, zY]
       rfl
      refine zf (i := 10) (N := some 58) (v := ?_) (a' := ?_) #[true, true, true, true, true, true, false, false, true, false, true, false, false, false] rfl rfl (zc HT_.out (by kernel_rfl)) (fun _ _ _ h => h) (Or.inl ⟨by rfl, ?_⟩) ?_ ?_
      rotate_left
      next =>
       intro w'
       go_simp
       with_reducible rfl
      rotate_left
      next =>
       simp only [Act.put, yay, yby, ycy, zX, zY]
       rfl
      refine qw (i := 6) (N := some 54) (v := ?_) (a' := ?_) #[true, true, true, true, true, true, true, false, true, false, true, false, false, false] rfl rfl (qC HT_.out HW_.out (by kernel_rfl)) (fun _ _ _ h => h) (Or.inl ⟨by rfl, ?_⟩) hHeld ?_ ?_
      rotate_left
      next =>
       rintro w' ⟨s0, s1⟩
       go_simp
       with_reducible rfl
      rotate_left
      next =>
       simp only [Act.put, yay, yby, ycy, zX, zY]
       rfl
      refine zf (i := 7) (N := some 55) (v := ?_) (a' := ?_) #[true, true, true, true, true, true, true, true, true, false, true, false, false, false] rfl rfl (zc HT_.out (by kernel_rfl)) (fun _ _ _ h => h) (Or.inl ⟨by rfl, ?_⟩) ?_ ?_
      rotate_left
      next =>
       intro w'
       go_simp
       with_reducible rfl
      rotate_left
      next =>
       simp only [Act.put, yay, yby, ycy, zX, zY]
       rfl
      refine qw (i := 9) (N := some 57) (v := ?_) (a' := ?_) #[true, true, true, true, true, true, true, true, true, true, true, false, false, false] rfl rfl (qC HT_.out HW_.out (by kernel_rfl)) (fun _ _ _ h => h) (Or.inl ⟨by rfl, ?_⟩) hHeld ?_ ?_
      rotate_left
      next =>
       rintro w' ⟨s0, s1⟩
       go_simp
       with_reducible rfl
      rotate_left
      next =>
       simp only [Act.put, yay, yby, ycy, zX, zY]
       rfl
      refine zA0 (i := 11) (N := some 59) #[true, true, true, true, true, true, true, true, true, true, true, true, false, false] rfl rfl (Zi HT_.out (by kernel_rfl)) (by decide) (fun K hK => ?_)
      refine Qj Try.func82 (by kernel_rfl) rfl #[.int .i64 ((zI (zE l0_0 x8_1) x9_2).f1), .int .i64 x9_2] (by rfl) rfl rfl (by (try simp only [yiy, yjy, yky]); first | done | rfl | (simp only [yly, ymy]; rfl)) ?_
      with_reducible refine (qt.calls k2 ((zI (zE l0_0 x8_1) x9_2).f1) x9_2 t135 _ A27.out).mono ?_
      rintro e w37 ⟨rfl, hb⟩
      refine ⟨_, rfl, ?_⟩
      have n0_ := zA.mk (Kd.qP (by (with_reducible repeat (first | apply Kd.zR | apply Kd.zS | apply Kd.zU)); exact HO_5.out) hb)
      have n1_ := zA.mk (Kd.qP (by (with_reducible repeat (first | apply Kd.zR | apply Kd.zS | apply Kd.zU)); exact HO_6.out) hb)
      have n2_ := zA.mk (Kd.qP (by (with_reducible repeat (first | apply Kd.zR | apply Kd.zS | apply Kd.zU)); exact HO_7.out) hb)
      have n3_ := zA.mk (zP (g := gb101) (o := .cells #[.slice (some ad132) l0_0.length c0_0] 35 (0, 0)) (by (with_reducible repeat (first | refine zH ?_ _ | refine zJ ?_ | refine zG ?_ _)); exact BK101.out) hb)
      have n4_ := zA.mk (zP (g := gb102) (o := .cells #[.slice none 0 0, .slice none 0 0, .slice none 0 0] 88 (0, 0)) (by (with_reducible repeat (first | refine zH ?_ _ | refine zJ ?_ | refine zG ?_ _)); exact BK102.out) hb)
      have n5_ := zA.mk (zP (g := gb134) (o := .cells #[.int .i64 ((zI (zE l0_0 x8_1) x9_2).f0), .int .i64 ((zI (zE l0_0 x8_1) x9_2).f1)] 75 (0, 0)) (by (with_reducible repeat (first | refine zH ?_ _ | refine zJ ?_ | refine zG ?_ _)); exact BK134.out) hb)
      have n6_ := zA.mk (zN (by repeat (first | (with_reducible first | exact HB.out | apply zC | apply zB | apply zD | refine zF ?_ GE101.out | refine zF ?_ GE102.out | refine zF ?_ GE134.out) | exact HB.out)) hb)
      clear HO_5
      clear HO_6
      clear HO_7
      clear BK101
      clear BK102
      clear BK134
      clear HB
      have HO_5 := n0_
      have HO_6 := n1_
      have HO_7 := n2_
      have BK101 := n3_
      have BK102 := n4_
      have BK134 := n5_
      have HB := n6_
      clear n0_ n1_ n2_ n3_ n4_ n5_ n6_
      (try clear hb)
      (try clear hb2)
      (try clear hk)
      (try clear hi)
      obtain ⟨Ao38, co38, eo38⟩ := Kd.ZA HO_7.out
      (first | subst eo38 | (injection eo38 with f1_ f2_ f3_; have f4_ := f1_.symm; have f5_ := f3_.symm; clear f1_ f2_ f3_; subst f4_; subst f5_))
      refine hK.out _ _ ⟨(zL BK134.out 0).trans rfl, (zL BK134.out 1).trans rfl⟩ (fun hHeld => ?_)
      clear hK K
      refine QM (a' := ?_) ?_ ?_
      rotate_left
      next =>
       show Act.put _ (some 59) _ = _
       simp only [Act.put, yay, yby, ycy, zX, zY]
       rfl
      refine zf (i := 12) (N := some 60) (v := ?_) (a' := ?_) #[true, true, true, true, true, true, true, true, true, true, true, true, true, false] rfl rfl (zc HT_.out (by kernel_rfl)) (fun _ _ _ h => h) (Or.inl ⟨by rfl, ?_⟩) ?_ ?_
      rotate_left
      next =>
       intro w'
       go_simp
       with_reducible rfl
      rotate_left
      next =>
       simp only [Act.put, yay, yby, ycy, zX, zY]
       rfl
      refine zA0 (i := 13) (N := some 61) #[true, true, true, true, true, true, true, true, true, true, true, true, true, true] rfl rfl (Zi HT_.out (by kernel_rfl)) (by decide) (fun K hK => ?_)
      refine Qj Try.func92 (by kernel_rfl) rfl #[.slice Ao38 x7_2.length co38, .int .i64 (wrap64 ((wrap64 (4 * x8_1)) + x9_2)), .int .i64 (wrap64 ((wrap64 (4 * ((zI (zE l0_0 x8_1) x9_2).f0))) + t135))] (by rfl) rfl rfl (by (try simp only [yiy, yjy, yky]); first | done | rfl | (simp only [yly, ymy]; rfl)) ?_
      with_reducible refine (qn.calls (fun k_ => some k_ = (.slice Ao38 x7_2.length co38 : Value).ownBlock) (.slice Ao38 x7_2.length co38) x7_2 (wrap64 ((wrap64 (4 * x8_1)) + x9_2)) (wrap64 ((wrap64 (4 * ((zI (zE l0_0 x8_1) x9_2).f0))) + t135)) t136 w _ ?side1 ?side2 A28.out).mono ?_
      (case side1 => repeat (first | (with_reducible first | exact HB.out | apply zC | apply zB | apply zD | refine zF ?_ GE101.out | refine zF ?_ GE102.out | refine zF ?_ GE134.out) | exact HB.out))
      (case side2 => exact Kd.Qf rfl HO_7.out)
      rintro e w39 ⟨rfl, hy0, hb, hkp⟩
      refine ⟨_, rfl, ?_⟩
      have n0_ := zA.mk (Kd.zo (ok' := fun k_ => some k_ ≠ (v108 : Value).ownBlock ∧ some k_ ≠ (.slice Ao38 x7_2.length co38 : Value).ownBlock) (Kd.zAE (HO_5.out) hkp (fun k_ hk_ hs_ => (hk_.2) hs_)) (fun k_ hk_ => ⟨hk_.1.1, hk_.1.2⟩))
      have n1_ := zA.mk (Kd.zo (ok' := fun k_ => some k_ ≠ (v105 : Value).ownBlock ∧ some k_ ≠ (.slice Ao38 x7_2.length co38 : Value).ownBlock) (Kd.zAE (HO_6.out) hkp (fun k_ hk_ hs_ => (hk_.2) hs_)) (fun k_ hk_ => ⟨hk_.1.1, hk_.1.2⟩))
      have n2_ := zA.mk (Kd.zCM rfl hy0 (fun k_ e_ => HO_7.out.1 k_ e_))
      have n3_ := zA.mk (Zf (by (with_reducible repeat (first | refine zH ?_ _ | refine zJ ?_ | refine zG ?_ _)); exact BK101.out) hkp (fun hs_ => (fun e_ => (Kd.zBb HO_7.out BK101.out (by decide)) e_) hs_))
      have n4_ := zA.mk (Zf (by (with_reducible repeat (first | refine zH ?_ _ | refine zJ ?_ | refine zG ?_ _)); exact BK102.out) hkp (fun hs_ => (fun e_ => (Kd.zBb HO_7.out BK102.out (by decide)) e_) hs_))
      have n5_ := zA.mk (Zf (by (with_reducible repeat (first | refine zH ?_ _ | refine zJ ?_ | refine zG ?_ _)); exact BK134.out) hkp (fun hs_ => (fun e_ => (Kd.zBb HO_7.out BK134.out (by decide)) e_) hs_))
      have n6_ := zA.mk (hb)
      clear HO_5
      clear HO_6
      clear HO_7
      clear BK101
      clear BK102
      clear BK134
      clear HB
      have HO_5 := n0_
      have HO_6 := n1_
      have HO_7 := n2_
      have BK101 := n3_
      have BK102 := n4_
      have BK134 := n5_
      have HB := n6_
      clear n0_ n1_ n2_ n3_ n4_ n5_ n6_
      (try clear hb)
      (try clear hkp)
      (try clear hy0)
      refine hK.out _ _ ⟨(zL BK134.out 0).trans rfl, (zL BK134.out 1).trans rfl⟩ (fun hHeld => ?_)
      clear hK K
      refine QM (a' := ?_) ?_ ?_
      rotate_left
      next =>
       show Act.put _ (some 61) _ = _
       simp only [Act.put, yay, yby, ycy, zX, zY]
       rfl
      refine Qu (Zs HT_.out (by kernel_rfl)) ?_
      try go_wp2
      go_loopg [11] k2 (fun kq v11 w' => ∃ (x5_3 : List Int) (x11_3 : Int), v11 = .int .i64 x11_3 ∧ zA (zQ.l2 kq t103 x5_3 x6_2 t136 x8_1 x9_2 x11_3 l0_0 ((zI (zE l0_0 x8_1) x9_2).f0) ((zI (zE l0_0 x8_1) x9_2).f1) = some (r1, r2, r3, r4)) ∧ zA (kq ≤ k2) ∧ zA (Kd.R (Kd.int .i64) 2 w' w.heap.size (fun k_ => some k_ ≠ (v108 : Value).ownBlock ∧ some k_ ≠ ((.slice Ao38 x7_2.length co38) : Value).ownBlock) v105 x5_3) ∧ zA (Kd.R (Kd.int .i64) 2 w' w.heap.size (fun k_ => some k_ ≠ (v105 : Value).ownBlock ∧ some k_ ≠ ((.slice Ao38 x7_2.length co38) : Value).ownBlock) v108 x6_2) ∧ zA (Kd.R (Kd.int .i64) 2 w' w.heap.size (fun k_ => some k_ ≠ (v105 : Value).ownBlock ∧ some k_ ≠ (v108 : Value).ownBlock) (.slice Ao38 x7_2.length co38) t136) ∧ zA (w'.heap[gb101]? = some (.cells #[(.slice (some ad132) l0_0.length c0_0)] 35 (0, 0))) ∧ zA (w'.heap[gb102]? = some (.cells #[(.slice none 0 0), (.slice none 0 0), (.slice none 0 0)] 88 (0, 0))) ∧ zA (w'.heap[gb134]? = some (.cells #[.int .i64 ((zI (zE l0_0 x8_1) x9_2).f0), .int .i64 ((zI (zE l0_0 x8_1) x9_2).f1)] 75 (0, 0))) ∧ zA (Below w.heap.size w w'))
      case atStart => exact ⟨(x5_2), (0), (by first | rfl | (simp; done) | (simp [*]; done)), H', ⟨yqy _⟩, ⟨by (with_reducible repeat (first | apply Kd.zR | apply Kd.zS | apply Kd.zU)); exact HO_5.out⟩, ⟨by (with_reducible repeat (first | apply Kd.zR | apply Kd.zS | apply Kd.zU)); exact HO_6.out⟩, ⟨by (with_reducible repeat (first | apply Kd.zR | apply Kd.zS | apply Kd.zU)); exact HO_7.out⟩, ⟨by (with_reducible repeat (first | refine zH ?_ _ | refine zJ ?_ | refine zG ?_ _)); exact BK101.out⟩, ⟨by (with_reducible repeat (first | refine zH ?_ _ | refine zJ ?_ | refine zG ?_ _)); exact BK102.out⟩, ⟨by (with_reducible repeat (first | refine zH ?_ _ | refine zJ ?_ | refine zG ?_ _)); exact BK134.out⟩, ⟨by repeat (first | (with_reducible first | exact HB.out | apply zC | apply zB | apply zD | refine zF ?_ GE101.out | refine zF ?_ GE102.out | refine zF ?_ GE134.out) | exact HB.out)⟩⟩
      case round =>
       clear H'
       try clear c1
       try clear p1
       try clear q1
       try clear hx1
       try clear c2
       try clear p2
       try clear c3
       try clear c6
       try clear p6
       try clear c8
       try clear c9
       try clear c13
       try clear p13
       try clear q13
       try clear hx13
       try clear c14
       try clear c14b0
       try clear c15
       try clear c15b0
       try clear c16
       try clear c16b0
       try clear c17
       try clear c17b0
       try clear c18
       try clear c18b0
       try clear c19
       try clear c19b0
       try clear c20
       try clear c20b0
       try clear c21
       try clear c24
       try clear c25
       try clear c29
       try clear c32
       try clear c33
       try clear hcz22_0
       try clear hcz26_0
       try clear hcz26_1
       try clear hcz30_0
       try clear hcz34_0
       try clear hcz34_1
       try clear hcz9_0
       try clear hfz22_0
       try clear hfz26_0
       try clear hfz26_1
       try clear hfz30_0
       try clear hfz34_0
       try clear hfz34_1
       try clear hfz9_0
       try clear hx132_0
       try clear hx133_0
       try clear hx133_1
       try clear p132
       try clear p133
       try clear p2
       try clear p6
       try clear q132
       try clear q133
       obtain ⟨x5_3, x11_3, rfl, HA, HK3, HO_5, HO_6, HO_7, BK101, BK102, BK134, HB⟩ := hrel
       have hl7_3 := (Kd.zp HO_7.out).1
       rw [hl7_3] at HO_7
       (try simp only [hl7_3])
       (try simp only [hl7_3] at BK101)
       (try simp only [hl7_3] at BK102)
       (try simp only [hl7_3] at BK134)
       (try simp only [hl7_3] at HO_5)
       (try simp only [hl7_3] at HO_6)
       cases gk with
       | zero => exact absurd HA.out (by simp [zQ.l2])
       | succ k3 =>
        have H := HA.out
        clear HA
        simp only [zQ.l2] at H
        by_cases c40 : x11_3 < 4
        next =>
         rw [if_pos c40] at H
         have c40b0 : decide (x11_3 < 4) = true := ygy c40
         clear c40
         by_cases c41 : x11_3 = x9_2
         next =>
          rw [if_pos c41] at H
          have c41b0 : (x11_3 == x9_2) = true := beq_iff_eq.mpr c41
          have c41b1 : (x11_3 != x9_2) = false := bne_eq_false_iff_eq.mpr c41
          clear c41
          have H' := zA.mk H
          clear H
          go_wp2
          (try simp only [← hl7_3])
          go_roundg k3
          case measure => have := HK1.out; have := HK2.out; have := HK3.out; omega
          case rel => exact ⟨(x5_3), (wrap64 (x11_3 + 1)), (by first | rfl | (simp; done) | (simp [*]; done)), H', ⟨by have := HK1.out; have := HK2.out; have := HK3.out; omega⟩, ⟨by (try simp only [hl7_3]); (with_reducible repeat (first | apply Kd.zR | apply Kd.zS | apply Kd.zU)); exact HO_5.out⟩, ⟨by (try simp only [hl7_3]); (with_reducible repeat (first | apply Kd.zR | apply Kd.zS | apply Kd.zU)); exact HO_6.out⟩, ⟨by (try simp only [hl7_3]); (with_reducible repeat (first | apply Kd.zR | apply Kd.zS | apply Kd.zU)); exact HO_7.out⟩, ⟨by (try simp only [hl7_3]); (with_reducible repeat (first | refine zH ?_ _ | refine zJ ?_ | refine zG ?_ _)); exact BK101.out⟩, ⟨by (try simp only [hl7_3]); (with_reducible repeat (first | refine zH ?_ _ | refine zJ ?_ | refine zG ?_ _)); exact BK102.out⟩, ⟨by (try simp only [hl7_3]); (with_reducible repeat (first | refine zH ?_ _ | refine zJ ?_ | refine zG ?_ _)); exact BK134.out⟩, ⟨by repeat (first | (with_reducible first | exact HB.out | apply zC | apply zB | apply zD | refine zF ?_ GE101.out | refine zF ?_ GE102.out | refine zF ?_ GE134.out) | exact HB.out)⟩⟩
         next =>
          rw [if_neg c41] at H
          have c41b0 : (x11_3 == x9_2) = false := beq_eq_false_iff_ne.mpr c41
          have c41b1 : (x11_3 != x9_2) = true := bne_iff_ne.mpr c41
          replace H := ydy.mp H
          obtain ⟨t137, A420, H⟩ := H
          replace H : ((qn.f x5_3 (wrap64 ((wrap64 (4 * x8_1)) + x11_3)) (wrap64 ((wrap64 (4 * ((zI (zE l0_0 x8_1) x9_2).f0))) + t137))).bind fun t138 => (zQ.l2 k3 t103 t138 x6_2 t136 x8_1 x9_2 (wrap64 (x11_3 + 1)) l0_0 ((zI (zE l0_0 x8_1) x9_2).f0) ((zI (zE l0_0 x8_1) x9_2).f1))) = some (r1, r2, r3, r4) := H
          have A42 := zA.mk A420
          clear A420
          replace H := ydy.mp H
          obtain ⟨t138, A430, H⟩ := H
          replace H : (zQ.l2 k3 t103 t138 x6_2 t136 x8_1 x9_2 (wrap64 (x11_3 + 1)) l0_0 ((zI (zE l0_0 x8_1) x9_2).f0) ((zI (zE l0_0 x8_1) x9_2).f1)) = some (r1, r2, r3, r4) := H
          have A43 := zA.mk A430
          clear A430
          have H' := zA.mk H
          clear H
          try go_wp2
          have n0_ := zA.mk (Kd.zU HO_5.out)
          have n1_ := zA.mk (Kd.zU HO_6.out)
          have n2_ := zA.mk (Kd.zU HO_7.out)
          have n3_ := zA.mk (zJ BK101.out)
          have n4_ := zA.mk (zJ BK102.out)
          have n5_ := zA.mk (zJ BK134.out)
          have n6_ := zA.mk (zD HB.out)
          clear HO_5
          clear HO_6
          clear HO_7
          clear BK101
          clear BK102
          clear BK134
          clear HB
          have HO_5 := n0_
          have HO_6 := n1_
          have HO_7 := n2_
          have BK101 := n3_
          have BK102 := n4_
          have BK134 := n5_
          have HB := n6_
          clear n0_ n1_ n2_ n3_ n4_ n5_ n6_
          refine Zy (n := 14) (S := fun w' => w'.cell? ⟨gb134, 0, none⟩ = some (.int .i64 ((zI (zE l0_0 x8_1) x9_2).f0)) ∧ w'.cell? ⟨gb134, 1, none⟩ = some (.int .i64 ((zI (zE l0_0 x8_1) x9_2).f1))) (ds := []) #[false, false, false, false, false, false, false, false, false, false, false, false, false, false] (by kernel_rfl) rfl rfl ⟨(zL BK134.out 0).trans rfl, (zL BK134.out 1).trans rfl⟩ (fun hHeld => ?_); refine ZF zQ.tab18 zQ.bits18 (fun HT_ HW_ => ?_)
          generalize wr.drew = w44 at HO_5 HO_6 HO_7 BK101 BK102 BK134 HB hHeld ⊢
          refine zf (i := 0) (N := some 69) (v := ?_) (a' := ?_) #[true, false, false, false, false, false, false, false, false, false, false, false, false, false] rfl rfl (zc HT_.out (by kernel_rfl)) (fun _ _ _ h => h) (Or.inl ⟨by rfl, ?_⟩) ?_ ?_
          rotate_left
          next =>
           intro w'
           go_simp
           with_reducible rfl
          rotate_left
          next =>
           simp only [Act.put, yay, yby, ycy, zX, zY]
           rfl
          refine zf (i := 1) (N := some 70) (v := ?_) (a' := ?_) #[true, true, false, false, false, false, false, false, false, false, false, false, false, false] rfl rfl (zc HT_.out (by kernel_rfl)) (fun _ _ _ h => h) (Or.inl ⟨by rfl, ?_⟩) ?_ ?_
          rotate_left
          next =>
           intro w'
           go_simp
           with_reducible rfl
          rotate_left
          next =>
           simp only [Act.put, yay, yby, ycy, zX, zY]
           rfl
          refine zf (i := 2) (N := some 71) (v := ?_) (a' := ?_) #[true, true, true, false, false, false, false, false, false, false, false, false, false, false] rfl rfl (zc HT_.out (by kernel_rfl)) (fun _ _ _ h => h) (Or.inl ⟨by rfl, ?_⟩) ?_ ?_
          rotate_left
          next =>
           intro w'
           go_simp
           with_reducible rfl
          rotate_left
          next =>
           simp only [Act.put, yay, yby, ycy, zX, zY]
           rfl
          refine zf (i := 3) (N := some 72) (v := ?_) (a' := ?_) #[true, true, true, true, false, false, false, false, false, false, false, false, false, false] rfl rfl (zc HT_.out (by kernel_rfl)) (fun _ _ _ h => h) (Or.inl ⟨by rfl, ?_⟩) ?_ ?_
          rotate_left
          next =>
           intro w'
           go_simp
           with_reducible rfl
          rotate_left
          next =>
           simp only [Act.put, yay, yby, ycy, zX, zY]
           rfl
          refine zf (i := 4) (N := some 73) (v := ?_) (a' := ?_) #[true, true, true, true, true, false, false, false, false, false, false, false, false, false] rfl rfl (zc HT_.out (by kernel_rfl)) (fun _ _ _ h => h) (Or.inl ⟨by rfl, ?_⟩) ?_ ?_
          rotate_left
          next =>
           intro w'
           go_simp
           with_reducible rfl
          rotate_left
          next =>
           simp only [Act.put, yay, yby, ycy, zX, zY]
           rfl
          refine zf (i := 5) (N := some 74) (v := ?_) (a' := ?_) #[true, true, true, true, true, true, false, false, false, false, false, false, false, false] rfl rfl (zc HT_.out (by kernel_rfl)) (fun _ _ _ h => h) (Or.inl ⟨by rfl, ?_⟩) ?_ ?_
          rotate_left
          next =>
           intro w'
           go_simp
           with_reducible rfl
          rotate_left
          next =>
           simp only [Act.put, yay, yby, ycy, zX, zY]
           rfl
          refine zf (i := 8) (N := some 77) (v := ?_) (a' := ?_) #[true, true, true, true, true, true, false, false, true, false, false, false, false, false] rfl rfl (zc HT_.out (by kernel_rfl)) (fun _ _ _ h => h) (Or.inl ⟨by rfl, ?_⟩) ?_ ?_
          rotate_left
          next =>
           intro w'
           go_simp
           with_reducible rfl
          rotate_left
          next =>
           simp only [Act.put, yay, yby, ycy, zX, zY]
           rfl
          refine zf (i := 10) (N := some 79) (v := ?_) (a' := ?_) #[true, true, true, true, true, true, false, false, true, false, true, false, false, false] rfl rfl (zc HT_.out (by kernel_rfl)) (fun _ _ _ h => h) (Or.inl ⟨by rfl, ?_⟩) ?_ ?_
          rotate_left
          next =>
           intro w'
           go_simp
           with_reducible rfl
          rotate_left
          next =>
           simp only [Act.put, yay, yby, ycy, zX, zY]
           rfl
          refine qw (i := 6) (N := some 75) (v := ?_) (a' := ?_) #[true, true, true, true, true, true, true, false, true, false, true, false, false, false] rfl rfl (qC HT_.out HW_.out (by kernel_rfl)) (fun _ _ _ h => h) (Or.inl ⟨by rfl, ?_⟩) hHeld ?_ ?_
          rotate_left
          next =>
           rintro w' ⟨s0, s1⟩
           go_simp
           with_reducible rfl
          rotate_left
          next =>
           simp only [Act.put, yay, yby, ycy, zX, zY]
           rfl
          refine zf (i := 7) (N := some 76) (v := ?_) (a' := ?_) #[true, true, true, true, true, true, true, true, true, false, true, false, false, false] rfl rfl (zc HT_.out (by kernel_rfl)) (fun _ _ _ h => h) (Or.inl ⟨by rfl, ?_⟩) ?_ ?_
          rotate_left
          next =>
           intro w'
           go_simp
           with_reducible rfl
          rotate_left
          next =>
           simp only [Act.put, yay, yby, ycy, zX, zY]
           rfl
          refine qw (i := 9) (N := some 78) (v := ?_) (a' := ?_) #[true, true, true, true, true, true, true, true, true, true, true, false, false, false] rfl rfl (qC HT_.out HW_.out (by kernel_rfl)) (fun _ _ _ h => h) (Or.inl ⟨by rfl, ?_⟩) hHeld ?_ ?_
          rotate_left
          next =>
           rintro w' ⟨s0, s1⟩
           go_simp
           with_reducible rfl
          rotate_left
          next =>
           simp only [Act.put, yay, yby, ycy, zX, zY]
           rfl
          refine zA0 (i := 11) (N := some 80) #[true, true, true, true, true, true, true, true, true, true, true, true, false, false] rfl rfl (Zi HT_.out (by kernel_rfl)) (by decide) (fun K hK => ?_)
          refine Qj Try.func82 (by kernel_rfl) rfl #[.int .i64 ((zI (zE l0_0 x8_1) x9_2).f1), .int .i64 x11_3] (by rfl) rfl rfl (by (try simp only [yiy, yjy, yky]); first | done | rfl | (simp only [yly, ymy]; rfl)) ?_
          with_reducible refine (qt.calls k3 ((zI (zE l0_0 x8_1) x9_2).f1) x11_3 t137 _ A42.out).mono ?_
          rintro e w45 ⟨rfl, hb⟩
          refine ⟨_, rfl, ?_⟩
          have n0_ := zA.mk (Kd.qP (by (with_reducible repeat (first | apply Kd.zR | apply Kd.zS | apply Kd.zU)); exact HO_5.out) hb)
          have n1_ := zA.mk (Kd.qP (by (with_reducible repeat (first | apply Kd.zR | apply Kd.zS | apply Kd.zU)); exact HO_6.out) hb)
          have n2_ := zA.mk (Kd.qP (by (with_reducible repeat (first | apply Kd.zR | apply Kd.zS | apply Kd.zU)); exact HO_7.out) hb)
          have n3_ := zA.mk (zP (g := gb101) (o := .cells #[.slice (some ad132) l0_0.length c0_0] 35 (0, 0)) (by (with_reducible repeat (first | refine zH ?_ _ | refine zJ ?_ | refine zG ?_ _)); exact BK101.out) hb)
          have n4_ := zA.mk (zP (g := gb102) (o := .cells #[.slice none 0 0, .slice none 0 0, .slice none 0 0] 88 (0, 0)) (by (with_reducible repeat (first | refine zH ?_ _ | refine zJ ?_ | refine zG ?_ _)); exact BK102.out) hb)
          have n5_ := zA.mk (zP (g := gb134) (o := .cells #[.int .i64 ((zI (zE l0_0 x8_1) x9_2).f0), .int .i64 ((zI (zE l0_0 x8_1) x9_2).f1)] 75 (0, 0)) (by (with_reducible repeat (first | refine zH ?_ _ | refine zJ ?_ | refine zG ?_ _)); exact BK134.out) hb)
          have n6_ := zA.mk (zN (by repeat (first | (with_reducible first | exact HB.out | apply zC | apply zB | apply zD | refine zF ?_ GE101.out | refine zF ?_ GE102.out | refine zF ?_ GE134.out) | exact HB.out)) hb)
          clear HO_5
          clear HO_6
          clear HO_7
          clear BK101
          clear BK102
          clear BK134
          clear HB
          have HO_5 := n0_
          have HO_6 := n1_
          have HO_7 := n2_
          have BK101 := n3_
          have BK102 := n4_
          have BK134 := n5_
          have HB := n6_
          clear n0_ n1_ n2_ n3_ n4_ n5_ n6_
          (try clear hb)
          (try clear hb2)
          (try clear hk)
          (try clear hi)
          obtain ⟨Ao46, co46, eo46⟩ := Kd.ZA HO_5.out
          (first | subst eo46 | (injection eo46 with f1_ f2_ f3_; have f4_ := f1_.symm; have f5_ := f3_.symm; clear f1_ f2_ f3_; subst f4_; subst f5_))
          refine hK.out _ _ ⟨(zL BK134.out 0).trans rfl, (zL BK134.out 1).trans rfl⟩ (fun hHeld => ?_)
          clear hK K
          refine QM (a' := ?_) ?_ ?_
          rotate_left
          next =>
           show Act.put _ (some 80) _ = _
           simp only [Act.put, yay, yby, ycy, zX, zY]
           rfl
          refine zf (i := 12) (N := some 81) (v := ?_) (a' := ?_) #[true, true, true, true, true, true, true, true, true, true, true, true, true, false] rfl rfl (zc HT_.out (by kernel_rfl)) (fun _ _ _ h => h) (Or.inl ⟨by rfl, ?_⟩) ?_ ?_
          rotate_left
          next =>
           intro w'
           go_simp
           with_reducible rfl
          rotate_left
          next =>
           simp only [Act.put, yay, yby, ycy, zX, zY]
           rfl
          refine zA0 (i := 13) (N := some 82) #[true, true, true, true, true, true, true, true, true, true, true, true, true, true] rfl rfl (Zi HT_.out (by kernel_rfl)) (by decide) (fun K hK => ?_)
          refine Qj Try.func92 (by kernel_rfl) rfl #[.slice Ao46 x5_3.length co46, .int .i64 (wrap64 ((wrap64 (4 * x8_1)) + x11_3)), .int .i64 (wrap64 ((wrap64 (4 * ((zI (zE l0_0 x8_1) x9_2).f0))) + t137))] (by rfl) rfl rfl (by (try simp only [yiy, yjy, yky]); first | done | rfl | (simp only [yly, ymy]; rfl)) ?_
          with_reducible refine (qn.calls (fun k_ => some k_ = (.slice Ao46 x5_3.length co46 : Value).ownBlock) (.slice Ao46 x5_3.length co46) x5_3 (wrap64 ((wrap64 (4 * x8_1)) + x11_3)) (wrap64 ((wrap64 (4 * ((zI (zE l0_0 x8_1) x9_2).f0))) + t137)) t138 w _ ?side1 ?side2 A43.out).mono ?_
          (case side1 => repeat (first | (with_reducible first | exact HB.out | apply zC | apply zB | apply zD | refine zF ?_ GE101.out | refine zF ?_ GE102.out | refine zF ?_ GE134.out) | exact HB.out))
          (case side2 => exact Kd.Qf rfl HO_5.out)
          rintro e w47 ⟨rfl, hy0, hb, hkp⟩
          refine ⟨_, rfl, ?_⟩
          have n0_ := zA.mk (Kd.zCM rfl hy0 (fun k_ e_ => HO_5.out.1 k_ e_))
          have n1_ := zA.mk (Kd.zo (ok' := fun k_ => some k_ ≠ (.slice Ao46 x5_3.length co46 : Value).ownBlock ∧ some k_ ≠ (.slice Ao38 t136.length co38 : Value).ownBlock) (Kd.zAE (HO_6.out) hkp (fun k_ hk_ hs_ => (hk_.1) hs_)) (fun k_ hk_ => ⟨hk_.1.1, hk_.1.2⟩))
          have n2_ := zA.mk (Kd.zo (ok' := fun k_ => some k_ ≠ (.slice Ao46 x5_3.length co46 : Value).ownBlock ∧ some k_ ≠ (v108 : Value).ownBlock) (Kd.zAE (HO_7.out) hkp (fun k_ hk_ hs_ => (hk_.1) hs_)) (fun k_ hk_ => ⟨hk_.1.1, hk_.1.2⟩))
          have n3_ := zA.mk (Zf (by (with_reducible repeat (first | refine zH ?_ _ | refine zJ ?_ | refine zG ?_ _)); exact BK101.out) hkp (fun hs_ => (fun e_ => (Kd.zBb HO_5.out BK101.out (by decide)) e_) hs_))
          have n4_ := zA.mk (Zf (by (with_reducible repeat (first | refine zH ?_ _ | refine zJ ?_ | refine zG ?_ _)); exact BK102.out) hkp (fun hs_ => (fun e_ => (Kd.zBb HO_5.out BK102.out (by decide)) e_) hs_))
          have n5_ := zA.mk (Zf (by (with_reducible repeat (first | refine zH ?_ _ | refine zJ ?_ | refine zG ?_ _)); exact BK134.out) hkp (fun hs_ => (fun e_ => (Kd.zBb HO_5.out BK134.out (by decide)) e_) hs_))
          have n6_ := zA.mk (hb)
          clear HO_5
          clear HO_6
          clear HO_7
          clear BK101
          clear BK102
          clear BK134
          clear HB
          have HO_5 := n0_
          have HO_6 := n1_
          have HO_7 := n2_
          have BK101 := n3_
          have BK102 := n4_
          have BK134 := n5_
          have HB := n6_
          clear n0_ n1_ n2_ n3_ n4_ n5_ n6_
          (try clear hb)
          (try clear hkp)
          (try clear hy0)
          refine hK.out _ _ ⟨(zL BK134.out 0).trans rfl, (zL BK134.out 1).trans rfl⟩ (fun hHeld => ?_)
          clear hK K
          refine QM (a' := ?_) ?_ ?_
          rotate_left
          next =>
           show Act.put _ (some 82) _ = _
           simp only [Act.put, yay, yby, ycy, zX, zY]
           rfl
          refine Qu (Zs HT_.out (by kernel_rfl)) ?_
          try go_wp2
          (try simp only [← hl7_3])
          go_roundg k3
          case measure => have := HK1.out; have := HK2.out; have := HK3.out; omega
          case rel => exact ⟨(t138), (wrap64 (x11_3 + 1)), (by first | rfl | (simp; done) | (simp [*]; done)), H', ⟨by have := HK1.out; have := HK2.out; have := HK3.out; omega⟩, ⟨by (try simp only [hl7_3]); (with_reducible repeat (first | apply Kd.zR | apply Kd.zS | apply Kd.zU)); exact HO_5.out⟩, ⟨by (try simp only [hl7_3]); (with_reducible repeat (first | apply Kd.zR | apply Kd.zS | apply Kd.zU)); exact HO_6.out⟩, ⟨by (try simp only [hl7_3]); (with_reducible repeat (first | apply Kd.zR | apply Kd.zS | apply Kd.zU)); exact HO_7.out⟩, ⟨by (try simp only [hl7_3]); (with_reducible repeat (first | refine zH ?_ _ | refine zJ ?_ | refine zG ?_ _)); exact BK101.out⟩, ⟨by (try simp only [hl7_3]); (with_reducible repeat (first | refine zH ?_ _ | refine zJ ?_ | refine zG ?_ _)); exact BK102.out⟩, ⟨by (try simp only [hl7_3]); (with_reducible repeat (first | refine zH ?_ _ | refine zJ ?_ | refine zG ?_ _)); exact BK134.out⟩, ⟨by repeat (first | (with_reducible first | exact HB.out | apply zC | apply zB | apply zD | refine zF ?_ GE101.out | refine zF ?_ GE102.out | refine zF ?_ GE134.out) | exact HB.out)⟩⟩
        next =>
         rw [if_neg c40] at H
         have c40b0 : decide (x11_3 < 4) = false := yhy c40
         (try simp only [hl7_3] at c40b0)
         clear c40
         have H' := zA.mk H
         clear H
         go_wp2
         go_loopg [12] k3 (fun kq v12 w' => ∃ (x6_4 : List Int) (x12_4 : Int), v12 = .int .i64 x12_4 ∧ zA (zQ.l3 kq t103 x5_3 x6_4 t136 x8_1 x9_2 x12_4 l0_0 ((zI (zE l0_0 x8_1) x9_2).f0) ((zI (zE l0_0 x8_1) x9_2).f1) = some (r1, r2, r3, r4)) ∧ zA (kq ≤ k3) ∧ zA (Kd.R (Kd.int .i64) 2 w' w.heap.size (fun k_ => some k_ ≠ (v108 : Value).ownBlock ∧ some k_ ≠ ((.slice Ao38 t136.length co38) : Value).ownBlock) v105 x5_3) ∧ zA (Kd.R (Kd.int .i64) 2 w' w.heap.size (fun k_ => some k_ ≠ (v105 : Value).ownBlock ∧ some k_ ≠ ((.slice Ao38 t136.length co38) : Value).ownBlock) v108 x6_4) ∧ zA (Kd.R (Kd.int .i64) 2 w' w.heap.size (fun k_ => some k_ ≠ (v105 : Value).ownBlock ∧ some k_ ≠ (v108 : Value).ownBlock) (.slice Ao38 t136.length co38) t136) ∧ zA (w'.heap[gb101]? = some (.cells #[(.slice (some ad132) l0_0.length c0_0)] 35 (0, 0))) ∧ zA (w'.heap[gb102]? = some (.cells #[(.slice none 0 0), (.slice none 0 0), (.slice none 0 0)] 88 (0, 0))) ∧ zA (w'.heap[gb134]? = some (.cells #[.int .i64 ((zI (zE l0_0 x8_1) x9_2).f0), .int .i64 ((zI (zE l0_0 x8_1) x9_2).f1)] 75 (0, 0))) ∧ zA (Below w.heap.size w w'))
         case atStart => exact ⟨(x6_2), (0), (by first | rfl | (simp; done) | (simp [*]; done)), H', ⟨yqy _⟩, ⟨by (try simp only [hl7_3]); (with_reducible repeat (first | apply Kd.zR | apply Kd.zS | apply Kd.zU)); exact HO_5.out⟩, ⟨by (try simp only [hl7_3]); (with_reducible repeat (first | apply Kd.zR | apply Kd.zS | apply Kd.zU)); exact HO_6.out⟩, ⟨by (try simp only [hl7_3]); (with_reducible repeat (first | apply Kd.zR | apply Kd.zS | apply Kd.zU)); exact HO_7.out⟩, ⟨by (try simp only [hl7_3]); (with_reducible repeat (first | refine zH ?_ _ | refine zJ ?_ | refine zG ?_ _)); exact BK101.out⟩, ⟨by (try simp only [hl7_3]); (with_reducible repeat (first | refine zH ?_ _ | refine zJ ?_ | refine zG ?_ _)); exact BK102.out⟩, ⟨by (try simp only [hl7_3]); (with_reducible repeat (first | refine zH ?_ _ | refine zJ ?_ | refine zG ?_ _)); exact BK134.out⟩, ⟨by repeat (first | (with_reducible first | exact HB.out | apply zC | apply zB | apply zD | refine zF ?_ GE101.out | refine zF ?_ GE102.out | refine zF ?_ GE134.out) | exact HB.out)⟩⟩
         case round =>
          clear H'
          try clear c1
          try clear p1
          try clear q1
          try clear hx1
          try clear c2
          try clear p2
          try clear c3
          try clear c4
          try clear c6
          try clear p6
          try clear c8
          try clear c9
          try clear c13
          try clear p13
          try clear q13
          try clear hx13
          try clear c14
          try clear c14b0
          try clear c15
          try clear c15b0
          try clear c16
          try clear c16b0
          try clear c17
          try clear c17b0
          try clear c18
          try clear c18b0
          try clear c19
          try clear c19b0
          try clear c20
          try clear c20b0
          try clear c21
          try clear c24
          try clear c25
          try clear c29
          try clear c32
          try clear c33
          try clear c40
          try clear c40b0
          try clear c41
          try clear c41b0
          try clear c41b1
          try clear hcz22_0
          try clear hcz26_0
          try clear hcz26_1
          try clear hcz30_0
          try clear hcz34_0
          try clear hcz34_1
          try clear hcz9_0
          try clear hfz22_0
          try clear hfz26_0
          try clear hfz26_1
          try clear hfz30_0
          try clear hfz34_0
          try clear hfz34_1
          try clear hfz9_0
          try clear hx132_0
          try clear hx133_0
          try clear hx133_1
          try clear p1
          try clear p13
          try clear p132
          try clear p133
          try clear p2
          try clear p6
          try clear q1
          try clear q13
          try clear q132
          try clear q133
          obtain ⟨x6_4, x12_4, rfl, HA, HK4, HO_5, HO_6, HO_7, BK101, BK102, BK134, HB⟩ := hrel
          cases gk with
          | zero => exact absurd HA.out (by simp [zQ.l3])
          | succ k4 =>
           have H := HA.out
           clear HA
           simp only [zQ.l3] at H
           by_cases c48 : x12_4 < 6
           rotate_left
           next =>
            rw [if_neg c48] at H
            have c48b0 : decide (x12_4 < 6) = false := yhy c48
            (try simp only [hl7_3] at c48b0)
            clear c48
            have H' := zA.mk H
            clear H
            go_wp2
            (try simp only [← hl7_3])
            go_roundg k4
            case measure => have := HK1.out; have := HK2.out; have := HK3.out; have := HK4.out; omega
            case rel => exact ⟨(x5_3), (x6_4), (t136), (wrap64 (x9_2 + 1)), (by first | rfl | (simp; done) | (simp [*]; done)), H', ⟨by have := HK1.out; have := HK2.out; have := HK3.out; have := HK4.out; omega⟩, ⟨by (try simp only [hl7_3]); (with_reducible repeat (first | apply Kd.zR | apply Kd.zS | apply Kd.zU)); exact HO_5.out⟩, ⟨by (try simp only [hl7_3]); (with_reducible repeat (first | apply Kd.zR | apply Kd.zS | apply Kd.zU)); exact HO_6.out⟩, ⟨by (try simp only [hl7_3]); (with_reducible repeat (first | apply Kd.zR | apply Kd.zS | apply Kd.zU)); exact HO_7.out⟩, ⟨by (try simp only [hl7_3]); (with_reducible repeat (first | refine zH ?_ _ | refine zJ ?_ | refine zG ?_ _)); exact BK101.out⟩, ⟨by (try simp only [hl7_3]); (with_reducible repeat (first | refine zH ?_ _ | refine zJ ?_ | refine zG ?_ _)); exact BK102.out⟩, ⟨by repeat (first | (with_reducible first | exact HB.out | apply zC | apply zB | apply zD | refine zF ?_ GE101.out | refine zF ?_ GE102.out | refine zF ?_ GE134.out) | exact HB.out)⟩⟩
           rw [if_pos c48] at H
           have c48b0 : decide (x12_4 < 6) = true := ygy c48
           clear c48
           replace H := ydy.mp H
           obtain ⟨⟨t139, t140⟩, A490, H⟩ := H
           replace H : (if t139 = x9_2 then (zQ.j4 k4 t103 x5_3 x6_4 t136 x8_1 x9_2 x12_4 t139 t140 false l0_0 ((zI (zE l0_0 x8_1) x9_2).f0) ((zI (zE l0_0 x8_1) x9_2).f1)) else (zQ.j4 k4 t103 x5_3 x6_4 t136 x8_1 x9_2 x12_4 t139 t140 (t140 != x9_2) l0_0 ((zI (zE l0_0 x8_1) x9_2).f0) ((zI (zE l0_0 x8_1) x9_2).f1))) = some (r1, r2, r3, r4) := H
           have A49 := zA.mk A490
           clear A490
           have HC50 := zA.mk H
           clear H
           go_upto_region 23 with (first | ((with_reducible refine zb (f := 115) rfl ?_); refine qH (some 89) rfl rfl Try.func115 (by kernel_rfl) rfl #[.int .i64 x12_4] rfl (by (try simp only [yiy, yjy, yky]); first | done | rfl | (simp only [yly, ymy]; rfl)) ?_; (with_reducible refine (qj.calls x12_4 t139 t140 _ A49.out).mono ?_); rintro e w51 ⟨rfl, hb⟩; refine ⟨_, rfl, ?_⟩; have n0_ := zA.mk (Kd.qP (by (with_reducible repeat (first | apply Kd.zR | apply Kd.zS | apply Kd.zU)); exact HO_5.out) hb); have n1_ := zA.mk (Kd.qP (by (with_reducible repeat (first | apply Kd.zR | apply Kd.zS | apply Kd.zU)); exact HO_6.out) hb); have n2_ := zA.mk (Kd.qP (by (with_reducible repeat (first | apply Kd.zR | apply Kd.zS | apply Kd.zU)); exact HO_7.out) hb); have n3_ := zA.mk (zP (g := gb101) (o := .cells #[.slice (some ad132) l0_0.length c0_0] 35 (0, 0)) (by (with_reducible repeat (first | refine zH ?_ _ | refine zJ ?_ | refine zG ?_ _)); exact BK101.out) hb); have n4_ := zA.mk (zP (g := gb102) (o := .cells #[.slice none 0 0, .slice none 0 0, .slice none 0 0] 88 (0, 0)) (by (with_reducible repeat (first | refine zH ?_ _ | refine zJ ?_ | refine zG ?_ _)); exact BK102.out) hb); have n5_ := zA.mk (zP (g := gb134) (o := .cells #[.int .i64 ((zI (zE l0_0 x8_1) x9_2).f0), .int .i64 ((zI (zE l0_0 x8_1) x9_2).f1)] 75 (0, 0)) (by (with_reducible repeat (first | refine zH ?_ _ | refine zJ ?_ | refine zG ?_ _)); exact BK134.out) hb); have n6_ := zA.mk (zN (by repeat (first | (with_reducible first | exact HB.out | apply zC | apply zB | apply zD | refine zF ?_ GE101.out | refine zF ?_ GE102.out | refine zF ?_ GE134.out) | exact HB.out)) hb); clear HO_5; clear HO_6; clear HO_7; clear BK101; clear BK102; clear BK134; clear HB; have HO_5 := n0_; have HO_6 := n1_; have HO_7 := n2_; have BK101 := n3_; have BK102 := n4_; have BK134 := n5_; have HB := n6_; clear n0_ n1_ n2_ n3_ n4_ n5_ n6_; (try clear hb); (try clear hb2); (try clear hk); (try clear hi)))
           (try simp only [Act.put, yay, yby, ycy])
           go_cut [99] (fun v99 wc => ∃ (kq : Nat) (x99_49 : Bool), v99 = .bool x99_49 ∧ zA (zQ.j4 kq t103 x5_3 x6_4 t136 x8_1 x9_2 x12_4 t139 t140 x99_49 l0_0 ((zI (zE l0_0 x8_1) x9_2).f0) ((zI (zE l0_0 x8_1) x9_2).f1) = some (r1, r2, r3, r4)) ∧ zA (kq ≤ k4) ∧ zA (Kd.R (Kd.int .i64) 2 wc w.heap.size (fun k_ => some k_ ≠ (v108 : Value).ownBlock ∧ some k_ ≠ ((.slice Ao38 t136.length co38) : Value).ownBlock) v105 x5_3) ∧ zA (Kd.R (Kd.int .i64) 2 wc w.heap.size (fun k_ => some k_ ≠ (v105 : Value).ownBlock ∧ some k_ ≠ ((.slice Ao38 t136.length co38) : Value).ownBlock) v108 x6_4) ∧ zA (Kd.R (Kd.int .i64) 2 wc w.heap.size (fun k_ => some k_ ≠ (v105 : Value).ownBlock ∧ some k_ ≠ (v108 : Value).ownBlock) (.slice Ao38 t136.length co38) t136) ∧ zA (wc.heap[gb101]? = some (.cells #[(.slice (some ad132) l0_0.length c0_0)] 35 (0, 0))) ∧ zA (wc.heap[gb102]? = some (.cells #[(.slice none 0 0), (.slice none 0 0), (.slice none 0 0)] 88 (0, 0))) ∧ zA (wc.heap[gb134]? = some (.cells #[.int .i64 ((zI (zE l0_0 x8_1) x9_2).f0), .int .i64 ((zI (zE l0_0 x8_1) x9_2).f1)] 75 (0, 0))) ∧ zA (Below w.heap.size w wc))
           case first =>
            have H := HC50.out
            clear HC50
            by_cases c52 : t139 = x9_2
            rotate_left
            next =>
             rw [if_neg c52] at H
             have c52b0 : (t139 == x9_2) = false := beq_eq_false_iff_ne.mpr c52
             have c52b1 : (t139 != x9_2) = true := bne_iff_ne.mpr c52
             (first | rw [c52b0] | (simp only [zX, zY]; rw [c52b0]) | skip)
             have H' := zA.mk H
             clear H
             go_wp2
             go_meet
             case rel => exact ⟨_, ((t140 != x9_2)), (by first | rfl | (simp; done) | (simp [*]; done)), H', ⟨by have := HK1.out; have := HK2.out; have := HK3.out; have := HK4.out; first | omega | exact yqy _⟩, ⟨by (try simp only [hl7_3]); (with_reducible repeat (first | apply Kd.zR | apply Kd.zS | apply Kd.zU)); exact HO_5.out⟩, ⟨by (try simp only [hl7_3]); (with_reducible repeat (first | apply Kd.zR | apply Kd.zS | apply Kd.zU)); exact HO_6.out⟩, ⟨by (try simp only [hl7_3]); (with_reducible repeat (first | apply Kd.zR | apply Kd.zS | apply Kd.zU)); exact HO_7.out⟩, ⟨by (try simp only [hl7_3]); (with_reducible repeat (first | refine zH ?_ _ | refine zJ ?_ | refine zG ?_ _)); exact BK101.out⟩, ⟨by (try simp only [hl7_3]); (with_reducible repeat (first | refine zH ?_ _ | refine zJ ?_ | refine zG ?_ _)); exact BK102.out⟩, ⟨by (try simp only [hl7_3]); (with_reducible repeat (first | refine zH ?_ _ | refine zJ ?_ | refine zG ?_ _)); exact BK134.out⟩, ⟨by repeat (first | (with_reducible first | exact HB.out | apply zC | apply zB | apply zD | refine zF ?_ GE101.out | refine zF ?_ GE102.out | refine zF ?_ GE134.out) | exact HB.out)⟩⟩
            rw [if_pos c52] at H
            have c52b0 : (t139 == x9_2) = true := beq_iff_eq.mpr c52
            have c52b1 : (t139 != x9_2) = false := bne_eq_false_iff_eq.mpr c52
            clear c52
            (first | rw [c52b0] | (simp only [zX, zY]; rw [c52b0]) | skip)
            have H' := zA.mk H
            clear H
            go_wp2
            go_meet
            case rel => exact ⟨_, (false), (by first | rfl | (simp; done) | (simp [*]; done)), H', ⟨by have := HK1.out; have := HK2.out; have := HK3.out; have := HK4.out; first | omega | exact yqy _⟩, ⟨by (try simp only [hl7_3]); (with_reducible repeat (first | apply Kd.zR | apply Kd.zS | apply Kd.zU)); exact HO_5.out⟩, ⟨by (try simp only [hl7_3]); (with_reducible repeat (first | apply Kd.zR | apply Kd.zS | apply Kd.zU)); exact HO_6.out⟩, ⟨by (try simp only [hl7_3]); (with_reducible repeat (first | apply Kd.zR | apply Kd.zS | apply Kd.zU)); exact HO_7.out⟩, ⟨by (try simp only [hl7_3]); (with_reducible repeat (first | refine zH ?_ _ | refine zJ ?_ | refine zG ?_ _)); exact BK101.out⟩, ⟨by (try simp only [hl7_3]); (with_reducible repeat (first | refine zH ?_ _ | refine zJ ?_ | refine zG ?_ _)); exact BK102.out⟩, ⟨by (try simp only [hl7_3]); (with_reducible repeat (first | refine zH ?_ _ | refine zJ ?_ | refine zG ?_ _)); exact BK134.out⟩, ⟨by repeat (first | (with_reducible first | exact HB.out | apply zC | apply zB | apply zD | refine zF ?_ GE101.out | refine zF ?_ GE102.out | refine zF ?_ GE134.out) | exact HB.out)⟩⟩
           case rest =>
            clear HC50
            try clear c1
            try clear p1
            try clear q1
            try clear hx1
            try clear c2
            try clear p2
            try clear c3
            try clear c4
            try clear c5
            try clear c6
            try clear p6
            try clear c8
            try clear c9
            try clear c11
            try clear c13
            try clear p13
            try clear q13
            try clear hx13
            try clear c14
            try clear c14b0
            try clear c15
            try clear c15b0
            try clear c16
            try clear c16b0
            try clear c17
            try clear c17b0
            try clear c18
            try clear c18b0
            try clear c19
            try clear c19b0
            try clear c20
            try clear c20b0
            try clear c21
            try clear c24
            try clear c25
            try clear c29
            try clear c32
            try clear c33
            try clear c40
            try clear c40b0
            try clear c41
            try clear c41b0
            try clear c41b1
            try clear c48
            try clear c48b0
            try clear c52
            try clear c52b0
            try clear c52b1
            try clear hcz22_0
            try clear hcz26_0
            try clear hcz26_1
            try clear hcz30_0
            try clear hcz34_0
            try clear hcz34_1
            try clear hcz9_0
            try clear hfz22_0
            try clear hfz26_0
            try clear hfz26_1
            try clear hfz30_0
            try clear hfz34_0
            try clear hfz34_1
            try clear hfz9_0
            try clear hx132_0
            try clear hx133_0
            try clear hx133_1
            try clear p1
            try clear p13
            try clear p132
            try clear p133
            try clear p2
            try clear p6
            try clear q1
            try clear q13
            try clear q132
            try clear q133
            obtain ⟨kq, x99_49, rfl, HA, HJ49, HO_5, HO_6, HO_7, BK101, BK102, BK134, HB⟩ := hcut
            cases kq with
            | zero => exact absurd HA.out (by simp [zQ.j4])
            | succ kj49 =>
             have H := HA.out
             clear HA
             simp only [zQ.j4] at H
             by_cases c53 : x99_49 = true
             rotate_left
             next =>
              replace c53 := Bool.eq_false_iff.mpr c53
              subst c53
              have H1 : (zQ.l3 kj49 t103 x5_3 x6_4 t136 x8_1 x9_2 (wrap64 (x12_4 + 1)) l0_0 ((zI (zE l0_0 x8_1) x9_2).f0) ((zI (zE l0_0 x8_1) x9_2).f1)) = some (r1, r2, r3, r4) := by rw [if_neg (show ¬ (false = true) by decide)] at H; exact H
              clear H
              have H := H1
              clear H1
              have H' := zA.mk H
              clear H
              go_wp2
              go_roundg kj49
              case measure => have := HK1.out; have := HK2.out; have := HK3.out; have := HK4.out; have := HJ49.out; omega
              case rel => exact ⟨(x6_4), (wrap64 (x12_4 + 1)), (by first | rfl | (simp; done) | (simp [*]; done)), H', ⟨by have := HK1.out; have := HK2.out; have := HK3.out; have := HK4.out; have := HJ49.out; omega⟩, ⟨by (try simp only [hl7_3]); (with_reducible repeat (first | apply Kd.zR | apply Kd.zS | apply Kd.zU)); exact HO_5.out⟩, ⟨by (try simp only [hl7_3]); (with_reducible repeat (first | apply Kd.zR | apply Kd.zS | apply Kd.zU)); exact HO_6.out⟩, ⟨by (try simp only [hl7_3]); (with_reducible repeat (first | apply Kd.zR | apply Kd.zS | apply Kd.zU)); exact HO_7.out⟩, ⟨by (try simp only [hl7_3]); (with_reducible repeat (first | refine zH ?_ _ | refine zJ ?_ | refine zG ?_ _)); exact BK101.out⟩, ⟨by (try simp only [hl7_3]); (with_reducible repeat (first | refine zH ?_ _ | refine zJ ?_ | refine zG ?_ _)); exact BK102.out⟩, ⟨by (try simp only [hl7_3]); (with_reducible repeat (first | refine zH ?_ _ | refine zJ ?_ | refine zG ?_ _)); exact BK134.out⟩, ⟨by repeat (first | (with_reducible first | exact HB.out | apply zC | apply zB | apply zD | refine zF ?_ GE101.out | refine zF ?_ GE102.out | refine zF ?_ GE134.out) | exact HB.out)⟩⟩
             subst c53
             have H1 : ((qt.f kj49 ((zI (zE l0_0 x8_1) x9_2).f1) t139).bind fun t141 => ((qt.f kj49 ((zI (zE l0_0 x8_1) x9_2).f1) t140).bind fun t142 => ((zw.f kj49 t141 t142).bind fun t143 => ((qn.f x6_4 (wrap64 ((wrap64 (6 * x8_1)) + x12_4)) (wrap64 ((wrap64 (6 * ((zI (zE l0_0 x8_1) x9_2).f0))) + t143))).bind fun t144 => (zQ.l3 kj49 t103 x5_3 t144 t136 x8_1 x9_2 (wrap64 (x12_4 + 1)) l0_0 ((zI (zE l0_0 x8_1) x9_2).f0) ((zI (zE l0_0 x8_1) x9_2).f1)))))) = some (r1, r2, r3, r4) := by rw [if_pos rfl] at H; exact H
             clear H
             have H := H1
             clear H1
             replace H := ydy.mp H
             obtain ⟨t141, A540, H⟩ := H
             replace H : ((qt.f kj49 ((zI (zE l0_0 x8_1) x9_2).f1) t140).bind fun t142 => ((zw.f kj49 t141 t142).bind fun t143 => ((qn.f x6_4 (wrap64 ((wrap64 (6 * x8_1)) + x12_4)) (wrap64 ((wrap64 (6 * ((zI (zE l0_0 x8_1) x9_2).f0))) + t143))).bind fun t144 => (zQ.l3 kj49 t103 x5_3 t144 t136 x8_1 x9_2 (wrap64 (x12_4 + 1)) l0_0 ((zI (zE l0_0 x8_1) x9_2).f0) ((zI (zE l0_0 x8_1) x9_2).f1))))) = some (r1, r2, r3, r4) := H
             have A54 := zA.mk A540
             clear A540
             replace H := ydy.mp H
             obtain ⟨t142, A550, H⟩ := H
             replace H : ((zw.f kj49 t141 t142).bind fun t143 => ((qn.f x6_4 (wrap64 ((wrap64 (6 * x8_1)) + x12_4)) (wrap64 ((wrap64 (6 * ((zI (zE l0_0 x8_1) x9_2).f0))) + t143))).bind fun t144 => (zQ.l3 kj49 t103 x5_3 t144 t136 x8_1 x9_2 (wrap64 (x12_4 + 1)) l0_0 ((zI (zE l0_0 x8_1) x9_2).f0) ((zI (zE l0_0 x8_1) x9_2).f1)))) = some (r1, r2, r3, r4) := H
             have A55 := zA.mk A550
             clear A550
             replace H := ydy.mp H
             obtain ⟨t143, A560, H⟩ := H
             replace H : ((qn.f x6_4 (wrap64 ((wrap64 (6 * x8_1)) + x12_4)) (wrap64 ((wrap64 (6 * ((zI (zE l0_0 x8_1) x9_2).f0))) + t143))).bind fun t144 => (zQ.l3 kj49 t103 x5_3 t144 t136 x8_1 x9_2 (wrap64 (x12_4 + 1)) l0_0 ((zI (zE l0_0 x8_1) x9_2).f0) ((zI (zE l0_0 x8_1) x9_2).f1))) = some (r1, r2, r3, r4) := H
             have A56 := zA.mk A560
             clear A560
             replace H := ydy.mp H
             obtain ⟨t144, A570, H⟩ := H
             replace H : (zQ.l3 kj49 t103 x5_3 t144 t136 x8_1 x9_2 (wrap64 (x12_4 + 1)) l0_0 ((zI (zE l0_0 x8_1) x9_2).f0) ((zI (zE l0_0 x8_1) x9_2).f1)) = some (r1, r2, r3, r4) := H
             have A57 := zA.mk A570
             clear A570
             have H' := zA.mk H
             clear H
             try go_wp2
             have n0_ := zA.mk (Kd.zU HO_5.out)
             have n1_ := zA.mk (Kd.zU HO_6.out)
             have n2_ := zA.mk (Kd.zU HO_7.out)
             have n3_ := zA.mk (zJ BK101.out)
             have n4_ := zA.mk (zJ BK102.out)
             have n5_ := zA.mk (zJ BK134.out)
             have n6_ := zA.mk (zD HB.out)
             clear HO_5
             clear HO_6
             clear HO_7
             clear BK101
             clear BK102
             clear BK134
             clear HB
             have HO_5 := n0_
             have HO_6 := n1_
             have HO_7 := n2_
             have BK101 := n3_
             have BK102 := n4_
             have BK134 := n5_
             have HB := n6_
             clear n0_ n1_ n2_ n3_ n4_ n5_ n6_
             refine Zy (n := 19) (S := fun w' => w'.cell? ⟨gb134, 0, none⟩ = some (.int .i64 ((zI (zE l0_0 x8_1) x9_2).f0)) ∧ w'.cell? ⟨gb134, 1, none⟩ = some (.int .i64 ((zI (zE l0_0 x8_1) x9_2).f1))) (ds := []) #[false, false, false, false, false, false, false, false, false, false, false, false, false, false, false, false, false, false, false] (by kernel_rfl) rfl rfl ⟨(zL BK134.out 0).trans rfl, (zL BK134.out 1).trans rfl⟩ (fun hHeld => ?_); refine ZF zQ.tab24 zQ.bits24 (fun HT_ HW_ => ?_)
             generalize wc.drew = w58 at HO_5 HO_6 HO_7 BK101 BK102 BK134 HB hHeld ⊢
             refine zf (i := 0) (N := some 100) (v := ?_) (a' := ?_) #[true, false, false, false, false, false, false, false, false, false, false, false, false, false, false, false, false, false, false] rfl rfl (zc HT_.out (by kernel_rfl)) (fun _ _ _ h => h) (Or.inl ⟨by rfl, ?_⟩) ?_ ?_
             rotate_left
             next =>
              intro w'
              go_simp
              with_reducible rfl
             rotate_left
             next =>
              simp only [Act.put, yay, yby, ycy, zX, zY]
              rfl
             refine zf (i := 1) (N := some 101) (v := ?_) (a' := ?_) #[true, true, false, false, false, false, false, false, false, false, false, false, false, false, false, false, false, false, false] rfl rfl (zc HT_.out (by kernel_rfl)) (fun _ _ _ h => h) (Or.inl ⟨by rfl, ?_⟩) ?_ ?_
             rotate_left
             next =>
              intro w'
              go_simp
              with_reducible rfl
             rotate_left
             next =>
              simp only [Act.put, yay, yby, ycy, zX, zY]
              rfl
             refine zf (i := 2) (N := some 102) (v := ?_) (a' := ?_) #[true, true, true, false, false, false, false, false, false, false, false, false, false, false, false, false, false, false, false] rfl rfl (zc HT_.out (by kernel_rfl)) (fun _ _ _ h => h) (Or.inl ⟨by rfl, ?_⟩) ?_ ?_
             rotate_left
             next =>
              intro w'
              go_simp
              with_reducible rfl
             rotate_left
             next =>
              simp only [Act.put, yay, yby, ycy, zX, zY]
              rfl
             refine zf (i := 3) (N := some 103) (v := ?_) (a' := ?_) #[true, true, true, true, false, false, false, false, false, false, false, false, false, false, false, false, false, false, false] rfl rfl (zc HT_.out (by kernel_rfl)) (fun _ _ _ h => h) (Or.inl ⟨by rfl, ?_⟩) ?_ ?_
             rotate_left
             next =>
              intro w'
              go_simp
              with_reducible rfl
             rotate_left
             next =>
              simp only [Act.put, yay, yby, ycy, zX, zY]
              rfl
             refine zf (i := 4) (N := some 104) (v := ?_) (a' := ?_) #[true, true, true, true, true, false, false, false, false, false, false, false, false, false, false, false, false, false, false] rfl rfl (zc HT_.out (by kernel_rfl)) (fun _ _ _ h => h) (Or.inl ⟨by rfl, ?_⟩) ?_ ?_
             rotate_left
             next =>
              intro w'
              go_simp
              with_reducible rfl
             rotate_left
             next =>
              simp only [Act.put, yay, yby, ycy, zX, zY]
              rfl
             refine zf (i := 5) (N := some 105) (v := ?_) (a' := ?_) #[true, true, true, true, true, true, false, false, false, false, false, false, false, false, false, false, false, false, false] rfl rfl (zc HT_.out (by kernel_rfl)) (fun _ _ _ h => h) (Or.inl ⟨by rfl, ?_⟩) ?_ ?_
             rotate_left
             next =>
              intro w'
              go_simp
              with_reducible rfl
             rotate_left
             next =>
              simp only [Act.put, yay, yby, ycy, zX, zY]
              rfl
             refine zf (i := 8) (N := some 108) (v := ?_) (a' := ?_) #[true, true, true, true, true, true, false, false, true, false, false, false, false, false, false, false, false, false, false] rfl rfl (zc HT_.out (by kernel_rfl)) (fun _ _ _ h => h) (Or.inl ⟨by rfl, ?_⟩) ?_ ?_
             rotate_left
             next =>
              intro w'
              go_simp
              with_reducible rfl
             rotate_left
             next =>
              simp only [Act.put, yay, yby, ycy, zX, zY]
              rfl
             refine zf (i := 10) (N := some 110) (v := ?_) (a' := ?_) #[true, true, true, true, true, true, false, false, true, false, true, false, false, false, false, false, false, false, false] rfl rfl (zc HT_.out (by kernel_rfl)) (fun _ _ _ h => h) (Or.inl ⟨by rfl, ?_⟩) ?_ ?_
             rotate_left
             next =>
              intro w'
              go_simp
              with_reducible rfl
             rotate_left
             next =>
              simp only [Act.put, yay, yby, ycy, zX, zY]
              rfl
             refine zf (i := 12) (N := some 112) (v := ?_) (a' := ?_) #[true, true, true, true, true, true, false, false, true, false, true, false, true, false, false, false, false, false, false] rfl rfl (zc HT_.out (by kernel_rfl)) (fun _ _ _ h => h) (Or.inl ⟨by rfl, ?_⟩) ?_ ?_
             rotate_left
             next =>
              intro w'
              go_simp
              with_reducible rfl
             rotate_left
             next =>
              simp only [Act.put, yay, yby, ycy, zX, zY]
              rfl
             refine zf (i := 14) (N := some 114) (v := ?_) (a' := ?_) #[true, true, true, true, true, true, false, false, true, false, true, false, true, false, true, false, false, false, false] rfl rfl (zc HT_.out (by kernel_rfl)) (fun _ _ _ h => h) (Or.inl ⟨by rfl, ?_⟩) ?_ ?_
             rotate_left
             next =>
              intro w'
              go_simp
              with_reducible rfl
             rotate_left
             next =>
              simp only [Act.put, yay, yby, ycy, zX, zY]
              rfl
             refine qw (i := 6) (N := some 106) (v := ?_) (a' := ?_) #[true, true, true, true, true, true, true, false, true, false, true, false, true, false, true, false, false, false, false] rfl rfl (qC HT_.out HW_.out (by kernel_rfl)) (fun _ _ _ h => h) (Or.inl ⟨by rfl, ?_⟩) hHeld ?_ ?_
             rotate_left
             next =>
              rintro w' ⟨s0, s1⟩
              go_simp
              with_reducible rfl
             rotate_left
             next =>
              simp only [Act.put, yay, yby, ycy, zX, zY]
              rfl
             refine zf (i := 7) (N := some 107) (v := ?_) (a' := ?_) #[true, true, true, true, true, true, true, true, true, false, true, false, true, false, true, false, false, false, false] rfl rfl (zc HT_.out (by kernel_rfl)) (fun _ _ _ h => h) (Or.inl ⟨by rfl, ?_⟩) ?_ ?_
             rotate_left
             next =>
              intro w'
              go_simp
              with_reducible rfl
             rotate_left
             next =>
              simp only [Act.put, yay, yby, ycy, zX, zY]
              rfl
             refine qw (i := 9) (N := some 109) (v := ?_) (a' := ?_) #[true, true, true, true, true, true, true, true, true, true, true, false, true, false, true, false, false, false, false] rfl rfl (qC HT_.out HW_.out (by kernel_rfl)) (fun _ _ _ h => h) (Or.inl ⟨by rfl, ?_⟩) hHeld ?_ ?_
             rotate_left
             next =>
              rintro w' ⟨s0, s1⟩
              go_simp
              with_reducible rfl
             rotate_left
             next =>
              simp only [Act.put, yay, yby, ycy, zX, zY]
              rfl
             refine qw (i := 13) (N := some 113) (v := ?_) (a' := ?_) #[true, true, true, true, true, true, true, true, true, true, true, false, true, true, true, false, false, false, false] rfl rfl (qC HT_.out HW_.out (by kernel_rfl)) (fun _ _ _ h => h) (Or.inl ⟨by rfl, ?_⟩) hHeld ?_ ?_
             rotate_left
             next =>
              rintro w' ⟨s0, s1⟩
              go_simp
              with_reducible rfl
             rotate_left
             next =>
              simp only [Act.put, yay, yby, ycy, zX, zY]
              rfl
             refine zA0 (i := 11) (N := some 111) #[true, true, true, true, true, true, true, true, true, true, true, true, true, true, true, false, false, false, false] rfl rfl (Zi HT_.out (by kernel_rfl)) (by decide) (fun K hK => ?_)
             refine Qj Try.func82 (by kernel_rfl) rfl #[.int .i64 ((zI (zE l0_0 x8_1) x9_2).f1), .int .i64 t139] (by rfl) rfl rfl (by (try simp only [yiy, yjy, yky]); first | done | rfl | (simp only [yly, ymy]; rfl)) ?_
             with_reducible refine (qt.calls kj49 ((zI (zE l0_0 x8_1) x9_2).f1) t139 t141 _ A54.out).mono ?_
             rintro e w59 ⟨rfl, hb⟩
             refine ⟨_, rfl, ?_⟩
             have n0_ := zA.mk (Kd.qP (by (with_reducible repeat (first | apply Kd.zR | apply Kd.zS | apply Kd.zU)); exact HO_5.out) hb)
             have n1_ := zA.mk (Kd.qP (by (with_reducible repeat (first | apply Kd.zR | apply Kd.zS | apply Kd.zU)); exact HO_6.out) hb)
             have n2_ := zA.mk (Kd.qP (by (with_reducible repeat (first | apply Kd.zR | apply Kd.zS | apply Kd.zU)); exact HO_7.out) hb)
             have n3_ := zA.mk (zP (g := gb101) (o := .cells #[.slice (some ad132) l0_0.length c0_0] 35 (0, 0)) (by (with_reducible repeat (first | refine zH ?_ _ | refine zJ ?_ | refine zG ?_ _)); exact BK101.out) hb)
             have n4_ := zA.mk (zP (g := gb102) (o := .cells #[.slice none 0 0, .slice none 0 0, .slice none 0 0] 88 (0, 0)) (by (with_reducible repeat (first | refine zH ?_ _ | refine zJ ?_ | refine zG ?_ _)); exact BK102.out) hb)
             have n5_ := zA.mk (zP (g := gb134) (o := .cells #[.int .i64 ((zI (zE l0_0 x8_1) x9_2).f0), .int .i64 ((zI (zE l0_0 x8_1) x9_2).f1)] 75 (0, 0)) (by (with_reducible repeat (first | refine zH ?_ _ | refine zJ ?_ | refine zG ?_ _)); exact BK134.out) hb)
             have n6_ := zA.mk (zN (by repeat (first | (with_reducible first | exact HB.out | apply zC | apply zB | apply zD | refine zF ?_ GE101.out | refine zF ?_ GE102.out | refine zF ?_ GE134.out) | exact HB.out)) hb)
             clear HO_5
             clear HO_6
             clear HO_7
             clear BK101
             clear BK102
             clear BK134
             clear HB
             have HO_5 := n0_
             have HO_6 := n1_
             have HO_7 := n2_
             have BK101 := n3_
             have BK102 := n4_
             have BK134 := n5_
             have HB := n6_
             clear n0_ n1_ n2_ n3_ n4_ n5_ n6_
             (try clear hb)
             (try clear hb2)
             (try clear hk)
             (try clear hi)
             refine hK.out _ _ ⟨(zL BK134.out 0).trans rfl, (zL BK134.out 1).trans rfl⟩ (fun hHeld => ?_)
             clear hK K
             refine QM (a' := ?_) ?_ ?_
             rotate_left
             next =>
              show Act.put _ (some 111) _ = _
              simp only [Act.put, yay, yby, ycy, zX, zY]
              rfl
             refine zA0 (i := 15) (N := some 115) #[true, true, true, true, true, true, true, true, true, true, true, true, true, true, true, true, false, false, false] rfl rfl (Zi HT_.out (by kernel_rfl)) (by decide) (fun K hK => ?_)
             refine Qj Try.func82 (by kernel_rfl) rfl #[.int .i64 ((zI (zE l0_0 x8_1) x9_2).f1), .int .i64 t140] (by rfl) rfl rfl (by (try simp only [yiy, yjy, yky]); first | done | rfl | (simp only [yly, ymy]; rfl)) ?_
             with_reducible refine (qt.calls kj49 ((zI (zE l0_0 x8_1) x9_2).f1) t140 t142 _ A55.out).mono ?_
             rintro e w60 ⟨rfl, hb⟩
             refine ⟨_, rfl, ?_⟩
             have n0_ := zA.mk (Kd.qP (by (with_reducible repeat (first | apply Kd.zR | apply Kd.zS | apply Kd.zU)); exact HO_5.out) hb)
             have n1_ := zA.mk (Kd.qP (by (with_reducible repeat (first | apply Kd.zR | apply Kd.zS | apply Kd.zU)); exact HO_6.out) hb)
             have n2_ := zA.mk (Kd.qP (by (with_reducible repeat (first | apply Kd.zR | apply Kd.zS | apply Kd.zU)); exact HO_7.out) hb)
             have n3_ := zA.mk (zP (g := gb101) (o := .cells #[.slice (some ad132) l0_0.length c0_0] 35 (0, 0)) (by (with_reducible repeat (first | refine zH ?_ _ | refine zJ ?_ | refine zG ?_ _)); exact BK101.out) hb)
             have n4_ := zA.mk (zP (g := gb102) (o := .cells #[.slice none 0 0, .slice none 0 0, .slice none 0 0] 88 (0, 0)) (by (with_reducible repeat (first | refine zH ?_ _ | refine zJ ?_ | refine zG ?_ _)); exact BK102.out) hb)
             have n5_ := zA.mk (zP (g := gb134) (o := .cells #[.int .i64 ((zI (zE l0_0 x8_1) x9_2).f0), .int .i64 ((zI (zE l0_0 x8_1) x9_2).f1)] 75 (0, 0)) (by (with_reducible repeat (first | refine zH ?_ _ | refine zJ ?_ | refine zG ?_ _)); exact BK134.out) hb)
             have n6_ := zA.mk (zN (by repeat (first | (with_reducible first | exact HB.out | apply zC | apply zB | apply zD | refine zF ?_ GE101.out | refine zF ?_ GE102.out | refine zF ?_ GE134.out) | exact HB.out)) hb)
             clear HO_5
             clear HO_6
             clear HO_7
             clear BK101
             clear BK102
             clear BK134
             clear HB
             have HO_5 := n0_
             have HO_6 := n1_
             have HO_7 := n2_
             have BK101 := n3_
             have BK102 := n4_
             have BK134 := n5_
             have HB := n6_
             clear n0_ n1_ n2_ n3_ n4_ n5_ n6_
             (try clear hb)
             (try clear hb2)
             (try clear hk)
             (try clear hi)
             refine hK.out _ _ ⟨(zL BK134.out 0).trans rfl, (zL BK134.out 1).trans rfl⟩ (fun hHeld => ?_)
             clear hK K
             refine QM (a' := ?_) ?_ ?_
             rotate_left
             next =>
              show Act.put _ (some 115) _ = _
              simp only [Act.put, yay, yby, ycy, zX, zY]
              rfl
             refine zA0 (i := 16) (N := some 116) #[true, true, true, true, true, true, true, true, true, true, true, true, true, true, true, true, true, false, false] rfl rfl (Zi HT_.out (by kernel_rfl)) (by decide) (fun K hK => ?_)
             refine Qj Try.func116 (by kernel_rfl) rfl #[.int .i64 t141, .int .i64 t142] (by rfl) rfl rfl (by (try simp only [yiy, yjy, yky]); first | done | rfl | (simp only [yly, ymy]; rfl)) ?_
             with_reducible refine (zw.calls kj49 t141 t142 t143 _ A56.out).mono ?_
             rintro e w61 ⟨rfl, hb⟩
             refine ⟨_, rfl, ?_⟩
             have n0_ := zA.mk (Kd.qP (by (with_reducible repeat (first | apply Kd.zR | apply Kd.zS | apply Kd.zU)); exact HO_5.out) hb)
             have n1_ := zA.mk (Kd.qP (by (with_reducible repeat (first | apply Kd.zR | apply Kd.zS | apply Kd.zU)); exact HO_6.out) hb)
             have n2_ := zA.mk (Kd.qP (by (with_reducible repeat (first | apply Kd.zR | apply Kd.zS | apply Kd.zU)); exact HO_7.out) hb)
             have n3_ := zA.mk (zP (g := gb101) (o := .cells #[.slice (some ad132) l0_0.length c0_0] 35 (0, 0)) (by (with_reducible repeat (first | refine zH ?_ _ | refine zJ ?_ | refine zG ?_ _)); exact BK101.out) hb)
             have n4_ := zA.mk (zP (g := gb102) (o := .cells #[.slice none 0 0, .slice none 0 0, .slice none 0 0] 88 (0, 0)) (by (with_reducible repeat (first | refine zH ?_ _ | refine zJ ?_ | refine zG ?_ _)); exact BK102.out) hb)
             have n5_ := zA.mk (zP (g := gb134) (o := .cells #[.int .i64 ((zI (zE l0_0 x8_1) x9_2).f0), .int .i64 ((zI (zE l0_0 x8_1) x9_2).f1)] 75 (0, 0)) (by (with_reducible repeat (first | refine zH ?_ _ | refine zJ ?_ | refine zG ?_ _)); exact BK134.out) hb)
             have n6_ := zA.mk (zN (by repeat (first | (with_reducible first | exact HB.out | apply zC | apply zB | apply zD | refine zF ?_ GE101.out | refine zF ?_ GE102.out | refine zF ?_ GE134.out) | exact HB.out)) hb)
             clear HO_5
             clear HO_6
             clear HO_7
             clear BK101
             clear BK102
             clear BK134
             clear HB
             have HO_5 := n0_
             have HO_6 := n1_
             have HO_7 := n2_
             have BK101 := n3_
             have BK102 := n4_
             have BK134 := n5_
             have HB := n6_
             clear n0_ n1_ n2_ n3_ n4_ n5_ n6_
             (try clear hb)
             (try clear hb2)
             (try clear hk)
             (try clear hi)
             obtain ⟨Ao62, co62, eo62⟩ := Kd.ZA HO_6.out
             (first | subst eo62 | (injection eo62 with f1_ f2_ f3_; have f4_ := f1_.symm; have f5_ := f3_.symm; clear f1_ f2_ f3_; subst f4_; subst f5_))
             refine hK.out _ _ ⟨(zL BK134.out 0).trans rfl, (zL BK134.out 1).trans rfl⟩ (fun hHeld => ?_)
             clear hK K
             refine QM (a' := ?_) ?_ ?_
             rotate_left
             next =>
              show Act.put _ (some 116) _ = _
              simp only [Act.put, yay, yby, ycy, zX, zY]
              rfl
             refine zf (i := 17) (N := some 117) (v := ?_) (a' := ?_) #[true, true, true, true, true, true, true, true, true, true, true, true, true, true, true, true, true, true, false] rfl rfl (zc HT_.out (by kernel_rfl)) (fun _ _ _ h => h) (Or.inl ⟨by rfl, ?_⟩) ?_ ?_
             rotate_left
             next =>
              intro w'
              go_simp
              with_reducible rfl
             rotate_left
             next =>
              simp only [Act.put, yay, yby, ycy, zX, zY]
              rfl
             refine zA0 (i := 18) (N := some 118) #[true, true, true, true, true, true, true, true, true, true, true, true, true, true, true, true, true, true, true] rfl rfl (Zi HT_.out (by kernel_rfl)) (by decide) (fun K hK => ?_)
             refine Qj Try.func92 (by kernel_rfl) rfl #[.slice Ao62 x6_4.length co62, .int .i64 (wrap64 ((wrap64 (6 * x8_1)) + x12_4)), .int .i64 (wrap64 ((wrap64 (6 * ((zI (zE l0_0 x8_1) x9_2).f0))) + t143))] (by rfl) rfl rfl (by (try simp only [yiy, yjy, yky]); first | done | rfl | (simp only [yly, ymy]; rfl)) ?_
             with_reducible refine (qn.calls (fun k_ => some k_ = (.slice Ao62 x6_4.length co62 : Value).ownBlock) (.slice Ao62 x6_4.length co62) x6_4 (wrap64 ((wrap64 (6 * x8_1)) + x12_4)) (wrap64 ((wrap64 (6 * ((zI (zE l0_0 x8_1) x9_2).f0))) + t143)) t144 w _ ?side1 ?side2 A57.out).mono ?_
             (case side1 => repeat (first | (with_reducible first | exact HB.out | apply zC | apply zB | apply zD | refine zF ?_ GE101.out | refine zF ?_ GE102.out | refine zF ?_ GE134.out) | exact HB.out))
             (case side2 => exact Kd.Qf rfl HO_6.out)
             rintro e w63 ⟨rfl, hy0, hb, hkp⟩
             refine ⟨_, rfl, ?_⟩
             have n0_ := zA.mk (Kd.zo (ok' := fun k_ => some k_ ≠ (.slice Ao62 x6_4.length co62 : Value).ownBlock ∧ some k_ ≠ (.slice Ao38 t136.length co38 : Value).ownBlock) (Kd.zAE (HO_5.out) hkp (fun k_ hk_ hs_ => (hk_.1) hs_)) (fun k_ hk_ => ⟨hk_.1.1, hk_.1.2⟩))
             have n1_ := zA.mk (Kd.zCM rfl hy0 (fun k_ e_ => HO_6.out.1 k_ e_))
             have n2_ := zA.mk (Kd.zo (ok' := fun k_ => some k_ ≠ (v105 : Value).ownBlock ∧ some k_ ≠ (.slice Ao62 x6_4.length co62 : Value).ownBlock) (Kd.zAE (HO_7.out) hkp (fun k_ hk_ hs_ => (hk_.2) hs_)) (fun k_ hk_ => ⟨hk_.1.1, hk_.1.2⟩))
             have n3_ := zA.mk (Zf (by (with_reducible repeat (first | refine zH ?_ _ | refine zJ ?_ | refine zG ?_ _)); exact BK101.out) hkp (fun hs_ => (fun e_ => (Kd.zBb HO_6.out BK101.out (by decide)) e_) hs_))
             have n4_ := zA.mk (Zf (by (with_reducible repeat (first | refine zH ?_ _ | refine zJ ?_ | refine zG ?_ _)); exact BK102.out) hkp (fun hs_ => (fun e_ => (Kd.zBb HO_6.out BK102.out (by decide)) e_) hs_))
             have n5_ := zA.mk (Zf (by (with_reducible repeat (first | refine zH ?_ _ | refine zJ ?_ | refine zG ?_ _)); exact BK134.out) hkp (fun hs_ => (fun e_ => (Kd.zBb HO_6.out BK134.out (by decide)) e_) hs_))
             have n6_ := zA.mk (hb)
             clear HO_5
             clear HO_6
             clear HO_7
             clear BK101
             clear BK102
             clear BK134
             clear HB
             have HO_5 := n0_
             have HO_6 := n1_
             have HO_7 := n2_
             have BK101 := n3_
             have BK102 := n4_
             have BK134 := n5_
             have HB := n6_
             clear n0_ n1_ n2_ n3_ n4_ n5_ n6_
             (try clear hb)
             (try clear hkp)
             (try clear hy0)
             refine hK.out _ _ ⟨(zL BK134.out 0).trans rfl, (zL BK134.out 1).trans rfl⟩ (fun hHeld => ?_)
             clear hK K
             refine QM (a' := ?_) ?_ ?_
             rotate_left
             next =>
              show Act.put _ (some 118) _ = _
              simp only [Act.put, yay, yby, ycy, zX, zY]
              rfl
             refine Qu (Zs HT_.out (by kernel_rfl)) ?_
             try go_wp2
             go_roundg kj49
             case measure => have := HK1.out; have := HK2.out; have := HK3.out; have := HK4.out; have := HJ49.out; omega
             case rel => exact ⟨(t144), (wrap64 (x12_4 + 1)), (by first | rfl | (simp; done) | (simp [*]; done)), H', ⟨by have := HK1.out; have := HK2.out; have := HK3.out; have := HK4.out; have := HJ49.out; omega⟩, ⟨by (try simp only [hl7_3]); (with_reducible repeat (first | apply Kd.zR | apply Kd.zS | apply Kd.zU)); exact HO_5.out⟩, ⟨by (try simp only [hl7_3]); (with_reducible repeat (first | apply Kd.zR | apply Kd.zS | apply Kd.zU)); exact HO_6.out⟩, ⟨by (try simp only [hl7_3]); (with_reducible repeat (first | apply Kd.zR | apply Kd.zS | apply Kd.zU)); exact HO_7.out⟩, ⟨by (try simp only [hl7_3]); (with_reducible repeat (first | refine zH ?_ _ | refine zJ ?_ | refine zG ?_ _)); exact BK101.out⟩, ⟨by (try simp only [hl7_3]); (with_reducible repeat (first | refine zH ?_ _ | refine zJ ?_ | refine zG ?_ _)); exact BK102.out⟩, ⟨by (try simp only [hl7_3]); (with_reducible repeat (first | refine zH ?_ _ | refine zJ ?_ | refine zG ?_ _)); exact BK134.out⟩, ⟨by repeat (first | (with_reducible first | exact HB.out | apply zC | apply zB | apply zD | refine zF ?_ GE101.out | refine zF ?_ GE102.out | refine zF ?_ GE134.out) | exact HB.out)⟩⟩
mutual
def zi.l0 : Nat → Int → List (List Int) → Int → List (List Int) → List (List Int) → List (List Int) → Option ((List (List Int)))
 | 0, _, _, _, _, _, _ => none
 | k + 1, x1, x7, x8, x115000, x115001, x115002 => if x8 < (x115000.length : Int) then (zi.l1 k x1 x7 x8 0 x115000 x115001 x115002) else (some x7)
def zi.l1 : Nat → Int → List (List Int) → Int → Int → List (List Int) → List (List Int) → List (List Int) → Option ((List (List Int)))
 | 0, _, _, _, _, _, _, _ => none
 | k + 1, x1, x7, x8, x9, x115000, x115001, x115002 => if x9 < 4 then (if 0 ≤ x8 then (if x8 < (x115000.length : Int) then (if 0 ≤ x9 then (if x9 < ((qi x115000 x8).length : Int) then (if (rd (qi x115000 x8) x9) = x1 then (if x7.length < 5864062014805 then (zi.l1 k x1 (x7 ++ [(([x8, x9] : List Int))]) x8 (wrap64 (x9 + 1)) x115000 x115001 x115002) else (none)) else (zi.l1 k x1 x7 x8 (wrap64 (x9 + 1)) x115000 x115001 x115002)) else (none)) else (none)) else (none)) else (none)) else (zi.l0 k x1 x7 (wrap64 (x8 + 1)) x115000 x115001 x115002)
end
def zi.f (k : Nat) (l0_0 : List (List (zr))) (a1 : Int) : Option ((List (List Int))) := (zQ.f k l0_0).bind fun bt102 => (zi.l0 k a1 (([] : List (List Int))) 0 bt102.1 bt102.2.1 bt102.2.2.1)
set_option maxHeartbeats 8000000 in
set_option maxRecDepth 100000 in
theorem zi.calls (k : Nat) (A0_0 : Option Addr) (c0_0 : Nat) (l0_0 : List (List (zr))) (a1 : Int) (r : List (List Int)) (w : World) (hr0_0 : Kd.C (Kd.slice 75 qy) w A0_0 l0_0.length l0_0) (hc0_0 : l0_0.length ≤ c0_0) (h : zi.f k l0_0 a1 = some r) :
 Calls Try.prog 48 #[.agg #[.slice A0_0 l0_0.length c0_0], .int .i64 a1] w fun e w' => ∃ v0_ : Value, e = .returned (v0_) ∧ Kd.S (Kd.slice 2 (Kd.int .i64)) 22 w' w.heap.size (fun _ => True) v0_ r ∧ Below w.heap.size w w' := by
 have hu35 := Try.underlying35
 have hu88 := Try.underlying88
 have HR0_0 := zA.mk hr0_0
 have HC0_0 := zA.mk hc0_0
 clear hr0_0 hc0_0
 have HB := zA.mk (yry w.heap.size w)
 have H : ((zQ.f k l0_0).bind fun bt102 => (zi.l0 k a1 (([] : List (List Int))) 0 bt102.1 bt102.2.1 bt102.2.2.1)) = some r := h
 clear h
 replace H := ydy.mp H
 obtain ⟨⟨t102, t105, t108, t111⟩, A30, H⟩ := H
 replace H : (zi.l0 k a1 (([] : List (List Int))) 0 t102 t105 t108) = some r := H
 have A3 := zA.mk A30
 clear A30
 obtain ⟨y115, hy115⟩ : ∃ y_ : List (List Int), y_ = (([] : List (List Int))) := ⟨_, rfl⟩
 replace H : (zi.l0 k a1 y115 0 t102 t105 t108) = some r := by first | (rw [hy115]; with_reducible exact H) | (have H2_ := (yfy _ _).symm.trans H; rw [hy115]; with_reducible exact H2_) | (have H2_ := (yfy _ _).symm.trans H; with_reducible exact H2_) | with_reducible exact H | (rw [hy115]; exact H) | exact H
 have Ny115 := zA.mk hy115
 clear hy115
 have H' := zA.mk H
 clear H
 go_enter Try.func48, Try.ntmps48
 go_wp2_with (first | ((with_reducible refine zq (N := 2) rfl ?_); refine zv ?hg (N := 2) ?hd (cs := #[.slice A0_0 l0_0.length c0_0]) (t := 35) ?hr ?_; (case hd => rfl); (case hg => rfl); (case hr => first | (go_simp; done) | (go_simp; rfl)); intro gb101 hg w4 hbox hb; have n0_ := zA.mk (zN (by repeat (first | (with_reducible first | exact HB.out | apply zC | apply zB | apply zD) | exact HB.out)) hb); have n1_ := zA.mk (hbox); have n2_ := zA.mk ((by rw [hg]; exact (zO (by repeat (first | (with_reducible first | exact HB.out | apply zC | apply zB | apply zD) | exact HB.out))) : w.heap.size ≤ gb101)); have n3_ := zA.mk ((by rw [hg]; exact (zO (by repeat (first | (with_reducible first | exact HB.out | apply zC | apply zB | apply zD) | exact HB.out))) : w.heap.size ≤ gb101)); clear HB; have HB := n0_; have BK101 := n1_; have GW101 := n2_; have GE101 := n3_; clear n0_ n1_ n2_ n3_; clear hb hbox hg; have hcz5_0 : w4.cell? ⟨gb101, 0, none⟩ = some (.slice A0_0 l0_0.length c0_0) := (zL BK101.out 0).trans rfl; have hfz5_0 := zM BK101.out 0) | ((with_reducible refine zb (f := 84) rfl ?_); refine qH (some 12) rfl rfl Try.func84 (by kernel_rfl) rfl #[.agg #[.slice A0_0 l0_0.length c0_0]] rfl (by (try simp only [yiy, yjy, yky]); first | done | rfl | (simp only [yly, ymy]; rfl)) ?_; (with_reducible refine (zQ.calls k _ _ l0_0 t102 t105 t108 t111 _ ?side1 ?side2 A3.out).mono ?_); (case side1 => repeat (first | exact (Kd.qK HR0_0.out HB.out) | (with_reducible refine Kd.zx ?_ _) | (with_reducible refine Kd.zy ?_ _) | (with_reducible refine Kd.qM ?_))); (case side2 => exact HC0_0.out); rintro e w6 ⟨v103, v106, v109, v112, rfl, ho0, ho1, ho2, ho3, hb⟩; refine ⟨_, rfl, ?_⟩; have n0_ := zA.mk (Kd.QS ho0 (zO (by repeat (first | (with_reducible first | exact HB.out | apply zC | apply zB | apply zD | refine zF ?_ GE101.out) | exact HB.out)))); have n1_ := zA.mk (Kd.QS ho1 (zO (by repeat (first | (with_reducible first | exact HB.out | apply zC | apply zB | apply zD | refine zF ?_ GE101.out) | exact HB.out)))); have n2_ := zA.mk (Kd.QS ho2 (zO (by repeat (first | (with_reducible first | exact HB.out | apply zC | apply zB | apply zD | refine zF ?_ GE101.out) | exact HB.out)))); have n3_ := zA.mk (Kd.ZE ho3 (zO (by repeat (first | (with_reducible first | exact HB.out | apply zC | apply zB | apply zD | refine zF ?_ GE101.out) | exact HB.out)))); have n4_ := zA.mk (zP (g := gb101) (o := .cells #[.slice A0_0 l0_0.length c0_0] 35 (0, 0)) (by (with_reducible repeat (first | refine zH ?_ _ | refine zJ ?_ | refine zG ?_ _)); exact BK101.out) hb); have n5_ := zA.mk (zN (by repeat (first | (with_reducible first | exact HB.out | apply zC | apply zB | apply zD | refine zF ?_ GE101.out) | exact HB.out)) hb); clear BK101; clear HB; have HO104 := n0_; have HO107 := n1_; have HO110 := n2_; have HO113 := n3_; have BK101 := n4_; have HB := n5_; clear n0_ n1_ n2_ n3_ n4_ n5_; (try clear hb); (try clear hb2); (try clear hk); (try clear hi); (try clear ho0); (try clear ho1); (try clear ho2); (try clear ho3)) | ((with_reducible refine zq (N := 5) rfl ?_); refine zv ?hg (N := 5) ?hd (cs := #[.slice none 0 0, .slice none 0 0, .slice none 0 0]) (t := 88) ?hr ?_; (case hd => rfl); (case hg => rfl); (case hr => first | (go_simp; done) | (go_simp; rfl)); intro gb114 hg w7 hbox hb; have n0_ := zA.mk (Kd.Js (by (with_reducible repeat (first | apply Kd.zl | apply Kd.zm | apply Kd.qE)); exact HO104.out) hb); have n1_ := zA.mk (Kd.Js (by (with_reducible repeat (first | apply Kd.zl | apply Kd.zm | apply Kd.qE)); exact HO107.out) hb); have n2_ := zA.mk (Kd.Js (by (with_reducible repeat (first | apply Kd.zl | apply Kd.zm | apply Kd.qE)); exact HO110.out) hb); have n3_ := zA.mk (Kd.qP (by (with_reducible repeat (first | apply Kd.zR | apply Kd.zS | apply Kd.zU)); exact HO113.out) hb); have n4_ := zA.mk (zP (g := gb101) (o := .cells #[.slice A0_0 l0_0.length c0_0] 35 (0, 0)) (by (with_reducible repeat (first | refine zH ?_ _ | refine zJ ?_ | refine zG ?_ _)); exact BK101.out) hb); have n5_ := zA.mk (zN (by repeat (first | (with_reducible first | exact HB.out | apply zC | apply zB | apply zD | refine zF ?_ GE101.out) | exact HB.out)) hb); have n6_ := zA.mk (hbox); have n7_ := zA.mk ((by rw [hg]; exact (zO (by repeat (first | (with_reducible first | exact HB.out | apply zC | apply zB | apply zD | refine zF ?_ GE101.out) | exact HB.out))) : w.heap.size ≤ gb114)); have n8_ := zA.mk ((by rw [hg]; exact (zO (by repeat (first | (with_reducible first | exact HB.out | apply zC | apply zB | apply zD | refine zF ?_ GE101.out) | exact HB.out))) : w.heap.size ≤ gb114)); have n9_ := zA.mk ((by rw [hg]; exact Nat.ne_of_lt (qT (g := gb101) (o := .cells #[.slice A0_0 l0_0.length c0_0] 35 (0, 0)) (by (with_reducible repeat (first | refine zH ?_ _ | refine zJ ?_ | refine zG ?_ _)); exact BK101.out)) : gb101 ≠ gb114)); have n10_ := zA.mk ((by rw [hg]; exact Nat.ne_of_gt (qT (g := gb101) (o := .cells #[.slice A0_0 l0_0.length c0_0] 35 (0, 0)) (by (with_reducible repeat (first | refine zH ?_ _ | refine zJ ?_ | refine zG ?_ _)); exact BK101.out)) : gb114 ≠ gb101)); clear HO104; clear HO107; clear HO110; clear HO113; clear BK101; clear HB; have HO104 := n0_; have HO107 := n1_; have HO110 := n2_; have HO113 := n3_; have BK101 := n4_; have HB := n5_; have BK114 := n6_; have GW114 := n7_; have GE114 := n8_; have NB101_114 := n9_; have NB114_101 := n10_; clear n0_ n1_ n2_ n3_ n4_ n5_ n6_ n7_ n8_ n9_ n10_; clear hb hbox hg; obtain ⟨Ao8, co8, eo8⟩ := Kd.QW HO104.out; subst eo8; have hnb9 := NB114_101.out; have hnc9 := NB101_114.out; have hcz10_0 : w7.cell? ⟨gb114, 0, none⟩ = some (.slice none 0 0) := (zL BK114.out 0).trans rfl; have hcz10_1 : w7.cell? ⟨gb114, 1, none⟩ = some (.slice none 0 0) := (zL BK114.out 1).trans rfl; have hcz10_2 : w7.cell? ⟨gb114, 2, none⟩ = some (.slice none 0 0) := (zL BK114.out 2).trans rfl; have hfz10_0 := zM BK114.out 0; have hfz10_1 := zM BK114.out 1; have hfz10_2 := zM BK114.out 2; obtain ⟨Ao11, co11, eo11⟩ := Kd.QW HO107.out; subst eo11; obtain ⟨Ao12, co12, eo12⟩ := Kd.QW HO110.out; subst eo12) | ((with_reducible refine zq (N := 15) rfl ?_); refine Kd.S_lit (Kd.slice 2 (Kd.int .i64)) _ 22 ?hg (N := 15) ?hd (xs := ([] : List (List Int))) (inner := []) (ok := fun _ => True) (okp := fun _ => True) ?hr ?hp (fun _ hk => hk) trivial (yry _ _) (yqy _) (by simp) ?_; (case hd => rfl); (case hg => rfl); (case hr => first | (go_simp; done) | (go_simp; rfl)); (case hp => exact (Zr.none _ _)); intro v116 w13 ho14 hb hg_ hnew_; clear hg_ hnew_; (first | rw [← Ny115.out] at ho14 | (simp only [Int.reduceToNat] at ho14; rw [← Ny115.out] at ho14)); have n0_ := zA.mk (Kd.QC (by (with_reducible repeat (first | apply Kd.zl | apply Kd.zm | apply Kd.qE)); exact (Kd.qx (Kd.Zw (p := ⟨gb114, 2, none⟩) (Kd.Zw (p := ⟨gb114, 1, none⟩) (Kd.Zw (p := ⟨gb114, 0, none⟩) (Kd.Zz HO104.out BK114.out (by decide)) (fun _ hk => hk.2) (.slice Ao8 t102.length co8)) (fun _ hk => hk.2) (.slice Ao11 t105.length co11)) (fun _ hk => hk.2) (.slice Ao12 t108.length co12)) (fun _ h_ => h_.1))) (Kd.zBB ho14) hb); have n1_ := zA.mk (Kd.QC (by (with_reducible repeat (first | apply Kd.zl | apply Kd.zm | apply Kd.qE)); exact (Kd.qx (Kd.Zw (p := ⟨gb114, 2, none⟩) (Kd.Zw (p := ⟨gb114, 1, none⟩) (Kd.Zw (p := ⟨gb114, 0, none⟩) (Kd.Zz HO107.out BK114.out (by decide)) (fun _ hk => hk.2) (.slice Ao8 t102.length co8)) (fun _ hk => hk.2) (.slice Ao11 t105.length co11)) (fun _ hk => hk.2) (.slice Ao12 t108.length co12)) (fun _ h_ => h_.1))) (Kd.zBB ho14) hb); have n2_ := zA.mk (Kd.QC (by (with_reducible repeat (first | apply Kd.zl | apply Kd.zm | apply Kd.qE)); exact (Kd.qx (Kd.Zw (p := ⟨gb114, 2, none⟩) (Kd.Zw (p := ⟨gb114, 1, none⟩) (Kd.Zw (p := ⟨gb114, 0, none⟩) (Kd.Zz HO110.out BK114.out (by decide)) (fun _ hk => hk.2) (.slice Ao8 t102.length co8)) (fun _ hk => hk.2) (.slice Ao11 t105.length co11)) (fun _ hk => hk.2) (.slice Ao12 t108.length co12)) (fun _ h_ => h_.1))) (Kd.zBB ho14) hb); have n3_ := zA.mk (Kd.qP (by (with_reducible repeat (first | apply Kd.zR | apply Kd.zS | apply Kd.zU)); exact (Kd.zo (Kd.ZR (p := ⟨gb114, 2, none⟩) (Kd.ZR (p := ⟨gb114, 1, none⟩) (Kd.ZR (p := ⟨gb114, 0, none⟩) (Kd.ZM HO113.out BK114.out (by decide)) (fun _ hk => hk.2) (.slice Ao8 t102.length co8)) (fun _ hk => hk.2) (.slice Ao11 t105.length co11)) (fun _ hk => hk.2) (.slice Ao12 t108.length co12)) (fun _ h_ => h_.1))) hb); have n4_ := zA.mk (Kd.QS (Kd.QO (Kd.QO (Kd.QO (Kd.QO ho14 (Kd.zF7 (by (with_reducible repeat (first | apply Kd.zl | apply Kd.zm | apply Kd.qE)); exact (Kd.qx (Kd.Zw (p := ⟨gb114, 2, none⟩) (Kd.Zw (p := ⟨gb114, 1, none⟩) (Kd.Zw (p := ⟨gb114, 0, none⟩) (Kd.Zz HO104.out BK114.out (by decide)) (fun _ hk => hk.2) (.slice Ao8 t102.length co8)) (fun _ hk => hk.2) (.slice Ao11 t105.length co11)) (fun _ hk => hk.2) (.slice Ao12 t108.length co12)) (fun _ h_ => h_.1))))) (Kd.zF7 (by (with_reducible repeat (first | apply Kd.zl | apply Kd.zm | apply Kd.qE)); exact (Kd.qx (Kd.Zw (p := ⟨gb114, 2, none⟩) (Kd.Zw (p := ⟨gb114, 1, none⟩) (Kd.Zw (p := ⟨gb114, 0, none⟩) (Kd.Zz HO107.out BK114.out (by decide)) (fun _ hk => hk.2) (.slice Ao8 t102.length co8)) (fun _ hk => hk.2) (.slice Ao11 t105.length co11)) (fun _ hk => hk.2) (.slice Ao12 t108.length co12)) (fun _ h_ => h_.1))))) (Kd.zF7 (by (with_reducible repeat (first | apply Kd.zl | apply Kd.zm | apply Kd.qE)); exact (Kd.qx (Kd.Zw (p := ⟨gb114, 2, none⟩) (Kd.Zw (p := ⟨gb114, 1, none⟩) (Kd.Zw (p := ⟨gb114, 0, none⟩) (Kd.Zz HO110.out BK114.out (by decide)) (fun _ hk => hk.2) (.slice Ao8 t102.length co8)) (fun _ hk => hk.2) (.slice Ao11 t105.length co11)) (fun _ hk => hk.2) (.slice Ao12 t108.length co12)) (fun _ h_ => h_.1))))) (Kd.Qx (by (with_reducible repeat (first | apply Kd.zR | apply Kd.zS | apply Kd.zU)); exact (Kd.zo (Kd.ZR (p := ⟨gb114, 2, none⟩) (Kd.ZR (p := ⟨gb114, 1, none⟩) (Kd.ZR (p := ⟨gb114, 0, none⟩) (Kd.ZM HO113.out BK114.out (by decide)) (fun _ hk => hk.2) (.slice Ao8 t102.length co8)) (fun _ hk => hk.2) (.slice Ao11 t105.length co11)) (fun _ hk => hk.2) (.slice Ao12 t108.length co12)) (fun _ h_ => h_.1))))) (zO (by repeat (first | (with_reducible first | exact HB.out | apply zC | apply zB | apply zD | refine zF ?_ GE101.out | refine zF ?_ GE114.out) | exact HB.out)))); have n5_ := zA.mk (zP (g := gb101) (o := .cells #[.slice A0_0 l0_0.length c0_0] 35 (0, 0)) (by (with_reducible repeat (first | refine zH ?_ _ | refine zJ ?_ | refine zG ?_ _)); refine qJ ?_ NB101_114.out _; (with_reducible repeat (first | refine zH ?_ _ | refine zJ ?_ | refine zG ?_ _)); refine qJ ?_ NB101_114.out _; (with_reducible repeat (first | refine zH ?_ _ | refine zJ ?_ | refine zG ?_ _)); refine qJ ?_ NB101_114.out _; (with_reducible repeat (first | refine zH ?_ _ | refine zJ ?_ | refine zG ?_ _)); exact BK101.out) hb); have n6_ := zA.mk (zP (g := gb114) (o := .cells #[.slice Ao8 t102.length co8, .slice Ao11 t105.length co11, .slice Ao12 t108.length co12] 88 (0, 0)) (by (with_reducible repeat (first | refine zH ?_ _ | refine zJ ?_ | refine zG ?_ _)); refine qa (cs := #[.slice Ao8 t102.length co8, .slice Ao11 t105.length co11, .slice none 0 0]) ?_ 2 _ rfl; (with_reducible repeat (first | refine zH ?_ _ | refine zJ ?_ | refine zG ?_ _)); refine qa (cs := #[.slice Ao8 t102.length co8, .slice none 0 0, .slice none 0 0]) ?_ 1 _ rfl; (with_reducible repeat (first | refine zH ?_ _ | refine zJ ?_ | refine zG ?_ _)); refine qa (cs := #[.slice none 0 0, .slice none 0 0, .slice none 0 0]) ?_ 0 _ rfl; (with_reducible repeat (first | refine zH ?_ _ | refine zJ ?_ | refine zG ?_ _)); exact BK114.out) hb); have n7_ := zA.mk (zN (by repeat (first | (with_reducible first | exact HB.out | apply zC | apply zB | apply zD | refine zF ?_ GE101.out | refine zF ?_ GE114.out) | exact HB.out)) hb); clear HO104; clear HO107; clear HO110; clear HO113; clear BK101; clear BK114; clear HB; have HO104 := n0_; have HO107 := n1_; have HO110 := n2_; have HO113 := n3_; have HO117 := n4_; have BK101 := n5_; have BK114 := n6_; have HB := n7_; clear n0_ n1_ n2_ n3_ n4_ n5_ n6_ n7_; clear hb ho14))
 go_loopg [7, 8] k (fun kq v7 v8 w' => ∃ (x7_1 : List (List Int)) (x8_1 : Int), v8 = .int .i64 x8_1 ∧ zA (zi.l0 kq a1 x7_1 x8_1 t102 t105 t108 = some r) ∧ zA (kq ≤ k) ∧ zA (Kd.S (Kd.slice 2 (Kd.int .i64)) 22 w' w.heap.size (fun k_ => some k_ ≠ ((.slice Ao8 t102.length co8) : Value).ownBlock ∧ some k_ ≠ ((.slice Ao11 t105.length co11) : Value).ownBlock ∧ some k_ ≠ ((.slice Ao12 t108.length co12) : Value).ownBlock) v7 x7_1) ∧ zA (Kd.S (Kd.slice 2 (Kd.int .i64)) 22 w' w.heap.size (fun k_ => some k_ ≠ (v7 : Value).ownBlock ∧ some k_ ≠ ((.slice Ao11 t105.length co11) : Value).ownBlock ∧ some k_ ≠ ((.slice Ao12 t108.length co12) : Value).ownBlock) (.slice Ao8 t102.length co8) t102) ∧ zA (Kd.S (Kd.slice 2 (Kd.int .i64)) 22 w' w.heap.size (fun k_ => some k_ ≠ (v7 : Value).ownBlock ∧ some k_ ≠ ((.slice Ao8 t102.length co8) : Value).ownBlock ∧ some k_ ≠ ((.slice Ao12 t108.length co12) : Value).ownBlock) (.slice Ao11 t105.length co11) t105) ∧ zA (Kd.S (Kd.slice 2 (Kd.int .i64)) 22 w' w.heap.size (fun k_ => some k_ ≠ (v7 : Value).ownBlock ∧ some k_ ≠ ((.slice Ao8 t102.length co8) : Value).ownBlock ∧ some k_ ≠ ((.slice Ao11 t105.length co11) : Value).ownBlock) (.slice Ao12 t108.length co12) t108) ∧ zA (w'.heap[gb101]? = some (.cells #[(.slice A0_0 l0_0.length c0_0)] 35 (0, 0))) ∧ zA (w'.heap[gb114]? = some (.cells #[(.slice Ao8 t102.length co8), (.slice Ao11 t105.length co11), (.slice Ao12 t108.length co12)] 88 (0, 0))) ∧ zA (Below w.heap.size w w'))
 case atStart => exact ⟨(y115), (0), (by first | rfl | (simp; done) | (simp [*]; done)), H', ⟨yqy _⟩, ⟨by (with_reducible repeat (first | apply Kd.zl | apply Kd.zm | apply Kd.qE)); exact Kd.qx HO117.out (fun _ hk => ⟨hk.1.1.1.2, ⟨hk.1.1.2, hk.1.2⟩⟩)⟩, ⟨by (with_reducible repeat (first | apply Kd.zl | apply Kd.zm | apply Kd.qE)); exact Kd.qx HO104.out (fun _ hk => ⟨hk.2, ⟨hk.1.1, hk.1.2.1⟩⟩)⟩, ⟨by (with_reducible repeat (first | apply Kd.zl | apply Kd.zm | apply Kd.qE)); exact Kd.qx HO107.out (fun _ hk => ⟨hk.2, ⟨hk.1.1, hk.1.2.1⟩⟩)⟩, ⟨by (with_reducible repeat (first | apply Kd.zl | apply Kd.zm | apply Kd.qE)); exact Kd.qx HO110.out (fun _ hk => ⟨hk.2, ⟨hk.1.1, hk.1.2.1⟩⟩)⟩, ⟨by (with_reducible repeat (first | refine zH ?_ _ | refine zJ ?_ | refine zG ?_ _)); exact BK101.out⟩, ⟨by (with_reducible repeat (first | refine zH ?_ _ | refine zJ ?_ | refine zG ?_ _)); exact BK114.out⟩, ⟨by repeat (first | (with_reducible first | exact HB.out | apply zC | apply zB | apply zD | refine zF ?_ GE101.out | refine zF ?_ GE114.out) | exact HB.out)⟩⟩
 case round =>
  clear H'
  try clear p2
  try clear c4
  try clear c8
  try clear c9
  try clear hcz10_0
  try clear hcz10_1
  try clear hcz10_2
  try clear hcz5_0
  try clear hfz10_0
  try clear hfz10_1
  try clear hfz10_2
  try clear hfz5_0
  obtain ⟨x7_1, x8_1, rfl, HA, HK1, HO_7, HO_115000, HO_115001, HO_115002, BK101, BK114, HB⟩ := hrel
  cases gk with
  | zero => exact absurd HA.out (by simp [zi.l0])
  | succ k1 =>
   have H := HA.out
   clear HA
   simp only [zi.l0] at H
   by_cases c15 : x8_1 < (t102.length : Int)
   rotate_left
   next =>
    rw [if_neg c15] at H
    have c15b0 : decide (x8_1 < (t102.length : Int)) = false := yhy c15
    clear c15
    obtain rfl := yey H
    have hnb33 := NB114_101.out
    have hnc33 := NB101_114.out
    have hcz34_0 : wr.cell? ⟨gb114, 0, none⟩ = some (.slice Ao8 t102.length co8) := (zL BK114.out 0).trans rfl
    have hcz34_1 : wr.cell? ⟨gb114, 1, none⟩ = some (.slice Ao11 t105.length co11) := (zL BK114.out 1).trans rfl
    have hcz34_2 : wr.cell? ⟨gb114, 2, none⟩ = some (.slice Ao12 t108.length co12) := (zL BK114.out 2).trans rfl
    have hfz34_0 := zM BK114.out 0
    have hfz34_1 := zM BK114.out 1
    have hfz34_2 := zM BK114.out 2
    go_wp2
    go_ret
    exact ⟨_, by first | rfl | (simp [zZ, za] <;> rfl) | (simp [*, zZ, za] <;> rfl), by (with_reducible repeat (first | apply Kd.zl | apply Kd.zm | apply Kd.qE)); exact Kd.qx HO_7.out (fun _ hk => trivial), by repeat (first | (with_reducible first | exact HB.out | apply zC | apply zB | apply zD | refine zF ?_ GE101.out | refine zF ?_ GE114.out) | exact HB.out)⟩
   rw [if_pos c15] at H
   have c15b0 : decide (x8_1 < (t102.length : Int)) = true := ygy c15
   clear c15
   have H' := zA.mk H
   clear H
   have hnb16 := NB114_101.out
   have hnc16 := NB101_114.out
   have hcz17_0 : wr.cell? ⟨gb114, 0, none⟩ = some (.slice Ao8 t102.length co8) := (zL BK114.out 0).trans rfl
   have hcz17_1 : wr.cell? ⟨gb114, 1, none⟩ = some (.slice Ao11 t105.length co11) := (zL BK114.out 1).trans rfl
   have hcz17_2 : wr.cell? ⟨gb114, 2, none⟩ = some (.slice Ao12 t108.length co12) := (zL BK114.out 2).trans rfl
   have hfz17_0 := zM BK114.out 0
   have hfz17_1 := zM BK114.out 1
   have hfz17_2 := zM BK114.out 2
   go_wp2
   go_loopg [7, 9] k1 (fun kq v7 v9 w' => ∃ (x7_2 : List (List Int)) (x9_2 : Int), v9 = .int .i64 x9_2 ∧ zA (zi.l1 kq a1 x7_2 x8_1 x9_2 t102 t105 t108 = some r) ∧ zA (kq ≤ k1) ∧ zA (Kd.S (Kd.slice 2 (Kd.int .i64)) 22 w' w.heap.size (fun k_ => some k_ ≠ ((.slice Ao8 t102.length co8) : Value).ownBlock ∧ some k_ ≠ ((.slice Ao11 t105.length co11) : Value).ownBlock ∧ some k_ ≠ ((.slice Ao12 t108.length co12) : Value).ownBlock) v7 x7_2) ∧ zA (Kd.S (Kd.slice 2 (Kd.int .i64)) 22 w' w.heap.size (fun k_ => some k_ ≠ (v7 : Value).ownBlock ∧ some k_ ≠ ((.slice Ao11 t105.length co11) : Value).ownBlock ∧ some k_ ≠ ((.slice Ao12 t108.length co12) : Value).ownBlock) (.slice Ao8 t102.length co8) t102) ∧ zA (Kd.S (Kd.slice 2 (Kd.int .i64)) 22 w' w.heap.size (fun k_ => some k_ ≠ (v7 : Value).ownBlock ∧ some k_ ≠ ((.slice Ao8 t102.length co8) : Value).ownBlock ∧ some k_ ≠ ((.slice Ao12 t108.length co12) : Value).ownBlock) (.slice Ao11 t105.length co11) t105) ∧ zA (Kd.S (Kd.slice 2 (Kd.int .i64)) 22 w' w.heap.size (fun k_ => some k_ ≠ (v7 : Value).ownBlock ∧ some k_ ≠ ((.slice Ao8 t102.length co8) : Value).ownBlock ∧ some k_ ≠ ((.slice Ao11 t105.length co11) : Value).ownBlock) (.slice Ao12 t108.length co12) t108) ∧ zA (w'.heap[gb101]? = some (.cells #[(.slice A0_0 l0_0.length c0_0)] 35 (0, 0))) ∧ zA (w'.heap[gb114]? = some (.cells #[(.slice Ao8 t102.length co8), (.slice Ao11 t105.length co11), (.slice Ao12 t108.length co12)] 88 (0, 0))) ∧ zA (Below w.heap.size w w'))
   case atStart => exact ⟨(x7_1), (0), (by first | rfl | (simp; done) | (simp [*]; done)), H', ⟨yqy _⟩, ⟨by (with_reducible repeat (first | apply Kd.zl | apply Kd.zm | apply Kd.qE)); exact HO_7.out⟩, ⟨by (with_reducible repeat (first | apply Kd.zl | apply Kd.zm | apply Kd.qE)); exact HO_115000.out⟩, ⟨by (with_reducible repeat (first | apply Kd.zl | apply Kd.zm | apply Kd.qE)); exact HO_115001.out⟩, ⟨by (with_reducible repeat (first | apply Kd.zl | apply Kd.zm | apply Kd.qE)); exact HO_115002.out⟩, ⟨by (with_reducible repeat (first | refine zH ?_ _ | refine zJ ?_ | refine zG ?_ _)); exact BK101.out⟩, ⟨by (with_reducible repeat (first | refine zH ?_ _ | refine zJ ?_ | refine zG ?_ _)); exact BK114.out⟩, ⟨by repeat (first | (with_reducible first | exact HB.out | apply zC | apply zB | apply zD | refine zF ?_ GE101.out | refine zF ?_ GE114.out) | exact HB.out)⟩⟩
   case round =>
    clear H'
    try clear c1
    try clear p2
    try clear c4
    try clear c8
    try clear c9
    try clear c15
    try clear c15b0
    try clear c16
    try clear hcz10_0
    try clear hcz10_1
    try clear hcz10_2
    try clear hcz17_0
    try clear hcz17_1
    try clear hcz17_2
    try clear hcz5_0
    try clear hfz10_0
    try clear hfz10_1
    try clear hfz10_2
    try clear hfz17_0
    try clear hfz17_1
    try clear hfz17_2
    try clear hfz5_0
    try clear p2
    obtain ⟨x7_2, x9_2, rfl, HA, HK2, HO_7, HO_115000, HO_115001, HO_115002, BK101, BK114, HB⟩ := hrel
    cases gk with
    | zero => exact absurd HA.out (by simp [zi.l1])
    | succ k2 =>
     have H := HA.out
     clear HA
     simp only [zi.l1] at H
     by_cases c18 : x9_2 < 4
     rotate_left
     next =>
      rw [if_neg c18] at H
      have c18b0 : decide (x9_2 < 4) = false := yhy c18
      clear c18
      have H' := zA.mk H
      clear H
      go_wp2
      go_roundg k2
      case measure => have := HK1.out; have := HK2.out; omega
      case rel => exact ⟨(x7_2), (wrap64 (x8_1 + 1)), (by first | rfl | (simp; done) | (simp [*]; done)), H', ⟨by have := HK1.out; have := HK2.out; omega⟩, ⟨by (with_reducible repeat (first | apply Kd.zl | apply Kd.zm | apply Kd.qE)); exact HO_7.out⟩, ⟨by (with_reducible repeat (first | apply Kd.zl | apply Kd.zm | apply Kd.qE)); exact HO_115000.out⟩, ⟨by (with_reducible repeat (first | apply Kd.zl | apply Kd.zm | apply Kd.qE)); exact HO_115001.out⟩, ⟨by (with_reducible repeat (first | apply Kd.zl | apply Kd.zm | apply Kd.qE)); exact HO_115002.out⟩, ⟨by (with_reducible repeat (first | refine zH ?_ _ | refine zJ ?_ | refine zG ?_ _)); exact BK101.out⟩, ⟨by (with_reducible repeat (first | refine zH ?_ _ | refine zJ ?_ | refine zG ?_ _)); exact BK114.out⟩, ⟨by repeat (first | (with_reducible first | exact HB.out | apply zC | apply zB | apply zD | refine zF ?_ GE101.out | refine zF ?_ GE114.out) | exact HB.out)⟩⟩
     rw [if_pos c18] at H
     have c18b0 : decide (x9_2 < 4) = true := ygy c18
     clear c18
     by_cases c19 : 0 ≤ x8_1
     rotate_left
     next =>
      rw [if_neg c19] at H
      exact absurd H (by simp)
     rw [if_pos c19] at H
     have c19b0 : decide (0 ≤ x8_1) = true := ygy c19
     clear c19
     by_cases c20 : x8_1 < (t102.length : Int)
     rotate_left
     next =>
      rw [if_neg c20] at H
      exact absurd H (by simp)
     rw [if_pos c20] at H
     have c20b0 : decide (x8_1 < (t102.length : Int)) = true := ygy c20
     clear c20
     by_cases c21 : 0 ≤ x9_2
     rotate_left
     next =>
      rw [if_neg c21] at H
      exact absurd H (by simp)
     rw [if_pos c21] at H
     have c21b0 : decide (0 ≤ x9_2) = true := ygy c21
     clear c21
     by_cases c22 : x9_2 < ((qi t102 x8_1).length : Int)
     rotate_left
     next =>
      rw [if_neg c22] at H
      exact absurd H (by simp)
     rw [if_pos c22] at H
     have c22b0 : decide (x9_2 < ((qi t102 x8_1).length : Int)) = true := ygy c22
     clear c22
     by_cases c23 : (rd (qi t102 x8_1) x9_2) = a1
     rotate_left
     next =>
      rw [if_neg c23] at H
      have c23b0 : ((rd (qi t102 x8_1) x9_2) == a1) = false := beq_eq_false_iff_ne.mpr c23
      have c23b1 : ((rd (qi t102 x8_1) x9_2) != a1) = true := bne_iff_ne.mpr c23
      have H' := zA.mk H
      clear H
      have hnb31 := NB114_101.out
      have hnc31 := NB101_114.out
      have hcz32_0 : wr.cell? ⟨gb114, 0, none⟩ = some (.slice Ao8 t102.length co8) := (zL BK114.out 0).trans rfl
      have hcz32_1 : wr.cell? ⟨gb114, 1, none⟩ = some (.slice Ao11 t105.length co11) := (zL BK114.out 1).trans rfl
      have hcz32_2 : wr.cell? ⟨gb114, 2, none⟩ = some (.slice Ao12 t108.length co12) := (zL BK114.out 2).trans rfl
      have hfz32_0 := zM BK114.out 0
      have hfz32_1 := zM BK114.out 1
      have hfz32_2 := zM BK114.out 2
      have p118 : 0 ≤ (x8_1 : Int) := of_decide_eq_true (by first | (with_reducible assumption) | assumption)
      have q118 : x8_1 < (t102.length : Int) := of_decide_eq_true (by first | (with_reducible assumption) | assumption)
      obtain ⟨ad118, A118_0, c118_0, e118, hx118_0, hl118_0, hi118_0⟩ := JZ (Kd.Qk HO_115000.out).2.2 x8_1 p118 q118
      cases e118
      obtain ⟨ce118, hce118, hMe118, hcc118⟩ := Kd.S_get HO_115000.out [] x8_1 p118 (by first | exact q118 | exact of_decide_eq_true (by first | (with_reducible assumption) | assumption) | (have e_ := (Kd.Qk HO_115000.out).1; omega))
      obtain ⟨ve118_0, rfl, ge118_0⟩ := hMe118
      have hv118_0 := hcc118 0 _ rfl
      rw [Nat.add_zero, show ((Kd.slice 2 (Kd.int .i64))).sz = 1 from rfl, Nat.mul_one] at hv118_0
      replace hv118_0 := yey (hv118_0.symm.trans hx118_0)
      rw [hv118_0] at ge118_0
      have HL118_0 := zA.mk (show Kd.R (Kd.int .i64) 2 _ _ _ _ (qi t102 x8_1) from ge118_0)
      clear hv118_0 ge118_0
      clear hcc118 hce118
      have HR118_0 := zA.mk hi118_0
      have HC118_0 := zA.mk hl118_0
      clear hi118_0 hl118_0
      replace p118 := eq_true p118
      replace q118 := eq_true q118
      have p119 : 0 ≤ (x9_2 : Int) := of_decide_eq_true (by first | (with_reducible assumption) | assumption)
      have q119 : x9_2 < ((qi t102 x8_1).length : Int) := of_decide_eq_true (by first | (with_reducible assumption) | assumption)
      obtain ⟨ad119, e119, hx119_0⟩ := Kd.ZN (by repeat (first | (with_reducible exact HR118_0.out) | (with_reducible refine Kd.zx ?_ _) | (with_reducible refine Kd.zy ?_ _) | (with_reducible refine Kd.qM ?_) | exact HR118_0.out)) x9_2 p119 q119
      cases e119
      replace p119 := eq_true p119
      replace q119 := eq_true q119
      go_wp2
      go_roundg k2
      case measure => have := HK1.out; have := HK2.out; omega
      case rel => exact ⟨(x7_2), (wrap64 (x9_2 + 1)), (by first | rfl | (simp; done) | (simp [*]; done)), H', ⟨by have := HK1.out; have := HK2.out; omega⟩, ⟨by (with_reducible repeat (first | apply Kd.zl | apply Kd.zm | apply Kd.qE)); exact HO_7.out⟩, ⟨by (with_reducible repeat (first | apply Kd.zl | apply Kd.zm | apply Kd.qE)); exact HO_115000.out⟩, ⟨by (with_reducible repeat (first | apply Kd.zl | apply Kd.zm | apply Kd.qE)); exact HO_115001.out⟩, ⟨by (with_reducible repeat (first | apply Kd.zl | apply Kd.zm | apply Kd.qE)); exact HO_115002.out⟩, ⟨by (with_reducible repeat (first | refine zH ?_ _ | refine zJ ?_ | refine zG ?_ _)); exact BK101.out⟩, ⟨by (with_reducible repeat (first | refine zH ?_ _ | refine zJ ?_ | refine zG ?_ _)); exact BK114.out⟩, ⟨by repeat (first | (with_reducible first | exact HB.out | apply zC | apply zB | apply zD | refine zF ?_ GE101.out | refine zF ?_ GE114.out) | exact HB.out)⟩⟩
     rw [if_pos c23] at H
     have c23b0 : ((rd (qi t102 x8_1) x9_2) == a1) = true := beq_iff_eq.mpr c23
     have c23b1 : ((rd (qi t102 x8_1) x9_2) != a1) = false := bne_eq_false_iff_eq.mpr c23
     clear c23
     obtain ⟨y120, hy120⟩ : ∃ y_ : List Int, y_ = (([x8_1, x9_2] : List Int)) := ⟨_, rfl⟩
     replace H : (if x7_2.length < 5864062014805 then (zi.l1 k2 a1 (x7_2 ++ [y120]) x8_1 (wrap64 (x9_2 + 1)) t102 t105 t108) else (none)) = some r := by first | (rw [hy120]; with_reducible exact H) | (have H2_ := (yfy _ _).symm.trans H; rw [hy120]; with_reducible exact H2_) | (have H2_ := (yfy _ _).symm.trans H; with_reducible exact H2_) | with_reducible exact H | (rw [hy120]; exact H) | exact H
     have Ny120 := zA.mk hy120
     clear hy120
     by_cases c24 : x7_2.length < 5864062014805
     rotate_left
     next =>
      rw [if_neg c24] at H
      exact absurd H (by simp)
     rw [if_pos c24] at H
     have LMc24 := zA.mk c24
     clear c24
     obtain ⟨y123, hy123⟩ : ∃ y_ : List (List Int), y_ = (x7_2 ++ [y120]) := ⟨_, rfl⟩
     replace H : (zi.l1 k2 a1 y123 x8_1 (wrap64 (x9_2 + 1)) t102 t105 t108) = some r := by first | (rw [hy123]; with_reducible exact H) | (have H2_ := (yfy _ _).symm.trans H; rw [hy123]; with_reducible exact H2_) | (have H2_ := (yfy _ _).symm.trans H; with_reducible exact H2_) | with_reducible exact H | (rw [hy123]; exact H) | exact H
     have Ny123 := zA.mk hy123
     clear hy123
     have H' := zA.mk H
     clear H
     have hnb25 := NB114_101.out
     have hnc25 := NB101_114.out
     have hcz26_0 : wr.cell? ⟨gb114, 0, none⟩ = some (.slice Ao8 t102.length co8) := (zL BK114.out 0).trans rfl
     have hcz26_1 : wr.cell? ⟨gb114, 1, none⟩ = some (.slice Ao11 t105.length co11) := (zL BK114.out 1).trans rfl
     have hcz26_2 : wr.cell? ⟨gb114, 2, none⟩ = some (.slice Ao12 t108.length co12) := (zL BK114.out 2).trans rfl
     have hfz26_0 := zM BK114.out 0
     have hfz26_1 := zM BK114.out 1
     have hfz26_2 := zM BK114.out 2
     have p118 : 0 ≤ (x8_1 : Int) := of_decide_eq_true (by first | (with_reducible assumption) | assumption)
     have q118 : x8_1 < (t102.length : Int) := of_decide_eq_true (by first | (with_reducible assumption) | assumption)
     obtain ⟨ad118, A118_0, c118_0, e118, hx118_0, hl118_0, hi118_0⟩ := JZ (Kd.Qk HO_115000.out).2.2 x8_1 p118 q118
     cases e118
     obtain ⟨ce118, hce118, hMe118, hcc118⟩ := Kd.S_get HO_115000.out [] x8_1 p118 (by first | exact q118 | exact of_decide_eq_true (by first | (with_reducible assumption) | assumption) | (have e_ := (Kd.Qk HO_115000.out).1; omega))
     obtain ⟨ve118_0, rfl, ge118_0⟩ := hMe118
     have hv118_0 := hcc118 0 _ rfl
     rw [Nat.add_zero, show ((Kd.slice 2 (Kd.int .i64))).sz = 1 from rfl, Nat.mul_one] at hv118_0
     replace hv118_0 := yey (hv118_0.symm.trans hx118_0)
     rw [hv118_0] at ge118_0
     have HL118_0 := zA.mk (show Kd.R (Kd.int .i64) 2 _ _ _ _ (qi t102 x8_1) from ge118_0)
     clear hv118_0 ge118_0
     clear hcc118 hce118
     have HR118_0 := zA.mk hi118_0
     have HC118_0 := zA.mk hl118_0
     clear hi118_0 hl118_0
     replace p118 := eq_true p118
     replace q118 := eq_true q118
     have p119 : 0 ≤ (x9_2 : Int) := of_decide_eq_true (by first | (with_reducible assumption) | assumption)
     have q119 : x9_2 < ((qi t102 x8_1).length : Int) := of_decide_eq_true (by first | (with_reducible assumption) | assumption)
     obtain ⟨ad119, e119, hx119_0⟩ := Kd.ZN (by repeat (first | (with_reducible exact HR118_0.out) | (with_reducible refine Kd.zx ?_ _) | (with_reducible refine Kd.zy ?_ _) | (with_reducible refine Kd.qM ?_) | exact HR118_0.out)) x9_2 p119 q119
     cases e119
     replace p119 := eq_true p119
     replace q119 := eq_true q119
     go_wp2_with (first | ((with_reducible refine zq (N := 40) rfl ?_); refine Kd.zAy (Kd.int .i64) _ 2 ?hg (N := 40) ?hd (xs := ([x8_1, x9_2] : List Int)) (inner := [.int .i64 x8_1, .int .i64 x9_2]) (ok := fun _ => True) (okp := fun _ => True) ?hr ?hp (fun _ hk => hk) trivial (yry _ _) (yqy _) (by simp) ?_; (case hd => rfl); (case hg => rfl); (case hr => first | (go_simp; done) | (go_simp; rfl)); (case hp => exact (Zr.one (show Kd.M (Kd.int .i64) _ _ _ x8_1 [.int .i64 x8_1] from rfl) (Zr.one (show Kd.M (Kd.int .i64) _ _ _ x9_2 [.int .i64 x9_2] from rfl) (Zr.none _ _)))); intro v121 w27 ho28 hb hg_ hnew_; clear hg_ hnew_; (first | rw [← Ny120.out] at ho28 | (simp only [Int.reduceToNat] at ho28; rw [← Ny120.out] at ho28)); have n0_ := zA.mk (Kd.QC (by (with_reducible repeat (first | apply Kd.zl | apply Kd.zm | apply Kd.qE)); exact HO_7.out) (Kd.Zd ho28) hb); have n1_ := zA.mk (Kd.QC (by (with_reducible repeat (first | apply Kd.zl | apply Kd.zm | apply Kd.qE)); exact HO_115000.out) (Kd.Zd ho28) hb); have n2_ := zA.mk (Kd.QC (by (with_reducible repeat (first | apply Kd.zl | apply Kd.zm | apply Kd.qE)); exact HO_115001.out) (Kd.Zd ho28) hb); have n3_ := zA.mk (Kd.QC (by (with_reducible repeat (first | apply Kd.zl | apply Kd.zm | apply Kd.qE)); exact HO_115002.out) (Kd.Zd ho28) hb); have n4_ := zA.mk (Kd.ZV (by (with_reducible repeat (first | apply Kd.zR | apply Kd.zS | apply Kd.zU)); exact HL118_0.out) (Kd.Zd ho28) hb); have n5_ := zA.mk (Kd.ZE (Kd.Qh ho28 (Kd.Qx (by (with_reducible repeat (first | apply Kd.zR | apply Kd.zS | apply Kd.zU)); exact HL118_0.out))) (zO (by repeat (first | (with_reducible first | exact HB.out | apply zC | apply zB | apply zD | refine zF ?_ GE101.out | refine zF ?_ GE114.out) | exact HB.out)))); have n6_ := zA.mk (zP (g := gb101) (o := .cells #[.slice A0_0 l0_0.length c0_0] 35 (0, 0)) (by (with_reducible repeat (first | refine zH ?_ _ | refine zJ ?_ | refine zG ?_ _)); exact BK101.out) hb); have n7_ := zA.mk (zP (g := gb114) (o := .cells #[.slice (some ad118) t102.length co8, .slice Ao11 t105.length co11, .slice Ao12 t108.length co12] 88 (0, 0)) (by (with_reducible repeat (first | refine zH ?_ _ | refine zJ ?_ | refine zG ?_ _)); exact BK114.out) hb); have n8_ := zA.mk (Kd.qK (by repeat (first | (with_reducible exact HR118_0.out) | (with_reducible refine Kd.zx ?_ _) | (with_reducible refine Kd.zy ?_ _) | (with_reducible refine Kd.qM ?_) | exact HR118_0.out)) hb); have n9_ := zA.mk (zN (by repeat (first | (with_reducible first | exact HB.out | apply zC | apply zB | apply zD | refine zF ?_ GE101.out | refine zF ?_ GE114.out) | exact HB.out)) hb); clear HO_7; clear HO_115000; clear HO_115001; clear HO_115002; clear HL118_0; clear BK101; clear BK114; clear HR118_0; clear HB; have HO_7 := n0_; have HO_115000 := n1_; have HO_115001 := n2_; have HO_115002 := n3_; have HL118_0 := n4_; have HO122 := n5_; have BK101 := n6_; have BK114 := n7_; have HR118_0 := n8_; have HB := n9_; clear n0_ n1_ n2_ n3_ n4_ n5_ n6_ n7_ n8_ n9_; clear hb ho28; obtain ⟨Ao30, co30, eo30⟩ := Kd.ZA HO122.out; subst eo30) | ((with_reducible refine Za (b := .append) (xs := #[.tmp 37, .tmp 41]) rfl ?_); at_builtin; refine Kd.zBg (Kd.slice 2 (Kd.int .i64)) (w0 := w) w.heap.size rfl (.tmp 37) (.tmp 41) 30 22 (.slice none 0 0) 24 rfl Try.underlying30 zEO rfl (by decide) (by omega) u7 x7_2 y120 [.slice Ao30 y120.length co30] (fun k_ => some k_ ≠ (.slice (some ad118) t102.length co8 : Value).ownBlock ∧ some k_ ≠ (.slice Ao11 t105.length co11 : Value).ownBlock ∧ some k_ ≠ (.slice Ao12 t108.length co12 : Value).ownBlock) (fun k_ => some k_ = (.slice Ao30 y120.length co30 : Value).ownBlock) rfl rfl ?aP (fun k_ hk_ => ((Kd.zo (ok' := fun k_ => ((fun k_ => some k_ ≠ (.slice (some ad118) t102.length co8 : Value).ownBlock ∧ some k_ ≠ (.slice Ao11 t105.length co11 : Value).ownBlock ∧ some k_ ≠ (.slice Ao12 t108.length co12 : Value).ownBlock)) k_ ∧ some k_ ≠ (u7 : Value).ownBlock) (Kd.Zu (Kd.Zu (Kd.Zu (Kd.Zu (HO122.out) (Kd.QG HO_115000.out) (by decide)) (Kd.QG HO_115001.out) (by decide)) (Kd.QG HO_115002.out) (by decide)) (Kd.QG HO_7.out) (by decide)) (fun k_ hk => ⟨⟨hk.1.1.1.2, ⟨hk.1.1.2, hk.1.2⟩⟩, hk.2⟩))).1 k_ hk_.symm) ?aF ?aO ?aB ?aS ?aL ?_; (case aP => exact Kd.zEz (Kd.zo (Kd.Qf rfl (Kd.zo (ok' := fun k_ => ((fun k_ => some k_ ≠ (.slice (some ad118) t102.length co8 : Value).ownBlock ∧ some k_ ≠ (.slice Ao11 t105.length co11 : Value).ownBlock ∧ some k_ ≠ (.slice Ao12 t108.length co12 : Value).ownBlock)) k_ ∧ some k_ ≠ (u7 : Value).ownBlock) (Kd.Zu (Kd.Zu (Kd.Zu (Kd.Zu (HO122.out) (Kd.QG HO_115000.out) (by decide)) (Kd.QG HO_115001.out) (by decide)) (Kd.QG HO_115002.out) (by decide)) (Kd.QG HO_7.out) (by decide)) (fun k_ hk => ⟨⟨hk.1.1.1.2, ⟨hk.1.1.2, hk.1.2⟩⟩, hk.2⟩))) (fun _ h_ => h_))); (case aB => exact (by repeat (first | (with_reducible first | exact HB.out | apply zC | apply zB | apply zD | refine zF ?_ GE101.out | refine zF ?_ GE114.out) | exact HB.out))); (case aF => exact (fun k_ hk => ⟨Kd.Qi (Kd.zF7 (by (with_reducible repeat (first | apply Kd.zl | apply Kd.zm | apply Kd.qE)); exact HO_115000.out)) k_ hk, Kd.Qi (Kd.zF7 (by (with_reducible repeat (first | apply Kd.zl | apply Kd.zm | apply Kd.qE)); exact HO_115001.out)) k_ hk, Kd.Qi (Kd.zF7 (by (with_reducible repeat (first | apply Kd.zl | apply Kd.zm | apply Kd.qE)); exact HO_115002.out)) k_ hk⟩)); (case aO => exact (by (with_reducible repeat (first | apply Kd.zl | apply Kd.zm | apply Kd.qE)); exact Kd.qx HO_7.out (fun k_ hk => ⟨⟨hk.1.1, ⟨hk.1.2.1, hk.1.2.2⟩⟩, fun e_ => hk.2 e_⟩))); (case aS => exact (zO (by repeat (first | (with_reducible first | exact HB.out | apply zC | apply zB | apply zD | refine zF ?_ GE101.out | refine zF ?_ GE114.out) | exact HB.out)))); (case aL => have := LMc24.out; omega); intro v124 w29 ho hb hg hat; rw [← Ny123.out] at ho; have n0_ := zA.mk (Kd.Qq (ok := (fun k_ => some k_ ≠ (.slice Ao11 t105.length co11 : Value).ownBlock ∧ some k_ ≠ (.slice Ao12 t108.length co12 : Value).ownBlock ∧ some k_ ≠ (.slice Ao30 y120.length co30 : Value).ownBlock)) (by (with_reducible repeat (first | apply Kd.zl | apply Kd.zm | apply Kd.qE)); exact Kd.qx HO_115000.out (fun _ hk => ⟨⟨hk.1.2.1, ⟨hk.1.2.2, hk.2⟩⟩, hk.1.1⟩)) hg hat); have n1_ := zA.mk (Kd.Qq (ok := (fun k_ => some k_ ≠ (.slice (some ad118) t102.length co8 : Value).ownBlock ∧ some k_ ≠ (.slice Ao12 t108.length co12 : Value).ownBlock ∧ some k_ ≠ (.slice Ao30 y120.length co30 : Value).ownBlock)) (by (with_reducible repeat (first | apply Kd.zl | apply Kd.zm | apply Kd.qE)); exact Kd.qx HO_115001.out (fun _ hk => ⟨⟨hk.1.2.1, ⟨hk.1.2.2, hk.2⟩⟩, hk.1.1⟩)) hg hat); have n2_ := zA.mk (Kd.Qq (ok := (fun k_ => some k_ ≠ (.slice (some ad118) t102.length co8 : Value).ownBlock ∧ some k_ ≠ (.slice Ao11 t105.length co11 : Value).ownBlock ∧ some k_ ≠ (.slice Ao30 y120.length co30 : Value).ownBlock)) (by (with_reducible repeat (first | apply Kd.zl | apply Kd.zm | apply Kd.qE)); exact Kd.qx HO_115002.out (fun _ hk => ⟨⟨hk.1.2.1, ⟨hk.1.2.2, hk.2⟩⟩, hk.1.1⟩)) hg hat); have n3_ := zA.mk (qo (g := gb101) (o := .cells #[.slice A0_0 l0_0.length c0_0] 35 (0, 0)) (by (with_reducible repeat (first | refine zH ?_ _ | refine zJ ?_ | refine zG ?_ _)); exact BK101.out) hg (Kd.S_ne HO_7.out BK101.out (by decide))); have n4_ := zA.mk (qo (g := gb114) (o := .cells #[.slice (some ad118) t102.length co8, .slice Ao11 t105.length co11, .slice Ao12 t108.length co12] 88 (0, 0)) (by (with_reducible repeat (first | refine zH ?_ _ | refine zJ ?_ | refine zG ?_ _)); exact BK114.out) hg (Kd.S_ne HO_7.out BK114.out (by decide))); have n5_ := zA.mk (Kd.qu (ok := (fun k_ => some k_ ≠ (.slice (some ad118) t102.length co8 : Value).ownBlock ∧ some k_ ≠ (.slice Ao11 t105.length co11 : Value).ownBlock ∧ some k_ ≠ (.slice Ao12 t108.length co12 : Value).ownBlock ∧ some k_ ≠ (.slice Ao30 y120.length co30 : Value).ownBlock)) (by (with_reducible repeat (first | apply Kd.zR | apply Kd.zS | apply Kd.zU)); exact Kd.zo HL118_0.out (fun _ hk => ⟨⟨hk.1.2, ⟨hk.1.1.2.1, ⟨hk.1.1.2.2, hk.2⟩⟩⟩, hk.1.1.1⟩)) hg hat); have n6_ := zA.mk (hb); have n7_ := zA.mk (ho); clear HO_115000; clear HO_115001; clear HO_115002; clear BK101; clear BK114; clear HL118_0; clear HB; clear HO_7; clear HO122; have HO_115000 := n0_; have HO_115001 := n1_; have HO_115002 := n2_; have BK101 := n3_; have BK114 := n4_; have HL118_0 := n5_; have HB := n6_; have HO125 := n7_; clear n0_ n1_ n2_ n3_ n4_ n5_ n6_ n7_; clear ho hb hg hat))
     go_roundg k2
     case measure => have := HK1.out; have := HK2.out; omega
     case rel => exact ⟨(y123), (wrap64 (x9_2 + 1)), (by first | rfl | (simp; done) | (simp [*]; done)), H', ⟨by have := HK1.out; have := HK2.out; omega⟩, ⟨by (with_reducible repeat (first | apply Kd.zl | apply Kd.zm | apply Kd.qE)); exact HO125.out⟩, ⟨by (with_reducible repeat (first | apply Kd.zl | apply Kd.zm | apply Kd.qE)); exact Kd.qx HO_115000.out (fun _ hk => ⟨hk.2, ⟨hk.1.1, hk.1.2.1⟩⟩)⟩, ⟨by (with_reducible repeat (first | apply Kd.zl | apply Kd.zm | apply Kd.qE)); exact Kd.qx HO_115001.out (fun _ hk => ⟨hk.2, ⟨hk.1.1, hk.1.2.1⟩⟩)⟩, ⟨by (with_reducible repeat (first | apply Kd.zl | apply Kd.zm | apply Kd.qE)); exact Kd.qx HO_115002.out (fun _ hk => ⟨hk.2, ⟨hk.1.1, hk.1.2.1⟩⟩)⟩, ⟨by (with_reducible repeat (first | refine zH ?_ _ | refine zJ ?_ | refine zG ?_ _)); exact BK101.out⟩, ⟨by (with_reducible repeat (first | refine zH ?_ _ | refine zJ ?_ | refine zG ?_ _)); exact BK114.out⟩, ⟨by repeat (first | (with_reducible first | exact HB.out | apply zC | apply zB | apply zD | refine zF ?_ GE101.out | refine zF ?_ GE114.out) | exact HB.out)⟩⟩
def Zp.f (k : Nat) (l0_0 : List (List (zr))) (a1 : Int) : Option ((List (List Int)) × Int) := (zK.f k l0_0).bind fun t102 => (if t102 = true then ((zi.f k l0_0 a1).bind fun t103 => (if (t103.length : Int) = 0 then (some (([] : List (List Int)), 2)) else (some (t103, 0)))) else (some (([] : List (List Int)), 1)))
set_option maxHeartbeats 8000000 in
set_option maxRecDepth 100000 in
theorem Zp.calls (k : Nat) (A0_0 : Option Addr) (c0_0 : Nat) (l0_0 : List (List (zr))) (a1 : Int) (r1 : List (List Int)) (r2 : Int) (w : World) (hr0_0 : Kd.C (Kd.slice 75 qy) w A0_0 l0_0.length l0_0) (hc0_0 : l0_0.length ≤ c0_0) (h : Zp.f k l0_0 a1 = some (r1, r2)) :
    Calls Try.prog 17 #[.agg #[.slice A0_0 l0_0.length c0_0], .int .i64 a1] w fun e w' => ∃ v0_ : Value, e = .returned (.tuple #[v0_, .int .i64 r2]) ∧ Kd.S (Kd.slice 2 (Kd.int .i64)) 22 w' w.heap.size (fun _ => True) v0_ r1 ∧ Below w.heap.size w w' := by
  have hu35 := Try.underlying35
  have HR0_0 := zA.mk hr0_0
  have HC0_0 := zA.mk hc0_0
  clear hr0_0 hc0_0
  have HB := zA.mk (yry w.heap.size w)
  have H : ((zK.f k l0_0).bind fun t102 => (if t102 = true then ((zi.f k l0_0 a1).bind fun t103 => (if (t103.length : Int) = 0 then (some (([] : List (List Int)), 2)) else (some (t103, 0)))) else (some (([] : List (List Int)), 1)))) = some (r1, r2) := h
  clear h
  replace H := ydy.mp H
  obtain ⟨t102, A30, H⟩ := H
  replace H : (if t102 = true then ((zi.f k l0_0 a1).bind fun t103 => (if (t103.length : Int) = 0 then (some (([] : List (List Int)), 2)) else (some (t103, 0)))) else (some (([] : List (List Int)), 1))) = some (r1, r2) := H
  have A3 := zA.mk A30
  clear A30
  by_cases c4 : t102 = true
  · subst c4
    have H1 : ((zi.f k l0_0 a1).bind fun t103 => (if (t103.length : Int) = 0 then (some (([] : List (List Int)), 2)) else (some (t103, 0)))) = some (r1, r2) := by rw [if_pos rfl] at H; exact H
    clear H
    have H := H1
    clear H1
    replace H := ydy.mp H
    obtain ⟨t103, A50, H⟩ := H
    replace H : (if (t103.length : Int) = 0 then (some (([] : List (List Int)), 2)) else (some (t103, 0))) = some (r1, r2) := H
    have A5 := zA.mk A50
    clear A50
    by_cases c6 : (t103.length : Int) = 0
    · rw [if_pos c6] at H
      have c6b0 : ((t103.length : Int) == 0) = true := beq_iff_eq.mpr c6
      have c6b1 : ((t103.length : Int) != 0) = false := bne_eq_false_iff_eq.mpr c6
      clear c6
      simp only [Option.some.injEq, Prod.mk.injEq] at H
      obtain ⟨rfl, rfl⟩ := H
      go_enter Try.func17, Try.ntmps17
      go_wp2_with (first | ((with_reducible refine zq (N := 2) rfl ?_); refine zv ?hg (N := 2) ?hd (cs := #[.slice A0_0 l0_0.length c0_0]) (t := 35) ?hr ?_; (case hd => rfl); (case hg => rfl); (case hr => first | (go_simp; done) | (go_simp; rfl)); intro gb101 hg w7 hbox hb; have n0_ := zA.mk (zN (by repeat (first | (with_reducible first | exact HB.out | apply zC | apply zB | apply zD) | exact HB.out)) hb); have n1_ := zA.mk (hbox); have n2_ := zA.mk ((by rw [hg]; exact (zO (by repeat (first | (with_reducible first | exact HB.out | apply zC | apply zB | apply zD) | exact HB.out))) : w.heap.size ≤ gb101)); have n3_ := zA.mk ((by rw [hg]; exact (zO (by repeat (first | (with_reducible first | exact HB.out | apply zC | apply zB | apply zD) | exact HB.out))) : w.heap.size ≤ gb101)); clear HB; have HB := n0_; have BK101 := n1_; have GW101 := n2_; have GE101 := n3_; clear n0_ n1_ n2_ n3_; clear hb hbox hg; have hcz8_0 : w7.cell? ⟨gb101, 0, none⟩ = some (.slice A0_0 l0_0.length c0_0) := (zL BK101.out 0).trans rfl; have hfz8_0 := zM BK101.out 0) | ((with_reducible refine zb (f := 47) rfl ?_); refine qH (some 8) rfl rfl Try.func47 (by kernel_rfl) rfl #[.agg #[.slice A0_0 l0_0.length c0_0]] rfl (by (try simp only [yiy, yjy, yky]); first | done | rfl | (simp only [yly, ymy]; rfl)) ?_; (with_reducible refine (zK.calls k _ _ l0_0 true _ ?side1 ?side2 A3.out).mono ?_); (case side1 => repeat (first | exact (Kd.qK HR0_0.out HB.out) | (with_reducible refine Kd.zx ?_ _) | (with_reducible refine Kd.zy ?_ _) | (with_reducible refine Kd.qM ?_))); (case side2 => exact HC0_0.out); rintro e w9 ⟨rfl, hb⟩; refine ⟨_, rfl, ?_⟩; have n0_ := zA.mk (zP (g := gb101) (o := .cells #[.slice A0_0 l0_0.length c0_0] 35 (0, 0)) (by (with_reducible repeat (first | refine zH ?_ _ | refine zJ ?_ | refine zG ?_ _)); exact BK101.out) hb); have n1_ := zA.mk (zN (by repeat (first | (with_reducible first | exact HB.out | apply zC | apply zB | apply zD | refine zF ?_ GE101.out) | exact HB.out)) hb); clear BK101; clear HB; have BK101 := n0_; have HB := n1_; clear n0_ n1_; (try clear hb); (try clear hb2); (try clear hk); (try clear hi); have hcz10_0 : w9.cell? ⟨gb101, 0, none⟩ = some (.slice A0_0 l0_0.length c0_0) := (zL BK101.out 0).trans rfl; have hfz10_0 := zM BK101.out 0) | ((with_reducible refine zb (f := 48) rfl ?_); refine qH (some 12) rfl rfl Try.func48 (by kernel_rfl) rfl #[.agg #[.slice A0_0 l0_0.length c0_0], .int .i64 a1] rfl (by (try simp only [yiy, yjy, yky]); first | done | rfl | (simp only [yly, ymy]; rfl)) ?_; (with_reducible refine (zi.calls k _ _ l0_0 a1 t103 _ ?side1 ?side2 A5.out).mono ?_); (case side1 => repeat (first | exact (Kd.qK HR0_0.out HB.out) | (with_reducible refine Kd.zx ?_ _) | (with_reducible refine Kd.zy ?_ _) | (with_reducible refine Kd.qM ?_))); (case side2 => exact HC0_0.out); rintro e w11 ⟨v104, rfl, ho0, hb⟩; refine ⟨_, rfl, ?_⟩; have n0_ := zA.mk (Kd.QS ho0 (zO (by repeat (first | (with_reducible first | exact HB.out | apply zC | apply zB | apply zD | refine zF ?_ GE101.out) | exact HB.out)))); have n1_ := zA.mk (zP (g := gb101) (o := .cells #[.slice A0_0 l0_0.length c0_0] 35 (0, 0)) (by (with_reducible repeat (first | refine zH ?_ _ | refine zJ ?_ | refine zG ?_ _)); exact BK101.out) hb); have n2_ := zA.mk (zN (by repeat (first | (with_reducible first | exact HB.out | apply zC | apply zB | apply zD | refine zF ?_ GE101.out) | exact HB.out)) hb); clear BK101; clear HB; have HO105 := n0_; have BK101 := n1_; have HB := n2_; clear n0_ n1_ n2_; (try clear hb); (try clear hb2); (try clear hk); (try clear hi); (try clear ho0); obtain ⟨Ao12, co12, eo12⟩ := Kd.QW HO105.out; subst eo12))
      go_ret2
      exact ⟨_, by first | rfl | (simp [zZ, za] <;> rfl) | (simp [*, zZ, za] <;> rfl), by first | exact Kd.zEG _ _ _ _ _ | exact Kd.zEL _ _ _ _ _ | exact Kd.zEN _ _ _ _ _ | exact Kd.zE6 _ _ _ _ _ | exact Kd.zAx _ _ _ _ _, by repeat (first | (with_reducible first | exact HB.out | apply zC | apply zB | apply zD | refine zF ?_ GE101.out) | exact HB.out)⟩
    · rw [if_neg c6] at H
      have c6b0 : ((t103.length : Int) == 0) = false := beq_eq_false_iff_ne.mpr c6
      have c6b1 : ((t103.length : Int) != 0) = true := bne_iff_ne.mpr c6
      have c6b2 : ¬ (t103 = []) := fun h_ => c6 (by rw [h_]; rfl)
      simp only [Option.some.injEq, Prod.mk.injEq] at H
      obtain ⟨rfl, rfl⟩ := H
      go_enter Try.func17, Try.ntmps17
      go_wp2_with (first | ((with_reducible refine zq (N := 2) rfl ?_); refine zv ?hg (N := 2) ?hd (cs := #[.slice A0_0 l0_0.length c0_0]) (t := 35) ?hr ?_; (case hd => rfl); (case hg => rfl); (case hr => first | (go_simp; done) | (go_simp; rfl)); intro gb101 hg w13 hbox hb; have n0_ := zA.mk (zN (by repeat (first | (with_reducible first | exact HB.out | apply zC | apply zB | apply zD) | exact HB.out)) hb); have n1_ := zA.mk (hbox); have n2_ := zA.mk ((by rw [hg]; exact (zO (by repeat (first | (with_reducible first | exact HB.out | apply zC | apply zB | apply zD) | exact HB.out))) : w.heap.size ≤ gb101)); have n3_ := zA.mk ((by rw [hg]; exact (zO (by repeat (first | (with_reducible first | exact HB.out | apply zC | apply zB | apply zD) | exact HB.out))) : w.heap.size ≤ gb101)); clear HB; have HB := n0_; have BK101 := n1_; have GW101 := n2_; have GE101 := n3_; clear n0_ n1_ n2_ n3_; clear hb hbox hg; have hcz14_0 : w13.cell? ⟨gb101, 0, none⟩ = some (.slice A0_0 l0_0.length c0_0) := (zL BK101.out 0).trans rfl; have hfz14_0 := zM BK101.out 0) | ((with_reducible refine zb (f := 47) rfl ?_); refine qH (some 8) rfl rfl Try.func47 (by kernel_rfl) rfl #[.agg #[.slice A0_0 l0_0.length c0_0]] rfl (by (try simp only [yiy, yjy, yky]); first | done | rfl | (simp only [yly, ymy]; rfl)) ?_; (with_reducible refine (zK.calls k _ _ l0_0 true _ ?side1 ?side2 A3.out).mono ?_); (case side1 => repeat (first | exact (Kd.qK HR0_0.out HB.out) | (with_reducible refine Kd.zx ?_ _) | (with_reducible refine Kd.zy ?_ _) | (with_reducible refine Kd.qM ?_))); (case side2 => exact HC0_0.out); rintro e w15 ⟨rfl, hb⟩; refine ⟨_, rfl, ?_⟩; have n0_ := zA.mk (zP (g := gb101) (o := .cells #[.slice A0_0 l0_0.length c0_0] 35 (0, 0)) (by (with_reducible repeat (first | refine zH ?_ _ | refine zJ ?_ | refine zG ?_ _)); exact BK101.out) hb); have n1_ := zA.mk (zN (by repeat (first | (with_reducible first | exact HB.out | apply zC | apply zB | apply zD | refine zF ?_ GE101.out) | exact HB.out)) hb); clear BK101; clear HB; have BK101 := n0_; have HB := n1_; clear n0_ n1_; (try clear hb); (try clear hb2); (try clear hk); (try clear hi); have hcz16_0 : w15.cell? ⟨gb101, 0, none⟩ = some (.slice A0_0 l0_0.length c0_0) := (zL BK101.out 0).trans rfl; have hfz16_0 := zM BK101.out 0) | ((with_reducible refine zb (f := 48) rfl ?_); refine qH (some 12) rfl rfl Try.func48 (by kernel_rfl) rfl #[.agg #[.slice A0_0 l0_0.length c0_0], .int .i64 a1] rfl (by (try simp only [yiy, yjy, yky]); first | done | rfl | (simp only [yly, ymy]; rfl)) ?_; (with_reducible refine (zi.calls k _ _ l0_0 a1 t103 _ ?side1 ?side2 A5.out).mono ?_); (case side1 => repeat (first | exact (Kd.qK HR0_0.out HB.out) | (with_reducible refine Kd.zx ?_ _) | (with_reducible refine Kd.zy ?_ _) | (with_reducible refine Kd.qM ?_))); (case side2 => exact HC0_0.out); rintro e w17 ⟨v104, rfl, ho0, hb⟩; refine ⟨_, rfl, ?_⟩; have n0_ := zA.mk (Kd.QS ho0 (zO (by repeat (first | (with_reducible first | exact HB.out | apply zC | apply zB | apply zD | refine zF ?_ GE101.out) | exact HB.out)))); have n1_ := zA.mk (zP (g := gb101) (o := .cells #[.slice A0_0 l0_0.length c0_0] 35 (0, 0)) (by (with_reducible repeat (first | refine zH ?_ _ | refine zJ ?_ | refine zG ?_ _)); exact BK101.out) hb); have n2_ := zA.mk (zN (by repeat (first | (with_reducible first | exact HB.out | apply zC | apply zB | apply zD | refine zF ?_ GE101.out) | exact HB.out)) hb); clear BK101; clear HB; have HO105 := n0_; have BK101 := n1_; have HB := n2_; clear n0_ n1_ n2_; (try clear hb); (try clear hb2); (try clear hk); (try clear hi); (try clear ho0); obtain ⟨Ao18, co18, eo18⟩ := Kd.QW HO105.out; subst eo18))
      go_ret2
      exact ⟨_, by first | rfl | (simp [zZ, za] <;> rfl) | (simp [*, zZ, za] <;> rfl), by (with_reducible repeat (first | apply Kd.zl | apply Kd.zm | apply Kd.qE)); exact HO105.out, by repeat (first | (with_reducible first | exact HB.out | apply zC | apply zB | apply zD | refine zF ?_ GE101.out) | exact HB.out)⟩
  · replace c4 := Bool.eq_false_iff.mpr c4
    subst c4
    have H1 : (some (([] : List (List Int)), 1)) = some (r1, r2) := by rw [if_neg (show ¬ (false = true) by decide)] at H; exact H
    clear H
    have H := H1
    clear H1
    simp only [Option.some.injEq, Prod.mk.injEq] at H
    obtain ⟨rfl, rfl⟩ := H
    go_enter Try.func17, Try.ntmps17
    go_wp2_with (first | ((with_reducible refine zq (N := 2) rfl ?_); refine zv ?hg (N := 2) ?hd (cs := #[.slice A0_0 l0_0.length c0_0]) (t := 35) ?hr ?_; (case hd => rfl); (case hg => rfl); (case hr => first | (go_simp; done) | (go_simp; rfl)); intro gb101 hg w19 hbox hb; have n0_ := zA.mk (zN (by repeat (first | (with_reducible first | exact HB.out | apply zC | apply zB | apply zD) | exact HB.out)) hb); have n1_ := zA.mk (hbox); have n2_ := zA.mk ((by rw [hg]; exact (zO (by repeat (first | (with_reducible first | exact HB.out | apply zC | apply zB | apply zD) | exact HB.out))) : w.heap.size ≤ gb101)); have n3_ := zA.mk ((by rw [hg]; exact (zO (by repeat (first | (with_reducible first | exact HB.out | apply zC | apply zB | apply zD) | exact HB.out))) : w.heap.size ≤ gb101)); clear HB; have HB := n0_; have BK101 := n1_; have GW101 := n2_; have GE101 := n3_; clear n0_ n1_ n2_ n3_; clear hb hbox hg; have hcz20_0 : w19.cell? ⟨gb101, 0, none⟩ = some (.slice A0_0 l0_0.length c0_0) := (zL BK101.out 0).trans rfl; have hfz20_0 := zM BK101.out 0) | ((with_reducible refine zb (f := 47) rfl ?_); refine qH (some 8) rfl rfl Try.func47 (by kernel_rfl) rfl #[.agg #[.slice A0_0 l0_0.length c0_0]] rfl (by (try simp only [yiy, yjy, yky]); first | done | rfl | (simp only [yly, ymy]; rfl)) ?_; (with_reducible refine (zK.calls k _ _ l0_0 false _ ?side1 ?side2 A3.out).mono ?_); (case side1 => repeat (first | exact (Kd.qK HR0_0.out HB.out) | (with_reducible refine Kd.zx ?_ _) | (with_reducible refine Kd.zy ?_ _) | (with_reducible refine Kd.qM ?_))); (case side2 => exact HC0_0.out); rintro e w21 ⟨rfl, hb⟩; refine ⟨_, rfl, ?_⟩; have n0_ := zA.mk (zP (g := gb101) (o := .cells #[.slice A0_0 l0_0.length c0_0] 35 (0, 0)) (by (with_reducible repeat (first | refine zH ?_ _ | refine zJ ?_ | refine zG ?_ _)); exact BK101.out) hb); have n1_ := zA.mk (zN (by repeat (first | (with_reducible first | exact HB.out | apply zC | apply zB | apply zD | refine zF ?_ GE101.out) | exact HB.out)) hb); clear BK101; clear HB; have BK101 := n0_; have HB := n1_; clear n0_ n1_; (try clear hb); (try clear hb2); (try clear hk); (try clear hi)))
    go_ret2
    exact ⟨_, by first | rfl | (simp [zZ, za] <;> rfl) | (simp [*, zZ, za] <;> rfl), by first | exact Kd.zEG _ _ _ _ _ | exact Kd.zEL _ _ _ _ _ | exact Kd.zEN _ _ _ _ _ | exact Kd.zE6 _ _ _ _ _ | exact Kd.zAx _ _ _ _ _, by repeat (first | (with_reducible first | exact HB.out | apply zC | apply zB | apply zD | refine zF ?_ GE101.out) | exact HB.out)⟩
end Go.Proofs.Ytembbpalgfikiaa.P
namespace Go.Proofs.Ytembbpalgfikiaa.Lib
open Go.RowKit Go.Proofs.YtembbpalgfikiaaW.PrintWords
set_option linter.unusedVariables false
section
variable {α : Type} {d : Kd α} {e b lo hi lo2 hi2 T : Nat} {w w' W : World} {v : Value} {xs ys : List α}
def ObS (d : Kd α) (e b : Nat) (w : World) (lo hi : Nat) (v : Value) (xs : List α) : Prop := hi ≤ w.heap.size ∧ Kd.S d e w b (fun k => lo ≤ k ∧ k < hi) v xs
theorem size_set (w : World) (g i : Nat) (u : Value) : w.heap.size ≤ (w.setCell ⟨g, i, none⟩ u).heap.size := ((yry 0 w).setCell (Nat.zero_le _) u).size
theorem ObS.made (ho : Kd.S d e w' W.heap.size (fun _ => True) v xs) (hb : Below W.heap.size W w') (hT : T ≤ W.heap.size) (hB : b ≤ W.heap.size) : ∃ lo hi, (T ≤ lo ∧ lo ≤ hi) ∧ hi ≤ w'.heap.size ∧ ObS d e b w' lo hi v xs :=
  ⟨W.heap.size, w'.heap.size, ⟨hT, hb.size⟩, yqy _, yqy _, Kd.QS (Kd.qx (Kd.zEH ho) (fun k hk => ⟨hk.2.1, hk.2.2.1⟩)) hB⟩
theorem ObS.below (h : ObS d e b w lo hi v xs) (hb : Below w.heap.size w w') : ObS d e b w' lo hi v xs := ⟨Nat.le_trans h.1 hb.size, Kd.Js h.2 hb⟩
theorem ObS.drew (h : ObS d e b w lo hi v xs) : ObS d e b w.drew lo hi v xs := ⟨h.1, Kd.qE h.2⟩
theorem ObS.far {g i : Nat} (h : ObS d e b w lo hi v xs) (hg : g < lo ∨ hi ≤ g) (u : Value) : ObS d e b (w.setCell ⟨g, i, none⟩ u) lo hi v xs :=
  ⟨Nat.le_trans h.1 (size_set _ _ _ _), Kd.Zw h.2 (fun k hk => by show k ≠ g; have := hk.1; have := hk.2; omega) u⟩
theorem ObS.kept (h : ObS d e b w lo hi v xs) (hk : Kept w w' (fun k => lo2 ≤ k ∧ k < hi2)) (hd : hi ≤ lo2 ∨ hi2 ≤ lo) : ObS d e b w' lo hi v xs :=
  ⟨Nat.le_trans h.1 hk.1, Kd.S_kept h.2 hk (fun k h1 h2 => by have := h1.1; have := h1.2; have := h2.1; have := h2.2; omega)⟩
theorem ObS.slice (h : ObS d e b w lo hi v xs) : ∃ A c, v = .slice A xs.length c := Kd.QW h.2
theorem ObS.reads {A : Option Addr} {n c : Nat} (h : ObS d e b w lo hi (.slice A n c) xs) : n = xs.length ∧ n ≤ c ∧ d.C w A xs.length xs := Kd.Qk h.2
theorem ObS.room {A : Option Addr} {n c : Nat} (h : ObS d e b w lo hi (.slice A n c) xs) : xs.length ≤ c := by have := h.reads; omega
theorem ObS.marked (h : ObS d e b w lo hi v xs) (hy : Kd.S d e w' b (fun k => lo ≤ k ∧ k < hi) v ys) (hs : w.heap.size ≤ w'.heap.size) : ObS d e b w' lo hi v ys := ⟨Nat.le_trans h.1 hs, hy⟩
theorem ObS.row (h : ObS d e b w lo hi v xs) : Kd.S d e w b (fun k => lo ≤ k ∧ k < hi) v xs := h.2
theorem QK {n : Nat} (h : w' = w.drewN n) : Below w.heap.size w w' := h ▸ zB (yry _ _) n
theorem ZQ (h : T ≤ w.heap.size) (hb : Below w.heap.size w w') : T ≤ w'.heap.size := Nat.le_trans h hb.size
theorem zFK (h : T ≤ w.heap.size) : T ≤ w.drew.heap.size := h
theorem zEX {g i : Nat} {u : Value} (h : T ≤ w.heap.size) : T ≤ (w.setCell ⟨g, i, none⟩ u).heap.size := Nat.le_trans h (size_set _ _ _ _)
end
end Go.Proofs.Ytembbpalgfikiaa.Lib
