/- The statement FnExactIsomorphismCountSaid, proved: part 7 of 9 (texts of this session and of the kit's print, put together and cut to what is used by a program of it). -/
import Derived.Test.YtfnopcbicceeaaaMFnExactIsomorphismCount6
namespace Go.Proofs.Ytfnopcbicceeaaa.P
open Go.RowKit Go.Proofs.YtfnopcbicceeaaaW.PrintWords Go.Proofs.YtfnopcbicceeaaaW.PrintLast Go.Proofs.YtfnopcbicceeaaaW.PrintMore
attribute [local go_sem] QZ Qa JF JG QK QL Qb Qc
set_option linter.unusedVariables false
set_option linter.unusedSimpArgs false
def ZG.f (k : Nat) (l0_0 : List (List (qM))) (l1_0 : List (List (qM))) : Option (Bool) := (zx.f k l0_0 1048576).bind fun t103 => (if t103 < 0 then (some true) else ((zx.f k l1_0 t103).bind fun t104 => (if t104 < 0 then (some true) else ((zP.f k l0_0).bind fun t105 => ((zP.f k l1_0).bind fun t108 => ((qL.f k t105 t108).bind fun t111 => ((zP.f k l0_0).bind fun t112 => ((zP.f k l1_0).bind fun t116 => ((qC.f k t112 t116).bind fun t120 => (if t120 = t111 then ((zP.f k l0_0).bind fun t121 => ((ze.f k t112 t121).bind fun t124 => (if t124 = true then ((zP.f k l1_0).bind fun t125 => ((ze.f k t116 t125).bind fun t128 => (if t128 = true then (some true) else (some false)))) else (some false)))) else (some false)))))))))))
set_option maxHeartbeats 8000000 in
set_option maxRecDepth 100000 in
theorem ZG.calls (k : Nat) (A0_0 : Option Addr) (c0_0 : Nat) (l0_0 : List (List (qM))) (A1_0 : Option Addr) (c1_0 : Nat) (l1_0 : List (List (qM))) (r : Bool) (w : World) (hr0_0 : Kd.C (Kd.slice 123 Zh) w A0_0 l0_0.length l0_0) (hc0_0 : l0_0.length ≤ c0_0) (hr1_0 : Kd.C (Kd.slice 123 Zh) w A1_0 l1_0.length l1_0) (hc1_0 : l1_0.length ≤ c1_0) (h : ZG.f k l0_0 l1_0 = some r) :
 Calls Try.prog 6 #[.agg #[.slice A0_0 l0_0.length c0_0], .agg #[.slice A1_0 l1_0.length c1_0]] w fun e w' => e = .returned (.bool r) ∧ Below w.heap.size w w' := by
 have hu24 := Try.underlying24
 have hu30 := Try.underlying30
 have HR0_0 := zA.mk hr0_0
 have HC0_0 := zA.mk hc0_0
 clear hr0_0 hc0_0
 have HR1_0 := zA.mk hr1_0
 have HC1_0 := zA.mk hc1_0
 clear hr1_0 hc1_0
 have HB := zA.mk (ypy w.heap.size w)
 have H : ((zx.f k l0_0 1048576).bind fun t103 => (if t103 < 0 then (some true) else ((zx.f k l1_0 t103).bind fun t104 => (if t104 < 0 then (some true) else ((zP.f k l0_0).bind fun t105 => ((zP.f k l1_0).bind fun t108 => ((qL.f k t105 t108).bind fun t111 => ((zP.f k l0_0).bind fun t112 => ((zP.f k l1_0).bind fun t116 => ((qC.f k t112 t116).bind fun t120 => (if t120 = t111 then ((zP.f k l0_0).bind fun t121 => ((ze.f k t112 t121).bind fun t124 => (if t124 = true then ((zP.f k l1_0).bind fun t125 => ((ze.f k t116 t125).bind fun t128 => (if t128 = true then (some true) else (some false)))) else (some false)))) else (some false)))))))))))) = some r := h
 clear h
 replace H := ydy.mp H
 obtain ⟨t103, A30, H⟩ := H
 replace H : (if t103 < 0 then (some true) else ((zx.f k l1_0 t103).bind fun t104 => (if t104 < 0 then (some true) else ((zP.f k l0_0).bind fun t105 => ((zP.f k l1_0).bind fun t108 => ((qL.f k t105 t108).bind fun t111 => ((zP.f k l0_0).bind fun t112 => ((zP.f k l1_0).bind fun t116 => ((qC.f k t112 t116).bind fun t120 => (if t120 = t111 then ((zP.f k l0_0).bind fun t121 => ((ze.f k t112 t121).bind fun t124 => (if t124 = true then ((zP.f k l1_0).bind fun t125 => ((ze.f k t116 t125).bind fun t128 => (if t128 = true then (some true) else (some false)))) else (some false)))) else (some false))))))))))) = some r := H
 have A3 := zA.mk A30
 clear A30
 by_cases c4 : t103 < 0
 next =>
  rw [if_pos c4] at H
  have c4b0 : decide (t103 < 0) = true := ygy c4
  clear c4
  obtain rfl := yey H
  go_enter Try.func6, Try.ntmps6
  go_wp2_with (first | ((with_reducible refine zq (N := 2) rfl ?_); refine zr ?hg (N := 2) ?hd (cs := #[.slice A0_0 l0_0.length c0_0]) (t := 24) ?hr ?_; (case hd => rfl); (case hg => rfl); (case hr => first | (go_simp; done) | (go_simp; rfl)); intro gb101 hg w5 hbox hb; have n0_ := zA.mk (zN (by repeat (first | (with_reducible first | exact HB.out | apply zC | apply zB | apply zD) | exact HB.out)) hb); have n1_ := zA.mk (hbox); have n2_ := zA.mk ((by rw [hg]; exact (zO (by repeat (first | (with_reducible first | exact HB.out | apply zC | apply zB | apply zD) | exact HB.out))) : w.heap.size ≤ gb101)); have n3_ := zA.mk ((by rw [hg]; exact (zO (by repeat (first | (with_reducible first | exact HB.out | apply zC | apply zB | apply zD) | exact HB.out))) : w.heap.size ≤ gb101)); clear HB; have HB := n0_; have BK101 := n1_; have GW101 := n2_; have GE101 := n3_; clear n0_ n1_ n2_ n3_; clear hb hbox hg) | ((with_reducible refine zq (N := 3) rfl ?_); refine zr ?hg (N := 3) ?hd (cs := #[.slice A1_0 l1_0.length c1_0]) (t := 24) ?hr ?_; (case hd => rfl); (case hg => rfl); (case hr => first | (go_simp; done) | (go_simp; rfl)); intro gb102 hg w6 hbox hb; have n0_ := zA.mk (zJ (g := gb101) (o := .cells #[.slice A0_0 l0_0.length c0_0] 24 (0, 0)) (by (with_reducible repeat (first | refine zH ?_ _ | refine zI ?_ | refine zF ?_ _)); exact BK101.out) hb); have n1_ := zA.mk (zN (by repeat (first | (with_reducible first | exact HB.out | apply zC | apply zB | apply zD | refine zE ?_ GE101.out) | exact HB.out)) hb); have n2_ := zA.mk (hbox); have n3_ := zA.mk ((by rw [hg]; exact (zO (by repeat (first | (with_reducible first | exact HB.out | apply zC | apply zB | apply zD | refine zE ?_ GE101.out) | exact HB.out))) : w.heap.size ≤ gb102)); have n4_ := zA.mk ((by rw [hg]; exact (zO (by repeat (first | (with_reducible first | exact HB.out | apply zC | apply zB | apply zD | refine zE ?_ GE101.out) | exact HB.out))) : w.heap.size ≤ gb102)); have n5_ := zA.mk ((by rw [hg]; exact Nat.ne_of_lt (zt (g := gb101) (o := .cells #[.slice A0_0 l0_0.length c0_0] 24 (0, 0)) (by (with_reducible repeat (first | refine zH ?_ _ | refine zI ?_ | refine zF ?_ _)); exact BK101.out)) : gb101 ≠ gb102)); have n6_ := zA.mk ((by rw [hg]; exact Nat.ne_of_gt (zt (g := gb101) (o := .cells #[.slice A0_0 l0_0.length c0_0] 24 (0, 0)) (by (with_reducible repeat (first | refine zH ?_ _ | refine zI ?_ | refine zF ?_ _)); exact BK101.out)) : gb102 ≠ gb101)); clear BK101; clear HB; have BK101 := n0_; have HB := n1_; have BK102 := n2_; have GW102 := n3_; have GE102 := n4_; have NB101_102 := n5_; have NB102_101 := n6_; clear n0_ n1_ n2_ n3_ n4_ n5_ n6_; clear hb hbox hg; have hnb7 := NB101_102.out; have hnc7 := NB102_101.out; have hcz8_0 : w6.cell? ⟨gb101, 0, none⟩ = some (.slice A0_0 l0_0.length c0_0) := (zL BK101.out 0).trans rfl; have hfz8_0 := zQ BK101.out 0) | ((with_reducible refine zf (f := 8) rfl ?_); refine qT (some 12) rfl rfl Try.func8 (by kernel_rfl) rfl #[.agg #[.slice A0_0 l0_0.length c0_0], .int .i64 1048576] rfl (by (try simp only [yiy, yjy, yky]); first | done | rfl | (simp only [yly, ymy]; rfl)) ?_; (with_reducible refine (zx.calls k _ _ l0_0 1048576 t103 _ ?side1 ?side2 A3.out).mono ?_); (case side1 => repeat (first | exact (Kd.zw HR0_0.out HB.out) | (with_reducible refine Kd.zn ?_ _) | (with_reducible refine Kd.zo ?_ _) | (with_reducible refine Kd.qD ?_))); (case side2 => exact HC0_0.out); rintro e w9 ⟨rfl, hb⟩; refine ⟨_, rfl, ?_⟩; have n0_ := zA.mk (zJ (g := gb101) (o := .cells #[.slice A0_0 l0_0.length c0_0] 24 (0, 0)) (by (with_reducible repeat (first | refine zH ?_ _ | refine zI ?_ | refine zF ?_ _)); exact BK101.out) hb); have n1_ := zA.mk (zJ (g := gb102) (o := .cells #[.slice A1_0 l1_0.length c1_0] 24 (0, 0)) (by (with_reducible repeat (first | refine zH ?_ _ | refine zI ?_ | refine zF ?_ _)); exact BK102.out) hb); have n2_ := zA.mk (zN (by repeat (first | (with_reducible first | exact HB.out | apply zC | apply zB | apply zD | refine zE ?_ GE101.out | refine zE ?_ GE102.out) | exact HB.out)) hb); clear BK101; clear BK102; clear HB; have BK101 := n0_; have BK102 := n1_; have HB := n2_; clear n0_ n1_ n2_; (try clear hb); (try clear hb2); (try clear hk); (try clear hi)))
  go_ret
  exact ⟨by first | rfl | (simp [zb, zc] <;> rfl) | (simp [*, zb, zc] <;> rfl), by repeat (first | (with_reducible first | exact HB.out | apply zC | apply zB | apply zD | refine zE ?_ GE101.out | refine zE ?_ GE102.out) | exact HB.out)⟩
 next =>
  rw [if_neg c4] at H
  have c4b0 : decide (t103 < 0) = false := yhy c4
  clear c4
  replace H := ydy.mp H
  obtain ⟨t104, A100, H⟩ := H
  replace H : (if t104 < 0 then (some true) else ((zP.f k l0_0).bind fun t105 => ((zP.f k l1_0).bind fun t108 => ((qL.f k t105 t108).bind fun t111 => ((zP.f k l0_0).bind fun t112 => ((zP.f k l1_0).bind fun t116 => ((qC.f k t112 t116).bind fun t120 => (if t120 = t111 then ((zP.f k l0_0).bind fun t121 => ((ze.f k t112 t121).bind fun t124 => (if t124 = true then ((zP.f k l1_0).bind fun t125 => ((ze.f k t116 t125).bind fun t128 => (if t128 = true then (some true) else (some false)))) else (some false)))) else (some false))))))))) = some r := H
  have A10 := zA.mk A100
  clear A100
  by_cases c11 : t104 < 0
  next =>
   rw [if_pos c11] at H
   have c11b0 : decide (t104 < 0) = true := ygy c11
   clear c11
   obtain rfl := yey H
   go_enter Try.func6, Try.ntmps6
   go_wp2_with (first | ((with_reducible refine zq (N := 2) rfl ?_); refine zr ?hg (N := 2) ?hd (cs := #[.slice A0_0 l0_0.length c0_0]) (t := 24) ?hr ?_; (case hd => rfl); (case hg => rfl); (case hr => first | (go_simp; done) | (go_simp; rfl)); intro gb101 hg w12 hbox hb; have n0_ := zA.mk (zN (by repeat (first | (with_reducible first | exact HB.out | apply zC | apply zB | apply zD) | exact HB.out)) hb); have n1_ := zA.mk (hbox); have n2_ := zA.mk ((by rw [hg]; exact (zO (by repeat (first | (with_reducible first | exact HB.out | apply zC | apply zB | apply zD) | exact HB.out))) : w.heap.size ≤ gb101)); have n3_ := zA.mk ((by rw [hg]; exact (zO (by repeat (first | (with_reducible first | exact HB.out | apply zC | apply zB | apply zD) | exact HB.out))) : w.heap.size ≤ gb101)); clear HB; have HB := n0_; have BK101 := n1_; have GW101 := n2_; have GE101 := n3_; clear n0_ n1_ n2_ n3_; clear hb hbox hg) | ((with_reducible refine zq (N := 3) rfl ?_); refine zr ?hg (N := 3) ?hd (cs := #[.slice A1_0 l1_0.length c1_0]) (t := 24) ?hr ?_; (case hd => rfl); (case hg => rfl); (case hr => first | (go_simp; done) | (go_simp; rfl)); intro gb102 hg w13 hbox hb; have n0_ := zA.mk (zJ (g := gb101) (o := .cells #[.slice A0_0 l0_0.length c0_0] 24 (0, 0)) (by (with_reducible repeat (first | refine zH ?_ _ | refine zI ?_ | refine zF ?_ _)); exact BK101.out) hb); have n1_ := zA.mk (zN (by repeat (first | (with_reducible first | exact HB.out | apply zC | apply zB | apply zD | refine zE ?_ GE101.out) | exact HB.out)) hb); have n2_ := zA.mk (hbox); have n3_ := zA.mk ((by rw [hg]; exact (zO (by repeat (first | (with_reducible first | exact HB.out | apply zC | apply zB | apply zD | refine zE ?_ GE101.out) | exact HB.out))) : w.heap.size ≤ gb102)); have n4_ := zA.mk ((by rw [hg]; exact (zO (by repeat (first | (with_reducible first | exact HB.out | apply zC | apply zB | apply zD | refine zE ?_ GE101.out) | exact HB.out))) : w.heap.size ≤ gb102)); have n5_ := zA.mk ((by rw [hg]; exact Nat.ne_of_lt (zt (g := gb101) (o := .cells #[.slice A0_0 l0_0.length c0_0] 24 (0, 0)) (by (with_reducible repeat (first | refine zH ?_ _ | refine zI ?_ | refine zF ?_ _)); exact BK101.out)) : gb101 ≠ gb102)); have n6_ := zA.mk ((by rw [hg]; exact Nat.ne_of_gt (zt (g := gb101) (o := .cells #[.slice A0_0 l0_0.length c0_0] 24 (0, 0)) (by (with_reducible repeat (first | refine zH ?_ _ | refine zI ?_ | refine zF ?_ _)); exact BK101.out)) : gb102 ≠ gb101)); clear BK101; clear HB; have BK101 := n0_; have HB := n1_; have BK102 := n2_; have GW102 := n3_; have GE102 := n4_; have NB101_102 := n5_; have NB102_101 := n6_; clear n0_ n1_ n2_ n3_ n4_ n5_ n6_; clear hb hbox hg; have hnb14 := NB101_102.out; have hnc14 := NB102_101.out; have hcz15_0 : w13.cell? ⟨gb101, 0, none⟩ = some (.slice A0_0 l0_0.length c0_0) := (zL BK101.out 0).trans rfl; have hfz15_0 := zQ BK101.out 0) | ((with_reducible refine zf (f := 8) rfl ?_); refine qT (some 12) rfl rfl Try.func8 (by kernel_rfl) rfl #[.agg #[.slice A0_0 l0_0.length c0_0], .int .i64 1048576] rfl (by (try simp only [yiy, yjy, yky]); first | done | rfl | (simp only [yly, ymy]; rfl)) ?_; (with_reducible refine (zx.calls k _ _ l0_0 1048576 t103 _ ?side1 ?side2 A3.out).mono ?_); (case side1 => repeat (first | exact (Kd.zw HR0_0.out HB.out) | (with_reducible refine Kd.zn ?_ _) | (with_reducible refine Kd.zo ?_ _) | (with_reducible refine Kd.qD ?_))); (case side2 => exact HC0_0.out); rintro e w16 ⟨rfl, hb⟩; refine ⟨_, rfl, ?_⟩; have n0_ := zA.mk (zJ (g := gb101) (o := .cells #[.slice A0_0 l0_0.length c0_0] 24 (0, 0)) (by (with_reducible repeat (first | refine zH ?_ _ | refine zI ?_ | refine zF ?_ _)); exact BK101.out) hb); have n1_ := zA.mk (zJ (g := gb102) (o := .cells #[.slice A1_0 l1_0.length c1_0] 24 (0, 0)) (by (with_reducible repeat (first | refine zH ?_ _ | refine zI ?_ | refine zF ?_ _)); exact BK102.out) hb); have n2_ := zA.mk (zN (by repeat (first | (with_reducible first | exact HB.out | apply zC | apply zB | apply zD | refine zE ?_ GE101.out | refine zE ?_ GE102.out) | exact HB.out)) hb); clear BK101; clear BK102; clear HB; have BK101 := n0_; have BK102 := n1_; have HB := n2_; clear n0_ n1_ n2_; (try clear hb); (try clear hb2); (try clear hk); (try clear hi); have hcz17_0 : w16.cell? ⟨gb102, 0, none⟩ = some (.slice A1_0 l1_0.length c1_0) := (zL BK102.out 0).trans rfl; have hfz17_0 := zQ BK102.out 0) | ((with_reducible refine zf (f := 8) rfl ?_); refine qT (some 17) rfl rfl Try.func8 (by kernel_rfl) rfl #[.agg #[.slice A1_0 l1_0.length c1_0], .int .i64 t103] rfl (by (try simp only [yiy, yjy, yky]); first | done | rfl | (simp only [yly, ymy]; rfl)) ?_; (with_reducible refine (zx.calls k _ _ l1_0 t103 t104 _ ?side1 ?side2 A10.out).mono ?_); (case side1 => repeat (first | exact (Kd.zw HR1_0.out HB.out) | (with_reducible refine Kd.zn ?_ _) | (with_reducible refine Kd.zo ?_ _) | (with_reducible refine Kd.qD ?_))); (case side2 => exact HC1_0.out); rintro e w18 ⟨rfl, hb⟩; refine ⟨_, rfl, ?_⟩; have n0_ := zA.mk (zJ (g := gb101) (o := .cells #[.slice A0_0 l0_0.length c0_0] 24 (0, 0)) (by (with_reducible repeat (first | refine zH ?_ _ | refine zI ?_ | refine zF ?_ _)); exact BK101.out) hb); have n1_ := zA.mk (zJ (g := gb102) (o := .cells #[.slice A1_0 l1_0.length c1_0] 24 (0, 0)) (by (with_reducible repeat (first | refine zH ?_ _ | refine zI ?_ | refine zF ?_ _)); exact BK102.out) hb); have n2_ := zA.mk (zN (by repeat (first | (with_reducible first | exact HB.out | apply zC | apply zB | apply zD | refine zE ?_ GE101.out | refine zE ?_ GE102.out) | exact HB.out)) hb); clear BK101; clear BK102; clear HB; have BK101 := n0_; have BK102 := n1_; have HB := n2_; clear n0_ n1_ n2_; (try clear hb); (try clear hb2); (try clear hk); (try clear hi)))
   go_ret
   exact ⟨by first | rfl | (simp [zb, zc] <;> rfl) | (simp [*, zb, zc] <;> rfl), by repeat (first | (with_reducible first | exact HB.out | apply zC | apply zB | apply zD | refine zE ?_ GE101.out | refine zE ?_ GE102.out) | exact HB.out)⟩
  next =>
   rw [if_neg c11] at H
   have c11b0 : decide (t104 < 0) = false := yhy c11
   clear c11
   replace H := ydy.mp H
   obtain ⟨t105, A190, H⟩ := H
   replace H : ((zP.f k l1_0).bind fun t108 => ((qL.f k t105 t108).bind fun t111 => ((zP.f k l0_0).bind fun t112 => ((zP.f k l1_0).bind fun t116 => ((qC.f k t112 t116).bind fun t120 => (if t120 = t111 then ((zP.f k l0_0).bind fun t121 => ((ze.f k t112 t121).bind fun t124 => (if t124 = true then ((zP.f k l1_0).bind fun t125 => ((ze.f k t116 t125).bind fun t128 => (if t128 = true then (some true) else (some false)))) else (some false)))) else (some false))))))) = some r := H
   have A19 := zA.mk A190
   clear A190
   replace H := ydy.mp H
   obtain ⟨t108, A200, H⟩ := H
   replace H : ((qL.f k t105 t108).bind fun t111 => ((zP.f k l0_0).bind fun t112 => ((zP.f k l1_0).bind fun t116 => ((qC.f k t112 t116).bind fun t120 => (if t120 = t111 then ((zP.f k l0_0).bind fun t121 => ((ze.f k t112 t121).bind fun t124 => (if t124 = true then ((zP.f k l1_0).bind fun t125 => ((ze.f k t116 t125).bind fun t128 => (if t128 = true then (some true) else (some false)))) else (some false)))) else (some false)))))) = some r := H
   have A20 := zA.mk A200
   clear A200
   replace H := ydy.mp H
   obtain ⟨t111, A210, H⟩ := H
   replace H : ((zP.f k l0_0).bind fun t112 => ((zP.f k l1_0).bind fun t116 => ((qC.f k t112 t116).bind fun t120 => (if t120 = t111 then ((zP.f k l0_0).bind fun t121 => ((ze.f k t112 t121).bind fun t124 => (if t124 = true then ((zP.f k l1_0).bind fun t125 => ((ze.f k t116 t125).bind fun t128 => (if t128 = true then (some true) else (some false)))) else (some false)))) else (some false))))) = some r := H
   have A21 := zA.mk A210
   clear A210
   replace H := ydy.mp H
   obtain ⟨t112, A220, H⟩ := H
   replace H : ((zP.f k l1_0).bind fun t116 => ((qC.f k t112 t116).bind fun t120 => (if t120 = t111 then ((zP.f k l0_0).bind fun t121 => ((ze.f k t112 t121).bind fun t124 => (if t124 = true then ((zP.f k l1_0).bind fun t125 => ((ze.f k t116 t125).bind fun t128 => (if t128 = true then (some true) else (some false)))) else (some false)))) else (some false)))) = some r := H
   have A22 := zA.mk A220
   clear A220
   replace H := ydy.mp H
   obtain ⟨t116, A230, H⟩ := H
   replace H : ((qC.f k t112 t116).bind fun t120 => (if t120 = t111 then ((zP.f k l0_0).bind fun t121 => ((ze.f k t112 t121).bind fun t124 => (if t124 = true then ((zP.f k l1_0).bind fun t125 => ((ze.f k t116 t125).bind fun t128 => (if t128 = true then (some true) else (some false)))) else (some false)))) else (some false))) = some r := H
   have A23 := zA.mk A230
   clear A230
   replace H := ydy.mp H
   obtain ⟨t120, A240, H⟩ := H
   replace H : (if t120 = t111 then ((zP.f k l0_0).bind fun t121 => ((ze.f k t112 t121).bind fun t124 => (if t124 = true then ((zP.f k l1_0).bind fun t125 => ((ze.f k t116 t125).bind fun t128 => (if t128 = true then (some true) else (some false)))) else (some false)))) else (some false)) = some r := H
   have A24 := zA.mk A240
   clear A240
   by_cases c25 : t120 = t111
   rotate_left
   next =>
    rw [if_neg c25] at H
    have c25b0 : (t120 == t111) = false := beq_eq_false_iff_ne.mpr c25
    have c25b1 : (t120 != t111) = true := bne_iff_ne.mpr c25
    obtain rfl := yey H
    go_enter Try.func6, Try.ntmps6
    try go_wp2_with (first | ((with_reducible refine zq (N := 2) rfl ?_); refine zr ?hg (N := 2) ?hd (cs := #[.slice A0_0 l0_0.length c0_0]) (t := 24) ?hr ?_; (case hd => rfl); (case hg => rfl); (case hr => first | (go_simp; done) | (go_simp; rfl)); intro gb101 hg w142 hbox hb; have n0_ := zA.mk (zN (by repeat (first | (with_reducible first | exact HB.out | apply zC | apply zB | apply zD) | exact HB.out)) hb); have n1_ := zA.mk (hbox); have n2_ := zA.mk ((by rw [hg]; exact (zO (by repeat (first | (with_reducible first | exact HB.out | apply zC | apply zB | apply zD) | exact HB.out))) : w.heap.size ≤ gb101)); have n3_ := zA.mk ((by rw [hg]; exact (zO (by repeat (first | (with_reducible first | exact HB.out | apply zC | apply zB | apply zD) | exact HB.out))) : w.heap.size ≤ gb101)); clear HB; have HB := n0_; have BK101 := n1_; have GW101 := n2_; have GE101 := n3_; clear n0_ n1_ n2_ n3_; clear hb hbox hg) | ((with_reducible refine zq (N := 3) rfl ?_); refine zr ?hg (N := 3) ?hd (cs := #[.slice A1_0 l1_0.length c1_0]) (t := 24) ?hr ?_; (case hd => rfl); (case hg => rfl); (case hr => first | (go_simp; done) | (go_simp; rfl)); intro gb102 hg w143 hbox hb; have n0_ := zA.mk (zJ (g := gb101) (o := .cells #[.slice A0_0 l0_0.length c0_0] 24 (0, 0)) (by (with_reducible repeat (first | refine zH ?_ _ | refine zI ?_ | refine zF ?_ _)); exact BK101.out) hb); have n1_ := zA.mk (zN (by repeat (first | (with_reducible first | exact HB.out | apply zC | apply zB | apply zD | refine zE ?_ GE101.out) | exact HB.out)) hb); have n2_ := zA.mk (hbox); have n3_ := zA.mk ((by rw [hg]; exact (zO (by repeat (first | (with_reducible first | exact HB.out | apply zC | apply zB | apply zD | refine zE ?_ GE101.out) | exact HB.out))) : w.heap.size ≤ gb102)); have n4_ := zA.mk ((by rw [hg]; exact (zO (by repeat (first | (with_reducible first | exact HB.out | apply zC | apply zB | apply zD | refine zE ?_ GE101.out) | exact HB.out))) : w.heap.size ≤ gb102)); have n5_ := zA.mk ((by rw [hg]; exact Nat.ne_of_lt (zt (g := gb101) (o := .cells #[.slice A0_0 l0_0.length c0_0] 24 (0, 0)) (by (with_reducible repeat (first | refine zH ?_ _ | refine zI ?_ | refine zF ?_ _)); exact BK101.out)) : gb101 ≠ gb102)); have n6_ := zA.mk ((by rw [hg]; exact Nat.ne_of_gt (zt (g := gb101) (o := .cells #[.slice A0_0 l0_0.length c0_0] 24 (0, 0)) (by (with_reducible repeat (first | refine zH ?_ _ | refine zI ?_ | refine zF ?_ _)); exact BK101.out)) : gb102 ≠ gb101)); clear BK101; clear HB; have BK101 := n0_; have HB := n1_; have BK102 := n2_; have GW102 := n3_; have GE102 := n4_; have NB101_102 := n5_; have NB102_101 := n6_; clear n0_ n1_ n2_ n3_ n4_ n5_ n6_; clear hb hbox hg; have hnb144 := NB101_102.out; have hnc144 := NB102_101.out; have hcz145_0 : w143.cell? ⟨gb101, 0, none⟩ = some (.slice A0_0 l0_0.length c0_0) := (zL BK101.out 0).trans rfl; have hfz145_0 := zQ BK101.out 0) | ((with_reducible refine zf (f := 8) rfl ?_); refine qT (some 12) rfl rfl Try.func8 (by kernel_rfl) rfl #[.agg #[.slice A0_0 l0_0.length c0_0], .int .i64 1048576] rfl (by (try simp only [yiy, yjy, yky]); first | done | rfl | (simp only [yly, ymy]; rfl)) ?_; (with_reducible refine (zx.calls k _ _ l0_0 1048576 t103 _ ?side1 ?side2 A3.out).mono ?_); (case side1 => repeat (first | exact (Kd.zw HR0_0.out HB.out) | (with_reducible refine Kd.zn ?_ _) | (with_reducible refine Kd.zo ?_ _) | (with_reducible refine Kd.qD ?_))); (case side2 => exact HC0_0.out); rintro e w146 ⟨rfl, hb⟩; refine ⟨_, rfl, ?_⟩; have n0_ := zA.mk (zJ (g := gb101) (o := .cells #[.slice A0_0 l0_0.length c0_0] 24 (0, 0)) (by (with_reducible repeat (first | refine zH ?_ _ | refine zI ?_ | refine zF ?_ _)); exact BK101.out) hb); have n1_ := zA.mk (zJ (g := gb102) (o := .cells #[.slice A1_0 l1_0.length c1_0] 24 (0, 0)) (by (with_reducible repeat (first | refine zH ?_ _ | refine zI ?_ | refine zF ?_ _)); exact BK102.out) hb); have n2_ := zA.mk (zN (by repeat (first | (with_reducible first | exact HB.out | apply zC | apply zB | apply zD | refine zE ?_ GE101.out | refine zE ?_ GE102.out) | exact HB.out)) hb); clear BK101; clear BK102; clear HB; have BK101 := n0_; have BK102 := n1_; have HB := n2_; clear n0_ n1_ n2_; (try clear hb); (try clear hb2); (try clear hk); (try clear hi); have hcz147_0 : w146.cell? ⟨gb102, 0, none⟩ = some (.slice A1_0 l1_0.length c1_0) := (zL BK102.out 0).trans rfl; have hfz147_0 := zQ BK102.out 0) | ((with_reducible refine zf (f := 8) rfl ?_); refine qT (some 17) rfl rfl Try.func8 (by kernel_rfl) rfl #[.agg #[.slice A1_0 l1_0.length c1_0], .int .i64 t103] rfl (by (try simp only [yiy, yjy, yky]); first | done | rfl | (simp only [yly, ymy]; rfl)) ?_; (with_reducible refine (zx.calls k _ _ l1_0 t103 t104 _ ?side1 ?side2 A10.out).mono ?_); (case side1 => repeat (first | exact (Kd.zw HR1_0.out HB.out) | (with_reducible refine Kd.zn ?_ _) | (with_reducible refine Kd.zo ?_ _) | (with_reducible refine Kd.qD ?_))); (case side2 => exact HC1_0.out); rintro e w148 ⟨rfl, hb⟩; refine ⟨_, rfl, ?_⟩; have n0_ := zA.mk (zJ (g := gb101) (o := .cells #[.slice A0_0 l0_0.length c0_0] 24 (0, 0)) (by (with_reducible repeat (first | refine zH ?_ _ | refine zI ?_ | refine zF ?_ _)); exact BK101.out) hb); have n1_ := zA.mk (zJ (g := gb102) (o := .cells #[.slice A1_0 l1_0.length c1_0] 24 (0, 0)) (by (with_reducible repeat (first | refine zH ?_ _ | refine zI ?_ | refine zF ?_ _)); exact BK102.out) hb); have n2_ := zA.mk (zN (by repeat (first | (with_reducible first | exact HB.out | apply zC | apply zB | apply zD | refine zE ?_ GE101.out | refine zE ?_ GE102.out) | exact HB.out)) hb); clear BK101; clear BK102; clear HB; have BK101 := n0_; have BK102 := n1_; have HB := n2_; clear n0_ n1_ n2_; (try clear hb); (try clear hb2); (try clear hk); (try clear hi)))
    have n0_ := zA.mk (zI BK101.out)
    have n1_ := zA.mk (zI BK102.out)
    have n2_ := zA.mk (zD HB.out)
    clear BK101
    clear BK102
    clear HB
    have BK101 := n0_
    have BK102 := n1_
    have HB := n2_
    clear n0_ n1_ n2_
    refine ZT (n := 6) (S := fun w' => w'.cell? ⟨gb101, 0, none⟩ = some (.slice A0_0 l0_0.length c0_0) ∧ w'.cell? ⟨gb102, 0, none⟩ = some (.slice A1_0 l1_0.length c1_0)) (ds := []) #[false, false, false, false, false, false] (by kernel_rfl) rfl rfl ⟨(zL BK101.out 0).trans rfl, (zL BK102.out 0).trans rfl⟩ (fun hHeld => ?_)
    generalize w148.drew = w149 at BK101 BK102 HB hHeld ⊢
    refine qd (i := 0) (N := some 20) (v := ?_) (a' := ?_) #[true, false, false, false, false, false] rfl rfl (by kernel_rfl) (fun _ _ _ h => h) (Or.inl ⟨by rfl, ?_⟩) hHeld ?_ ?_
    rotate_left
    next =>
     rintro w' ⟨s0, s1⟩
     go_simp
     with_reducible rfl
    rotate_left
    next =>
     simp only [Act.put, yay, yby, ycy, zT, zV]
     rfl
    refine qd (i := 2) (N := some 22) (v := ?_) (a' := ?_) #[true, false, true, false, false, false] rfl rfl (by kernel_rfl) (fun _ _ _ h => h) (Or.inl ⟨by rfl, ?_⟩) hHeld ?_ ?_
    rotate_left
    next =>
     rintro w' ⟨s0, s1⟩
     go_simp
     with_reducible rfl
    rotate_left
    next =>
     simp only [Act.put, yay, yby, ycy, zT, zV]
     rfl
    refine QH (i := 1) (N := some 21) #[true, true, true, false, false, false] rfl rfl (by kernel_rfl) (by decide) (fun K hK => ?_)
    refine ZV Try.func10 (by kernel_rfl) rfl #[.agg #[.slice A0_0 l0_0.length c0_0]] (by rfl) rfl rfl (by (try simp only [yiy, yjy, yky]); first | done | rfl | (simp only [yly, ymy]; rfl)) ?_
    with_reducible refine (zP.calls k _ _ l0_0 t105 _ ?side1 ?side2 A19.out).mono ?_
    (case side1 => repeat (first | exact (Kd.zw HR0_0.out HB.out) | (with_reducible refine Kd.zn ?_ _) | (with_reducible refine Kd.zo ?_ _) | (with_reducible refine Kd.qD ?_)))
    (case side2 => exact HC0_0.out)
    rintro e w150 ⟨v106, rfl, ho0, hb⟩
    refine ⟨_, rfl, ?_⟩
    have n0_ := zA.mk (Kd.ZY ho0 (zO (by repeat (first | (with_reducible first | exact HB.out | apply zC | apply zB | apply zD | refine zE ?_ GE101.out | refine zE ?_ GE102.out) | exact HB.out))))
    have n1_ := zA.mk (zJ (g := gb101) (o := .cells #[.slice A0_0 l0_0.length c0_0] 24 (0, 0)) (by (with_reducible repeat (first | refine zH ?_ _ | refine zI ?_ | refine zF ?_ _)); exact BK101.out) hb)
    have n2_ := zA.mk (zJ (g := gb102) (o := .cells #[.slice A1_0 l1_0.length c1_0] 24 (0, 0)) (by (with_reducible repeat (first | refine zH ?_ _ | refine zI ?_ | refine zF ?_ _)); exact BK102.out) hb)
    have n3_ := zA.mk (zN (by repeat (first | (with_reducible first | exact HB.out | apply zC | apply zB | apply zD | refine zE ?_ GE101.out | refine zE ?_ GE102.out) | exact HB.out)) hb)
    clear BK101
    clear BK102
    clear HB
    have HO107 := n0_
    have BK101 := n1_
    have BK102 := n2_
    have HB := n3_
    clear n0_ n1_ n2_ n3_
    (try clear hb)
    (try clear hb2)
    (try clear hk)
    (try clear hi)
    (try clear ho0)
    refine hK.out _ _ ⟨(zL BK101.out 0).trans rfl, (zL BK102.out 0).trans rfl⟩ (fun hHeld => ?_)
    clear hK K
    refine qz (a' := ?_) ?_ ?_
    rotate_left
    next =>
     show Act.put _ (some 21) _ = _
     simp only [Act.put, yay, yby, ycy, zT, zV]
     rfl
    refine QH (i := 3) (N := some 23) #[true, true, true, true, false, false] rfl rfl (by kernel_rfl) (by decide) (fun K hK => ?_)
    refine ZV Try.func10 (by kernel_rfl) rfl #[.agg #[.slice A1_0 l1_0.length c1_0]] (by rfl) rfl rfl (by (try simp only [yiy, yjy, yky]); first | done | rfl | (simp only [yly, ymy]; rfl)) ?_
    with_reducible refine (zP.calls k _ _ l1_0 t108 _ ?side1 ?side2 A20.out).mono ?_
    (case side1 => repeat (first | exact (Kd.zw HR1_0.out HB.out) | (with_reducible refine Kd.zn ?_ _) | (with_reducible refine Kd.zo ?_ _) | (with_reducible refine Kd.qD ?_)))
    (case side2 => exact HC1_0.out)
    rintro e w151 ⟨v109, rfl, ho0, hb⟩
    refine ⟨_, rfl, ?_⟩
    have n0_ := zA.mk (Kd.qN (by (with_reducible repeat (first | apply Kd.zY | apply Kd.zZ | apply Kd.za)); exact HO107.out) (Kd.qt ho0) hb)
    have n1_ := zA.mk (Kd.ZY (Kd.qv ho0 (Kd.Ql (by (with_reducible repeat (first | apply Kd.zY | apply Kd.zZ | apply Kd.za)); exact HO107.out))) (zO (by repeat (first | (with_reducible first | exact HB.out | apply zC | apply zB | apply zD | refine zE ?_ GE101.out | refine zE ?_ GE102.out) | exact HB.out))))
    have n2_ := zA.mk (zJ (g := gb101) (o := .cells #[.slice A0_0 l0_0.length c0_0] 24 (0, 0)) (by (with_reducible repeat (first | refine zH ?_ _ | refine zI ?_ | refine zF ?_ _)); exact BK101.out) hb)
    have n3_ := zA.mk (zJ (g := gb102) (o := .cells #[.slice A1_0 l1_0.length c1_0] 24 (0, 0)) (by (with_reducible repeat (first | refine zH ?_ _ | refine zI ?_ | refine zF ?_ _)); exact BK102.out) hb)
    have n4_ := zA.mk (zN (by repeat (first | (with_reducible first | exact HB.out | apply zC | apply zB | apply zD | refine zE ?_ GE101.out | refine zE ?_ GE102.out) | exact HB.out)) hb)
    clear HO107
    clear BK101
    clear BK102
    clear HB
    have HO107 := n0_
    have HO110 := n1_
    have BK101 := n2_
    have BK102 := n3_
    have HB := n4_
    clear n0_ n1_ n2_ n3_ n4_
    (try clear hb)
    (try clear hb2)
    (try clear hk)
    (try clear hi)
    (try clear ho0)
    obtain ⟨Ao152, co152, eo152⟩ := Kd.Za HO107.out
    (first | subst eo152 | (injection eo152 with f1_ f2_ f3_; have f4_ := f1_.symm; have f5_ := f3_.symm; clear f1_ f2_ f3_; subst f4_; subst f5_))
    obtain ⟨Ao153, co153, eo153⟩ := Kd.Za HO110.out
    (first | subst eo153 | (injection eo153 with f1_ f2_ f3_; have f4_ := f1_.symm; have f5_ := f3_.symm; clear f1_ f2_ f3_; subst f4_; subst f5_))
    refine hK.out _ _ ⟨(zL BK101.out 0).trans rfl, (zL BK102.out 0).trans rfl⟩ (fun hHeld => ?_)
    clear hK K
    refine qz (a' := ?_) ?_ ?_
    rotate_left
    next =>
     show Act.put _ (some 23) _ = _
     simp only [Act.put, yay, yby, ycy, zT, zV]
     rfl
    refine QH (i := 4) (N := some 24) #[true, true, true, true, true, false] rfl rfl (by kernel_rfl) (by decide) (fun K hK => ?_)
    refine ZV Try.func22 (by kernel_rfl) rfl #[.agg #[.slice Ao152 t105.length co152], .agg #[.slice Ao153 t108.length co153]] (by rfl) rfl rfl (by (try simp only [yiy, yjy, yky]); first | done | rfl | (simp only [yly, ymy]; rfl)) ?_
    with_reducible refine (qL.calls k _ _ t105 _ _ t108 t111 _ ?side1 ?side2 ?side3 ?side4 A21.out).mono ?_
    (case side1 => repeat (first | exact (Kd.qI HO107.out).2.2 | (with_reducible refine Kd.zn ?_ _) | (with_reducible refine Kd.zo ?_ _) | (with_reducible refine Kd.qD ?_)))
    (case side2 => exact (Kd.qI HO107.out).2.1)
    (case side3 => repeat (first | exact (Kd.qI HO110.out).2.2 | (with_reducible refine Kd.zn ?_ _) | (with_reducible refine Kd.zo ?_ _) | (with_reducible refine Kd.qD ?_)))
    (case side4 => exact (Kd.qI HO110.out).2.1)
    rintro e w154 ⟨rfl, hb⟩
    refine ⟨_, rfl, ?_⟩
    have n0_ := zA.mk (Kd.zy (by (with_reducible repeat (first | apply Kd.zY | apply Kd.zZ | apply Kd.za)); exact HO107.out) hb)
    have n1_ := zA.mk (Kd.zy (by (with_reducible repeat (first | apply Kd.zY | apply Kd.zZ | apply Kd.za)); exact HO110.out) hb)
    have n2_ := zA.mk (zJ (g := gb101) (o := .cells #[.slice A0_0 l0_0.length c0_0] 24 (0, 0)) (by (with_reducible repeat (first | refine zH ?_ _ | refine zI ?_ | refine zF ?_ _)); exact BK101.out) hb)
    have n3_ := zA.mk (zJ (g := gb102) (o := .cells #[.slice A1_0 l1_0.length c1_0] 24 (0, 0)) (by (with_reducible repeat (first | refine zH ?_ _ | refine zI ?_ | refine zF ?_ _)); exact BK102.out) hb)
    have n4_ := zA.mk (zN (by repeat (first | (with_reducible first | exact HB.out | apply zC | apply zB | apply zD | refine zE ?_ GE101.out | refine zE ?_ GE102.out) | exact HB.out)) hb)
    clear HO107
    clear HO110
    clear BK101
    clear BK102
    clear HB
    have HO107 := n0_
    have HO110 := n1_
    have BK101 := n2_
    have BK102 := n3_
    have HB := n4_
    clear n0_ n1_ n2_ n3_ n4_
    (try clear hb)
    (try clear hb2)
    (try clear hk)
    (try clear hi)
    refine hK.out _ _ ⟨(zL BK101.out 0).trans rfl, (zL BK102.out 0).trans rfl⟩ (fun hHeld => ?_)
    clear hK K
    refine qz (a' := ?_) ?_ ?_
    rotate_left
    next =>
     show Act.put _ (some 24) _ = _
     simp only [Act.put, yay, yby, ycy, zT, zV]
     rfl
    refine zh (i := 5) (N := some 6) (v := ?_) (a' := ?_) #[true, true, true, true, true, true] rfl rfl (by kernel_rfl) (fun _ _ _ h => h) (Or.inl ⟨by rfl, ?_⟩) ?_ ?_
    rotate_left
    next =>
     intro w'
     go_simp
     with_reducible rfl
    rotate_left
    next =>
     simp only [Act.put, yay, yby, ycy, zT, zV]
     rfl
    refine Zy (by kernel_rfl) ?_
    have hcz155_0 : w154.cell? ⟨gb101, 0, none⟩ = some (.slice A0_0 l0_0.length c0_0) := (zL BK101.out 0).trans rfl
    have hfz155_0 := zQ BK101.out 0
    try go_wp2_with (first | ((with_reducible refine zf (f := 10) rfl ?_); refine qT (some 26) rfl rfl Try.func10 (by kernel_rfl) rfl #[.agg #[.slice A0_0 l0_0.length c0_0]] rfl (by (try simp only [yiy, yjy, yky]); first | done | rfl | (simp only [yly, ymy]; rfl)) ?_; (with_reducible refine (zP.calls k _ _ l0_0 t112 _ ?side1 ?side2 A22.out).mono ?_); (case side1 => repeat (first | exact (Kd.zw HR0_0.out HB.out) | (with_reducible refine Kd.zn ?_ _) | (with_reducible refine Kd.zo ?_ _) | (with_reducible refine Kd.qD ?_))); (case side2 => exact HC0_0.out); rintro e w156 ⟨v113, rfl, ho0, hb⟩; refine ⟨_, rfl, ?_⟩; have n0_ := zA.mk (Kd.qN (by (with_reducible repeat (first | apply Kd.zY | apply Kd.zZ | apply Kd.za)); exact HO107.out) (Kd.qt ho0) hb); have n1_ := zA.mk (Kd.qN (by (with_reducible repeat (first | apply Kd.zY | apply Kd.zZ | apply Kd.za)); exact HO110.out) (Kd.qt ho0) hb); have n2_ := zA.mk (Kd.ZY (Kd.qv (Kd.qv ho0 (Kd.Ql (by (with_reducible repeat (first | apply Kd.zY | apply Kd.zZ | apply Kd.za)); exact HO107.out))) (Kd.Ql (by (with_reducible repeat (first | apply Kd.zY | apply Kd.zZ | apply Kd.za)); exact HO110.out))) (zO (by repeat (first | (with_reducible first | exact HB.out | apply zC | apply zB | apply zD | refine zE ?_ GE101.out | refine zE ?_ GE102.out) | exact HB.out)))); have n3_ := zA.mk (zJ (g := gb101) (o := .cells #[.slice A0_0 l0_0.length c0_0] 24 (0, 0)) (by (with_reducible repeat (first | refine zH ?_ _ | refine zI ?_ | refine zF ?_ _)); exact BK101.out) hb); have n4_ := zA.mk (zJ (g := gb102) (o := .cells #[.slice A1_0 l1_0.length c1_0] 24 (0, 0)) (by (with_reducible repeat (first | refine zH ?_ _ | refine zI ?_ | refine zF ?_ _)); exact BK102.out) hb); have n5_ := zA.mk (zN (by repeat (first | (with_reducible first | exact HB.out | apply zC | apply zB | apply zD | refine zE ?_ GE101.out | refine zE ?_ GE102.out) | exact HB.out)) hb); clear HO107; clear HO110; clear BK101; clear BK102; clear HB; have HO107 := n0_; have HO110 := n1_; have HO114 := n2_; have BK101 := n3_; have BK102 := n4_; have HB := n5_; clear n0_ n1_ n2_ n3_ n4_ n5_; (try clear hb); (try clear hb2); (try clear hk); (try clear hi); (try clear ho0)) | ((with_reducible refine zq (N := 7) rfl ?_); refine zr ?hg (N := 7) ?hd (cs := #[.slice none 0 0]) (t := 30) ?hr ?_; (case hd => rfl); (case hg => rfl); (case hr => first | (go_simp; done) | (go_simp; rfl)); intro gb115 hg w157 hbox hb; have n0_ := zA.mk (Kd.zy (by (with_reducible repeat (first | apply Kd.zY | apply Kd.zZ | apply Kd.za)); exact HO107.out) hb); have n1_ := zA.mk (Kd.zy (by (with_reducible repeat (first | apply Kd.zY | apply Kd.zZ | apply Kd.za)); exact HO110.out) hb); have n2_ := zA.mk (Kd.zy (by (with_reducible repeat (first | apply Kd.zY | apply Kd.zZ | apply Kd.za)); exact HO114.out) hb); have n3_ := zA.mk (zJ (g := gb101) (o := .cells #[.slice A0_0 l0_0.length c0_0] 24 (0, 0)) (by (with_reducible repeat (first | refine zH ?_ _ | refine zI ?_ | refine zF ?_ _)); exact BK101.out) hb); have n4_ := zA.mk (zJ (g := gb102) (o := .cells #[.slice A1_0 l1_0.length c1_0] 24 (0, 0)) (by (with_reducible repeat (first | refine zH ?_ _ | refine zI ?_ | refine zF ?_ _)); exact BK102.out) hb); have n5_ := zA.mk (zN (by repeat (first | (with_reducible first | exact HB.out | apply zC | apply zB | apply zD | refine zE ?_ GE101.out | refine zE ?_ GE102.out) | exact HB.out)) hb); have n6_ := zA.mk (hbox); have n7_ := zA.mk ((by rw [hg]; exact (zO (by repeat (first | (with_reducible first | exact HB.out | apply zC | apply zB | apply zD | refine zE ?_ GE101.out | refine zE ?_ GE102.out) | exact HB.out))) : w.heap.size ≤ gb115)); have n8_ := zA.mk ((by rw [hg]; exact (zO (by repeat (first | (with_reducible first | exact HB.out | apply zC | apply zB | apply zD | refine zE ?_ GE101.out | refine zE ?_ GE102.out) | exact HB.out))) : w.heap.size ≤ gb115)); have n9_ := zA.mk ((by rw [hg]; exact Nat.ne_of_lt (zt (g := gb101) (o := .cells #[.slice A0_0 l0_0.length c0_0] 24 (0, 0)) (by (with_reducible repeat (first | refine zH ?_ _ | refine zI ?_ | refine zF ?_ _)); exact BK101.out)) : gb101 ≠ gb115)); have n10_ := zA.mk ((by rw [hg]; exact Nat.ne_of_gt (zt (g := gb101) (o := .cells #[.slice A0_0 l0_0.length c0_0] 24 (0, 0)) (by (with_reducible repeat (first | refine zH ?_ _ | refine zI ?_ | refine zF ?_ _)); exact BK101.out)) : gb115 ≠ gb101)); have n11_ := zA.mk ((by rw [hg]; exact Nat.ne_of_lt (zt (g := gb102) (o := .cells #[.slice A1_0 l1_0.length c1_0] 24 (0, 0)) (by (with_reducible repeat (first | refine zH ?_ _ | refine zI ?_ | refine zF ?_ _)); exact BK102.out)) : gb102 ≠ gb115)); have n12_ := zA.mk ((by rw [hg]; exact Nat.ne_of_gt (zt (g := gb102) (o := .cells #[.slice A1_0 l1_0.length c1_0] 24 (0, 0)) (by (with_reducible repeat (first | refine zH ?_ _ | refine zI ?_ | refine zF ?_ _)); exact BK102.out)) : gb115 ≠ gb102)); clear HO107; clear HO110; clear HO114; clear BK101; clear BK102; clear HB; have HO107 := n0_; have HO110 := n1_; have HO114 := n2_; have BK101 := n3_; have BK102 := n4_; have HB := n5_; have BK115 := n6_; have GW115 := n7_; have GE115 := n8_; have NB101_115 := n9_; have NB115_101 := n10_; have NB102_115 := n11_; have NB115_102 := n12_; clear n0_ n1_ n2_ n3_ n4_ n5_ n6_ n7_ n8_ n9_ n10_ n11_ n12_; clear hb hbox hg; obtain ⟨Ao158, co158, eo158⟩ := Kd.Za HO114.out; subst eo158; have hnb159 := NB115_101.out; have hnc159 := NB101_115.out; have hnb160 := NB115_102.out; have hnc160 := NB102_115.out; have hcz161_0 : w157.cell? ⟨gb115, 0, none⟩ = some (.slice none 0 0) := (zL BK115.out 0).trans rfl; have hfz161_0 := zQ BK115.out 0; have hcz162_0 : w157.cell? ⟨gb102, 0, none⟩ = some (.slice A1_0 l1_0.length c1_0) := (zL BK102.out 0).trans rfl; have hfz162_0 := zQ BK102.out 0) | ((with_reducible refine zf (f := 10) rfl ?_); refine qT (some 28) rfl rfl Try.func10 (by kernel_rfl) rfl #[.agg #[.slice A1_0 l1_0.length c1_0]] rfl (by (try simp only [yiy, yjy, yky]); first | done | rfl | (simp only [yly, ymy]; rfl)) ?_; (with_reducible refine (zP.calls k _ _ l1_0 t116 _ ?side1 ?side2 A23.out).mono ?_); (case side1 => exact Kd.zw HR1_0.out (by repeat (first | (with_reducible first | exact HB.out | apply zC | apply zB | apply zD | refine zE ?_ GE101.out | refine zE ?_ GE102.out | refine zE ?_ GE115.out) | exact HB.out))); (case side2 => exact HC1_0.out); rintro e w163 ⟨v117, rfl, ho0, hb⟩; refine ⟨_, rfl, ?_⟩; have n0_ := zA.mk (Kd.qN (by (with_reducible repeat (first | apply Kd.zY | apply Kd.zZ | apply Kd.za)); exact (Kd.qj (Kd.ZU (p := ⟨gb115, 0, none⟩) (Kd.qU HO107.out BK115.out (by decide)) (fun _ hk => hk.2) (.slice Ao158 t112.length co158)) (fun _ h_ => h_.1))) (Kd.qt ho0) hb); have n1_ := zA.mk (Kd.qN (by (with_reducible repeat (first | apply Kd.zY | apply Kd.zZ | apply Kd.za)); exact (Kd.qj (Kd.ZU (p := ⟨gb115, 0, none⟩) (Kd.qU HO110.out BK115.out (by decide)) (fun _ hk => hk.2) (.slice Ao158 t112.length co158)) (fun _ h_ => h_.1))) (Kd.qt ho0) hb); have n2_ := zA.mk (Kd.qN (by (with_reducible repeat (first | apply Kd.zY | apply Kd.zZ | apply Kd.za)); exact (Kd.qj (Kd.ZU (p := ⟨gb115, 0, none⟩) (Kd.qU HO114.out BK115.out (by decide)) (fun _ hk => hk.2) (.slice Ao158 t112.length co158)) (fun _ h_ => h_.1))) (Kd.qt ho0) hb); have n3_ := zA.mk (Kd.ZY (Kd.qv (Kd.qv (Kd.qv ho0 (Kd.Ql (by (with_reducible repeat (first | apply Kd.zY | apply Kd.zZ | apply Kd.za)); exact (Kd.qj (Kd.ZU (p := ⟨gb115, 0, none⟩) (Kd.qU HO107.out BK115.out (by decide)) (fun _ hk => hk.2) (.slice Ao158 t112.length co158)) (fun _ h_ => h_.1))))) (Kd.Ql (by (with_reducible repeat (first | apply Kd.zY | apply Kd.zZ | apply Kd.za)); exact (Kd.qj (Kd.ZU (p := ⟨gb115, 0, none⟩) (Kd.qU HO110.out BK115.out (by decide)) (fun _ hk => hk.2) (.slice Ao158 t112.length co158)) (fun _ h_ => h_.1))))) (Kd.Ql (by (with_reducible repeat (first | apply Kd.zY | apply Kd.zZ | apply Kd.za)); exact (Kd.qj (Kd.ZU (p := ⟨gb115, 0, none⟩) (Kd.qU HO114.out BK115.out (by decide)) (fun _ hk => hk.2) (.slice Ao158 t112.length co158)) (fun _ h_ => h_.1))))) (zO (by repeat (first | (with_reducible first | exact HB.out | apply zC | apply zB | apply zD | refine zE ?_ GE101.out | refine zE ?_ GE102.out | refine zE ?_ GE115.out) | exact HB.out)))); have n4_ := zA.mk (zJ (g := gb101) (o := .cells #[.slice A0_0 l0_0.length c0_0] 24 (0, 0)) (by (with_reducible repeat (first | refine zH ?_ _ | refine zI ?_ | refine zF ?_ _)); refine qK ?_ NB101_115.out _; (with_reducible repeat (first | refine zH ?_ _ | refine zI ?_ | refine zF ?_ _)); exact BK101.out) hb); have n5_ := zA.mk (zJ (g := gb102) (o := .cells #[.slice A1_0 l1_0.length c1_0] 24 (0, 0)) (by (with_reducible repeat (first | refine zH ?_ _ | refine zI ?_ | refine zF ?_ _)); refine qK ?_ NB102_115.out _; (with_reducible repeat (first | refine zH ?_ _ | refine zI ?_ | refine zF ?_ _)); exact BK102.out) hb); have n6_ := zA.mk (zJ (g := gb115) (o := .cells #[.slice Ao158 t112.length co158] 30 (0, 0)) (by (with_reducible repeat (first | refine zH ?_ _ | refine zI ?_ | refine zF ?_ _)); refine qc (cs := #[.slice none 0 0]) ?_ 0 _ rfl; (with_reducible repeat (first | refine zH ?_ _ | refine zI ?_ | refine zF ?_ _)); exact BK115.out) hb); have n7_ := zA.mk (zN (by repeat (first | (with_reducible first | exact HB.out | apply zC | apply zB | apply zD | refine zE ?_ GE101.out | refine zE ?_ GE102.out | refine zE ?_ GE115.out) | exact HB.out)) hb); clear HO107; clear HO110; clear HO114; clear BK101; clear BK102; clear BK115; clear HB; have HO107 := n0_; have HO110 := n1_; have HO114 := n2_; have HO118 := n3_; have BK101 := n4_; have BK102 := n5_; have BK115 := n6_; have HB := n7_; clear n0_ n1_ n2_ n3_ n4_ n5_ n6_ n7_; (try clear hb); (try clear hb2); (try clear hk); (try clear hi); (try clear ho0)) | ((with_reducible refine zq (N := 8) rfl ?_); refine zr ?hg (N := 8) ?hd (cs := #[.slice none 0 0]) (t := 30) ?hr ?_; (case hd => rfl); (case hg => rfl); (case hr => first | (go_simp; done) | (go_simp; rfl)); intro gb119 hg w164 hbox hb; have n0_ := zA.mk (Kd.zy (by (with_reducible repeat (first | apply Kd.zY | apply Kd.zZ | apply Kd.za)); exact HO107.out) hb); have n1_ := zA.mk (Kd.zy (by (with_reducible repeat (first | apply Kd.zY | apply Kd.zZ | apply Kd.za)); exact HO110.out) hb); have n2_ := zA.mk (Kd.zy (by (with_reducible repeat (first | apply Kd.zY | apply Kd.zZ | apply Kd.za)); exact HO114.out) hb); have n3_ := zA.mk (Kd.zy (by (with_reducible repeat (first | apply Kd.zY | apply Kd.zZ | apply Kd.za)); exact HO118.out) hb); have n4_ := zA.mk (zJ (g := gb101) (o := .cells #[.slice A0_0 l0_0.length c0_0] 24 (0, 0)) (by (with_reducible repeat (first | refine zH ?_ _ | refine zI ?_ | refine zF ?_ _)); exact BK101.out) hb); have n5_ := zA.mk (zJ (g := gb102) (o := .cells #[.slice A1_0 l1_0.length c1_0] 24 (0, 0)) (by (with_reducible repeat (first | refine zH ?_ _ | refine zI ?_ | refine zF ?_ _)); exact BK102.out) hb); have n6_ := zA.mk (zJ (g := gb115) (o := .cells #[.slice Ao158 t112.length co158] 30 (0, 0)) (by (with_reducible repeat (first | refine zH ?_ _ | refine zI ?_ | refine zF ?_ _)); exact BK115.out) hb); have n7_ := zA.mk (zN (by repeat (first | (with_reducible first | exact HB.out | apply zC | apply zB | apply zD | refine zE ?_ GE101.out | refine zE ?_ GE102.out | refine zE ?_ GE115.out) | exact HB.out)) hb); have n8_ := zA.mk (hbox); have n9_ := zA.mk ((by rw [hg]; exact (zO (by repeat (first | (with_reducible first | exact HB.out | apply zC | apply zB | apply zD | refine zE ?_ GE101.out | refine zE ?_ GE102.out | refine zE ?_ GE115.out) | exact HB.out))) : w.heap.size ≤ gb119)); have n10_ := zA.mk ((by rw [hg]; exact (zO (by repeat (first | (with_reducible first | exact HB.out | apply zC | apply zB | apply zD | refine zE ?_ GE101.out | refine zE ?_ GE102.out | refine zE ?_ GE115.out) | exact HB.out))) : w.heap.size ≤ gb119)); have n11_ := zA.mk ((by rw [hg]; exact Nat.ne_of_lt (zt (g := gb101) (o := .cells #[.slice A0_0 l0_0.length c0_0] 24 (0, 0)) (by (with_reducible repeat (first | refine zH ?_ _ | refine zI ?_ | refine zF ?_ _)); exact BK101.out)) : gb101 ≠ gb119)); have n12_ := zA.mk ((by rw [hg]; exact Nat.ne_of_gt (zt (g := gb101) (o := .cells #[.slice A0_0 l0_0.length c0_0] 24 (0, 0)) (by (with_reducible repeat (first | refine zH ?_ _ | refine zI ?_ | refine zF ?_ _)); exact BK101.out)) : gb119 ≠ gb101)); have n13_ := zA.mk ((by rw [hg]; exact Nat.ne_of_lt (zt (g := gb102) (o := .cells #[.slice A1_0 l1_0.length c1_0] 24 (0, 0)) (by (with_reducible repeat (first | refine zH ?_ _ | refine zI ?_ | refine zF ?_ _)); exact BK102.out)) : gb102 ≠ gb119)); have n14_ := zA.mk ((by rw [hg]; exact Nat.ne_of_gt (zt (g := gb102) (o := .cells #[.slice A1_0 l1_0.length c1_0] 24 (0, 0)) (by (with_reducible repeat (first | refine zH ?_ _ | refine zI ?_ | refine zF ?_ _)); exact BK102.out)) : gb119 ≠ gb102)); have n15_ := zA.mk ((by rw [hg]; exact Nat.ne_of_lt (zt (g := gb115) (o := .cells #[.slice Ao158 t112.length co158] 30 (0, 0)) (by (with_reducible repeat (first | refine zH ?_ _ | refine zI ?_ | refine zF ?_ _)); exact BK115.out)) : gb115 ≠ gb119)); have n16_ := zA.mk ((by rw [hg]; exact Nat.ne_of_gt (zt (g := gb115) (o := .cells #[.slice Ao158 t112.length co158] 30 (0, 0)) (by (with_reducible repeat (first | refine zH ?_ _ | refine zI ?_ | refine zF ?_ _)); exact BK115.out)) : gb119 ≠ gb115)); clear HO107; clear HO110; clear HO114; clear HO118; clear BK101; clear BK102; clear BK115; clear HB; have HO107 := n0_; have HO110 := n1_; have HO114 := n2_; have HO118 := n3_; have BK101 := n4_; have BK102 := n5_; have BK115 := n6_; have HB := n7_; have BK119 := n8_; have GW119 := n9_; have GE119 := n10_; have NB101_119 := n11_; have NB119_101 := n12_; have NB102_119 := n13_; have NB119_102 := n14_; have NB115_119 := n15_; have NB119_115 := n16_; clear n0_ n1_ n2_ n3_ n4_ n5_ n6_ n7_ n8_ n9_ n10_ n11_ n12_ n13_ n14_ n15_ n16_; clear hb hbox hg; obtain ⟨Ao165, co165, eo165⟩ := Kd.Za HO118.out; subst eo165; have hnb166 := NB119_101.out; have hnc166 := NB101_119.out; have hnb167 := NB119_102.out; have hnc167 := NB102_119.out; have hnb168 := NB119_115.out; have hnc168 := NB115_119.out; have hcz169_0 : w164.cell? ⟨gb119, 0, none⟩ = some (.slice none 0 0) := (zL BK119.out 0).trans rfl; have hfz169_0 := zQ BK119.out 0; have hcz170_0 : w164.cell? ⟨gb115, 0, none⟩ = some (.slice Ao158 t112.length co158) := (zL BK115.out 0).trans rfl; have hfz170_0 := zQ BK115.out 0) | ((with_reducible refine zf (f := 23) rfl ?_); refine qT (some 31) rfl rfl Try.func23 (by kernel_rfl) rfl #[.agg #[.slice Ao158 t112.length co158], .agg #[.slice Ao165 t116.length co165]] rfl (by (try simp only [yiy, yjy, yky]); first | done | rfl | (simp only [yly, ymy]; rfl)) ?_; (with_reducible refine (qC.calls k _ _ t112 _ _ t116 t120 _ ?side1 ?side2 ?side3 ?side4 A24.out).mono ?_); (case side1 => refine (Kd.qI (e := 60) (base := w.heap.size) (ok := fun k_ => (((True ∧ some k_ ≠ (.slice Ao152 t105.length co152 : Value).ownBlock) ∧ some k_ ≠ (.slice Ao153 t108.length co153 : Value).ownBlock) ∧ some k_ ≠ (.slice Ao165 t116.length co165 : Value).ownBlock)) (n := t112.length) (c := co158) ?_).2.2; exact (by (with_reducible repeat (first | apply Kd.zY | apply Kd.zZ | apply Kd.za)); exact (Kd.qj (Kd.ZU (p := ⟨gb119, 0, none⟩) (Kd.qU HO114.out BK119.out (by decide)) (fun _ hk => hk.2) (.slice Ao165 t116.length co165)) (fun _ h_ => h_.1)))); (case side2 => exact (Kd.qI HO114.out).2.1); (case side3 => refine (Kd.qI (e := 60) (base := w.heap.size) (ok := fun k_ => (((True ∧ some k_ ≠ (.slice Ao152 t105.length co152 : Value).ownBlock) ∧ some k_ ≠ (.slice Ao153 t108.length co153 : Value).ownBlock) ∧ some k_ ≠ (.slice Ao158 t112.length co158 : Value).ownBlock)) (n := t116.length) (c := co165) ?_).2.2; exact (by (with_reducible repeat (first | apply Kd.zY | apply Kd.zZ | apply Kd.za)); exact (Kd.qj (Kd.ZU (p := ⟨gb119, 0, none⟩) (Kd.qU HO118.out BK119.out (by decide)) (fun _ hk => hk.2) (.slice Ao165 t116.length co165)) (fun _ h_ => h_.1)))); (case side4 => exact (Kd.qI HO118.out).2.1); rintro e w171 ⟨rfl, hb⟩; refine ⟨_, rfl, ?_⟩; have n0_ := zA.mk (Kd.zy (by (with_reducible repeat (first | apply Kd.zY | apply Kd.zZ | apply Kd.za)); exact (Kd.qj (Kd.ZU (p := ⟨gb119, 0, none⟩) (Kd.qU HO107.out BK119.out (by decide)) (fun _ hk => hk.2) (.slice Ao165 t116.length co165)) (fun _ h_ => h_.1))) hb); have n1_ := zA.mk (Kd.zy (by (with_reducible repeat (first | apply Kd.zY | apply Kd.zZ | apply Kd.za)); exact (Kd.qj (Kd.ZU (p := ⟨gb119, 0, none⟩) (Kd.qU HO110.out BK119.out (by decide)) (fun _ hk => hk.2) (.slice Ao165 t116.length co165)) (fun _ h_ => h_.1))) hb); have n2_ := zA.mk (Kd.zy (by (with_reducible repeat (first | apply Kd.zY | apply Kd.zZ | apply Kd.za)); exact (Kd.qj (Kd.ZU (p := ⟨gb119, 0, none⟩) (Kd.qU HO114.out BK119.out (by decide)) (fun _ hk => hk.2) (.slice Ao165 t116.length co165)) (fun _ h_ => h_.1))) hb); have n3_ := zA.mk (Kd.zy (by (with_reducible repeat (first | apply Kd.zY | apply Kd.zZ | apply Kd.za)); exact (Kd.qj (Kd.ZU (p := ⟨gb119, 0, none⟩) (Kd.qU HO118.out BK119.out (by decide)) (fun _ hk => hk.2) (.slice Ao165 t116.length co165)) (fun _ h_ => h_.1))) hb); have n4_ := zA.mk (zJ (g := gb101) (o := .cells #[.slice A0_0 l0_0.length c0_0] 24 (0, 0)) (by (with_reducible repeat (first | refine zH ?_ _ | refine zI ?_ | refine zF ?_ _)); refine qK ?_ NB101_119.out _; (with_reducible repeat (first | refine zH ?_ _ | refine zI ?_ | refine zF ?_ _)); exact BK101.out) hb); have n5_ := zA.mk (zJ (g := gb102) (o := .cells #[.slice A1_0 l1_0.length c1_0] 24 (0, 0)) (by (with_reducible repeat (first | refine zH ?_ _ | refine zI ?_ | refine zF ?_ _)); refine qK ?_ NB102_119.out _; (with_reducible repeat (first | refine zH ?_ _ | refine zI ?_ | refine zF ?_ _)); exact BK102.out) hb); have n6_ := zA.mk (zJ (g := gb115) (o := .cells #[.slice Ao158 t112.length co158] 30 (0, 0)) (by (with_reducible repeat (first | refine zH ?_ _ | refine zI ?_ | refine zF ?_ _)); refine qK ?_ NB115_119.out _; (with_reducible repeat (first | refine zH ?_ _ | refine zI ?_ | refine zF ?_ _)); exact BK115.out) hb); have n7_ := zA.mk (zJ (g := gb119) (o := .cells #[.slice Ao165 t116.length co165] 30 (0, 0)) (by (with_reducible repeat (first | refine zH ?_ _ | refine zI ?_ | refine zF ?_ _)); refine qc (cs := #[.slice none 0 0]) ?_ 0 _ rfl; (with_reducible repeat (first | refine zH ?_ _ | refine zI ?_ | refine zF ?_ _)); exact BK119.out) hb); have n8_ := zA.mk (zN (by repeat (first | (with_reducible first | exact HB.out | apply zC | apply zB | apply zD | refine zE ?_ GE101.out | refine zE ?_ GE102.out | refine zE ?_ GE115.out | refine zE ?_ GE119.out) | exact HB.out)) hb); clear HO107; clear HO110; clear HO114; clear HO118; clear BK101; clear BK102; clear BK115; clear BK119; clear HB; have HO107 := n0_; have HO110 := n1_; have HO114 := n2_; have HO118 := n3_; have BK101 := n4_; have BK102 := n5_; have BK115 := n6_; have BK119 := n7_; have HB := n8_; clear n0_ n1_ n2_ n3_ n4_ n5_ n6_ n7_ n8_; (try clear hb); (try clear hb2); (try clear hk); (try clear hi)))
    go_ret
    exact ⟨by first | rfl | (simp [zb, zc] <;> rfl) | (simp [*, zb, zc] <;> rfl), by repeat (first | (with_reducible first | exact HB.out | apply zC | apply zB | apply zD | refine zE ?_ GE101.out | refine zE ?_ GE102.out | refine zE ?_ GE115.out | refine zE ?_ GE119.out) | exact HB.out)⟩
   rw [if_pos c25] at H
   have c25b0 : (t120 == t111) = true := beq_iff_eq.mpr c25
   have c25b1 : (t120 != t111) = false := bne_eq_false_iff_eq.mpr c25
   clear c25
   replace H := ydy.mp H
   obtain ⟨t121, A260, H⟩ := H
   replace H : ((ze.f k t112 t121).bind fun t124 => (if t124 = true then ((zP.f k l1_0).bind fun t125 => ((ze.f k t116 t125).bind fun t128 => (if t128 = true then (some true) else (some false)))) else (some false))) = some r := H
   have A26 := zA.mk A260
   clear A260
   replace H := ydy.mp H
   obtain ⟨t124, A270, H⟩ := H
   replace H : (if t124 = true then ((zP.f k l1_0).bind fun t125 => ((ze.f k t116 t125).bind fun t128 => (if t128 = true then (some true) else (some false)))) else (some false)) = some r := H
   have A27 := zA.mk A270
   clear A270
   by_cases c28 : t124 = true
   rotate_left
   next =>
    replace c28 := Bool.eq_false_iff.mpr c28
    subst c28
    have H1 : (some false) = some r := by rw [if_neg (show ¬ (false = true) by decide)] at H; exact H
    clear H
    have H := H1
    clear H1
    obtain rfl := yey H
    go_enter Try.func6, Try.ntmps6
    try go_wp2_with (first | ((with_reducible refine zq (N := 2) rfl ?_); refine zr ?hg (N := 2) ?hd (cs := #[.slice A0_0 l0_0.length c0_0]) (t := 24) ?hr ?_; (case hd => rfl); (case hg => rfl); (case hr => first | (go_simp; done) | (go_simp; rfl)); intro gb101 hg w108 hbox hb; have n0_ := zA.mk (zN (by repeat (first | (with_reducible first | exact HB.out | apply zC | apply zB | apply zD) | exact HB.out)) hb); have n1_ := zA.mk (hbox); have n2_ := zA.mk ((by rw [hg]; exact (zO (by repeat (first | (with_reducible first | exact HB.out | apply zC | apply zB | apply zD) | exact HB.out))) : w.heap.size ≤ gb101)); have n3_ := zA.mk ((by rw [hg]; exact (zO (by repeat (first | (with_reducible first | exact HB.out | apply zC | apply zB | apply zD) | exact HB.out))) : w.heap.size ≤ gb101)); clear HB; have HB := n0_; have BK101 := n1_; have GW101 := n2_; have GE101 := n3_; clear n0_ n1_ n2_ n3_; clear hb hbox hg) | ((with_reducible refine zq (N := 3) rfl ?_); refine zr ?hg (N := 3) ?hd (cs := #[.slice A1_0 l1_0.length c1_0]) (t := 24) ?hr ?_; (case hd => rfl); (case hg => rfl); (case hr => first | (go_simp; done) | (go_simp; rfl)); intro gb102 hg w109 hbox hb; have n0_ := zA.mk (zJ (g := gb101) (o := .cells #[.slice A0_0 l0_0.length c0_0] 24 (0, 0)) (by (with_reducible repeat (first | refine zH ?_ _ | refine zI ?_ | refine zF ?_ _)); exact BK101.out) hb); have n1_ := zA.mk (zN (by repeat (first | (with_reducible first | exact HB.out | apply zC | apply zB | apply zD | refine zE ?_ GE101.out) | exact HB.out)) hb); have n2_ := zA.mk (hbox); have n3_ := zA.mk ((by rw [hg]; exact (zO (by repeat (first | (with_reducible first | exact HB.out | apply zC | apply zB | apply zD | refine zE ?_ GE101.out) | exact HB.out))) : w.heap.size ≤ gb102)); have n4_ := zA.mk ((by rw [hg]; exact (zO (by repeat (first | (with_reducible first | exact HB.out | apply zC | apply zB | apply zD | refine zE ?_ GE101.out) | exact HB.out))) : w.heap.size ≤ gb102)); have n5_ := zA.mk ((by rw [hg]; exact Nat.ne_of_lt (zt (g := gb101) (o := .cells #[.slice A0_0 l0_0.length c0_0] 24 (0, 0)) (by (with_reducible repeat (first | refine zH ?_ _ | refine zI ?_ | refine zF ?_ _)); exact BK101.out)) : gb101 ≠ gb102)); have n6_ := zA.mk ((by rw [hg]; exact Nat.ne_of_gt (zt (g := gb101) (o := .cells #[.slice A0_0 l0_0.length c0_0] 24 (0, 0)) (by (with_reducible repeat (first | refine zH ?_ _ | refine zI ?_ | refine zF ?_ _)); exact BK101.out)) : gb102 ≠ gb101)); clear BK101; clear HB; have BK101 := n0_; have HB := n1_; have BK102 := n2_; have GW102 := n3_; have GE102 := n4_; have NB101_102 := n5_; have NB102_101 := n6_; clear n0_ n1_ n2_ n3_ n4_ n5_ n6_; clear hb hbox hg; have hnb110 := NB101_102.out; have hnc110 := NB102_101.out; have hcz111_0 : w109.cell? ⟨gb101, 0, none⟩ = some (.slice A0_0 l0_0.length c0_0) := (zL BK101.out 0).trans rfl; have hfz111_0 := zQ BK101.out 0) | ((with_reducible refine zf (f := 8) rfl ?_); refine qT (some 12) rfl rfl Try.func8 (by kernel_rfl) rfl #[.agg #[.slice A0_0 l0_0.length c0_0], .int .i64 1048576] rfl (by (try simp only [yiy, yjy, yky]); first | done | rfl | (simp only [yly, ymy]; rfl)) ?_; (with_reducible refine (zx.calls k _ _ l0_0 1048576 t103 _ ?side1 ?side2 A3.out).mono ?_); (case side1 => repeat (first | exact (Kd.zw HR0_0.out HB.out) | (with_reducible refine Kd.zn ?_ _) | (with_reducible refine Kd.zo ?_ _) | (with_reducible refine Kd.qD ?_))); (case side2 => exact HC0_0.out); rintro e w112 ⟨rfl, hb⟩; refine ⟨_, rfl, ?_⟩; have n0_ := zA.mk (zJ (g := gb101) (o := .cells #[.slice A0_0 l0_0.length c0_0] 24 (0, 0)) (by (with_reducible repeat (first | refine zH ?_ _ | refine zI ?_ | refine zF ?_ _)); exact BK101.out) hb); have n1_ := zA.mk (zJ (g := gb102) (o := .cells #[.slice A1_0 l1_0.length c1_0] 24 (0, 0)) (by (with_reducible repeat (first | refine zH ?_ _ | refine zI ?_ | refine zF ?_ _)); exact BK102.out) hb); have n2_ := zA.mk (zN (by repeat (first | (with_reducible first | exact HB.out | apply zC | apply zB | apply zD | refine zE ?_ GE101.out | refine zE ?_ GE102.out) | exact HB.out)) hb); clear BK101; clear BK102; clear HB; have BK101 := n0_; have BK102 := n1_; have HB := n2_; clear n0_ n1_ n2_; (try clear hb); (try clear hb2); (try clear hk); (try clear hi); have hcz113_0 : w112.cell? ⟨gb102, 0, none⟩ = some (.slice A1_0 l1_0.length c1_0) := (zL BK102.out 0).trans rfl; have hfz113_0 := zQ BK102.out 0) | ((with_reducible refine zf (f := 8) rfl ?_); refine qT (some 17) rfl rfl Try.func8 (by kernel_rfl) rfl #[.agg #[.slice A1_0 l1_0.length c1_0], .int .i64 t103] rfl (by (try simp only [yiy, yjy, yky]); first | done | rfl | (simp only [yly, ymy]; rfl)) ?_; (with_reducible refine (zx.calls k _ _ l1_0 t103 t104 _ ?side1 ?side2 A10.out).mono ?_); (case side1 => repeat (first | exact (Kd.zw HR1_0.out HB.out) | (with_reducible refine Kd.zn ?_ _) | (with_reducible refine Kd.zo ?_ _) | (with_reducible refine Kd.qD ?_))); (case side2 => exact HC1_0.out); rintro e w114 ⟨rfl, hb⟩; refine ⟨_, rfl, ?_⟩; have n0_ := zA.mk (zJ (g := gb101) (o := .cells #[.slice A0_0 l0_0.length c0_0] 24 (0, 0)) (by (with_reducible repeat (first | refine zH ?_ _ | refine zI ?_ | refine zF ?_ _)); exact BK101.out) hb); have n1_ := zA.mk (zJ (g := gb102) (o := .cells #[.slice A1_0 l1_0.length c1_0] 24 (0, 0)) (by (with_reducible repeat (first | refine zH ?_ _ | refine zI ?_ | refine zF ?_ _)); exact BK102.out) hb); have n2_ := zA.mk (zN (by repeat (first | (with_reducible first | exact HB.out | apply zC | apply zB | apply zD | refine zE ?_ GE101.out | refine zE ?_ GE102.out) | exact HB.out)) hb); clear BK101; clear BK102; clear HB; have BK101 := n0_; have BK102 := n1_; have HB := n2_; clear n0_ n1_ n2_; (try clear hb); (try clear hb2); (try clear hk); (try clear hi)))
    have n0_ := zA.mk (zI BK101.out)
    have n1_ := zA.mk (zI BK102.out)
    have n2_ := zA.mk (zD HB.out)
    clear BK101
    clear BK102
    clear HB
    have BK101 := n0_
    have BK102 := n1_
    have HB := n2_
    clear n0_ n1_ n2_
    refine ZT (n := 6) (S := fun w' => w'.cell? ⟨gb101, 0, none⟩ = some (.slice A0_0 l0_0.length c0_0) ∧ w'.cell? ⟨gb102, 0, none⟩ = some (.slice A1_0 l1_0.length c1_0)) (ds := []) #[false, false, false, false, false, false] (by kernel_rfl) rfl rfl ⟨(zL BK101.out 0).trans rfl, (zL BK102.out 0).trans rfl⟩ (fun hHeld => ?_)
    generalize w114.drew = w115 at BK101 BK102 HB hHeld ⊢
    refine qd (i := 0) (N := some 20) (v := ?_) (a' := ?_) #[true, false, false, false, false, false] rfl rfl (by kernel_rfl) (fun _ _ _ h => h) (Or.inl ⟨by rfl, ?_⟩) hHeld ?_ ?_
    rotate_left
    next =>
     rintro w' ⟨s0, s1⟩
     go_simp
     with_reducible rfl
    rotate_left
    next =>
     simp only [Act.put, yay, yby, ycy, zT, zV]
     rfl
    refine qd (i := 2) (N := some 22) (v := ?_) (a' := ?_) #[true, false, true, false, false, false] rfl rfl (by kernel_rfl) (fun _ _ _ h => h) (Or.inl ⟨by rfl, ?_⟩) hHeld ?_ ?_
    rotate_left
    next =>
     rintro w' ⟨s0, s1⟩
     go_simp
     with_reducible rfl
    rotate_left
    next =>
     simp only [Act.put, yay, yby, ycy, zT, zV]
     rfl
    refine QH (i := 1) (N := some 21) #[true, true, true, false, false, false] rfl rfl (by kernel_rfl) (by decide) (fun K hK => ?_)
    refine ZV Try.func10 (by kernel_rfl) rfl #[.agg #[.slice A0_0 l0_0.length c0_0]] (by rfl) rfl rfl (by (try simp only [yiy, yjy, yky]); first | done | rfl | (simp only [yly, ymy]; rfl)) ?_
    with_reducible refine (zP.calls k _ _ l0_0 t105 _ ?side1 ?side2 A19.out).mono ?_
    (case side1 => repeat (first | exact (Kd.zw HR0_0.out HB.out) | (with_reducible refine Kd.zn ?_ _) | (with_reducible refine Kd.zo ?_ _) | (with_reducible refine Kd.qD ?_)))
    (case side2 => exact HC0_0.out)
    rintro e w116 ⟨v106, rfl, ho0, hb⟩
    refine ⟨_, rfl, ?_⟩
    have n0_ := zA.mk (Kd.ZY ho0 (zO (by repeat (first | (with_reducible first | exact HB.out | apply zC | apply zB | apply zD | refine zE ?_ GE101.out | refine zE ?_ GE102.out) | exact HB.out))))
    have n1_ := zA.mk (zJ (g := gb101) (o := .cells #[.slice A0_0 l0_0.length c0_0] 24 (0, 0)) (by (with_reducible repeat (first | refine zH ?_ _ | refine zI ?_ | refine zF ?_ _)); exact BK101.out) hb)
    have n2_ := zA.mk (zJ (g := gb102) (o := .cells #[.slice A1_0 l1_0.length c1_0] 24 (0, 0)) (by (with_reducible repeat (first | refine zH ?_ _ | refine zI ?_ | refine zF ?_ _)); exact BK102.out) hb)
    have n3_ := zA.mk (zN (by repeat (first | (with_reducible first | exact HB.out | apply zC | apply zB | apply zD | refine zE ?_ GE101.out | refine zE ?_ GE102.out) | exact HB.out)) hb)
    clear BK101
    clear BK102
    clear HB
    have HO107 := n0_
    have BK101 := n1_
    have BK102 := n2_
    have HB := n3_
    clear n0_ n1_ n2_ n3_
    (try clear hb)
    (try clear hb2)
    (try clear hk)
    (try clear hi)
    (try clear ho0)
    refine hK.out _ _ ⟨(zL BK101.out 0).trans rfl, (zL BK102.out 0).trans rfl⟩ (fun hHeld => ?_)
    clear hK K
    refine qz (a' := ?_) ?_ ?_
    rotate_left
    next =>
     show Act.put _ (some 21) _ = _
     simp only [Act.put, yay, yby, ycy, zT, zV]
     rfl
    refine QH (i := 3) (N := some 23) #[true, true, true, true, false, false] rfl rfl (by kernel_rfl) (by decide) (fun K hK => ?_)
    refine ZV Try.func10 (by kernel_rfl) rfl #[.agg #[.slice A1_0 l1_0.length c1_0]] (by rfl) rfl rfl (by (try simp only [yiy, yjy, yky]); first | done | rfl | (simp only [yly, ymy]; rfl)) ?_
    with_reducible refine (zP.calls k _ _ l1_0 t108 _ ?side1 ?side2 A20.out).mono ?_
    (case side1 => repeat (first | exact (Kd.zw HR1_0.out HB.out) | (with_reducible refine Kd.zn ?_ _) | (with_reducible refine Kd.zo ?_ _) | (with_reducible refine Kd.qD ?_)))
    (case side2 => exact HC1_0.out)
    rintro e w117 ⟨v109, rfl, ho0, hb⟩
    refine ⟨_, rfl, ?_⟩
    have n0_ := zA.mk (Kd.qN (by (with_reducible repeat (first | apply Kd.zY | apply Kd.zZ | apply Kd.za)); exact HO107.out) (Kd.qt ho0) hb)
    have n1_ := zA.mk (Kd.ZY (Kd.qv ho0 (Kd.Ql (by (with_reducible repeat (first | apply Kd.zY | apply Kd.zZ | apply Kd.za)); exact HO107.out))) (zO (by repeat (first | (with_reducible first | exact HB.out | apply zC | apply zB | apply zD | refine zE ?_ GE101.out | refine zE ?_ GE102.out) | exact HB.out))))
    have n2_ := zA.mk (zJ (g := gb101) (o := .cells #[.slice A0_0 l0_0.length c0_0] 24 (0, 0)) (by (with_reducible repeat (first | refine zH ?_ _ | refine zI ?_ | refine zF ?_ _)); exact BK101.out) hb)
    have n3_ := zA.mk (zJ (g := gb102) (o := .cells #[.slice A1_0 l1_0.length c1_0] 24 (0, 0)) (by (with_reducible repeat (first | refine zH ?_ _ | refine zI ?_ | refine zF ?_ _)); exact BK102.out) hb)
    have n4_ := zA.mk (zN (by repeat (first | (with_reducible first | exact HB.out | apply zC | apply zB | apply zD | refine zE ?_ GE101.out | refine zE ?_ GE102.out) | exact HB.out)) hb)
    clear HO107
    clear BK101
    clear BK102
    clear HB
    have HO107 := n0_
    have HO110 := n1_
    have BK101 := n2_
    have BK102 := n3_
    have HB := n4_
    clear n0_ n1_ n2_ n3_ n4_
    (try clear hb)
    (try clear hb2)
    (try clear hk)
    (try clear hi)
    (try clear ho0)
    obtain ⟨Ao118, co118, eo118⟩ := Kd.Za HO107.out
    (first | subst eo118 | (injection eo118 with f1_ f2_ f3_; have f4_ := f1_.symm; have f5_ := f3_.symm; clear f1_ f2_ f3_; subst f4_; subst f5_))
    obtain ⟨Ao119, co119, eo119⟩ := Kd.Za HO110.out
    (first | subst eo119 | (injection eo119 with f1_ f2_ f3_; have f4_ := f1_.symm; have f5_ := f3_.symm; clear f1_ f2_ f3_; subst f4_; subst f5_))
    refine hK.out _ _ ⟨(zL BK101.out 0).trans rfl, (zL BK102.out 0).trans rfl⟩ (fun hHeld => ?_)
    clear hK K
    refine qz (a' := ?_) ?_ ?_
    rotate_left
    next =>
     show Act.put _ (some 23) _ = _
     simp only [Act.put, yay, yby, ycy, zT, zV]
     rfl
    refine QH (i := 4) (N := some 24) #[true, true, true, true, true, false] rfl rfl (by kernel_rfl) (by decide) (fun K hK => ?_)
    refine ZV Try.func22 (by kernel_rfl) rfl #[.agg #[.slice Ao118 t105.length co118], .agg #[.slice Ao119 t108.length co119]] (by rfl) rfl rfl (by (try simp only [yiy, yjy, yky]); first | done | rfl | (simp only [yly, ymy]; rfl)) ?_
    with_reducible refine (qL.calls k _ _ t105 _ _ t108 t111 _ ?side1 ?side2 ?side3 ?side4 A21.out).mono ?_
    (case side1 => repeat (first | exact (Kd.qI HO107.out).2.2 | (with_reducible refine Kd.zn ?_ _) | (with_reducible refine Kd.zo ?_ _) | (with_reducible refine Kd.qD ?_)))
    (case side2 => exact (Kd.qI HO107.out).2.1)
    (case side3 => repeat (first | exact (Kd.qI HO110.out).2.2 | (with_reducible refine Kd.zn ?_ _) | (with_reducible refine Kd.zo ?_ _) | (with_reducible refine Kd.qD ?_)))
    (case side4 => exact (Kd.qI HO110.out).2.1)
    rintro e w120 ⟨rfl, hb⟩
    refine ⟨_, rfl, ?_⟩
    have n0_ := zA.mk (Kd.zy (by (with_reducible repeat (first | apply Kd.zY | apply Kd.zZ | apply Kd.za)); exact HO107.out) hb)
    have n1_ := zA.mk (Kd.zy (by (with_reducible repeat (first | apply Kd.zY | apply Kd.zZ | apply Kd.za)); exact HO110.out) hb)
    have n2_ := zA.mk (zJ (g := gb101) (o := .cells #[.slice A0_0 l0_0.length c0_0] 24 (0, 0)) (by (with_reducible repeat (first | refine zH ?_ _ | refine zI ?_ | refine zF ?_ _)); exact BK101.out) hb)
    have n3_ := zA.mk (zJ (g := gb102) (o := .cells #[.slice A1_0 l1_0.length c1_0] 24 (0, 0)) (by (with_reducible repeat (first | refine zH ?_ _ | refine zI ?_ | refine zF ?_ _)); exact BK102.out) hb)
    have n4_ := zA.mk (zN (by repeat (first | (with_reducible first | exact HB.out | apply zC | apply zB | apply zD | refine zE ?_ GE101.out | refine zE ?_ GE102.out) | exact HB.out)) hb)
    clear HO107
    clear HO110
    clear BK101
    clear BK102
    clear HB
    have HO107 := n0_
    have HO110 := n1_
    have BK101 := n2_
    have BK102 := n3_
    have HB := n4_
    clear n0_ n1_ n2_ n3_ n4_
    (try clear hb)
    (try clear hb2)
    (try clear hk)
    (try clear hi)
    refine hK.out _ _ ⟨(zL BK101.out 0).trans rfl, (zL BK102.out 0).trans rfl⟩ (fun hHeld => ?_)
    clear hK K
    refine qz (a' := ?_) ?_ ?_
    rotate_left
    next =>
     show Act.put _ (some 24) _ = _
     simp only [Act.put, yay, yby, ycy, zT, zV]
     rfl
    refine zh (i := 5) (N := some 6) (v := ?_) (a' := ?_) #[true, true, true, true, true, true] rfl rfl (by kernel_rfl) (fun _ _ _ h => h) (Or.inl ⟨by rfl, ?_⟩) ?_ ?_
    rotate_left
    next =>
     intro w'
     go_simp
     with_reducible rfl
    rotate_left
    next =>
     simp only [Act.put, yay, yby, ycy, zT, zV]
     rfl
    refine Zy (by kernel_rfl) ?_
    have hcz121_0 : w120.cell? ⟨gb101, 0, none⟩ = some (.slice A0_0 l0_0.length c0_0) := (zL BK101.out 0).trans rfl
    have hfz121_0 := zQ BK101.out 0
    try go_wp2_with (first | ((with_reducible refine zf (f := 10) rfl ?_); refine qT (some 26) rfl rfl Try.func10 (by kernel_rfl) rfl #[.agg #[.slice A0_0 l0_0.length c0_0]] rfl (by (try simp only [yiy, yjy, yky]); first | done | rfl | (simp only [yly, ymy]; rfl)) ?_; (with_reducible refine (zP.calls k _ _ l0_0 t112 _ ?side1 ?side2 A22.out).mono ?_); (case side1 => repeat (first | exact (Kd.zw HR0_0.out HB.out) | (with_reducible refine Kd.zn ?_ _) | (with_reducible refine Kd.zo ?_ _) | (with_reducible refine Kd.qD ?_))); (case side2 => exact HC0_0.out); rintro e w122 ⟨v113, rfl, ho0, hb⟩; refine ⟨_, rfl, ?_⟩; have n0_ := zA.mk (Kd.qN (by (with_reducible repeat (first | apply Kd.zY | apply Kd.zZ | apply Kd.za)); exact HO107.out) (Kd.qt ho0) hb); have n1_ := zA.mk (Kd.qN (by (with_reducible repeat (first | apply Kd.zY | apply Kd.zZ | apply Kd.za)); exact HO110.out) (Kd.qt ho0) hb); have n2_ := zA.mk (Kd.ZY (Kd.qv (Kd.qv ho0 (Kd.Ql (by (with_reducible repeat (first | apply Kd.zY | apply Kd.zZ | apply Kd.za)); exact HO107.out))) (Kd.Ql (by (with_reducible repeat (first | apply Kd.zY | apply Kd.zZ | apply Kd.za)); exact HO110.out))) (zO (by repeat (first | (with_reducible first | exact HB.out | apply zC | apply zB | apply zD | refine zE ?_ GE101.out | refine zE ?_ GE102.out) | exact HB.out)))); have n3_ := zA.mk (zJ (g := gb101) (o := .cells #[.slice A0_0 l0_0.length c0_0] 24 (0, 0)) (by (with_reducible repeat (first | refine zH ?_ _ | refine zI ?_ | refine zF ?_ _)); exact BK101.out) hb); have n4_ := zA.mk (zJ (g := gb102) (o := .cells #[.slice A1_0 l1_0.length c1_0] 24 (0, 0)) (by (with_reducible repeat (first | refine zH ?_ _ | refine zI ?_ | refine zF ?_ _)); exact BK102.out) hb); have n5_ := zA.mk (zN (by repeat (first | (with_reducible first | exact HB.out | apply zC | apply zB | apply zD | refine zE ?_ GE101.out | refine zE ?_ GE102.out) | exact HB.out)) hb); clear HO107; clear HO110; clear BK101; clear BK102; clear HB; have HO107 := n0_; have HO110 := n1_; have HO114 := n2_; have BK101 := n3_; have BK102 := n4_; have HB := n5_; clear n0_ n1_ n2_ n3_ n4_ n5_; (try clear hb); (try clear hb2); (try clear hk); (try clear hi); (try clear ho0)) | ((with_reducible refine zq (N := 7) rfl ?_); refine zr ?hg (N := 7) ?hd (cs := #[.slice none 0 0]) (t := 30) ?hr ?_; (case hd => rfl); (case hg => rfl); (case hr => first | (go_simp; done) | (go_simp; rfl)); intro gb115 hg w123 hbox hb; have n0_ := zA.mk (Kd.zy (by (with_reducible repeat (first | apply Kd.zY | apply Kd.zZ | apply Kd.za)); exact HO107.out) hb); have n1_ := zA.mk (Kd.zy (by (with_reducible repeat (first | apply Kd.zY | apply Kd.zZ | apply Kd.za)); exact HO110.out) hb); have n2_ := zA.mk (Kd.zy (by (with_reducible repeat (first | apply Kd.zY | apply Kd.zZ | apply Kd.za)); exact HO114.out) hb); have n3_ := zA.mk (zJ (g := gb101) (o := .cells #[.slice A0_0 l0_0.length c0_0] 24 (0, 0)) (by (with_reducible repeat (first | refine zH ?_ _ | refine zI ?_ | refine zF ?_ _)); exact BK101.out) hb); have n4_ := zA.mk (zJ (g := gb102) (o := .cells #[.slice A1_0 l1_0.length c1_0] 24 (0, 0)) (by (with_reducible repeat (first | refine zH ?_ _ | refine zI ?_ | refine zF ?_ _)); exact BK102.out) hb); have n5_ := zA.mk (zN (by repeat (first | (with_reducible first | exact HB.out | apply zC | apply zB | apply zD | refine zE ?_ GE101.out | refine zE ?_ GE102.out) | exact HB.out)) hb); have n6_ := zA.mk (hbox); have n7_ := zA.mk ((by rw [hg]; exact (zO (by repeat (first | (with_reducible first | exact HB.out | apply zC | apply zB | apply zD | refine zE ?_ GE101.out | refine zE ?_ GE102.out) | exact HB.out))) : w.heap.size ≤ gb115)); have n8_ := zA.mk ((by rw [hg]; exact (zO (by repeat (first | (with_reducible first | exact HB.out | apply zC | apply zB | apply zD | refine zE ?_ GE101.out | refine zE ?_ GE102.out) | exact HB.out))) : w.heap.size ≤ gb115)); have n9_ := zA.mk ((by rw [hg]; exact Nat.ne_of_lt (zt (g := gb101) (o := .cells #[.slice A0_0 l0_0.length c0_0] 24 (0, 0)) (by (with_reducible repeat (first | refine zH ?_ _ | refine zI ?_ | refine zF ?_ _)); exact BK101.out)) : gb101 ≠ gb115)); have n10_ := zA.mk ((by rw [hg]; exact Nat.ne_of_gt (zt (g := gb101) (o := .cells #[.slice A0_0 l0_0.length c0_0] 24 (0, 0)) (by (with_reducible repeat (first | refine zH ?_ _ | refine zI ?_ | refine zF ?_ _)); exact BK101.out)) : gb115 ≠ gb101)); have n11_ := zA.mk ((by rw [hg]; exact Nat.ne_of_lt (zt (g := gb102) (o := .cells #[.slice A1_0 l1_0.length c1_0] 24 (0, 0)) (by (with_reducible repeat (first | refine zH ?_ _ | refine zI ?_ | refine zF ?_ _)); exact BK102.out)) : gb102 ≠ gb115)); have n12_ := zA.mk ((by rw [hg]; exact Nat.ne_of_gt (zt (g := gb102) (o := .cells #[.slice A1_0 l1_0.length c1_0] 24 (0, 0)) (by (with_reducible repeat (first | refine zH ?_ _ | refine zI ?_ | refine zF ?_ _)); exact BK102.out)) : gb115 ≠ gb102)); clear HO107; clear HO110; clear HO114; clear BK101; clear BK102; clear HB; have HO107 := n0_; have HO110 := n1_; have HO114 := n2_; have BK101 := n3_; have BK102 := n4_; have HB := n5_; have BK115 := n6_; have GW115 := n7_; have GE115 := n8_; have NB101_115 := n9_; have NB115_101 := n10_; have NB102_115 := n11_; have NB115_102 := n12_; clear n0_ n1_ n2_ n3_ n4_ n5_ n6_ n7_ n8_ n9_ n10_ n11_ n12_; clear hb hbox hg; obtain ⟨Ao124, co124, eo124⟩ := Kd.Za HO114.out; subst eo124; have hnb125 := NB115_101.out; have hnc125 := NB101_115.out; have hnb126 := NB115_102.out; have hnc126 := NB102_115.out; have hcz127_0 : w123.cell? ⟨gb115, 0, none⟩ = some (.slice none 0 0) := (zL BK115.out 0).trans rfl; have hfz127_0 := zQ BK115.out 0; have hcz128_0 : w123.cell? ⟨gb102, 0, none⟩ = some (.slice A1_0 l1_0.length c1_0) := (zL BK102.out 0).trans rfl; have hfz128_0 := zQ BK102.out 0) | ((with_reducible refine zf (f := 10) rfl ?_); refine qT (some 28) rfl rfl Try.func10 (by kernel_rfl) rfl #[.agg #[.slice A1_0 l1_0.length c1_0]] rfl (by (try simp only [yiy, yjy, yky]); first | done | rfl | (simp only [yly, ymy]; rfl)) ?_; (with_reducible refine (zP.calls k _ _ l1_0 t116 _ ?side1 ?side2 A23.out).mono ?_); (case side1 => exact Kd.zw HR1_0.out (by repeat (first | (with_reducible first | exact HB.out | apply zC | apply zB | apply zD | refine zE ?_ GE101.out | refine zE ?_ GE102.out | refine zE ?_ GE115.out) | exact HB.out))); (case side2 => exact HC1_0.out); rintro e w129 ⟨v117, rfl, ho0, hb⟩; refine ⟨_, rfl, ?_⟩; have n0_ := zA.mk (Kd.qN (by (with_reducible repeat (first | apply Kd.zY | apply Kd.zZ | apply Kd.za)); exact (Kd.qj (Kd.ZU (p := ⟨gb115, 0, none⟩) (Kd.qU HO107.out BK115.out (by decide)) (fun _ hk => hk.2) (.slice Ao124 t112.length co124)) (fun _ h_ => h_.1))) (Kd.qt ho0) hb); have n1_ := zA.mk (Kd.qN (by (with_reducible repeat (first | apply Kd.zY | apply Kd.zZ | apply Kd.za)); exact (Kd.qj (Kd.ZU (p := ⟨gb115, 0, none⟩) (Kd.qU HO110.out BK115.out (by decide)) (fun _ hk => hk.2) (.slice Ao124 t112.length co124)) (fun _ h_ => h_.1))) (Kd.qt ho0) hb); have n2_ := zA.mk (Kd.qN (by (with_reducible repeat (first | apply Kd.zY | apply Kd.zZ | apply Kd.za)); exact (Kd.qj (Kd.ZU (p := ⟨gb115, 0, none⟩) (Kd.qU HO114.out BK115.out (by decide)) (fun _ hk => hk.2) (.slice Ao124 t112.length co124)) (fun _ h_ => h_.1))) (Kd.qt ho0) hb); have n3_ := zA.mk (Kd.ZY (Kd.qv (Kd.qv (Kd.qv ho0 (Kd.Ql (by (with_reducible repeat (first | apply Kd.zY | apply Kd.zZ | apply Kd.za)); exact (Kd.qj (Kd.ZU (p := ⟨gb115, 0, none⟩) (Kd.qU HO107.out BK115.out (by decide)) (fun _ hk => hk.2) (.slice Ao124 t112.length co124)) (fun _ h_ => h_.1))))) (Kd.Ql (by (with_reducible repeat (first | apply Kd.zY | apply Kd.zZ | apply Kd.za)); exact (Kd.qj (Kd.ZU (p := ⟨gb115, 0, none⟩) (Kd.qU HO110.out BK115.out (by decide)) (fun _ hk => hk.2) (.slice Ao124 t112.length co124)) (fun _ h_ => h_.1))))) (Kd.Ql (by (with_reducible repeat (first | apply Kd.zY | apply Kd.zZ | apply Kd.za)); exact (Kd.qj (Kd.ZU (p := ⟨gb115, 0, none⟩) (Kd.qU HO114.out BK115.out (by decide)) (fun _ hk => hk.2) (.slice Ao124 t112.length co124)) (fun _ h_ => h_.1))))) (zO (by repeat (first | (with_reducible first | exact HB.out | apply zC | apply zB | apply zD | refine zE ?_ GE101.out | refine zE ?_ GE102.out | refine zE ?_ GE115.out) | exact HB.out)))); have n4_ := zA.mk (zJ (g := gb101) (o := .cells #[.slice A0_0 l0_0.length c0_0] 24 (0, 0)) (by (with_reducible repeat (first | refine zH ?_ _ | refine zI ?_ | refine zF ?_ _)); refine qK ?_ NB101_115.out _; (with_reducible repeat (first | refine zH ?_ _ | refine zI ?_ | refine zF ?_ _)); exact BK101.out) hb); have n5_ := zA.mk (zJ (g := gb102) (o := .cells #[.slice A1_0 l1_0.length c1_0] 24 (0, 0)) (by (with_reducible repeat (first | refine zH ?_ _ | refine zI ?_ | refine zF ?_ _)); refine qK ?_ NB102_115.out _; (with_reducible repeat (first | refine zH ?_ _ | refine zI ?_ | refine zF ?_ _)); exact BK102.out) hb); have n6_ := zA.mk (zJ (g := gb115) (o := .cells #[.slice Ao124 t112.length co124] 30 (0, 0)) (by (with_reducible repeat (first | refine zH ?_ _ | refine zI ?_ | refine zF ?_ _)); refine qc (cs := #[.slice none 0 0]) ?_ 0 _ rfl; (with_reducible repeat (first | refine zH ?_ _ | refine zI ?_ | refine zF ?_ _)); exact BK115.out) hb); have n7_ := zA.mk (zN (by repeat (first | (with_reducible first | exact HB.out | apply zC | apply zB | apply zD | refine zE ?_ GE101.out | refine zE ?_ GE102.out | refine zE ?_ GE115.out) | exact HB.out)) hb); clear HO107; clear HO110; clear HO114; clear BK101; clear BK102; clear BK115; clear HB; have HO107 := n0_; have HO110 := n1_; have HO114 := n2_; have HO118 := n3_; have BK101 := n4_; have BK102 := n5_; have BK115 := n6_; have HB := n7_; clear n0_ n1_ n2_ n3_ n4_ n5_ n6_ n7_; (try clear hb); (try clear hb2); (try clear hk); (try clear hi); (try clear ho0)) | ((with_reducible refine zq (N := 8) rfl ?_); refine zr ?hg (N := 8) ?hd (cs := #[.slice none 0 0]) (t := 30) ?hr ?_; (case hd => rfl); (case hg => rfl); (case hr => first | (go_simp; done) | (go_simp; rfl)); intro gb119 hg w130 hbox hb; have n0_ := zA.mk (Kd.zy (by (with_reducible repeat (first | apply Kd.zY | apply Kd.zZ | apply Kd.za)); exact HO107.out) hb); have n1_ := zA.mk (Kd.zy (by (with_reducible repeat (first | apply Kd.zY | apply Kd.zZ | apply Kd.za)); exact HO110.out) hb); have n2_ := zA.mk (Kd.zy (by (with_reducible repeat (first | apply Kd.zY | apply Kd.zZ | apply Kd.za)); exact HO114.out) hb); have n3_ := zA.mk (Kd.zy (by (with_reducible repeat (first | apply Kd.zY | apply Kd.zZ | apply Kd.za)); exact HO118.out) hb); have n4_ := zA.mk (zJ (g := gb101) (o := .cells #[.slice A0_0 l0_0.length c0_0] 24 (0, 0)) (by (with_reducible repeat (first | refine zH ?_ _ | refine zI ?_ | refine zF ?_ _)); exact BK101.out) hb); have n5_ := zA.mk (zJ (g := gb102) (o := .cells #[.slice A1_0 l1_0.length c1_0] 24 (0, 0)) (by (with_reducible repeat (first | refine zH ?_ _ | refine zI ?_ | refine zF ?_ _)); exact BK102.out) hb); have n6_ := zA.mk (zJ (g := gb115) (o := .cells #[.slice Ao124 t112.length co124] 30 (0, 0)) (by (with_reducible repeat (first | refine zH ?_ _ | refine zI ?_ | refine zF ?_ _)); exact BK115.out) hb); have n7_ := zA.mk (zN (by repeat (first | (with_reducible first | exact HB.out | apply zC | apply zB | apply zD | refine zE ?_ GE101.out | refine zE ?_ GE102.out | refine zE ?_ GE115.out) | exact HB.out)) hb); have n8_ := zA.mk (hbox); have n9_ := zA.mk ((by rw [hg]; exact (zO (by repeat (first | (with_reducible first | exact HB.out | apply zC | apply zB | apply zD | refine zE ?_ GE101.out | refine zE ?_ GE102.out | refine zE ?_ GE115.out) | exact HB.out))) : w.heap.size ≤ gb119)); have n10_ := zA.mk ((by rw [hg]; exact (zO (by repeat (first | (with_reducible first | exact HB.out | apply zC | apply zB | apply zD | refine zE ?_ GE101.out | refine zE ?_ GE102.out | refine zE ?_ GE115.out) | exact HB.out))) : w.heap.size ≤ gb119)); have n11_ := zA.mk ((by rw [hg]; exact Nat.ne_of_lt (zt (g := gb101) (o := .cells #[.slice A0_0 l0_0.length c0_0] 24 (0, 0)) (by (with_reducible repeat (first | refine zH ?_ _ | refine zI ?_ | refine zF ?_ _)); exact BK101.out)) : gb101 ≠ gb119)); have n12_ := zA.mk ((by rw [hg]; exact Nat.ne_of_gt (zt (g := gb101) (o := .cells #[.slice A0_0 l0_0.length c0_0] 24 (0, 0)) (by (with_reducible repeat (first | refine zH ?_ _ | refine zI ?_ | refine zF ?_ _)); exact BK101.out)) : gb119 ≠ gb101)); have n13_ := zA.mk ((by rw [hg]; exact Nat.ne_of_lt (zt (g := gb102) (o := .cells #[.slice A1_0 l1_0.length c1_0] 24 (0, 0)) (by (with_reducible repeat (first | refine zH ?_ _ | refine zI ?_ | refine zF ?_ _)); exact BK102.out)) : gb102 ≠ gb119)); have n14_ := zA.mk ((by rw [hg]; exact Nat.ne_of_gt (zt (g := gb102) (o := .cells #[.slice A1_0 l1_0.length c1_0] 24 (0, 0)) (by (with_reducible repeat (first | refine zH ?_ _ | refine zI ?_ | refine zF ?_ _)); exact BK102.out)) : gb119 ≠ gb102)); have n15_ := zA.mk ((by rw [hg]; exact Nat.ne_of_lt (zt (g := gb115) (o := .cells #[.slice Ao124 t112.length co124] 30 (0, 0)) (by (with_reducible repeat (first | refine zH ?_ _ | refine zI ?_ | refine zF ?_ _)); exact BK115.out)) : gb115 ≠ gb119)); have n16_ := zA.mk ((by rw [hg]; exact Nat.ne_of_gt (zt (g := gb115) (o := .cells #[.slice Ao124 t112.length co124] 30 (0, 0)) (by (with_reducible repeat (first | refine zH ?_ _ | refine zI ?_ | refine zF ?_ _)); exact BK115.out)) : gb119 ≠ gb115)); clear HO107; clear HO110; clear HO114; clear HO118; clear BK101; clear BK102; clear BK115; clear HB; have HO107 := n0_; have HO110 := n1_; have HO114 := n2_; have HO118 := n3_; have BK101 := n4_; have BK102 := n5_; have BK115 := n6_; have HB := n7_; have BK119 := n8_; have GW119 := n9_; have GE119 := n10_; have NB101_119 := n11_; have NB119_101 := n12_; have NB102_119 := n13_; have NB119_102 := n14_; have NB115_119 := n15_; have NB119_115 := n16_; clear n0_ n1_ n2_ n3_ n4_ n5_ n6_ n7_ n8_ n9_ n10_ n11_ n12_ n13_ n14_ n15_ n16_; clear hb hbox hg; obtain ⟨Ao131, co131, eo131⟩ := Kd.Za HO118.out; subst eo131; have hnb132 := NB119_101.out; have hnc132 := NB101_119.out; have hnb133 := NB119_102.out; have hnc133 := NB102_119.out; have hnb134 := NB119_115.out; have hnc134 := NB115_119.out; have hcz135_0 : w130.cell? ⟨gb119, 0, none⟩ = some (.slice none 0 0) := (zL BK119.out 0).trans rfl; have hfz135_0 := zQ BK119.out 0; have hcz136_0 : w130.cell? ⟨gb115, 0, none⟩ = some (.slice Ao124 t112.length co124) := (zL BK115.out 0).trans rfl; have hfz136_0 := zQ BK115.out 0) | ((with_reducible refine zf (f := 23) rfl ?_); refine qT (some 31) rfl rfl Try.func23 (by kernel_rfl) rfl #[.agg #[.slice Ao124 t112.length co124], .agg #[.slice Ao131 t116.length co131]] rfl (by (try simp only [yiy, yjy, yky]); first | done | rfl | (simp only [yly, ymy]; rfl)) ?_; (with_reducible refine (qC.calls k _ _ t112 _ _ t116 t120 _ ?side1 ?side2 ?side3 ?side4 A24.out).mono ?_); (case side1 => refine (Kd.qI (e := 60) (base := w.heap.size) (ok := fun k_ => (((True ∧ some k_ ≠ (.slice Ao118 t105.length co118 : Value).ownBlock) ∧ some k_ ≠ (.slice Ao119 t108.length co119 : Value).ownBlock) ∧ some k_ ≠ (.slice Ao131 t116.length co131 : Value).ownBlock)) (n := t112.length) (c := co124) ?_).2.2; exact (by (with_reducible repeat (first | apply Kd.zY | apply Kd.zZ | apply Kd.za)); exact (Kd.qj (Kd.ZU (p := ⟨gb119, 0, none⟩) (Kd.qU HO114.out BK119.out (by decide)) (fun _ hk => hk.2) (.slice Ao131 t116.length co131)) (fun _ h_ => h_.1)))); (case side2 => exact (Kd.qI HO114.out).2.1); (case side3 => refine (Kd.qI (e := 60) (base := w.heap.size) (ok := fun k_ => (((True ∧ some k_ ≠ (.slice Ao118 t105.length co118 : Value).ownBlock) ∧ some k_ ≠ (.slice Ao119 t108.length co119 : Value).ownBlock) ∧ some k_ ≠ (.slice Ao124 t112.length co124 : Value).ownBlock)) (n := t116.length) (c := co131) ?_).2.2; exact (by (with_reducible repeat (first | apply Kd.zY | apply Kd.zZ | apply Kd.za)); exact (Kd.qj (Kd.ZU (p := ⟨gb119, 0, none⟩) (Kd.qU HO118.out BK119.out (by decide)) (fun _ hk => hk.2) (.slice Ao131 t116.length co131)) (fun _ h_ => h_.1)))); (case side4 => exact (Kd.qI HO118.out).2.1); rintro e w137 ⟨rfl, hb⟩; refine ⟨_, rfl, ?_⟩; have n0_ := zA.mk (Kd.zy (by (with_reducible repeat (first | apply Kd.zY | apply Kd.zZ | apply Kd.za)); exact (Kd.qj (Kd.ZU (p := ⟨gb119, 0, none⟩) (Kd.qU HO107.out BK119.out (by decide)) (fun _ hk => hk.2) (.slice Ao131 t116.length co131)) (fun _ h_ => h_.1))) hb); have n1_ := zA.mk (Kd.zy (by (with_reducible repeat (first | apply Kd.zY | apply Kd.zZ | apply Kd.za)); exact (Kd.qj (Kd.ZU (p := ⟨gb119, 0, none⟩) (Kd.qU HO110.out BK119.out (by decide)) (fun _ hk => hk.2) (.slice Ao131 t116.length co131)) (fun _ h_ => h_.1))) hb); have n2_ := zA.mk (Kd.zy (by (with_reducible repeat (first | apply Kd.zY | apply Kd.zZ | apply Kd.za)); exact (Kd.qj (Kd.ZU (p := ⟨gb119, 0, none⟩) (Kd.qU HO114.out BK119.out (by decide)) (fun _ hk => hk.2) (.slice Ao131 t116.length co131)) (fun _ h_ => h_.1))) hb); have n3_ := zA.mk (Kd.zy (by (with_reducible repeat (first | apply Kd.zY | apply Kd.zZ | apply Kd.za)); exact (Kd.qj (Kd.ZU (p := ⟨gb119, 0, none⟩) (Kd.qU HO118.out BK119.out (by decide)) (fun _ hk => hk.2) (.slice Ao131 t116.length co131)) (fun _ h_ => h_.1))) hb); have n4_ := zA.mk (zJ (g := gb101) (o := .cells #[.slice A0_0 l0_0.length c0_0] 24 (0, 0)) (by (with_reducible repeat (first | refine zH ?_ _ | refine zI ?_ | refine zF ?_ _)); refine qK ?_ NB101_119.out _; (with_reducible repeat (first | refine zH ?_ _ | refine zI ?_ | refine zF ?_ _)); exact BK101.out) hb); have n5_ := zA.mk (zJ (g := gb102) (o := .cells #[.slice A1_0 l1_0.length c1_0] 24 (0, 0)) (by (with_reducible repeat (first | refine zH ?_ _ | refine zI ?_ | refine zF ?_ _)); refine qK ?_ NB102_119.out _; (with_reducible repeat (first | refine zH ?_ _ | refine zI ?_ | refine zF ?_ _)); exact BK102.out) hb); have n6_ := zA.mk (zJ (g := gb115) (o := .cells #[.slice Ao124 t112.length co124] 30 (0, 0)) (by (with_reducible repeat (first | refine zH ?_ _ | refine zI ?_ | refine zF ?_ _)); refine qK ?_ NB115_119.out _; (with_reducible repeat (first | refine zH ?_ _ | refine zI ?_ | refine zF ?_ _)); exact BK115.out) hb); have n7_ := zA.mk (zJ (g := gb119) (o := .cells #[.slice Ao131 t116.length co131] 30 (0, 0)) (by (with_reducible repeat (first | refine zH ?_ _ | refine zI ?_ | refine zF ?_ _)); refine qc (cs := #[.slice none 0 0]) ?_ 0 _ rfl; (with_reducible repeat (first | refine zH ?_ _ | refine zI ?_ | refine zF ?_ _)); exact BK119.out) hb); have n8_ := zA.mk (zN (by repeat (first | (with_reducible first | exact HB.out | apply zC | apply zB | apply zD | refine zE ?_ GE101.out | refine zE ?_ GE102.out | refine zE ?_ GE115.out | refine zE ?_ GE119.out) | exact HB.out)) hb); clear HO107; clear HO110; clear HO114; clear HO118; clear BK101; clear BK102; clear BK115; clear BK119; clear HB; have HO107 := n0_; have HO110 := n1_; have HO114 := n2_; have HO118 := n3_; have BK101 := n4_; have BK102 := n5_; have BK115 := n6_; have BK119 := n7_; have HB := n8_; clear n0_ n1_ n2_ n3_ n4_ n5_ n6_ n7_ n8_; (try clear hb); (try clear hb2); (try clear hk); (try clear hi)))
    have n0_ := zA.mk (Kd.za HO107.out)
    have n1_ := zA.mk (Kd.za HO110.out)
    have n2_ := zA.mk (Kd.za HO114.out)
    have n3_ := zA.mk (Kd.za HO118.out)
    have n4_ := zA.mk (zI BK101.out)
    have n5_ := zA.mk (zI BK102.out)
    have n6_ := zA.mk (zI BK115.out)
    have n7_ := zA.mk (zI BK119.out)
    have n8_ := zA.mk (zD HB.out)
    clear HO107
    clear HO110
    clear HO114
    clear HO118
    clear BK101
    clear BK102
    clear BK115
    clear BK119
    clear HB
    have HO107 := n0_
    have HO110 := n1_
    have HO114 := n2_
    have HO118 := n3_
    have BK101 := n4_
    have BK102 := n5_
    have BK115 := n6_
    have BK119 := n7_
    have HB := n8_
    clear n0_ n1_ n2_ n3_ n4_ n5_ n6_ n7_ n8_
    refine ZT (n := 5) (S := fun w' => w'.cell? ⟨gb115, 0, none⟩ = some (.slice Ao124 t112.length co124) ∧ w'.cell? ⟨gb101, 0, none⟩ = some (.slice A0_0 l0_0.length c0_0)) (ds := []) #[false, false, false, false, false] (by kernel_rfl) rfl rfl ⟨(zL BK115.out 0).trans rfl, (zL BK101.out 0).trans rfl⟩ (fun hHeld => ?_)
    generalize w137.drew = w138 at HO107 HO110 HO114 HO118 BK101 BK102 BK115 BK119 HB hHeld ⊢
    refine qd (i := 0) (N := some 35) (v := ?_) (a' := ?_) #[true, false, false, false, false] rfl rfl (by kernel_rfl) (fun _ _ _ h => h) (Or.inl ⟨by rfl, ?_⟩) hHeld ?_ ?_
    rotate_left
    next =>
     rintro w' ⟨s0, s1⟩
     go_simp
     with_reducible rfl
    rotate_left
    next =>
     simp only [Act.put, yay, yby, ycy, zT, zV]
     rfl
    refine qd (i := 1) (N := some 36) (v := ?_) (a' := ?_) #[true, true, false, false, false] rfl rfl (by kernel_rfl) (fun _ _ _ h => h) (Or.inl ⟨by rfl, ?_⟩) hHeld ?_ ?_
    rotate_left
    next =>
     rintro w' ⟨s0, s1⟩
     go_simp
     with_reducible rfl
    rotate_left
    next =>
     simp only [Act.put, yay, yby, ycy, zT, zV]
     rfl
    refine QH (i := 2) (N := some 37) #[true, true, true, false, false] rfl rfl (by kernel_rfl) (by decide) (fun K hK => ?_)
    refine ZV Try.func10 (by kernel_rfl) rfl #[.agg #[.slice A0_0 l0_0.length c0_0]] (by rfl) rfl rfl (by (try simp only [yiy, yjy, yky]); first | done | rfl | (simp only [yly, ymy]; rfl)) ?_
    with_reducible refine (zP.calls k _ _ l0_0 t121 _ ?side1 ?side2 A26.out).mono ?_
    (case side1 => repeat (first | exact (Kd.zw HR0_0.out HB.out) | (with_reducible refine Kd.zn ?_ _) | (with_reducible refine Kd.zo ?_ _) | (with_reducible refine Kd.qD ?_)))
    (case side2 => exact HC0_0.out)
    rintro e w139 ⟨v122, rfl, ho0, hb⟩
    refine ⟨_, rfl, ?_⟩
    have n0_ := zA.mk (Kd.qN (by (with_reducible repeat (first | apply Kd.zY | apply Kd.zZ | apply Kd.za)); exact HO107.out) (Kd.qt ho0) hb)
    have n1_ := zA.mk (Kd.qN (by (with_reducible repeat (first | apply Kd.zY | apply Kd.zZ | apply Kd.za)); exact HO110.out) (Kd.qt ho0) hb)
    have n2_ := zA.mk (Kd.qN (by (with_reducible repeat (first | apply Kd.zY | apply Kd.zZ | apply Kd.za)); exact HO114.out) (Kd.qt ho0) hb)
    have n3_ := zA.mk (Kd.qN (by (with_reducible repeat (first | apply Kd.zY | apply Kd.zZ | apply Kd.za)); exact HO118.out) (Kd.qt ho0) hb)
    have n4_ := zA.mk (Kd.ZY (Kd.qv (Kd.qv (Kd.qv (Kd.qv ho0 (Kd.Ql (by (with_reducible repeat (first | apply Kd.zY | apply Kd.zZ | apply Kd.za)); exact HO107.out))) (Kd.Ql (by (with_reducible repeat (first | apply Kd.zY | apply Kd.zZ | apply Kd.za)); exact HO110.out))) (Kd.Ql (by (with_reducible repeat (first | apply Kd.zY | apply Kd.zZ | apply Kd.za)); exact HO114.out))) (Kd.Ql (by (with_reducible repeat (first | apply Kd.zY | apply Kd.zZ | apply Kd.za)); exact HO118.out))) (zO (by repeat (first | (with_reducible first | exact HB.out | apply zC | apply zB | apply zD | refine zE ?_ GE101.out | refine zE ?_ GE102.out | refine zE ?_ GE115.out | refine zE ?_ GE119.out) | exact HB.out))))
    have n5_ := zA.mk (zJ (g := gb101) (o := .cells #[.slice A0_0 l0_0.length c0_0] 24 (0, 0)) (by (with_reducible repeat (first | refine zH ?_ _ | refine zI ?_ | refine zF ?_ _)); exact BK101.out) hb)
    have n6_ := zA.mk (zJ (g := gb102) (o := .cells #[.slice A1_0 l1_0.length c1_0] 24 (0, 0)) (by (with_reducible repeat (first | refine zH ?_ _ | refine zI ?_ | refine zF ?_ _)); exact BK102.out) hb)
    have n7_ := zA.mk (zJ (g := gb115) (o := .cells #[.slice Ao124 t112.length co124] 30 (0, 0)) (by (with_reducible repeat (first | refine zH ?_ _ | refine zI ?_ | refine zF ?_ _)); exact BK115.out) hb)
    have n8_ := zA.mk (zJ (g := gb119) (o := .cells #[.slice Ao131 t116.length co131] 30 (0, 0)) (by (with_reducible repeat (first | refine zH ?_ _ | refine zI ?_ | refine zF ?_ _)); exact BK119.out) hb)
    have n9_ := zA.mk (zN (by repeat (first | (with_reducible first | exact HB.out | apply zC | apply zB | apply zD | refine zE ?_ GE101.out | refine zE ?_ GE102.out | refine zE ?_ GE115.out | refine zE ?_ GE119.out) | exact HB.out)) hb)
    clear HO107
    clear HO110
    clear HO114
    clear HO118
    clear BK101
    clear BK102
    clear BK115
    clear BK119
    clear HB
    have HO107 := n0_
    have HO110 := n1_
    have HO114 := n2_
    have HO118 := n3_
    have HO123 := n4_
    have BK101 := n5_
    have BK102 := n6_
    have BK115 := n7_
    have BK119 := n8_
    have HB := n9_
    clear n0_ n1_ n2_ n3_ n4_ n5_ n6_ n7_ n8_ n9_
    (try clear hb)
    (try clear hb2)
    (try clear hk)
    (try clear hi)
    (try clear ho0)
    obtain ⟨Ao140, co140, eo140⟩ := Kd.Za HO123.out
    (first | subst eo140 | (injection eo140 with f1_ f2_ f3_; have f4_ := f1_.symm; have f5_ := f3_.symm; clear f1_ f2_ f3_; subst f4_; subst f5_))
    refine hK.out _ _ ⟨(zL BK115.out 0).trans rfl, (zL BK101.out 0).trans rfl⟩ (fun hHeld => ?_)
    clear hK K
    refine qz (a' := ?_) ?_ ?_
    rotate_left
    next =>
     show Act.put _ (some 37) _ = _
     simp only [Act.put, yay, yby, ycy, zT, zV]
     rfl
    refine QH (i := 3) (N := some 38) #[true, true, true, true, false] rfl rfl (by kernel_rfl) (by decide) (fun K hK => ?_)
    refine ZV Try.func12 (by kernel_rfl) rfl #[.agg #[.slice Ao124 t112.length co124], .agg #[.slice Ao140 t121.length co140]] (by rfl) rfl rfl (by (try simp only [yiy, yjy, yky]); first | done | rfl | (simp only [yly, ymy]; rfl)) ?_
    with_reducible refine (ze.calls k _ _ t112 _ _ t121 false _ ?side1 ?side2 ?side3 ?side4 A27.out).mono ?_
    (case side1 => repeat (first | exact (Kd.qI HO114.out).2.2 | (with_reducible refine Kd.zn ?_ _) | (with_reducible refine Kd.zo ?_ _) | (with_reducible refine Kd.qD ?_)))
    (case side2 => exact (Kd.qI HO114.out).2.1)
    (case side3 => repeat (first | exact (Kd.qI HO123.out).2.2 | (with_reducible refine Kd.zn ?_ _) | (with_reducible refine Kd.zo ?_ _) | (with_reducible refine Kd.qD ?_)))
    (case side4 => exact (Kd.qI HO123.out).2.1)
    rintro e w141 ⟨rfl, hb⟩
    refine ⟨_, rfl, ?_⟩
    have n0_ := zA.mk (Kd.zy (by (with_reducible repeat (first | apply Kd.zY | apply Kd.zZ | apply Kd.za)); exact HO107.out) hb)
    have n1_ := zA.mk (Kd.zy (by (with_reducible repeat (first | apply Kd.zY | apply Kd.zZ | apply Kd.za)); exact HO110.out) hb)
    have n2_ := zA.mk (Kd.zy (by (with_reducible repeat (first | apply Kd.zY | apply Kd.zZ | apply Kd.za)); exact HO114.out) hb)
    have n3_ := zA.mk (Kd.zy (by (with_reducible repeat (first | apply Kd.zY | apply Kd.zZ | apply Kd.za)); exact HO118.out) hb)
    have n4_ := zA.mk (Kd.zy (by (with_reducible repeat (first | apply Kd.zY | apply Kd.zZ | apply Kd.za)); exact HO123.out) hb)
    have n5_ := zA.mk (zJ (g := gb101) (o := .cells #[.slice A0_0 l0_0.length c0_0] 24 (0, 0)) (by (with_reducible repeat (first | refine zH ?_ _ | refine zI ?_ | refine zF ?_ _)); exact BK101.out) hb)
    have n6_ := zA.mk (zJ (g := gb102) (o := .cells #[.slice A1_0 l1_0.length c1_0] 24 (0, 0)) (by (with_reducible repeat (first | refine zH ?_ _ | refine zI ?_ | refine zF ?_ _)); exact BK102.out) hb)
    have n7_ := zA.mk (zJ (g := gb115) (o := .cells #[.slice Ao124 t112.length co124] 30 (0, 0)) (by (with_reducible repeat (first | refine zH ?_ _ | refine zI ?_ | refine zF ?_ _)); exact BK115.out) hb)
    have n8_ := zA.mk (zJ (g := gb119) (o := .cells #[.slice Ao131 t116.length co131] 30 (0, 0)) (by (with_reducible repeat (first | refine zH ?_ _ | refine zI ?_ | refine zF ?_ _)); exact BK119.out) hb)
    have n9_ := zA.mk (zN (by repeat (first | (with_reducible first | exact HB.out | apply zC | apply zB | apply zD | refine zE ?_ GE101.out | refine zE ?_ GE102.out | refine zE ?_ GE115.out | refine zE ?_ GE119.out) | exact HB.out)) hb)
    clear HO107
    clear HO110
    clear HO114
    clear HO118
    clear HO123
    clear BK101
    clear BK102
    clear BK115
    clear BK119
    clear HB
    have HO107 := n0_
    have HO110 := n1_
    have HO114 := n2_
    have HO118 := n3_
    have HO123 := n4_
    have BK101 := n5_
    have BK102 := n6_
    have BK115 := n7_
    have BK119 := n8_
    have HB := n9_
    clear n0_ n1_ n2_ n3_ n4_ n5_ n6_ n7_ n8_ n9_
    (try clear hb)
    (try clear hb2)
    (try clear hk)
    (try clear hi)
    refine hK.out _ _ ⟨(zL BK115.out 0).trans rfl, (zL BK101.out 0).trans rfl⟩ (fun hHeld => ?_)
    clear hK K
    refine qz (a' := ?_) ?_ ?_
    rotate_left
    next =>
     show Act.put _ (some 38) _ = _
     simp only [Act.put, yay, yby, ycy, zT, zV]
     rfl
    refine zh (i := 4) (N := some 39) (v := ?_) (a' := ?_) #[true, true, true, true, true] rfl rfl (by kernel_rfl) (fun _ _ _ h => h) (Or.inl ⟨by rfl, ?_⟩) ?_ ?_
    rotate_left
    next =>
     intro w'
     go_simp
     with_reducible rfl
    rotate_left
    next =>
     simp only [Act.put, yay, yby, ycy, zT, zV]
     rfl
    refine Zy (by kernel_rfl) ?_
    try go_wp2
    go_ret
    exact ⟨by first | rfl | (simp [zb, zc] <;> rfl) | (simp [*, zb, zc] <;> rfl), by repeat (first | (with_reducible first | exact HB.out | apply zC | apply zB | apply zD | refine zE ?_ GE101.out | refine zE ?_ GE102.out | refine zE ?_ GE115.out | refine zE ?_ GE119.out) | exact HB.out)⟩
   subst c28
   have H1 : ((zP.f k l1_0).bind fun t125 => ((ze.f k t116 t125).bind fun t128 => (if t128 = true then (some true) else (some false)))) = some r := by rw [if_pos rfl] at H; exact H
   clear H
   have H := H1
   clear H1
   replace H := ydy.mp H
   obtain ⟨t125, A290, H⟩ := H
   replace H : ((ze.f k t116 t125).bind fun t128 => (if t128 = true then (some true) else (some false))) = some r := H
   have A29 := zA.mk A290
   clear A290
   replace H := ydy.mp H
   obtain ⟨t128, A300, H⟩ := H
   replace H : (if t128 = true then (some true) else (some false)) = some r := H
   have A30 := zA.mk A300
   clear A300
   by_cases c31 : t128 = true
   next =>
    subst c31
    have H1 : (some true) = some r := by rw [if_pos rfl] at H; exact H
    clear H
    have H := H1
    clear H1
    obtain rfl := yey H
    go_enter Try.func6, Try.ntmps6
    try go_wp2_with (first | ((with_reducible refine zq (N := 2) rfl ?_); refine zr ?hg (N := 2) ?hd (cs := #[.slice A0_0 l0_0.length c0_0]) (t := 24) ?hr ?_; (case hd => rfl); (case hg => rfl); (case hr => first | (go_simp; done) | (go_simp; rfl)); intro gb101 hg w32 hbox hb; have n0_ := zA.mk (zN (by repeat (first | (with_reducible first | exact HB.out | apply zC | apply zB | apply zD) | exact HB.out)) hb); have n1_ := zA.mk (hbox); have n2_ := zA.mk ((by rw [hg]; exact (zO (by repeat (first | (with_reducible first | exact HB.out | apply zC | apply zB | apply zD) | exact HB.out))) : w.heap.size ≤ gb101)); have n3_ := zA.mk ((by rw [hg]; exact (zO (by repeat (first | (with_reducible first | exact HB.out | apply zC | apply zB | apply zD) | exact HB.out))) : w.heap.size ≤ gb101)); clear HB; have HB := n0_; have BK101 := n1_; have GW101 := n2_; have GE101 := n3_; clear n0_ n1_ n2_ n3_; clear hb hbox hg) | ((with_reducible refine zq (N := 3) rfl ?_); refine zr ?hg (N := 3) ?hd (cs := #[.slice A1_0 l1_0.length c1_0]) (t := 24) ?hr ?_; (case hd => rfl); (case hg => rfl); (case hr => first | (go_simp; done) | (go_simp; rfl)); intro gb102 hg w33 hbox hb; have n0_ := zA.mk (zJ (g := gb101) (o := .cells #[.slice A0_0 l0_0.length c0_0] 24 (0, 0)) (by (with_reducible repeat (first | refine zH ?_ _ | refine zI ?_ | refine zF ?_ _)); exact BK101.out) hb); have n1_ := zA.mk (zN (by repeat (first | (with_reducible first | exact HB.out | apply zC | apply zB | apply zD | refine zE ?_ GE101.out) | exact HB.out)) hb); have n2_ := zA.mk (hbox); have n3_ := zA.mk ((by rw [hg]; exact (zO (by repeat (first | (with_reducible first | exact HB.out | apply zC | apply zB | apply zD | refine zE ?_ GE101.out) | exact HB.out))) : w.heap.size ≤ gb102)); have n4_ := zA.mk ((by rw [hg]; exact (zO (by repeat (first | (with_reducible first | exact HB.out | apply zC | apply zB | apply zD | refine zE ?_ GE101.out) | exact HB.out))) : w.heap.size ≤ gb102)); have n5_ := zA.mk ((by rw [hg]; exact Nat.ne_of_lt (zt (g := gb101) (o := .cells #[.slice A0_0 l0_0.length c0_0] 24 (0, 0)) (by (with_reducible repeat (first | refine zH ?_ _ | refine zI ?_ | refine zF ?_ _)); exact BK101.out)) : gb101 ≠ gb102)); have n6_ := zA.mk ((by rw [hg]; exact Nat.ne_of_gt (zt (g := gb101) (o := .cells #[.slice A0_0 l0_0.length c0_0] 24 (0, 0)) (by (with_reducible repeat (first | refine zH ?_ _ | refine zI ?_ | refine zF ?_ _)); exact BK101.out)) : gb102 ≠ gb101)); clear BK101; clear HB; have BK101 := n0_; have HB := n1_; have BK102 := n2_; have GW102 := n3_; have GE102 := n4_; have NB101_102 := n5_; have NB102_101 := n6_; clear n0_ n1_ n2_ n3_ n4_ n5_ n6_; clear hb hbox hg; have hnb34 := NB101_102.out; have hnc34 := NB102_101.out; have hcz35_0 : w33.cell? ⟨gb101, 0, none⟩ = some (.slice A0_0 l0_0.length c0_0) := (zL BK101.out 0).trans rfl; have hfz35_0 := zQ BK101.out 0) | ((with_reducible refine zf (f := 8) rfl ?_); refine qT (some 12) rfl rfl Try.func8 (by kernel_rfl) rfl #[.agg #[.slice A0_0 l0_0.length c0_0], .int .i64 1048576] rfl (by (try simp only [yiy, yjy, yky]); first | done | rfl | (simp only [yly, ymy]; rfl)) ?_; (with_reducible refine (zx.calls k _ _ l0_0 1048576 t103 _ ?side1 ?side2 A3.out).mono ?_); (case side1 => repeat (first | exact (Kd.zw HR0_0.out HB.out) | (with_reducible refine Kd.zn ?_ _) | (with_reducible refine Kd.zo ?_ _) | (with_reducible refine Kd.qD ?_))); (case side2 => exact HC0_0.out); rintro e w36 ⟨rfl, hb⟩; refine ⟨_, rfl, ?_⟩; have n0_ := zA.mk (zJ (g := gb101) (o := .cells #[.slice A0_0 l0_0.length c0_0] 24 (0, 0)) (by (with_reducible repeat (first | refine zH ?_ _ | refine zI ?_ | refine zF ?_ _)); exact BK101.out) hb); have n1_ := zA.mk (zJ (g := gb102) (o := .cells #[.slice A1_0 l1_0.length c1_0] 24 (0, 0)) (by (with_reducible repeat (first | refine zH ?_ _ | refine zI ?_ | refine zF ?_ _)); exact BK102.out) hb); have n2_ := zA.mk (zN (by repeat (first | (with_reducible first | exact HB.out | apply zC | apply zB | apply zD | refine zE ?_ GE101.out | refine zE ?_ GE102.out) | exact HB.out)) hb); clear BK101; clear BK102; clear HB; have BK101 := n0_; have BK102 := n1_; have HB := n2_; clear n0_ n1_ n2_; (try clear hb); (try clear hb2); (try clear hk); (try clear hi); have hcz37_0 : w36.cell? ⟨gb102, 0, none⟩ = some (.slice A1_0 l1_0.length c1_0) := (zL BK102.out 0).trans rfl; have hfz37_0 := zQ BK102.out 0) | ((with_reducible refine zf (f := 8) rfl ?_); refine qT (some 17) rfl rfl Try.func8 (by kernel_rfl) rfl #[.agg #[.slice A1_0 l1_0.length c1_0], .int .i64 t103] rfl (by (try simp only [yiy, yjy, yky]); first | done | rfl | (simp only [yly, ymy]; rfl)) ?_; (with_reducible refine (zx.calls k _ _ l1_0 t103 t104 _ ?side1 ?side2 A10.out).mono ?_); (case side1 => repeat (first | exact (Kd.zw HR1_0.out HB.out) | (with_reducible refine Kd.zn ?_ _) | (with_reducible refine Kd.zo ?_ _) | (with_reducible refine Kd.qD ?_))); (case side2 => exact HC1_0.out); rintro e w38 ⟨rfl, hb⟩; refine ⟨_, rfl, ?_⟩; have n0_ := zA.mk (zJ (g := gb101) (o := .cells #[.slice A0_0 l0_0.length c0_0] 24 (0, 0)) (by (with_reducible repeat (first | refine zH ?_ _ | refine zI ?_ | refine zF ?_ _)); exact BK101.out) hb); have n1_ := zA.mk (zJ (g := gb102) (o := .cells #[.slice A1_0 l1_0.length c1_0] 24 (0, 0)) (by (with_reducible repeat (first | refine zH ?_ _ | refine zI ?_ | refine zF ?_ _)); exact BK102.out) hb); have n2_ := zA.mk (zN (by repeat (first | (with_reducible first | exact HB.out | apply zC | apply zB | apply zD | refine zE ?_ GE101.out | refine zE ?_ GE102.out) | exact HB.out)) hb); clear BK101; clear BK102; clear HB; have BK101 := n0_; have BK102 := n1_; have HB := n2_; clear n0_ n1_ n2_; (try clear hb); (try clear hb2); (try clear hk); (try clear hi)))
    have n0_ := zA.mk (zI BK101.out)
    have n1_ := zA.mk (zI BK102.out)
    have n2_ := zA.mk (zD HB.out)
    clear BK101
    clear BK102
    clear HB
    have BK101 := n0_
    have BK102 := n1_
    have HB := n2_
    clear n0_ n1_ n2_
    refine ZT (n := 6) (S := fun w' => w'.cell? ⟨gb101, 0, none⟩ = some (.slice A0_0 l0_0.length c0_0) ∧ w'.cell? ⟨gb102, 0, none⟩ = some (.slice A1_0 l1_0.length c1_0)) (ds := []) #[false, false, false, false, false, false] (by kernel_rfl) rfl rfl ⟨(zL BK101.out 0).trans rfl, (zL BK102.out 0).trans rfl⟩ (fun hHeld => ?_)
    generalize w38.drew = w39 at BK101 BK102 HB hHeld ⊢
    refine qd (i := 0) (N := some 20) (v := ?_) (a' := ?_) #[true, false, false, false, false, false] rfl rfl (by kernel_rfl) (fun _ _ _ h => h) (Or.inl ⟨by rfl, ?_⟩) hHeld ?_ ?_
    rotate_left
    next =>
     rintro w' ⟨s0, s1⟩
     go_simp
     with_reducible rfl
    rotate_left
    next =>
     simp only [Act.put, yay, yby, ycy, zT, zV]
     rfl
    refine qd (i := 2) (N := some 22) (v := ?_) (a' := ?_) #[true, false, true, false, false, false] rfl rfl (by kernel_rfl) (fun _ _ _ h => h) (Or.inl ⟨by rfl, ?_⟩) hHeld ?_ ?_
    rotate_left
    next =>
     rintro w' ⟨s0, s1⟩
     go_simp
     with_reducible rfl
    rotate_left
    next =>
     simp only [Act.put, yay, yby, ycy, zT, zV]
     rfl
    refine QH (i := 1) (N := some 21) #[true, true, true, false, false, false] rfl rfl (by kernel_rfl) (by decide) (fun K hK => ?_)
    refine ZV Try.func10 (by kernel_rfl) rfl #[.agg #[.slice A0_0 l0_0.length c0_0]] (by rfl) rfl rfl (by (try simp only [yiy, yjy, yky]); first | done | rfl | (simp only [yly, ymy]; rfl)) ?_
    with_reducible refine (zP.calls k _ _ l0_0 t105 _ ?side1 ?side2 A19.out).mono ?_
    (case side1 => repeat (first | exact (Kd.zw HR0_0.out HB.out) | (with_reducible refine Kd.zn ?_ _) | (with_reducible refine Kd.zo ?_ _) | (with_reducible refine Kd.qD ?_)))
    (case side2 => exact HC0_0.out)
    rintro e w40 ⟨v106, rfl, ho0, hb⟩
    refine ⟨_, rfl, ?_⟩
    have n0_ := zA.mk (Kd.ZY ho0 (zO (by repeat (first | (with_reducible first | exact HB.out | apply zC | apply zB | apply zD | refine zE ?_ GE101.out | refine zE ?_ GE102.out) | exact HB.out))))
    have n1_ := zA.mk (zJ (g := gb101) (o := .cells #[.slice A0_0 l0_0.length c0_0] 24 (0, 0)) (by (with_reducible repeat (first | refine zH ?_ _ | refine zI ?_ | refine zF ?_ _)); exact BK101.out) hb)
    have n2_ := zA.mk (zJ (g := gb102) (o := .cells #[.slice A1_0 l1_0.length c1_0] 24 (0, 0)) (by (with_reducible repeat (first | refine zH ?_ _ | refine zI ?_ | refine zF ?_ _)); exact BK102.out) hb)
    have n3_ := zA.mk (zN (by repeat (first | (with_reducible first | exact HB.out | apply zC | apply zB | apply zD | refine zE ?_ GE101.out | refine zE ?_ GE102.out) | exact HB.out)) hb)
    clear BK101
    clear BK102
    clear HB
    have HO107 := n0_
    have BK101 := n1_
    have BK102 := n2_
    have HB := n3_
    clear n0_ n1_ n2_ n3_
    (try clear hb)
    (try clear hb2)
    (try clear hk)
    (try clear hi)
    (try clear ho0)
    refine hK.out _ _ ⟨(zL BK101.out 0).trans rfl, (zL BK102.out 0).trans rfl⟩ (fun hHeld => ?_)
    clear hK K
    refine qz (a' := ?_) ?_ ?_
    rotate_left
    next =>
     show Act.put _ (some 21) _ = _
     simp only [Act.put, yay, yby, ycy, zT, zV]
     rfl
    refine QH (i := 3) (N := some 23) #[true, true, true, true, false, false] rfl rfl (by kernel_rfl) (by decide) (fun K hK => ?_)
    refine ZV Try.func10 (by kernel_rfl) rfl #[.agg #[.slice A1_0 l1_0.length c1_0]] (by rfl) rfl rfl (by (try simp only [yiy, yjy, yky]); first | done | rfl | (simp only [yly, ymy]; rfl)) ?_
    with_reducible refine (zP.calls k _ _ l1_0 t108 _ ?side1 ?side2 A20.out).mono ?_
    (case side1 => repeat (first | exact (Kd.zw HR1_0.out HB.out) | (with_reducible refine Kd.zn ?_ _) | (with_reducible refine Kd.zo ?_ _) | (with_reducible refine Kd.qD ?_)))
    (case side2 => exact HC1_0.out)
    rintro e w41 ⟨v109, rfl, ho0, hb⟩
    refine ⟨_, rfl, ?_⟩
    have n0_ := zA.mk (Kd.qN (by (with_reducible repeat (first | apply Kd.zY | apply Kd.zZ | apply Kd.za)); exact HO107.out) (Kd.qt ho0) hb)
    have n1_ := zA.mk (Kd.ZY (Kd.qv ho0 (Kd.Ql (by (with_reducible repeat (first | apply Kd.zY | apply Kd.zZ | apply Kd.za)); exact HO107.out))) (zO (by repeat (first | (with_reducible first | exact HB.out | apply zC | apply zB | apply zD | refine zE ?_ GE101.out | refine zE ?_ GE102.out) | exact HB.out))))
    have n2_ := zA.mk (zJ (g := gb101) (o := .cells #[.slice A0_0 l0_0.length c0_0] 24 (0, 0)) (by (with_reducible repeat (first | refine zH ?_ _ | refine zI ?_ | refine zF ?_ _)); exact BK101.out) hb)
    have n3_ := zA.mk (zJ (g := gb102) (o := .cells #[.slice A1_0 l1_0.length c1_0] 24 (0, 0)) (by (with_reducible repeat (first | refine zH ?_ _ | refine zI ?_ | refine zF ?_ _)); exact BK102.out) hb)
    have n4_ := zA.mk (zN (by repeat (first | (with_reducible first | exact HB.out | apply zC | apply zB | apply zD | refine zE ?_ GE101.out | refine zE ?_ GE102.out) | exact HB.out)) hb)
    clear HO107
    clear BK101
    clear BK102
    clear HB
    have HO107 := n0_
    have HO110 := n1_
    have BK101 := n2_
    have BK102 := n3_
    have HB := n4_
    clear n0_ n1_ n2_ n3_ n4_
    (try clear hb)
    (try clear hb2)
    (try clear hk)
    (try clear hi)
    (try clear ho0)
    obtain ⟨Ao42, co42, eo42⟩ := Kd.Za HO107.out
    (first | subst eo42 | (injection eo42 with f1_ f2_ f3_; have f4_ := f1_.symm; have f5_ := f3_.symm; clear f1_ f2_ f3_; subst f4_; subst f5_))
    obtain ⟨Ao43, co43, eo43⟩ := Kd.Za HO110.out
    (first | subst eo43 | (injection eo43 with f1_ f2_ f3_; have f4_ := f1_.symm; have f5_ := f3_.symm; clear f1_ f2_ f3_; subst f4_; subst f5_))
    refine hK.out _ _ ⟨(zL BK101.out 0).trans rfl, (zL BK102.out 0).trans rfl⟩ (fun hHeld => ?_)
    clear hK K
    refine qz (a' := ?_) ?_ ?_
    rotate_left
    next =>
     show Act.put _ (some 23) _ = _
     simp only [Act.put, yay, yby, ycy, zT, zV]
     rfl
    refine QH (i := 4) (N := some 24) #[true, true, true, true, true, false] rfl rfl (by kernel_rfl) (by decide) (fun K hK => ?_)
    refine ZV Try.func22 (by kernel_rfl) rfl #[.agg #[.slice Ao42 t105.length co42], .agg #[.slice Ao43 t108.length co43]] (by rfl) rfl rfl (by (try simp only [yiy, yjy, yky]); first | done | rfl | (simp only [yly, ymy]; rfl)) ?_
    with_reducible refine (qL.calls k _ _ t105 _ _ t108 t111 _ ?side1 ?side2 ?side3 ?side4 A21.out).mono ?_
    (case side1 => repeat (first | exact (Kd.qI HO107.out).2.2 | (with_reducible refine Kd.zn ?_ _) | (with_reducible refine Kd.zo ?_ _) | (with_reducible refine Kd.qD ?_)))
    (case side2 => exact (Kd.qI HO107.out).2.1)
    (case side3 => repeat (first | exact (Kd.qI HO110.out).2.2 | (with_reducible refine Kd.zn ?_ _) | (with_reducible refine Kd.zo ?_ _) | (with_reducible refine Kd.qD ?_)))
    (case side4 => exact (Kd.qI HO110.out).2.1)
    rintro e w44 ⟨rfl, hb⟩
    refine ⟨_, rfl, ?_⟩
    have n0_ := zA.mk (Kd.zy (by (with_reducible repeat (first | apply Kd.zY | apply Kd.zZ | apply Kd.za)); exact HO107.out) hb)
    have n1_ := zA.mk (Kd.zy (by (with_reducible repeat (first | apply Kd.zY | apply Kd.zZ | apply Kd.za)); exact HO110.out) hb)
    have n2_ := zA.mk (zJ (g := gb101) (o := .cells #[.slice A0_0 l0_0.length c0_0] 24 (0, 0)) (by (with_reducible repeat (first | refine zH ?_ _ | refine zI ?_ | refine zF ?_ _)); exact BK101.out) hb)
    have n3_ := zA.mk (zJ (g := gb102) (o := .cells #[.slice A1_0 l1_0.length c1_0] 24 (0, 0)) (by (with_reducible repeat (first | refine zH ?_ _ | refine zI ?_ | refine zF ?_ _)); exact BK102.out) hb)
    have n4_ := zA.mk (zN (by repeat (first | (with_reducible first | exact HB.out | apply zC | apply zB | apply zD | refine zE ?_ GE101.out | refine zE ?_ GE102.out) | exact HB.out)) hb)
    clear HO107
    clear HO110
    clear BK101
    clear BK102
    clear HB
    have HO107 := n0_
    have HO110 := n1_
    have BK101 := n2_
    have BK102 := n3_
    have HB := n4_
    clear n0_ n1_ n2_ n3_ n4_
    (try clear hb)
    (try clear hb2)
    (try clear hk)
    (try clear hi)
    refine hK.out _ _ ⟨(zL BK101.out 0).trans rfl, (zL BK102.out 0).trans rfl⟩ (fun hHeld => ?_)
    clear hK K
    refine qz (a' := ?_) ?_ ?_
    rotate_left
    next =>
     show Act.put _ (some 24) _ = _
     simp only [Act.put, yay, yby, ycy, zT, zV]
     rfl
    refine zh (i := 5) (N := some 6) (v := ?_) (a' := ?_) #[true, true, true, true, true, true] rfl rfl (by kernel_rfl) (fun _ _ _ h => h) (Or.inl ⟨by rfl, ?_⟩) ?_ ?_
    rotate_left
    next =>
     intro w'
     go_simp
     with_reducible rfl
    rotate_left
    next =>
     simp only [Act.put, yay, yby, ycy, zT, zV]
     rfl
    refine Zy (by kernel_rfl) ?_
    have hcz45_0 : w44.cell? ⟨gb101, 0, none⟩ = some (.slice A0_0 l0_0.length c0_0) := (zL BK101.out 0).trans rfl
    have hfz45_0 := zQ BK101.out 0
    try go_wp2_with (first | ((with_reducible refine zf (f := 10) rfl ?_); refine qT (some 26) rfl rfl Try.func10 (by kernel_rfl) rfl #[.agg #[.slice A0_0 l0_0.length c0_0]] rfl (by (try simp only [yiy, yjy, yky]); first | done | rfl | (simp only [yly, ymy]; rfl)) ?_; (with_reducible refine (zP.calls k _ _ l0_0 t112 _ ?side1 ?side2 A22.out).mono ?_); (case side1 => repeat (first | exact (Kd.zw HR0_0.out HB.out) | (with_reducible refine Kd.zn ?_ _) | (with_reducible refine Kd.zo ?_ _) | (with_reducible refine Kd.qD ?_))); (case side2 => exact HC0_0.out); rintro e w46 ⟨v113, rfl, ho0, hb⟩; refine ⟨_, rfl, ?_⟩; have n0_ := zA.mk (Kd.qN (by (with_reducible repeat (first | apply Kd.zY | apply Kd.zZ | apply Kd.za)); exact HO107.out) (Kd.qt ho0) hb); have n1_ := zA.mk (Kd.qN (by (with_reducible repeat (first | apply Kd.zY | apply Kd.zZ | apply Kd.za)); exact HO110.out) (Kd.qt ho0) hb); have n2_ := zA.mk (Kd.ZY (Kd.qv (Kd.qv ho0 (Kd.Ql (by (with_reducible repeat (first | apply Kd.zY | apply Kd.zZ | apply Kd.za)); exact HO107.out))) (Kd.Ql (by (with_reducible repeat (first | apply Kd.zY | apply Kd.zZ | apply Kd.za)); exact HO110.out))) (zO (by repeat (first | (with_reducible first | exact HB.out | apply zC | apply zB | apply zD | refine zE ?_ GE101.out | refine zE ?_ GE102.out) | exact HB.out)))); have n3_ := zA.mk (zJ (g := gb101) (o := .cells #[.slice A0_0 l0_0.length c0_0] 24 (0, 0)) (by (with_reducible repeat (first | refine zH ?_ _ | refine zI ?_ | refine zF ?_ _)); exact BK101.out) hb); have n4_ := zA.mk (zJ (g := gb102) (o := .cells #[.slice A1_0 l1_0.length c1_0] 24 (0, 0)) (by (with_reducible repeat (first | refine zH ?_ _ | refine zI ?_ | refine zF ?_ _)); exact BK102.out) hb); have n5_ := zA.mk (zN (by repeat (first | (with_reducible first | exact HB.out | apply zC | apply zB | apply zD | refine zE ?_ GE101.out | refine zE ?_ GE102.out) | exact HB.out)) hb); clear HO107; clear HO110; clear BK101; clear BK102; clear HB; have HO107 := n0_; have HO110 := n1_; have HO114 := n2_; have BK101 := n3_; have BK102 := n4_; have HB := n5_; clear n0_ n1_ n2_ n3_ n4_ n5_; (try clear hb); (try clear hb2); (try clear hk); (try clear hi); (try clear ho0)) | ((with_reducible refine zq (N := 7) rfl ?_); refine zr ?hg (N := 7) ?hd (cs := #[.slice none 0 0]) (t := 30) ?hr ?_; (case hd => rfl); (case hg => rfl); (case hr => first | (go_simp; done) | (go_simp; rfl)); intro gb115 hg w47 hbox hb; have n0_ := zA.mk (Kd.zy (by (with_reducible repeat (first | apply Kd.zY | apply Kd.zZ | apply Kd.za)); exact HO107.out) hb); have n1_ := zA.mk (Kd.zy (by (with_reducible repeat (first | apply Kd.zY | apply Kd.zZ | apply Kd.za)); exact HO110.out) hb); have n2_ := zA.mk (Kd.zy (by (with_reducible repeat (first | apply Kd.zY | apply Kd.zZ | apply Kd.za)); exact HO114.out) hb); have n3_ := zA.mk (zJ (g := gb101) (o := .cells #[.slice A0_0 l0_0.length c0_0] 24 (0, 0)) (by (with_reducible repeat (first | refine zH ?_ _ | refine zI ?_ | refine zF ?_ _)); exact BK101.out) hb); have n4_ := zA.mk (zJ (g := gb102) (o := .cells #[.slice A1_0 l1_0.length c1_0] 24 (0, 0)) (by (with_reducible repeat (first | refine zH ?_ _ | refine zI ?_ | refine zF ?_ _)); exact BK102.out) hb); have n5_ := zA.mk (zN (by repeat (first | (with_reducible first | exact HB.out | apply zC | apply zB | apply zD | refine zE ?_ GE101.out | refine zE ?_ GE102.out) | exact HB.out)) hb); have n6_ := zA.mk (hbox); have n7_ := zA.mk ((by rw [hg]; exact (zO (by repeat (first | (with_reducible first | exact HB.out | apply zC | apply zB | apply zD | refine zE ?_ GE101.out | refine zE ?_ GE102.out) | exact HB.out))) : w.heap.size ≤ gb115)); have n8_ := zA.mk ((by rw [hg]; exact (zO (by repeat (first | (with_reducible first | exact HB.out | apply zC | apply zB | apply zD | refine zE ?_ GE101.out | refine zE ?_ GE102.out) | exact HB.out))) : w.heap.size ≤ gb115)); have n9_ := zA.mk ((by rw [hg]; exact Nat.ne_of_lt (zt (g := gb101) (o := .cells #[.slice A0_0 l0_0.length c0_0] 24 (0, 0)) (by (with_reducible repeat (first | refine zH ?_ _ | refine zI ?_ | refine zF ?_ _)); exact BK101.out)) : gb101 ≠ gb115)); have n10_ := zA.mk ((by rw [hg]; exact Nat.ne_of_gt (zt (g := gb101) (o := .cells #[.slice A0_0 l0_0.length c0_0] 24 (0, 0)) (by (with_reducible repeat (first | refine zH ?_ _ | refine zI ?_ | refine zF ?_ _)); exact BK101.out)) : gb115 ≠ gb101)); have n11_ := zA.mk ((by rw [hg]; exact Nat.ne_of_lt (zt (g := gb102) (o := .cells #[.slice A1_0 l1_0.length c1_0] 24 (0, 0)) (by (with_reducible repeat (first | refine zH ?_ _ | refine zI ?_ | refine zF ?_ _)); exact BK102.out)) : gb102 ≠ gb115)); have n12_ := zA.mk ((by rw [hg]; exact Nat.ne_of_gt (zt (g := gb102) (o := .cells #[.slice A1_0 l1_0.length c1_0] 24 (0, 0)) (by (with_reducible repeat (first | refine zH ?_ _ | refine zI ?_ | refine zF ?_ _)); exact BK102.out)) : gb115 ≠ gb102)); clear HO107; clear HO110; clear HO114; clear BK101; clear BK102; clear HB; have HO107 := n0_; have HO110 := n1_; have HO114 := n2_; have BK101 := n3_; have BK102 := n4_; have HB := n5_; have BK115 := n6_; have GW115 := n7_; have GE115 := n8_; have NB101_115 := n9_; have NB115_101 := n10_; have NB102_115 := n11_; have NB115_102 := n12_; clear n0_ n1_ n2_ n3_ n4_ n5_ n6_ n7_ n8_ n9_ n10_ n11_ n12_; clear hb hbox hg; obtain ⟨Ao48, co48, eo48⟩ := Kd.Za HO114.out; subst eo48; have hnb49 := NB115_101.out; have hnc49 := NB101_115.out; have hnb50 := NB115_102.out; have hnc50 := NB102_115.out; have hcz51_0 : w47.cell? ⟨gb115, 0, none⟩ = some (.slice none 0 0) := (zL BK115.out 0).trans rfl; have hfz51_0 := zQ BK115.out 0; have hcz52_0 : w47.cell? ⟨gb102, 0, none⟩ = some (.slice A1_0 l1_0.length c1_0) := (zL BK102.out 0).trans rfl; have hfz52_0 := zQ BK102.out 0) | ((with_reducible refine zf (f := 10) rfl ?_); refine qT (some 28) rfl rfl Try.func10 (by kernel_rfl) rfl #[.agg #[.slice A1_0 l1_0.length c1_0]] rfl (by (try simp only [yiy, yjy, yky]); first | done | rfl | (simp only [yly, ymy]; rfl)) ?_; (with_reducible refine (zP.calls k _ _ l1_0 t116 _ ?side1 ?side2 A23.out).mono ?_); (case side1 => exact Kd.zw HR1_0.out (by repeat (first | (with_reducible first | exact HB.out | apply zC | apply zB | apply zD | refine zE ?_ GE101.out | refine zE ?_ GE102.out | refine zE ?_ GE115.out) | exact HB.out))); (case side2 => exact HC1_0.out); rintro e w53 ⟨v117, rfl, ho0, hb⟩; refine ⟨_, rfl, ?_⟩; have n0_ := zA.mk (Kd.qN (by (with_reducible repeat (first | apply Kd.zY | apply Kd.zZ | apply Kd.za)); exact (Kd.qj (Kd.ZU (p := ⟨gb115, 0, none⟩) (Kd.qU HO107.out BK115.out (by decide)) (fun _ hk => hk.2) (.slice Ao48 t112.length co48)) (fun _ h_ => h_.1))) (Kd.qt ho0) hb); have n1_ := zA.mk (Kd.qN (by (with_reducible repeat (first | apply Kd.zY | apply Kd.zZ | apply Kd.za)); exact (Kd.qj (Kd.ZU (p := ⟨gb115, 0, none⟩) (Kd.qU HO110.out BK115.out (by decide)) (fun _ hk => hk.2) (.slice Ao48 t112.length co48)) (fun _ h_ => h_.1))) (Kd.qt ho0) hb); have n2_ := zA.mk (Kd.qN (by (with_reducible repeat (first | apply Kd.zY | apply Kd.zZ | apply Kd.za)); exact (Kd.qj (Kd.ZU (p := ⟨gb115, 0, none⟩) (Kd.qU HO114.out BK115.out (by decide)) (fun _ hk => hk.2) (.slice Ao48 t112.length co48)) (fun _ h_ => h_.1))) (Kd.qt ho0) hb); have n3_ := zA.mk (Kd.ZY (Kd.qv (Kd.qv (Kd.qv ho0 (Kd.Ql (by (with_reducible repeat (first | apply Kd.zY | apply Kd.zZ | apply Kd.za)); exact (Kd.qj (Kd.ZU (p := ⟨gb115, 0, none⟩) (Kd.qU HO107.out BK115.out (by decide)) (fun _ hk => hk.2) (.slice Ao48 t112.length co48)) (fun _ h_ => h_.1))))) (Kd.Ql (by (with_reducible repeat (first | apply Kd.zY | apply Kd.zZ | apply Kd.za)); exact (Kd.qj (Kd.ZU (p := ⟨gb115, 0, none⟩) (Kd.qU HO110.out BK115.out (by decide)) (fun _ hk => hk.2) (.slice Ao48 t112.length co48)) (fun _ h_ => h_.1))))) (Kd.Ql (by (with_reducible repeat (first | apply Kd.zY | apply Kd.zZ | apply Kd.za)); exact (Kd.qj (Kd.ZU (p := ⟨gb115, 0, none⟩) (Kd.qU HO114.out BK115.out (by decide)) (fun _ hk => hk.2) (.slice Ao48 t112.length co48)) (fun _ h_ => h_.1))))) (zO (by repeat (first | (with_reducible first | exact HB.out | apply zC | apply zB | apply zD | refine zE ?_ GE101.out | refine zE ?_ GE102.out | refine zE ?_ GE115.out) | exact HB.out)))); have n4_ := zA.mk (zJ (g := gb101) (o := .cells #[.slice A0_0 l0_0.length c0_0] 24 (0, 0)) (by (with_reducible repeat (first | refine zH ?_ _ | refine zI ?_ | refine zF ?_ _)); refine qK ?_ NB101_115.out _; (with_reducible repeat (first | refine zH ?_ _ | refine zI ?_ | refine zF ?_ _)); exact BK101.out) hb); have n5_ := zA.mk (zJ (g := gb102) (o := .cells #[.slice A1_0 l1_0.length c1_0] 24 (0, 0)) (by (with_reducible repeat (first | refine zH ?_ _ | refine zI ?_ | refine zF ?_ _)); refine qK ?_ NB102_115.out _; (with_reducible repeat (first | refine zH ?_ _ | refine zI ?_ | refine zF ?_ _)); exact BK102.out) hb); have n6_ := zA.mk (zJ (g := gb115) (o := .cells #[.slice Ao48 t112.length co48] 30 (0, 0)) (by (with_reducible repeat (first | refine zH ?_ _ | refine zI ?_ | refine zF ?_ _)); refine qc (cs := #[.slice none 0 0]) ?_ 0 _ rfl; (with_reducible repeat (first | refine zH ?_ _ | refine zI ?_ | refine zF ?_ _)); exact BK115.out) hb); have n7_ := zA.mk (zN (by repeat (first | (with_reducible first | exact HB.out | apply zC | apply zB | apply zD | refine zE ?_ GE101.out | refine zE ?_ GE102.out | refine zE ?_ GE115.out) | exact HB.out)) hb); clear HO107; clear HO110; clear HO114; clear BK101; clear BK102; clear BK115; clear HB; have HO107 := n0_; have HO110 := n1_; have HO114 := n2_; have HO118 := n3_; have BK101 := n4_; have BK102 := n5_; have BK115 := n6_; have HB := n7_; clear n0_ n1_ n2_ n3_ n4_ n5_ n6_ n7_; (try clear hb); (try clear hb2); (try clear hk); (try clear hi); (try clear ho0)) | ((with_reducible refine zq (N := 8) rfl ?_); refine zr ?hg (N := 8) ?hd (cs := #[.slice none 0 0]) (t := 30) ?hr ?_; (case hd => rfl); (case hg => rfl); (case hr => first | (go_simp; done) | (go_simp; rfl)); intro gb119 hg w54 hbox hb; have n0_ := zA.mk (Kd.zy (by (with_reducible repeat (first | apply Kd.zY | apply Kd.zZ | apply Kd.za)); exact HO107.out) hb); have n1_ := zA.mk (Kd.zy (by (with_reducible repeat (first | apply Kd.zY | apply Kd.zZ | apply Kd.za)); exact HO110.out) hb); have n2_ := zA.mk (Kd.zy (by (with_reducible repeat (first | apply Kd.zY | apply Kd.zZ | apply Kd.za)); exact HO114.out) hb); have n3_ := zA.mk (Kd.zy (by (with_reducible repeat (first | apply Kd.zY | apply Kd.zZ | apply Kd.za)); exact HO118.out) hb); have n4_ := zA.mk (zJ (g := gb101) (o := .cells #[.slice A0_0 l0_0.length c0_0] 24 (0, 0)) (by (with_reducible repeat (first | refine zH ?_ _ | refine zI ?_ | refine zF ?_ _)); exact BK101.out) hb); have n5_ := zA.mk (zJ (g := gb102) (o := .cells #[.slice A1_0 l1_0.length c1_0] 24 (0, 0)) (by (with_reducible repeat (first | refine zH ?_ _ | refine zI ?_ | refine zF ?_ _)); exact BK102.out) hb); have n6_ := zA.mk (zJ (g := gb115) (o := .cells #[.slice Ao48 t112.length co48] 30 (0, 0)) (by (with_reducible repeat (first | refine zH ?_ _ | refine zI ?_ | refine zF ?_ _)); exact BK115.out) hb); have n7_ := zA.mk (zN (by repeat (first | (with_reducible first | exact HB.out | apply zC | apply zB | apply zD | refine zE ?_ GE101.out | refine zE ?_ GE102.out | refine zE ?_ GE115.out) | exact HB.out)) hb); have n8_ := zA.mk (hbox); have n9_ := zA.mk ((by rw [hg]; exact (zO (by repeat (first | (with_reducible first | exact HB.out | apply zC | apply zB | apply zD | refine zE ?_ GE101.out | refine zE ?_ GE102.out | refine zE ?_ GE115.out) | exact HB.out))) : w.heap.size ≤ gb119)); have n10_ := zA.mk ((by rw [hg]; exact (zO (by repeat (first | (with_reducible first | exact HB.out | apply zC | apply zB | apply zD | refine zE ?_ GE101.out | refine zE ?_ GE102.out | refine zE ?_ GE115.out) | exact HB.out))) : w.heap.size ≤ gb119)); have n11_ := zA.mk ((by rw [hg]; exact Nat.ne_of_lt (zt (g := gb101) (o := .cells #[.slice A0_0 l0_0.length c0_0] 24 (0, 0)) (by (with_reducible repeat (first | refine zH ?_ _ | refine zI ?_ | refine zF ?_ _)); exact BK101.out)) : gb101 ≠ gb119)); have n12_ := zA.mk ((by rw [hg]; exact Nat.ne_of_gt (zt (g := gb101) (o := .cells #[.slice A0_0 l0_0.length c0_0] 24 (0, 0)) (by (with_reducible repeat (first | refine zH ?_ _ | refine zI ?_ | refine zF ?_ _)); exact BK101.out)) : gb119 ≠ gb101)); have n13_ := zA.mk ((by rw [hg]; exact Nat.ne_of_lt (zt (g := gb102) (o := .cells #[.slice A1_0 l1_0.length c1_0] 24 (0, 0)) (by (with_reducible repeat (first | refine zH ?_ _ | refine zI ?_ | refine zF ?_ _)); exact BK102.out)) : gb102 ≠ gb119)); have n14_ := zA.mk ((by rw [hg]; exact Nat.ne_of_gt (zt (g := gb102) (o := .cells #[.slice A1_0 l1_0.length c1_0] 24 (0, 0)) (by (with_reducible repeat (first | refine zH ?_ _ | refine zI ?_ | refine zF ?_ _)); exact BK102.out)) : gb119 ≠ gb102)); have n15_ := zA.mk ((by rw [hg]; exact Nat.ne_of_lt (zt (g := gb115) (o := .cells #[.slice Ao48 t112.length co48] 30 (0, 0)) (by (with_reducible repeat (first | refine zH ?_ _ | refine zI ?_ | refine zF ?_ _)); exact BK115.out)) : gb115 ≠ gb119)); have n16_ := zA.mk ((by rw [hg]; exact Nat.ne_of_gt (zt (g := gb115) (o := .cells #[.slice Ao48 t112.length co48] 30 (0, 0)) (by (with_reducible repeat (first | refine zH ?_ _ | refine zI ?_ | refine zF ?_ _)); exact BK115.out)) : gb119 ≠ gb115)); clear HO107; clear HO110; clear HO114; clear HO118; clear BK101; clear BK102; clear BK115; clear HB; have HO107 := n0_; have HO110 := n1_; have HO114 := n2_; have HO118 := n3_; have BK101 := n4_; have BK102 := n5_; have BK115 := n6_; have HB := n7_; have BK119 := n8_; have GW119 := n9_; have GE119 := n10_; have NB101_119 := n11_; have NB119_101 := n12_; have NB102_119 := n13_; have NB119_102 := n14_; have NB115_119 := n15_; have NB119_115 := n16_; clear n0_ n1_ n2_ n3_ n4_ n5_ n6_ n7_ n8_ n9_ n10_ n11_ n12_ n13_ n14_ n15_ n16_; clear hb hbox hg; obtain ⟨Ao55, co55, eo55⟩ := Kd.Za HO118.out; subst eo55; have hnb56 := NB119_101.out; have hnc56 := NB101_119.out; have hnb57 := NB119_102.out; have hnc57 := NB102_119.out; have hnb58 := NB119_115.out; have hnc58 := NB115_119.out; have hcz59_0 : w54.cell? ⟨gb119, 0, none⟩ = some (.slice none 0 0) := (zL BK119.out 0).trans rfl; have hfz59_0 := zQ BK119.out 0; have hcz60_0 : w54.cell? ⟨gb115, 0, none⟩ = some (.slice Ao48 t112.length co48) := (zL BK115.out 0).trans rfl; have hfz60_0 := zQ BK115.out 0) | ((with_reducible refine zf (f := 23) rfl ?_); refine qT (some 31) rfl rfl Try.func23 (by kernel_rfl) rfl #[.agg #[.slice Ao48 t112.length co48], .agg #[.slice Ao55 t116.length co55]] rfl (by (try simp only [yiy, yjy, yky]); first | done | rfl | (simp only [yly, ymy]; rfl)) ?_; (with_reducible refine (qC.calls k _ _ t112 _ _ t116 t120 _ ?side1 ?side2 ?side3 ?side4 A24.out).mono ?_); (case side1 => refine (Kd.qI (e := 60) (base := w.heap.size) (ok := fun k_ => (((True ∧ some k_ ≠ (.slice Ao42 t105.length co42 : Value).ownBlock) ∧ some k_ ≠ (.slice Ao43 t108.length co43 : Value).ownBlock) ∧ some k_ ≠ (.slice Ao55 t116.length co55 : Value).ownBlock)) (n := t112.length) (c := co48) ?_).2.2; exact (by (with_reducible repeat (first | apply Kd.zY | apply Kd.zZ | apply Kd.za)); exact (Kd.qj (Kd.ZU (p := ⟨gb119, 0, none⟩) (Kd.qU HO114.out BK119.out (by decide)) (fun _ hk => hk.2) (.slice Ao55 t116.length co55)) (fun _ h_ => h_.1)))); (case side2 => exact (Kd.qI HO114.out).2.1); (case side3 => refine (Kd.qI (e := 60) (base := w.heap.size) (ok := fun k_ => (((True ∧ some k_ ≠ (.slice Ao42 t105.length co42 : Value).ownBlock) ∧ some k_ ≠ (.slice Ao43 t108.length co43 : Value).ownBlock) ∧ some k_ ≠ (.slice Ao48 t112.length co48 : Value).ownBlock)) (n := t116.length) (c := co55) ?_).2.2; exact (by (with_reducible repeat (first | apply Kd.zY | apply Kd.zZ | apply Kd.za)); exact (Kd.qj (Kd.ZU (p := ⟨gb119, 0, none⟩) (Kd.qU HO118.out BK119.out (by decide)) (fun _ hk => hk.2) (.slice Ao55 t116.length co55)) (fun _ h_ => h_.1)))); (case side4 => exact (Kd.qI HO118.out).2.1); rintro e w61 ⟨rfl, hb⟩; refine ⟨_, rfl, ?_⟩; have n0_ := zA.mk (Kd.zy (by (with_reducible repeat (first | apply Kd.zY | apply Kd.zZ | apply Kd.za)); exact (Kd.qj (Kd.ZU (p := ⟨gb119, 0, none⟩) (Kd.qU HO107.out BK119.out (by decide)) (fun _ hk => hk.2) (.slice Ao55 t116.length co55)) (fun _ h_ => h_.1))) hb); have n1_ := zA.mk (Kd.zy (by (with_reducible repeat (first | apply Kd.zY | apply Kd.zZ | apply Kd.za)); exact (Kd.qj (Kd.ZU (p := ⟨gb119, 0, none⟩) (Kd.qU HO110.out BK119.out (by decide)) (fun _ hk => hk.2) (.slice Ao55 t116.length co55)) (fun _ h_ => h_.1))) hb); have n2_ := zA.mk (Kd.zy (by (with_reducible repeat (first | apply Kd.zY | apply Kd.zZ | apply Kd.za)); exact (Kd.qj (Kd.ZU (p := ⟨gb119, 0, none⟩) (Kd.qU HO114.out BK119.out (by decide)) (fun _ hk => hk.2) (.slice Ao55 t116.length co55)) (fun _ h_ => h_.1))) hb); have n3_ := zA.mk (Kd.zy (by (with_reducible repeat (first | apply Kd.zY | apply Kd.zZ | apply Kd.za)); exact (Kd.qj (Kd.ZU (p := ⟨gb119, 0, none⟩) (Kd.qU HO118.out BK119.out (by decide)) (fun _ hk => hk.2) (.slice Ao55 t116.length co55)) (fun _ h_ => h_.1))) hb); have n4_ := zA.mk (zJ (g := gb101) (o := .cells #[.slice A0_0 l0_0.length c0_0] 24 (0, 0)) (by (with_reducible repeat (first | refine zH ?_ _ | refine zI ?_ | refine zF ?_ _)); refine qK ?_ NB101_119.out _; (with_reducible repeat (first | refine zH ?_ _ | refine zI ?_ | refine zF ?_ _)); exact BK101.out) hb); have n5_ := zA.mk (zJ (g := gb102) (o := .cells #[.slice A1_0 l1_0.length c1_0] 24 (0, 0)) (by (with_reducible repeat (first | refine zH ?_ _ | refine zI ?_ | refine zF ?_ _)); refine qK ?_ NB102_119.out _; (with_reducible repeat (first | refine zH ?_ _ | refine zI ?_ | refine zF ?_ _)); exact BK102.out) hb); have n6_ := zA.mk (zJ (g := gb115) (o := .cells #[.slice Ao48 t112.length co48] 30 (0, 0)) (by (with_reducible repeat (first | refine zH ?_ _ | refine zI ?_ | refine zF ?_ _)); refine qK ?_ NB115_119.out _; (with_reducible repeat (first | refine zH ?_ _ | refine zI ?_ | refine zF ?_ _)); exact BK115.out) hb); have n7_ := zA.mk (zJ (g := gb119) (o := .cells #[.slice Ao55 t116.length co55] 30 (0, 0)) (by (with_reducible repeat (first | refine zH ?_ _ | refine zI ?_ | refine zF ?_ _)); refine qc (cs := #[.slice none 0 0]) ?_ 0 _ rfl; (with_reducible repeat (first | refine zH ?_ _ | refine zI ?_ | refine zF ?_ _)); exact BK119.out) hb); have n8_ := zA.mk (zN (by repeat (first | (with_reducible first | exact HB.out | apply zC | apply zB | apply zD | refine zE ?_ GE101.out | refine zE ?_ GE102.out | refine zE ?_ GE115.out | refine zE ?_ GE119.out) | exact HB.out)) hb); clear HO107; clear HO110; clear HO114; clear HO118; clear BK101; clear BK102; clear BK115; clear BK119; clear HB; have HO107 := n0_; have HO110 := n1_; have HO114 := n2_; have HO118 := n3_; have BK101 := n4_; have BK102 := n5_; have BK115 := n6_; have BK119 := n7_; have HB := n8_; clear n0_ n1_ n2_ n3_ n4_ n5_ n6_ n7_ n8_; (try clear hb); (try clear hb2); (try clear hk); (try clear hi)))
    have n0_ := zA.mk (Kd.za HO107.out)
    have n1_ := zA.mk (Kd.za HO110.out)
    have n2_ := zA.mk (Kd.za HO114.out)
    have n3_ := zA.mk (Kd.za HO118.out)
    have n4_ := zA.mk (zI BK101.out)
    have n5_ := zA.mk (zI BK102.out)
    have n6_ := zA.mk (zI BK115.out)
    have n7_ := zA.mk (zI BK119.out)
    have n8_ := zA.mk (zD HB.out)
    clear HO107
    clear HO110
    clear HO114
    clear HO118
    clear BK101
    clear BK102
    clear BK115
    clear BK119
    clear HB
    have HO107 := n0_
    have HO110 := n1_
    have HO114 := n2_
    have HO118 := n3_
    have BK101 := n4_
    have BK102 := n5_
    have BK115 := n6_
    have BK119 := n7_
    have HB := n8_
    clear n0_ n1_ n2_ n3_ n4_ n5_ n6_ n7_ n8_
    refine ZT (n := 5) (S := fun w' => w'.cell? ⟨gb115, 0, none⟩ = some (.slice Ao48 t112.length co48) ∧ w'.cell? ⟨gb101, 0, none⟩ = some (.slice A0_0 l0_0.length c0_0)) (ds := []) #[false, false, false, false, false] (by kernel_rfl) rfl rfl ⟨(zL BK115.out 0).trans rfl, (zL BK101.out 0).trans rfl⟩ (fun hHeld => ?_)
    generalize w61.drew = w62 at HO107 HO110 HO114 HO118 BK101 BK102 BK115 BK119 HB hHeld ⊢
    refine qd (i := 0) (N := some 35) (v := ?_) (a' := ?_) #[true, false, false, false, false] rfl rfl (by kernel_rfl) (fun _ _ _ h => h) (Or.inl ⟨by rfl, ?_⟩) hHeld ?_ ?_
    rotate_left
    next =>
     rintro w' ⟨s0, s1⟩
     go_simp
     with_reducible rfl
    rotate_left
    next =>
     simp only [Act.put, yay, yby, ycy, zT, zV]
     rfl
    refine qd (i := 1) (N := some 36) (v := ?_) (a' := ?_) #[true, true, false, false, false] rfl rfl (by kernel_rfl) (fun _ _ _ h => h) (Or.inl ⟨by rfl, ?_⟩) hHeld ?_ ?_
    rotate_left
    next =>
     rintro w' ⟨s0, s1⟩
     go_simp
     with_reducible rfl
    rotate_left
    next =>
     simp only [Act.put, yay, yby, ycy, zT, zV]
     rfl
    refine QH (i := 2) (N := some 37) #[true, true, true, false, false] rfl rfl (by kernel_rfl) (by decide) (fun K hK => ?_)
    refine ZV Try.func10 (by kernel_rfl) rfl #[.agg #[.slice A0_0 l0_0.length c0_0]] (by rfl) rfl rfl (by (try simp only [yiy, yjy, yky]); first | done | rfl | (simp only [yly, ymy]; rfl)) ?_
    with_reducible refine (zP.calls k _ _ l0_0 t121 _ ?side1 ?side2 A26.out).mono ?_
    (case side1 => repeat (first | exact (Kd.zw HR0_0.out HB.out) | (with_reducible refine Kd.zn ?_ _) | (with_reducible refine Kd.zo ?_ _) | (with_reducible refine Kd.qD ?_)))
    (case side2 => exact HC0_0.out)
    rintro e w63 ⟨v122, rfl, ho0, hb⟩
    refine ⟨_, rfl, ?_⟩
    have n0_ := zA.mk (Kd.qN (by (with_reducible repeat (first | apply Kd.zY | apply Kd.zZ | apply Kd.za)); exact HO107.out) (Kd.qt ho0) hb)
    have n1_ := zA.mk (Kd.qN (by (with_reducible repeat (first | apply Kd.zY | apply Kd.zZ | apply Kd.za)); exact HO110.out) (Kd.qt ho0) hb)
    have n2_ := zA.mk (Kd.qN (by (with_reducible repeat (first | apply Kd.zY | apply Kd.zZ | apply Kd.za)); exact HO114.out) (Kd.qt ho0) hb)
    have n3_ := zA.mk (Kd.qN (by (with_reducible repeat (first | apply Kd.zY | apply Kd.zZ | apply Kd.za)); exact HO118.out) (Kd.qt ho0) hb)
    have n4_ := zA.mk (Kd.ZY (Kd.qv (Kd.qv (Kd.qv (Kd.qv ho0 (Kd.Ql (by (with_reducible repeat (first | apply Kd.zY | apply Kd.zZ | apply Kd.za)); exact HO107.out))) (Kd.Ql (by (with_reducible repeat (first | apply Kd.zY | apply Kd.zZ | apply Kd.za)); exact HO110.out))) (Kd.Ql (by (with_reducible repeat (first | apply Kd.zY | apply Kd.zZ | apply Kd.za)); exact HO114.out))) (Kd.Ql (by (with_reducible repeat (first | apply Kd.zY | apply Kd.zZ | apply Kd.za)); exact HO118.out))) (zO (by repeat (first | (with_reducible first | exact HB.out | apply zC | apply zB | apply zD | refine zE ?_ GE101.out | refine zE ?_ GE102.out | refine zE ?_ GE115.out | refine zE ?_ GE119.out) | exact HB.out))))
    have n5_ := zA.mk (zJ (g := gb101) (o := .cells #[.slice A0_0 l0_0.length c0_0] 24 (0, 0)) (by (with_reducible repeat (first | refine zH ?_ _ | refine zI ?_ | refine zF ?_ _)); exact BK101.out) hb)
    have n6_ := zA.mk (zJ (g := gb102) (o := .cells #[.slice A1_0 l1_0.length c1_0] 24 (0, 0)) (by (with_reducible repeat (first | refine zH ?_ _ | refine zI ?_ | refine zF ?_ _)); exact BK102.out) hb)
    have n7_ := zA.mk (zJ (g := gb115) (o := .cells #[.slice Ao48 t112.length co48] 30 (0, 0)) (by (with_reducible repeat (first | refine zH ?_ _ | refine zI ?_ | refine zF ?_ _)); exact BK115.out) hb)
    have n8_ := zA.mk (zJ (g := gb119) (o := .cells #[.slice Ao55 t116.length co55] 30 (0, 0)) (by (with_reducible repeat (first | refine zH ?_ _ | refine zI ?_ | refine zF ?_ _)); exact BK119.out) hb)
    have n9_ := zA.mk (zN (by repeat (first | (with_reducible first | exact HB.out | apply zC | apply zB | apply zD | refine zE ?_ GE101.out | refine zE ?_ GE102.out | refine zE ?_ GE115.out | refine zE ?_ GE119.out) | exact HB.out)) hb)
    clear HO107
    clear HO110
    clear HO114
    clear HO118
    clear BK101
    clear BK102
    clear BK115
    clear BK119
    clear HB
    have HO107 := n0_
    have HO110 := n1_
    have HO114 := n2_
    have HO118 := n3_
    have HO123 := n4_
    have BK101 := n5_
    have BK102 := n6_
    have BK115 := n7_
    have BK119 := n8_
    have HB := n9_
    clear n0_ n1_ n2_ n3_ n4_ n5_ n6_ n7_ n8_ n9_
    (try clear hb)
    (try clear hb2)
    (try clear hk)
    (try clear hi)
    (try clear ho0)
    obtain ⟨Ao64, co64, eo64⟩ := Kd.Za HO123.out
    (first | subst eo64 | (injection eo64 with f1_ f2_ f3_; have f4_ := f1_.symm; have f5_ := f3_.symm; clear f1_ f2_ f3_; subst f4_; subst f5_))
    refine hK.out _ _ ⟨(zL BK115.out 0).trans rfl, (zL BK101.out 0).trans rfl⟩ (fun hHeld => ?_)
    clear hK K
    refine qz (a' := ?_) ?_ ?_
    rotate_left
    next =>
     show Act.put _ (some 37) _ = _
     simp only [Act.put, yay, yby, ycy, zT, zV]
     rfl
    refine QH (i := 3) (N := some 38) #[true, true, true, true, false] rfl rfl (by kernel_rfl) (by decide) (fun K hK => ?_)
    refine ZV Try.func12 (by kernel_rfl) rfl #[.agg #[.slice Ao48 t112.length co48], .agg #[.slice Ao64 t121.length co64]] (by rfl) rfl rfl (by (try simp only [yiy, yjy, yky]); first | done | rfl | (simp only [yly, ymy]; rfl)) ?_
    with_reducible refine (ze.calls k _ _ t112 _ _ t121 true _ ?side1 ?side2 ?side3 ?side4 A27.out).mono ?_
    (case side1 => repeat (first | exact (Kd.qI HO114.out).2.2 | (with_reducible refine Kd.zn ?_ _) | (with_reducible refine Kd.zo ?_ _) | (with_reducible refine Kd.qD ?_)))
    (case side2 => exact (Kd.qI HO114.out).2.1)
    (case side3 => repeat (first | exact (Kd.qI HO123.out).2.2 | (with_reducible refine Kd.zn ?_ _) | (with_reducible refine Kd.zo ?_ _) | (with_reducible refine Kd.qD ?_)))
    (case side4 => exact (Kd.qI HO123.out).2.1)
    rintro e w65 ⟨rfl, hb⟩
    refine ⟨_, rfl, ?_⟩
    have n0_ := zA.mk (Kd.zy (by (with_reducible repeat (first | apply Kd.zY | apply Kd.zZ | apply Kd.za)); exact HO107.out) hb)
    have n1_ := zA.mk (Kd.zy (by (with_reducible repeat (first | apply Kd.zY | apply Kd.zZ | apply Kd.za)); exact HO110.out) hb)
    have n2_ := zA.mk (Kd.zy (by (with_reducible repeat (first | apply Kd.zY | apply Kd.zZ | apply Kd.za)); exact HO114.out) hb)
    have n3_ := zA.mk (Kd.zy (by (with_reducible repeat (first | apply Kd.zY | apply Kd.zZ | apply Kd.za)); exact HO118.out) hb)
    have n4_ := zA.mk (Kd.zy (by (with_reducible repeat (first | apply Kd.zY | apply Kd.zZ | apply Kd.za)); exact HO123.out) hb)
    have n5_ := zA.mk (zJ (g := gb101) (o := .cells #[.slice A0_0 l0_0.length c0_0] 24 (0, 0)) (by (with_reducible repeat (first | refine zH ?_ _ | refine zI ?_ | refine zF ?_ _)); exact BK101.out) hb)
    have n6_ := zA.mk (zJ (g := gb102) (o := .cells #[.slice A1_0 l1_0.length c1_0] 24 (0, 0)) (by (with_reducible repeat (first | refine zH ?_ _ | refine zI ?_ | refine zF ?_ _)); exact BK102.out) hb)
    have n7_ := zA.mk (zJ (g := gb115) (o := .cells #[.slice Ao48 t112.length co48] 30 (0, 0)) (by (with_reducible repeat (first | refine zH ?_ _ | refine zI ?_ | refine zF ?_ _)); exact BK115.out) hb)
    have n8_ := zA.mk (zJ (g := gb119) (o := .cells #[.slice Ao55 t116.length co55] 30 (0, 0)) (by (with_reducible repeat (first | refine zH ?_ _ | refine zI ?_ | refine zF ?_ _)); exact BK119.out) hb)
    have n9_ := zA.mk (zN (by repeat (first | (with_reducible first | exact HB.out | apply zC | apply zB | apply zD | refine zE ?_ GE101.out | refine zE ?_ GE102.out | refine zE ?_ GE115.out | refine zE ?_ GE119.out) | exact HB.out)) hb)
    clear HO107
    clear HO110
    clear HO114
    clear HO118
    clear HO123
    clear BK101
    clear BK102
    clear BK115
    clear BK119
    clear HB
    have HO107 := n0_
    have HO110 := n1_
    have HO114 := n2_
    have HO118 := n3_
    have HO123 := n4_
    have BK101 := n5_
    have BK102 := n6_
    have BK115 := n7_
    have BK119 := n8_
    have HB := n9_
    clear n0_ n1_ n2_ n3_ n4_ n5_ n6_ n7_ n8_ n9_
    (try clear hb)
    (try clear hb2)
    (try clear hk)
    (try clear hi)
    refine hK.out _ _ ⟨(zL BK115.out 0).trans rfl, (zL BK101.out 0).trans rfl⟩ (fun hHeld => ?_)
    clear hK K
    refine qz (a' := ?_) ?_ ?_
    rotate_left
    next =>
     show Act.put _ (some 38) _ = _
     simp only [Act.put, yay, yby, ycy, zT, zV]
     rfl
    refine zh (i := 4) (N := some 39) (v := ?_) (a' := ?_) #[true, true, true, true, true] rfl rfl (by kernel_rfl) (fun _ _ _ h => h) (Or.inl ⟨by rfl, ?_⟩) ?_ ?_
    rotate_left
    next =>
     intro w'
     go_simp
     with_reducible rfl
    rotate_left
    next =>
     simp only [Act.put, yay, yby, ycy, zT, zV]
     rfl
    refine Zy (by kernel_rfl) ?_
    try go_wp2
    have n0_ := zA.mk (Kd.za HO107.out)
    have n1_ := zA.mk (Kd.za HO110.out)
    have n2_ := zA.mk (Kd.za HO114.out)
    have n3_ := zA.mk (Kd.za HO118.out)
    have n4_ := zA.mk (Kd.za HO123.out)
    have n5_ := zA.mk (zI BK101.out)
    have n6_ := zA.mk (zI BK102.out)
    have n7_ := zA.mk (zI BK115.out)
    have n8_ := zA.mk (zI BK119.out)
    have n9_ := zA.mk (zD HB.out)
    clear HO107
    clear HO110
    clear HO114
    clear HO118
    clear HO123
    clear BK101
    clear BK102
    clear BK115
    clear BK119
    clear HB
    have HO107 := n0_
    have HO110 := n1_
    have HO114 := n2_
    have HO118 := n3_
    have HO123 := n4_
    have BK101 := n5_
    have BK102 := n6_
    have BK115 := n7_
    have BK119 := n8_
    have HB := n9_
    clear n0_ n1_ n2_ n3_ n4_ n5_ n6_ n7_ n8_ n9_
    refine ZT (n := 5) (S := fun w' => w'.cell? ⟨gb119, 0, none⟩ = some (.slice Ao55 t116.length co55) ∧ w'.cell? ⟨gb102, 0, none⟩ = some (.slice A1_0 l1_0.length c1_0)) (ds := []) #[false, false, false, false, false] (by kernel_rfl) rfl rfl ⟨(zL BK119.out 0).trans rfl, (zL BK102.out 0).trans rfl⟩ (fun hHeld => ?_)
    generalize w65.drew = w66 at HO107 HO110 HO114 HO118 HO123 BK101 BK102 BK115 BK119 HB hHeld ⊢
    refine qd (i := 0) (N := some 40) (v := ?_) (a' := ?_) #[true, false, false, false, false] rfl rfl (by kernel_rfl) (fun _ _ _ h => h) (Or.inl ⟨by rfl, ?_⟩) hHeld ?_ ?_
    rotate_left
    next =>
     rintro w' ⟨s0, s1⟩
     go_simp
     with_reducible rfl
    rotate_left
    next =>
     simp only [Act.put, yay, yby, ycy, zT, zV]
     rfl
    refine qd (i := 1) (N := some 41) (v := ?_) (a' := ?_) #[true, true, false, false, false] rfl rfl (by kernel_rfl) (fun _ _ _ h => h) (Or.inl ⟨by rfl, ?_⟩) hHeld ?_ ?_
    rotate_left
    next =>
     rintro w' ⟨s0, s1⟩
     go_simp
     with_reducible rfl
    rotate_left
    next =>
     simp only [Act.put, yay, yby, ycy, zT, zV]
     rfl
    refine QH (i := 2) (N := some 42) #[true, true, true, false, false] rfl rfl (by kernel_rfl) (by decide) (fun K hK => ?_)
    refine ZV Try.func10 (by kernel_rfl) rfl #[.agg #[.slice A1_0 l1_0.length c1_0]] (by rfl) rfl rfl (by (try simp only [yiy, yjy, yky]); first | done | rfl | (simp only [yly, ymy]; rfl)) ?_
    with_reducible refine (zP.calls k _ _ l1_0 t125 _ ?side1 ?side2 A29.out).mono ?_
    (case side1 => repeat (first | exact (Kd.zw HR1_0.out HB.out) | (with_reducible refine Kd.zn ?_ _) | (with_reducible refine Kd.zo ?_ _) | (with_reducible refine Kd.qD ?_)))
    (case side2 => exact HC1_0.out)
    rintro e w67 ⟨v126, rfl, ho0, hb⟩
    refine ⟨_, rfl, ?_⟩
    have n0_ := zA.mk (Kd.qN (by (with_reducible repeat (first | apply Kd.zY | apply Kd.zZ | apply Kd.za)); exact HO107.out) (Kd.qt ho0) hb)
    have n1_ := zA.mk (Kd.qN (by (with_reducible repeat (first | apply Kd.zY | apply Kd.zZ | apply Kd.za)); exact HO110.out) (Kd.qt ho0) hb)
    have n2_ := zA.mk (Kd.qN (by (with_reducible repeat (first | apply Kd.zY | apply Kd.zZ | apply Kd.za)); exact HO114.out) (Kd.qt ho0) hb)
    have n3_ := zA.mk (Kd.qN (by (with_reducible repeat (first | apply Kd.zY | apply Kd.zZ | apply Kd.za)); exact HO118.out) (Kd.qt ho0) hb)
    have n4_ := zA.mk (Kd.qN (by (with_reducible repeat (first | apply Kd.zY | apply Kd.zZ | apply Kd.za)); exact HO123.out) (Kd.qt ho0) hb)
    have n5_ := zA.mk (Kd.ZY (Kd.qv (Kd.qv (Kd.qv (Kd.qv (Kd.qv ho0 (Kd.Ql (by (with_reducible repeat (first | apply Kd.zY | apply Kd.zZ | apply Kd.za)); exact HO107.out))) (Kd.Ql (by (with_reducible repeat (first | apply Kd.zY | apply Kd.zZ | apply Kd.za)); exact HO110.out))) (Kd.Ql (by (with_reducible repeat (first | apply Kd.zY | apply Kd.zZ | apply Kd.za)); exact HO114.out))) (Kd.Ql (by (with_reducible repeat (first | apply Kd.zY | apply Kd.zZ | apply Kd.za)); exact HO118.out))) (Kd.Ql (by (with_reducible repeat (first | apply Kd.zY | apply Kd.zZ | apply Kd.za)); exact HO123.out))) (zO (by repeat (first | (with_reducible first | exact HB.out | apply zC | apply zB | apply zD | refine zE ?_ GE101.out | refine zE ?_ GE102.out | refine zE ?_ GE115.out | refine zE ?_ GE119.out) | exact HB.out))))
    have n6_ := zA.mk (zJ (g := gb101) (o := .cells #[.slice A0_0 l0_0.length c0_0] 24 (0, 0)) (by (with_reducible repeat (first | refine zH ?_ _ | refine zI ?_ | refine zF ?_ _)); exact BK101.out) hb)
    have n7_ := zA.mk (zJ (g := gb102) (o := .cells #[.slice A1_0 l1_0.length c1_0] 24 (0, 0)) (by (with_reducible repeat (first | refine zH ?_ _ | refine zI ?_ | refine zF ?_ _)); exact BK102.out) hb)
    have n8_ := zA.mk (zJ (g := gb115) (o := .cells #[.slice Ao48 t112.length co48] 30 (0, 0)) (by (with_reducible repeat (first | refine zH ?_ _ | refine zI ?_ | refine zF ?_ _)); exact BK115.out) hb)
    have n9_ := zA.mk (zJ (g := gb119) (o := .cells #[.slice Ao55 t116.length co55] 30 (0, 0)) (by (with_reducible repeat (first | refine zH ?_ _ | refine zI ?_ | refine zF ?_ _)); exact BK119.out) hb)
    have n10_ := zA.mk (zN (by repeat (first | (with_reducible first | exact HB.out | apply zC | apply zB | apply zD | refine zE ?_ GE101.out | refine zE ?_ GE102.out | refine zE ?_ GE115.out | refine zE ?_ GE119.out) | exact HB.out)) hb)
    clear HO107
    clear HO110
    clear HO114
    clear HO118
    clear HO123
    clear BK101
    clear BK102
    clear BK115
    clear BK119
    clear HB
    have HO107 := n0_
    have HO110 := n1_
    have HO114 := n2_
    have HO118 := n3_
    have HO123 := n4_
    have HO127 := n5_
    have BK101 := n6_
    have BK102 := n7_
    have BK115 := n8_
    have BK119 := n9_
    have HB := n10_
    clear n0_ n1_ n2_ n3_ n4_ n5_ n6_ n7_ n8_ n9_ n10_
    (try clear hb)
    (try clear hb2)
    (try clear hk)
    (try clear hi)
    (try clear ho0)
    obtain ⟨Ao68, co68, eo68⟩ := Kd.Za HO127.out
    (first | subst eo68 | (injection eo68 with f1_ f2_ f3_; have f4_ := f1_.symm; have f5_ := f3_.symm; clear f1_ f2_ f3_; subst f4_; subst f5_))
    refine hK.out _ _ ⟨(zL BK119.out 0).trans rfl, (zL BK102.out 0).trans rfl⟩ (fun hHeld => ?_)
    clear hK K
    refine qz (a' := ?_) ?_ ?_
    rotate_left
    next =>
     show Act.put _ (some 42) _ = _
     simp only [Act.put, yay, yby, ycy, zT, zV]
     rfl
    refine QH (i := 3) (N := some 43) #[true, true, true, true, false] rfl rfl (by kernel_rfl) (by decide) (fun K hK => ?_)
    refine ZV Try.func12 (by kernel_rfl) rfl #[.agg #[.slice Ao55 t116.length co55], .agg #[.slice Ao68 t125.length co68]] (by rfl) rfl rfl (by (try simp only [yiy, yjy, yky]); first | done | rfl | (simp only [yly, ymy]; rfl)) ?_
    with_reducible refine (ze.calls k _ _ t116 _ _ t125 true _ ?side1 ?side2 ?side3 ?side4 A30.out).mono ?_
    (case side1 => repeat (first | exact (Kd.qI HO118.out).2.2 | (with_reducible refine Kd.zn ?_ _) | (with_reducible refine Kd.zo ?_ _) | (with_reducible refine Kd.qD ?_)))
    (case side2 => exact (Kd.qI HO118.out).2.1)
    (case side3 => repeat (first | exact (Kd.qI HO127.out).2.2 | (with_reducible refine Kd.zn ?_ _) | (with_reducible refine Kd.zo ?_ _) | (with_reducible refine Kd.qD ?_)))
    (case side4 => exact (Kd.qI HO127.out).2.1)
    rintro e w69 ⟨rfl, hb⟩
    refine ⟨_, rfl, ?_⟩
    have n0_ := zA.mk (Kd.zy (by (with_reducible repeat (first | apply Kd.zY | apply Kd.zZ | apply Kd.za)); exact HO107.out) hb)
    have n1_ := zA.mk (Kd.zy (by (with_reducible repeat (first | apply Kd.zY | apply Kd.zZ | apply Kd.za)); exact HO110.out) hb)
    have n2_ := zA.mk (Kd.zy (by (with_reducible repeat (first | apply Kd.zY | apply Kd.zZ | apply Kd.za)); exact HO114.out) hb)
    have n3_ := zA.mk (Kd.zy (by (with_reducible repeat (first | apply Kd.zY | apply Kd.zZ | apply Kd.za)); exact HO118.out) hb)
    have n4_ := zA.mk (Kd.zy (by (with_reducible repeat (first | apply Kd.zY | apply Kd.zZ | apply Kd.za)); exact HO123.out) hb)
    have n5_ := zA.mk (Kd.zy (by (with_reducible repeat (first | apply Kd.zY | apply Kd.zZ | apply Kd.za)); exact HO127.out) hb)
    have n6_ := zA.mk (zJ (g := gb101) (o := .cells #[.slice A0_0 l0_0.length c0_0] 24 (0, 0)) (by (with_reducible repeat (first | refine zH ?_ _ | refine zI ?_ | refine zF ?_ _)); exact BK101.out) hb)
    have n7_ := zA.mk (zJ (g := gb102) (o := .cells #[.slice A1_0 l1_0.length c1_0] 24 (0, 0)) (by (with_reducible repeat (first | refine zH ?_ _ | refine zI ?_ | refine zF ?_ _)); exact BK102.out) hb)
    have n8_ := zA.mk (zJ (g := gb115) (o := .cells #[.slice Ao48 t112.length co48] 30 (0, 0)) (by (with_reducible repeat (first | refine zH ?_ _ | refine zI ?_ | refine zF ?_ _)); exact BK115.out) hb)
    have n9_ := zA.mk (zJ (g := gb119) (o := .cells #[.slice Ao55 t116.length co55] 30 (0, 0)) (by (with_reducible repeat (first | refine zH ?_ _ | refine zI ?_ | refine zF ?_ _)); exact BK119.out) hb)
    have n10_ := zA.mk (zN (by repeat (first | (with_reducible first | exact HB.out | apply zC | apply zB | apply zD | refine zE ?_ GE101.out | refine zE ?_ GE102.out | refine zE ?_ GE115.out | refine zE ?_ GE119.out) | exact HB.out)) hb)
    clear HO107
    clear HO110
    clear HO114
    clear HO118
    clear HO123
    clear HO127
    clear BK101
    clear BK102
    clear BK115
    clear BK119
    clear HB
    have HO107 := n0_
    have HO110 := n1_
    have HO114 := n2_
    have HO118 := n3_
    have HO123 := n4_
    have HO127 := n5_
    have BK101 := n6_
    have BK102 := n7_
    have BK115 := n8_
    have BK119 := n9_
    have HB := n10_
    clear n0_ n1_ n2_ n3_ n4_ n5_ n6_ n7_ n8_ n9_ n10_
    (try clear hb)
    (try clear hb2)
    (try clear hk)
    (try clear hi)
    refine hK.out _ _ ⟨(zL BK119.out 0).trans rfl, (zL BK102.out 0).trans rfl⟩ (fun hHeld => ?_)
    clear hK K
    refine qz (a' := ?_) ?_ ?_
    rotate_left
    next =>
     show Act.put _ (some 43) _ = _
     simp only [Act.put, yay, yby, ycy, zT, zV]
     rfl
    refine zh (i := 4) (N := some 44) (v := ?_) (a' := ?_) #[true, true, true, true, true] rfl rfl (by kernel_rfl) (fun _ _ _ h => h) (Or.inl ⟨by rfl, ?_⟩) ?_ ?_
    rotate_left
    next =>
     intro w'
     go_simp
     with_reducible rfl
    rotate_left
    next =>
     simp only [Act.put, yay, yby, ycy, zT, zV]
     rfl
    refine Zy (by kernel_rfl) ?_
    try go_wp2
    go_ret
    exact ⟨by first | rfl | (simp [zb, zc] <;> rfl) | (simp [*, zb, zc] <;> rfl), by repeat (first | (with_reducible first | exact HB.out | apply zC | apply zB | apply zD | refine zE ?_ GE101.out | refine zE ?_ GE102.out | refine zE ?_ GE115.out | refine zE ?_ GE119.out) | exact HB.out)⟩
   next =>
    replace c31 := Bool.eq_false_iff.mpr c31
    subst c31
    have H1 : (some false) = some r := by rw [if_neg (show ¬ (false = true) by decide)] at H; exact H
    clear H
    have H := H1
    clear H1
    obtain rfl := yey H
    go_enter Try.func6, Try.ntmps6
    try go_wp2_with (first | ((with_reducible refine zq (N := 2) rfl ?_); refine zr ?hg (N := 2) ?hd (cs := #[.slice A0_0 l0_0.length c0_0]) (t := 24) ?hr ?_; (case hd => rfl); (case hg => rfl); (case hr => first | (go_simp; done) | (go_simp; rfl)); intro gb101 hg w70 hbox hb; have n0_ := zA.mk (zN (by repeat (first | (with_reducible first | exact HB.out | apply zC | apply zB | apply zD) | exact HB.out)) hb); have n1_ := zA.mk (hbox); have n2_ := zA.mk ((by rw [hg]; exact (zO (by repeat (first | (with_reducible first | exact HB.out | apply zC | apply zB | apply zD) | exact HB.out))) : w.heap.size ≤ gb101)); have n3_ := zA.mk ((by rw [hg]; exact (zO (by repeat (first | (with_reducible first | exact HB.out | apply zC | apply zB | apply zD) | exact HB.out))) : w.heap.size ≤ gb101)); clear HB; have HB := n0_; have BK101 := n1_; have GW101 := n2_; have GE101 := n3_; clear n0_ n1_ n2_ n3_; clear hb hbox hg) | ((with_reducible refine zq (N := 3) rfl ?_); refine zr ?hg (N := 3) ?hd (cs := #[.slice A1_0 l1_0.length c1_0]) (t := 24) ?hr ?_; (case hd => rfl); (case hg => rfl); (case hr => first | (go_simp; done) | (go_simp; rfl)); intro gb102 hg w71 hbox hb; have n0_ := zA.mk (zJ (g := gb101) (o := .cells #[.slice A0_0 l0_0.length c0_0] 24 (0, 0)) (by (with_reducible repeat (first | refine zH ?_ _ | refine zI ?_ | refine zF ?_ _)); exact BK101.out) hb); have n1_ := zA.mk (zN (by repeat (first | (with_reducible first | exact HB.out | apply zC | apply zB | apply zD | refine zE ?_ GE101.out) | exact HB.out)) hb); have n2_ := zA.mk (hbox); have n3_ := zA.mk ((by rw [hg]; exact (zO (by repeat (first | (with_reducible first | exact HB.out | apply zC | apply zB | apply zD | refine zE ?_ GE101.out) | exact HB.out))) : w.heap.size ≤ gb102)); have n4_ := zA.mk ((by rw [hg]; exact (zO (by repeat (first | (with_reducible first | exact HB.out | apply zC | apply zB | apply zD | refine zE ?_ GE101.out) | exact HB.out))) : w.heap.size ≤ gb102)); have n5_ := zA.mk ((by rw [hg]; exact Nat.ne_of_lt (zt (g := gb101) (o := .cells #[.slice A0_0 l0_0.length c0_0] 24 (0, 0)) (by (with_reducible repeat (first | refine zH ?_ _ | refine zI ?_ | refine zF ?_ _)); exact BK101.out)) : gb101 ≠ gb102)); have n6_ := zA.mk ((by rw [hg]; exact Nat.ne_of_gt (zt (g := gb101) (o := .cells #[.slice A0_0 l0_0.length c0_0] 24 (0, 0)) (by (with_reducible repeat (first | refine zH ?_ _ | refine zI ?_ | refine zF ?_ _)); exact BK101.out)) : gb102 ≠ gb101)); clear BK101; clear HB; have BK101 := n0_; have HB := n1_; have BK102 := n2_; have GW102 := n3_; have GE102 := n4_; have NB101_102 := n5_; have NB102_101 := n6_; clear n0_ n1_ n2_ n3_ n4_ n5_ n6_; clear hb hbox hg; have hnb72 := NB101_102.out; have hnc72 := NB102_101.out; have hcz73_0 : w71.cell? ⟨gb101, 0, none⟩ = some (.slice A0_0 l0_0.length c0_0) := (zL BK101.out 0).trans rfl; have hfz73_0 := zQ BK101.out 0) | ((with_reducible refine zf (f := 8) rfl ?_); refine qT (some 12) rfl rfl Try.func8 (by kernel_rfl) rfl #[.agg #[.slice A0_0 l0_0.length c0_0], .int .i64 1048576] rfl (by (try simp only [yiy, yjy, yky]); first | done | rfl | (simp only [yly, ymy]; rfl)) ?_; (with_reducible refine (zx.calls k _ _ l0_0 1048576 t103 _ ?side1 ?side2 A3.out).mono ?_); (case side1 => repeat (first | exact (Kd.zw HR0_0.out HB.out) | (with_reducible refine Kd.zn ?_ _) | (with_reducible refine Kd.zo ?_ _) | (with_reducible refine Kd.qD ?_))); (case side2 => exact HC0_0.out); rintro e w74 ⟨rfl, hb⟩; refine ⟨_, rfl, ?_⟩; have n0_ := zA.mk (zJ (g := gb101) (o := .cells #[.slice A0_0 l0_0.length c0_0] 24 (0, 0)) (by (with_reducible repeat (first | refine zH ?_ _ | refine zI ?_ | refine zF ?_ _)); exact BK101.out) hb); have n1_ := zA.mk (zJ (g := gb102) (o := .cells #[.slice A1_0 l1_0.length c1_0] 24 (0, 0)) (by (with_reducible repeat (first | refine zH ?_ _ | refine zI ?_ | refine zF ?_ _)); exact BK102.out) hb); have n2_ := zA.mk (zN (by repeat (first | (with_reducible first | exact HB.out | apply zC | apply zB | apply zD | refine zE ?_ GE101.out | refine zE ?_ GE102.out) | exact HB.out)) hb); clear BK101; clear BK102; clear HB; have BK101 := n0_; have BK102 := n1_; have HB := n2_; clear n0_ n1_ n2_; (try clear hb); (try clear hb2); (try clear hk); (try clear hi); have hcz75_0 : w74.cell? ⟨gb102, 0, none⟩ = some (.slice A1_0 l1_0.length c1_0) := (zL BK102.out 0).trans rfl; have hfz75_0 := zQ BK102.out 0) | ((with_reducible refine zf (f := 8) rfl ?_); refine qT (some 17) rfl rfl Try.func8 (by kernel_rfl) rfl #[.agg #[.slice A1_0 l1_0.length c1_0], .int .i64 t103] rfl (by (try simp only [yiy, yjy, yky]); first | done | rfl | (simp only [yly, ymy]; rfl)) ?_; (with_reducible refine (zx.calls k _ _ l1_0 t103 t104 _ ?side1 ?side2 A10.out).mono ?_); (case side1 => repeat (first | exact (Kd.zw HR1_0.out HB.out) | (with_reducible refine Kd.zn ?_ _) | (with_reducible refine Kd.zo ?_ _) | (with_reducible refine Kd.qD ?_))); (case side2 => exact HC1_0.out); rintro e w76 ⟨rfl, hb⟩; refine ⟨_, rfl, ?_⟩; have n0_ := zA.mk (zJ (g := gb101) (o := .cells #[.slice A0_0 l0_0.length c0_0] 24 (0, 0)) (by (with_reducible repeat (first | refine zH ?_ _ | refine zI ?_ | refine zF ?_ _)); exact BK101.out) hb); have n1_ := zA.mk (zJ (g := gb102) (o := .cells #[.slice A1_0 l1_0.length c1_0] 24 (0, 0)) (by (with_reducible repeat (first | refine zH ?_ _ | refine zI ?_ | refine zF ?_ _)); exact BK102.out) hb); have n2_ := zA.mk (zN (by repeat (first | (with_reducible first | exact HB.out | apply zC | apply zB | apply zD | refine zE ?_ GE101.out | refine zE ?_ GE102.out) | exact HB.out)) hb); clear BK101; clear BK102; clear HB; have BK101 := n0_; have BK102 := n1_; have HB := n2_; clear n0_ n1_ n2_; (try clear hb); (try clear hb2); (try clear hk); (try clear hi)))
    have n0_ := zA.mk (zI BK101.out)
    have n1_ := zA.mk (zI BK102.out)
    have n2_ := zA.mk (zD HB.out)
    clear BK101
    clear BK102
    clear HB
    have BK101 := n0_
    have BK102 := n1_
    have HB := n2_
    clear n0_ n1_ n2_
    refine ZT (n := 6) (S := fun w' => w'.cell? ⟨gb101, 0, none⟩ = some (.slice A0_0 l0_0.length c0_0) ∧ w'.cell? ⟨gb102, 0, none⟩ = some (.slice A1_0 l1_0.length c1_0)) (ds := []) #[false, false, false, false, false, false] (by kernel_rfl) rfl rfl ⟨(zL BK101.out 0).trans rfl, (zL BK102.out 0).trans rfl⟩ (fun hHeld => ?_)
    generalize w76.drew = w77 at BK101 BK102 HB hHeld ⊢
    refine qd (i := 0) (N := some 20) (v := ?_) (a' := ?_) #[true, false, false, false, false, false] rfl rfl (by kernel_rfl) (fun _ _ _ h => h) (Or.inl ⟨by rfl, ?_⟩) hHeld ?_ ?_
    rotate_left
    next =>
     rintro w' ⟨s0, s1⟩
     go_simp
     with_reducible rfl
    rotate_left
    next =>
     simp only [Act.put, yay, yby, ycy, zT, zV]
     rfl
    refine qd (i := 2) (N := some 22) (v := ?_) (a' := ?_) #[true, false, true, false, false, false] rfl rfl (by kernel_rfl) (fun _ _ _ h => h) (Or.inl ⟨by rfl, ?_⟩) hHeld ?_ ?_
    rotate_left
    next =>
     rintro w' ⟨s0, s1⟩
     go_simp
     with_reducible rfl
    rotate_left
    next =>
     simp only [Act.put, yay, yby, ycy, zT, zV]
     rfl
    refine QH (i := 1) (N := some 21) #[true, true, true, false, false, false] rfl rfl (by kernel_rfl) (by decide) (fun K hK => ?_)
    refine ZV Try.func10 (by kernel_rfl) rfl #[.agg #[.slice A0_0 l0_0.length c0_0]] (by rfl) rfl rfl (by (try simp only [yiy, yjy, yky]); first | done | rfl | (simp only [yly, ymy]; rfl)) ?_
    with_reducible refine (zP.calls k _ _ l0_0 t105 _ ?side1 ?side2 A19.out).mono ?_
    (case side1 => repeat (first | exact (Kd.zw HR0_0.out HB.out) | (with_reducible refine Kd.zn ?_ _) | (with_reducible refine Kd.zo ?_ _) | (with_reducible refine Kd.qD ?_)))
    (case side2 => exact HC0_0.out)
    rintro e w78 ⟨v106, rfl, ho0, hb⟩
    refine ⟨_, rfl, ?_⟩
    have n0_ := zA.mk (Kd.ZY ho0 (zO (by repeat (first | (with_reducible first | exact HB.out | apply zC | apply zB | apply zD | refine zE ?_ GE101.out | refine zE ?_ GE102.out) | exact HB.out))))
    have n1_ := zA.mk (zJ (g := gb101) (o := .cells #[.slice A0_0 l0_0.length c0_0] 24 (0, 0)) (by (with_reducible repeat (first | refine zH ?_ _ | refine zI ?_ | refine zF ?_ _)); exact BK101.out) hb)
    have n2_ := zA.mk (zJ (g := gb102) (o := .cells #[.slice A1_0 l1_0.length c1_0] 24 (0, 0)) (by (with_reducible repeat (first | refine zH ?_ _ | refine zI ?_ | refine zF ?_ _)); exact BK102.out) hb)
    have n3_ := zA.mk (zN (by repeat (first | (with_reducible first | exact HB.out | apply zC | apply zB | apply zD | refine zE ?_ GE101.out | refine zE ?_ GE102.out) | exact HB.out)) hb)
    clear BK101
    clear BK102
    clear HB
    have HO107 := n0_
    have BK101 := n1_
    have BK102 := n2_
    have HB := n3_
    clear n0_ n1_ n2_ n3_
    (try clear hb)
    (try clear hb2)
    (try clear hk)
    (try clear hi)
    (try clear ho0)
    refine hK.out _ _ ⟨(zL BK101.out 0).trans rfl, (zL BK102.out 0).trans rfl⟩ (fun hHeld => ?_)
    clear hK K
    refine qz (a' := ?_) ?_ ?_
    rotate_left
    next =>
     show Act.put _ (some 21) _ = _
     simp only [Act.put, yay, yby, ycy, zT, zV]
     rfl
    refine QH (i := 3) (N := some 23) #[true, true, true, true, false, false] rfl rfl (by kernel_rfl) (by decide) (fun K hK => ?_)
    refine ZV Try.func10 (by kernel_rfl) rfl #[.agg #[.slice A1_0 l1_0.length c1_0]] (by rfl) rfl rfl (by (try simp only [yiy, yjy, yky]); first | done | rfl | (simp only [yly, ymy]; rfl)) ?_
    with_reducible refine (zP.calls k _ _ l1_0 t108 _ ?side1 ?side2 A20.out).mono ?_
    (case side1 => repeat (first | exact (Kd.zw HR1_0.out HB.out) | (with_reducible refine Kd.zn ?_ _) | (with_reducible refine Kd.zo ?_ _) | (with_reducible refine Kd.qD ?_)))
    (case side2 => exact HC1_0.out)
    rintro e w79 ⟨v109, rfl, ho0, hb⟩
    refine ⟨_, rfl, ?_⟩
    have n0_ := zA.mk (Kd.qN (by (with_reducible repeat (first | apply Kd.zY | apply Kd.zZ | apply Kd.za)); exact HO107.out) (Kd.qt ho0) hb)
    have n1_ := zA.mk (Kd.ZY (Kd.qv ho0 (Kd.Ql (by (with_reducible repeat (first | apply Kd.zY | apply Kd.zZ | apply Kd.za)); exact HO107.out))) (zO (by repeat (first | (with_reducible first | exact HB.out | apply zC | apply zB | apply zD | refine zE ?_ GE101.out | refine zE ?_ GE102.out) | exact HB.out))))
    have n2_ := zA.mk (zJ (g := gb101) (o := .cells #[.slice A0_0 l0_0.length c0_0] 24 (0, 0)) (by (with_reducible repeat (first | refine zH ?_ _ | refine zI ?_ | refine zF ?_ _)); exact BK101.out) hb)
    have n3_ := zA.mk (zJ (g := gb102) (o := .cells #[.slice A1_0 l1_0.length c1_0] 24 (0, 0)) (by (with_reducible repeat (first | refine zH ?_ _ | refine zI ?_ | refine zF ?_ _)); exact BK102.out) hb)
    have n4_ := zA.mk (zN (by repeat (first | (with_reducible first | exact HB.out | apply zC | apply zB | apply zD | refine zE ?_ GE101.out | refine zE ?_ GE102.out) | exact HB.out)) hb)
    clear HO107
    clear BK101
    clear BK102
    clear HB
    have HO107 := n0_
    have HO110 := n1_
    have BK101 := n2_
    have BK102 := n3_
    have HB := n4_
    clear n0_ n1_ n2_ n3_ n4_
    (try clear hb)
    (try clear hb2)
    (try clear hk)
    (try clear hi)
    (try clear ho0)
    obtain ⟨Ao80, co80, eo80⟩ := Kd.Za HO107.out
    (first | subst eo80 | (injection eo80 with f1_ f2_ f3_; have f4_ := f1_.symm; have f5_ := f3_.symm; clear f1_ f2_ f3_; subst f4_; subst f5_))
    obtain ⟨Ao81, co81, eo81⟩ := Kd.Za HO110.out
    (first | subst eo81 | (injection eo81 with f1_ f2_ f3_; have f4_ := f1_.symm; have f5_ := f3_.symm; clear f1_ f2_ f3_; subst f4_; subst f5_))
    refine hK.out _ _ ⟨(zL BK101.out 0).trans rfl, (zL BK102.out 0).trans rfl⟩ (fun hHeld => ?_)
    clear hK K
    refine qz (a' := ?_) ?_ ?_
    rotate_left
    next =>
     show Act.put _ (some 23) _ = _
     simp only [Act.put, yay, yby, ycy, zT, zV]
     rfl
    refine QH (i := 4) (N := some 24) #[true, true, true, true, true, false] rfl rfl (by kernel_rfl) (by decide) (fun K hK => ?_)
    refine ZV Try.func22 (by kernel_rfl) rfl #[.agg #[.slice Ao80 t105.length co80], .agg #[.slice Ao81 t108.length co81]] (by rfl) rfl rfl (by (try simp only [yiy, yjy, yky]); first | done | rfl | (simp only [yly, ymy]; rfl)) ?_
    with_reducible refine (qL.calls k _ _ t105 _ _ t108 t111 _ ?side1 ?side2 ?side3 ?side4 A21.out).mono ?_
    (case side1 => repeat (first | exact (Kd.qI HO107.out).2.2 | (with_reducible refine Kd.zn ?_ _) | (with_reducible refine Kd.zo ?_ _) | (with_reducible refine Kd.qD ?_)))
    (case side2 => exact (Kd.qI HO107.out).2.1)
    (case side3 => repeat (first | exact (Kd.qI HO110.out).2.2 | (with_reducible refine Kd.zn ?_ _) | (with_reducible refine Kd.zo ?_ _) | (with_reducible refine Kd.qD ?_)))
    (case side4 => exact (Kd.qI HO110.out).2.1)
    rintro e w82 ⟨rfl, hb⟩
    refine ⟨_, rfl, ?_⟩
    have n0_ := zA.mk (Kd.zy (by (with_reducible repeat (first | apply Kd.zY | apply Kd.zZ | apply Kd.za)); exact HO107.out) hb)
    have n1_ := zA.mk (Kd.zy (by (with_reducible repeat (first | apply Kd.zY | apply Kd.zZ | apply Kd.za)); exact HO110.out) hb)
    have n2_ := zA.mk (zJ (g := gb101) (o := .cells #[.slice A0_0 l0_0.length c0_0] 24 (0, 0)) (by (with_reducible repeat (first | refine zH ?_ _ | refine zI ?_ | refine zF ?_ _)); exact BK101.out) hb)
    have n3_ := zA.mk (zJ (g := gb102) (o := .cells #[.slice A1_0 l1_0.length c1_0] 24 (0, 0)) (by (with_reducible repeat (first | refine zH ?_ _ | refine zI ?_ | refine zF ?_ _)); exact BK102.out) hb)
    have n4_ := zA.mk (zN (by repeat (first | (with_reducible first | exact HB.out | apply zC | apply zB | apply zD | refine zE ?_ GE101.out | refine zE ?_ GE102.out) | exact HB.out)) hb)
    clear HO107
    clear HO110
    clear BK101
    clear BK102
    clear HB
    have HO107 := n0_
    have HO110 := n1_
    have BK101 := n2_
    have BK102 := n3_
    have HB := n4_
    clear n0_ n1_ n2_ n3_ n4_
    (try clear hb)
    (try clear hb2)
    (try clear hk)
    (try clear hi)
    refine hK.out _ _ ⟨(zL BK101.out 0).trans rfl, (zL BK102.out 0).trans rfl⟩ (fun hHeld => ?_)
    clear hK K
    refine qz (a' := ?_) ?_ ?_
    rotate_left
    next =>
     show Act.put _ (some 24) _ = _
     simp only [Act.put, yay, yby, ycy, zT, zV]
     rfl
    refine zh (i := 5) (N := some 6) (v := ?_) (a' := ?_) #[true, true, true, true, true, true] rfl rfl (by kernel_rfl) (fun _ _ _ h => h) (Or.inl ⟨by rfl, ?_⟩) ?_ ?_
    rotate_left
    next =>
     intro w'
     go_simp
     with_reducible rfl
    rotate_left
    next =>
     simp only [Act.put, yay, yby, ycy, zT, zV]
     rfl
    refine Zy (by kernel_rfl) ?_
    have hcz83_0 : w82.cell? ⟨gb101, 0, none⟩ = some (.slice A0_0 l0_0.length c0_0) := (zL BK101.out 0).trans rfl
    have hfz83_0 := zQ BK101.out 0
    try go_wp2_with (first | ((with_reducible refine zf (f := 10) rfl ?_); refine qT (some 26) rfl rfl Try.func10 (by kernel_rfl) rfl #[.agg #[.slice A0_0 l0_0.length c0_0]] rfl (by (try simp only [yiy, yjy, yky]); first | done | rfl | (simp only [yly, ymy]; rfl)) ?_; (with_reducible refine (zP.calls k _ _ l0_0 t112 _ ?side1 ?side2 A22.out).mono ?_); (case side1 => repeat (first | exact (Kd.zw HR0_0.out HB.out) | (with_reducible refine Kd.zn ?_ _) | (with_reducible refine Kd.zo ?_ _) | (with_reducible refine Kd.qD ?_))); (case side2 => exact HC0_0.out); rintro e w84 ⟨v113, rfl, ho0, hb⟩; refine ⟨_, rfl, ?_⟩; have n0_ := zA.mk (Kd.qN (by (with_reducible repeat (first | apply Kd.zY | apply Kd.zZ | apply Kd.za)); exact HO107.out) (Kd.qt ho0) hb); have n1_ := zA.mk (Kd.qN (by (with_reducible repeat (first | apply Kd.zY | apply Kd.zZ | apply Kd.za)); exact HO110.out) (Kd.qt ho0) hb); have n2_ := zA.mk (Kd.ZY (Kd.qv (Kd.qv ho0 (Kd.Ql (by (with_reducible repeat (first | apply Kd.zY | apply Kd.zZ | apply Kd.za)); exact HO107.out))) (Kd.Ql (by (with_reducible repeat (first | apply Kd.zY | apply Kd.zZ | apply Kd.za)); exact HO110.out))) (zO (by repeat (first | (with_reducible first | exact HB.out | apply zC | apply zB | apply zD | refine zE ?_ GE101.out | refine zE ?_ GE102.out) | exact HB.out)))); have n3_ := zA.mk (zJ (g := gb101) (o := .cells #[.slice A0_0 l0_0.length c0_0] 24 (0, 0)) (by (with_reducible repeat (first | refine zH ?_ _ | refine zI ?_ | refine zF ?_ _)); exact BK101.out) hb); have n4_ := zA.mk (zJ (g := gb102) (o := .cells #[.slice A1_0 l1_0.length c1_0] 24 (0, 0)) (by (with_reducible repeat (first | refine zH ?_ _ | refine zI ?_ | refine zF ?_ _)); exact BK102.out) hb); have n5_ := zA.mk (zN (by repeat (first | (with_reducible first | exact HB.out | apply zC | apply zB | apply zD | refine zE ?_ GE101.out | refine zE ?_ GE102.out) | exact HB.out)) hb); clear HO107; clear HO110; clear BK101; clear BK102; clear HB; have HO107 := n0_; have HO110 := n1_; have HO114 := n2_; have BK101 := n3_; have BK102 := n4_; have HB := n5_; clear n0_ n1_ n2_ n3_ n4_ n5_; (try clear hb); (try clear hb2); (try clear hk); (try clear hi); (try clear ho0)) | ((with_reducible refine zq (N := 7) rfl ?_); refine zr ?hg (N := 7) ?hd (cs := #[.slice none 0 0]) (t := 30) ?hr ?_; (case hd => rfl); (case hg => rfl); (case hr => first | (go_simp; done) | (go_simp; rfl)); intro gb115 hg w85 hbox hb; have n0_ := zA.mk (Kd.zy (by (with_reducible repeat (first | apply Kd.zY | apply Kd.zZ | apply Kd.za)); exact HO107.out) hb); have n1_ := zA.mk (Kd.zy (by (with_reducible repeat (first | apply Kd.zY | apply Kd.zZ | apply Kd.za)); exact HO110.out) hb); have n2_ := zA.mk (Kd.zy (by (with_reducible repeat (first | apply Kd.zY | apply Kd.zZ | apply Kd.za)); exact HO114.out) hb); have n3_ := zA.mk (zJ (g := gb101) (o := .cells #[.slice A0_0 l0_0.length c0_0] 24 (0, 0)) (by (with_reducible repeat (first | refine zH ?_ _ | refine zI ?_ | refine zF ?_ _)); exact BK101.out) hb); have n4_ := zA.mk (zJ (g := gb102) (o := .cells #[.slice A1_0 l1_0.length c1_0] 24 (0, 0)) (by (with_reducible repeat (first | refine zH ?_ _ | refine zI ?_ | refine zF ?_ _)); exact BK102.out) hb); have n5_ := zA.mk (zN (by repeat (first | (with_reducible first | exact HB.out | apply zC | apply zB | apply zD | refine zE ?_ GE101.out | refine zE ?_ GE102.out) | exact HB.out)) hb); have n6_ := zA.mk (hbox); have n7_ := zA.mk ((by rw [hg]; exact (zO (by repeat (first | (with_reducible first | exact HB.out | apply zC | apply zB | apply zD | refine zE ?_ GE101.out | refine zE ?_ GE102.out) | exact HB.out))) : w.heap.size ≤ gb115)); have n8_ := zA.mk ((by rw [hg]; exact (zO (by repeat (first | (with_reducible first | exact HB.out | apply zC | apply zB | apply zD | refine zE ?_ GE101.out | refine zE ?_ GE102.out) | exact HB.out))) : w.heap.size ≤ gb115)); have n9_ := zA.mk ((by rw [hg]; exact Nat.ne_of_lt (zt (g := gb101) (o := .cells #[.slice A0_0 l0_0.length c0_0] 24 (0, 0)) (by (with_reducible repeat (first | refine zH ?_ _ | refine zI ?_ | refine zF ?_ _)); exact BK101.out)) : gb101 ≠ gb115)); have n10_ := zA.mk ((by rw [hg]; exact Nat.ne_of_gt (zt (g := gb101) (o := .cells #[.slice A0_0 l0_0.length c0_0] 24 (0, 0)) (by (with_reducible repeat (first | refine zH ?_ _ | refine zI ?_ | refine zF ?_ _)); exact BK101.out)) : gb115 ≠ gb101)); have n11_ := zA.mk ((by rw [hg]; exact Nat.ne_of_lt (zt (g := gb102) (o := .cells #[.slice A1_0 l1_0.length c1_0] 24 (0, 0)) (by (with_reducible repeat (first | refine zH ?_ _ | refine zI ?_ | refine zF ?_ _)); exact BK102.out)) : gb102 ≠ gb115)); have n12_ := zA.mk ((by rw [hg]; exact Nat.ne_of_gt (zt (g := gb102) (o := .cells #[.slice A1_0 l1_0.length c1_0] 24 (0, 0)) (by (with_reducible repeat (first | refine zH ?_ _ | refine zI ?_ | refine zF ?_ _)); exact BK102.out)) : gb115 ≠ gb102)); clear HO107; clear HO110; clear HO114; clear BK101; clear BK102; clear HB; have HO107 := n0_; have HO110 := n1_; have HO114 := n2_; have BK101 := n3_; have BK102 := n4_; have HB := n5_; have BK115 := n6_; have GW115 := n7_; have GE115 := n8_; have NB101_115 := n9_; have NB115_101 := n10_; have NB102_115 := n11_; have NB115_102 := n12_; clear n0_ n1_ n2_ n3_ n4_ n5_ n6_ n7_ n8_ n9_ n10_ n11_ n12_; clear hb hbox hg; obtain ⟨Ao86, co86, eo86⟩ := Kd.Za HO114.out; subst eo86; have hnb87 := NB115_101.out; have hnc87 := NB101_115.out; have hnb88 := NB115_102.out; have hnc88 := NB102_115.out; have hcz89_0 : w85.cell? ⟨gb115, 0, none⟩ = some (.slice none 0 0) := (zL BK115.out 0).trans rfl; have hfz89_0 := zQ BK115.out 0; have hcz90_0 : w85.cell? ⟨gb102, 0, none⟩ = some (.slice A1_0 l1_0.length c1_0) := (zL BK102.out 0).trans rfl; have hfz90_0 := zQ BK102.out 0) | ((with_reducible refine zf (f := 10) rfl ?_); refine qT (some 28) rfl rfl Try.func10 (by kernel_rfl) rfl #[.agg #[.slice A1_0 l1_0.length c1_0]] rfl (by (try simp only [yiy, yjy, yky]); first | done | rfl | (simp only [yly, ymy]; rfl)) ?_; (with_reducible refine (zP.calls k _ _ l1_0 t116 _ ?side1 ?side2 A23.out).mono ?_); (case side1 => exact Kd.zw HR1_0.out (by repeat (first | (with_reducible first | exact HB.out | apply zC | apply zB | apply zD | refine zE ?_ GE101.out | refine zE ?_ GE102.out | refine zE ?_ GE115.out) | exact HB.out))); (case side2 => exact HC1_0.out); rintro e w91 ⟨v117, rfl, ho0, hb⟩; refine ⟨_, rfl, ?_⟩; have n0_ := zA.mk (Kd.qN (by (with_reducible repeat (first | apply Kd.zY | apply Kd.zZ | apply Kd.za)); exact (Kd.qj (Kd.ZU (p := ⟨gb115, 0, none⟩) (Kd.qU HO107.out BK115.out (by decide)) (fun _ hk => hk.2) (.slice Ao86 t112.length co86)) (fun _ h_ => h_.1))) (Kd.qt ho0) hb); have n1_ := zA.mk (Kd.qN (by (with_reducible repeat (first | apply Kd.zY | apply Kd.zZ | apply Kd.za)); exact (Kd.qj (Kd.ZU (p := ⟨gb115, 0, none⟩) (Kd.qU HO110.out BK115.out (by decide)) (fun _ hk => hk.2) (.slice Ao86 t112.length co86)) (fun _ h_ => h_.1))) (Kd.qt ho0) hb); have n2_ := zA.mk (Kd.qN (by (with_reducible repeat (first | apply Kd.zY | apply Kd.zZ | apply Kd.za)); exact (Kd.qj (Kd.ZU (p := ⟨gb115, 0, none⟩) (Kd.qU HO114.out BK115.out (by decide)) (fun _ hk => hk.2) (.slice Ao86 t112.length co86)) (fun _ h_ => h_.1))) (Kd.qt ho0) hb); have n3_ := zA.mk (Kd.ZY (Kd.qv (Kd.qv (Kd.qv ho0 (Kd.Ql (by (with_reducible repeat (first | apply Kd.zY | apply Kd.zZ | apply Kd.za)); exact (Kd.qj (Kd.ZU (p := ⟨gb115, 0, none⟩) (Kd.qU HO107.out BK115.out (by decide)) (fun _ hk => hk.2) (.slice Ao86 t112.length co86)) (fun _ h_ => h_.1))))) (Kd.Ql (by (with_reducible repeat (first | apply Kd.zY | apply Kd.zZ | apply Kd.za)); exact (Kd.qj (Kd.ZU (p := ⟨gb115, 0, none⟩) (Kd.qU HO110.out BK115.out (by decide)) (fun _ hk => hk.2) (.slice Ao86 t112.length co86)) (fun _ h_ => h_.1))))) (Kd.Ql (by (with_reducible repeat (first | apply Kd.zY | apply Kd.zZ | apply Kd.za)); exact (Kd.qj (Kd.ZU (p := ⟨gb115, 0, none⟩) (Kd.qU HO114.out BK115.out (by decide)) (fun _ hk => hk.2) (.slice Ao86 t112.length co86)) (fun _ h_ => h_.1))))) (zO (by repeat (first | (with_reducible first | exact HB.out | apply zC | apply zB | apply zD | refine zE ?_ GE101.out | refine zE ?_ GE102.out | refine zE ?_ GE115.out) | exact HB.out)))); have n4_ := zA.mk (zJ (g := gb101) (o := .cells #[.slice A0_0 l0_0.length c0_0] 24 (0, 0)) (by (with_reducible repeat (first | refine zH ?_ _ | refine zI ?_ | refine zF ?_ _)); refine qK ?_ NB101_115.out _; (with_reducible repeat (first | refine zH ?_ _ | refine zI ?_ | refine zF ?_ _)); exact BK101.out) hb); have n5_ := zA.mk (zJ (g := gb102) (o := .cells #[.slice A1_0 l1_0.length c1_0] 24 (0, 0)) (by (with_reducible repeat (first | refine zH ?_ _ | refine zI ?_ | refine zF ?_ _)); refine qK ?_ NB102_115.out _; (with_reducible repeat (first | refine zH ?_ _ | refine zI ?_ | refine zF ?_ _)); exact BK102.out) hb); have n6_ := zA.mk (zJ (g := gb115) (o := .cells #[.slice Ao86 t112.length co86] 30 (0, 0)) (by (with_reducible repeat (first | refine zH ?_ _ | refine zI ?_ | refine zF ?_ _)); refine qc (cs := #[.slice none 0 0]) ?_ 0 _ rfl; (with_reducible repeat (first | refine zH ?_ _ | refine zI ?_ | refine zF ?_ _)); exact BK115.out) hb); have n7_ := zA.mk (zN (by repeat (first | (with_reducible first | exact HB.out | apply zC | apply zB | apply zD | refine zE ?_ GE101.out | refine zE ?_ GE102.out | refine zE ?_ GE115.out) | exact HB.out)) hb); clear HO107; clear HO110; clear HO114; clear BK101; clear BK102; clear BK115; clear HB; have HO107 := n0_; have HO110 := n1_; have HO114 := n2_; have HO118 := n3_; have BK101 := n4_; have BK102 := n5_; have BK115 := n6_; have HB := n7_; clear n0_ n1_ n2_ n3_ n4_ n5_ n6_ n7_; (try clear hb); (try clear hb2); (try clear hk); (try clear hi); (try clear ho0)) | ((with_reducible refine zq (N := 8) rfl ?_); refine zr ?hg (N := 8) ?hd (cs := #[.slice none 0 0]) (t := 30) ?hr ?_; (case hd => rfl); (case hg => rfl); (case hr => first | (go_simp; done) | (go_simp; rfl)); intro gb119 hg w92 hbox hb; have n0_ := zA.mk (Kd.zy (by (with_reducible repeat (first | apply Kd.zY | apply Kd.zZ | apply Kd.za)); exact HO107.out) hb); have n1_ := zA.mk (Kd.zy (by (with_reducible repeat (first | apply Kd.zY | apply Kd.zZ | apply Kd.za)); exact HO110.out) hb); have n2_ := zA.mk (Kd.zy (by (with_reducible repeat (first | apply Kd.zY | apply Kd.zZ | apply Kd.za)); exact HO114.out) hb); have n3_ := zA.mk (Kd.zy (by (with_reducible repeat (first | apply Kd.zY | apply Kd.zZ | apply Kd.za)); exact HO118.out) hb); have n4_ := zA.mk (zJ (g := gb101) (o := .cells #[.slice A0_0 l0_0.length c0_0] 24 (0, 0)) (by (with_reducible repeat (first | refine zH ?_ _ | refine zI ?_ | refine zF ?_ _)); exact BK101.out) hb); have n5_ := zA.mk (zJ (g := gb102) (o := .cells #[.slice A1_0 l1_0.length c1_0] 24 (0, 0)) (by (with_reducible repeat (first | refine zH ?_ _ | refine zI ?_ | refine zF ?_ _)); exact BK102.out) hb); have n6_ := zA.mk (zJ (g := gb115) (o := .cells #[.slice Ao86 t112.length co86] 30 (0, 0)) (by (with_reducible repeat (first | refine zH ?_ _ | refine zI ?_ | refine zF ?_ _)); exact BK115.out) hb); have n7_ := zA.mk (zN (by repeat (first | (with_reducible first | exact HB.out | apply zC | apply zB | apply zD | refine zE ?_ GE101.out | refine zE ?_ GE102.out | refine zE ?_ GE115.out) | exact HB.out)) hb); have n8_ := zA.mk (hbox); have n9_ := zA.mk ((by rw [hg]; exact (zO (by repeat (first | (with_reducible first | exact HB.out | apply zC | apply zB | apply zD | refine zE ?_ GE101.out | refine zE ?_ GE102.out | refine zE ?_ GE115.out) | exact HB.out))) : w.heap.size ≤ gb119)); have n10_ := zA.mk ((by rw [hg]; exact (zO (by repeat (first | (with_reducible first | exact HB.out | apply zC | apply zB | apply zD | refine zE ?_ GE101.out | refine zE ?_ GE102.out | refine zE ?_ GE115.out) | exact HB.out))) : w.heap.size ≤ gb119)); have n11_ := zA.mk ((by rw [hg]; exact Nat.ne_of_lt (zt (g := gb101) (o := .cells #[.slice A0_0 l0_0.length c0_0] 24 (0, 0)) (by (with_reducible repeat (first | refine zH ?_ _ | refine zI ?_ | refine zF ?_ _)); exact BK101.out)) : gb101 ≠ gb119)); have n12_ := zA.mk ((by rw [hg]; exact Nat.ne_of_gt (zt (g := gb101) (o := .cells #[.slice A0_0 l0_0.length c0_0] 24 (0, 0)) (by (with_reducible repeat (first | refine zH ?_ _ | refine zI ?_ | refine zF ?_ _)); exact BK101.out)) : gb119 ≠ gb101)); have n13_ := zA.mk ((by rw [hg]; exact Nat.ne_of_lt (zt (g := gb102) (o := .cells #[.slice A1_0 l1_0.length c1_0] 24 (0, 0)) (by (with_reducible repeat (first | refine zH ?_ _ | refine zI ?_ | refine zF ?_ _)); exact BK102.out)) : gb102 ≠ gb119)); have n14_ := zA.mk ((by rw [hg]; exact Nat.ne_of_gt (zt (g := gb102) (o := .cells #[.slice A1_0 l1_0.length c1_0] 24 (0, 0)) (by (with_reducible repeat (first | refine zH ?_ _ | refine zI ?_ | refine zF ?_ _)); exact BK102.out)) : gb119 ≠ gb102)); have n15_ := zA.mk ((by rw [hg]; exact Nat.ne_of_lt (zt (g := gb115) (o := .cells #[.slice Ao86 t112.length co86] 30 (0, 0)) (by (with_reducible repeat (first | refine zH ?_ _ | refine zI ?_ | refine zF ?_ _)); exact BK115.out)) : gb115 ≠ gb119)); have n16_ := zA.mk ((by rw [hg]; exact Nat.ne_of_gt (zt (g := gb115) (o := .cells #[.slice Ao86 t112.length co86] 30 (0, 0)) (by (with_reducible repeat (first | refine zH ?_ _ | refine zI ?_ | refine zF ?_ _)); exact BK115.out)) : gb119 ≠ gb115)); clear HO107; clear HO110; clear HO114; clear HO118; clear BK101; clear BK102; clear BK115; clear HB; have HO107 := n0_; have HO110 := n1_; have HO114 := n2_; have HO118 := n3_; have BK101 := n4_; have BK102 := n5_; have BK115 := n6_; have HB := n7_; have BK119 := n8_; have GW119 := n9_; have GE119 := n10_; have NB101_119 := n11_; have NB119_101 := n12_; have NB102_119 := n13_; have NB119_102 := n14_; have NB115_119 := n15_; have NB119_115 := n16_; clear n0_ n1_ n2_ n3_ n4_ n5_ n6_ n7_ n8_ n9_ n10_ n11_ n12_ n13_ n14_ n15_ n16_; clear hb hbox hg; obtain ⟨Ao93, co93, eo93⟩ := Kd.Za HO118.out; subst eo93; have hnb94 := NB119_101.out; have hnc94 := NB101_119.out; have hnb95 := NB119_102.out; have hnc95 := NB102_119.out; have hnb96 := NB119_115.out; have hnc96 := NB115_119.out; have hcz97_0 : w92.cell? ⟨gb119, 0, none⟩ = some (.slice none 0 0) := (zL BK119.out 0).trans rfl; have hfz97_0 := zQ BK119.out 0; have hcz98_0 : w92.cell? ⟨gb115, 0, none⟩ = some (.slice Ao86 t112.length co86) := (zL BK115.out 0).trans rfl; have hfz98_0 := zQ BK115.out 0) | ((with_reducible refine zf (f := 23) rfl ?_); refine qT (some 31) rfl rfl Try.func23 (by kernel_rfl) rfl #[.agg #[.slice Ao86 t112.length co86], .agg #[.slice Ao93 t116.length co93]] rfl (by (try simp only [yiy, yjy, yky]); first | done | rfl | (simp only [yly, ymy]; rfl)) ?_; (with_reducible refine (qC.calls k _ _ t112 _ _ t116 t120 _ ?side1 ?side2 ?side3 ?side4 A24.out).mono ?_); (case side1 => refine (Kd.qI (e := 60) (base := w.heap.size) (ok := fun k_ => (((True ∧ some k_ ≠ (.slice Ao80 t105.length co80 : Value).ownBlock) ∧ some k_ ≠ (.slice Ao81 t108.length co81 : Value).ownBlock) ∧ some k_ ≠ (.slice Ao93 t116.length co93 : Value).ownBlock)) (n := t112.length) (c := co86) ?_).2.2; exact (by (with_reducible repeat (first | apply Kd.zY | apply Kd.zZ | apply Kd.za)); exact (Kd.qj (Kd.ZU (p := ⟨gb119, 0, none⟩) (Kd.qU HO114.out BK119.out (by decide)) (fun _ hk => hk.2) (.slice Ao93 t116.length co93)) (fun _ h_ => h_.1)))); (case side2 => exact (Kd.qI HO114.out).2.1); (case side3 => refine (Kd.qI (e := 60) (base := w.heap.size) (ok := fun k_ => (((True ∧ some k_ ≠ (.slice Ao80 t105.length co80 : Value).ownBlock) ∧ some k_ ≠ (.slice Ao81 t108.length co81 : Value).ownBlock) ∧ some k_ ≠ (.slice Ao86 t112.length co86 : Value).ownBlock)) (n := t116.length) (c := co93) ?_).2.2; exact (by (with_reducible repeat (first | apply Kd.zY | apply Kd.zZ | apply Kd.za)); exact (Kd.qj (Kd.ZU (p := ⟨gb119, 0, none⟩) (Kd.qU HO118.out BK119.out (by decide)) (fun _ hk => hk.2) (.slice Ao93 t116.length co93)) (fun _ h_ => h_.1)))); (case side4 => exact (Kd.qI HO118.out).2.1); rintro e w99 ⟨rfl, hb⟩; refine ⟨_, rfl, ?_⟩; have n0_ := zA.mk (Kd.zy (by (with_reducible repeat (first | apply Kd.zY | apply Kd.zZ | apply Kd.za)); exact (Kd.qj (Kd.ZU (p := ⟨gb119, 0, none⟩) (Kd.qU HO107.out BK119.out (by decide)) (fun _ hk => hk.2) (.slice Ao93 t116.length co93)) (fun _ h_ => h_.1))) hb); have n1_ := zA.mk (Kd.zy (by (with_reducible repeat (first | apply Kd.zY | apply Kd.zZ | apply Kd.za)); exact (Kd.qj (Kd.ZU (p := ⟨gb119, 0, none⟩) (Kd.qU HO110.out BK119.out (by decide)) (fun _ hk => hk.2) (.slice Ao93 t116.length co93)) (fun _ h_ => h_.1))) hb); have n2_ := zA.mk (Kd.zy (by (with_reducible repeat (first | apply Kd.zY | apply Kd.zZ | apply Kd.za)); exact (Kd.qj (Kd.ZU (p := ⟨gb119, 0, none⟩) (Kd.qU HO114.out BK119.out (by decide)) (fun _ hk => hk.2) (.slice Ao93 t116.length co93)) (fun _ h_ => h_.1))) hb); have n3_ := zA.mk (Kd.zy (by (with_reducible repeat (first | apply Kd.zY | apply Kd.zZ | apply Kd.za)); exact (Kd.qj (Kd.ZU (p := ⟨gb119, 0, none⟩) (Kd.qU HO118.out BK119.out (by decide)) (fun _ hk => hk.2) (.slice Ao93 t116.length co93)) (fun _ h_ => h_.1))) hb); have n4_ := zA.mk (zJ (g := gb101) (o := .cells #[.slice A0_0 l0_0.length c0_0] 24 (0, 0)) (by (with_reducible repeat (first | refine zH ?_ _ | refine zI ?_ | refine zF ?_ _)); refine qK ?_ NB101_119.out _; (with_reducible repeat (first | refine zH ?_ _ | refine zI ?_ | refine zF ?_ _)); exact BK101.out) hb); have n5_ := zA.mk (zJ (g := gb102) (o := .cells #[.slice A1_0 l1_0.length c1_0] 24 (0, 0)) (by (with_reducible repeat (first | refine zH ?_ _ | refine zI ?_ | refine zF ?_ _)); refine qK ?_ NB102_119.out _; (with_reducible repeat (first | refine zH ?_ _ | refine zI ?_ | refine zF ?_ _)); exact BK102.out) hb); have n6_ := zA.mk (zJ (g := gb115) (o := .cells #[.slice Ao86 t112.length co86] 30 (0, 0)) (by (with_reducible repeat (first | refine zH ?_ _ | refine zI ?_ | refine zF ?_ _)); refine qK ?_ NB115_119.out _; (with_reducible repeat (first | refine zH ?_ _ | refine zI ?_ | refine zF ?_ _)); exact BK115.out) hb); have n7_ := zA.mk (zJ (g := gb119) (o := .cells #[.slice Ao93 t116.length co93] 30 (0, 0)) (by (with_reducible repeat (first | refine zH ?_ _ | refine zI ?_ | refine zF ?_ _)); refine qc (cs := #[.slice none 0 0]) ?_ 0 _ rfl; (with_reducible repeat (first | refine zH ?_ _ | refine zI ?_ | refine zF ?_ _)); exact BK119.out) hb); have n8_ := zA.mk (zN (by repeat (first | (with_reducible first | exact HB.out | apply zC | apply zB | apply zD | refine zE ?_ GE101.out | refine zE ?_ GE102.out | refine zE ?_ GE115.out | refine zE ?_ GE119.out) | exact HB.out)) hb); clear HO107; clear HO110; clear HO114; clear HO118; clear BK101; clear BK102; clear BK115; clear BK119; clear HB; have HO107 := n0_; have HO110 := n1_; have HO114 := n2_; have HO118 := n3_; have BK101 := n4_; have BK102 := n5_; have BK115 := n6_; have BK119 := n7_; have HB := n8_; clear n0_ n1_ n2_ n3_ n4_ n5_ n6_ n7_ n8_; (try clear hb); (try clear hb2); (try clear hk); (try clear hi)))
    have n0_ := zA.mk (Kd.za HO107.out)
    have n1_ := zA.mk (Kd.za HO110.out)
    have n2_ := zA.mk (Kd.za HO114.out)
    have n3_ := zA.mk (Kd.za HO118.out)
    have n4_ := zA.mk (zI BK101.out)
    have n5_ := zA.mk (zI BK102.out)
    have n6_ := zA.mk (zI BK115.out)
    have n7_ := zA.mk (zI BK119.out)
    have n8_ := zA.mk (zD HB.out)
    clear HO107
    clear HO110
    clear HO114
    clear HO118
    clear BK101
    clear BK102
    clear BK115
    clear BK119
    clear HB
    have HO107 := n0_
    have HO110 := n1_
    have HO114 := n2_
    have HO118 := n3_
    have BK101 := n4_
    have BK102 := n5_
    have BK115 := n6_
    have BK119 := n7_
    have HB := n8_
    clear n0_ n1_ n2_ n3_ n4_ n5_ n6_ n7_ n8_
    refine ZT (n := 5) (S := fun w' => w'.cell? ⟨gb115, 0, none⟩ = some (.slice Ao86 t112.length co86) ∧ w'.cell? ⟨gb101, 0, none⟩ = some (.slice A0_0 l0_0.length c0_0)) (ds := []) #[false, false, false, false, false] (by kernel_rfl) rfl rfl ⟨(zL BK115.out 0).trans rfl, (zL BK101.out 0).trans rfl⟩ (fun hHeld => ?_)
    generalize w99.drew = w100 at HO107 HO110 HO114 HO118 BK101 BK102 BK115 BK119 HB hHeld ⊢
    refine qd (i := 0) (N := some 35) (v := ?_) (a' := ?_) #[true, false, false, false, false] rfl rfl (by kernel_rfl) (fun _ _ _ h => h) (Or.inl ⟨by rfl, ?_⟩) hHeld ?_ ?_
    rotate_left
    next =>
     rintro w' ⟨s0, s1⟩
     go_simp
     with_reducible rfl
    rotate_left
    next =>
     simp only [Act.put, yay, yby, ycy, zT, zV]
     rfl
    refine qd (i := 1) (N := some 36) (v := ?_) (a' := ?_) #[true, true, false, false, false] rfl rfl (by kernel_rfl) (fun _ _ _ h => h) (Or.inl ⟨by rfl, ?_⟩) hHeld ?_ ?_
    rotate_left
    next =>
     rintro w' ⟨s0, s1⟩
     go_simp
     with_reducible rfl
    rotate_left
    next =>
     simp only [Act.put, yay, yby, ycy, zT, zV]
     rfl
    refine QH (i := 2) (N := some 37) #[true, true, true, false, false] rfl rfl (by kernel_rfl) (by decide) (fun K hK => ?_)
    refine ZV Try.func10 (by kernel_rfl) rfl #[.agg #[.slice A0_0 l0_0.length c0_0]] (by rfl) rfl rfl (by (try simp only [yiy, yjy, yky]); first | done | rfl | (simp only [yly, ymy]; rfl)) ?_
    with_reducible refine (zP.calls k _ _ l0_0 t121 _ ?side1 ?side2 A26.out).mono ?_
    (case side1 => repeat (first | exact (Kd.zw HR0_0.out HB.out) | (with_reducible refine Kd.zn ?_ _) | (with_reducible refine Kd.zo ?_ _) | (with_reducible refine Kd.qD ?_)))
    (case side2 => exact HC0_0.out)
    rintro e w101 ⟨v122, rfl, ho0, hb⟩
    refine ⟨_, rfl, ?_⟩
    have n0_ := zA.mk (Kd.qN (by (with_reducible repeat (first | apply Kd.zY | apply Kd.zZ | apply Kd.za)); exact HO107.out) (Kd.qt ho0) hb)
    have n1_ := zA.mk (Kd.qN (by (with_reducible repeat (first | apply Kd.zY | apply Kd.zZ | apply Kd.za)); exact HO110.out) (Kd.qt ho0) hb)
    have n2_ := zA.mk (Kd.qN (by (with_reducible repeat (first | apply Kd.zY | apply Kd.zZ | apply Kd.za)); exact HO114.out) (Kd.qt ho0) hb)
    have n3_ := zA.mk (Kd.qN (by (with_reducible repeat (first | apply Kd.zY | apply Kd.zZ | apply Kd.za)); exact HO118.out) (Kd.qt ho0) hb)
    have n4_ := zA.mk (Kd.ZY (Kd.qv (Kd.qv (Kd.qv (Kd.qv ho0 (Kd.Ql (by (with_reducible repeat (first | apply Kd.zY | apply Kd.zZ | apply Kd.za)); exact HO107.out))) (Kd.Ql (by (with_reducible repeat (first | apply Kd.zY | apply Kd.zZ | apply Kd.za)); exact HO110.out))) (Kd.Ql (by (with_reducible repeat (first | apply Kd.zY | apply Kd.zZ | apply Kd.za)); exact HO114.out))) (Kd.Ql (by (with_reducible repeat (first | apply Kd.zY | apply Kd.zZ | apply Kd.za)); exact HO118.out))) (zO (by repeat (first | (with_reducible first | exact HB.out | apply zC | apply zB | apply zD | refine zE ?_ GE101.out | refine zE ?_ GE102.out | refine zE ?_ GE115.out | refine zE ?_ GE119.out) | exact HB.out))))
    have n5_ := zA.mk (zJ (g := gb101) (o := .cells #[.slice A0_0 l0_0.length c0_0] 24 (0, 0)) (by (with_reducible repeat (first | refine zH ?_ _ | refine zI ?_ | refine zF ?_ _)); exact BK101.out) hb)
    have n6_ := zA.mk (zJ (g := gb102) (o := .cells #[.slice A1_0 l1_0.length c1_0] 24 (0, 0)) (by (with_reducible repeat (first | refine zH ?_ _ | refine zI ?_ | refine zF ?_ _)); exact BK102.out) hb)
    have n7_ := zA.mk (zJ (g := gb115) (o := .cells #[.slice Ao86 t112.length co86] 30 (0, 0)) (by (with_reducible repeat (first | refine zH ?_ _ | refine zI ?_ | refine zF ?_ _)); exact BK115.out) hb)
    have n8_ := zA.mk (zJ (g := gb119) (o := .cells #[.slice Ao93 t116.length co93] 30 (0, 0)) (by (with_reducible repeat (first | refine zH ?_ _ | refine zI ?_ | refine zF ?_ _)); exact BK119.out) hb)
    have n9_ := zA.mk (zN (by repeat (first | (with_reducible first | exact HB.out | apply zC | apply zB | apply zD | refine zE ?_ GE101.out | refine zE ?_ GE102.out | refine zE ?_ GE115.out | refine zE ?_ GE119.out) | exact HB.out)) hb)
    clear HO107
    clear HO110
    clear HO114
    clear HO118
    clear BK101
    clear BK102
    clear BK115
    clear BK119
    clear HB
    have HO107 := n0_
    have HO110 := n1_
    have HO114 := n2_
    have HO118 := n3_
    have HO123 := n4_
    have BK101 := n5_
    have BK102 := n6_
    have BK115 := n7_
    have BK119 := n8_
    have HB := n9_
    clear n0_ n1_ n2_ n3_ n4_ n5_ n6_ n7_ n8_ n9_
    (try clear hb)
    (try clear hb2)
    (try clear hk)
    (try clear hi)
    (try clear ho0)
    obtain ⟨Ao102, co102, eo102⟩ := Kd.Za HO123.out
    (first | subst eo102 | (injection eo102 with f1_ f2_ f3_; have f4_ := f1_.symm; have f5_ := f3_.symm; clear f1_ f2_ f3_; subst f4_; subst f5_))
    refine hK.out _ _ ⟨(zL BK115.out 0).trans rfl, (zL BK101.out 0).trans rfl⟩ (fun hHeld => ?_)
    clear hK K
    refine qz (a' := ?_) ?_ ?_
    rotate_left
    next =>
     show Act.put _ (some 37) _ = _
     simp only [Act.put, yay, yby, ycy, zT, zV]
     rfl
    refine QH (i := 3) (N := some 38) #[true, true, true, true, false] rfl rfl (by kernel_rfl) (by decide) (fun K hK => ?_)
    refine ZV Try.func12 (by kernel_rfl) rfl #[.agg #[.slice Ao86 t112.length co86], .agg #[.slice Ao102 t121.length co102]] (by rfl) rfl rfl (by (try simp only [yiy, yjy, yky]); first | done | rfl | (simp only [yly, ymy]; rfl)) ?_
    with_reducible refine (ze.calls k _ _ t112 _ _ t121 true _ ?side1 ?side2 ?side3 ?side4 A27.out).mono ?_
    (case side1 => repeat (first | exact (Kd.qI HO114.out).2.2 | (with_reducible refine Kd.zn ?_ _) | (with_reducible refine Kd.zo ?_ _) | (with_reducible refine Kd.qD ?_)))
    (case side2 => exact (Kd.qI HO114.out).2.1)
    (case side3 => repeat (first | exact (Kd.qI HO123.out).2.2 | (with_reducible refine Kd.zn ?_ _) | (with_reducible refine Kd.zo ?_ _) | (with_reducible refine Kd.qD ?_)))
    (case side4 => exact (Kd.qI HO123.out).2.1)
    rintro e w103 ⟨rfl, hb⟩
    refine ⟨_, rfl, ?_⟩
    have n0_ := zA.mk (Kd.zy (by (with_reducible repeat (first | apply Kd.zY | apply Kd.zZ | apply Kd.za)); exact HO107.out) hb)
    have n1_ := zA.mk (Kd.zy (by (with_reducible repeat (first | apply Kd.zY | apply Kd.zZ | apply Kd.za)); exact HO110.out) hb)
    have n2_ := zA.mk (Kd.zy (by (with_reducible repeat (first | apply Kd.zY | apply Kd.zZ | apply Kd.za)); exact HO114.out) hb)
    have n3_ := zA.mk (Kd.zy (by (with_reducible repeat (first | apply Kd.zY | apply Kd.zZ | apply Kd.za)); exact HO118.out) hb)
    have n4_ := zA.mk (Kd.zy (by (with_reducible repeat (first | apply Kd.zY | apply Kd.zZ | apply Kd.za)); exact HO123.out) hb)
    have n5_ := zA.mk (zJ (g := gb101) (o := .cells #[.slice A0_0 l0_0.length c0_0] 24 (0, 0)) (by (with_reducible repeat (first | refine zH ?_ _ | refine zI ?_ | refine zF ?_ _)); exact BK101.out) hb)
    have n6_ := zA.mk (zJ (g := gb102) (o := .cells #[.slice A1_0 l1_0.length c1_0] 24 (0, 0)) (by (with_reducible repeat (first | refine zH ?_ _ | refine zI ?_ | refine zF ?_ _)); exact BK102.out) hb)
    have n7_ := zA.mk (zJ (g := gb115) (o := .cells #[.slice Ao86 t112.length co86] 30 (0, 0)) (by (with_reducible repeat (first | refine zH ?_ _ | refine zI ?_ | refine zF ?_ _)); exact BK115.out) hb)
    have n8_ := zA.mk (zJ (g := gb119) (o := .cells #[.slice Ao93 t116.length co93] 30 (0, 0)) (by (with_reducible repeat (first | refine zH ?_ _ | refine zI ?_ | refine zF ?_ _)); exact BK119.out) hb)
    have n9_ := zA.mk (zN (by repeat (first | (with_reducible first | exact HB.out | apply zC | apply zB | apply zD | refine zE ?_ GE101.out | refine zE ?_ GE102.out | refine zE ?_ GE115.out | refine zE ?_ GE119.out) | exact HB.out)) hb)
    clear HO107
    clear HO110
    clear HO114
    clear HO118
    clear HO123
    clear BK101
    clear BK102
    clear BK115
    clear BK119
    clear HB
    have HO107 := n0_
    have HO110 := n1_
    have HO114 := n2_
    have HO118 := n3_
    have HO123 := n4_
    have BK101 := n5_
    have BK102 := n6_
    have BK115 := n7_
    have BK119 := n8_
    have HB := n9_
    clear n0_ n1_ n2_ n3_ n4_ n5_ n6_ n7_ n8_ n9_
    (try clear hb)
    (try clear hb2)
    (try clear hk)
    (try clear hi)
    refine hK.out _ _ ⟨(zL BK115.out 0).trans rfl, (zL BK101.out 0).trans rfl⟩ (fun hHeld => ?_)
    clear hK K
    refine qz (a' := ?_) ?_ ?_
    rotate_left
    next =>
     show Act.put _ (some 38) _ = _
     simp only [Act.put, yay, yby, ycy, zT, zV]
     rfl
    refine zh (i := 4) (N := some 39) (v := ?_) (a' := ?_) #[true, true, true, true, true] rfl rfl (by kernel_rfl) (fun _ _ _ h => h) (Or.inl ⟨by rfl, ?_⟩) ?_ ?_
    rotate_left
    next =>
     intro w'
     go_simp
     with_reducible rfl
    rotate_left
    next =>
     simp only [Act.put, yay, yby, ycy, zT, zV]
     rfl
    refine Zy (by kernel_rfl) ?_
    try go_wp2
    have n0_ := zA.mk (Kd.za HO107.out)
    have n1_ := zA.mk (Kd.za HO110.out)
    have n2_ := zA.mk (Kd.za HO114.out)
    have n3_ := zA.mk (Kd.za HO118.out)
    have n4_ := zA.mk (Kd.za HO123.out)
    have n5_ := zA.mk (zI BK101.out)
    have n6_ := zA.mk (zI BK102.out)
    have n7_ := zA.mk (zI BK115.out)
    have n8_ := zA.mk (zI BK119.out)
    have n9_ := zA.mk (zD HB.out)
    clear HO107
    clear HO110
    clear HO114
    clear HO118
    clear HO123
    clear BK101
    clear BK102
    clear BK115
    clear BK119
    clear HB
    have HO107 := n0_
    have HO110 := n1_
    have HO114 := n2_
    have HO118 := n3_
    have HO123 := n4_
    have BK101 := n5_
    have BK102 := n6_
    have BK115 := n7_
    have BK119 := n8_
    have HB := n9_
    clear n0_ n1_ n2_ n3_ n4_ n5_ n6_ n7_ n8_ n9_
    refine ZT (n := 5) (S := fun w' => w'.cell? ⟨gb119, 0, none⟩ = some (.slice Ao93 t116.length co93) ∧ w'.cell? ⟨gb102, 0, none⟩ = some (.slice A1_0 l1_0.length c1_0)) (ds := []) #[false, false, false, false, false] (by kernel_rfl) rfl rfl ⟨(zL BK119.out 0).trans rfl, (zL BK102.out 0).trans rfl⟩ (fun hHeld => ?_)
    generalize w103.drew = w104 at HO107 HO110 HO114 HO118 HO123 BK101 BK102 BK115 BK119 HB hHeld ⊢
    refine qd (i := 0) (N := some 40) (v := ?_) (a' := ?_) #[true, false, false, false, false] rfl rfl (by kernel_rfl) (fun _ _ _ h => h) (Or.inl ⟨by rfl, ?_⟩) hHeld ?_ ?_
    rotate_left
    next =>
     rintro w' ⟨s0, s1⟩
     go_simp
     with_reducible rfl
    rotate_left
    next =>
     simp only [Act.put, yay, yby, ycy, zT, zV]
     rfl
    refine qd (i := 1) (N := some 41) (v := ?_) (a' := ?_) #[true, true, false, false, false] rfl rfl (by kernel_rfl) (fun _ _ _ h => h) (Or.inl ⟨by rfl, ?_⟩) hHeld ?_ ?_
    rotate_left
    next =>
     rintro w' ⟨s0, s1⟩
     go_simp
     with_reducible rfl
    rotate_left
    next =>
     simp only [Act.put, yay, yby, ycy, zT, zV]
     rfl
    refine QH (i := 2) (N := some 42) #[true, true, true, false, false] rfl rfl (by kernel_rfl) (by decide) (fun K hK => ?_)
    refine ZV Try.func10 (by kernel_rfl) rfl #[.agg #[.slice A1_0 l1_0.length c1_0]] (by rfl) rfl rfl (by (try simp only [yiy, yjy, yky]); first | done | rfl | (simp only [yly, ymy]; rfl)) ?_
    with_reducible refine (zP.calls k _ _ l1_0 t125 _ ?side1 ?side2 A29.out).mono ?_
    (case side1 => repeat (first | exact (Kd.zw HR1_0.out HB.out) | (with_reducible refine Kd.zn ?_ _) | (with_reducible refine Kd.zo ?_ _) | (with_reducible refine Kd.qD ?_)))
    (case side2 => exact HC1_0.out)
    rintro e w105 ⟨v126, rfl, ho0, hb⟩
    refine ⟨_, rfl, ?_⟩
    have n0_ := zA.mk (Kd.qN (by (with_reducible repeat (first | apply Kd.zY | apply Kd.zZ | apply Kd.za)); exact HO107.out) (Kd.qt ho0) hb)
    have n1_ := zA.mk (Kd.qN (by (with_reducible repeat (first | apply Kd.zY | apply Kd.zZ | apply Kd.za)); exact HO110.out) (Kd.qt ho0) hb)
    have n2_ := zA.mk (Kd.qN (by (with_reducible repeat (first | apply Kd.zY | apply Kd.zZ | apply Kd.za)); exact HO114.out) (Kd.qt ho0) hb)
    have n3_ := zA.mk (Kd.qN (by (with_reducible repeat (first | apply Kd.zY | apply Kd.zZ | apply Kd.za)); exact HO118.out) (Kd.qt ho0) hb)
    have n4_ := zA.mk (Kd.qN (by (with_reducible repeat (first | apply Kd.zY | apply Kd.zZ | apply Kd.za)); exact HO123.out) (Kd.qt ho0) hb)
    have n5_ := zA.mk (Kd.ZY (Kd.qv (Kd.qv (Kd.qv (Kd.qv (Kd.qv ho0 (Kd.Ql (by (with_reducible repeat (first | apply Kd.zY | apply Kd.zZ | apply Kd.za)); exact HO107.out))) (Kd.Ql (by (with_reducible repeat (first | apply Kd.zY | apply Kd.zZ | apply Kd.za)); exact HO110.out))) (Kd.Ql (by (with_reducible repeat (first | apply Kd.zY | apply Kd.zZ | apply Kd.za)); exact HO114.out))) (Kd.Ql (by (with_reducible repeat (first | apply Kd.zY | apply Kd.zZ | apply Kd.za)); exact HO118.out))) (Kd.Ql (by (with_reducible repeat (first | apply Kd.zY | apply Kd.zZ | apply Kd.za)); exact HO123.out))) (zO (by repeat (first | (with_reducible first | exact HB.out | apply zC | apply zB | apply zD | refine zE ?_ GE101.out | refine zE ?_ GE102.out | refine zE ?_ GE115.out | refine zE ?_ GE119.out) | exact HB.out))))
    have n6_ := zA.mk (zJ (g := gb101) (o := .cells #[.slice A0_0 l0_0.length c0_0] 24 (0, 0)) (by (with_reducible repeat (first | refine zH ?_ _ | refine zI ?_ | refine zF ?_ _)); exact BK101.out) hb)
    have n7_ := zA.mk (zJ (g := gb102) (o := .cells #[.slice A1_0 l1_0.length c1_0] 24 (0, 0)) (by (with_reducible repeat (first | refine zH ?_ _ | refine zI ?_ | refine zF ?_ _)); exact BK102.out) hb)
    have n8_ := zA.mk (zJ (g := gb115) (o := .cells #[.slice Ao86 t112.length co86] 30 (0, 0)) (by (with_reducible repeat (first | refine zH ?_ _ | refine zI ?_ | refine zF ?_ _)); exact BK115.out) hb)
    have n9_ := zA.mk (zJ (g := gb119) (o := .cells #[.slice Ao93 t116.length co93] 30 (0, 0)) (by (with_reducible repeat (first | refine zH ?_ _ | refine zI ?_ | refine zF ?_ _)); exact BK119.out) hb)
    have n10_ := zA.mk (zN (by repeat (first | (with_reducible first | exact HB.out | apply zC | apply zB | apply zD | refine zE ?_ GE101.out | refine zE ?_ GE102.out | refine zE ?_ GE115.out | refine zE ?_ GE119.out) | exact HB.out)) hb)
    clear HO107
    clear HO110
    clear HO114
    clear HO118
    clear HO123
    clear BK101
    clear BK102
    clear BK115
    clear BK119
    clear HB
    have HO107 := n0_
    have HO110 := n1_
    have HO114 := n2_
    have HO118 := n3_
    have HO123 := n4_
    have HO127 := n5_
    have BK101 := n6_
    have BK102 := n7_
    have BK115 := n8_
    have BK119 := n9_
    have HB := n10_
    clear n0_ n1_ n2_ n3_ n4_ n5_ n6_ n7_ n8_ n9_ n10_
    (try clear hb)
    (try clear hb2)
    (try clear hk)
    (try clear hi)
    (try clear ho0)
    obtain ⟨Ao106, co106, eo106⟩ := Kd.Za HO127.out
    (first | subst eo106 | (injection eo106 with f1_ f2_ f3_; have f4_ := f1_.symm; have f5_ := f3_.symm; clear f1_ f2_ f3_; subst f4_; subst f5_))
    refine hK.out _ _ ⟨(zL BK119.out 0).trans rfl, (zL BK102.out 0).trans rfl⟩ (fun hHeld => ?_)
    clear hK K
    refine qz (a' := ?_) ?_ ?_
    rotate_left
    next =>
     show Act.put _ (some 42) _ = _
     simp only [Act.put, yay, yby, ycy, zT, zV]
     rfl
    refine QH (i := 3) (N := some 43) #[true, true, true, true, false] rfl rfl (by kernel_rfl) (by decide) (fun K hK => ?_)
    refine ZV Try.func12 (by kernel_rfl) rfl #[.agg #[.slice Ao93 t116.length co93], .agg #[.slice Ao106 t125.length co106]] (by rfl) rfl rfl (by (try simp only [yiy, yjy, yky]); first | done | rfl | (simp only [yly, ymy]; rfl)) ?_
    with_reducible refine (ze.calls k _ _ t116 _ _ t125 false _ ?side1 ?side2 ?side3 ?side4 A30.out).mono ?_
    (case side1 => repeat (first | exact (Kd.qI HO118.out).2.2 | (with_reducible refine Kd.zn ?_ _) | (with_reducible refine Kd.zo ?_ _) | (with_reducible refine Kd.qD ?_)))
    (case side2 => exact (Kd.qI HO118.out).2.1)
    (case side3 => repeat (first | exact (Kd.qI HO127.out).2.2 | (with_reducible refine Kd.zn ?_ _) | (with_reducible refine Kd.zo ?_ _) | (with_reducible refine Kd.qD ?_)))
    (case side4 => exact (Kd.qI HO127.out).2.1)
    rintro e w107 ⟨rfl, hb⟩
    refine ⟨_, rfl, ?_⟩
    have n0_ := zA.mk (Kd.zy (by (with_reducible repeat (first | apply Kd.zY | apply Kd.zZ | apply Kd.za)); exact HO107.out) hb)
    have n1_ := zA.mk (Kd.zy (by (with_reducible repeat (first | apply Kd.zY | apply Kd.zZ | apply Kd.za)); exact HO110.out) hb)
    have n2_ := zA.mk (Kd.zy (by (with_reducible repeat (first | apply Kd.zY | apply Kd.zZ | apply Kd.za)); exact HO114.out) hb)
    have n3_ := zA.mk (Kd.zy (by (with_reducible repeat (first | apply Kd.zY | apply Kd.zZ | apply Kd.za)); exact HO118.out) hb)
    have n4_ := zA.mk (Kd.zy (by (with_reducible repeat (first | apply Kd.zY | apply Kd.zZ | apply Kd.za)); exact HO123.out) hb)
    have n5_ := zA.mk (Kd.zy (by (with_reducible repeat (first | apply Kd.zY | apply Kd.zZ | apply Kd.za)); exact HO127.out) hb)
    have n6_ := zA.mk (zJ (g := gb101) (o := .cells #[.slice A0_0 l0_0.length c0_0] 24 (0, 0)) (by (with_reducible repeat (first | refine zH ?_ _ | refine zI ?_ | refine zF ?_ _)); exact BK101.out) hb)
    have n7_ := zA.mk (zJ (g := gb102) (o := .cells #[.slice A1_0 l1_0.length c1_0] 24 (0, 0)) (by (with_reducible repeat (first | refine zH ?_ _ | refine zI ?_ | refine zF ?_ _)); exact BK102.out) hb)
    have n8_ := zA.mk (zJ (g := gb115) (o := .cells #[.slice Ao86 t112.length co86] 30 (0, 0)) (by (with_reducible repeat (first | refine zH ?_ _ | refine zI ?_ | refine zF ?_ _)); exact BK115.out) hb)
    have n9_ := zA.mk (zJ (g := gb119) (o := .cells #[.slice Ao93 t116.length co93] 30 (0, 0)) (by (with_reducible repeat (first | refine zH ?_ _ | refine zI ?_ | refine zF ?_ _)); exact BK119.out) hb)
    have n10_ := zA.mk (zN (by repeat (first | (with_reducible first | exact HB.out | apply zC | apply zB | apply zD | refine zE ?_ GE101.out | refine zE ?_ GE102.out | refine zE ?_ GE115.out | refine zE ?_ GE119.out) | exact HB.out)) hb)
    clear HO107
    clear HO110
    clear HO114
    clear HO118
    clear HO123
    clear HO127
    clear BK101
    clear BK102
    clear BK115
    clear BK119
    clear HB
    have HO107 := n0_
    have HO110 := n1_
    have HO114 := n2_
    have HO118 := n3_
    have HO123 := n4_
    have HO127 := n5_
    have BK101 := n6_
    have BK102 := n7_
    have BK115 := n8_
    have BK119 := n9_
    have HB := n10_
    clear n0_ n1_ n2_ n3_ n4_ n5_ n6_ n7_ n8_ n9_ n10_
    (try clear hb)
    (try clear hb2)
    (try clear hk)
    (try clear hi)
    refine hK.out _ _ ⟨(zL BK119.out 0).trans rfl, (zL BK102.out 0).trans rfl⟩ (fun hHeld => ?_)
    clear hK K
    refine qz (a' := ?_) ?_ ?_
    rotate_left
    next =>
     show Act.put _ (some 43) _ = _
     simp only [Act.put, yay, yby, ycy, zT, zV]
     rfl
    refine zh (i := 4) (N := some 44) (v := ?_) (a' := ?_) #[true, true, true, true, true] rfl rfl (by kernel_rfl) (fun _ _ _ h => h) (Or.inl ⟨by rfl, ?_⟩) ?_ ?_
    rotate_left
    next =>
     intro w'
     go_simp
     with_reducible rfl
    rotate_left
    next =>
     simp only [Act.put, yay, yby, ycy, zT, zV]
     rfl
    refine Zy (by kernel_rfl) ?_
    try go_wp2
    go_ret
    exact ⟨by first | rfl | (simp [zb, zc] <;> rfl) | (simp [*, zb, zc] <;> rfl), by repeat (first | (with_reducible first | exact HB.out | apply zC | apply zB | apply zD | refine zE ?_ GE101.out | refine zE ?_ GE102.out | refine zE ?_ GE115.out | refine zE ?_ GE119.out) | exact HB.out)⟩
end Go.Proofs.Ytfnopcbicceeaaa.P
namespace Go.Proofs.Ytfnopcbicceeaaa.P
open Go.RowKit Go.Proofs.YtfnopcbicceeaaaW.PrintWords Go.Proofs.Ytfnopcbicceeaaa.Lib
set_option linter.unusedVariables false
theorem zAi (a b c : Int) : ZP.f a b c = some (decide (b ≤ a) && decide (a ≤ c)) := by
  unfold ZP.f
  by_cases h : b ≤ a <;> simp [h]
theorem zDj (a b c : Int) : QD.f a b c = some (decide (b ≤ a) && decide (a ≤ c)) := by
  unfold QD.f
  by_cases h : b ≤ a <;> simp [h]
theorem zBj (a : Int) : ZM.f a = some (decide (0 ≤ a) && decide (a ≤ 23)) := by
  unfold ZM.f
  by_cases h : 0 ≤ a
  · rw [if_pos h]; simp [h]; omega
  · rw [if_neg h]; simp [h]
theorem zDB (a : Int) : Zl.f a = some (decide (0 ≤ a) && decide (a ≤ 23)) := by
  unfold Zl.f; rw [zAi]; rfl
theorem zE3 {p : Int} (h0 : 0 ≤ p) (h1 : p ≤ 23) : ∃ m : Fin 24, p = (m.val : Int) := ⟨⟨p.toNat, by omega⟩, by simp; omega⟩
theorem zBQ {p : Int} (h0 : 0 ≤ p) (h1 : p ≤ 23) : Ev (fun k => zS.f k p) (Zb p) := by
  obtain ⟨m, rfl⟩ := zE3 h0 h1
  have key : ∀ m : Fin 24, zS.f 5 (m.val : Int) = some (Zb (m.val : Int)) := by decide +kernel
  exact Ev.of (fun k => zS.mono _ k) (key m)
theorem zDC (p : Int) : (Zb p).length = 4 := rfl
theorem zB6 {p f : Int} (h0 : 0 ≤ p) (h1 : p ≤ 23) (hf0 : 0 ≤ f) (hf1 : f ≤ 3) : 0 ≤ rd (Zb p) f ∧ rd (Zb p) f ≤ 3 := by
  obtain ⟨a, b, c, d⟩ := Jl p h0 h1
  exact Qw a b c d f hf0 hf1
theorem zDk {p f : Int} (h0 : 0 ≤ p) (h1 : p ≤ 23) (hf0 : 0 ≤ f) (hf1 : f ≤ 3) : Ev (fun k => qw.f k p f) (rd (Zb p) f) := by
  refine Ev.bind (zBQ h0 h1) ?_
  exact qh hf0 (qh (by rw [zDC]; omega) (Ev.now _))
theorem zCM {p : Int} (h0 : 0 ≤ p) (h1 : p ≤ 23) : Ev (fun k => zv.f k p) (Jd p) := by
  obtain ⟨m, rfl⟩ := zE3 h0 h1
  have key : ∀ m : Fin 24, zv.f 40 (m.val : Int) = some (Jd (m.val : Int)) := by decide +kernel
  exact Ev.of (fun k => zv.mono _ k) (key m)
theorem zDD {q p f : Int} (h0 : 0 ≤ p) (h1 : p ≤ 23) (hf0 : 0 ≤ f) (hf1 : f ≤ 3) : ZB.f q p f = some (rd (Zb p) f) := if_pos ⟨h0, h1, hf0, hf1⟩
theorem zCN {q p a : Int} (h0 : 0 ≤ p) (h1 : p ≤ 23) : ql.f q p a = some (a, Jd p) := by
  unfold ql.f Zk.f
  rw [if_pos ⟨h0, h1⟩]; rfl
abbrev Tri := List (List qJ)
def Small (t : Tri) : Prop := t.length ≤ 1048576 ∧ ∀ r ∈ t, r.length ≤ 1048576
def zC9 (t : List (List qM)) : Prop := t.length ≤ 1048576 ∧ ∀ r ∈ t, r.length ≤ 1048576
def Fits (t : List (List qM)) : Prop := t.length ≤ 9223372036854775807 ∧ ∀ r ∈ t, r.length ≤ 9223372036854775807
theorem Qs (t : List (List qM)) (n : Nat) (h : n < t.length) : ZI t (n : Int) = t[n] := by simp [ZI, h]
theorem JJ (t : Tri) (n : Nat) (h : n < t.length) : zG t (n : Int) = t[n] := by simp [zG, h]
theorem zB7 (t : List qM) (n : Nat) (h : n < t.length) : Zp t (n : Int) = t[n] := by simp [Zp, h]
theorem zCO (t : List qJ) (n : Nat) (h : n < t.length) : zK t (n : Int) = t[n] := by simp [zK, h]
theorem zAj (r : List qM) (a : Int) (h0 : 0 ≤ a) (h1 : a ≤ 1048576) (h : r.length ≤ 9223372036854775807) : Zx.f r a = some (if a - r.length < 0 then -1 else a - r.length) := by
  unfold Zx.f
  rw [QE (by omega) (by omega)]
  split <;> rfl
def cvF (x : qM) : qJ := ⟨x.f0, x.f1⟩
def cvR (r : List qM) : List qJ := r.map cvF
def cvT (t : List (List qM)) : Tri := t.map cvR
theorem zBR {t : List (List qM)} (h : zC9 t) : Small (cvT t) := by
  refine ⟨by simp [cvT]; exact h.1, fun r hr => ?_⟩
  obtain ⟨s, hs, rfl⟩ := List.mem_map.1 hr
  simp [cvR]; exact h.2 s hs
theorem zA0 {α β : Type} (f : α → β) (l : List α) (z : β) (n : Nat) (h : n < l.length) :
    ((l.take n).map f ++ List.replicate (l.length - n) z).set n (f l[n]) = (l.take (n + 1)).map f ++ List.replicate (l.length - (n + 1)) z := by
  have e : l.length - n = (l.length - (n + 1)) + 1 := by omega
  rw [e, List.replicate_succ, List.set_append_right _ _ (by simp; omega)]
  have : n - ((l.take n).map f).length = 0 := by simp; omega
  rw [this, yby, List.take_succ_eq_append_getElem h, List.map_append, List.append_assoc]
  rfl
theorem zCP (l : List qM) (h : l.length ≤ 1048576) : Ev (fun k => qV.f k l) (cvR l) := by
  have hl : Ev (fun k => qV.l0 k l (List.replicate l.length Jk) 0) (cvR l) := by
    refine zBy (fun k (s : List qJ × Int) => qV.l0 k l s.1 s.2) (fun s => ∃ n : Nat, n ≤ l.length ∧ s.2 = n ∧ s.1 = (l.take n).map cvF ++ List.replicate (l.length - n) Jk) (fun s => l.length - s.2.toNat) (fun _ => cvR l) ?_ (List.replicate l.length Jk, 0) ⟨0, by omega, rfl, by simp⟩
    rintro ⟨a, i⟩ ⟨n, hn, rfl, rfl⟩
    dsimp only
    by_cases hlt : n < l.length
    · refine .inr ⟨((l.take (n + 1)).map cvF ++ List.replicate (l.length - (n + 1)) Jk, ((n + 1 : Nat) : Int)), ⟨n + 1, by omega, rfl, rfl⟩, by simp; omega, rfl, fun k => ?_⟩
      simp only [qV.l0, Qk.f, yfy]
      rw [if_pos (by omega), if_pos (by omega), if_pos (by simp; omega), Zu (by omega), Int.toNat_natCast, zB7 l n hlt]
      have := zA0 cvF l Jk n hlt
      rw [← this]
      rfl
    · obtain rfl : n = l.length := by omega
      refine .inl fun k => ?_
      simp only [qV.l0]
      rw [if_neg (by omega)]
      simp [cvR]
  refine Ev.congr (fun k => ?_) hl
  unfold qV.f
  rw [if_pos (by omega), if_pos (by simp; omega), Int.toNat_natCast]
theorem zBk (l : List (List qM)) (h : zC9 l) : Ev (fun k => qS.f k l) (cvT l) := by
  have hl : Ev (fun k => qS.l0 k l (List.replicate l.length []) 0) (cvT l) := by
    refine zBc (fun k (s : Tri × Int) => qS.l0 k l s.1 s.2) (fun s => ∃ n : Nat, n ≤ l.length ∧ s.2 = n ∧ s.1 = (l.take n).map cvR ++ List.replicate (l.length - n) []) (fun s => l.length - s.2.toNat) (fun _ => cvT l) ?_ (List.replicate l.length [], 0) ⟨0, by omega, rfl, by simp⟩
    rintro ⟨a, i⟩ ⟨n, hn, rfl, rfl⟩
    dsimp only
    by_cases hlt : n < l.length
    · obtain ⟨K, hK⟩ := zCP l[n] (h.2 _ (List.getElem_mem hlt))
      refine .inr ⟨((l.take (n + 1)).map cvR ++ List.replicate (l.length - (n + 1)) [], ((n + 1 : Nat) : Int)), K, ⟨n + 1, by omega, rfl, rfl⟩, by simp; omega, rfl, fun k hk => ?_⟩
      have e : qV.f k l[n] = some _ := hK k hk
      have h1 := h.1
      simp only [qS.l0]
      rw [if_pos (by omega), if_pos (by omega), Qs l n hlt, e, yfy, if_pos (by simp; omega), Zu (by omega), Int.toNat_natCast, zA0 cvR l [] n hlt]
    · obtain rfl : n = l.length := by omega
      refine .inl ⟨0, fun k _ => ?_⟩
      simp only [qS.l0]
      rw [if_neg (by omega)]
      simp [cvT]
  have h1 := h.1
  refine Ev.congr (fun k => ?_) hl
  unfold qS.f
  rw [if_pos (by omega), if_pos (by simp; omega), Int.toNat_natCast]
theorem Qo (l : List (List qM)) (h : zC9 l) : Ev (fun k => zP.f k l) (cvT l) := Ev.bind (zBk l h) (Ev.now _)
theorem zCQ (l : List qJ) (h : l.length ≤ 1048576) : Ev (fun k => qE.f k l l) true := by
  have hl : Ev (fun k => qE.l0 k l l 0) true := by
    refine zBy (fun k (s : Int) => qE.l0 k l l s) (fun s => ∃ n : Nat, n ≤ l.length ∧ s = n) (fun s => l.length - s.toNat) (fun _ => true) ?_ 0 ⟨0, by omega, rfl⟩
    rintro i ⟨n, hn, rfl⟩
    by_cases hlt : n < l.length
    · refine .inr ⟨((n + 1 : Nat) : Int), ⟨n + 1, by omega, rfl⟩, by simp; omega, rfl, fun k => ?_⟩
      simp only [qE.l0, QO.f]
      rw [if_pos (by omega), if_pos (by omega), if_pos (by omega), if_pos trivial, if_pos trivial, yfy, if_pos rfl, Zu (by omega)]
    · refine .inl fun k => ?_
      simp only [qE.l0]
      rw [if_neg (by omega)]
  refine Ev.congr (fun k => ?_) hl
  unfold qE.f
  rw [if_pos rfl]
theorem Qp (l : Tri) (h : Small l) : Ev (fun k => ze.f k l l) true := by
  have hl : Ev (fun k => zz.l0 k l l 0) true := by
    refine zBc (fun k (s : Int) => zz.l0 k l l s) (fun s => ∃ n : Nat, n ≤ l.length ∧ s = n) (fun s => l.length - s.toNat) (fun _ => true) ?_ 0 ⟨0, by omega, rfl⟩
    rintro i ⟨n, hn, rfl⟩
    by_cases hlt : n < l.length
    · obtain ⟨K, hK⟩ := zCQ l[n] (h.2 _ (List.getElem_mem hlt))
      refine .inr ⟨((n + 1 : Nat) : Int), K, ⟨n + 1, by omega, rfl⟩, by simp; omega, rfl, fun k hk => ?_⟩
      have e : qE.f k l[n] l[n] = some _ := hK k hk
      have h1 := h.1
      simp only [zz.l0]
      rw [if_pos (by omega), if_pos (by omega), if_pos (by omega), JJ l n hlt, e, yfy, if_pos rfl, Zu (by omega)]
    · refine .inl ⟨0, fun k _ => ?_⟩
      simp only [zz.l0]
      rw [if_neg (by omega)]
  have h2 : Ev (fun k => zz.f k l l) true := by
    refine Ev.congr (fun k => ?_) hl
    unfold zz.f
    rw [if_pos rfl]
  exact Ev.bind h2 (qh rfl (Ev.now _))
abbrev fc (t : Tri) (a f : Int) : qJ := zK (zG t a) f
def zA3 (t : Tri) (a f : Int) : Bool :=
  if (fc t a f).f0 = -1 then (fc t a f).f1 == 0
  else if 0 ≤ (fc t a f).f0 ∧ (fc t a f).f0 < (t.length : Int) ∧ 0 ≤ (fc t a f).f1 ∧ (fc t a f).f1 ≤ 23 then
    ((fc t (fc t a f).f0 (rd (Zb (fc t a f).f1) f)).f0 == a && (fc t (fc t a f).f0 (rd (Zb (fc t a f).f1) f)).f1 == Jd (fc t a f).f1) && !((fc t a f).f0 == a && rd (Zb (fc t a f).f1) f == f)
  else false
def Qz (t : Tri) (a : Int) : Int → Nat → Bool
  | _, 0 => true
  | f, d + 1 => zA3 t a f && Qz t a (f + 1) d
def JX (t : Tri) : Int → Nat → Bool
  | _, 0 => true
  | a, d + 1 => Qz t a 0 4 && JX t (a + 1) d
def QU (t : Tri) : Bool := decide (t.length ≤ 8) && (t.all (fun r => decide (r.length = 4)) && JX t 0 t.length)
section
variable {t : Tri}
theorem row4 (h4 : ∀ r ∈ t, r.length = 4) {a : Int} (h0 : 0 ≤ a) (h1 : a < t.length) : (zG t a).length = 4 := by
  obtain ⟨n, rfl⟩ := Int.eq_ofNat_of_zero_le h0
  rw [JJ t n (by omega)]
  exact h4 _ (List.getElem_mem _)
theorem zAV (h4 : ∀ r ∈ t, r.length = 4) (hn : t.length ≤ 8) {a f : Int} (h0 : 0 ≤ a) (h1 : a < t.length) (hf0 : 0 ≤ f) (hf1 : f ≤ 3) : Ev (fun k => zU.f k t a f) (zA3 t a f) := by
  have hr := row4 h4 h0 h1
  refine Ev.congr (fun k => by unfold zU.f; rw [if_pos h0, if_pos h1, if_pos hf0, if_pos (by omega)]) ?_
  change Ev (fun k => if (fc t a f).f0 = -1 then some ((fc t a f).f1 == 0) else _) (zA3 t a f)
  unfold zA3
  by_cases hb : (fc t a f).f0 = -1
  · rw [if_pos hb]; exact qh hb (Ev.now _)
  · refine Zg hb ?_
    rw [if_neg hb]
    have hix : qa.f t (fc t a f).f0 = some (decide (0 ≤ (fc t a f).f0) && decide ((fc t a f).f0 ≤ (t.length : Int) - 1)) := by
      unfold qa.f qO.f
      rw [yfy, QE (by omega) (by omega), zAi]; rfl
    have hfalse : Ev (fun k => zU.j0 k a f true t (fc t a f).f0 (fc t a f).f1) false := qg (fun k => by rw [zU.j0, if_pos rfl]) (Ev.now false)
    refine Ev.bind (zA5 hix) ?_
    by_cases hi : 0 ≤ (fc t a f).f0 ∧ (fc t a f).f0 < (t.length : Int)
    · refine qh (by simp; omega) ?_
      refine Ev.bind (zA5 (zDB _)) ?_
      by_cases hp : 0 ≤ (fc t a f).f1 ∧ (fc t a f).f1 ≤ 23
      · rw [if_pos ⟨hi.1, hi.2, hp.1, hp.2⟩]
        have e : (!(decide (0 ≤ (fc t a f).f1) && decide ((fc t a f).f1 ≤ 23))) = false := by simp [hp]
        rw [e]
        refine qg (fun k => by rw [zU.j0, if_neg (by simp), zDD hp.1 hp.2 hf0 hf1, yfy]) ?_
        obtain ⟨hg0, hg1⟩ := zB6 hp.1 hp.2 hf0 hf1
        have hr2 := row4 h4 hi.1 hi.2
        refine qh hi.1 (qh hi.2 (qh hg0 (qh (by rw [hr2]; omega) ?_)))
        refine Ev.bind (zA5 (zCN hp.1 hp.2)) ?_
        change Ev (fun k => if ((fc t (fc t a f).f0 (rd (Zb (fc t a f).f1) f)).f0 == a && (fc t (fc t a f).f0 (rd (Zb (fc t a f).f1) f)).f1 == Jd (fc t a f).f1) = true then _ else _) _
        generalize ((fc t (fc t a f).f0 (rd (Zb (fc t a f).f1) f)).f0 == a && (fc t (fc t a f).f0 (rd (Zb (fc t a f).f1) f)).f1 == Jd (fc t a f).f1) = b
        cases b with
        | false => refine Zg (by simp) ?_; rw [Bool.false_and]; exact Ev.now false
        | true =>
          refine qh rfl ?_
          rw [Bool.true_and]
          by_cases ha : (fc t a f).f0 = a
          · refine qh ha (zCs ?_)
            rw [ha]; simp [bne]
          · refine Zg ha (zCs ?_)
            simp [ha]
      · rw [if_neg (by omega)]
        have e : (!(decide (0 ≤ (fc t a f).f1) && decide ((fc t a f).f1 ≤ 23))) = true := by
          rw [Bool.not_eq_true', Bool.and_eq_false_iff, decide_eq_false_iff_not, decide_eq_false_iff_not]; omega
        rw [e]
        exact hfalse
    · rw [if_neg (by omega)]
      refine Zg ?_ hfalse
      rw [Bool.and_eq_true, decide_eq_true_eq, decide_eq_true_eq]; omega
theorem zAk (h4 : ∀ r ∈ t, r.length = 4) (hn : t.length ≤ 8) {a : Int} (h0 : 0 ≤ a) (h1 : a < t.length) {R : Bool} (hR : Ev (fun k => zW.l0 k (t.length : Int) (a + 1) t) R) :
    ∀ (d : Nat) (f : Int), 0 ≤ f → f + d = 4 → Ev (fun k => zW.l1 k a (t.length : Int) a f t) (Qz t a f d && R)
  | 0, f, hf, he => by
    refine qg (fun k => by rw [zW.l1, if_neg (by omega), QE (by omega) (by omega)]) ?_
    rw [Qz, Bool.true_and]; exact hR
  | d + 1, f, hf, he => by
    refine qg (fun k => by rw [zW.l1, if_pos (by omega)]) ?_
    refine Ev.bind (zAV h4 hn h0 h1 hf (by omega)) ?_
    rw [Qz]
    cases hg : zA3 t a f with
    | false => exact Zg (by simp) (by rw [Bool.false_and, Bool.false_and]; exact Ev.now false)
    | true =>
      refine qh rfl ?_
      rw [Bool.true_and]
      exact Ev.congr (fun k => by rw [QE (by omega) (by omega)]) (zAk h4 hn h0 h1 hR d (f + 1) (by omega) (by omega))
theorem zAl (h4 : ∀ r ∈ t, r.length = 4) (hn : t.length ≤ 8) : ∀ (d : Nat) (a : Int), 0 ≤ a → a + d = t.length → Ev (fun k => zW.l0 k (t.length : Int) a t) (JX t a d)
  | 0, a, ha, he => by
    refine qg (fun k => by rw [zW.l0, if_neg (by omega)]) ?_
    exact Ev.now true
  | d + 1, a, ha, he => by
    refine qg (fun k => by rw [zW.l0, if_pos (by omega)]) ?_
    rw [JX]
    exact zAk h4 hn ha (by omega) (zAl h4 hn d (a + 1) (by omega) (by omega)) 4 0 (by omega) (by omega)
theorem zB8 : t.all (fun r => decide (r.length = 4)) = true ↔ ∀ r ∈ t, r.length = 4 := by simp
theorem zDE (h : Small t) : zl.f t = some (!(t.all fun r => decide (r.length = 4))) := by
  unfold zl.f qB.f
  rw [contO (p := fun r => !(decide (r.length = 4))) t (fun r _ => by
    show qZ.f r = _
    unfold qZ.f
    congr 1
    by_cases h : r.length = 4
    · simp [h]
    · have : ¬ ((r.length : Int) = 4) := by omega
      simp [h, this]), List.not_all_eq_any_not]
theorem Jo (h : Small t) : Ev (fun k => zW.f k t) (QU t) := by
  have hfalse : Ev (fun k => zW.j0 k true t) false := qg (fun k => by rw [zW.j0, if_pos rfl]) (Ev.now false)
  unfold QU
  by_cases h8 : t.length ≤ 8
  · refine Ev.congr (fun k => by unfold zW.f; rw [if_neg (by omega), zDE h, yfy]) ?_
    rw [ygy h8, Bool.true_and]
    cases hall : t.all (fun r => decide (r.length = 4)) with
    | false => rw [Bool.false_and]; exact hfalse
    | true =>
      rw [Bool.true_and]
      refine qg (fun k => by rw [zW.j0, if_neg (by simp)]) ?_
      exact zAl (zB8.1 hall) h8 t.length 0 (by omega) (by omega)
  · refine Ev.congr (fun k => by unfold zW.f; rw [if_pos (by omega)]) ?_
    rw [yhy h8, Bool.false_and]; exact hfalse
theorem zAm (h4 : ∀ r ∈ t, r.length = 4) (hn : t.length ≤ 8) {a : Int} (h0 : 0 ≤ a) (h1 : a < t.length) {R : Bool} (hR : Ev (fun k => zM.l1 k (a + 1) t) R) :
    ∀ (d : Nat) (f : Int), 0 ≤ f → f + d = 4 → Ev (fun k => zM.l2 k a f t) (Qz t a f d && R)
  | 0, f, hf, he => by
    refine qg (fun k => by rw [zM.l2, if_neg (by omega), QE (by omega) (by omega)]) ?_
    rw [Qz, Bool.true_and]; exact hR
  | d + 1, f, hf, he => by
    have hr := row4 h4 h0 h1
    have ih : Ev (fun k => zM.l2 k a (wrap64 (f + 1)) t) (Qz t a (f + 1) d && R) := Ev.congr (fun k => by rw [QE (by omega) (by omega)]) (zAm h4 hn h0 h1 hR d (f + 1) (by omega) (by omega))
    refine qg (fun k => by rw [zM.l2, if_pos (by omega), if_pos h0, if_pos h1, if_pos hf, if_pos (by omega)]) ?_
    change Ev (fun k => if (fc t a f).f0 = -1 then zM.j3 k a f ((fc t a f).f1 == 0) t (fc t a f).f0 (fc t a f).f1 else zM.j3 k a f false t (fc t a f).f0 (fc t a f).f1) _
    rw [Qz]
    have hstop : ∀ b, Ev (fun k => zM.j4 k a f true t (fc t a f).f0 (fc t a f).f1) (false && b) := fun b => by
      rw [Bool.false_and]; exact qg (fun k => by rw [zM.j4, if_pos rfl]) (Ev.now false)
    have hgo : Ev (fun k => zM.j3 k a f true t (fc t a f).f0 (fc t a f).f1) (Qz t a (f + 1) d && R) := qg (fun k => by rw [zM.j3, if_pos rfl]) ih
    have hrest : (¬ ((fc t a f).f0 = -1 ∧ (fc t a f).f1 = 0)) → Ev (fun k => zM.j3 k a f false t (fc t a f).f0 (fc t a f).f1) (zA3 t a f && Qz t a (f + 1) d && R) := by
      intro hnb
      refine qg (fun k => by rw [zM.j3, qF.f, if_neg (by simp), yfy, zDj, yfy, QE (by omega) (by omega)]) ?_
      unfold zA3
      by_cases hi : 0 ≤ (fc t a f).f0 ∧ (fc t a f).f0 < (t.length : Int)
      · refine qh (by simp; omega) ?_
        refine Ev.bind (zA5 (zBj _)) ?_
        rw [if_neg (by omega)]
        by_cases hp : 0 ≤ (fc t a f).f1 ∧ (fc t a f).f1 ≤ 23
        · rw [if_pos ⟨hi.1, hi.2, hp.1, hp.2⟩]
          have e : (!(decide (0 ≤ (fc t a f).f1) && decide ((fc t a f).f1 ≤ 23))) = false := by simp [hp]
          rw [e]
          obtain ⟨hg0, hg1⟩ := zB6 hp.1 hp.2 hf (by omega)
          have hr2 := row4 h4 hi.1 hi.2
          refine qg (fun k => by rw [zM.j4, if_neg (by simp)]) ?_
          refine Ev.bind (zDk hp.1 hp.2 hf (by omega)) ?_
          refine Ev.bind (zCM hp.1 hp.2) ?_
          refine qh hi.1 (qh hi.2 (qh hg0 (qh (by rw [hr2]; omega) ?_)))
          change Ev (fun k => if (!((fc t (fc t a f).f0 (rd (Zb (fc t a f).f1) f)).f0 == a) || !((fc t (fc t a f).f0 (rd (Zb (fc t a f).f1) f)).f1 == Jd (fc t a f).f1)) = true then _ else _) _
          generalize ((fc t (fc t a f).f0 (rd (Zb (fc t a f).f1) f)).f0 == a) = b1
          generalize ((fc t (fc t a f).f0 (rd (Zb (fc t a f).f1) f)).f1 == Jd (fc t a f).f1) = b2
          cases b1 with
          | false => exact qh rfl (by rw [Bool.false_and, Bool.false_and, Bool.false_and, Bool.false_and]; exact Ev.now false)
          | true =>
            cases b2 with
            | false => exact qh rfl (by rw [Bool.true_and, Bool.false_and, Bool.false_and, Bool.false_and]; exact Ev.now false)
            | true =>
              refine Zg (by simp) ?_
              rw [Bool.true_and, Bool.true_and]
              by_cases ha : (fc t a f).f0 = a
              · refine qh ha ?_
                by_cases hg : rd (Zb (fc t a f).f1) f = f
                · refine qh hg ?_
                  rw [ha, hg]
                  simp
                  exact Ev.now false
                · refine Zg hg ?_
                  have : (rd (Zb (fc t a f).f1) f == f) = false := by simp [hg]
                  rw [this, Bool.and_false, Bool.not_false, Bool.true_and]
                  exact ih
              · refine Zg ha ?_
                have : ((fc t a f).f0 == a) = false := by simp [ha]
                rw [this, Bool.false_and, Bool.not_false, Bool.true_and]
                exact ih
        · rw [if_neg (by omega)]
          have e : (!(decide (0 ≤ (fc t a f).f1) && decide ((fc t a f).f1 ≤ 23))) = true := by
            rw [Bool.not_eq_true', Bool.and_eq_false_iff, decide_eq_false_iff_not, decide_eq_false_iff_not]; omega
          rw [e, Bool.false_and]
          exact hstop R
      · have hg : (if (fc t a f).f0 = -1 then ((fc t a f).f1 == 0) else if 0 ≤ (fc t a f).f0 ∧ (fc t a f).f0 < (t.length : Int) ∧ 0 ≤ (fc t a f).f1 ∧ (fc t a f).f1 ≤ 23 then
            ((fc t (fc t a f).f0 (rd (Zb (fc t a f).f1) f)).f0 == a && (fc t (fc t a f).f0 (rd (Zb (fc t a f).f1) f)).f1 == Jd (fc t a f).f1) && !((fc t a f).f0 == a && rd (Zb (fc t a f).f1) f == f) else false) = false := by
          by_cases hb : (fc t a f).f0 = -1
          · rw [if_pos hb]; simp; intro h; exact hnb ⟨hb, h⟩
          · rw [if_neg hb, if_neg (by omega)]
        rw [hg, Bool.false_and]
        refine Zg ?_ (hstop R)
        rw [Bool.and_eq_true, decide_eq_true_eq, decide_eq_true_eq]; omega
    by_cases hb : (fc t a f).f0 = -1
    · refine qh hb ?_
      by_cases h0' : (fc t a f).f1 = 0
      · have e : zA3 t a f = true := by unfold zA3; rw [if_pos hb]; simp [h0']
        rw [e, Bool.true_and]
        have e2 : ((fc t a f).f1 == 0) = true := by simp [h0']
        rw [e2]; exact hgo
      · have e2 : ((fc t a f).f1 == 0) = false := by simp [h0']
        rw [e2]; exact hrest (fun h => h0' h.2)
    · exact Zg hb (hrest (fun h => hb h.1))
theorem zAn (h4 : ∀ r ∈ t, r.length = 4) (hn : t.length ≤ 8) : ∀ (d : Nat) (a : Int), 0 ≤ a → a + d = t.length → Ev (fun k => zM.l1 k a t) (JX t a d)
  | 0, a, ha, he => by
    refine qg (fun k => by rw [zM.l1, qF.f, yfy, if_neg (by omega)]) ?_
    exact Ev.now true
  | d + 1, a, ha, he => by
    refine qg (fun k => by rw [zM.l1, qF.f, yfy, if_pos (by omega)]) ?_
    rw [JX]
    exact zAm h4 hn ha (by omega) (zAn h4 hn d (a + 1) (by omega) (by omega)) 4 0 (by omega) (by omega)
theorem zCR (h8 : t.length ≤ 8) (d : Nat) : ∀ n : Nat, n + d = t.length → (t.all (fun r => decide (r.length = 4)) = (t.drop n).all (fun r => decide (r.length = 4))) → Ev (fun k => zM.l0 k (n : Int) t) (t.all (fun r => decide (r.length = 4)) && JX t 0 t.length) := by
  induction d with
  | zero =>
    intro n hn ha
    refine qg (fun k => by rw [zM.l0, if_neg (by omega)]) ?_
    have hall : t.all (fun r => decide (r.length = 4)) = true := by rw [ha, List.drop_eq_nil_of_le (by omega)]; rfl
    rw [hall, Bool.true_and]
    exact zAn (zB8.1 hall) h8 t.length 0 (by omega) (by omega)
  | succ d ih =>
    intro n hn ha
    have hlt : n < t.length := by omega
    refine qg (fun k => by rw [zM.l0, if_pos (by omega), if_pos (by omega), JJ t n hlt]) ?_
    rw [List.drop_eq_getElem_cons hlt, List.all_cons] at ha
    by_cases h : t[n].length = 4
    · refine qh (by omega) ?_
      refine Ev.congr (fun k => by rw [Zu (by omega)]) (ih (n + 1) (by omega) ?_)
      rw [ha, ygy h, Bool.true_and]
    · refine Zg (by omega) ?_
      rw [ha, yhy h, Bool.false_and, Bool.false_and]
      exact Ev.now false
theorem Jp (t : Tri) : Ev (fun k => zM.f k t) (QU t) := by
  refine Ev.congr (fun k => by unfold zM.f qF.f; rw [yfy]) ?_
  unfold QU
  by_cases h8 : t.length ≤ 8
  · refine Zg (by omega) ?_
    rw [ygy h8, Bool.true_and]
    exact zCR h8 t.length 0 (by omega) (by rw [List.drop_zero])
  · refine qh (by omega) ?_
    rw [yhy h8, Bool.false_and]
    exact Ev.now false
end
theorem Zq {t : Tri} (h : QU t = true) : t.length ≤ 8 ∧ (∀ r ∈ t, r.length = 4) ∧ JX t 0 t.length = true := by
  unfold QU at h
  rw [Bool.and_eq_true, Bool.and_eq_true, decide_eq_true_eq] at h
  exact ⟨h.1, zB8.1 h.2.1, h.2.2⟩
theorem zDF (t : Tri) (a : Int) (d : Nat) : ∀ f, Qz t a f d = true → ∀ g, f ≤ g → g < f + d → zA3 t a g = true := by
  induction d with
  | zero => intro f _ g h1 h2; omega
  | succ d ih =>
    intro f h g h1 h2
    rw [Qz, Bool.and_eq_true] at h
    by_cases e : g = f
    · rw [e]; exact h.1
    · exact ih (f + 1) h.2 g (by omega) (by omega)
theorem zDG (t : Tri) (d : Nat) : ∀ a, JX t a d = true → ∀ b, a ≤ b → b < a + d → ∀ g, 0 ≤ g → g ≤ 3 → zA3 t b g = true := by
  induction d with
  | zero => intro a _ b h1 h2; omega
  | succ d ih =>
    intro a h b h1 h2 g hg0 hg1
    rw [JX, Bool.and_eq_true] at h
    by_cases e : b = a
    · rw [e]; exact zDF t a 4 0 h.1 g hg0 (by omega)
    · exact ih (a + 1) h.2 b (by omega) (by omega) g hg0 hg1
theorem zBS {t : Tri} (h : QU t = true) {a f : Int} (h0 : 0 ≤ a) (h1 : a < t.length) (hf0 : 0 ≤ f) (hf1 : f ≤ 3) :
    ((fc t a f).f0 = -1 ∧ (fc t a f).f1 = 0) ∨
    ((0 ≤ (fc t a f).f0 ∧ (fc t a f).f0 < (t.length : Int) ∧ 0 ≤ (fc t a f).f1 ∧ (fc t a f).f1 ≤ 23) ∧
      (fc t (fc t a f).f0 (rd (Zb (fc t a f).f1) f)).f0 = a ∧ (fc t (fc t a f).f0 (rd (Zb (fc t a f).f1) f)).f1 = Jd (fc t a f).f1 ∧ ¬ ((fc t a f).f0 = a ∧ rd (Zb (fc t a f).f1) f = f)) := by
  have hg := zDG t t.length 0 (Zq h).2.2 a h0 (by omega) f hf0 hf1
  unfold zA3 at hg
  by_cases hb : (fc t a f).f0 = -1
  · rw [if_pos hb] at hg
    exact .inl ⟨hb, by simpa using hg⟩
  · rw [if_neg hb] at hg
    by_cases hi : 0 ≤ (fc t a f).f0 ∧ (fc t a f).f0 < (t.length : Int) ∧ 0 ≤ (fc t a f).f1 ∧ (fc t a f).f1 ≤ 23
    · rw [if_pos hi, Bool.and_eq_true, Bool.and_eq_true, Bool.not_eq_true'] at hg
      refine .inr ⟨hi, eq_of_beq hg.1.1, eq_of_beq hg.1.2, fun hc => ?_⟩
      have := hg.2
      rw [Bool.and_eq_false_iff] at this
      rcases this with h2 | h2
      · exact absurd hc.1 (by simpa using h2)
      · exact absurd hc.2 (by simpa using h2)
    · rw [if_neg hi] at hg; cases hg
theorem zDH {t : Tri} (h : QU t = true) {a : Int} (h0 : 0 ≤ a) (h1 : a < t.length) : (zG t a).length = 4 := row4 (Zq h).2.1 h0 h1
end Go.Proofs.Ytfnopcbicceeaaa.P
