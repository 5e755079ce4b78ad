/- The statement FnExactIsNormalSaid, proved: part 7 of 7 (texts of this session and of the kit's print, put together and cut to what is used by a program of it). -/
import Derived.Test.YthjpdljdodalaaaMFnExactIsNormal6
import Derived.Deep.Slices
import Derived.ChangeSame
import Derived.ChangeArms
import Derived.WideShapes
import Derived.Lib.SmallJoins
import Derived.ChangeShapes
import Derived.Test.YthjpdljdodalaaaRows
import Derived.WalkKit
import Derived.ProofKit
import Derived.OpenShut
import Derived.ShutString
import Derived.ChangeOld
import Derived.Below
import Derived.SizedLaws
import Derived.Carry

namespace Go.Proofs.Ythjpdljdodalaaa.P
open Go.RowKit Go.Proofs.YthjpdljdodalaaaW.PrintWords Go.Proofs.YthjpdljdodalaaaW.PrintLast Go.Proofs.YthjpdljdodalaaaW.PrintMore
attribute [local go_sem] qA qB qR qS zl zm qC qD
set_option linter.unusedVariables false
set_option linter.unusedSimpArgs false
def Za.f (k : Nat) (l0_0 : List (List (qY))) (l1 : List Int) : Option (Bool) := if (l1.length : Int) > 1048576 then (some true) else ((qo.f k l0_0 1048576).bind fun t102 => (if t102 < 0 then (some true) else ((zZ.f k l0_0).bind fun t103 => ((ze.f k l1).bind fun t106 => ((zb.f k t103 t106).bind fun t109 => ((zZ.f k l0_0).bind fun t110 => ((ze.f k l1).bind fun t114 => ((qq.f k t110 t114).bind fun t117 => (if (t117 != t109) = true then (some false) else ((zZ.f k l0_0).bind fun t118 => ((qQ.f k t110 t118).bind fun t121 => (if t121 = true then ((ze.f k l1).bind fun t122 => ((qK.f k t114 t122).bind fun t125 => (if t125 = true then (some true) else (some false)))) else (some false)))))))))))))
set_option maxHeartbeats 8000000 in
set_option maxRecDepth 100000 in
theorem Za.calls (k : Nat) (A0_0 : Option Addr) (c0_0 : Nat) (l0_0 : List (List (qY))) (A1 : Option Addr) (c1 : Nat) (l1 : List Int) (r : Bool) (w : World) (hr0_0 : Kd.C (Kd.slice 136 Zt) w A0_0 l0_0.length l0_0) (hc0_0 : l0_0.length ≤ c0_0) (hr1 : Kd.C (Kd.int .i64) w A1 l1.length l1) (hc1 : l1.length ≤ c1) (h : Za.f k l0_0 l1 = some r) :
 Calls Try.prog 3 #[.agg #[.slice A0_0 l0_0.length c0_0], .slice A1 l1.length c1] w fun e w' => e = .returned (.bool r) ∧ Below w.heap.size w w' := by
 have hu24 := Try.underlying24
 have hu30 := Try.underlying30
 have HR0_0 := zB.mk hr0_0
 have HC0_0 := zB.mk hc0_0
 clear hr0_0 hc0_0
 have HR1 := zB.mk hr1
 have HC1 := zB.mk hc1
 clear hr1 hc1
 have HB := zB.mk (Below.refl w.heap.size w)
 have H : (if (l1.length : Int) > 1048576 then (some true) else ((qo.f k l0_0 1048576).bind fun t102 => (if t102 < 0 then (some true) else ((zZ.f k l0_0).bind fun t103 => ((ze.f k l1).bind fun t106 => ((zb.f k t103 t106).bind fun t109 => ((zZ.f k l0_0).bind fun t110 => ((ze.f k l1).bind fun t114 => ((qq.f k t110 t114).bind fun t117 => (if (t117 != t109) = true then (some false) else ((zZ.f k l0_0).bind fun t118 => ((qQ.f k t110 t118).bind fun t121 => (if t121 = true then ((ze.f k l1).bind fun t122 => ((qK.f k t114 t122).bind fun t125 => (if t125 = true then (some true) else (some false)))) else (some false)))))))))))))) = some r := h
 clear h
 by_cases c3 : (l1.length : Int) > 1048576
 next =>
  rw [if_pos c3] at H
  have c3b0 : decide (1048576 < (l1.length : Int)) = true := decide_eq_true c3
  have c3b1 : decide (1048576 < l1.length) = true := decide_eq_true (by omega)
  clear c3
  obtain rfl := Option.some.inj H
  go_enter Try.func3, Try.ntmps3
  go_wp2_with (first | ((with_reducible refine zw (N := 2) rfl ?_); refine zu ?hg (N := 2) ?hd (cs := #[.slice A0_0 l0_0.length c0_0]) (t := 24) ?hr ?_; (case hd => rfl); (case hg => rfl); (case hr => first | (go_simp; done) | (go_simp; rfl)); intro gb101 hg w4 hbox hb; have n0_ := zB.mk (zM (by repeat (first | (with_reducible first | exact HB.out | apply zC | apply zA | apply zD) | exact HB.out)) hb); have n1_ := zB.mk (hbox); have n2_ := zB.mk ((by rw [hg]; exact (zN (by repeat (first | (with_reducible first | exact HB.out | apply zC | apply zA | apply zD) | exact HB.out))) : w.heap.size ≤ gb101)); have n3_ := zB.mk ((by rw [hg]; exact (zN (by repeat (first | (with_reducible first | exact HB.out | apply zC | apply zA | apply zD) | exact HB.out))) : w.heap.size ≤ gb101)); clear HB; have HB := n0_; have BK101 := n1_; have GW101 := n2_; have GE101 := n3_; clear n0_ n1_ n2_ n3_; clear hb hbox hg))
  go_ret
  exact ⟨by first | rfl | (simp [zT, zU] <;> rfl) | (simp [*, zT, zU] <;> rfl), by repeat (first | (with_reducible first | exact HB.out | apply zC | apply zA | apply zD | refine zF ?_ GE101.out) | exact HB.out)⟩
 next =>
  rw [if_neg c3] at H
  have c3b0 : decide (1048576 < (l1.length : Int)) = false := decide_eq_false c3
  have c3b1 : decide (1048576 < l1.length) = false := decide_eq_false (by omega)
  clear c3
  replace H := Option.bind_eq_some_iff.mp H
  obtain ⟨t102, A50, H⟩ := H
  replace H : (if t102 < 0 then (some true) else ((zZ.f k l0_0).bind fun t103 => ((ze.f k l1).bind fun t106 => ((zb.f k t103 t106).bind fun t109 => ((zZ.f k l0_0).bind fun t110 => ((ze.f k l1).bind fun t114 => ((qq.f k t110 t114).bind fun t117 => (if (t117 != t109) = true then (some false) else ((zZ.f k l0_0).bind fun t118 => ((qQ.f k t110 t118).bind fun t121 => (if t121 = true then ((ze.f k l1).bind fun t122 => ((qK.f k t114 t122).bind fun t125 => (if t125 = true then (some true) else (some false)))) else (some false)))))))))))) = some r := H
  have A5 := zB.mk A50
  clear A50
  by_cases c6 : t102 < 0
  next =>
   rw [if_pos c6] at H
   have c6b0 : decide (t102 < 0) = true := decide_eq_true c6
   clear c6
   obtain rfl := Option.some.inj H
   go_enter Try.func3, Try.ntmps3
   go_wp2_with (first | ((with_reducible refine zw (N := 2) rfl ?_); refine zu ?hg (N := 2) ?hd (cs := #[.slice A0_0 l0_0.length c0_0]) (t := 24) ?hr ?_; (case hd => rfl); (case hg => rfl); (case hr => first | (go_simp; done) | (go_simp; rfl)); intro gb101 hg w7 hbox hb; have n0_ := zB.mk (zM (by repeat (first | (with_reducible first | exact HB.out | apply zC | apply zA | apply zD) | exact HB.out)) hb); have n1_ := zB.mk (hbox); have n2_ := zB.mk ((by rw [hg]; exact (zN (by repeat (first | (with_reducible first | exact HB.out | apply zC | apply zA | apply zD) | exact HB.out))) : w.heap.size ≤ gb101)); have n3_ := zB.mk ((by rw [hg]; exact (zN (by repeat (first | (with_reducible first | exact HB.out | apply zC | apply zA | apply zD) | exact HB.out))) : w.heap.size ≤ gb101)); clear HB; have HB := n0_; have BK101 := n1_; have GW101 := n2_; have GE101 := n3_; clear n0_ n1_ n2_ n3_; clear hb hbox hg; have hcz8_0 : w7.cell? ⟨gb101, 0, none⟩ = some (.slice A0_0 l0_0.length c0_0) := (zL BK101.out 0).trans rfl; have hfz8_0 := zO BK101.out 0) | ((with_reducible refine zR (f := 15) rfl ?_); refine qO (some 15) rfl rfl Try.func15 (by kernel_rfl) rfl #[.agg #[.slice A0_0 l0_0.length c0_0], .int .i64 1048576] rfl (by (try simp only [List.map_toArray, List.map_cons, List.map_nil]); first | done | rfl | (simp only [List.length_drop, List.length_take]; rfl)) ?_; (with_reducible refine (qo.calls k _ _ l0_0 1048576 t102 _ ?side1 ?side2 A5.out).mono ?_); (case side1 => repeat (first | exact (Kd.zy HR0_0.out HB.out) | (with_reducible refine Kd.zi ?_ _) | (with_reducible refine Kd.zj ?_ _) | (with_reducible refine Kd.zz ?_))); (case side2 => exact HC0_0.out); rintro e w9 ⟨rfl, hb⟩; refine ⟨_, rfl, ?_⟩; have n0_ := zB.mk (zP (g := gb101) (o := .cells #[.slice A0_0 l0_0.length c0_0] 24 (0, 0)) (by (with_reducible repeat (first | refine zH ?_ _ | refine zJ ?_ | refine zG ?_ _)); exact BK101.out) hb); have n1_ := zB.mk (zM (by repeat (first | (with_reducible first | exact HB.out | apply zC | apply zA | apply zD | refine zF ?_ GE101.out) | exact HB.out)) hb); clear BK101; clear HB; have BK101 := n0_; have HB := n1_; clear n0_ n1_; (try clear hb); (try clear hb2); (try clear hk); (try clear hi)))
   go_ret
   exact ⟨by first | rfl | (simp [zT, zU] <;> rfl) | (simp [*, zT, zU] <;> rfl), by repeat (first | (with_reducible first | exact HB.out | apply zC | apply zA | apply zD | refine zF ?_ GE101.out) | exact HB.out)⟩
  next =>
   rw [if_neg c6] at H
   have c6b0 : decide (t102 < 0) = false := decide_eq_false c6
   clear c6
   replace H := Option.bind_eq_some_iff.mp H
   obtain ⟨t103, A100, H⟩ := H
   replace H : ((ze.f k l1).bind fun t106 => ((zb.f k t103 t106).bind fun t109 => ((zZ.f k l0_0).bind fun t110 => ((ze.f k l1).bind fun t114 => ((qq.f k t110 t114).bind fun t117 => (if (t117 != t109) = true then (some false) else ((zZ.f k l0_0).bind fun t118 => ((qQ.f k t110 t118).bind fun t121 => (if t121 = true then ((ze.f k l1).bind fun t122 => ((qK.f k t114 t122).bind fun t125 => (if t125 = true then (some true) else (some false)))) else (some false)))))))))) = some r := H
   have A10 := zB.mk A100
   clear A100
   replace H := Option.bind_eq_some_iff.mp H
   obtain ⟨t106, A110, H⟩ := H
   replace H : ((zb.f k t103 t106).bind fun t109 => ((zZ.f k l0_0).bind fun t110 => ((ze.f k l1).bind fun t114 => ((qq.f k t110 t114).bind fun t117 => (if (t117 != t109) = true then (some false) else ((zZ.f k l0_0).bind fun t118 => ((qQ.f k t110 t118).bind fun t121 => (if t121 = true then ((ze.f k l1).bind fun t122 => ((qK.f k t114 t122).bind fun t125 => (if t125 = true then (some true) else (some false)))) else (some false))))))))) = some r := H
   have A11 := zB.mk A110
   clear A110
   replace H := Option.bind_eq_some_iff.mp H
   obtain ⟨t109, A120, H⟩ := H
   replace H : ((zZ.f k l0_0).bind fun t110 => ((ze.f k l1).bind fun t114 => ((qq.f k t110 t114).bind fun t117 => (if (t117 != t109) = true then (some false) else ((zZ.f k l0_0).bind fun t118 => ((qQ.f k t110 t118).bind fun t121 => (if t121 = true then ((ze.f k l1).bind fun t122 => ((qK.f k t114 t122).bind fun t125 => (if t125 = true then (some true) else (some false)))) else (some false)))))))) = some r := H
   have A12 := zB.mk A120
   clear A120
   replace H := Option.bind_eq_some_iff.mp H
   obtain ⟨t110, A130, H⟩ := H
   replace H : ((ze.f k l1).bind fun t114 => ((qq.f k t110 t114).bind fun t117 => (if (t117 != t109) = true then (some false) else ((zZ.f k l0_0).bind fun t118 => ((qQ.f k t110 t118).bind fun t121 => (if t121 = true then ((ze.f k l1).bind fun t122 => ((qK.f k t114 t122).bind fun t125 => (if t125 = true then (some true) else (some false)))) else (some false))))))) = some r := H
   have A13 := zB.mk A130
   clear A130
   replace H := Option.bind_eq_some_iff.mp H
   obtain ⟨t114, A140, H⟩ := H
   replace H : ((qq.f k t110 t114).bind fun t117 => (if (t117 != t109) = true then (some false) else ((zZ.f k l0_0).bind fun t118 => ((qQ.f k t110 t118).bind fun t121 => (if t121 = true then ((ze.f k l1).bind fun t122 => ((qK.f k t114 t122).bind fun t125 => (if t125 = true then (some true) else (some false)))) else (some false)))))) = some r := H
   have A14 := zB.mk A140
   clear A140
   replace H := Option.bind_eq_some_iff.mp H
   obtain ⟨t117, A150, H⟩ := H
   replace H : (if (t117 != t109) = true then (some false) else ((zZ.f k l0_0).bind fun t118 => ((qQ.f k t110 t118).bind fun t121 => (if t121 = true then ((ze.f k l1).bind fun t122 => ((qK.f k t114 t122).bind fun t125 => (if t125 = true then (some true) else (some false)))) else (some false))))) = some r := H
   have A15 := zB.mk A150
   clear A150
   by_cases c16 : (t117 != t109) = true
   next =>
    rw [if_pos c16] at H
    have c16b0 : (t117 != t109) = true := c16
    (try (have c16b1 : decide (t117 = t109) = false := by simpa using c16))
    (try (have c16b2 : (t117 == t109) = false := by simpa using c16))
    (try (have c16b3 : ¬ (t117 = t109) := by simpa using c16))
    clear c16
    obtain rfl := Option.some.inj H
    go_enter Try.func3, Try.ntmps3
    go_wp2_with (first | ((with_reducible refine zw (N := 2) rfl ?_); refine zu ?hg (N := 2) ?hd (cs := #[.slice A0_0 l0_0.length c0_0]) (t := 24) ?hr ?_; (case hd => rfl); (case hg => rfl); (case hr => first | (go_simp; done) | (go_simp; rfl)); intro gb101 hg w17 hbox hb; have n0_ := zB.mk (zM (by repeat (first | (with_reducible first | exact HB.out | apply zC | apply zA | apply zD) | exact HB.out)) hb); have n1_ := zB.mk (hbox); have n2_ := zB.mk ((by rw [hg]; exact (zN (by repeat (first | (with_reducible first | exact HB.out | apply zC | apply zA | apply zD) | exact HB.out))) : w.heap.size ≤ gb101)); have n3_ := zB.mk ((by rw [hg]; exact (zN (by repeat (first | (with_reducible first | exact HB.out | apply zC | apply zA | apply zD) | exact HB.out))) : w.heap.size ≤ gb101)); clear HB; have HB := n0_; have BK101 := n1_; have GW101 := n2_; have GE101 := n3_; clear n0_ n1_ n2_ n3_; clear hb hbox hg; have hcz18_0 : w17.cell? ⟨gb101, 0, none⟩ = some (.slice A0_0 l0_0.length c0_0) := (zL BK101.out 0).trans rfl; have hfz18_0 := zO BK101.out 0) | ((with_reducible refine zR (f := 15) rfl ?_); refine qO (some 15) rfl rfl Try.func15 (by kernel_rfl) rfl #[.agg #[.slice A0_0 l0_0.length c0_0], .int .i64 1048576] rfl (by (try simp only [List.map_toArray, List.map_cons, List.map_nil]); first | done | rfl | (simp only [List.length_drop, List.length_take]; rfl)) ?_; (with_reducible refine (qo.calls k _ _ l0_0 1048576 t102 _ ?side1 ?side2 A5.out).mono ?_); (case side1 => repeat (first | exact (Kd.zy HR0_0.out HB.out) | (with_reducible refine Kd.zi ?_ _) | (with_reducible refine Kd.zj ?_ _) | (with_reducible refine Kd.zz ?_))); (case side2 => exact HC0_0.out); rintro e w19 ⟨rfl, hb⟩; refine ⟨_, rfl, ?_⟩; have n0_ := zB.mk (zP (g := gb101) (o := .cells #[.slice A0_0 l0_0.length c0_0] 24 (0, 0)) (by (with_reducible repeat (first | refine zH ?_ _ | refine zJ ?_ | refine zG ?_ _)); exact BK101.out) hb); have n1_ := zB.mk (zM (by repeat (first | (with_reducible first | exact HB.out | apply zC | apply zA | apply zD | refine zF ?_ GE101.out) | exact HB.out)) hb); clear BK101; clear HB; have BK101 := n0_; have HB := n1_; clear n0_ n1_; (try clear hb); (try clear hb2); (try clear hk); (try clear hi); have hcz20_0 : w19.cell? ⟨gb101, 0, none⟩ = some (.slice A0_0 l0_0.length c0_0) := (zL BK101.out 0).trans rfl; have hfz20_0 := zO BK101.out 0) | ((with_reducible refine zR (f := 17) rfl ?_); refine qO (some 19) rfl rfl Try.func17 (by kernel_rfl) rfl #[.agg #[.slice A0_0 l0_0.length c0_0]] rfl (by (try simp only [List.map_toArray, List.map_cons, List.map_nil]); first | done | rfl | (simp only [List.length_drop, List.length_take]; rfl)) ?_; (with_reducible refine (zZ.calls k _ _ l0_0 t103 _ ?side1 ?side2 A10.out).mono ?_); (case side1 => repeat (first | exact (Kd.zy HR0_0.out HB.out) | (with_reducible refine Kd.zi ?_ _) | (with_reducible refine Kd.zj ?_ _) | (with_reducible refine Kd.zz ?_))); (case side2 => exact HC0_0.out); rintro e w21 ⟨v104, rfl, ho0, hb⟩; refine ⟨_, rfl, ?_⟩; have n0_ := zB.mk (Kd.Zn ho0 (zN (by repeat (first | (with_reducible first | exact HB.out | apply zC | apply zA | apply zD | refine zF ?_ GE101.out) | exact HB.out)))); have n1_ := zB.mk (zP (g := gb101) (o := .cells #[.slice A0_0 l0_0.length c0_0] 24 (0, 0)) (by (with_reducible repeat (first | refine zH ?_ _ | refine zJ ?_ | refine zG ?_ _)); exact BK101.out) hb); have n2_ := zB.mk (zM (by repeat (first | (with_reducible first | exact HB.out | apply zC | apply zA | apply zD | refine zF ?_ GE101.out) | exact HB.out)) hb); clear BK101; clear HB; have HO105 := n0_; have BK101 := n1_; have HB := n2_; clear n0_ n1_ n2_; (try clear hb); (try clear hb2); (try clear hk); (try clear hi); (try clear ho0)) | ((with_reducible refine zR (f := 18) rfl ?_); refine qO (some 21) rfl rfl Try.func18 (by kernel_rfl) rfl #[.slice A1 l1.length c1] rfl (by (try simp only [List.map_toArray, List.map_cons, List.map_nil]); first | done | rfl | (simp only [List.length_drop, List.length_take]; rfl)) ?_; (with_reducible refine (ze.calls k _ _ l1 t106 _ ?side1 ?side2 A11.out).mono ?_); (case side1 => repeat (first | exact (Kd.zy HR1.out HB.out) | (with_reducible refine Kd.zi ?_ _) | (with_reducible refine Kd.zj ?_ _) | (with_reducible refine Kd.zz ?_))); (case side2 => exact HC1.out); rintro e w22 ⟨v107, rfl, ho0, hb⟩; refine ⟨_, rfl, ?_⟩; have n0_ := zB.mk (Kd.qX (by (with_reducible repeat (first | apply Kd.zc | apply Kd.zd | apply Kd.zr)); exact HO105.out) hb); have n1_ := zB.mk (Kd.ZF ho0 (zN (by repeat (first | (with_reducible first | exact HB.out | apply zC | apply zA | apply zD | refine zF ?_ GE101.out) | exact HB.out)))); have n2_ := zB.mk (zP (g := gb101) (o := .cells #[.slice A0_0 l0_0.length c0_0] 24 (0, 0)) (by (with_reducible repeat (first | refine zH ?_ _ | refine zJ ?_ | refine zG ?_ _)); exact BK101.out) hb); have n3_ := zB.mk (zM (by repeat (first | (with_reducible first | exact HB.out | apply zC | apply zA | apply zD | refine zF ?_ GE101.out) | exact HB.out)) hb); clear HO105; clear BK101; clear HB; have HO105 := n0_; have HO108 := n1_; have BK101 := n2_; have HB := n3_; clear n0_ n1_ n2_ n3_; (try clear hb); (try clear hb2); (try clear hk); (try clear hi); (try clear ho0); obtain ⟨Ao23, co23, eo23⟩ := Kd.Zo HO105.out; subst eo23; obtain ⟨Ao24, co24, eo24⟩ := Kd.ZS HO108.out; subst eo24) | ((with_reducible refine zR (f := 16) rfl ?_); refine qO (some 22) rfl rfl Try.func16 (by kernel_rfl) rfl #[.agg #[.slice Ao23 t103.length co23], .slice Ao24 t106.length co24] rfl (by (try simp only [List.map_toArray, List.map_cons, List.map_nil]); first | done | rfl | (simp only [List.length_drop, List.length_take]; rfl)) ?_; (with_reducible refine (zb.calls k _ _ t103 _ _ t106 t109 _ ?side1 ?side2 ?side3 ?side4 A12.out).mono ?_); (case side1 => repeat (first | exact (Kd.qk HO105.out).2.2 | (with_reducible refine Kd.zi ?_ _) | (with_reducible refine Kd.zj ?_ _) | (with_reducible refine Kd.zz ?_))); (case side2 => exact (Kd.qk HO105.out).2.1); (case side3 => repeat (first | exact (Kd.zv HO108.out).2.2 | (with_reducible refine Kd.zi ?_ _) | (with_reducible refine Kd.zj ?_ _) | (with_reducible refine Kd.zz ?_))); (case side4 => exact (Kd.zv HO108.out).2.1); rintro e w25 ⟨rfl, hb⟩; refine ⟨_, rfl, ?_⟩; have n0_ := zB.mk (Kd.qX (by (with_reducible repeat (first | apply Kd.zc | apply Kd.zd | apply Kd.zr)); exact HO105.out) hb); have n1_ := zB.mk (Kd.qi (by (with_reducible repeat (first | apply Kd.zg | apply Kd.zf | apply Kd.zp)); exact HO108.out) hb); have n2_ := zB.mk (zP (g := gb101) (o := .cells #[.slice A0_0 l0_0.length c0_0] 24 (0, 0)) (by (with_reducible repeat (first | refine zH ?_ _ | refine zJ ?_ | refine zG ?_ _)); exact BK101.out) hb); have n3_ := zB.mk (zM (by repeat (first | (with_reducible first | exact HB.out | apply zC | apply zA | apply zD | refine zF ?_ GE101.out) | exact HB.out)) hb); clear HO105; clear HO108; clear BK101; clear HB; have HO105 := n0_; have HO108 := n1_; have BK101 := n2_; have HB := n3_; clear n0_ n1_ n2_ n3_; (try clear hb); (try clear hb2); (try clear hk); (try clear hi); have hcz26_0 : w25.cell? ⟨gb101, 0, none⟩ = some (.slice A0_0 l0_0.length c0_0) := (zL BK101.out 0).trans rfl; have hfz26_0 := zO BK101.out 0) | ((with_reducible refine zR (f := 17) rfl ?_); refine qO (some 24) rfl rfl Try.func17 (by kernel_rfl) rfl #[.agg #[.slice A0_0 l0_0.length c0_0]] rfl (by (try simp only [List.map_toArray, List.map_cons, List.map_nil]); first | done | rfl | (simp only [List.length_drop, List.length_take]; rfl)) ?_; (with_reducible refine (zZ.calls k _ _ l0_0 t110 _ ?side1 ?side2 A13.out).mono ?_); (case side1 => repeat (first | exact (Kd.zy HR0_0.out HB.out) | (with_reducible refine Kd.zi ?_ _) | (with_reducible refine Kd.zj ?_ _) | (with_reducible refine Kd.zz ?_))); (case side2 => exact HC0_0.out); rintro e w27 ⟨v111, rfl, ho0, hb⟩; refine ⟨_, rfl, ?_⟩; have n0_ := zB.mk (Kd.ZZ (by (with_reducible repeat (first | apply Kd.zc | apply Kd.zd | apply Kd.zr)); exact HO105.out) (Kd.Qv ho0) hb); have n1_ := zB.mk (Kd.qi (by (with_reducible repeat (first | apply Kd.zg | apply Kd.zf | apply Kd.zp)); exact HO108.out) hb); have n2_ := zB.mk (Kd.Zn (Kd.Qw ho0 (Kd.zCr (by (with_reducible repeat (first | apply Kd.zc | apply Kd.zd | apply Kd.zr)); exact HO105.out))) (zN (by repeat (first | (with_reducible first | exact HB.out | apply zC | apply zA | apply zD | refine zF ?_ GE101.out) | exact HB.out)))); have n3_ := zB.mk (zP (g := gb101) (o := .cells #[.slice A0_0 l0_0.length c0_0] 24 (0, 0)) (by (with_reducible repeat (first | refine zH ?_ _ | refine zJ ?_ | refine zG ?_ _)); exact BK101.out) hb); have n4_ := zB.mk (zM (by repeat (first | (with_reducible first | exact HB.out | apply zC | apply zA | apply zD | refine zF ?_ GE101.out) | exact HB.out)) hb); clear HO105; clear HO108; clear BK101; clear HB; have HO105 := n0_; have HO108 := n1_; have HO112 := n2_; have BK101 := n3_; have HB := n4_; clear n0_ n1_ n2_ n3_ n4_; (try clear hb); (try clear hb2); (try clear hk); (try clear hi); (try clear ho0)) | ((with_reducible refine zw (N := 7) rfl ?_); refine zu ?hg (N := 7) ?hd (cs := #[.slice none 0 0]) (t := 30) ?hr ?_; (case hd => rfl); (case hg => rfl); (case hr => first | (go_simp; done) | (go_simp; rfl)); intro gb113 hg w28 hbox hb; have n0_ := zB.mk (Kd.qX (by (with_reducible repeat (first | apply Kd.zc | apply Kd.zd | apply Kd.zr)); exact HO105.out) hb); have n1_ := zB.mk (Kd.qi (by (with_reducible repeat (first | apply Kd.zg | apply Kd.zf | apply Kd.zp)); exact HO108.out) hb); have n2_ := zB.mk (Kd.qX (by (with_reducible repeat (first | apply Kd.zc | apply Kd.zd | apply Kd.zr)); exact HO112.out) hb); have n3_ := zB.mk (zP (g := gb101) (o := .cells #[.slice A0_0 l0_0.length c0_0] 24 (0, 0)) (by (with_reducible repeat (first | refine zH ?_ _ | refine zJ ?_ | refine zG ?_ _)); exact BK101.out) hb); have n4_ := zB.mk (zM (by repeat (first | (with_reducible first | exact HB.out | apply zC | apply zA | apply zD | refine zF ?_ GE101.out) | exact HB.out)) hb); have n5_ := zB.mk (hbox); have n6_ := zB.mk ((by rw [hg]; exact (zN (by repeat (first | (with_reducible first | exact HB.out | apply zC | apply zA | apply zD | refine zF ?_ GE101.out) | exact HB.out))) : w.heap.size ≤ gb113)); have n7_ := zB.mk ((by rw [hg]; exact (zN (by repeat (first | (with_reducible first | exact HB.out | apply zC | apply zA | apply zD | refine zF ?_ GE101.out) | exact HB.out))) : w.heap.size ≤ gb113)); have n8_ := zB.mk ((by rw [hg]; exact Nat.ne_of_lt (qh (g := gb101) (o := .cells #[.slice A0_0 l0_0.length c0_0] 24 (0, 0)) (by (with_reducible repeat (first | refine zH ?_ _ | refine zJ ?_ | refine zG ?_ _)); exact BK101.out)) : gb101 ≠ gb113)); have n9_ := zB.mk ((by rw [hg]; exact Nat.ne_of_gt (qh (g := gb101) (o := .cells #[.slice A0_0 l0_0.length c0_0] 24 (0, 0)) (by (with_reducible repeat (first | refine zH ?_ _ | refine zJ ?_ | refine zG ?_ _)); exact BK101.out)) : gb113 ≠ gb101)); clear HO105; clear HO108; clear HO112; clear BK101; clear HB; have HO105 := n0_; have HO108 := n1_; have HO112 := n2_; have BK101 := n3_; have HB := n4_; have BK113 := n5_; have GW113 := n6_; have GE113 := n7_; have NB101_113 := n8_; have NB113_101 := n9_; clear n0_ n1_ n2_ n3_ n4_ n5_ n6_ n7_ n8_ n9_; clear hb hbox hg; obtain ⟨Ao29, co29, eo29⟩ := Kd.Zo HO112.out; subst eo29; have hnb30 := NB113_101.out; have hnc30 := NB101_113.out; have hcz31_0 : w28.cell? ⟨gb113, 0, none⟩ = some (.slice none 0 0) := (zL BK113.out 0).trans rfl; have hfz31_0 := zO BK113.out 0) | ((with_reducible refine zR (f := 18) rfl ?_); refine qO (some 26) rfl rfl Try.func18 (by kernel_rfl) rfl #[.slice A1 l1.length c1] rfl (by (try simp only [List.map_toArray, List.map_cons, List.map_nil]); first | done | rfl | (simp only [List.length_drop, List.length_take]; rfl)) ?_; (with_reducible refine (ze.calls k _ _ l1 t114 _ ?side1 ?side2 A14.out).mono ?_); (case side1 => exact Kd.zy HR1.out (by repeat (first | (with_reducible first | exact HB.out | apply zC | apply zA | apply zD | refine zF ?_ GE101.out | refine zF ?_ GE113.out) | exact HB.out))); (case side2 => exact HC1.out); rintro e w32 ⟨v115, rfl, ho0, hb⟩; refine ⟨_, rfl, ?_⟩; have n0_ := zB.mk (Kd.qX (by (with_reducible repeat (first | apply Kd.zc | apply Kd.zd | apply Kd.zr)); exact (Kd.ZM (Kd.Qq (p := ⟨gb113, 0, none⟩) (Kd.QC HO105.out BK113.out (by decide)) (fun _ hk => hk.2) (.slice Ao29 t110.length co29)) (fun _ h_ => h_.1))) hb); have n1_ := zB.mk (Kd.Ze (by (with_reducible repeat (first | apply Kd.zg | apply Kd.zf | apply Kd.zp)); exact (Kd.qb (Kd.JH (p := ⟨gb113, 0, none⟩) (Kd.Qa HO108.out BK113.out (by decide)) (fun _ hk => hk.2) (.slice Ao29 t110.length co29)) (fun _ h_ => h_.1))) (Kd.Zy ho0) hb); have n2_ := zB.mk (Kd.qX (by (with_reducible repeat (first | apply Kd.zc | apply Kd.zd | apply Kd.zr)); exact (Kd.ZM (Kd.Qq (p := ⟨gb113, 0, none⟩) (Kd.QC HO112.out BK113.out (by decide)) (fun _ hk => hk.2) (.slice Ao29 t110.length co29)) (fun _ h_ => h_.1))) hb); have n3_ := zB.mk (Kd.ZF (Kd.QU ho0 (Kd.JQ (by (with_reducible repeat (first | apply Kd.zg | apply Kd.zf | apply Kd.zp)); exact (Kd.qb (Kd.JH (p := ⟨gb113, 0, none⟩) (Kd.Qa HO108.out BK113.out (by decide)) (fun _ hk => hk.2) (.slice Ao29 t110.length co29)) (fun _ h_ => h_.1))))) (zN (by repeat (first | (with_reducible first | exact HB.out | apply zC | apply zA | apply zD | refine zF ?_ GE101.out | refine zF ?_ GE113.out) | exact HB.out)))); have n4_ := zB.mk (zP (g := gb101) (o := .cells #[.slice A0_0 l0_0.length c0_0] 24 (0, 0)) (by (with_reducible repeat (first | refine zH ?_ _ | refine zJ ?_ | refine zG ?_ _)); refine qa ?_ NB101_113.out _; (with_reducible repeat (first | refine zH ?_ _ | refine zJ ?_ | refine zG ?_ _)); exact BK101.out) hb); have n5_ := zB.mk (zP (g := gb113) (o := .cells #[.slice Ao29 t110.length co29] 30 (0, 0)) (by (with_reducible repeat (first | refine zH ?_ _ | refine zJ ?_ | refine zG ?_ _)); refine qe (cs := #[.slice none 0 0]) ?_ 0 _ rfl; (with_reducible repeat (first | refine zH ?_ _ | refine zJ ?_ | refine zG ?_ _)); exact BK113.out) hb); have n6_ := zB.mk (zM (by repeat (first | (with_reducible first | exact HB.out | apply zC | apply zA | apply zD | refine zF ?_ GE101.out | refine zF ?_ GE113.out) | exact HB.out)) hb); clear HO105; clear HO108; clear HO112; clear BK101; clear BK113; clear HB; have HO105 := n0_; have HO108 := n1_; have HO112 := n2_; have HO116 := n3_; have BK101 := n4_; have BK113 := n5_; have HB := n6_; clear n0_ n1_ n2_ n3_ n4_ n5_ n6_; (try clear hb); (try clear hb2); (try clear hk); (try clear hi); (try clear ho0); have hcz33_0 : w32.cell? ⟨gb113, 0, none⟩ = some (.slice Ao29 t110.length co29) := (zL BK113.out 0).trans rfl; have hfz33_0 := zO BK113.out 0; obtain ⟨Ao34, co34, eo34⟩ := Kd.ZS HO116.out; subst eo34) | ((with_reducible refine zR (f := 19) rfl ?_); refine qO (some 29) rfl rfl Try.func19 (by kernel_rfl) rfl #[.agg #[.slice Ao29 t110.length co29], .slice Ao34 t114.length co34] rfl (by (try simp only [List.map_toArray, List.map_cons, List.map_nil]); first | done | rfl | (simp only [List.length_drop, List.length_take]; rfl)) ?_; (with_reducible refine (qq.calls k _ _ t110 _ _ t114 t117 _ ?side1 ?side2 ?side3 ?side4 A15.out).mono ?_); (case side1 => repeat (first | exact (Kd.qk HO112.out).2.2 | (with_reducible refine Kd.zi ?_ _) | (with_reducible refine Kd.zj ?_ _) | (with_reducible refine Kd.zz ?_))); (case side2 => exact (Kd.qk HO112.out).2.1); (case side3 => repeat (first | exact (Kd.zv HO116.out).2.2 | (with_reducible refine Kd.zi ?_ _) | (with_reducible refine Kd.zj ?_ _) | (with_reducible refine Kd.zz ?_))); (case side4 => exact (Kd.zv HO116.out).2.1); rintro e w35 ⟨rfl, hb⟩; refine ⟨_, rfl, ?_⟩; have n0_ := zB.mk (Kd.qX (by (with_reducible repeat (first | apply Kd.zc | apply Kd.zd | apply Kd.zr)); exact HO105.out) hb); have n1_ := zB.mk (Kd.qi (by (with_reducible repeat (first | apply Kd.zg | apply Kd.zf | apply Kd.zp)); exact HO108.out) hb); have n2_ := zB.mk (Kd.qX (by (with_reducible repeat (first | apply Kd.zc | apply Kd.zd | apply Kd.zr)); exact HO112.out) hb); have n3_ := zB.mk (Kd.qi (by (with_reducible repeat (first | apply Kd.zg | apply Kd.zf | apply Kd.zp)); exact HO116.out) hb); have n4_ := zB.mk (zP (g := gb101) (o := .cells #[.slice A0_0 l0_0.length c0_0] 24 (0, 0)) (by (with_reducible repeat (first | refine zH ?_ _ | refine zJ ?_ | refine zG ?_ _)); exact BK101.out) hb); have n5_ := zB.mk (zP (g := gb113) (o := .cells #[.slice Ao29 t110.length co29] 30 (0, 0)) (by (with_reducible repeat (first | refine zH ?_ _ | refine zJ ?_ | refine zG ?_ _)); exact BK113.out) hb); have n6_ := zB.mk (zM (by repeat (first | (with_reducible first | exact HB.out | apply zC | apply zA | apply zD | refine zF ?_ GE101.out | refine zF ?_ GE113.out) | exact HB.out)) hb); clear HO105; clear HO108; clear HO112; clear HO116; clear BK101; clear BK113; clear HB; have HO105 := n0_; have HO108 := n1_; have HO112 := n2_; have HO116 := n3_; have BK101 := n4_; have BK113 := n5_; have HB := n6_; clear n0_ n1_ n2_ n3_ n4_ n5_ n6_; (try clear hb); (try clear hb2); (try clear hk); (try clear hi)))
    go_ret
    exact ⟨by first | rfl | (simp [zT, zU] <;> rfl) | (simp [*, zT, zU] <;> rfl), by repeat (first | (with_reducible first | exact HB.out | apply zC | apply zA | apply zD | refine zF ?_ GE101.out | refine zF ?_ GE113.out) | exact HB.out)⟩
   next =>
    rw [if_neg c16] at H
    have c16b0 : (t117 != t109) = false := by simpa using c16
    (try (have c16b1 : decide (t117 = t109) = true := by simpa using c16))
    (try (have c16b2 : (t117 == t109) = true := by simpa using c16))
    clear c16
    replace H := Option.bind_eq_some_iff.mp H
    obtain ⟨t118, A360, H⟩ := H
    replace H : ((qQ.f k t110 t118).bind fun t121 => (if t121 = true then ((ze.f k l1).bind fun t122 => ((qK.f k t114 t122).bind fun t125 => (if t125 = true then (some true) else (some false)))) else (some false))) = some r := H
    have A36 := zB.mk A360
    clear A360
    replace H := Option.bind_eq_some_iff.mp H
    obtain ⟨t121, A370, H⟩ := H
    replace H : (if t121 = true then ((ze.f k l1).bind fun t122 => ((qK.f k t114 t122).bind fun t125 => (if t125 = true then (some true) else (some false)))) else (some false)) = some r := H
    have A37 := zB.mk A370
    clear A370
    by_cases c38 : t121 = true
    next =>
     subst c38
     have H1 : ((ze.f k l1).bind fun t122 => ((qK.f k t114 t122).bind fun t125 => (if t125 = true then (some true) else (some false)))) = some r := by rw [if_pos rfl] at H; exact H
     clear H
     have H := H1
     clear H1
     replace H := Option.bind_eq_some_iff.mp H
     obtain ⟨t122, A390, H⟩ := H
     replace H : ((qK.f k t114 t122).bind fun t125 => (if t125 = true then (some true) else (some false))) = some r := H
     have A39 := zB.mk A390
     clear A390
     replace H := Option.bind_eq_some_iff.mp H
     obtain ⟨t125, A400, H⟩ := H
     replace H : (if t125 = true then (some true) else (some false)) = some r := H
     have A40 := zB.mk A400
     clear A400
     by_cases c41 : t125 = true
     next =>
      subst c41
      have H1 : (some true) = some r := by rw [if_pos rfl] at H; exact H
      clear H
      have H := H1
      clear H1
      obtain rfl := Option.some.inj H
      go_enter Try.func3, Try.ntmps3
      try go_wp2_with (first | ((with_reducible refine zw (N := 2) rfl ?_); refine zu ?hg (N := 2) ?hd (cs := #[.slice A0_0 l0_0.length c0_0]) (t := 24) ?hr ?_; (case hd => rfl); (case hg => rfl); (case hr => first | (go_simp; done) | (go_simp; rfl)); intro gb101 hg w42 hbox hb; have n0_ := zB.mk (zM (by repeat (first | (with_reducible first | exact HB.out | apply zC | apply zA | apply zD) | exact HB.out)) hb); have n1_ := zB.mk (hbox); have n2_ := zB.mk ((by rw [hg]; exact (zN (by repeat (first | (with_reducible first | exact HB.out | apply zC | apply zA | apply zD) | exact HB.out))) : w.heap.size ≤ gb101)); have n3_ := zB.mk ((by rw [hg]; exact (zN (by repeat (first | (with_reducible first | exact HB.out | apply zC | apply zA | apply zD) | exact HB.out))) : w.heap.size ≤ gb101)); clear HB; have HB := n0_; have BK101 := n1_; have GW101 := n2_; have GE101 := n3_; clear n0_ n1_ n2_ n3_; clear hb hbox hg; have hcz43_0 : w42.cell? ⟨gb101, 0, none⟩ = some (.slice A0_0 l0_0.length c0_0) := (zL BK101.out 0).trans rfl; have hfz43_0 := zO BK101.out 0) | ((with_reducible refine zR (f := 15) rfl ?_); refine qO (some 15) rfl rfl Try.func15 (by kernel_rfl) rfl #[.agg #[.slice A0_0 l0_0.length c0_0], .int .i64 1048576] rfl (by (try simp only [List.map_toArray, List.map_cons, List.map_nil]); first | done | rfl | (simp only [List.length_drop, List.length_take]; rfl)) ?_; (with_reducible refine (qo.calls k _ _ l0_0 1048576 t102 _ ?side1 ?side2 A5.out).mono ?_); (case side1 => repeat (first | exact (Kd.zy HR0_0.out HB.out) | (with_reducible refine Kd.zi ?_ _) | (with_reducible refine Kd.zj ?_ _) | (with_reducible refine Kd.zz ?_))); (case side2 => exact HC0_0.out); rintro e w44 ⟨rfl, hb⟩; refine ⟨_, rfl, ?_⟩; have n0_ := zB.mk (zP (g := gb101) (o := .cells #[.slice A0_0 l0_0.length c0_0] 24 (0, 0)) (by (with_reducible repeat (first | refine zH ?_ _ | refine zJ ?_ | refine zG ?_ _)); exact BK101.out) hb); have n1_ := zB.mk (zM (by repeat (first | (with_reducible first | exact HB.out | apply zC | apply zA | apply zD | refine zF ?_ GE101.out) | exact HB.out)) hb); clear BK101; clear HB; have BK101 := n0_; have HB := n1_; clear n0_ n1_; (try clear hb); (try clear hb2); (try clear hk); (try clear hi); have hcz45_0 : w44.cell? ⟨gb101, 0, none⟩ = some (.slice A0_0 l0_0.length c0_0) := (zL BK101.out 0).trans rfl; have hfz45_0 := zO BK101.out 0) | ((with_reducible refine zR (f := 17) rfl ?_); refine qO (some 19) rfl rfl Try.func17 (by kernel_rfl) rfl #[.agg #[.slice A0_0 l0_0.length c0_0]] rfl (by (try simp only [List.map_toArray, List.map_cons, List.map_nil]); first | done | rfl | (simp only [List.length_drop, List.length_take]; rfl)) ?_; (with_reducible refine (zZ.calls k _ _ l0_0 t103 _ ?side1 ?side2 A10.out).mono ?_); (case side1 => repeat (first | exact (Kd.zy HR0_0.out HB.out) | (with_reducible refine Kd.zi ?_ _) | (with_reducible refine Kd.zj ?_ _) | (with_reducible refine Kd.zz ?_))); (case side2 => exact HC0_0.out); rintro e w46 ⟨v104, rfl, ho0, hb⟩; refine ⟨_, rfl, ?_⟩; have n0_ := zB.mk (Kd.Zn ho0 (zN (by repeat (first | (with_reducible first | exact HB.out | apply zC | apply zA | apply zD | refine zF ?_ GE101.out) | exact HB.out)))); have n1_ := zB.mk (zP (g := gb101) (o := .cells #[.slice A0_0 l0_0.length c0_0] 24 (0, 0)) (by (with_reducible repeat (first | refine zH ?_ _ | refine zJ ?_ | refine zG ?_ _)); exact BK101.out) hb); have n2_ := zB.mk (zM (by repeat (first | (with_reducible first | exact HB.out | apply zC | apply zA | apply zD | refine zF ?_ GE101.out) | exact HB.out)) hb); clear BK101; clear HB; have HO105 := n0_; have BK101 := n1_; have HB := n2_; clear n0_ n1_ n2_; (try clear hb); (try clear hb2); (try clear hk); (try clear hi); (try clear ho0)) | ((with_reducible refine zR (f := 18) rfl ?_); refine qO (some 21) rfl rfl Try.func18 (by kernel_rfl) rfl #[.slice A1 l1.length c1] rfl (by (try simp only [List.map_toArray, List.map_cons, List.map_nil]); first | done | rfl | (simp only [List.length_drop, List.length_take]; rfl)) ?_; (with_reducible refine (ze.calls k _ _ l1 t106 _ ?side1 ?side2 A11.out).mono ?_); (case side1 => repeat (first | exact (Kd.zy HR1.out HB.out) | (with_reducible refine Kd.zi ?_ _) | (with_reducible refine Kd.zj ?_ _) | (with_reducible refine Kd.zz ?_))); (case side2 => exact HC1.out); rintro e w47 ⟨v107, rfl, ho0, hb⟩; refine ⟨_, rfl, ?_⟩; have n0_ := zB.mk (Kd.qX (by (with_reducible repeat (first | apply Kd.zc | apply Kd.zd | apply Kd.zr)); exact HO105.out) hb); have n1_ := zB.mk (Kd.ZF ho0 (zN (by repeat (first | (with_reducible first | exact HB.out | apply zC | apply zA | apply zD | refine zF ?_ GE101.out) | exact HB.out)))); have n2_ := zB.mk (zP (g := gb101) (o := .cells #[.slice A0_0 l0_0.length c0_0] 24 (0, 0)) (by (with_reducible repeat (first | refine zH ?_ _ | refine zJ ?_ | refine zG ?_ _)); exact BK101.out) hb); have n3_ := zB.mk (zM (by repeat (first | (with_reducible first | exact HB.out | apply zC | apply zA | apply zD | refine zF ?_ GE101.out) | exact HB.out)) hb); clear HO105; clear BK101; clear HB; have HO105 := n0_; have HO108 := n1_; have BK101 := n2_; have HB := n3_; clear n0_ n1_ n2_ n3_; (try clear hb); (try clear hb2); (try clear hk); (try clear hi); (try clear ho0); obtain ⟨Ao48, co48, eo48⟩ := Kd.Zo HO105.out; subst eo48; obtain ⟨Ao49, co49, eo49⟩ := Kd.ZS HO108.out; subst eo49) | ((with_reducible refine zR (f := 16) rfl ?_); refine qO (some 22) rfl rfl Try.func16 (by kernel_rfl) rfl #[.agg #[.slice Ao48 t103.length co48], .slice Ao49 t106.length co49] rfl (by (try simp only [List.map_toArray, List.map_cons, List.map_nil]); first | done | rfl | (simp only [List.length_drop, List.length_take]; rfl)) ?_; (with_reducible refine (zb.calls k _ _ t103 _ _ t106 t109 _ ?side1 ?side2 ?side3 ?side4 A12.out).mono ?_); (case side1 => repeat (first | exact (Kd.qk HO105.out).2.2 | (with_reducible refine Kd.zi ?_ _) | (with_reducible refine Kd.zj ?_ _) | (with_reducible refine Kd.zz ?_))); (case side2 => exact (Kd.qk HO105.out).2.1); (case side3 => repeat (first | exact (Kd.zv HO108.out).2.2 | (with_reducible refine Kd.zi ?_ _) | (with_reducible refine Kd.zj ?_ _) | (with_reducible refine Kd.zz ?_))); (case side4 => exact (Kd.zv HO108.out).2.1); rintro e w50 ⟨rfl, hb⟩; refine ⟨_, rfl, ?_⟩; have n0_ := zB.mk (Kd.qX (by (with_reducible repeat (first | apply Kd.zc | apply Kd.zd | apply Kd.zr)); exact HO105.out) hb); have n1_ := zB.mk (Kd.qi (by (with_reducible repeat (first | apply Kd.zg | apply Kd.zf | apply Kd.zp)); exact HO108.out) hb); have n2_ := zB.mk (zP (g := gb101) (o := .cells #[.slice A0_0 l0_0.length c0_0] 24 (0, 0)) (by (with_reducible repeat (first | refine zH ?_ _ | refine zJ ?_ | refine zG ?_ _)); exact BK101.out) hb); have n3_ := zB.mk (zM (by repeat (first | (with_reducible first | exact HB.out | apply zC | apply zA | apply zD | refine zF ?_ GE101.out) | exact HB.out)) hb); clear HO105; clear HO108; clear BK101; clear HB; have HO105 := n0_; have HO108 := n1_; have BK101 := n2_; have HB := n3_; clear n0_ n1_ n2_ n3_; (try clear hb); (try clear hb2); (try clear hk); (try clear hi); have hcz51_0 : w50.cell? ⟨gb101, 0, none⟩ = some (.slice A0_0 l0_0.length c0_0) := (zL BK101.out 0).trans rfl; have hfz51_0 := zO BK101.out 0) | ((with_reducible refine zR (f := 17) rfl ?_); refine qO (some 24) rfl rfl Try.func17 (by kernel_rfl) rfl #[.agg #[.slice A0_0 l0_0.length c0_0]] rfl (by (try simp only [List.map_toArray, List.map_cons, List.map_nil]); first | done | rfl | (simp only [List.length_drop, List.length_take]; rfl)) ?_; (with_reducible refine (zZ.calls k _ _ l0_0 t110 _ ?side1 ?side2 A13.out).mono ?_); (case side1 => repeat (first | exact (Kd.zy HR0_0.out HB.out) | (with_reducible refine Kd.zi ?_ _) | (with_reducible refine Kd.zj ?_ _) | (with_reducible refine Kd.zz ?_))); (case side2 => exact HC0_0.out); rintro e w52 ⟨v111, rfl, ho0, hb⟩; refine ⟨_, rfl, ?_⟩; have n0_ := zB.mk (Kd.ZZ (by (with_reducible repeat (first | apply Kd.zc | apply Kd.zd | apply Kd.zr)); exact HO105.out) (Kd.Qv ho0) hb); have n1_ := zB.mk (Kd.qi (by (with_reducible repeat (first | apply Kd.zg | apply Kd.zf | apply Kd.zp)); exact HO108.out) hb); have n2_ := zB.mk (Kd.Zn (Kd.Qw ho0 (Kd.zCr (by (with_reducible repeat (first | apply Kd.zc | apply Kd.zd | apply Kd.zr)); exact HO105.out))) (zN (by repeat (first | (with_reducible first | exact HB.out | apply zC | apply zA | apply zD | refine zF ?_ GE101.out) | exact HB.out)))); have n3_ := zB.mk (zP (g := gb101) (o := .cells #[.slice A0_0 l0_0.length c0_0] 24 (0, 0)) (by (with_reducible repeat (first | refine zH ?_ _ | refine zJ ?_ | refine zG ?_ _)); exact BK101.out) hb); have n4_ := zB.mk (zM (by repeat (first | (with_reducible first | exact HB.out | apply zC | apply zA | apply zD | refine zF ?_ GE101.out) | exact HB.out)) hb); clear HO105; clear HO108; clear BK101; clear HB; have HO105 := n0_; have HO108 := n1_; have HO112 := n2_; have BK101 := n3_; have HB := n4_; clear n0_ n1_ n2_ n3_ n4_; (try clear hb); (try clear hb2); (try clear hk); (try clear hi); (try clear ho0)) | ((with_reducible refine zw (N := 7) rfl ?_); refine zu ?hg (N := 7) ?hd (cs := #[.slice none 0 0]) (t := 30) ?hr ?_; (case hd => rfl); (case hg => rfl); (case hr => first | (go_simp; done) | (go_simp; rfl)); intro gb113 hg w53 hbox hb; have n0_ := zB.mk (Kd.qX (by (with_reducible repeat (first | apply Kd.zc | apply Kd.zd | apply Kd.zr)); exact HO105.out) hb); have n1_ := zB.mk (Kd.qi (by (with_reducible repeat (first | apply Kd.zg | apply Kd.zf | apply Kd.zp)); exact HO108.out) hb); have n2_ := zB.mk (Kd.qX (by (with_reducible repeat (first | apply Kd.zc | apply Kd.zd | apply Kd.zr)); exact HO112.out) hb); have n3_ := zB.mk (zP (g := gb101) (o := .cells #[.slice A0_0 l0_0.length c0_0] 24 (0, 0)) (by (with_reducible repeat (first | refine zH ?_ _ | refine zJ ?_ | refine zG ?_ _)); exact BK101.out) hb); have n4_ := zB.mk (zM (by repeat (first | (with_reducible first | exact HB.out | apply zC | apply zA | apply zD | refine zF ?_ GE101.out) | exact HB.out)) hb); have n5_ := zB.mk (hbox); have n6_ := zB.mk ((by rw [hg]; exact (zN (by repeat (first | (with_reducible first | exact HB.out | apply zC | apply zA | apply zD | refine zF ?_ GE101.out) | exact HB.out))) : w.heap.size ≤ gb113)); have n7_ := zB.mk ((by rw [hg]; exact (zN (by repeat (first | (with_reducible first | exact HB.out | apply zC | apply zA | apply zD | refine zF ?_ GE101.out) | exact HB.out))) : w.heap.size ≤ gb113)); have n8_ := zB.mk ((by rw [hg]; exact Nat.ne_of_lt (qh (g := gb101) (o := .cells #[.slice A0_0 l0_0.length c0_0] 24 (0, 0)) (by (with_reducible repeat (first | refine zH ?_ _ | refine zJ ?_ | refine zG ?_ _)); exact BK101.out)) : gb101 ≠ gb113)); have n9_ := zB.mk ((by rw [hg]; exact Nat.ne_of_gt (qh (g := gb101) (o := .cells #[.slice A0_0 l0_0.length c0_0] 24 (0, 0)) (by (with_reducible repeat (first | refine zH ?_ _ | refine zJ ?_ | refine zG ?_ _)); exact BK101.out)) : gb113 ≠ gb101)); clear HO105; clear HO108; clear HO112; clear BK101; clear HB; have HO105 := n0_; have HO108 := n1_; have HO112 := n2_; have BK101 := n3_; have HB := n4_; have BK113 := n5_; have GW113 := n6_; have GE113 := n7_; have NB101_113 := n8_; have NB113_101 := n9_; clear n0_ n1_ n2_ n3_ n4_ n5_ n6_ n7_ n8_ n9_; clear hb hbox hg; obtain ⟨Ao54, co54, eo54⟩ := Kd.Zo HO112.out; subst eo54; have hnb55 := NB113_101.out; have hnc55 := NB101_113.out; have hcz56_0 : w53.cell? ⟨gb113, 0, none⟩ = some (.slice none 0 0) := (zL BK113.out 0).trans rfl; have hfz56_0 := zO BK113.out 0) | ((with_reducible refine zR (f := 18) rfl ?_); refine qO (some 26) rfl rfl Try.func18 (by kernel_rfl) rfl #[.slice A1 l1.length c1] rfl (by (try simp only [List.map_toArray, List.map_cons, List.map_nil]); first | done | rfl | (simp only [List.length_drop, List.length_take]; rfl)) ?_; (with_reducible refine (ze.calls k _ _ l1 t114 _ ?side1 ?side2 A14.out).mono ?_); (case side1 => exact Kd.zy HR1.out (by repeat (first | (with_reducible first | exact HB.out | apply zC | apply zA | apply zD | refine zF ?_ GE101.out | refine zF ?_ GE113.out) | exact HB.out))); (case side2 => exact HC1.out); rintro e w57 ⟨v115, rfl, ho0, hb⟩; refine ⟨_, rfl, ?_⟩; have n0_ := zB.mk (Kd.qX (by (with_reducible repeat (first | apply Kd.zc | apply Kd.zd | apply Kd.zr)); exact (Kd.ZM (Kd.Qq (p := ⟨gb113, 0, none⟩) (Kd.QC HO105.out BK113.out (by decide)) (fun _ hk => hk.2) (.slice Ao54 t110.length co54)) (fun _ h_ => h_.1))) hb); have n1_ := zB.mk (Kd.Ze (by (with_reducible repeat (first | apply Kd.zg | apply Kd.zf | apply Kd.zp)); exact (Kd.qb (Kd.JH (p := ⟨gb113, 0, none⟩) (Kd.Qa HO108.out BK113.out (by decide)) (fun _ hk => hk.2) (.slice Ao54 t110.length co54)) (fun _ h_ => h_.1))) (Kd.Zy ho0) hb); have n2_ := zB.mk (Kd.qX (by (with_reducible repeat (first | apply Kd.zc | apply Kd.zd | apply Kd.zr)); exact (Kd.ZM (Kd.Qq (p := ⟨gb113, 0, none⟩) (Kd.QC HO112.out BK113.out (by decide)) (fun _ hk => hk.2) (.slice Ao54 t110.length co54)) (fun _ h_ => h_.1))) hb); have n3_ := zB.mk (Kd.ZF (Kd.QU ho0 (Kd.JQ (by (with_reducible repeat (first | apply Kd.zg | apply Kd.zf | apply Kd.zp)); exact (Kd.qb (Kd.JH (p := ⟨gb113, 0, none⟩) (Kd.Qa HO108.out BK113.out (by decide)) (fun _ hk => hk.2) (.slice Ao54 t110.length co54)) (fun _ h_ => h_.1))))) (zN (by repeat (first | (with_reducible first | exact HB.out | apply zC | apply zA | apply zD | refine zF ?_ GE101.out | refine zF ?_ GE113.out) | exact HB.out)))); have n4_ := zB.mk (zP (g := gb101) (o := .cells #[.slice A0_0 l0_0.length c0_0] 24 (0, 0)) (by (with_reducible repeat (first | refine zH ?_ _ | refine zJ ?_ | refine zG ?_ _)); refine qa ?_ NB101_113.out _; (with_reducible repeat (first | refine zH ?_ _ | refine zJ ?_ | refine zG ?_ _)); exact BK101.out) hb); have n5_ := zB.mk (zP (g := gb113) (o := .cells #[.slice Ao54 t110.length co54] 30 (0, 0)) (by (with_reducible repeat (first | refine zH ?_ _ | refine zJ ?_ | refine zG ?_ _)); refine qe (cs := #[.slice none 0 0]) ?_ 0 _ rfl; (with_reducible repeat (first | refine zH ?_ _ | refine zJ ?_ | refine zG ?_ _)); exact BK113.out) hb); have n6_ := zB.mk (zM (by repeat (first | (with_reducible first | exact HB.out | apply zC | apply zA | apply zD | refine zF ?_ GE101.out | refine zF ?_ GE113.out) | exact HB.out)) hb); clear HO105; clear HO108; clear HO112; clear BK101; clear BK113; clear HB; have HO105 := n0_; have HO108 := n1_; have HO112 := n2_; have HO116 := n3_; have BK101 := n4_; have BK113 := n5_; have HB := n6_; clear n0_ n1_ n2_ n3_ n4_ n5_ n6_; (try clear hb); (try clear hb2); (try clear hk); (try clear hi); (try clear ho0); have hcz58_0 : w57.cell? ⟨gb113, 0, none⟩ = some (.slice Ao54 t110.length co54) := (zL BK113.out 0).trans rfl; have hfz58_0 := zO BK113.out 0; obtain ⟨Ao59, co59, eo59⟩ := Kd.ZS HO116.out; subst eo59) | ((with_reducible refine zR (f := 19) rfl ?_); refine qO (some 29) rfl rfl Try.func19 (by kernel_rfl) rfl #[.agg #[.slice Ao54 t110.length co54], .slice Ao59 t114.length co59] rfl (by (try simp only [List.map_toArray, List.map_cons, List.map_nil]); first | done | rfl | (simp only [List.length_drop, List.length_take]; rfl)) ?_; (with_reducible refine (qq.calls k _ _ t110 _ _ t114 t117 _ ?side1 ?side2 ?side3 ?side4 A15.out).mono ?_); (case side1 => repeat (first | exact (Kd.qk HO112.out).2.2 | (with_reducible refine Kd.zi ?_ _) | (with_reducible refine Kd.zj ?_ _) | (with_reducible refine Kd.zz ?_))); (case side2 => exact (Kd.qk HO112.out).2.1); (case side3 => repeat (first | exact (Kd.zv HO116.out).2.2 | (with_reducible refine Kd.zi ?_ _) | (with_reducible refine Kd.zj ?_ _) | (with_reducible refine Kd.zz ?_))); (case side4 => exact (Kd.zv HO116.out).2.1); rintro e w60 ⟨rfl, hb⟩; refine ⟨_, rfl, ?_⟩; have n0_ := zB.mk (Kd.qX (by (with_reducible repeat (first | apply Kd.zc | apply Kd.zd | apply Kd.zr)); exact HO105.out) hb); have n1_ := zB.mk (Kd.qi (by (with_reducible repeat (first | apply Kd.zg | apply Kd.zf | apply Kd.zp)); exact HO108.out) hb); have n2_ := zB.mk (Kd.qX (by (with_reducible repeat (first | apply Kd.zc | apply Kd.zd | apply Kd.zr)); exact HO112.out) hb); have n3_ := zB.mk (Kd.qi (by (with_reducible repeat (first | apply Kd.zg | apply Kd.zf | apply Kd.zp)); exact HO116.out) hb); have n4_ := zB.mk (zP (g := gb101) (o := .cells #[.slice A0_0 l0_0.length c0_0] 24 (0, 0)) (by (with_reducible repeat (first | refine zH ?_ _ | refine zJ ?_ | refine zG ?_ _)); exact BK101.out) hb); have n5_ := zB.mk (zP (g := gb113) (o := .cells #[.slice Ao54 t110.length co54] 30 (0, 0)) (by (with_reducible repeat (first | refine zH ?_ _ | refine zJ ?_ | refine zG ?_ _)); exact BK113.out) hb); have n6_ := zB.mk (zM (by repeat (first | (with_reducible first | exact HB.out | apply zC | apply zA | apply zD | refine zF ?_ GE101.out | refine zF ?_ GE113.out) | exact HB.out)) hb); clear HO105; clear HO108; clear HO112; clear HO116; clear BK101; clear BK113; clear HB; have HO105 := n0_; have HO108 := n1_; have HO112 := n2_; have HO116 := n3_; have BK101 := n4_; have BK113 := n5_; have HB := n6_; clear n0_ n1_ n2_ n3_ n4_ n5_ n6_; (try clear hb); (try clear hb2); (try clear hk); (try clear hi)))
      have n0_ := zB.mk (Kd.zr HO105.out)
      have n1_ := zB.mk (Kd.zp HO108.out)
      have n2_ := zB.mk (Kd.zr HO112.out)
      have n3_ := zB.mk (Kd.zp HO116.out)
      have n4_ := zB.mk (zJ BK101.out)
      have n5_ := zB.mk (zJ BK113.out)
      have n6_ := zB.mk (zD HB.out)
      clear HO105
      clear HO108
      clear HO112
      clear HO116
      clear BK101
      clear BK113
      clear HB
      have HO105 := n0_
      have HO108 := n1_
      have HO112 := n2_
      have HO116 := n3_
      have BK101 := n4_
      have BK113 := n5_
      have HB := n6_
      clear n0_ n1_ n2_ n3_ n4_ n5_ n6_
      refine Zl (n := 5) (S := fun w' => w'.cell? ⟨gb113, 0, none⟩ = some (.slice Ao54 t110.length co54) ∧ w'.cell? ⟨gb101, 0, none⟩ = some (.slice A0_0 l0_0.length c0_0)) (ds := []) #[false, false, false, false, false] (by kernel_rfl) rfl rfl ⟨(zL BK113.out 0).trans rfl, (zL BK101.out 0).trans rfl⟩ (fun hHeld => ?_)
      generalize w60.drew = w61 at HO105 HO108 HO112 HO116 BK101 BK113 HB hHeld ⊢
      refine qt (i := 0) (N := some 33) (v := ?_) (a' := ?_) #[true, false, false, false, false] rfl rfl (by kernel_rfl) (fun _ _ _ h => h) (Or.inl ⟨by rfl, ?_⟩) hHeld ?_ ?_
      rotate_left
      next =>
       rintro w' ⟨s0, s1⟩
       go_simp
       with_reducible rfl
      rotate_left
      next =>
       simp only [Act.put, List.setIfInBounds_toArray, List.set_cons_zero, List.set_cons_succ, zV, zX]
       rfl
      refine qt (i := 1) (N := some 34) (v := ?_) (a' := ?_) #[true, true, false, false, false] rfl rfl (by kernel_rfl) (fun _ _ _ h => h) (Or.inl ⟨by rfl, ?_⟩) hHeld ?_ ?_
      rotate_left
      next =>
       rintro w' ⟨s0, s1⟩
       go_simp
       with_reducible rfl
      rotate_left
      next =>
       simp only [Act.put, List.setIfInBounds_toArray, List.set_cons_zero, List.set_cons_succ, zV, zX]
       rfl
      refine Jd (i := 2) (N := some 35) #[true, true, true, false, false] rfl rfl (by kernel_rfl) (by decide) (fun K hK => ?_)
      refine QZ Try.func17 (by kernel_rfl) rfl #[.agg #[.slice A0_0 l0_0.length c0_0]] (by rfl) rfl rfl (by (try simp only [List.map_toArray, List.map_cons, List.map_nil]); first | done | rfl | (simp only [List.length_drop, List.length_take]; rfl)) ?_
      with_reducible refine (zZ.calls k _ _ l0_0 t118 _ ?side1 ?side2 A36.out).mono ?_
      (case side1 => repeat (first | exact (Kd.zy HR0_0.out HB.out) | (with_reducible refine Kd.zi ?_ _) | (with_reducible refine Kd.zj ?_ _) | (with_reducible refine Kd.zz ?_)))
      (case side2 => exact HC0_0.out)
      rintro e w62 ⟨v119, rfl, ho0, hb⟩
      refine ⟨_, rfl, ?_⟩
      have n0_ := zB.mk (Kd.ZZ (by (with_reducible repeat (first | apply Kd.zc | apply Kd.zd | apply Kd.zr)); exact HO105.out) (Kd.Qv ho0) hb)
      have n1_ := zB.mk (Kd.qi (by (with_reducible repeat (first | apply Kd.zg | apply Kd.zf | apply Kd.zp)); exact HO108.out) hb)
      have n2_ := zB.mk (Kd.ZZ (by (with_reducible repeat (first | apply Kd.zc | apply Kd.zd | apply Kd.zr)); exact HO112.out) (Kd.Qv ho0) hb)
      have n3_ := zB.mk (Kd.qi (by (with_reducible repeat (first | apply Kd.zg | apply Kd.zf | apply Kd.zp)); exact HO116.out) hb)
      have n4_ := zB.mk (Kd.Zn (Kd.Qw (Kd.Qw ho0 (Kd.zCr (by (with_reducible repeat (first | apply Kd.zc | apply Kd.zd | apply Kd.zr)); exact HO105.out))) (Kd.zCr (by (with_reducible repeat (first | apply Kd.zc | apply Kd.zd | apply Kd.zr)); exact HO112.out))) (zN (by repeat (first | (with_reducible first | exact HB.out | apply zC | apply zA | apply zD | refine zF ?_ GE101.out | refine zF ?_ GE113.out) | exact HB.out))))
      have n5_ := zB.mk (zP (g := gb101) (o := .cells #[.slice A0_0 l0_0.length c0_0] 24 (0, 0)) (by (with_reducible repeat (first | refine zH ?_ _ | refine zJ ?_ | refine zG ?_ _)); exact BK101.out) hb)
      have n6_ := zB.mk (zP (g := gb113) (o := .cells #[.slice Ao54 t110.length co54] 30 (0, 0)) (by (with_reducible repeat (first | refine zH ?_ _ | refine zJ ?_ | refine zG ?_ _)); exact BK113.out) hb)
      have n7_ := zB.mk (zM (by repeat (first | (with_reducible first | exact HB.out | apply zC | apply zA | apply zD | refine zF ?_ GE101.out | refine zF ?_ GE113.out) | exact HB.out)) hb)
      clear HO105
      clear HO108
      clear HO112
      clear HO116
      clear BK101
      clear BK113
      clear HB
      have HO105 := n0_
      have HO108 := n1_
      have HO112 := n2_
      have HO116 := n3_
      have HO120 := n4_
      have BK101 := n5_
      have BK113 := n6_
      have HB := n7_
      clear n0_ n1_ n2_ n3_ n4_ n5_ n6_ n7_
      (try clear hb)
      (try clear hb2)
      (try clear hk)
      (try clear hi)
      (try clear ho0)
      obtain ⟨Ao63, co63, eo63⟩ := Kd.Zo HO120.out
      (first | subst eo63 | (injection eo63 with f1_ f2_ f3_; have f4_ := f1_.symm; have f5_ := f3_.symm; clear f1_ f2_ f3_; subst f4_; subst f5_))
      refine hK.out _ _ ⟨(zL BK113.out 0).trans rfl, (zL BK101.out 0).trans rfl⟩ (fun hHeld => ?_)
      clear hK K
      refine QB (a' := ?_) ?_ ?_
      rotate_left
      next =>
       show Act.put _ (some 35) _ = _
       simp only [Act.put, List.setIfInBounds_toArray, List.set_cons_zero, List.set_cons_succ, zV, zX]
       rfl
      refine Jd (i := 3) (N := some 36) #[true, true, true, true, false] rfl rfl (by kernel_rfl) (by decide) (fun K hK => ?_)
      refine QZ Try.func20 (by kernel_rfl) rfl #[.agg #[.slice Ao54 t110.length co54], .agg #[.slice Ao63 t118.length co63]] (by rfl) rfl rfl (by (try simp only [List.map_toArray, List.map_cons, List.map_nil]); first | done | rfl | (simp only [List.length_drop, List.length_take]; rfl)) ?_
      with_reducible refine (qQ.calls k _ _ t110 _ _ t118 true _ ?side1 ?side2 ?side3 ?side4 A37.out).mono ?_
      (case side1 => repeat (first | exact (Kd.qk HO112.out).2.2 | (with_reducible refine Kd.zi ?_ _) | (with_reducible refine Kd.zj ?_ _) | (with_reducible refine Kd.zz ?_)))
      (case side2 => exact (Kd.qk HO112.out).2.1)
      (case side3 => repeat (first | exact (Kd.qk HO120.out).2.2 | (with_reducible refine Kd.zi ?_ _) | (with_reducible refine Kd.zj ?_ _) | (with_reducible refine Kd.zz ?_)))
      (case side4 => exact (Kd.qk HO120.out).2.1)
      rintro e w64 ⟨rfl, hb⟩
      refine ⟨_, rfl, ?_⟩
      have n0_ := zB.mk (Kd.qX (by (with_reducible repeat (first | apply Kd.zc | apply Kd.zd | apply Kd.zr)); exact HO105.out) hb)
      have n1_ := zB.mk (Kd.qi (by (with_reducible repeat (first | apply Kd.zg | apply Kd.zf | apply Kd.zp)); exact HO108.out) hb)
      have n2_ := zB.mk (Kd.qX (by (with_reducible repeat (first | apply Kd.zc | apply Kd.zd | apply Kd.zr)); exact HO112.out) hb)
      have n3_ := zB.mk (Kd.qi (by (with_reducible repeat (first | apply Kd.zg | apply Kd.zf | apply Kd.zp)); exact HO116.out) hb)
      have n4_ := zB.mk (Kd.qX (by (with_reducible repeat (first | apply Kd.zc | apply Kd.zd | apply Kd.zr)); exact HO120.out) hb)
      have n5_ := zB.mk (zP (g := gb101) (o := .cells #[.slice A0_0 l0_0.length c0_0] 24 (0, 0)) (by (with_reducible repeat (first | refine zH ?_ _ | refine zJ ?_ | refine zG ?_ _)); exact BK101.out) hb)
      have n6_ := zB.mk (zP (g := gb113) (o := .cells #[.slice Ao54 t110.length co54] 30 (0, 0)) (by (with_reducible repeat (first | refine zH ?_ _ | refine zJ ?_ | refine zG ?_ _)); exact BK113.out) hb)
      have n7_ := zB.mk (zM (by repeat (first | (with_reducible first | exact HB.out | apply zC | apply zA | apply zD | refine zF ?_ GE101.out | refine zF ?_ GE113.out) | exact HB.out)) hb)
      clear HO105
      clear HO108
      clear HO112
      clear HO116
      clear HO120
      clear BK101
      clear BK113
      clear HB
      have HO105 := n0_
      have HO108 := n1_
      have HO112 := n2_
      have HO116 := n3_
      have HO120 := n4_
      have BK101 := n5_
      have BK113 := n6_
      have HB := n7_
      clear n0_ n1_ n2_ n3_ n4_ n5_ n6_ n7_
      (try clear hb)
      (try clear hb2)
      (try clear hk)
      (try clear hi)
      refine hK.out _ _ ⟨(zL BK113.out 0).trans rfl, (zL BK101.out 0).trans rfl⟩ (fun hHeld => ?_)
      clear hK K
      refine QB (a' := ?_) ?_ ?_
      rotate_left
      next =>
       show Act.put _ (some 36) _ = _
       simp only [Act.put, List.setIfInBounds_toArray, List.set_cons_zero, List.set_cons_succ, zV, zX]
       rfl
      refine zk (i := 4) (N := some 37) (v := ?_) (a' := ?_) #[true, true, true, true, true] rfl rfl (by kernel_rfl) (fun _ _ _ h => h) (Or.inl ⟨by rfl, ?_⟩) ?_ ?_
      rotate_left
      next =>
       intro w'
       go_simp
       with_reducible rfl
      rotate_left
      next =>
       simp only [Act.put, List.setIfInBounds_toArray, List.set_cons_zero, List.set_cons_succ, zV, zX]
       rfl
      refine QR (by kernel_rfl) ?_
      try go_wp2_with (first | ((with_reducible refine zR (f := 18) rfl ?_); refine qO (some 40) rfl rfl Try.func18 (by kernel_rfl) rfl #[.slice A1 l1.length c1] rfl (by (try simp only [List.map_toArray, List.map_cons, List.map_nil]); first | done | rfl | (simp only [List.length_drop, List.length_take]; rfl)) ?_; (with_reducible refine (ze.calls k _ _ l1 t122 _ ?side1 ?side2 A39.out).mono ?_); (case side1 => repeat (first | exact (Kd.zy HR1.out HB.out) | (with_reducible refine Kd.zi ?_ _) | (with_reducible refine Kd.zj ?_ _) | (with_reducible refine Kd.zz ?_))); (case side2 => exact HC1.out); rintro e w65 ⟨v123, rfl, ho0, hb⟩; refine ⟨_, rfl, ?_⟩; have n0_ := zB.mk (Kd.qX (by (with_reducible repeat (first | apply Kd.zc | apply Kd.zd | apply Kd.zr)); exact HO105.out) hb); have n1_ := zB.mk (Kd.Ze (by (with_reducible repeat (first | apply Kd.zg | apply Kd.zf | apply Kd.zp)); exact HO108.out) (Kd.Zy ho0) hb); have n2_ := zB.mk (Kd.qX (by (with_reducible repeat (first | apply Kd.zc | apply Kd.zd | apply Kd.zr)); exact HO112.out) hb); have n3_ := zB.mk (Kd.Ze (by (with_reducible repeat (first | apply Kd.zg | apply Kd.zf | apply Kd.zp)); exact HO116.out) (Kd.Zy ho0) hb); have n4_ := zB.mk (Kd.qX (by (with_reducible repeat (first | apply Kd.zc | apply Kd.zd | apply Kd.zr)); exact HO120.out) hb); have n5_ := zB.mk (Kd.ZF (Kd.QU (Kd.QU ho0 (Kd.JQ (by (with_reducible repeat (first | apply Kd.zg | apply Kd.zf | apply Kd.zp)); exact HO108.out))) (Kd.JQ (by (with_reducible repeat (first | apply Kd.zg | apply Kd.zf | apply Kd.zp)); exact HO116.out))) (zN (by repeat (first | (with_reducible first | exact HB.out | apply zC | apply zA | apply zD | refine zF ?_ GE101.out | refine zF ?_ GE113.out) | exact HB.out)))); have n6_ := zB.mk (zP (g := gb101) (o := .cells #[.slice A0_0 l0_0.length c0_0] 24 (0, 0)) (by (with_reducible repeat (first | refine zH ?_ _ | refine zJ ?_ | refine zG ?_ _)); exact BK101.out) hb); have n7_ := zB.mk (zP (g := gb113) (o := .cells #[.slice Ao54 t110.length co54] 30 (0, 0)) (by (with_reducible repeat (first | refine zH ?_ _ | refine zJ ?_ | refine zG ?_ _)); exact BK113.out) hb); have n8_ := zB.mk (zM (by repeat (first | (with_reducible first | exact HB.out | apply zC | apply zA | apply zD | refine zF ?_ GE101.out | refine zF ?_ GE113.out) | exact HB.out)) hb); clear HO105; clear HO108; clear HO112; clear HO116; clear HO120; clear BK101; clear BK113; clear HB; have HO105 := n0_; have HO108 := n1_; have HO112 := n2_; have HO116 := n3_; have HO120 := n4_; have HO124 := n5_; have BK101 := n6_; have BK113 := n7_; have HB := n8_; clear n0_ n1_ n2_ n3_ n4_ n5_ n6_ n7_ n8_; (try clear hb); (try clear hb2); (try clear hk); (try clear hi); (try clear ho0); obtain ⟨Ao66, co66, eo66⟩ := Kd.ZS HO124.out; subst eo66) | ((with_reducible refine zR (f := 21) rfl ?_); refine qO (some 41) rfl rfl Try.func21 (by kernel_rfl) rfl #[.slice Ao59 t114.length co59, .slice Ao66 t122.length co66] rfl (by (try simp only [List.map_toArray, List.map_cons, List.map_nil]); first | done | rfl | (simp only [List.length_drop, List.length_take]; rfl)) ?_; (with_reducible refine (qK.calls k _ _ t114 _ _ t122 true _ ?side1 ?side2 ?side3 ?side4 A40.out).mono ?_); (case side1 => repeat (first | exact (Kd.zv HO116.out).2.2 | (with_reducible refine Kd.zi ?_ _) | (with_reducible refine Kd.zj ?_ _) | (with_reducible refine Kd.zz ?_))); (case side2 => exact (Kd.zv HO116.out).2.1); (case side3 => repeat (first | exact (Kd.zv HO124.out).2.2 | (with_reducible refine Kd.zi ?_ _) | (with_reducible refine Kd.zj ?_ _) | (with_reducible refine Kd.zz ?_))); (case side4 => exact (Kd.zv HO124.out).2.1); rintro e w' ⟨rfl, ⟨nd, rfl⟩⟩; refine ⟨_, rfl, ?_⟩))
      go_ret
      exact ⟨by first | rfl | (simp [zT, zU] <;> rfl) | (simp [*, zT, zU] <;> rfl), by repeat (first | (with_reducible first | exact HB.out | apply zC | apply zA | apply zD | refine zF ?_ GE101.out | refine zF ?_ GE113.out) | exact HB.out)⟩
     next =>
      replace c41 := Bool.eq_false_iff.mpr c41
      subst c41
      have H1 : (some false) = some r := by rw [if_neg (show ¬ (false = true) by decide)] at H; exact H
      clear H
      have H := H1
      clear H1
      obtain rfl := Option.some.inj H
      go_enter Try.func3, Try.ntmps3
      try go_wp2_with (first | ((with_reducible refine zw (N := 2) rfl ?_); refine zu ?hg (N := 2) ?hd (cs := #[.slice A0_0 l0_0.length c0_0]) (t := 24) ?hr ?_; (case hd => rfl); (case hg => rfl); (case hr => first | (go_simp; done) | (go_simp; rfl)); intro gb101 hg w67 hbox hb; have n0_ := zB.mk (zM (by repeat (first | (with_reducible first | exact HB.out | apply zC | apply zA | apply zD) | exact HB.out)) hb); have n1_ := zB.mk (hbox); have n2_ := zB.mk ((by rw [hg]; exact (zN (by repeat (first | (with_reducible first | exact HB.out | apply zC | apply zA | apply zD) | exact HB.out))) : w.heap.size ≤ gb101)); have n3_ := zB.mk ((by rw [hg]; exact (zN (by repeat (first | (with_reducible first | exact HB.out | apply zC | apply zA | apply zD) | exact HB.out))) : w.heap.size ≤ gb101)); clear HB; have HB := n0_; have BK101 := n1_; have GW101 := n2_; have GE101 := n3_; clear n0_ n1_ n2_ n3_; clear hb hbox hg; have hcz68_0 : w67.cell? ⟨gb101, 0, none⟩ = some (.slice A0_0 l0_0.length c0_0) := (zL BK101.out 0).trans rfl; have hfz68_0 := zO BK101.out 0) | ((with_reducible refine zR (f := 15) rfl ?_); refine qO (some 15) rfl rfl Try.func15 (by kernel_rfl) rfl #[.agg #[.slice A0_0 l0_0.length c0_0], .int .i64 1048576] rfl (by (try simp only [List.map_toArray, List.map_cons, List.map_nil]); first | done | rfl | (simp only [List.length_drop, List.length_take]; rfl)) ?_; (with_reducible refine (qo.calls k _ _ l0_0 1048576 t102 _ ?side1 ?side2 A5.out).mono ?_); (case side1 => repeat (first | exact (Kd.zy HR0_0.out HB.out) | (with_reducible refine Kd.zi ?_ _) | (with_reducible refine Kd.zj ?_ _) | (with_reducible refine Kd.zz ?_))); (case side2 => exact HC0_0.out); rintro e w69 ⟨rfl, hb⟩; refine ⟨_, rfl, ?_⟩; have n0_ := zB.mk (zP (g := gb101) (o := .cells #[.slice A0_0 l0_0.length c0_0] 24 (0, 0)) (by (with_reducible repeat (first | refine zH ?_ _ | refine zJ ?_ | refine zG ?_ _)); exact BK101.out) hb); have n1_ := zB.mk (zM (by repeat (first | (with_reducible first | exact HB.out | apply zC | apply zA | apply zD | refine zF ?_ GE101.out) | exact HB.out)) hb); clear BK101; clear HB; have BK101 := n0_; have HB := n1_; clear n0_ n1_; (try clear hb); (try clear hb2); (try clear hk); (try clear hi); have hcz70_0 : w69.cell? ⟨gb101, 0, none⟩ = some (.slice A0_0 l0_0.length c0_0) := (zL BK101.out 0).trans rfl; have hfz70_0 := zO BK101.out 0) | ((with_reducible refine zR (f := 17) rfl ?_); refine qO (some 19) rfl rfl Try.func17 (by kernel_rfl) rfl #[.agg #[.slice A0_0 l0_0.length c0_0]] rfl (by (try simp only [List.map_toArray, List.map_cons, List.map_nil]); first | done | rfl | (simp only [List.length_drop, List.length_take]; rfl)) ?_; (with_reducible refine (zZ.calls k _ _ l0_0 t103 _ ?side1 ?side2 A10.out).mono ?_); (case side1 => repeat (first | exact (Kd.zy HR0_0.out HB.out) | (with_reducible refine Kd.zi ?_ _) | (with_reducible refine Kd.zj ?_ _) | (with_reducible refine Kd.zz ?_))); (case side2 => exact HC0_0.out); rintro e w71 ⟨v104, rfl, ho0, hb⟩; refine ⟨_, rfl, ?_⟩; have n0_ := zB.mk (Kd.Zn ho0 (zN (by repeat (first | (with_reducible first | exact HB.out | apply zC | apply zA | apply zD | refine zF ?_ GE101.out) | exact HB.out)))); have n1_ := zB.mk (zP (g := gb101) (o := .cells #[.slice A0_0 l0_0.length c0_0] 24 (0, 0)) (by (with_reducible repeat (first | refine zH ?_ _ | refine zJ ?_ | refine zG ?_ _)); exact BK101.out) hb); have n2_ := zB.mk (zM (by repeat (first | (with_reducible first | exact HB.out | apply zC | apply zA | apply zD | refine zF ?_ GE101.out) | exact HB.out)) hb); clear BK101; clear HB; have HO105 := n0_; have BK101 := n1_; have HB := n2_; clear n0_ n1_ n2_; (try clear hb); (try clear hb2); (try clear hk); (try clear hi); (try clear ho0)) | ((with_reducible refine zR (f := 18) rfl ?_); refine qO (some 21) rfl rfl Try.func18 (by kernel_rfl) rfl #[.slice A1 l1.length c1] rfl (by (try simp only [List.map_toArray, List.map_cons, List.map_nil]); first | done | rfl | (simp only [List.length_drop, List.length_take]; rfl)) ?_; (with_reducible refine (ze.calls k _ _ l1 t106 _ ?side1 ?side2 A11.out).mono ?_); (case side1 => repeat (first | exact (Kd.zy HR1.out HB.out) | (with_reducible refine Kd.zi ?_ _) | (with_reducible refine Kd.zj ?_ _) | (with_reducible refine Kd.zz ?_))); (case side2 => exact HC1.out); rintro e w72 ⟨v107, rfl, ho0, hb⟩; refine ⟨_, rfl, ?_⟩; have n0_ := zB.mk (Kd.qX (by (with_reducible repeat (first | apply Kd.zc | apply Kd.zd | apply Kd.zr)); exact HO105.out) hb); have n1_ := zB.mk (Kd.ZF ho0 (zN (by repeat (first | (with_reducible first | exact HB.out | apply zC | apply zA | apply zD | refine zF ?_ GE101.out) | exact HB.out)))); have n2_ := zB.mk (zP (g := gb101) (o := .cells #[.slice A0_0 l0_0.length c0_0] 24 (0, 0)) (by (with_reducible repeat (first | refine zH ?_ _ | refine zJ ?_ | refine zG ?_ _)); exact BK101.out) hb); have n3_ := zB.mk (zM (by repeat (first | (with_reducible first | exact HB.out | apply zC | apply zA | apply zD | refine zF ?_ GE101.out) | exact HB.out)) hb); clear HO105; clear BK101; clear HB; have HO105 := n0_; have HO108 := n1_; have BK101 := n2_; have HB := n3_; clear n0_ n1_ n2_ n3_; (try clear hb); (try clear hb2); (try clear hk); (try clear hi); (try clear ho0); obtain ⟨Ao73, co73, eo73⟩ := Kd.Zo HO105.out; subst eo73; obtain ⟨Ao74, co74, eo74⟩ := Kd.ZS HO108.out; subst eo74) | ((with_reducible refine zR (f := 16) rfl ?_); refine qO (some 22) rfl rfl Try.func16 (by kernel_rfl) rfl #[.agg #[.slice Ao73 t103.length co73], .slice Ao74 t106.length co74] rfl (by (try simp only [List.map_toArray, List.map_cons, List.map_nil]); first | done | rfl | (simp only [List.length_drop, List.length_take]; rfl)) ?_; (with_reducible refine (zb.calls k _ _ t103 _ _ t106 t109 _ ?side1 ?side2 ?side3 ?side4 A12.out).mono ?_); (case side1 => repeat (first | exact (Kd.qk HO105.out).2.2 | (with_reducible refine Kd.zi ?_ _) | (with_reducible refine Kd.zj ?_ _) | (with_reducible refine Kd.zz ?_))); (case side2 => exact (Kd.qk HO105.out).2.1); (case side3 => repeat (first | exact (Kd.zv HO108.out).2.2 | (with_reducible refine Kd.zi ?_ _) | (with_reducible refine Kd.zj ?_ _) | (with_reducible refine Kd.zz ?_))); (case side4 => exact (Kd.zv HO108.out).2.1); rintro e w75 ⟨rfl, hb⟩; refine ⟨_, rfl, ?_⟩; have n0_ := zB.mk (Kd.qX (by (with_reducible repeat (first | apply Kd.zc | apply Kd.zd | apply Kd.zr)); exact HO105.out) hb); have n1_ := zB.mk (Kd.qi (by (with_reducible repeat (first | apply Kd.zg | apply Kd.zf | apply Kd.zp)); exact HO108.out) hb); have n2_ := zB.mk (zP (g := gb101) (o := .cells #[.slice A0_0 l0_0.length c0_0] 24 (0, 0)) (by (with_reducible repeat (first | refine zH ?_ _ | refine zJ ?_ | refine zG ?_ _)); exact BK101.out) hb); have n3_ := zB.mk (zM (by repeat (first | (with_reducible first | exact HB.out | apply zC | apply zA | apply zD | refine zF ?_ GE101.out) | exact HB.out)) hb); clear HO105; clear HO108; clear BK101; clear HB; have HO105 := n0_; have HO108 := n1_; have BK101 := n2_; have HB := n3_; clear n0_ n1_ n2_ n3_; (try clear hb); (try clear hb2); (try clear hk); (try clear hi); have hcz76_0 : w75.cell? ⟨gb101, 0, none⟩ = some (.slice A0_0 l0_0.length c0_0) := (zL BK101.out 0).trans rfl; have hfz76_0 := zO BK101.out 0) | ((with_reducible refine zR (f := 17) rfl ?_); refine qO (some 24) rfl rfl Try.func17 (by kernel_rfl) rfl #[.agg #[.slice A0_0 l0_0.length c0_0]] rfl (by (try simp only [List.map_toArray, List.map_cons, List.map_nil]); first | done | rfl | (simp only [List.length_drop, List.length_take]; rfl)) ?_; (with_reducible refine (zZ.calls k _ _ l0_0 t110 _ ?side1 ?side2 A13.out).mono ?_); (case side1 => repeat (first | exact (Kd.zy HR0_0.out HB.out) | (with_reducible refine Kd.zi ?_ _) | (with_reducible refine Kd.zj ?_ _) | (with_reducible refine Kd.zz ?_))); (case side2 => exact HC0_0.out); rintro e w77 ⟨v111, rfl, ho0, hb⟩; refine ⟨_, rfl, ?_⟩; have n0_ := zB.mk (Kd.ZZ (by (with_reducible repeat (first | apply Kd.zc | apply Kd.zd | apply Kd.zr)); exact HO105.out) (Kd.Qv ho0) hb); have n1_ := zB.mk (Kd.qi (by (with_reducible repeat (first | apply Kd.zg | apply Kd.zf | apply Kd.zp)); exact HO108.out) hb); have n2_ := zB.mk (Kd.Zn (Kd.Qw ho0 (Kd.zCr (by (with_reducible repeat (first | apply Kd.zc | apply Kd.zd | apply Kd.zr)); exact HO105.out))) (zN (by repeat (first | (with_reducible first | exact HB.out | apply zC | apply zA | apply zD | refine zF ?_ GE101.out) | exact HB.out)))); have n3_ := zB.mk (zP (g := gb101) (o := .cells #[.slice A0_0 l0_0.length c0_0] 24 (0, 0)) (by (with_reducible repeat (first | refine zH ?_ _ | refine zJ ?_ | refine zG ?_ _)); exact BK101.out) hb); have n4_ := zB.mk (zM (by repeat (first | (with_reducible first | exact HB.out | apply zC | apply zA | apply zD | refine zF ?_ GE101.out) | exact HB.out)) hb); clear HO105; clear HO108; clear BK101; clear HB; have HO105 := n0_; have HO108 := n1_; have HO112 := n2_; have BK101 := n3_; have HB := n4_; clear n0_ n1_ n2_ n3_ n4_; (try clear hb); (try clear hb2); (try clear hk); (try clear hi); (try clear ho0)) | ((with_reducible refine zw (N := 7) rfl ?_); refine zu ?hg (N := 7) ?hd (cs := #[.slice none 0 0]) (t := 30) ?hr ?_; (case hd => rfl); (case hg => rfl); (case hr => first | (go_simp; done) | (go_simp; rfl)); intro gb113 hg w78 hbox hb; have n0_ := zB.mk (Kd.qX (by (with_reducible repeat (first | apply Kd.zc | apply Kd.zd | apply Kd.zr)); exact HO105.out) hb); have n1_ := zB.mk (Kd.qi (by (with_reducible repeat (first | apply Kd.zg | apply Kd.zf | apply Kd.zp)); exact HO108.out) hb); have n2_ := zB.mk (Kd.qX (by (with_reducible repeat (first | apply Kd.zc | apply Kd.zd | apply Kd.zr)); exact HO112.out) hb); have n3_ := zB.mk (zP (g := gb101) (o := .cells #[.slice A0_0 l0_0.length c0_0] 24 (0, 0)) (by (with_reducible repeat (first | refine zH ?_ _ | refine zJ ?_ | refine zG ?_ _)); exact BK101.out) hb); have n4_ := zB.mk (zM (by repeat (first | (with_reducible first | exact HB.out | apply zC | apply zA | apply zD | refine zF ?_ GE101.out) | exact HB.out)) hb); have n5_ := zB.mk (hbox); have n6_ := zB.mk ((by rw [hg]; exact (zN (by repeat (first | (with_reducible first | exact HB.out | apply zC | apply zA | apply zD | refine zF ?_ GE101.out) | exact HB.out))) : w.heap.size ≤ gb113)); have n7_ := zB.mk ((by rw [hg]; exact (zN (by repeat (first | (with_reducible first | exact HB.out | apply zC | apply zA | apply zD | refine zF ?_ GE101.out) | exact HB.out))) : w.heap.size ≤ gb113)); have n8_ := zB.mk ((by rw [hg]; exact Nat.ne_of_lt (qh (g := gb101) (o := .cells #[.slice A0_0 l0_0.length c0_0] 24 (0, 0)) (by (with_reducible repeat (first | refine zH ?_ _ | refine zJ ?_ | refine zG ?_ _)); exact BK101.out)) : gb101 ≠ gb113)); have n9_ := zB.mk ((by rw [hg]; exact Nat.ne_of_gt (qh (g := gb101) (o := .cells #[.slice A0_0 l0_0.length c0_0] 24 (0, 0)) (by (with_reducible repeat (first | refine zH ?_ _ | refine zJ ?_ | refine zG ?_ _)); exact BK101.out)) : gb113 ≠ gb101)); clear HO105; clear HO108; clear HO112; clear BK101; clear HB; have HO105 := n0_; have HO108 := n1_; have HO112 := n2_; have BK101 := n3_; have HB := n4_; have BK113 := n5_; have GW113 := n6_; have GE113 := n7_; have NB101_113 := n8_; have NB113_101 := n9_; clear n0_ n1_ n2_ n3_ n4_ n5_ n6_ n7_ n8_ n9_; clear hb hbox hg; obtain ⟨Ao79, co79, eo79⟩ := Kd.Zo HO112.out; subst eo79; have hnb80 := NB113_101.out; have hnc80 := NB101_113.out; have hcz81_0 : w78.cell? ⟨gb113, 0, none⟩ = some (.slice none 0 0) := (zL BK113.out 0).trans rfl; have hfz81_0 := zO BK113.out 0) | ((with_reducible refine zR (f := 18) rfl ?_); refine qO (some 26) rfl rfl Try.func18 (by kernel_rfl) rfl #[.slice A1 l1.length c1] rfl (by (try simp only [List.map_toArray, List.map_cons, List.map_nil]); first | done | rfl | (simp only [List.length_drop, List.length_take]; rfl)) ?_; (with_reducible refine (ze.calls k _ _ l1 t114 _ ?side1 ?side2 A14.out).mono ?_); (case side1 => exact Kd.zy HR1.out (by repeat (first | (with_reducible first | exact HB.out | apply zC | apply zA | apply zD | refine zF ?_ GE101.out | refine zF ?_ GE113.out) | exact HB.out))); (case side2 => exact HC1.out); rintro e w82 ⟨v115, rfl, ho0, hb⟩; refine ⟨_, rfl, ?_⟩; have n0_ := zB.mk (Kd.qX (by (with_reducible repeat (first | apply Kd.zc | apply Kd.zd | apply Kd.zr)); exact (Kd.ZM (Kd.Qq (p := ⟨gb113, 0, none⟩) (Kd.QC HO105.out BK113.out (by decide)) (fun _ hk => hk.2) (.slice Ao79 t110.length co79)) (fun _ h_ => h_.1))) hb); have n1_ := zB.mk (Kd.Ze (by (with_reducible repeat (first | apply Kd.zg | apply Kd.zf | apply Kd.zp)); exact (Kd.qb (Kd.JH (p := ⟨gb113, 0, none⟩) (Kd.Qa HO108.out BK113.out (by decide)) (fun _ hk => hk.2) (.slice Ao79 t110.length co79)) (fun _ h_ => h_.1))) (Kd.Zy ho0) hb); have n2_ := zB.mk (Kd.qX (by (with_reducible repeat (first | apply Kd.zc | apply Kd.zd | apply Kd.zr)); exact (Kd.ZM (Kd.Qq (p := ⟨gb113, 0, none⟩) (Kd.QC HO112.out BK113.out (by decide)) (fun _ hk => hk.2) (.slice Ao79 t110.length co79)) (fun _ h_ => h_.1))) hb); have n3_ := zB.mk (Kd.ZF (Kd.QU ho0 (Kd.JQ (by (with_reducible repeat (first | apply Kd.zg | apply Kd.zf | apply Kd.zp)); exact (Kd.qb (Kd.JH (p := ⟨gb113, 0, none⟩) (Kd.Qa HO108.out BK113.out (by decide)) (fun _ hk => hk.2) (.slice Ao79 t110.length co79)) (fun _ h_ => h_.1))))) (zN (by repeat (first | (with_reducible first | exact HB.out | apply zC | apply zA | apply zD | refine zF ?_ GE101.out | refine zF ?_ GE113.out) | exact HB.out)))); have n4_ := zB.mk (zP (g := gb101) (o := .cells #[.slice A0_0 l0_0.length c0_0] 24 (0, 0)) (by (with_reducible repeat (first | refine zH ?_ _ | refine zJ ?_ | refine zG ?_ _)); refine qa ?_ NB101_113.out _; (with_reducible repeat (first | refine zH ?_ _ | refine zJ ?_ | refine zG ?_ _)); exact BK101.out) hb); have n5_ := zB.mk (zP (g := gb113) (o := .cells #[.slice Ao79 t110.length co79] 30 (0, 0)) (by (with_reducible repeat (first | refine zH ?_ _ | refine zJ ?_ | refine zG ?_ _)); refine qe (cs := #[.slice none 0 0]) ?_ 0 _ rfl; (with_reducible repeat (first | refine zH ?_ _ | refine zJ ?_ | refine zG ?_ _)); exact BK113.out) hb); have n6_ := zB.mk (zM (by repeat (first | (with_reducible first | exact HB.out | apply zC | apply zA | apply zD | refine zF ?_ GE101.out | refine zF ?_ GE113.out) | exact HB.out)) hb); clear HO105; clear HO108; clear HO112; clear BK101; clear BK113; clear HB; have HO105 := n0_; have HO108 := n1_; have HO112 := n2_; have HO116 := n3_; have BK101 := n4_; have BK113 := n5_; have HB := n6_; clear n0_ n1_ n2_ n3_ n4_ n5_ n6_; (try clear hb); (try clear hb2); (try clear hk); (try clear hi); (try clear ho0); have hcz83_0 : w82.cell? ⟨gb113, 0, none⟩ = some (.slice Ao79 t110.length co79) := (zL BK113.out 0).trans rfl; have hfz83_0 := zO BK113.out 0; obtain ⟨Ao84, co84, eo84⟩ := Kd.ZS HO116.out; subst eo84) | ((with_reducible refine zR (f := 19) rfl ?_); refine qO (some 29) rfl rfl Try.func19 (by kernel_rfl) rfl #[.agg #[.slice Ao79 t110.length co79], .slice Ao84 t114.length co84] rfl (by (try simp only [List.map_toArray, List.map_cons, List.map_nil]); first | done | rfl | (simp only [List.length_drop, List.length_take]; rfl)) ?_; (with_reducible refine (qq.calls k _ _ t110 _ _ t114 t117 _ ?side1 ?side2 ?side3 ?side4 A15.out).mono ?_); (case side1 => repeat (first | exact (Kd.qk HO112.out).2.2 | (with_reducible refine Kd.zi ?_ _) | (with_reducible refine Kd.zj ?_ _) | (with_reducible refine Kd.zz ?_))); (case side2 => exact (Kd.qk HO112.out).2.1); (case side3 => repeat (first | exact (Kd.zv HO116.out).2.2 | (with_reducible refine Kd.zi ?_ _) | (with_reducible refine Kd.zj ?_ _) | (with_reducible refine Kd.zz ?_))); (case side4 => exact (Kd.zv HO116.out).2.1); rintro e w85 ⟨rfl, hb⟩; refine ⟨_, rfl, ?_⟩; have n0_ := zB.mk (Kd.qX (by (with_reducible repeat (first | apply Kd.zc | apply Kd.zd | apply Kd.zr)); exact HO105.out) hb); have n1_ := zB.mk (Kd.qi (by (with_reducible repeat (first | apply Kd.zg | apply Kd.zf | apply Kd.zp)); exact HO108.out) hb); have n2_ := zB.mk (Kd.qX (by (with_reducible repeat (first | apply Kd.zc | apply Kd.zd | apply Kd.zr)); exact HO112.out) hb); have n3_ := zB.mk (Kd.qi (by (with_reducible repeat (first | apply Kd.zg | apply Kd.zf | apply Kd.zp)); exact HO116.out) hb); have n4_ := zB.mk (zP (g := gb101) (o := .cells #[.slice A0_0 l0_0.length c0_0] 24 (0, 0)) (by (with_reducible repeat (first | refine zH ?_ _ | refine zJ ?_ | refine zG ?_ _)); exact BK101.out) hb); have n5_ := zB.mk (zP (g := gb113) (o := .cells #[.slice Ao79 t110.length co79] 30 (0, 0)) (by (with_reducible repeat (first | refine zH ?_ _ | refine zJ ?_ | refine zG ?_ _)); exact BK113.out) hb); have n6_ := zB.mk (zM (by repeat (first | (with_reducible first | exact HB.out | apply zC | apply zA | apply zD | refine zF ?_ GE101.out | refine zF ?_ GE113.out) | exact HB.out)) hb); clear HO105; clear HO108; clear HO112; clear HO116; clear BK101; clear BK113; clear HB; have HO105 := n0_; have HO108 := n1_; have HO112 := n2_; have HO116 := n3_; have BK101 := n4_; have BK113 := n5_; have HB := n6_; clear n0_ n1_ n2_ n3_ n4_ n5_ n6_; (try clear hb); (try clear hb2); (try clear hk); (try clear hi)))
      have n0_ := zB.mk (Kd.zr HO105.out)
      have n1_ := zB.mk (Kd.zp HO108.out)
      have n2_ := zB.mk (Kd.zr HO112.out)
      have n3_ := zB.mk (Kd.zp HO116.out)
      have n4_ := zB.mk (zJ BK101.out)
      have n5_ := zB.mk (zJ BK113.out)
      have n6_ := zB.mk (zD HB.out)
      clear HO105
      clear HO108
      clear HO112
      clear HO116
      clear BK101
      clear BK113
      clear HB
      have HO105 := n0_
      have HO108 := n1_
      have HO112 := n2_
      have HO116 := n3_
      have BK101 := n4_
      have BK113 := n5_
      have HB := n6_
      clear n0_ n1_ n2_ n3_ n4_ n5_ n6_
      refine Zl (n := 5) (S := fun w' => w'.cell? ⟨gb113, 0, none⟩ = some (.slice Ao79 t110.length co79) ∧ w'.cell? ⟨gb101, 0, none⟩ = some (.slice A0_0 l0_0.length c0_0)) (ds := []) #[false, false, false, false, false] (by kernel_rfl) rfl rfl ⟨(zL BK113.out 0).trans rfl, (zL BK101.out 0).trans rfl⟩ (fun hHeld => ?_)
      generalize w85.drew = w86 at HO105 HO108 HO112 HO116 BK101 BK113 HB hHeld ⊢
      refine qt (i := 0) (N := some 33) (v := ?_) (a' := ?_) #[true, false, false, false, false] rfl rfl (by kernel_rfl) (fun _ _ _ h => h) (Or.inl ⟨by rfl, ?_⟩) hHeld ?_ ?_
      rotate_left
      next =>
       rintro w' ⟨s0, s1⟩
       go_simp
       with_reducible rfl
      rotate_left
      next =>
       simp only [Act.put, List.setIfInBounds_toArray, List.set_cons_zero, List.set_cons_succ, zV, zX]
       rfl
      refine qt (i := 1) (N := some 34) (v := ?_) (a' := ?_) #[true, true, false, false, false] rfl rfl (by kernel_rfl) (fun _ _ _ h => h) (Or.inl ⟨by rfl, ?_⟩) hHeld ?_ ?_
      rotate_left
      next =>
       rintro w' ⟨s0, s1⟩
       go_simp
       with_reducible rfl
      rotate_left
      next =>
       simp only [Act.put, List.setIfInBounds_toArray, List.set_cons_zero, List.set_cons_succ, zV, zX]
       rfl
      refine Jd (i := 2) (N := some 35) #[true, true, true, false, false] rfl rfl (by kernel_rfl) (by decide) (fun K hK => ?_)
      refine QZ Try.func17 (by kernel_rfl) rfl #[.agg #[.slice A0_0 l0_0.length c0_0]] (by rfl) rfl rfl (by (try simp only [List.map_toArray, List.map_cons, List.map_nil]); first | done | rfl | (simp only [List.length_drop, List.length_take]; rfl)) ?_
      with_reducible refine (zZ.calls k _ _ l0_0 t118 _ ?side1 ?side2 A36.out).mono ?_
      (case side1 => repeat (first | exact (Kd.zy HR0_0.out HB.out) | (with_reducible refine Kd.zi ?_ _) | (with_reducible refine Kd.zj ?_ _) | (with_reducible refine Kd.zz ?_)))
      (case side2 => exact HC0_0.out)
      rintro e w87 ⟨v119, rfl, ho0, hb⟩
      refine ⟨_, rfl, ?_⟩
      have n0_ := zB.mk (Kd.ZZ (by (with_reducible repeat (first | apply Kd.zc | apply Kd.zd | apply Kd.zr)); exact HO105.out) (Kd.Qv ho0) hb)
      have n1_ := zB.mk (Kd.qi (by (with_reducible repeat (first | apply Kd.zg | apply Kd.zf | apply Kd.zp)); exact HO108.out) hb)
      have n2_ := zB.mk (Kd.ZZ (by (with_reducible repeat (first | apply Kd.zc | apply Kd.zd | apply Kd.zr)); exact HO112.out) (Kd.Qv ho0) hb)
      have n3_ := zB.mk (Kd.qi (by (with_reducible repeat (first | apply Kd.zg | apply Kd.zf | apply Kd.zp)); exact HO116.out) hb)
      have n4_ := zB.mk (Kd.Zn (Kd.Qw (Kd.Qw ho0 (Kd.zCr (by (with_reducible repeat (first | apply Kd.zc | apply Kd.zd | apply Kd.zr)); exact HO105.out))) (Kd.zCr (by (with_reducible repeat (first | apply Kd.zc | apply Kd.zd | apply Kd.zr)); exact HO112.out))) (zN (by repeat (first | (with_reducible first | exact HB.out | apply zC | apply zA | apply zD | refine zF ?_ GE101.out | refine zF ?_ GE113.out) | exact HB.out))))
      have n5_ := zB.mk (zP (g := gb101) (o := .cells #[.slice A0_0 l0_0.length c0_0] 24 (0, 0)) (by (with_reducible repeat (first | refine zH ?_ _ | refine zJ ?_ | refine zG ?_ _)); exact BK101.out) hb)
      have n6_ := zB.mk (zP (g := gb113) (o := .cells #[.slice Ao79 t110.length co79] 30 (0, 0)) (by (with_reducible repeat (first | refine zH ?_ _ | refine zJ ?_ | refine zG ?_ _)); exact BK113.out) hb)
      have n7_ := zB.mk (zM (by repeat (first | (with_reducible first | exact HB.out | apply zC | apply zA | apply zD | refine zF ?_ GE101.out | refine zF ?_ GE113.out) | exact HB.out)) hb)
      clear HO105
      clear HO108
      clear HO112
      clear HO116
      clear BK101
      clear BK113
      clear HB
      have HO105 := n0_
      have HO108 := n1_
      have HO112 := n2_
      have HO116 := n3_
      have HO120 := n4_
      have BK101 := n5_
      have BK113 := n6_
      have HB := n7_
      clear n0_ n1_ n2_ n3_ n4_ n5_ n6_ n7_
      (try clear hb)
      (try clear hb2)
      (try clear hk)
      (try clear hi)
      (try clear ho0)
      obtain ⟨Ao88, co88, eo88⟩ := Kd.Zo HO120.out
      (first | subst eo88 | (injection eo88 with f1_ f2_ f3_; have f4_ := f1_.symm; have f5_ := f3_.symm; clear f1_ f2_ f3_; subst f4_; subst f5_))
      refine hK.out _ _ ⟨(zL BK113.out 0).trans rfl, (zL BK101.out 0).trans rfl⟩ (fun hHeld => ?_)
      clear hK K
      refine QB (a' := ?_) ?_ ?_
      rotate_left
      next =>
       show Act.put _ (some 35) _ = _
       simp only [Act.put, List.setIfInBounds_toArray, List.set_cons_zero, List.set_cons_succ, zV, zX]
       rfl
      refine Jd (i := 3) (N := some 36) #[true, true, true, true, false] rfl rfl (by kernel_rfl) (by decide) (fun K hK => ?_)
      refine QZ Try.func20 (by kernel_rfl) rfl #[.agg #[.slice Ao79 t110.length co79], .agg #[.slice Ao88 t118.length co88]] (by rfl) rfl rfl (by (try simp only [List.map_toArray, List.map_cons, List.map_nil]); first | done | rfl | (simp only [List.length_drop, List.length_take]; rfl)) ?_
      with_reducible refine (qQ.calls k _ _ t110 _ _ t118 true _ ?side1 ?side2 ?side3 ?side4 A37.out).mono ?_
      (case side1 => repeat (first | exact (Kd.qk HO112.out).2.2 | (with_reducible refine Kd.zi ?_ _) | (with_reducible refine Kd.zj ?_ _) | (with_reducible refine Kd.zz ?_)))
      (case side2 => exact (Kd.qk HO112.out).2.1)
      (case side3 => repeat (first | exact (Kd.qk HO120.out).2.2 | (with_reducible refine Kd.zi ?_ _) | (with_reducible refine Kd.zj ?_ _) | (with_reducible refine Kd.zz ?_)))
      (case side4 => exact (Kd.qk HO120.out).2.1)
      rintro e w89 ⟨rfl, hb⟩
      refine ⟨_, rfl, ?_⟩
      have n0_ := zB.mk (Kd.qX (by (with_reducible repeat (first | apply Kd.zc | apply Kd.zd | apply Kd.zr)); exact HO105.out) hb)
      have n1_ := zB.mk (Kd.qi (by (with_reducible repeat (first | apply Kd.zg | apply Kd.zf | apply Kd.zp)); exact HO108.out) hb)
      have n2_ := zB.mk (Kd.qX (by (with_reducible repeat (first | apply Kd.zc | apply Kd.zd | apply Kd.zr)); exact HO112.out) hb)
      have n3_ := zB.mk (Kd.qi (by (with_reducible repeat (first | apply Kd.zg | apply Kd.zf | apply Kd.zp)); exact HO116.out) hb)
      have n4_ := zB.mk (Kd.qX (by (with_reducible repeat (first | apply Kd.zc | apply Kd.zd | apply Kd.zr)); exact HO120.out) hb)
      have n5_ := zB.mk (zP (g := gb101) (o := .cells #[.slice A0_0 l0_0.length c0_0] 24 (0, 0)) (by (with_reducible repeat (first | refine zH ?_ _ | refine zJ ?_ | refine zG ?_ _)); exact BK101.out) hb)
      have n6_ := zB.mk (zP (g := gb113) (o := .cells #[.slice Ao79 t110.length co79] 30 (0, 0)) (by (with_reducible repeat (first | refine zH ?_ _ | refine zJ ?_ | refine zG ?_ _)); exact BK113.out) hb)
      have n7_ := zB.mk (zM (by repeat (first | (with_reducible first | exact HB.out | apply zC | apply zA | apply zD | refine zF ?_ GE101.out | refine zF ?_ GE113.out) | exact HB.out)) hb)
      clear HO105
      clear HO108
      clear HO112
      clear HO116
      clear HO120
      clear BK101
      clear BK113
      clear HB
      have HO105 := n0_
      have HO108 := n1_
      have HO112 := n2_
      have HO116 := n3_
      have HO120 := n4_
      have BK101 := n5_
      have BK113 := n6_
      have HB := n7_
      clear n0_ n1_ n2_ n3_ n4_ n5_ n6_ n7_
      (try clear hb)
      (try clear hb2)
      (try clear hk)
      (try clear hi)
      refine hK.out _ _ ⟨(zL BK113.out 0).trans rfl, (zL BK101.out 0).trans rfl⟩ (fun hHeld => ?_)
      clear hK K
      refine QB (a' := ?_) ?_ ?_
      rotate_left
      next =>
       show Act.put _ (some 36) _ = _
       simp only [Act.put, List.setIfInBounds_toArray, List.set_cons_zero, List.set_cons_succ, zV, zX]
       rfl
      refine zk (i := 4) (N := some 37) (v := ?_) (a' := ?_) #[true, true, true, true, true] rfl rfl (by kernel_rfl) (fun _ _ _ h => h) (Or.inl ⟨by rfl, ?_⟩) ?_ ?_
      rotate_left
      next =>
       intro w'
       go_simp
       with_reducible rfl
      rotate_left
      next =>
       simp only [Act.put, List.setIfInBounds_toArray, List.set_cons_zero, List.set_cons_succ, zV, zX]
       rfl
      refine QR (by kernel_rfl) ?_
      try go_wp2_with (first | ((with_reducible refine zR (f := 18) rfl ?_); refine qO (some 40) rfl rfl Try.func18 (by kernel_rfl) rfl #[.slice A1 l1.length c1] rfl (by (try simp only [List.map_toArray, List.map_cons, List.map_nil]); first | done | rfl | (simp only [List.length_drop, List.length_take]; rfl)) ?_; (with_reducible refine (ze.calls k _ _ l1 t122 _ ?side1 ?side2 A39.out).mono ?_); (case side1 => repeat (first | exact (Kd.zy HR1.out HB.out) | (with_reducible refine Kd.zi ?_ _) | (with_reducible refine Kd.zj ?_ _) | (with_reducible refine Kd.zz ?_))); (case side2 => exact HC1.out); rintro e w90 ⟨v123, rfl, ho0, hb⟩; refine ⟨_, rfl, ?_⟩; have n0_ := zB.mk (Kd.qX (by (with_reducible repeat (first | apply Kd.zc | apply Kd.zd | apply Kd.zr)); exact HO105.out) hb); have n1_ := zB.mk (Kd.Ze (by (with_reducible repeat (first | apply Kd.zg | apply Kd.zf | apply Kd.zp)); exact HO108.out) (Kd.Zy ho0) hb); have n2_ := zB.mk (Kd.qX (by (with_reducible repeat (first | apply Kd.zc | apply Kd.zd | apply Kd.zr)); exact HO112.out) hb); have n3_ := zB.mk (Kd.Ze (by (with_reducible repeat (first | apply Kd.zg | apply Kd.zf | apply Kd.zp)); exact HO116.out) (Kd.Zy ho0) hb); have n4_ := zB.mk (Kd.qX (by (with_reducible repeat (first | apply Kd.zc | apply Kd.zd | apply Kd.zr)); exact HO120.out) hb); have n5_ := zB.mk (Kd.ZF (Kd.QU (Kd.QU ho0 (Kd.JQ (by (with_reducible repeat (first | apply Kd.zg | apply Kd.zf | apply Kd.zp)); exact HO108.out))) (Kd.JQ (by (with_reducible repeat (first | apply Kd.zg | apply Kd.zf | apply Kd.zp)); exact HO116.out))) (zN (by repeat (first | (with_reducible first | exact HB.out | apply zC | apply zA | apply zD | refine zF ?_ GE101.out | refine zF ?_ GE113.out) | exact HB.out)))); have n6_ := zB.mk (zP (g := gb101) (o := .cells #[.slice A0_0 l0_0.length c0_0] 24 (0, 0)) (by (with_reducible repeat (first | refine zH ?_ _ | refine zJ ?_ | refine zG ?_ _)); exact BK101.out) hb); have n7_ := zB.mk (zP (g := gb113) (o := .cells #[.slice Ao79 t110.length co79] 30 (0, 0)) (by (with_reducible repeat (first | refine zH ?_ _ | refine zJ ?_ | refine zG ?_ _)); exact BK113.out) hb); have n8_ := zB.mk (zM (by repeat (first | (with_reducible first | exact HB.out | apply zC | apply zA | apply zD | refine zF ?_ GE101.out | refine zF ?_ GE113.out) | exact HB.out)) hb); clear HO105; clear HO108; clear HO112; clear HO116; clear HO120; clear BK101; clear BK113; clear HB; have HO105 := n0_; have HO108 := n1_; have HO112 := n2_; have HO116 := n3_; have HO120 := n4_; have HO124 := n5_; have BK101 := n6_; have BK113 := n7_; have HB := n8_; clear n0_ n1_ n2_ n3_ n4_ n5_ n6_ n7_ n8_; (try clear hb); (try clear hb2); (try clear hk); (try clear hi); (try clear ho0); obtain ⟨Ao91, co91, eo91⟩ := Kd.ZS HO124.out; subst eo91) | ((with_reducible refine zR (f := 21) rfl ?_); refine qO (some 41) rfl rfl Try.func21 (by kernel_rfl) rfl #[.slice Ao84 t114.length co84, .slice Ao91 t122.length co91] rfl (by (try simp only [List.map_toArray, List.map_cons, List.map_nil]); first | done | rfl | (simp only [List.length_drop, List.length_take]; rfl)) ?_; (with_reducible refine (qK.calls k _ _ t114 _ _ t122 false _ ?side1 ?side2 ?side3 ?side4 A40.out).mono ?_); (case side1 => repeat (first | exact (Kd.zv HO116.out).2.2 | (with_reducible refine Kd.zi ?_ _) | (with_reducible refine Kd.zj ?_ _) | (with_reducible refine Kd.zz ?_))); (case side2 => exact (Kd.zv HO116.out).2.1); (case side3 => repeat (first | exact (Kd.zv HO124.out).2.2 | (with_reducible refine Kd.zi ?_ _) | (with_reducible refine Kd.zj ?_ _) | (with_reducible refine Kd.zz ?_))); (case side4 => exact (Kd.zv HO124.out).2.1); rintro e w' ⟨rfl, ⟨nd, rfl⟩⟩; refine ⟨_, rfl, ?_⟩))
      go_ret
      exact ⟨by first | rfl | (simp [zT, zU] <;> rfl) | (simp [*, zT, zU] <;> rfl), by repeat (first | (with_reducible first | exact HB.out | apply zC | apply zA | apply zD | refine zF ?_ GE101.out | refine zF ?_ GE113.out) | exact HB.out)⟩
    next =>
     replace c38 := Bool.eq_false_iff.mpr c38
     subst c38
     have H1 : (some false) = some r := by rw [if_neg (show ¬ (false = true) by decide)] at H; exact H
     clear H
     have H := H1
     clear H1
     obtain rfl := Option.some.inj H
     go_enter Try.func3, Try.ntmps3
     try go_wp2_with (first | ((with_reducible refine zw (N := 2) rfl ?_); refine zu ?hg (N := 2) ?hd (cs := #[.slice A0_0 l0_0.length c0_0]) (t := 24) ?hr ?_; (case hd => rfl); (case hg => rfl); (case hr => first | (go_simp; done) | (go_simp; rfl)); intro gb101 hg w92 hbox hb; have n0_ := zB.mk (zM (by repeat (first | (with_reducible first | exact HB.out | apply zC | apply zA | apply zD) | exact HB.out)) hb); have n1_ := zB.mk (hbox); have n2_ := zB.mk ((by rw [hg]; exact (zN (by repeat (first | (with_reducible first | exact HB.out | apply zC | apply zA | apply zD) | exact HB.out))) : w.heap.size ≤ gb101)); have n3_ := zB.mk ((by rw [hg]; exact (zN (by repeat (first | (with_reducible first | exact HB.out | apply zC | apply zA | apply zD) | exact HB.out))) : w.heap.size ≤ gb101)); clear HB; have HB := n0_; have BK101 := n1_; have GW101 := n2_; have GE101 := n3_; clear n0_ n1_ n2_ n3_; clear hb hbox hg; have hcz93_0 : w92.cell? ⟨gb101, 0, none⟩ = some (.slice A0_0 l0_0.length c0_0) := (zL BK101.out 0).trans rfl; have hfz93_0 := zO BK101.out 0) | ((with_reducible refine zR (f := 15) rfl ?_); refine qO (some 15) rfl rfl Try.func15 (by kernel_rfl) rfl #[.agg #[.slice A0_0 l0_0.length c0_0], .int .i64 1048576] rfl (by (try simp only [List.map_toArray, List.map_cons, List.map_nil]); first | done | rfl | (simp only [List.length_drop, List.length_take]; rfl)) ?_; (with_reducible refine (qo.calls k _ _ l0_0 1048576 t102 _ ?side1 ?side2 A5.out).mono ?_); (case side1 => repeat (first | exact (Kd.zy HR0_0.out HB.out) | (with_reducible refine Kd.zi ?_ _) | (with_reducible refine Kd.zj ?_ _) | (with_reducible refine Kd.zz ?_))); (case side2 => exact HC0_0.out); rintro e w94 ⟨rfl, hb⟩; refine ⟨_, rfl, ?_⟩; have n0_ := zB.mk (zP (g := gb101) (o := .cells #[.slice A0_0 l0_0.length c0_0] 24 (0, 0)) (by (with_reducible repeat (first | refine zH ?_ _ | refine zJ ?_ | refine zG ?_ _)); exact BK101.out) hb); have n1_ := zB.mk (zM (by repeat (first | (with_reducible first | exact HB.out | apply zC | apply zA | apply zD | refine zF ?_ GE101.out) | exact HB.out)) hb); clear BK101; clear HB; have BK101 := n0_; have HB := n1_; clear n0_ n1_; (try clear hb); (try clear hb2); (try clear hk); (try clear hi); have hcz95_0 : w94.cell? ⟨gb101, 0, none⟩ = some (.slice A0_0 l0_0.length c0_0) := (zL BK101.out 0).trans rfl; have hfz95_0 := zO BK101.out 0) | ((with_reducible refine zR (f := 17) rfl ?_); refine qO (some 19) rfl rfl Try.func17 (by kernel_rfl) rfl #[.agg #[.slice A0_0 l0_0.length c0_0]] rfl (by (try simp only [List.map_toArray, List.map_cons, List.map_nil]); first | done | rfl | (simp only [List.length_drop, List.length_take]; rfl)) ?_; (with_reducible refine (zZ.calls k _ _ l0_0 t103 _ ?side1 ?side2 A10.out).mono ?_); (case side1 => repeat (first | exact (Kd.zy HR0_0.out HB.out) | (with_reducible refine Kd.zi ?_ _) | (with_reducible refine Kd.zj ?_ _) | (with_reducible refine Kd.zz ?_))); (case side2 => exact HC0_0.out); rintro e w96 ⟨v104, rfl, ho0, hb⟩; refine ⟨_, rfl, ?_⟩; have n0_ := zB.mk (Kd.Zn ho0 (zN (by repeat (first | (with_reducible first | exact HB.out | apply zC | apply zA | apply zD | refine zF ?_ GE101.out) | exact HB.out)))); have n1_ := zB.mk (zP (g := gb101) (o := .cells #[.slice A0_0 l0_0.length c0_0] 24 (0, 0)) (by (with_reducible repeat (first | refine zH ?_ _ | refine zJ ?_ | refine zG ?_ _)); exact BK101.out) hb); have n2_ := zB.mk (zM (by repeat (first | (with_reducible first | exact HB.out | apply zC | apply zA | apply zD | refine zF ?_ GE101.out) | exact HB.out)) hb); clear BK101; clear HB; have HO105 := n0_; have BK101 := n1_; have HB := n2_; clear n0_ n1_ n2_; (try clear hb); (try clear hb2); (try clear hk); (try clear hi); (try clear ho0)) | ((with_reducible refine zR (f := 18) rfl ?_); refine qO (some 21) rfl rfl Try.func18 (by kernel_rfl) rfl #[.slice A1 l1.length c1] rfl (by (try simp only [List.map_toArray, List.map_cons, List.map_nil]); first | done | rfl | (simp only [List.length_drop, List.length_take]; rfl)) ?_; (with_reducible refine (ze.calls k _ _ l1 t106 _ ?side1 ?side2 A11.out).mono ?_); (case side1 => repeat (first | exact (Kd.zy HR1.out HB.out) | (with_reducible refine Kd.zi ?_ _) | (with_reducible refine Kd.zj ?_ _) | (with_reducible refine Kd.zz ?_))); (case side2 => exact HC1.out); rintro e w97 ⟨v107, rfl, ho0, hb⟩; refine ⟨_, rfl, ?_⟩; have n0_ := zB.mk (Kd.qX (by (with_reducible repeat (first | apply Kd.zc | apply Kd.zd | apply Kd.zr)); exact HO105.out) hb); have n1_ := zB.mk (Kd.ZF ho0 (zN (by repeat (first | (with_reducible first | exact HB.out | apply zC | apply zA | apply zD | refine zF ?_ GE101.out) | exact HB.out)))); have n2_ := zB.mk (zP (g := gb101) (o := .cells #[.slice A0_0 l0_0.length c0_0] 24 (0, 0)) (by (with_reducible repeat (first | refine zH ?_ _ | refine zJ ?_ | refine zG ?_ _)); exact BK101.out) hb); have n3_ := zB.mk (zM (by repeat (first | (with_reducible first | exact HB.out | apply zC | apply zA | apply zD | refine zF ?_ GE101.out) | exact HB.out)) hb); clear HO105; clear BK101; clear HB; have HO105 := n0_; have HO108 := n1_; have BK101 := n2_; have HB := n3_; clear n0_ n1_ n2_ n3_; (try clear hb); (try clear hb2); (try clear hk); (try clear hi); (try clear ho0); obtain ⟨Ao98, co98, eo98⟩ := Kd.Zo HO105.out; subst eo98; obtain ⟨Ao99, co99, eo99⟩ := Kd.ZS HO108.out; subst eo99) | ((with_reducible refine zR (f := 16) rfl ?_); refine qO (some 22) rfl rfl Try.func16 (by kernel_rfl) rfl #[.agg #[.slice Ao98 t103.length co98], .slice Ao99 t106.length co99] rfl (by (try simp only [List.map_toArray, List.map_cons, List.map_nil]); first | done | rfl | (simp only [List.length_drop, List.length_take]; rfl)) ?_; (with_reducible refine (zb.calls k _ _ t103 _ _ t106 t109 _ ?side1 ?side2 ?side3 ?side4 A12.out).mono ?_); (case side1 => repeat (first | exact (Kd.qk HO105.out).2.2 | (with_reducible refine Kd.zi ?_ _) | (with_reducible refine Kd.zj ?_ _) | (with_reducible refine Kd.zz ?_))); (case side2 => exact (Kd.qk HO105.out).2.1); (case side3 => repeat (first | exact (Kd.zv HO108.out).2.2 | (with_reducible refine Kd.zi ?_ _) | (with_reducible refine Kd.zj ?_ _) | (with_reducible refine Kd.zz ?_))); (case side4 => exact (Kd.zv HO108.out).2.1); rintro e w100 ⟨rfl, hb⟩; refine ⟨_, rfl, ?_⟩; have n0_ := zB.mk (Kd.qX (by (with_reducible repeat (first | apply Kd.zc | apply Kd.zd | apply Kd.zr)); exact HO105.out) hb); have n1_ := zB.mk (Kd.qi (by (with_reducible repeat (first | apply Kd.zg | apply Kd.zf | apply Kd.zp)); exact HO108.out) hb); have n2_ := zB.mk (zP (g := gb101) (o := .cells #[.slice A0_0 l0_0.length c0_0] 24 (0, 0)) (by (with_reducible repeat (first | refine zH ?_ _ | refine zJ ?_ | refine zG ?_ _)); exact BK101.out) hb); have n3_ := zB.mk (zM (by repeat (first | (with_reducible first | exact HB.out | apply zC | apply zA | apply zD | refine zF ?_ GE101.out) | exact HB.out)) hb); clear HO105; clear HO108; clear BK101; clear HB; have HO105 := n0_; have HO108 := n1_; have BK101 := n2_; have HB := n3_; clear n0_ n1_ n2_ n3_; (try clear hb); (try clear hb2); (try clear hk); (try clear hi); have hcz101_0 : w100.cell? ⟨gb101, 0, none⟩ = some (.slice A0_0 l0_0.length c0_0) := (zL BK101.out 0).trans rfl; have hfz101_0 := zO BK101.out 0) | ((with_reducible refine zR (f := 17) rfl ?_); refine qO (some 24) rfl rfl Try.func17 (by kernel_rfl) rfl #[.agg #[.slice A0_0 l0_0.length c0_0]] rfl (by (try simp only [List.map_toArray, List.map_cons, List.map_nil]); first | done | rfl | (simp only [List.length_drop, List.length_take]; rfl)) ?_; (with_reducible refine (zZ.calls k _ _ l0_0 t110 _ ?side1 ?side2 A13.out).mono ?_); (case side1 => repeat (first | exact (Kd.zy HR0_0.out HB.out) | (with_reducible refine Kd.zi ?_ _) | (with_reducible refine Kd.zj ?_ _) | (with_reducible refine Kd.zz ?_))); (case side2 => exact HC0_0.out); rintro e w102 ⟨v111, rfl, ho0, hb⟩; refine ⟨_, rfl, ?_⟩; have n0_ := zB.mk (Kd.ZZ (by (with_reducible repeat (first | apply Kd.zc | apply Kd.zd | apply Kd.zr)); exact HO105.out) (Kd.Qv ho0) hb); have n1_ := zB.mk (Kd.qi (by (with_reducible repeat (first | apply Kd.zg | apply Kd.zf | apply Kd.zp)); exact HO108.out) hb); have n2_ := zB.mk (Kd.Zn (Kd.Qw ho0 (Kd.zCr (by (with_reducible repeat (first | apply Kd.zc | apply Kd.zd | apply Kd.zr)); exact HO105.out))) (zN (by repeat (first | (with_reducible first | exact HB.out | apply zC | apply zA | apply zD | refine zF ?_ GE101.out) | exact HB.out)))); have n3_ := zB.mk (zP (g := gb101) (o := .cells #[.slice A0_0 l0_0.length c0_0] 24 (0, 0)) (by (with_reducible repeat (first | refine zH ?_ _ | refine zJ ?_ | refine zG ?_ _)); exact BK101.out) hb); have n4_ := zB.mk (zM (by repeat (first | (with_reducible first | exact HB.out | apply zC | apply zA | apply zD | refine zF ?_ GE101.out) | exact HB.out)) hb); clear HO105; clear HO108; clear BK101; clear HB; have HO105 := n0_; have HO108 := n1_; have HO112 := n2_; have BK101 := n3_; have HB := n4_; clear n0_ n1_ n2_ n3_ n4_; (try clear hb); (try clear hb2); (try clear hk); (try clear hi); (try clear ho0)) | ((with_reducible refine zw (N := 7) rfl ?_); refine zu ?hg (N := 7) ?hd (cs := #[.slice none 0 0]) (t := 30) ?hr ?_; (case hd => rfl); (case hg => rfl); (case hr => first | (go_simp; done) | (go_simp; rfl)); intro gb113 hg w103 hbox hb; have n0_ := zB.mk (Kd.qX (by (with_reducible repeat (first | apply Kd.zc | apply Kd.zd | apply Kd.zr)); exact HO105.out) hb); have n1_ := zB.mk (Kd.qi (by (with_reducible repeat (first | apply Kd.zg | apply Kd.zf | apply Kd.zp)); exact HO108.out) hb); have n2_ := zB.mk (Kd.qX (by (with_reducible repeat (first | apply Kd.zc | apply Kd.zd | apply Kd.zr)); exact HO112.out) hb); have n3_ := zB.mk (zP (g := gb101) (o := .cells #[.slice A0_0 l0_0.length c0_0] 24 (0, 0)) (by (with_reducible repeat (first | refine zH ?_ _ | refine zJ ?_ | refine zG ?_ _)); exact BK101.out) hb); have n4_ := zB.mk (zM (by repeat (first | (with_reducible first | exact HB.out | apply zC | apply zA | apply zD | refine zF ?_ GE101.out) | exact HB.out)) hb); have n5_ := zB.mk (hbox); have n6_ := zB.mk ((by rw [hg]; exact (zN (by repeat (first | (with_reducible first | exact HB.out | apply zC | apply zA | apply zD | refine zF ?_ GE101.out) | exact HB.out))) : w.heap.size ≤ gb113)); have n7_ := zB.mk ((by rw [hg]; exact (zN (by repeat (first | (with_reducible first | exact HB.out | apply zC | apply zA | apply zD | refine zF ?_ GE101.out) | exact HB.out))) : w.heap.size ≤ gb113)); have n8_ := zB.mk ((by rw [hg]; exact Nat.ne_of_lt (qh (g := gb101) (o := .cells #[.slice A0_0 l0_0.length c0_0] 24 (0, 0)) (by (with_reducible repeat (first | refine zH ?_ _ | refine zJ ?_ | refine zG ?_ _)); exact BK101.out)) : gb101 ≠ gb113)); have n9_ := zB.mk ((by rw [hg]; exact Nat.ne_of_gt (qh (g := gb101) (o := .cells #[.slice A0_0 l0_0.length c0_0] 24 (0, 0)) (by (with_reducible repeat (first | refine zH ?_ _ | refine zJ ?_ | refine zG ?_ _)); exact BK101.out)) : gb113 ≠ gb101)); clear HO105; clear HO108; clear HO112; clear BK101; clear HB; have HO105 := n0_; have HO108 := n1_; have HO112 := n2_; have BK101 := n3_; have HB := n4_; have BK113 := n5_; have GW113 := n6_; have GE113 := n7_; have NB101_113 := n8_; have NB113_101 := n9_; clear n0_ n1_ n2_ n3_ n4_ n5_ n6_ n7_ n8_ n9_; clear hb hbox hg; obtain ⟨Ao104, co104, eo104⟩ := Kd.Zo HO112.out; subst eo104; have hnb105 := NB113_101.out; have hnc105 := NB101_113.out; have hcz106_0 : w103.cell? ⟨gb113, 0, none⟩ = some (.slice none 0 0) := (zL BK113.out 0).trans rfl; have hfz106_0 := zO BK113.out 0) | ((with_reducible refine zR (f := 18) rfl ?_); refine qO (some 26) rfl rfl Try.func18 (by kernel_rfl) rfl #[.slice A1 l1.length c1] rfl (by (try simp only [List.map_toArray, List.map_cons, List.map_nil]); first | done | rfl | (simp only [List.length_drop, List.length_take]; rfl)) ?_; (with_reducible refine (ze.calls k _ _ l1 t114 _ ?side1 ?side2 A14.out).mono ?_); (case side1 => exact Kd.zy HR1.out (by repeat (first | (with_reducible first | exact HB.out | apply zC | apply zA | apply zD | refine zF ?_ GE101.out | refine zF ?_ GE113.out) | exact HB.out))); (case side2 => exact HC1.out); rintro e w107 ⟨v115, rfl, ho0, hb⟩; refine ⟨_, rfl, ?_⟩; have n0_ := zB.mk (Kd.qX (by (with_reducible repeat (first | apply Kd.zc | apply Kd.zd | apply Kd.zr)); exact (Kd.ZM (Kd.Qq (p := ⟨gb113, 0, none⟩) (Kd.QC HO105.out BK113.out (by decide)) (fun _ hk => hk.2) (.slice Ao104 t110.length co104)) (fun _ h_ => h_.1))) hb); have n1_ := zB.mk (Kd.Ze (by (with_reducible repeat (first | apply Kd.zg | apply Kd.zf | apply Kd.zp)); exact (Kd.qb (Kd.JH (p := ⟨gb113, 0, none⟩) (Kd.Qa HO108.out BK113.out (by decide)) (fun _ hk => hk.2) (.slice Ao104 t110.length co104)) (fun _ h_ => h_.1))) (Kd.Zy ho0) hb); have n2_ := zB.mk (Kd.qX (by (with_reducible repeat (first | apply Kd.zc | apply Kd.zd | apply Kd.zr)); exact (Kd.ZM (Kd.Qq (p := ⟨gb113, 0, none⟩) (Kd.QC HO112.out BK113.out (by decide)) (fun _ hk => hk.2) (.slice Ao104 t110.length co104)) (fun _ h_ => h_.1))) hb); have n3_ := zB.mk (Kd.ZF (Kd.QU ho0 (Kd.JQ (by (with_reducible repeat (first | apply Kd.zg | apply Kd.zf | apply Kd.zp)); exact (Kd.qb (Kd.JH (p := ⟨gb113, 0, none⟩) (Kd.Qa HO108.out BK113.out (by decide)) (fun _ hk => hk.2) (.slice Ao104 t110.length co104)) (fun _ h_ => h_.1))))) (zN (by repeat (first | (with_reducible first | exact HB.out | apply zC | apply zA | apply zD | refine zF ?_ GE101.out | refine zF ?_ GE113.out) | exact HB.out)))); have n4_ := zB.mk (zP (g := gb101) (o := .cells #[.slice A0_0 l0_0.length c0_0] 24 (0, 0)) (by (with_reducible repeat (first | refine zH ?_ _ | refine zJ ?_ | refine zG ?_ _)); refine qa ?_ NB101_113.out _; (with_reducible repeat (first | refine zH ?_ _ | refine zJ ?_ | refine zG ?_ _)); exact BK101.out) hb); have n5_ := zB.mk (zP (g := gb113) (o := .cells #[.slice Ao104 t110.length co104] 30 (0, 0)) (by (with_reducible repeat (first | refine zH ?_ _ | refine zJ ?_ | refine zG ?_ _)); refine qe (cs := #[.slice none 0 0]) ?_ 0 _ rfl; (with_reducible repeat (first | refine zH ?_ _ | refine zJ ?_ | refine zG ?_ _)); exact BK113.out) hb); have n6_ := zB.mk (zM (by repeat (first | (with_reducible first | exact HB.out | apply zC | apply zA | apply zD | refine zF ?_ GE101.out | refine zF ?_ GE113.out) | exact HB.out)) hb); clear HO105; clear HO108; clear HO112; clear BK101; clear BK113; clear HB; have HO105 := n0_; have HO108 := n1_; have HO112 := n2_; have HO116 := n3_; have BK101 := n4_; have BK113 := n5_; have HB := n6_; clear n0_ n1_ n2_ n3_ n4_ n5_ n6_; (try clear hb); (try clear hb2); (try clear hk); (try clear hi); (try clear ho0); have hcz108_0 : w107.cell? ⟨gb113, 0, none⟩ = some (.slice Ao104 t110.length co104) := (zL BK113.out 0).trans rfl; have hfz108_0 := zO BK113.out 0; obtain ⟨Ao109, co109, eo109⟩ := Kd.ZS HO116.out; subst eo109) | ((with_reducible refine zR (f := 19) rfl ?_); refine qO (some 29) rfl rfl Try.func19 (by kernel_rfl) rfl #[.agg #[.slice Ao104 t110.length co104], .slice Ao109 t114.length co109] rfl (by (try simp only [List.map_toArray, List.map_cons, List.map_nil]); first | done | rfl | (simp only [List.length_drop, List.length_take]; rfl)) ?_; (with_reducible refine (qq.calls k _ _ t110 _ _ t114 t117 _ ?side1 ?side2 ?side3 ?side4 A15.out).mono ?_); (case side1 => repeat (first | exact (Kd.qk HO112.out).2.2 | (with_reducible refine Kd.zi ?_ _) | (with_reducible refine Kd.zj ?_ _) | (with_reducible refine Kd.zz ?_))); (case side2 => exact (Kd.qk HO112.out).2.1); (case side3 => repeat (first | exact (Kd.zv HO116.out).2.2 | (with_reducible refine Kd.zi ?_ _) | (with_reducible refine Kd.zj ?_ _) | (with_reducible refine Kd.zz ?_))); (case side4 => exact (Kd.zv HO116.out).2.1); rintro e w110 ⟨rfl, hb⟩; refine ⟨_, rfl, ?_⟩; have n0_ := zB.mk (Kd.qX (by (with_reducible repeat (first | apply Kd.zc | apply Kd.zd | apply Kd.zr)); exact HO105.out) hb); have n1_ := zB.mk (Kd.qi (by (with_reducible repeat (first | apply Kd.zg | apply Kd.zf | apply Kd.zp)); exact HO108.out) hb); have n2_ := zB.mk (Kd.qX (by (with_reducible repeat (first | apply Kd.zc | apply Kd.zd | apply Kd.zr)); exact HO112.out) hb); have n3_ := zB.mk (Kd.qi (by (with_reducible repeat (first | apply Kd.zg | apply Kd.zf | apply Kd.zp)); exact HO116.out) hb); have n4_ := zB.mk (zP (g := gb101) (o := .cells #[.slice A0_0 l0_0.length c0_0] 24 (0, 0)) (by (with_reducible repeat (first | refine zH ?_ _ | refine zJ ?_ | refine zG ?_ _)); exact BK101.out) hb); have n5_ := zB.mk (zP (g := gb113) (o := .cells #[.slice Ao104 t110.length co104] 30 (0, 0)) (by (with_reducible repeat (first | refine zH ?_ _ | refine zJ ?_ | refine zG ?_ _)); exact BK113.out) hb); have n6_ := zB.mk (zM (by repeat (first | (with_reducible first | exact HB.out | apply zC | apply zA | apply zD | refine zF ?_ GE101.out | refine zF ?_ GE113.out) | exact HB.out)) hb); clear HO105; clear HO108; clear HO112; clear HO116; clear BK101; clear BK113; clear HB; have HO105 := n0_; have HO108 := n1_; have HO112 := n2_; have HO116 := n3_; have BK101 := n4_; have BK113 := n5_; have HB := n6_; clear n0_ n1_ n2_ n3_ n4_ n5_ n6_; (try clear hb); (try clear hb2); (try clear hk); (try clear hi)))
     have n0_ := zB.mk (Kd.zr HO105.out)
     have n1_ := zB.mk (Kd.zp HO108.out)
     have n2_ := zB.mk (Kd.zr HO112.out)
     have n3_ := zB.mk (Kd.zp HO116.out)
     have n4_ := zB.mk (zJ BK101.out)
     have n5_ := zB.mk (zJ BK113.out)
     have n6_ := zB.mk (zD HB.out)
     clear HO105
     clear HO108
     clear HO112
     clear HO116
     clear BK101
     clear BK113
     clear HB
     have HO105 := n0_
     have HO108 := n1_
     have HO112 := n2_
     have HO116 := n3_
     have BK101 := n4_
     have BK113 := n5_
     have HB := n6_
     clear n0_ n1_ n2_ n3_ n4_ n5_ n6_
     refine Zl (n := 5) (S := fun w' => w'.cell? ⟨gb113, 0, none⟩ = some (.slice Ao104 t110.length co104) ∧ w'.cell? ⟨gb101, 0, none⟩ = some (.slice A0_0 l0_0.length c0_0)) (ds := []) #[false, false, false, false, false] (by kernel_rfl) rfl rfl ⟨(zL BK113.out 0).trans rfl, (zL BK101.out 0).trans rfl⟩ (fun hHeld => ?_)
     generalize w110.drew = w111 at HO105 HO108 HO112 HO116 BK101 BK113 HB hHeld ⊢
     refine qt (i := 0) (N := some 33) (v := ?_) (a' := ?_) #[true, false, false, false, false] rfl rfl (by kernel_rfl) (fun _ _ _ h => h) (Or.inl ⟨by rfl, ?_⟩) hHeld ?_ ?_
     rotate_left
     next =>
      rintro w' ⟨s0, s1⟩
      go_simp
      with_reducible rfl
     rotate_left
     next =>
      simp only [Act.put, List.setIfInBounds_toArray, List.set_cons_zero, List.set_cons_succ, zV, zX]
      rfl
     refine qt (i := 1) (N := some 34) (v := ?_) (a' := ?_) #[true, true, false, false, false] rfl rfl (by kernel_rfl) (fun _ _ _ h => h) (Or.inl ⟨by rfl, ?_⟩) hHeld ?_ ?_
     rotate_left
     next =>
      rintro w' ⟨s0, s1⟩
      go_simp
      with_reducible rfl
     rotate_left
     next =>
      simp only [Act.put, List.setIfInBounds_toArray, List.set_cons_zero, List.set_cons_succ, zV, zX]
      rfl
     refine Jd (i := 2) (N := some 35) #[true, true, true, false, false] rfl rfl (by kernel_rfl) (by decide) (fun K hK => ?_)
     refine QZ Try.func17 (by kernel_rfl) rfl #[.agg #[.slice A0_0 l0_0.length c0_0]] (by rfl) rfl rfl (by (try simp only [List.map_toArray, List.map_cons, List.map_nil]); first | done | rfl | (simp only [List.length_drop, List.length_take]; rfl)) ?_
     with_reducible refine (zZ.calls k _ _ l0_0 t118 _ ?side1 ?side2 A36.out).mono ?_
     (case side1 => repeat (first | exact (Kd.zy HR0_0.out HB.out) | (with_reducible refine Kd.zi ?_ _) | (with_reducible refine Kd.zj ?_ _) | (with_reducible refine Kd.zz ?_)))
     (case side2 => exact HC0_0.out)
     rintro e w112 ⟨v119, rfl, ho0, hb⟩
     refine ⟨_, rfl, ?_⟩
     have n0_ := zB.mk (Kd.ZZ (by (with_reducible repeat (first | apply Kd.zc | apply Kd.zd | apply Kd.zr)); exact HO105.out) (Kd.Qv ho0) hb)
     have n1_ := zB.mk (Kd.qi (by (with_reducible repeat (first | apply Kd.zg | apply Kd.zf | apply Kd.zp)); exact HO108.out) hb)
     have n2_ := zB.mk (Kd.ZZ (by (with_reducible repeat (first | apply Kd.zc | apply Kd.zd | apply Kd.zr)); exact HO112.out) (Kd.Qv ho0) hb)
     have n3_ := zB.mk (Kd.qi (by (with_reducible repeat (first | apply Kd.zg | apply Kd.zf | apply Kd.zp)); exact HO116.out) hb)
     have n4_ := zB.mk (Kd.Zn (Kd.Qw (Kd.Qw ho0 (Kd.zCr (by (with_reducible repeat (first | apply Kd.zc | apply Kd.zd | apply Kd.zr)); exact HO105.out))) (Kd.zCr (by (with_reducible repeat (first | apply Kd.zc | apply Kd.zd | apply Kd.zr)); exact HO112.out))) (zN (by repeat (first | (with_reducible first | exact HB.out | apply zC | apply zA | apply zD | refine zF ?_ GE101.out | refine zF ?_ GE113.out) | exact HB.out))))
     have n5_ := zB.mk (zP (g := gb101) (o := .cells #[.slice A0_0 l0_0.length c0_0] 24 (0, 0)) (by (with_reducible repeat (first | refine zH ?_ _ | refine zJ ?_ | refine zG ?_ _)); exact BK101.out) hb)
     have n6_ := zB.mk (zP (g := gb113) (o := .cells #[.slice Ao104 t110.length co104] 30 (0, 0)) (by (with_reducible repeat (first | refine zH ?_ _ | refine zJ ?_ | refine zG ?_ _)); exact BK113.out) hb)
     have n7_ := zB.mk (zM (by repeat (first | (with_reducible first | exact HB.out | apply zC | apply zA | apply zD | refine zF ?_ GE101.out | refine zF ?_ GE113.out) | exact HB.out)) hb)
     clear HO105
     clear HO108
     clear HO112
     clear HO116
     clear BK101
     clear BK113
     clear HB
     have HO105 := n0_
     have HO108 := n1_
     have HO112 := n2_
     have HO116 := n3_
     have HO120 := n4_
     have BK101 := n5_
     have BK113 := n6_
     have HB := n7_
     clear n0_ n1_ n2_ n3_ n4_ n5_ n6_ n7_
     (try clear hb)
     (try clear hb2)
     (try clear hk)
     (try clear hi)
     (try clear ho0)
     obtain ⟨Ao113, co113, eo113⟩ := Kd.Zo HO120.out
     (first | subst eo113 | (injection eo113 with f1_ f2_ f3_; have f4_ := f1_.symm; have f5_ := f3_.symm; clear f1_ f2_ f3_; subst f4_; subst f5_))
     refine hK.out _ _ ⟨(zL BK113.out 0).trans rfl, (zL BK101.out 0).trans rfl⟩ (fun hHeld => ?_)
     clear hK K
     refine QB (a' := ?_) ?_ ?_
     rotate_left
     next =>
      show Act.put _ (some 35) _ = _
      simp only [Act.put, List.setIfInBounds_toArray, List.set_cons_zero, List.set_cons_succ, zV, zX]
      rfl
     refine Jd (i := 3) (N := some 36) #[true, true, true, true, false] rfl rfl (by kernel_rfl) (by decide) (fun K hK => ?_)
     refine QZ Try.func20 (by kernel_rfl) rfl #[.agg #[.slice Ao104 t110.length co104], .agg #[.slice Ao113 t118.length co113]] (by rfl) rfl rfl (by (try simp only [List.map_toArray, List.map_cons, List.map_nil]); first | done | rfl | (simp only [List.length_drop, List.length_take]; rfl)) ?_
     with_reducible refine (qQ.calls k _ _ t110 _ _ t118 false _ ?side1 ?side2 ?side3 ?side4 A37.out).mono ?_
     (case side1 => repeat (first | exact (Kd.qk HO112.out).2.2 | (with_reducible refine Kd.zi ?_ _) | (with_reducible refine Kd.zj ?_ _) | (with_reducible refine Kd.zz ?_)))
     (case side2 => exact (Kd.qk HO112.out).2.1)
     (case side3 => repeat (first | exact (Kd.qk HO120.out).2.2 | (with_reducible refine Kd.zi ?_ _) | (with_reducible refine Kd.zj ?_ _) | (with_reducible refine Kd.zz ?_)))
     (case side4 => exact (Kd.qk HO120.out).2.1)
     rintro e w114 ⟨rfl, hb⟩
     refine ⟨_, rfl, ?_⟩
     have n0_ := zB.mk (Kd.qX (by (with_reducible repeat (first | apply Kd.zc | apply Kd.zd | apply Kd.zr)); exact HO105.out) hb)
     have n1_ := zB.mk (Kd.qi (by (with_reducible repeat (first | apply Kd.zg | apply Kd.zf | apply Kd.zp)); exact HO108.out) hb)
     have n2_ := zB.mk (Kd.qX (by (with_reducible repeat (first | apply Kd.zc | apply Kd.zd | apply Kd.zr)); exact HO112.out) hb)
     have n3_ := zB.mk (Kd.qi (by (with_reducible repeat (first | apply Kd.zg | apply Kd.zf | apply Kd.zp)); exact HO116.out) hb)
     have n4_ := zB.mk (Kd.qX (by (with_reducible repeat (first | apply Kd.zc | apply Kd.zd | apply Kd.zr)); exact HO120.out) hb)
     have n5_ := zB.mk (zP (g := gb101) (o := .cells #[.slice A0_0 l0_0.length c0_0] 24 (0, 0)) (by (with_reducible repeat (first | refine zH ?_ _ | refine zJ ?_ | refine zG ?_ _)); exact BK101.out) hb)
     have n6_ := zB.mk (zP (g := gb113) (o := .cells #[.slice Ao104 t110.length co104] 30 (0, 0)) (by (with_reducible repeat (first | refine zH ?_ _ | refine zJ ?_ | refine zG ?_ _)); exact BK113.out) hb)
     have n7_ := zB.mk (zM (by repeat (first | (with_reducible first | exact HB.out | apply zC | apply zA | apply zD | refine zF ?_ GE101.out | refine zF ?_ GE113.out) | exact HB.out)) hb)
     clear HO105
     clear HO108
     clear HO112
     clear HO116
     clear HO120
     clear BK101
     clear BK113
     clear HB
     have HO105 := n0_
     have HO108 := n1_
     have HO112 := n2_
     have HO116 := n3_
     have HO120 := n4_
     have BK101 := n5_
     have BK113 := n6_
     have HB := n7_
     clear n0_ n1_ n2_ n3_ n4_ n5_ n6_ n7_
     (try clear hb)
     (try clear hb2)
     (try clear hk)
     (try clear hi)
     refine hK.out _ _ ⟨(zL BK113.out 0).trans rfl, (zL BK101.out 0).trans rfl⟩ (fun hHeld => ?_)
     clear hK K
     refine QB (a' := ?_) ?_ ?_
     rotate_left
     next =>
      show Act.put _ (some 36) _ = _
      simp only [Act.put, List.setIfInBounds_toArray, List.set_cons_zero, List.set_cons_succ, zV, zX]
      rfl
     refine zk (i := 4) (N := some 37) (v := ?_) (a' := ?_) #[true, true, true, true, true] rfl rfl (by kernel_rfl) (fun _ _ _ h => h) (Or.inl ⟨by rfl, ?_⟩) ?_ ?_
     rotate_left
     next =>
      intro w'
      go_simp
      with_reducible rfl
     rotate_left
     next =>
      simp only [Act.put, List.setIfInBounds_toArray, List.set_cons_zero, List.set_cons_succ, zV, zX]
      rfl
     refine QR (by kernel_rfl) ?_
     try go_wp2
     go_ret
     exact ⟨by first | rfl | (simp [zT, zU] <;> rfl) | (simp [*, zT, zU] <;> rfl), by repeat (first | (with_reducible first | exact HB.out | apply zC | apply zA | apply zD | refine zF ?_ GE101.out | refine zF ?_ GE113.out) | exact HB.out)⟩
end Go.Proofs.Ythjpdljdodalaaa.P
namespace Go.Proofs.Ythjpdljdodalaaa.Lib
set_option linter.unusedVariables false
open Go.RowKit Go.Proofs.YthjpdljdodalaaaW.PrintWords
theorem zC1 {σ ρ : Type} (L : Nat → σ → Option ρ) (I : σ → Prop) (m : σ → Nat) (g : σ → ρ)
    (h : ∀ s, I s → (∃ K, ∀ k, K ≤ k → L (k + 1) s = some (g s)) ∨ (∃ s' K, I s' ∧ m s' < m s ∧ g s' = g s ∧ ∀ k, K ≤ k → L (k + 1) s = L k s')) :
    ∀ s, I s → Ev (fun k => L k s) (g s) := by
  have key : ∀ (n : Nat) (s : σ), m s < n → I s → Ev (fun k => L k s) (g s) := by
    intro n
    induction n with
    | zero => intro s hs; omega
    | succ n ih =>
      intro s hs hi
      rcases h s hi with ⟨K, hK⟩ | ⟨s', K, hi', hm, hg, hK⟩
      · refine ⟨K + 1, fun k hk => ?_⟩
        obtain ⟨j, rfl⟩ : ∃ j, k = j + 1 := ⟨k - 1, by omega⟩
        exact hK j (by omega)
      · obtain ⟨K', hK'⟩ := ih s' (by omega) hi'
        refine ⟨max K K' + 1, fun k hk => ?_⟩
        obtain ⟨j, rfl⟩ : ∃ j, k = j + 1 := ⟨k - 1, by omega⟩
        show L (j + 1) s = some (g s)
        rw [hK j (by omega), ← hg]
        exact hK' j (by omega)
  intro s hi
  exact key (m s + 1) s (by omega) hi
theorem Jx {σ ρ : Type} (L : Nat → σ → Option ρ) (I : σ → Prop) (m : σ → Nat) (g : σ → ρ)
    (h : ∀ s, I s → (∀ k, L (k + 1) s = some (g s)) ∨ (∃ s', I s' ∧ m s' < m s ∧ g s' = g s ∧ ∀ k, L (k + 1) s = L k s')) :
    ∀ s, I s → Ev (fun k => L k s) (g s) :=
  zC1 L I m g fun s hi => by
    rcases h s hi with h1 | ⟨s', h1, h2, h3, h4⟩
    · exact .inl ⟨0, fun k _ => h1 k⟩
    · exact .inr ⟨s', 0, h1, h2, h3, fun k _ => h4 k⟩
theorem ZL {x : Int} (h0 : -9223372036854775808 ≤ x) (h1 : x ≤ 9223372036854775807) : wrap64 x = x := by
  unfold wrap64; omega
theorem Zs {n : Nat} (h : n ≤ 4611686018427387904) : wrap64 ((n : Int) + 1) = ((n + 1 : Nat) : Int) := by
  rw [ZL (by omega) (by omega)]; rfl
theorem zDp (xs : List Int) (n : Nat) (h : n < xs.length) : rd xs (n : Int) = xs[n] := by simp [rd, h]
theorem Zd {α : Type} {c : Prop} [Decidable c] {f g : Nat → Option α} {r : α} (h : ¬ c) (k : Ev g r) : Ev (fun n => if c then f n else g n) r := Ev.congr (fun _ => if_neg h) k
theorem ZC {α : Type} {c : Prop} [Decidable c] {f g : Nat → Option α} {r : α} (h : c) (k : Ev f r) : Ev (fun n => if c then f n else g n) r := Ev.congr (fun _ => if_pos h) k
theorem JC {α : Type} {r r' : α} (h : r = r') : Ev (fun _ => some r) r' := h ▸ Ev.now r
theorem Qn {α : Type} {o : Option α} {r : α} (h : o = some r) : Ev (fun _ => o) r := ⟨0, fun _ _ => h⟩
theorem zDJ {α : Type} {g : Nat → Option α} {r : α} (h : ∀ k, g k = some r) : Ev g r := ⟨0, fun k _ => h k⟩
theorem qu {α : Type} {g f : Nat → Option α} {r : α} (h : ∀ k, g (k + 1) = f k) (k : Ev f r) : Ev g r := Ev.step h k
theorem zCK {α : Type} {f : α → Option Bool} {p : α → Bool} : ∀ (i : Nat) (l : List α), (∀ x ∈ l, f x = some (p x)) → ∃ r, zCi f i l = some r ∧ decide (0 ≤ r) = l.any p
  | i, [], _ => ⟨-1, rfl, rfl⟩
  | i, x :: xs, h => by
    rw [zAD, h x (List.mem_cons_self ..), Option.bind_some]
    cases hp : p x with
    | true => exact ⟨i, by rw [if_pos rfl], by simp [hp]⟩
    | false =>
      obtain ⟨r, h1, h2⟩ := zCK (i + 1) xs (fun y hy => h y (List.mem_cons_of_mem _ hy))
      exact ⟨r, by rw [if_neg (by simp)]; exact h1, by rw [h2]; simp [hp]⟩
theorem contO {α : Type} {f : α → Option Bool} {p : α → Bool} (l : List α) (h : ∀ x ∈ l, f x = some (p x)) : (zCi f 0 l).bind (fun i => some (decide (0 ≤ i))) = some (l.any p) := by
  obtain ⟨r, h1, h2⟩ := zCK 0 l h
  rw [h1, Option.bind_some, h2]
def zBi (a : Int) : Nat → List Int
  | 0 => []
  | n + 1 => a :: zBi (a + 1) n
end Go.Proofs.Ythjpdljdodalaaa.Lib
namespace Go.Proofs.Ythjpdljdodalaaa.P
open Go.RowKit Go.Proofs.YthjpdljdodalaaaW.PrintWords Go.Proofs.Ythjpdljdodalaaa.Lib
set_option linter.unusedVariables false
theorem Jj (a b c : Int) : qz.f a b c = some (decide (b ≤ a) && decide (a ≤ c)) := by
  unfold qz.f
  by_cases h : b ≤ a <;> simp [h]
theorem zDq (a b c : Int) : Zv.f a b c = some (decide (b ≤ a) && decide (a ≤ c)) := by
  unfold Zv.f
  by_cases h : b ≤ a <;> simp [h]
theorem zC2 (a : Int) : ZN.f a = some (decide (0 ≤ a) && decide (a ≤ 23)) := by
  unfold ZN.f
  by_cases h : 0 ≤ a
  · rw [if_pos h]; simp [h]; omega
  · rw [if_neg h]; simp [h]
theorem zDK (a : Int) : Zh.f a = some (decide (0 ≤ a) && decide (a ≤ 23)) := by
  unfold Zh.f; rw [Jj]; rfl
theorem zE4 {p : Int} (h0 : 0 ≤ p) (h1 : p ≤ 23) : ∃ m : Fin 24, p = (m.val : Int) := ⟨⟨p.toNat, by omega⟩, by simp; omega⟩
theorem zBj {p : Int} (h0 : 0 ≤ p) (h1 : p ≤ 23) : Ev (fun k => zW.f k p) (ZE p) := by
  obtain ⟨m, rfl⟩ := zE4 h0 h1
  have key : ∀ m : Fin 24, zW.f 5 (m.val : Int) = some (ZE (m.val : Int)) := by decide +kernel
  exact Ev.of (fun k => zW.mono _ k) (key m)
theorem zDL (p : Int) : (ZE p).length = 4 := rfl
theorem JY {p f : Int} (h0 : 0 ≤ p) (h1 : p ≤ 23) (hf0 : 0 ≤ f) (hf1 : f ≤ 3) : 0 ≤ rd (ZE p) f ∧ rd (ZE p) f ≤ 3 := by
  obtain ⟨a, b, c, d⟩ := zAB p h0 h1
  exact zAd a b c d f hf0 hf1
theorem Jy {p f : Int} (h0 : 0 ≤ p) (h1 : p ≤ 23) (hf0 : 0 ≤ f) (hf1 : f ≤ 3) : Ev (fun k => qx.f k p f) (rd (ZE p) f) := by
  refine Ev.bind (zBj h0 h1) ?_
  exact ZC hf0 (ZC (by rw [zDL]; omega) (Ev.now _))
theorem zCj {p : Int} (h0 : 0 ≤ p) (h1 : p ≤ 23) : Ev (fun k => qM.f k p) (zCf p) := by
  obtain ⟨m, rfl⟩ := zE4 h0 h1
  have key : ∀ m : Fin 24, qM.f 40 (m.val : Int) = some (zCf (m.val : Int)) := by decide +kernel
  exact Ev.of (fun k => qM.mono _ k) (key m)
theorem zDM {q p f : Int} (h0 : 0 ≤ p) (h1 : p ≤ 23) (hf0 : 0 ≤ f) (hf1 : f ≤ 3) : ZB.f q p f = some (rd (ZE p) f) := if_pos ⟨h0, h1, hf0, hf1⟩
theorem zCk {q p a : Int} (h0 : 0 ≤ p) (h1 : p ≤ 23) : qv.f q p a = some (a, zCf p) := by
  unfold qv.f Zz.f
  rw [if_pos ⟨h0, h1⟩]; rfl
end Go.Proofs.Ythjpdljdodalaaa.P
namespace Go.Proofs.Ythjpdljdodalaaa.P
open Go.RowKit Go.Proofs.YthjpdljdodalaaaW.PrintWords Go.Proofs.Ythjpdljdodalaaa.Lib
set_option linter.unusedVariables false
abbrev Tri := List (List qV)
def Small (t : Tri) : Prop := t.length ≤ 1048576 ∧ ∀ r ∈ t, r.length ≤ 1048576
def zCL (t : List (List qY)) : Prop := t.length ≤ 1048576 ∧ ∀ r ∈ t, r.length ≤ 1048576
def Fits (t : List (List qY)) : Prop := t.length ≤ 9223372036854775807 ∧ ∀ r ∈ t, r.length ≤ 9223372036854775807
theorem Qc (t : List (List qY)) (n : Nat) (h : n < t.length) : ZG t (n : Int) = t[n] := by simp [ZG, h]
theorem QY (t : Tri) (n : Nat) (h : n < t.length) : zE t (n : Int) = t[n] := by simp [zE, h]
theorem zBF (t : List qY) (n : Nat) (h : n < t.length) : Zj t (n : Int) = t[n] := by simp [Zj, h]
theorem zAe (t : List qV) (n : Nat) (h : n < t.length) : zI t (n : Int) = t[n] := by simp [zI, h]
theorem zAf (r : List qY) (a : Int) (h0 : 0 ≤ a) (h1 : a ≤ 1048576) (h : r.length ≤ 9223372036854775807) : Zq.f r a = some (if a - r.length < 0 then -1 else a - r.length) := by
  unfold Zq.f
  rw [ZL (by omega) (by omega)]
  split <;> rfl
theorem zC3 (t : List (List qY)) (h : Fits t) (hl : t.length ≤ 1048576) : ∃ r, Ev (fun k => qZ.l0 k t (1048576 - t.length) 0) r ∧ (0 ≤ r → ∀ x ∈ t, x.length ≤ 1048576) := by
  have key : ∀ d n : Nat, ∀ a : Int, n + d = t.length → 0 ≤ a → a ≤ 1048576 → ∃ r, Ev (fun k => qZ.l0 k t a (n : Int)) r ∧ (0 ≤ r → ∀ x ∈ t.drop n, x.length ≤ 1048576) := by
    intro d
    induction d with
    | zero =>
      intro n a hn h0 h1
      refine ⟨a, qu (f := fun _ => some a) (fun k => ?_) (Ev.now a), fun _ x hx => ?_⟩
      · simp only [qZ.l0]; rw [if_neg (by omega)]
      · rw [List.drop_eq_nil_of_le (by omega)] at hx; cases hx
    | succ d ih =>
      intro n a hn h0 h1
      have hlt : n < t.length := by omega
      have hf := h.2 t[n] (List.getElem_mem hlt)
      by_cases hc : a - t[n].length < 0
      · refine ⟨-1, qu (f := fun _ => some (-1)) (fun k => ?_) (Ev.now (-1)), fun h => by omega⟩
        simp only [qZ.l0]
        rw [if_pos (by omega), if_pos (by omega), Qc t n hlt, zAf _ a h0 h1 hf, Option.bind_some, if_pos hc]
        rfl
      · obtain ⟨r, hr, hr2⟩ := ih (n + 1) (a - t[n].length) (by omega) (by omega) (by omega)
        refine ⟨r, qu (fun k => ?_) hr, fun h x hx => ?_⟩
        · simp only [qZ.l0]
          rw [if_pos (by omega), if_pos (by omega), Qc t n hlt, zAf _ a h0 h1 hf, Option.bind_some, if_neg hc, if_neg (by omega), Zs (by omega)]
        · rw [List.drop_eq_getElem_cons hlt] at hx
          rcases List.mem_cons.1 hx with rfl | hx
          · omega
          · exact hr2 h x hx
  obtain ⟨r, hr, hr2⟩ := key t.length 0 (1048576 - t.length) (by omega) (by omega) (by omega)
  exact ⟨r, hr, fun h => by have := hr2 h; rwa [List.drop_zero] at this⟩
theorem JZ (t : List (List qY)) (h : Fits t) : ∃ r, Ev (fun k => qo.f k t 1048576) r ∧ (¬ r < 0 → zCL t) := by
  by_cases hl : (1048576 - (t.length : Int)) < 0
  · refine ⟨-1, ?_, fun h => by omega⟩
    refine Ev.bind (a := -1) (zDJ (fun k => ?_)) (ZC (by omega) (Ev.now _))
    unfold qZ.f
    have := h.1
    rw [ZL (by omega) (by omega), if_pos hl]
  · obtain ⟨r, hr, hr2⟩ := zC3 t h (by omega)
    have h2 : Ev (fun k => qZ.f k t 1048576) r := by
      refine Ev.congr (fun k => ?_) hr
      unfold qZ.f
      rw [ZL (by omega) (by omega), if_neg hl]
    by_cases hn : r < 0
    · exact ⟨-1, Ev.bind h2 (ZC hn (Ev.now _)), fun h => by omega⟩
    · exact ⟨r, Ev.bind h2 (Zd hn (Ev.now _)), fun _ => ⟨by omega, hr2 (by omega)⟩⟩
def cvF (x : qY) : qV := ⟨x.f0, x.f1⟩
def cvR (r : List qY) : List qV := r.map cvF
def cvT (t : List (List qY)) : Tri := t.map cvR
theorem zDN {t : List (List qY)} (h : zCL t) : Small (cvT t) := by
  refine ⟨by simp [cvT]; exact h.1, fun r hr => ?_⟩
  obtain ⟨s, hs, rfl⟩ := List.mem_map.1 hr
  simp [cvR]; exact h.2 s hs
theorem Js {α β : Type} (f : α → β) (l : List α) (z : β) (n : Nat) (h : n < l.length) :
    ((l.take n).map f ++ List.replicate (l.length - n) z).set n (f l[n]) = (l.take (n + 1)).map f ++ List.replicate (l.length - (n + 1)) z := by
  have e : l.length - n = (l.length - (n + 1)) + 1 := by omega
  rw [e, List.replicate_succ, List.set_append_right _ _ (by simp; omega)]
  have : n - ((l.take n).map f).length = 0 := by simp; omega
  rw [this, List.set_cons_zero, List.take_succ_eq_append_getElem h, List.map_append, List.append_assoc]
  rfl
theorem zCl (l : List qY) (h : l.length ≤ 1048576) : Ev (fun k => qj.f k l) (cvR l) := by
  have hl : Ev (fun k => qj.l0 k l (List.replicate l.length JV) 0) (cvR l) := by
    refine Jx (fun k (s : List qV × Int) => qj.l0 k l s.1 s.2) (fun s => ∃ n : Nat, n ≤ l.length ∧ s.2 = n ∧ s.1 = (l.take n).map cvF ++ List.replicate (l.length - n) JV) (fun s => l.length - s.2.toNat) (fun _ => cvR l) ?_ (List.replicate l.length JV, 0) ⟨0, by omega, rfl, by simp⟩
    rintro ⟨a, i⟩ ⟨n, hn, rfl, rfl⟩
    dsimp only
    by_cases hlt : n < l.length
    · refine .inr ⟨((l.take (n + 1)).map cvF ++ List.replicate (l.length - (n + 1)) JV, ((n + 1 : Nat) : Int)), ⟨n + 1, by omega, rfl, rfl⟩, by simp; omega, rfl, fun k => ?_⟩
      simp only [qj.l0, QX.f, Option.bind_some]
      rw [if_pos (by omega), if_pos (by omega), if_pos (by simp; omega), Zs (by omega), Int.toNat_natCast, zBF l n hlt]
      have := Js cvF l JV n hlt
      rw [← this]
      rfl
    · obtain rfl : n = l.length := by omega
      refine .inl fun k => ?_
      simp only [qj.l0]
      rw [if_neg (by omega)]
      simp [cvR]
  refine Ev.congr (fun k => ?_) hl
  unfold qj.f
  rw [if_pos (by omega), if_pos (by simp; omega), Int.toNat_natCast]
theorem zC4 (l : List (List qY)) (h : zCL l) : Ev (fun k => qc.f k l) (cvT l) := by
  have hl : Ev (fun k => qc.l0 k l (List.replicate l.length []) 0) (cvT l) := by
    refine zC1 (fun k (s : Tri × Int) => qc.l0 k l s.1 s.2) (fun s => ∃ n : Nat, n ≤ l.length ∧ s.2 = n ∧ s.1 = (l.take n).map cvR ++ List.replicate (l.length - n) []) (fun s => l.length - s.2.toNat) (fun _ => cvT l) ?_ (List.replicate l.length [], 0) ⟨0, by omega, rfl, by simp⟩
    rintro ⟨a, i⟩ ⟨n, hn, rfl, rfl⟩
    dsimp only
    by_cases hlt : n < l.length
    · obtain ⟨K, hK⟩ := zCl l[n] (h.2 _ (List.getElem_mem hlt))
      refine .inr ⟨((l.take (n + 1)).map cvR ++ List.replicate (l.length - (n + 1)) [], ((n + 1 : Nat) : Int)), K, ⟨n + 1, by omega, rfl, rfl⟩, by simp; omega, rfl, fun k hk => ?_⟩
      have e : qj.f k l[n] = some _ := hK k hk
      have h1 := h.1
      simp only [qc.l0]
      rw [if_pos (by omega), if_pos (by omega), Qc l n hlt, e, Option.bind_some, if_pos (by simp; omega), Zs (by omega), Int.toNat_natCast, Js cvR l [] n hlt]
    · obtain rfl : n = l.length := by omega
      refine .inl ⟨0, fun k _ => ?_⟩
      simp only [qc.l0]
      rw [if_neg (by omega)]
      simp [cvT]
  have h1 := h.1
  refine Ev.congr (fun k => ?_) hl
  unfold qc.f
  rw [if_pos (by omega), if_pos (by simp; omega), Int.toNat_natCast]
theorem Ja (l : List (List qY)) (h : zCL l) : Ev (fun k => zZ.f k l) (cvT l) := Ev.bind (zC4 l h) (Ev.now _)
theorem zCm (l : List qV) (h : l.length ≤ 1048576) : Ev (fun k => qP.f k l l) true := by
  have hl : Ev (fun k => qP.l0 k l l 0) true := by
    refine Jx (fun k (s : Int) => qP.l0 k l l s) (fun s => ∃ n : Nat, n ≤ l.length ∧ s = n) (fun s => l.length - s.toNat) (fun _ => true) ?_ 0 ⟨0, by omega, rfl⟩
    rintro i ⟨n, hn, rfl⟩
    by_cases hlt : n < l.length
    · refine .inr ⟨((n + 1 : Nat) : Int), ⟨n + 1, by omega, rfl⟩, by simp; omega, rfl, fun k => ?_⟩
      simp only [qP.l0, QG.f]
      rw [if_pos (by omega), if_pos (by omega), if_pos (by omega), if_pos trivial, if_pos trivial, Option.bind_some, if_pos rfl, Zs (by omega)]
    · refine .inl fun k => ?_
      simp only [qP.l0]
      rw [if_neg (by omega)]
  refine Ev.congr (fun k => ?_) hl
  unfold qP.f
  rw [if_pos rfl]
theorem Jb (l : Tri) (h : Small l) : Ev (fun k => qQ.f k l l) true := by
  have hl : Ev (fun k => qI.l0 k l l 0) true := by
    refine zC1 (fun k (s : Int) => qI.l0 k l l s) (fun s => ∃ n : Nat, n ≤ l.length ∧ s = n) (fun s => l.length - s.toNat) (fun _ => true) ?_ 0 ⟨0, by omega, rfl⟩
    rintro i ⟨n, hn, rfl⟩
    by_cases hlt : n < l.length
    · obtain ⟨K, hK⟩ := zCm l[n] (h.2 _ (List.getElem_mem hlt))
      refine .inr ⟨((n + 1 : Nat) : Int), K, ⟨n + 1, by omega, rfl⟩, by simp; omega, rfl, fun k hk => ?_⟩
      have e : qP.f k l[n] l[n] = some _ := hK k hk
      have h1 := h.1
      simp only [qI.l0]
      rw [if_pos (by omega), if_pos (by omega), if_pos (by omega), QY l n hlt, e, Option.bind_some, if_pos rfl, Zs (by omega)]
    · refine .inl ⟨0, fun k _ => ?_⟩
      simp only [qI.l0]
      rw [if_neg (by omega)]
  have h2 : Ev (fun k => qI.f k l l) true := by
    refine Ev.congr (fun k => ?_) hl
    unfold qI.f
    rw [if_pos rfl]
  exact Ev.bind h2 (ZC rfl (Ev.now _))
end Go.Proofs.Ythjpdljdodalaaa.P
namespace Go.Proofs.Ythjpdljdodalaaa.P
open Go.RowKit Go.Proofs.YthjpdljdodalaaaW.PrintWords Go.Proofs.Ythjpdljdodalaaa.Lib
set_option linter.unusedVariables false
abbrev fc (t : Tri) (a f : Int) : qV := zI (zE t a) f
def Jt (t : Tri) (a f : Int) : Bool :=
  if (fc t a f).f0 = -1 then (fc t a f).f1 == 0
  else if 0 ≤ (fc t a f).f0 ∧ (fc t a f).f0 < (t.length : Int) ∧ 0 ≤ (fc t a f).f1 ∧ (fc t a f).f1 ≤ 23 then
    ((fc t (fc t a f).f0 (rd (ZE (fc t a f).f1) f)).f0 == a && (fc t (fc t a f).f0 (rd (ZE (fc t a f).f1) f)).f1 == zCf (fc t a f).f1) && !((fc t a f).f0 == a && rd (ZE (fc t a f).f1) f == f)
  else false
def Qh (t : Tri) (a : Int) : Int → Nat → Bool
  | _, 0 => true
  | f, d + 1 => Jt t a f && Qh t a (f + 1) d
def JG (t : Tri) : Int → Nat → Bool
  | _, 0 => true
  | a, d + 1 => Qh t a 0 4 && JG t (a + 1) d
def QE (t : Tri) : Bool := decide (t.length ≤ 8) && (t.all (fun r => decide (r.length = 4)) && JG t 0 t.length)
section
variable {t : Tri}
theorem zEL (h4 : ∀ r ∈ t, r.length = 4) {a : Int} (h0 : 0 ≤ a) (h1 : a < t.length) : (zE t a).length = 4 := by
  obtain ⟨n, rfl⟩ := Int.eq_ofNat_of_zero_le h0
  rw [QY t n (by omega)]
  exact h4 _ (List.getElem_mem _)
theorem zAO (h4 : ∀ r ∈ t, r.length = 4) (hn : t.length ≤ 8) {a f : Int} (h0 : 0 ≤ a) (h1 : a < t.length) (hf0 : 0 ≤ f) (hf1 : f ≤ 3) : Ev (fun k => zQ.f k t a f) (Jt t a f) := by
  have hr := zEL h4 h0 h1
  refine Ev.congr (fun k => by unfold zQ.f; rw [if_pos h0, if_pos h1, if_pos hf0, if_pos (by omega)]) ?_
  change Ev (fun k => if (fc t a f).f0 = -1 then some ((fc t a f).f1 == 0) else _) (Jt t a f)
  unfold Jt
  by_cases hb : (fc t a f).f0 = -1
  · rw [if_pos hb]; exact ZC hb (Ev.now _)
  · refine Zd hb ?_
    rw [if_neg hb]
    have hix : qm.f t (fc t a f).f0 = some (decide (0 ≤ (fc t a f).f0) && decide ((fc t a f).f0 ≤ (t.length : Int) - 1)) := by
      unfold qm.f qn.f
      rw [Option.bind_some, ZL (by omega) (by omega), Jj]; rfl
    have hfalse : Ev (fun k => zQ.j0 k a f true t (fc t a f).f0 (fc t a f).f1) false := qu (fun k => by rw [zQ.j0, if_pos rfl]) (Ev.now false)
    refine Ev.bind (Qn hix) ?_
    by_cases hi : 0 ≤ (fc t a f).f0 ∧ (fc t a f).f0 < (t.length : Int)
    · refine ZC (by simp; omega) ?_
      refine Ev.bind (Qn (zDK _)) ?_
      by_cases hp : 0 ≤ (fc t a f).f1 ∧ (fc t a f).f1 ≤ 23
      · rw [if_pos ⟨hi.1, hi.2, hp.1, hp.2⟩]
        have e : (!(decide (0 ≤ (fc t a f).f1) && decide ((fc t a f).f1 ≤ 23))) = false := by simp [hp]
        rw [e]
        refine qu (fun k => by rw [zQ.j0, if_neg (by simp), zDM hp.1 hp.2 hf0 hf1, Option.bind_some]) ?_
        obtain ⟨hg0, hg1⟩ := JY hp.1 hp.2 hf0 hf1
        have hr2 := zEL h4 hi.1 hi.2
        refine ZC hi.1 (ZC hi.2 (ZC hg0 (ZC (by rw [hr2]; omega) ?_)))
        refine Ev.bind (Qn (zCk hp.1 hp.2)) ?_
        change Ev (fun k => if ((fc t (fc t a f).f0 (rd (ZE (fc t a f).f1) f)).f0 == a && (fc t (fc t a f).f0 (rd (ZE (fc t a f).f1) f)).f1 == zCf (fc t a f).f1) = true then _ else _) _
        generalize ((fc t (fc t a f).f0 (rd (ZE (fc t a f).f1) f)).f0 == a && (fc t (fc t a f).f0 (rd (ZE (fc t a f).f1) f)).f1 == zCf (fc t a f).f1) = b
        cases b with
        | false => refine Zd (by simp) ?_; rw [Bool.false_and]; exact Ev.now false
        | true =>
          refine ZC rfl ?_
          rw [Bool.true_and]
          by_cases ha : (fc t a f).f0 = a
          · refine ZC ha (JC ?_)
            rw [ha]; simp [bne]
          · refine Zd ha (JC ?_)
            simp [ha]
      · rw [if_neg (by omega)]
        have e : (!(decide (0 ≤ (fc t a f).f1) && decide ((fc t a f).f1 ≤ 23))) = true := by
          rw [Bool.not_eq_true', Bool.and_eq_false_iff, decide_eq_false_iff_not, decide_eq_false_iff_not]; omega
        rw [e]
        exact hfalse
    · rw [if_neg (by omega)]
      refine Zd ?_ hfalse
      rw [Bool.and_eq_true, decide_eq_true_eq, decide_eq_true_eq]; omega
theorem zAg (h4 : ∀ r ∈ t, r.length = 4) (hn : t.length ≤ 8) {a : Int} (h0 : 0 ≤ a) (h1 : a < t.length) {R : Bool} (hR : Ev (fun k => zS.l0 k (t.length : Int) (a + 1) t) R) :
    ∀ (d : Nat) (f : Int), 0 ≤ f → f + d = 4 → Ev (fun k => zS.l1 k a (t.length : Int) a f t) (Qh t a f d && R)
  | 0, f, hf, he => by
    refine qu (fun k => by rw [zS.l1, if_neg (by omega), ZL (by omega) (by omega)]) ?_
    rw [Qh, Bool.true_and]; exact hR
  | d + 1, f, hf, he => by
    refine qu (fun k => by rw [zS.l1, if_pos (by omega)]) ?_
    refine Ev.bind (zAO h4 hn h0 h1 hf (by omega)) ?_
    rw [Qh]
    cases hg : Jt t a f with
    | false => exact Zd (by simp) (by rw [Bool.false_and, Bool.false_and]; exact Ev.now false)
    | true =>
      refine ZC rfl ?_
      rw [Bool.true_and]
      exact Ev.congr (fun k => by rw [ZL (by omega) (by omega)]) (zAg h4 hn h0 h1 hR d (f + 1) (by omega) (by omega))
theorem zAh (h4 : ∀ r ∈ t, r.length = 4) (hn : t.length ≤ 8) : ∀ (d : Nat) (a : Int), 0 ≤ a → a + d = t.length → Ev (fun k => zS.l0 k (t.length : Int) a t) (JG t a d)
  | 0, a, ha, he => by
    refine qu (fun k => by rw [zS.l0, if_neg (by omega)]) ?_
    exact Ev.now true
  | d + 1, a, ha, he => by
    refine qu (fun k => by rw [zS.l0, if_pos (by omega)]) ?_
    rw [JG]
    exact zAg h4 hn ha (by omega) (zAh h4 hn d (a + 1) (by omega) (by omega)) 4 0 (by omega) (by omega)
theorem zBG : t.all (fun r => decide (r.length = 4)) = true ↔ ∀ r ∈ t, r.length = 4 := by simp
theorem zDO (h : Small t) : zn.f t = some (!(t.all fun r => decide (r.length = 4))) := by
  unfold zn.f qL.f
  rw [contO (p := fun r => !(decide (r.length = 4))) t (fun r _ => by
    show ql.f r = _
    unfold ql.f
    congr 1
    by_cases h : r.length = 4
    · simp [h]
    · have : ¬ ((r.length : Int) = 4) := by omega
      simp [h, this]), List.not_all_eq_any_not]
theorem zBH (h : Small t) : Ev (fun k => zS.f k t) (QE t) := by
  have hfalse : Ev (fun k => zS.j0 k true t) false := qu (fun k => by rw [zS.j0, if_pos rfl]) (Ev.now false)
  unfold QE
  by_cases h8 : t.length ≤ 8
  · refine Ev.congr (fun k => by unfold zS.f; rw [if_neg (by omega), zDO h, Option.bind_some]) ?_
    rw [decide_eq_true h8, Bool.true_and]
    cases hall : t.all (fun r => decide (r.length = 4)) with
    | false => rw [Bool.false_and]; exact hfalse
    | true =>
      rw [Bool.true_and]
      refine qu (fun k => by rw [zS.j0, if_neg (by simp)]) ?_
      exact zAh (zBG.1 hall) h8 t.length 0 (by omega) (by omega)
  · refine Ev.congr (fun k => by unfold zS.f; rw [if_pos (by omega)]) ?_
    rw [decide_eq_false h8, Bool.false_and]; exact hfalse
theorem zAi (h4 : ∀ r ∈ t, r.length = 4) (hn : t.length ≤ 8) {a : Int} (h0 : 0 ≤ a) (h1 : a < t.length) {R : Bool} (hR : Ev (fun k => zK.l1 k (a + 1) t) R) :
    ∀ (d : Nat) (f : Int), 0 ≤ f → f + d = 4 → Ev (fun k => zK.l2 k a f t) (Qh t a f d && R)
  | 0, f, hf, he => by
    refine qu (fun k => by rw [zK.l2, if_neg (by omega), ZL (by omega) (by omega)]) ?_
    rw [Qh, Bool.true_and]; exact hR
  | d + 1, f, hf, he => by
    have hr := zEL h4 h0 h1
    have ih : Ev (fun k => zK.l2 k a (wrap64 (f + 1)) t) (Qh t a (f + 1) d && R) := Ev.congr (fun k => by rw [ZL (by omega) (by omega)]) (zAi h4 hn h0 h1 hR d (f + 1) (by omega) (by omega))
    refine qu (fun k => by rw [zK.l2, if_pos (by omega), if_pos h0, if_pos h1, if_pos hf, if_pos (by omega)]) ?_
    change Ev (fun k => if (fc t a f).f0 = -1 then zK.j3 k a f ((fc t a f).f1 == 0) t (fc t a f).f0 (fc t a f).f1 else zK.j3 k a f false t (fc t a f).f0 (fc t a f).f1) _
    rw [Qh]
    have hstop : ∀ b, Ev (fun k => zK.j4 k a f true t (fc t a f).f0 (fc t a f).f1) (false && b) := fun b => by
      rw [Bool.false_and]; exact qu (fun k => by rw [zK.j4, if_pos rfl]) (Ev.now false)
    have hgo : Ev (fun k => zK.j3 k a f true t (fc t a f).f0 (fc t a f).f1) (Qh t a (f + 1) d && R) := qu (fun k => by rw [zK.j3, if_pos rfl]) ih
    have hrest : (¬ ((fc t a f).f0 = -1 ∧ (fc t a f).f1 = 0)) → Ev (fun k => zK.j3 k a f false t (fc t a f).f0 (fc t a f).f1) (Jt t a f && Qh t a (f + 1) d && R) := by
      intro hnb
      refine qu (fun k => by rw [zK.j3, qF.f, if_neg (by simp), Option.bind_some, zDq, Option.bind_some, ZL (by omega) (by omega)]) ?_
      unfold Jt
      by_cases hi : 0 ≤ (fc t a f).f0 ∧ (fc t a f).f0 < (t.length : Int)
      · refine ZC (by simp; omega) ?_
        refine Ev.bind (Qn (zC2 _)) ?_
        rw [if_neg (by omega)]
        by_cases hp : 0 ≤ (fc t a f).f1 ∧ (fc t a f).f1 ≤ 23
        · rw [if_pos ⟨hi.1, hi.2, hp.1, hp.2⟩]
          have e : (!(decide (0 ≤ (fc t a f).f1) && decide ((fc t a f).f1 ≤ 23))) = false := by simp [hp]
          rw [e]
          obtain ⟨hg0, hg1⟩ := JY hp.1 hp.2 hf (by omega)
          have hr2 := zEL h4 hi.1 hi.2
          refine qu (fun k => by rw [zK.j4, if_neg (by simp)]) ?_
          refine Ev.bind (Jy hp.1 hp.2 hf (by omega)) ?_
          refine Ev.bind (zCj hp.1 hp.2) ?_
          refine ZC hi.1 (ZC hi.2 (ZC hg0 (ZC (by rw [hr2]; omega) ?_)))
          change Ev (fun k => if (!((fc t (fc t a f).f0 (rd (ZE (fc t a f).f1) f)).f0 == a) || !((fc t (fc t a f).f0 (rd (ZE (fc t a f).f1) f)).f1 == zCf (fc t a f).f1)) = true then _ else _) _
          generalize ((fc t (fc t a f).f0 (rd (ZE (fc t a f).f1) f)).f0 == a) = b1
          generalize ((fc t (fc t a f).f0 (rd (ZE (fc t a f).f1) f)).f1 == zCf (fc t a f).f1) = b2
          cases b1 with
          | false => exact ZC rfl (by rw [Bool.false_and, Bool.false_and, Bool.false_and, Bool.false_and]; exact Ev.now false)
          | true =>
            cases b2 with
            | false => exact ZC rfl (by rw [Bool.true_and, Bool.false_and, Bool.false_and, Bool.false_and]; exact Ev.now false)
            | true =>
              refine Zd (by simp) ?_
              rw [Bool.true_and, Bool.true_and]
              by_cases ha : (fc t a f).f0 = a
              · refine ZC ha ?_
                by_cases hg : rd (ZE (fc t a f).f1) f = f
                · refine ZC hg ?_
                  rw [ha, hg]
                  simp
                  exact Ev.now false
                · refine Zd hg ?_
                  have : (rd (ZE (fc t a f).f1) f == f) = false := by simp [hg]
                  rw [this, Bool.and_false, Bool.not_false, Bool.true_and]
                  exact ih
              · refine Zd ha ?_
                have : ((fc t a f).f0 == a) = false := by simp [ha]
                rw [this, Bool.false_and, Bool.not_false, Bool.true_and]
                exact ih
        · rw [if_neg (by omega)]
          have e : (!(decide (0 ≤ (fc t a f).f1) && decide ((fc t a f).f1 ≤ 23))) = true := by
            rw [Bool.not_eq_true', Bool.and_eq_false_iff, decide_eq_false_iff_not, decide_eq_false_iff_not]; omega
          rw [e, Bool.false_and]
          exact hstop R
      · have hg : (if (fc t a f).f0 = -1 then ((fc t a f).f1 == 0) else if 0 ≤ (fc t a f).f0 ∧ (fc t a f).f0 < (t.length : Int) ∧ 0 ≤ (fc t a f).f1 ∧ (fc t a f).f1 ≤ 23 then
            ((fc t (fc t a f).f0 (rd (ZE (fc t a f).f1) f)).f0 == a && (fc t (fc t a f).f0 (rd (ZE (fc t a f).f1) f)).f1 == zCf (fc t a f).f1) && !((fc t a f).f0 == a && rd (ZE (fc t a f).f1) f == f) else false) = false := by
          by_cases hb : (fc t a f).f0 = -1
          · rw [if_pos hb]; simp; intro h; exact hnb ⟨hb, h⟩
          · rw [if_neg hb, if_neg (by omega)]
        rw [hg, Bool.false_and]
        refine Zd ?_ (hstop R)
        rw [Bool.and_eq_true, decide_eq_true_eq, decide_eq_true_eq]; omega
    by_cases hb : (fc t a f).f0 = -1
    · refine ZC hb ?_
      by_cases h0' : (fc t a f).f1 = 0
      · have e : Jt t a f = true := by unfold Jt; rw [if_pos hb]; simp [h0']
        rw [e, Bool.true_and]
        have e2 : ((fc t a f).f1 == 0) = true := by simp [h0']
        rw [e2]; exact hgo
      · have e2 : ((fc t a f).f1 == 0) = false := by simp [h0']
        rw [e2]; exact hrest (fun h => h0' h.2)
    · exact Zd hb (hrest (fun h => hb h.1))
theorem zAj (h4 : ∀ r ∈ t, r.length = 4) (hn : t.length ≤ 8) : ∀ (d : Nat) (a : Int), 0 ≤ a → a + d = t.length → Ev (fun k => zK.l1 k a t) (JG t a d)
  | 0, a, ha, he => by
    refine qu (fun k => by rw [zK.l1, qF.f, Option.bind_some, if_neg (by omega)]) ?_
    exact Ev.now true
  | d + 1, a, ha, he => by
    refine qu (fun k => by rw [zK.l1, qF.f, Option.bind_some, if_pos (by omega)]) ?_
    rw [JG]
    exact zAi h4 hn ha (by omega) (zAj h4 hn d (a + 1) (by omega) (by omega)) 4 0 (by omega) (by omega)
theorem zCn (h8 : t.length ≤ 8) (d : Nat) : ∀ n : Nat, n + d = t.length → (t.all (fun r => decide (r.length = 4)) = (t.drop n).all (fun r => decide (r.length = 4))) → Ev (fun k => zK.l0 k (n : Int) t) (t.all (fun r => decide (r.length = 4)) && JG t 0 t.length) := by
  induction d with
  | zero =>
    intro n hn ha
    refine qu (fun k => by rw [zK.l0, if_neg (by omega)]) ?_
    have hall : t.all (fun r => decide (r.length = 4)) = true := by rw [ha, List.drop_eq_nil_of_le (by omega)]; rfl
    rw [hall, Bool.true_and]
    exact zAj (zBG.1 hall) h8 t.length 0 (by omega) (by omega)
  | succ d ih =>
    intro n hn ha
    have hlt : n < t.length := by omega
    refine qu (fun k => by rw [zK.l0, if_pos (by omega), if_pos (by omega), QY t n hlt]) ?_
    rw [List.drop_eq_getElem_cons hlt, List.all_cons] at ha
    by_cases h : t[n].length = 4
    · refine ZC (by omega) ?_
      refine Ev.congr (fun k => by rw [Zs (by omega)]) (ih (n + 1) (by omega) ?_)
      rw [ha, decide_eq_true h, Bool.true_and]
    · refine Zd (by omega) ?_
      rw [ha, decide_eq_false h, Bool.false_and, Bool.false_and]
      exact Ev.now false
theorem zBI (t : Tri) : Ev (fun k => zK.f k t) (QE t) := by
  refine Ev.congr (fun k => by unfold zK.f qF.f; rw [Option.bind_some]) ?_
  unfold QE
  by_cases h8 : t.length ≤ 8
  · refine Zd (by omega) ?_
    rw [decide_eq_true h8, Bool.true_and]
    exact zCn h8 t.length 0 (by omega) (by rw [List.drop_zero])
  · refine ZC (by omega) ?_
    rw [decide_eq_false h8, Bool.false_and]
    exact Ev.now false
end
end Go.Proofs.Ythjpdljdodalaaa.P
namespace Go.Proofs.Ythjpdljdodalaaa.P
open Go.RowKit Go.Proofs.YthjpdljdodalaaaW.PrintWords Go.Proofs.Ythjpdljdodalaaa.Lib
set_option linter.unusedVariables false
theorem ZX {t : Tri} (h : QE t = true) : t.length ≤ 8 ∧ (∀ r ∈ t, r.length = 4) ∧ JG t 0 t.length = true := by
  unfold QE at h
  rw [Bool.and_eq_true, Bool.and_eq_true, decide_eq_true_eq] at h
  exact ⟨h.1, zBG.1 h.2.1, h.2.2⟩
theorem zDP (t : Tri) (a : Int) (d : Nat) : ∀ f, Qh t a f d = true → ∀ g, f ≤ g → g < f + d → Jt t a g = true := by
  induction d with
  | zero => intro f _ g h1 h2; omega
  | succ d ih =>
    intro f h g h1 h2
    rw [Qh, Bool.and_eq_true] at h
    by_cases e : g = f
    · rw [e]; exact h.1
    · exact ih (f + 1) h.2 g (by omega) (by omega)
theorem zDQ (t : Tri) (d : Nat) : ∀ a, JG t a d = true → ∀ b, a ≤ b → b < a + d → ∀ g, 0 ≤ g → g ≤ 3 → Jt t b g = true := by
  induction d with
  | zero => intro a _ b h1 h2; omega
  | succ d ih =>
    intro a h b h1 h2 g hg0 hg1
    rw [JG, Bool.and_eq_true] at h
    by_cases e : b = a
    · rw [e]; exact zDP t a 4 0 h.1 g hg0 (by omega)
    · exact ih (a + 1) h.2 b (by omega) (by omega) g hg0 hg1
theorem Jc {t : Tri} (h : QE t = true) {a f : Int} (h0 : 0 ≤ a) (h1 : a < t.length) (hf0 : 0 ≤ f) (hf1 : f ≤ 3) :
    ((fc t a f).f0 = -1 ∧ (fc t a f).f1 = 0) ∨
    ((0 ≤ (fc t a f).f0 ∧ (fc t a f).f0 < (t.length : Int) ∧ 0 ≤ (fc t a f).f1 ∧ (fc t a f).f1 ≤ 23) ∧
      (fc t (fc t a f).f0 (rd (ZE (fc t a f).f1) f)).f0 = a ∧ (fc t (fc t a f).f0 (rd (ZE (fc t a f).f1) f)).f1 = zCf (fc t a f).f1 ∧ ¬ ((fc t a f).f0 = a ∧ rd (ZE (fc t a f).f1) f = f)) := by
  have hg := zDQ t t.length 0 (ZX h).2.2 a h0 (by omega) f hf0 hf1
  unfold Jt at hg
  by_cases hb : (fc t a f).f0 = -1
  · rw [if_pos hb] at hg
    exact .inl ⟨hb, by simpa using hg⟩
  · rw [if_neg hb] at hg
    by_cases hi : 0 ≤ (fc t a f).f0 ∧ (fc t a f).f0 < (t.length : Int) ∧ 0 ≤ (fc t a f).f1 ∧ (fc t a f).f1 ≤ 23
    · rw [if_pos hi, Bool.and_eq_true, Bool.and_eq_true, Bool.not_eq_true'] at hg
      refine .inr ⟨hi, eq_of_beq hg.1.1, eq_of_beq hg.1.2, fun hc => ?_⟩
      have := hg.2
      rw [Bool.and_eq_false_iff] at this
      rcases this with h2 | h2
      · exact absurd hc.1 (by simpa using h2)
      · exact absurd hc.2 (by simpa using h2)
    · rw [if_neg hi] at hg; cases hg
end Go.Proofs.Ythjpdljdodalaaa.P
namespace Go.Proofs.Ythjpdljdodalaaa.P
open Go.RowKit Go.Proofs.YthjpdljdodalaaaW.PrintWords Go.Proofs.Ythjpdljdodalaaa.Lib
set_option linter.unusedVariables false
def zDR (cols : Nat) (j f b : Int) (p : List Int) : List (List Int) := (zCb [f]).map fun c => zBp cols j f b p c
theorem zAk (cols : Nat) (j f b : Int) (p : List Int) : ∀ (L : List Int) (A : List (List Int)), QP cols j f b p L (A.flatten, (A.length : Int)) = ((A ++ L.map fun c => zBp cols j f b p c).flatten, ((A ++ L.map fun c => zBp cols j f b p c).length : Int))
 | [], A => by simp [QP]
 | c :: cs, A => by
  have h := zAk cols j f b p cs (A ++ [zBp cols j f b p c])
  have e1 : (A ++ [zBp cols j f b p c]).flatten = A.flatten ++ zBp cols j f b p c := by simp
  have e2 : ((A ++ [zBp cols j f b p c]).length : Int) = (A.length : Int) + 1 := by simp
  rw [e1, e2] at h
  rw [QP, h]
  simp
def zDS (cols : Nat) (A : List (List Int)) (j f : Nat) (x : qV) : List (List Int) :=
 if 4 * x.f0 + rd (ZE x.f1) (f : Int) < 4 * (j : Int) + (f : Int) then A else A ++ zDR cols j f x.f0 (ZE x.f1)
theorem zCM {σ τ : Type} {Rel : σ → τ → Prop} {s1 : σ → Nat → Nat → qV → σ} {s2 : τ → Nat → Nat → qV → τ} (h : ∀ a b j f x, Rel a b → Rel (s1 a j f x) (s2 b j f x)) (j : Nat) : ∀ (r : List qV) (f : Nat) (a : σ) (b : τ), Rel a b → Rel (zCc s1 j r f a) (zCc s2 j r f b)
 | [], _, _, _, hr => hr
 | x :: xs, f, a, b, hr => by
  rw [zCc, zCc]
  refine zCM h j xs (f + 1) _ _ ?_
  split
  next =>
   exact hr
  next =>
   exact h _ _ _ _ _ hr
theorem zCN {σ τ : Type} {Rel : σ → τ → Prop} {s1 : σ → Nat → Nat → qV → σ} {s2 : τ → Nat → Nat → qV → τ} (h : ∀ a b j f x, Rel a b → Rel (s1 a j f x) (s2 b j f x)) : ∀ (l : List (List qV)) (j : Nat) (a : σ) (b : τ), Rel a b → Rel (zBD s1 l j a) (zBD s2 l j b)
 | [], _, _, _, hr => hr
 | r :: rs, j, a, b, hr => by
  rw [zBD, zBD]
  exact zCN h rs (j + 1) _ _ (zCM h j r 0 a b hr)
def JD (t : Tri) : List (List Int) := zBD (zDS (7 * t.length)) t 0 []
theorem zDr (t : Tri) : zAN t = ((JD t).flatten, ((JD t).length : Int)) := by
 refine zCN (Rel := fun (a : List Int × Int) (b : List (List Int)) => a = (b.flatten, (b.length : Int))) (fun a b j f x hr => ?_) t 0 ([], 0) [] (by simp)
 rw [hr]
 unfold JX zDS
 split
 next =>
  rfl
 next =>
  exact zAk _ _ _ _ _ _ _
def Ju (t : Tri) (a f : Int) : Prop := (fc t a f).f0 > a ∨ ((fc t a f).f0 = a ∧ rd (ZE (fc t a f).f1) f > f)
instance (t : Tri) (a f : Int) : Decidable (Ju t a f) := by unfold Ju; infer_instance
def QQ (t : Tri) (a : Int) : Int → Nat → List (List Int)
 | _, 0 => []
 | f, d + 1 => (if Ju t a f then [[a, f]] else []) ++ QQ t a (f + 1) d
def QM (t : Tri) : Int → Nat → List (List Int)
 | _, 0 => []
 | a, d + 1 => QQ t a 0 4 ++ QM t (a + 1) d
def zBJ (t : Tri) (p : List Int) : List (List Int) := zDR (7 * t.length) (rd p 0) (rd p 1) (fc t (rd p 0) (rd p 1)).f0 (ZE (fc t (rd p 0) (rd p 1)).f1)
theorem zEJ {t : Tri} (h : QE t = true) {a f : Int} (h0 : 0 ≤ a) (h1 : a < t.length) (hf0 : 0 ≤ f) (hf1 : f ≤ 3) (hb : ¬ (fc t a f).f0 < 0) : Ju t a f ↔ ¬ (4 * (fc t a f).f0 + rd (ZE (fc t a f).f1) f < 4 * a + f) := by
 rcases Jc h h0 h1 hf0 hf1 with ⟨e, _⟩ | ⟨⟨g0, g1, g2, g3⟩, _, _, hn⟩
 next =>
  omega
 next =>
  obtain ⟨k0, k1⟩ := JY g2 g3 hf0 hf1
  unfold Ju
  generalize (fc t a f).f0 = b at *
  generalize rd (ZE (fc t a f).f1) f = g at *
  by_cases e : b = a
  next =>
   have : ¬ g = f := fun hc => hn ⟨e, hc⟩
   constructor <;> intro hh <;> omega
  next =>
   constructor <;> intro hh <;> omega
theorem zAl {t : Tri} (h : QE t = true) (j : Nat) (hj : j < t.length) : ∀ (d f : Nat) (A : List (List Int)), f + d = 4 → zCc (zDS (7 * t.length)) j (t[j].drop f) f A = A ++ (QQ t j f d).flatMap (zBJ t)
 | 0, f, A, hf => by
  have h4 : t[j].length = 4 := (ZX h).2.1 _ (List.getElem_mem hj)
  rw [List.drop_eq_nil_of_le (by omega), zCc, QQ]; simp
 | d + 1, f, A, hf => by
  have h4 : t[j].length = 4 := (ZX h).2.1 _ (List.getElem_mem hj)
  have hlt : f < t[j].length := by omega
  have hfc : fc t (j : Int) (f : Int) = t[j][f] := by unfold fc; rw [QY t j hj, zAe _ f hlt]
  rw [List.drop_eq_getElem_cons hlt, zCc, zAl h j hj d (f + 1) _ (by omega), QQ]
  have e1 : ((f : Int) + 1) = ((f + 1 : Nat) : Int) := by omega
  rw [e1, List.flatMap_append, ← List.append_assoc]
  congr 1
  have hff := zEJ (a := (j : Int)) (f := (f : Int)) h (by omega) (by omega) (by omega) (by omega)
  by_cases hb : t[j][f].f0 < 0
  next =>
   rw [if_pos hb, if_neg (fun hc => by unfold Ju at hc; rw [hfc] at hc; omega)]; simp
  next =>
   rw [if_neg hb]
   have hff2 := hff (by rw [hfc]; exact hb)
   rw [hfc] at hff2
   unfold zDS
   by_cases hc : 4 * t[j][f].f0 + rd (ZE t[j][f].f1) (f : Int) < 4 * (j : Int) + (f : Int)
   next =>
    rw [if_pos hc, if_neg (fun hq => (hff2.1 hq) hc)]; simp
   next =>
    rw [if_neg hc, if_pos (hff2.2 hc)]
    have e2 : zBJ t [(j : Int), (f : Int)] = zDR (7 * t.length) (j : Int) (f : Int) t[j][f].f0 (ZE t[j][f].f1) := by
     show zDR (7 * t.length) (j : Int) (f : Int) (fc t (j : Int) (f : Int)).f0 (ZE (fc t (j : Int) (f : Int)).f1) = _
     rw [hfc]
    simp [e2]
theorem zAm {t : Tri} (h : QE t = true) : ∀ (d j : Nat) (A : List (List Int)), j + d = t.length → zBD (zDS (7 * t.length)) (t.drop j) j A = A ++ (QM t j d).flatMap (zBJ t)
 | 0, j, A, hj => by rw [List.drop_eq_nil_of_le (by omega), zBD, QM]; simp
 | d + 1, j, A, hj => by
  have hlt : j < t.length := by omega
  have e1 : ((j : Int) + 1) = ((j + 1 : Nat) : Int) := by omega
  have h2 := zAl h j hlt 4 0 A (by omega)
  rw [List.drop_zero] at h2
  rw [List.drop_eq_getElem_cons hlt, zBD, h2, zAm h d (j + 1) _ (by omega), QM, List.flatMap_append, List.append_assoc, e1]
  rfl
theorem JK {t : Tri} (h : QE t = true) : JD t = (QM t 0 t.length).flatMap (zBJ t) := by
 have := zAm h t.length 0 [] (by omega)
 rw [List.drop_zero, List.nil_append] at this
 exact this
theorem zDs {t : Tri} (h : QE t = true) : zEK t := by
 obtain ⟨h8, h4, _⟩ := ZX h
 refine ⟨h8, fun r hr => by rw [h4 r hr]; omega, fun r hr x hx hb => ?_⟩
 obtain ⟨j, hj, rfl⟩ := List.getElem_of_mem hr
 obtain ⟨f, hf, rfl⟩ := List.getElem_of_mem hx
 have h4' := h4 _ (List.getElem_mem hj)
 have hfc : fc t (j : Int) (f : Int) = t[j][f] := by unfold fc; rw [QY t j hj, zAe _ f hf]
 have := Jc (a := (j : Int)) (f := (f : Int)) h (by omega) (by omega) (by omega) (by omega)
 rw [hfc] at this
 rcases this with ⟨e, _⟩ | ⟨⟨g0, g1, g2, g3⟩, _⟩
 next =>
  omega
 next =>
  exact ⟨g1, g2, g3⟩
theorem zCo {t : Tri} (h : QE t = true) : qH.f t = some (((JD t).length : Int), 7 * (t.length : Int), (JD t).flatten) := by
 unfold qH.f
 rw [if_pos (zDs h), zDr]
theorem zAE {t : Tri} (h : QE t = true) : ∀ r ∈ JD t, r.length = 7 * t.length := by
 intro r hr
 rw [JK h] at hr
 obtain ⟨p, _, hp⟩ := List.mem_flatMap.1 hr
 obtain ⟨c, _, rfl⟩ := List.mem_map.1 hp
 exact zC0 _ _ _ _ _ _
theorem zAn (t : Tri) (a : Int) : ∀ (d : Nat) (f : Int), (QQ t a f d).length ≤ d
 | 0, _ => by simp [QQ]
 | d + 1, f => by
  have := zAn t a d (f + 1)
  rw [QQ, List.length_append]
  split <;> simp <;> omega
theorem Jk (t : Tri) : ∀ (d : Nat) (a : Int), (QM t a d).length ≤ 4 * d
 | 0, _ => by simp [QM]
 | d + 1, a => by
  have := Jk t d (a + 1)
  have := zAn t a 4 0
  rw [QM, List.length_append]
  omega
def zDT (t : Tri) (p : List Int) : Prop := ∃ a f : Int, p = [a, f] ∧ 0 ≤ a ∧ a < t.length ∧ 0 ≤ f ∧ f ≤ 3 ∧ ¬ (fc t a f).f0 < 0
theorem zBk (t : Tri) {a : Int} (h0 : 0 ≤ a) (h1 : a < t.length) : ∀ (d : Nat) (f : Int), 0 ≤ f → f + d = 4 → ∀ p ∈ QQ t a f d, zDT t p
 | 0, _, _, _, p, hp => by simp [QQ] at hp
 | d + 1, f, hf, he, p, hp => by
  rw [QQ, List.mem_append] at hp
  rcases hp with hp | hp
  next =>
   by_cases hc : Ju t a f
   next =>
    rw [if_pos hc] at hp
    have : p = [a, f] := by simpa using hp
    exact ⟨a, f, this, h0, h1, hf, by omega, by unfold Ju at hc; omega⟩
   next =>
    rw [if_neg hc] at hp; simp at hp
  next =>
   exact zBk t h0 h1 d (f + 1) (by omega) (by omega) p hp
theorem zBl (t : Tri) : ∀ (d : Nat) (a : Int), 0 ≤ a → a + d = t.length → ∀ p ∈ QM t a d, zDT t p
 | 0, _, _, _, p, hp => by simp [QM] at hp
 | d + 1, a, ha, he, p, hp => by
  rw [QM, List.mem_append] at hp
  rcases hp with hp | hp
  next =>
   exact zBk t ha (by omega) 4 0 (by omega) (by omega) p hp
  next =>
   exact zBl t d (a + 1) (by omega) (by omega) p hp
section
variable {t : Tri}
theorem JL (h : QE t = true) {a : Int} (h0 : 0 ≤ a) (h1 : a < t.length) {R : List (List Int)} {D : Nat} (hR : ∀ acc : List (List Int), acc.length + D ≤ 100 → Ev (fun k => zq.l0 k acc (a + 1) t) (acc ++ R)) :
 ∀ (d : Nat) (f : Int) (acc : List (List Int)), 0 ≤ f → f + d = 4 → acc.length + d + D ≤ 100 → Ev (fun k => zq.l1 k acc a f t) (acc ++ QQ t a f d ++ R)
 | 0, f, acc, hf, he, hl => by
  have h8 := (ZX h).1
  refine qu (fun k => by rw [zq.l1, if_neg (by omega), ZL (by omega) (by omega)]) ?_
  rw [QQ, List.append_nil]; exact hR acc (by omega)
 | d + 1, f, acc, hf, he, hl => by
  obtain ⟨h8, h4, _⟩ := ZX h
  have hr := zEL h4 h0 h1
  refine qu (fun k => by rw [zq.l1, if_pos (by omega), if_pos h0, if_pos h1, if_pos hf, if_pos (by omega)]) ?_
  rw [QQ]
  have hyes : Ju t a f → Ev (fun k => if acc.length < 5864062014805 then zq.l1 k (acc ++ [[a, f]]) a (wrap64 (f + 1)) t else none) (acc ++ ((if Ju t a f then [[a, f]] else []) ++ QQ t a (f + 1) d) ++ R) := fun hc => by
   rw [if_pos hc]
   refine ZC (by omega) (Ev.congr (fun k => by rw [ZL (by omega) (by omega)]) ?_)
   have := JL h h0 h1 hR d (f + 1) (acc ++ [[a, f]]) (by omega) (by omega) (by simp; omega)
   rwa [List.append_assoc acc] at this
  have hno : ¬ Ju t a f → Ev (fun k => zq.l1 k acc a (wrap64 (f + 1)) t) (acc ++ ((if Ju t a f then [[a, f]] else []) ++ QQ t a (f + 1) d) ++ R) := fun hc => by
   rw [if_neg hc, List.nil_append]
   exact Ev.congr (fun k => by rw [ZL (by omega) (by omega)]) (JL h h0 h1 hR d (f + 1) acc (by omega) (by omega) (by omega))
  change Ev (fun k => if (fc t a f).f0 > a then _ else if (fc t a f).f0 = a then (qx.f k (fc t a f).f1 f).bind _ else _) _
  by_cases c1 : (fc t a f).f0 > a
  next =>
   exact ZC c1 (hyes (.inl c1))
  next =>
   refine Zd c1 ?_
   by_cases c2 : (fc t a f).f0 = a
   next =>
    have hp : 0 ≤ (fc t a f).f1 ∧ (fc t a f).f1 ≤ 23 := by
     rcases Jc h h0 h1 hf (by omega) with ⟨e, _⟩ | ⟨⟨_, _, g2, g3⟩, _⟩
     next =>
      omega
     next =>
      exact ⟨g2, g3⟩
    refine ZC c2 (Ev.bind (Jy hp.1 hp.2 hf (by omega)) ?_)
    by_cases c3 : rd (ZE (fc t a f).f1) f > f
    next =>
     exact ZC c3 (hyes (.inr ⟨c2, c3⟩))
    next =>
     exact Zd c3 (hno (fun hc => by rcases hc with hc | hc; exact c1 hc; exact c3 hc.2))
   next =>
    exact Zd c2 (hno (fun hc => by rcases hc with hc | hc; exact c1 hc; exact c2 hc.1))
theorem zAF (h : QE t = true) : ∀ (d : Nat) (a : Int) (acc : List (List Int)), 0 ≤ a → a + d = t.length → acc.length + 4 * d ≤ 100 → Ev (fun k => zq.l0 k acc a t) (acc ++ QM t a d)
 | 0, a, acc, ha, he, hl => by
  refine qu (fun k => by rw [zq.l0, qF.f, Option.bind_some, if_neg (by omega)]) ?_
  rw [QM, List.append_nil]; exact Ev.now _
 | d + 1, a, acc, ha, he, hl => by
  refine qu (fun k => by rw [zq.l0, qF.f, Option.bind_some, if_pos (by omega)]) ?_
  have := JL h ha (by omega) (R := QM t (a + 1) d) (D := 4 * d) (fun acc2 hl2 => zAF h d (a + 1) acc2 (by omega) (by omega) hl2) 4 0 acc (by omega) (by omega) (by omega)
  rwa [List.append_assoc] at this
theorem zBK (h : QE t = true) : Ev (fun k => zq.f k t) (QM t 0 t.length) := by
 have h8 := (ZX h).1
 have := zAF h t.length 0 [] (by omega) (by omega) (by simp; omega)
 rwa [List.nil_append] at this
theorem zAo {a b : Int} (ha : sm a) (hb : sm b) (hne : b ≠ a) : qN.f a b = some (qd b a) := by
 obtain ⟨ha0, ha1⟩ := ha
 obtain ⟨hb0, hb1⟩ := hb
 rcases (show a = 0 ∨ a = 1 ∨ a = 2 ∨ a = 3 by omega) with rfl | rfl | rfl | rfl <;> rcases (show b = 0 ∨ b = 1 ∨ b = 2 ∨ b = 3 by omega) with rfl | rfl | rfl | rfl <;> first | exact absurd rfl hne | decide +kernel
theorem qd_bd {a b : Int} (ha : sm a) (hb : sm b) (hne : a ≠ b) : 0 ≤ qd a b ∧ qd a b ≤ 2 := (zBz ha hb hne).2
theorem zAp (h : QE t = true) {P : List (List Int)} {i : Int} {a f : Int} (h0 : 0 ≤ a) (h1 : a < t.length) (hf0 : 0 ≤ f) (hf1 : f ≤ 3) (hb : ¬ (fc t a f).f0 < 0) {R : List (List Int)} {D : Nat} (hi : 0 ≤ i) (hi2 : i ≤ 1000)
 (hR : ∀ acc : List (List Int), acc.length + D ≤ 1000 → Ev (fun k => zo.l0 k acc P (i + 1) t) (acc ++ R)) :
 ∀ (d : Nat) (c : Int) (acc : List (List Int)), 0 ≤ c → c + d = 4 → acc.length + d + D ≤ 1000 → Ev (fun k => zo.l1 k acc P i a f c t) (acc ++ ((zBi c d).filter fun x => ![f].contains x).map (fun x => zBp (7 * t.length) a f (fc t a f).f0 (ZE (fc t a f).f1) x) ++ R)
 | 0, c, acc, hc, he, hl => by
  refine qu (fun k => by rw [zo.l1, if_neg (by omega), ZL (by omega) (by omega)]) ?_
  rw [zBi]; simp only [List.filter_nil, List.map_nil, List.append_nil]; exact hR acc (by omega)
 | d + 1, c, acc, hc, he, hl => by
  obtain ⟨h8, h4, _⟩ := ZX h
  have ih := fun (acc2 : List (List Int)) (hl2 : acc2.length + d + D ≤ 1000) => zAp h h0 h1 hf0 hf1 hb hi hi2 hR d (c + 1) acc2 (by omega) (by omega) hl2
  by_cases hcf : c = f
  next =>
   refine qu (fun k => by rw [zo.l1, if_pos (by omega), if_pos hcf, ZL (by omega) (by omega)]) ?_
   have e1 : (![f].contains c) = false := by simp [hcf]
   rw [zBi, List.filter_cons, e1, if_neg (by simp)]
   exact ih acc (by omega)
  next =>
   have e1 : (![f].contains c) = true := by simp [hcf]
   have hsc : sm c := ⟨hc, by omega⟩
   have hsf : sm f := ⟨hf0, hf1⟩
   obtain ⟨g0, g1, g2, g3⟩ : 0 ≤ (fc t a f).f0 ∧ (fc t a f).f0 < (t.length : Int) ∧ 0 ≤ (fc t a f).f1 ∧ (fc t a f).f1 ≤ 23 := by
    rcases Jc h h0 h1 hf0 hf1 with ⟨e, _⟩ | ⟨e, _⟩
    next =>
     omega
    next =>
     exact e
   have hd := JY g2 g3 hc (show c ≤ 3 by omega)
   have hx := JY g2 g3 hf0 hf1
   have hne := zBf g2 g3 hsc hsf hcf
   obtain ⟨q0, q1⟩ := qd_bd hsc hsf hcf
   obtain ⟨r0, r1⟩ := qd_bd hd hx hne
   have hmr : zBp (7 * t.length) a f (fc t a f).f0 (ZE (fc t a f).f1) c = Ji (Ji (JW (JW (List.replicate (7 * t.length) 0) (7 * a + c)) (7 * a + 4 + qd c f)) (7 * (fc t a f).f0 + rd (ZE (fc t a f).f1) c)) (7 * (fc t a f).f0 + 4 + qd (rd (ZE (fc t a f).f1) c) (rd (ZE (fc t a f).f1) f)) := rfl
   have hcorner : Ev (fun k => qg.f k t a f c) ((fc t a f).f0, rd (ZE (fc t a f).f1) f, rd (ZE (fc t a f).f1) c) := by
    have hr := zEL h4 h0 h1
    refine Ev.congr (fun k => by unfold qg.f; rw [if_pos h0, if_pos h1, if_pos hf0, if_pos (by omega)]) ?_
    exact Ev.bind (Jy g2 g3 hf0 hf1) (Ev.bind (Jy g2 g3 hc (by omega)) (Ev.now _))
   have hbt1 := zAo hsf hsc hcf
   have hbt2 := zAo (show sm (rd (ZE (fc t a f).f1) f) from hx) (show sm (rd (ZE (fc t a f).f1) c) from hd) hne
   have hlt : (7 * (t.length : Int)) = ((7 * t.length : Nat) : Int) := by omega
   rw [zBi, List.filter_cons, e1, if_pos rfl, List.map_cons, hmr]
   generalize (fc t a f).f0 = b at *
   generalize rd (ZE (fc t a f).f1) c = dd at *
   generalize rd (ZE (fc t a f).f1) f = x at *
   generalize qd c f = q at *
   generalize qd dd x = q2 at *
   obtain ⟨d0, d1⟩ := hd
   have w1 : wrap64 (7 * a) = 7 * a := ZL (by omega) (by omega)
   have w2 : wrap64 (7 * a + c) = 7 * a + c := ZL (by omega) (by omega)
   have w3 : wrap64 (7 * a + 4) = 7 * a + 4 := ZL (by omega) (by omega)
   have w4 : wrap64 (7 * a + 4 + q) = 7 * a + 4 + q := ZL (by omega) (by omega)
   have w5 : wrap64 (7 * b) = 7 * b := ZL (by omega) (by omega)
   have w6 : wrap64 (7 * b + dd) = 7 * b + dd := ZL (by omega) (by omega)
   have w7 : wrap64 (7 * b + 4) = 7 * b + 4 := ZL (by omega) (by omega)
   have w8 : wrap64 (7 * b + 4 + q2) = 7 * b + 4 + q2 := ZL (by omega) (by omega)
   have w9 : wrap64 (7 * (t.length : Int)) = 7 * (t.length : Int) := ZL (by omega) (by omega)
   have w10 : wrap64 (c + 1) = c + 1 := ZL (by omega) (by omega)
   have hln : (List.replicate (7 * t.length) (0 : Int)).length = 7 * t.length := List.length_replicate
   refine qu (fun k => by rw [zo.l1, if_pos (by omega), if_neg hcf, qF.f, Option.bind_some, w9, if_pos (by omega), if_pos (by omega), Option.bind_some, hlt, Int.toNat_natCast]) ?_
   refine Ev.bind hcorner ?_
   dsimp only
   refine Ev.congr (fun k => by rw [w1, w2, if_pos (by omega), if_pos (by rw [hln]; omega), Option.bind_some, hbt1, Option.bind_some, w3, w4, if_pos (by omega), if_pos (by rw [hln]; omega), Option.bind_some, w5, w6, if_pos (by omega), if_pos (by rw [hln]; omega), Option.bind_some, hbt2, Option.bind_some, w7, w8, if_pos (by omega), if_pos (by rw [hln]; omega), if_pos (by omega), w10]) ?_
   have := ih (acc ++ [Ji (Ji (JW (JW (List.replicate (7 * t.length) 0) (7 * a + c)) (7 * a + 4 + q)) (7 * b + dd)) (7 * b + 4 + q2)]) (by simp; omega)
   rw [List.append_assoc acc] at this
   exact this
theorem zAq (h : QE t = true) {P : List (List Int)} (hP : ∀ p ∈ P, zDT t p) (hPl : P.length ≤ 100) : ∀ (d i : Nat) (acc : List (List Int)), i + d = P.length → acc.length + 4 * d ≤ 1000 → Ev (fun k => zo.l0 k acc P (i : Int) t) (acc ++ (P.drop i).flatMap (zBJ t))
 | 0, i, acc, he, hl => by
  refine qu (fun k => by rw [zo.l0, if_neg (by omega)]) ?_
  rw [List.drop_eq_nil_of_le (by omega)]; simp only [List.flatMap_nil, List.append_nil]; exact Ev.now _
 | d + 1, i, acc, he, hl => by
  have hlt : i < P.length := by omega
  obtain ⟨a, f, hp, h0, h1, hf0, hf1, hb⟩ := hP P[i] (List.getElem_mem hlt)
  have ex : za P (i : Int) = [a, f] := by simp [za, hlt, hp]
  refine qu (fun k => by rw [zo.l0, if_pos (by omega), if_pos (by omega), ex, if_pos (by simp), if_pos (by simp)]) ?_
  have := zAp h (P := P) (i := (i : Int)) h0 h1 hf0 hf1 hb (R := (P.drop (i + 1)).flatMap (zBJ t)) (D := 4 * d) (by omega) (by omega) (fun acc2 hl2 => zAq h hP hPl d (i + 1) acc2 (by omega) hl2) 4 0 acc (by omega) (by omega) (by omega)
  rw [List.append_assoc] at this
  rw [List.drop_eq_getElem_cons hlt, hp, List.flatMap_cons]
  exact this
theorem zBm (h : QE t = true) : Ev (fun k => zo.f k t) (JD t) := by
 have h8 := (ZX h).1
 have hl := Jk t t.length 0
 refine Ev.bind (zBK h) ?_
 have := zAq h (zBl t t.length 0 (by omega) (by omega)) (by omega) (QM t 0 t.length).length 0 [] (by omega) (by simp; omega)
 rw [List.nil_append, List.drop_zero, ← JK h] at this
 exact this
theorem zAr (h : QE t = true) : (JD t).length ≤ 1000 := by
 have h8 := (ZX h).1
 have hl := Jk t t.length 0
 rw [JK h, List.length_flatMap]
 have : ∀ P : List (List Int), ((P.map fun p => (zBJ t p).length).sum) ≤ 4 * P.length := by
  intro P
  induction P with
  | nil => simp
  | cons p ps ih =>
   simp only [List.map_cons, List.sum_cons, List.length_cons]
   have h1 : (zBJ t p).length ≤ 4 := by unfold zBJ zDR; rw [List.length_map]; exact zCI _
   omega
 have := this (QM t 0 t.length)
 omega
end
end Go.Proofs.Ythjpdljdodalaaa.P
namespace Go.Proofs.Ythjpdljdodalaaa.P
open Go.RowKit Go.Proofs.YthjpdljdodalaaaW.PrintWords Go.Proofs.Ythjpdljdodalaaa.Lib
set_option linter.unusedVariables false
def zBL (t : Tri) : Int := if QE t then (if (t.length : Int) > 6 then 3 else 0) else 1
def inR (x : Int) : Bool := decide (0 ≤ x) && decide (x ≤ 1000)
theorem zAs {t : Tri} (h : zBL t = 0) : QE t = true ∧ t.length ≤ 6 := by
  unfold zBL at h
  cases ht : QE t with
  | false => rw [ht] at h; simp at h
  | true =>
    rw [ht, if_pos rfl] at h
    refine ⟨rfl, ?_⟩
    by_cases hl : (t.length : Int) > 6
    · rw [if_pos hl] at h; simp at h
    · omega
theorem zBM (t : Tri) : Ev (fun k => Zr.f k t) (zBL t) := by
  refine Ev.bind (zBI t) ?_
  unfold zBL
  cases QE t with
  | false => exact Zd (by simp) (Ev.now _)
  | true =>
    refine ZC rfl (Ev.bind (Qn (by unfold qF.f; rfl)) ?_)
    rw [if_pos rfl]
    by_cases hl : (t.length : Int) > 6
    · exact ZC hl (JC (if_pos hl).symm)
    · exact Zd hl (JC (if_neg hl).symm)
theorem zBN {t : Tri} (hs : Small t) : Ev (fun k => ZV.f k t) (zBL t) := by
  refine Ev.bind (zBH hs) ?_
  unfold zBL
  cases QE t with
  | false => exact Zd (by simp) (Ev.now _)
  | true =>
    refine ZC rfl ?_
    rw [if_pos rfl]
    by_cases hl : (t.length : Int) > 6
    · exact ZC hl (JC (if_pos hl).symm)
    · exact Zd hl (JC (if_neg hl).symm)
theorem zDt (a b c : Int) : QH.f a b c = some (decide (b ≤ a) && decide (a ≤ c)) := by
  unfold QH.f
  by_cases h : b ≤ a <;> simp [h]
end Go.Proofs.Ythjpdljdodalaaa.P
namespace Go.Proofs.Ythjpdljdodalaaa.P
open Go.RowKit Go.Proofs.YthjpdljdodalaaaW.PrintWords Go.Proofs.Ythjpdljdodalaaa.Lib
set_option linter.unusedVariables false
theorem zBO {α : Type} (l : List α) (z : α) (n : Nat) (h : n < l.length) :
    (l.take n ++ List.replicate (l.length - n) z).set n l[n] = l.take (n + 1) ++ List.replicate (l.length - (n + 1)) z := by
  have e : l.length - n = (l.length - (n + 1)) + 1 := by omega
  rw [e, List.replicate_succ, List.set_append_right _ _ (by simp; omega)]
  have : n - (l.take n).length = 0 := by simp; omega
  rw [this, List.set_cons_zero, List.take_succ_eq_append_getElem h, List.append_assoc]
  rfl
theorem zC5 (l : List Int) (h : l.length ≤ 4398046511104) : Ev (fun k => ze.f k l) l := by
  have hl : Ev (fun k => ze.l0 k l (List.replicate l.length 0) 0) l := by
    refine Jx (fun k (s : List Int × Int) => ze.l0 k l s.1 s.2) (fun s => ∃ n : Nat, n ≤ l.length ∧ s.2 = n ∧ s.1 = l.take n ++ List.replicate (l.length - n) 0) (fun s => l.length - s.2.toNat) (fun _ => l) ?_ (List.replicate l.length 0, 0) ⟨0, by omega, rfl, by simp⟩
    rintro ⟨a, i⟩ ⟨n, hn, rfl, rfl⟩
    dsimp only
    by_cases hlt : n < l.length
    · refine .inr ⟨(l.take (n + 1) ++ List.replicate (l.length - (n + 1)) 0, ((n + 1 : Nat) : Int)), ⟨n + 1, by omega, rfl, rfl⟩, by simp; omega, rfl, fun k => ?_⟩
      simp only [ze.l0]
      rw [if_pos (by omega), if_pos (by omega), if_pos (by simp; omega), Zs (by omega), Int.toNat_natCast, zDp l n hlt, zBO l 0 n hlt]
    · obtain rfl : n = l.length := by omega
      refine .inl fun k => ?_
      simp only [ze.l0]
      rw [if_neg (by omega)]
      simp
  refine Ev.congr (fun k => ?_) hl
  unfold ze.f
  rw [if_pos (by omega), if_pos (by simp; omega), Int.toNat_natCast]
theorem zC6 (l : List Int) (h : l.length ≤ 4398046511104) : Ev (fun k => qK.f k l l) true := by
  have hl : Ev (fun k => qK.l0 k l l 0) true := by
    refine Jx (fun k (s : Int) => qK.l0 k l l s) (fun s => ∃ n : Nat, n ≤ l.length ∧ s = n) (fun s => l.length - s.toNat) (fun _ => true) ?_ 0 ⟨0, by omega, rfl⟩
    rintro i ⟨n, hn, rfl⟩
    by_cases hlt : n < l.length
    · refine .inr ⟨((n + 1 : Nat) : Int), ⟨n + 1, by omega, rfl⟩, by simp; omega, rfl, fun k => ?_⟩
      simp only [qK.l0]
      rw [if_pos (by omega), if_pos (by omega), if_pos (by omega), if_pos trivial, Zs (by omega)]
    · refine .inl fun k => ?_
      simp only [qK.l0]
      rw [if_neg (by omega)]
  refine Ev.congr (fun k => ?_) hl
  unfold qK.f
  rw [if_pos rfl]
end Go.Proofs.Ythjpdljdodalaaa.P
namespace Go.Proofs.Ythjpdljdodalaaa.P
open Go.RowKit Go.Proofs.YthjpdljdodalaaaW.PrintWords Go.Proofs.Ythjpdljdodalaaa.Lib
set_option linter.unusedVariables false
def JM (R : List (List Int)) (v : List Int) : Bool := R.all fun r => decide (zCh r v 0 = 0)
def zBP (t : Tri) (v : List Int) : Bool := if (v.length : Int) = 7 * (t.length : Int) then (if v.all inR = true then JM (JD t) v else false) else false
def zCO (t : Tri) (v : List Int) : Bool := if zBL t = 0 then zBP t v else false
theorem zCp {t : Tri} {v : List Int} (hv : v.length ≤ 4398046511104) {R : Bool} (hR : Ev (fun k => (zo.f k t).bind fun t106 => zb.l1 k v t106 0) R) (d : Nat) : ∀ n : Nat, n + d = v.length → Ev (fun k => zb.l0 k v (n : Int) t) (if (v.drop n).all inR = true then R else false) := by
  induction d with
  | zero =>
    intro n hn
    refine qu (fun k => by rw [zb.l0, if_neg (by omega)]) ?_
    rw [List.drop_eq_nil_of_le (by omega), if_pos (by rfl)]; exact hR
  | succ d ih =>
    intro n hn
    have hlt : n < v.length := by omega
    refine qu (fun k => by rw [zb.l0, if_pos (by omega), if_pos (by omega), zDp v n hlt, zDt, Option.bind_some, Zs (by omega)]) ?_
    rw [List.drop_eq_getElem_cons hlt, List.all_cons]
    change Ev (fun k => if inR v[n] = true then _ else _) _
    cases h : inR v[n] with
    | false => exact Zd (by simp) (by rw [Bool.false_and, if_neg (by simp)]; exact Ev.now _)
    | true => exact ZC rfl (by rw [Bool.true_and]; exact ih (n + 1) (by omega))
theorem zAG (r v : List Int) (hl : r.length ≤ v.length) (hr : r.length ≤ 1000000) : ∀ (d n : Nat) (s : Int), n + d = r.length → Ev (fun k => qy.l0 k r v s (n : Int)) (zCh (r.drop n) (v.drop n) s)
  | 0, n, s, hn => by
    refine qu (fun k => by rw [qy.l0, if_neg (by omega)]) ?_
    rw [List.drop_eq_nil_of_le (by omega)]
    cases v.drop n <;> exact Ev.now _
  | d + 1, n, s, hn => by
    have hlt : n < r.length := by omega
    have hlv : n < v.length := by omega
    refine qu (fun k => by rw [qy.l0, if_pos (by omega), if_pos (by omega), if_pos (by omega), zDp r n hlt, zDp v n hlv, Zs (by omega)]) ?_
    rw [List.drop_eq_getElem_cons hlt, List.drop_eq_getElem_cons hlv, zCh]
    exact zAG r v hl hr d (n + 1) _ (by omega)
theorem zC7 (r v : List Int) (hl : r.length ≤ v.length) (hr : r.length ≤ 1000000) : Ev (fun k => qy.f k r v) (zCh r v 0) := by
  have := zAG r v hl hr r.length 0 0 (by omega)
  rwa [List.drop_zero, List.drop_zero] at this
theorem zAt (R : List (List Int)) (v : List Int) (hR : ∀ r ∈ R, r.length ≤ v.length ∧ r.length ≤ 1000000) (hl : R.length ≤ 1000000) : ∀ (d n : Nat), n + d = R.length → Ev (fun k => zb.l1 k v R (n : Int)) (JM (R.drop n) v)
  | 0, n, hn => by
    refine qu (fun k => by rw [zb.l1, if_neg (by omega)]) ?_
    rw [List.drop_eq_nil_of_le (by omega)]; exact Ev.now _
  | d + 1, n, hn => by
    have hlt : n < R.length := by omega
    have ex : za R (n : Int) = R[n] := by simp [za, hlt]
    have h1 := hR R[n] (List.getElem_mem hlt)
    refine qu (fun k => by rw [zb.l1, if_pos (by omega), if_pos (by omega), ex, Zs (by omega)]) ?_
    refine Ev.bind (zC7 _ v h1.1 h1.2) ?_
    unfold JM
    rw [List.drop_eq_getElem_cons hlt, List.all_cons]
    by_cases hz : zCh R[n] v 0 = 0
    · rw [decide_eq_true hz, Bool.true_and]
      exact ZC hz (zAt R v hR hl d (n + 1) (by omega))
    · rw [decide_eq_false hz, Bool.false_and]
      exact Zd hz (Ev.now _)
theorem zAP (t : Tri) (v : List Int) (hv : v.length ≤ 4398046511104) : Ev (fun k => zb.f k t v) (zCO t v) := by
  have hfalse : Ev (fun k => zb.j0 k v true t) false := qu (fun k => by rw [zb.j0, if_pos rfl]) (Ev.now false)
  refine Ev.bind (zBM t) ?_
  unfold zCO
  by_cases hc : zBL t = 0
  · obtain ⟨ht, h6⟩ := zAs hc
    rw [if_pos hc]
    unfold zBP
    refine ZC hc (Ev.bind (Qn (by unfold qF.f; rfl)) ?_)
    refine Ev.congr (fun k => by rw [ZL (by omega) (by omega)]) (f := fun k => zb.j0 k v ((v.length : Int) != (7 * (t.length : Int))) t) ?_
    by_cases hl : (v.length : Int) = 7 * (t.length : Int)
    · rw [if_pos hl]
      have e : ((v.length : Int) != (7 * (t.length : Int))) = false := by simp [hl]
      rw [e]
      refine qu (fun k => by rw [zb.j0, if_neg (by simp)]) ?_
      have hrows : Ev (fun k => (zo.f k t).bind fun t106 => zb.l1 k v t106 0) (JM (JD t) v) := by
        refine Ev.bind (zBm ht) ?_
        have := zAt (JD t) v (fun r hr => by have := zAE ht r hr; omega) (by have := zAr ht; omega) (JD t).length 0 (by omega)
        rwa [List.drop_zero] at this
      have := zCp hv hrows v.length 0 (by omega)
      rwa [List.drop_zero] at this
    · rw [if_neg hl]
      have e : ((v.length : Int) != (7 * (t.length : Int))) = true := by simp [hl]
      rw [e]
      exact hfalse
  · rw [if_neg hc]
    exact Zd hc hfalse
theorem zBn (cols : Nat) (A r B : List Int) (k : Nat) (hA : A.length = k * cols) (hr : r.length = cols) : rowAt cols (A ++ (r ++ B)) k = r := by
  unfold rowAt
  have h3 : (k + 1) * cols = A.length + r.length := by rw [Nat.succ_mul]; omega
  rw [h3, ← hA, ← List.append_assoc, List.take_append_of_le_length (by simp), List.take_of_length_le (by simp), List.drop_append_of_le_length (Nat.le_refl _), List.drop_length, List.nil_append]
theorem zAu (cols : Nat) (v : List Int) : ∀ (R : List (List Int)) (A : List Int) (k : Nat), A.length = k * cols → (∀ r ∈ R, r.length = cols) → JB cols (A ++ R.flatten) v R.length k = JM R v
  | [], _, _, _, _ => rfl
  | r :: R, A, k, hA, hR => by
    have hr := hR r (List.mem_cons_self ..)
    rw [List.length_cons, JB, List.flatten_cons, zBn cols A r _ k hA hr]
    have ih := zAu cols v R (A ++ r) (k + 1) (by rw [List.length_append, hA, hr, Nat.succ_mul]) (fun x hx => hR x (List.mem_cons_of_mem _ hx))
    rw [List.append_assoc] at ih
    rw [ih]
    unfold JM
    rw [List.all_cons]
    by_cases hz : zCh r v 0 = 0
    · rw [if_pos hz, decide_eq_true hz, Bool.true_and]
    · rw [if_neg hz, decide_eq_false hz, Bool.false_and]
theorem zAH (cols : Nat) : ∀ (R : List (List Int)), (∀ r ∈ R, r.length = cols) → R.flatten.length = R.length * cols
  | [], _ => by simp
  | r :: R, h => by
    rw [List.flatten_cons, List.length_append, zAH cols R (fun x hx => h x (List.mem_cons_of_mem _ hx)), h r (List.mem_cons_self ..), List.length_cons, Nat.succ_mul]; omega
theorem zAQ {t : Tri} (h : QE t = true) (v : List Int) (hv : (v.length : Int) = 7 * (t.length : Int)) : ZU.f ((JD t).length : Int) (7 * (t.length : Int)) (JD t).flatten v = some (JM (JD t) v) := by
  have h8 := (ZX h).1
  have hs := zAr h
  have hf := zAH (7 * t.length) (JD t) (zAE h)
  have e7 : (7 * (t.length : Int)).toNat = 7 * t.length := by omega
  unfold ZU.f
  rw [if_pos ?_, e7, Int.toNat_natCast]
  · have := zAu (7 * t.length) v (JD t) [] 0 (by simp) (zAE h)
    rw [List.nil_append] at this
    rw [this]
  · refine ⟨by omega, by omega, by omega, by omega, ?_, by omega⟩
    rw [hf]; push_cast; rfl
theorem zDU (v : List Int) : zh.f v = some (!(v.all inR)) := by
  unfold zh.f qJ.f
  rw [contO (p := fun y => !(inR y)) v (fun y _ => by
    show qW.f y = _
    unfold qW.f
    rw [Jj]; rfl), List.not_all_eq_any_not]
theorem zBQ {t : Tri} (h : QE t = true) (v : List Int) : qf.f t v = some (zBP t v) := by
  have h8 := (ZX h).1
  unfold qf.f zBP
  rw [ZL (by omega) (by omega)]
  by_cases hl : (v.length : Int) = 7 * (t.length : Int)
  · rw [if_pos hl, if_pos hl, zDU, Option.bind_some]
    cases ha : v.all inR with
    | false => rfl
    | true => rw [if_neg (by simp), zCo h, Option.bind_some, zAQ h v hl, Option.bind_some, if_pos rfl]
  · rw [if_neg hl, if_neg hl]
theorem zAR {t : Tri} (hs : Small t) (v : List Int) : Ev (fun k => qq.f k t v) (zCO t v) := by
  refine Ev.bind (zBN hs) ?_
  unfold zCO
  by_cases hc : zBL t = 0
  · exact ZC hc (Ev.bind (Qn (zBQ (zAs hc).1 v)) (JC (if_pos hc).symm))
  · exact Zd hc (JC (if_neg hc).symm)
end Go.Proofs.Ythjpdljdodalaaa.P
namespace Go.Proofs.Ythjpdljdodalaaa.Pure
open Go.RowKit Go.Proofs.Ythjpdljdodalaaa.P Go.Proofs.Ythjpdljdodalaaa.Lib Go.Proofs.YthjpdljdodalaaaW.PrintWords
theorem zAI (l : List (List qY)) (x : List Int) (h : Fits l) (hx : x.length ≤ 9223372036854775807) : ∃ k, Za.f k l x = some true := by
  refine Ev.rounds ?_
  by_cases hx1 : (x.length : Int) > 1048576
  · exact ZC hx1 (Ev.now true)
  refine Zd hx1 ?_
  obtain ⟨r, hr, hs⟩ := JZ l h
  refine Ev.bind hr ?_
  by_cases hn : r < 0
  · exact ZC hn (Ev.now true)
  · have hsm := hs hn
    have hto := Ja l hsm
    have hti := zC5 x (by omega)
    have hS := zDN hsm
    refine Zd hn ?_
    refine Ev.bind hto ?_
    refine Ev.bind hti ?_
    refine Ev.bind (zAP _ _ (by omega)) ?_
    refine Ev.bind hto ?_
    refine Ev.bind hti ?_
    refine Ev.bind (zAR hS _) ?_
    refine Zd (by simp) ?_
    refine Ev.bind hto ?_
    refine Ev.bind (Jb _ hS) ?_
    refine ZC rfl ?_
    refine Ev.bind hti ?_
    refine Ev.bind (zC6 _ (by omega)) ?_
    exact ZC rfl (Ev.now true)
end Go.Proofs.Ythjpdljdodalaaa.Pure
namespace Go.Proofs.Ythjpdljdodalaaa.Lib
open Go.RowKit Go.Proofs.YthjpdljdodalaaaW.PrintWords Go.Joins Go.Deep Go.WideShapes Go.ChangeShapes
set_option linter.unusedVariables false
def zCq (P : Program) (t : TypeId) {α : Type} (d : Kd α) : Prop := ∀ (H : Type) (enc : TypeId × Value → H) (w : World) (base : Nat) (spare : Nat → Bool) (held : Bool) (fuel : Nat) (cs : List Value) (x : DataW H × List MemPlace),
  DataW.trod enc P w base spare held fuel t cs = some x → ∃ y, d.K w y cs
theorem zDV {P : Program} {t : TypeId} {k : IntKind} (ht : P.underlying t = some (.int k)) : zCq P t (Kd.int k) := by
  intro H enc w base spare held fuel cs x h
  obtain ⟨n, rfl, _, _⟩ := DataW.trod_int ht h
  exact ⟨n, rfl⟩
theorem zBo {α : Type} {R : Nat → α → Prop} : ∀ n, (∀ i, i < n → ∃ y, R i y) → ∃ ys : List α, ys.length = n ∧ ∀ j p, ys[j]? = some p → R j p
  | 0, _ => ⟨[], rfl, fun j p h => by simp at h⟩
  | n + 1, h => by
    obtain ⟨ys, hl, hr⟩ := zBo n (fun i hi => h i (by omega))
    obtain ⟨y, hy⟩ := h n (by omega)
    refine ⟨ys ++ [y], by simp [hl], fun j p hj => ?_⟩
    by_cases hlt : j < n
    · rw [List.getElem?_append_left (by omega)] at hj
      exact hr j p hj
    · have hjn : j < (ys ++ [y]).length := (List.getElem?_eq_some_iff.1 hj).1
      have : j = n := by simp [hl] at hjn; omega
      subst this
      rw [List.getElem?_append_right (by omega), hl, Nat.sub_self] at hj
      injection hj with hj
      rw [← hj]
      exact hy
theorem JN {P : Program} {t e : TypeId} {α : Type} {d : Kd α} (ht : P.underlying t = some (.slice e)) (hc : P.cellsOf e = d.sz) (h : zCq P e d) : zCq P t (Kd.slice e d) := by
  intro H enc w base spare held fuel cs x hx
  rcases open_slice ht hx with ⟨rfl, _⟩ | ⟨a, len, cap, m, n, D, Pl, rfl, hb, hl, hm, hmm, _, hi⟩
  · exact ⟨[], none, 0, rfl, Nat.le_refl _, Kd.C_nil d w⟩
  · have each : ∀ i, i < len → ∃ y, ∃ cs', w.cells? base (a.add (i * d.sz)) d.sz = some cs' ∧ d.K w y cs' := by
      intro i hil
      have him : i < m := by rw [hmm]; split <;> omega
      obtain ⟨cs', h1, h2⟩ := hi i him
      obtain ⟨y, hy⟩ := h H enc w base spare held n cs' _ h2
      rw [hc] at h1
      exact ⟨y, cs', h1, hy⟩
    obtain ⟨ys, hlen, hys⟩ := zBo len each
    refine ⟨ys, some a, cap, by rw [hlen], by omega, rfl, ?_, fun _ => ⟨a, rfl, fun j p hj => ?_⟩⟩
    · unfold maxLen at hm; omega
    · obtain ⟨cs', h1, h2⟩ := hys j p hj
      obtain ⟨_, h3, h4⟩ := World.cells?_some h1
      refine ⟨cs', h3, h2, fun i u hu => ?_⟩
      have hil : i < d.sz := by rw [← h3]; exact (List.getElem?_eq_some_iff.1 hu).1
      rw [← hu, ← h4 i hil, Go.Deep.add_add]
theorem zBR {P : Program} {t : TypeId} {f0 f1 : Field} {α : Type} (hs : P.underlying t = some (.struct #[f0, f1])) (hone : oneCellFields P #[f0, f1] = true) (hC : P.cellsOf t = 2)
    (h0 : P.underlying f0.type = some (.int .i64)) (h1 : P.underlying f1.type = some (.int .i64)) (d : Kd α) (mk : Int → Int → α) (hK : ∀ w a b, d.K w (mk a b) [.int .i64 a, .int .i64 b]) : zCq P t d := by
  intro H enc w base spare held fuel cs x h
  obtain ⟨y0, y1, n, hx, hl, g0, g1⟩ := trod_struct2 hs h
  obtain ⟨o0, k0⟩ := hone_of hone 0 f0 rfl
  obtain ⟨o1, k1⟩ := hone_of hone 1 f1 rfl
  rw [hC] at hl
  match cs, hl with
  | [c0, c1], _ =>
    rw [o0, k0] at g0
    rw [o1, k1] at g1
    obtain ⟨a, e0, _, _⟩ := DataW.trod_int h0 g0
    obtain ⟨b, e1, _, _⟩ := DataW.trod_int h1 g1
    simp at e0 e1
    subst e0 e1
    exact ⟨mk a b, hK w a b⟩
section
variable {H : Type} {enc : TypeId × Value → H} {P : Program} {w : World} {base : Nat} {spare : Nat → Bool} {held : Bool}
theorem array1 {α : Type} {cs : Array α} (h : cs.size = 1) : ∃ c0, cs = #[c0] := by
  obtain ⟨l⟩ := cs
  match l, h with
  | [c0], _ => exact ⟨c0, rfl⟩
theorem zDu {r : Reach} {b0 : Nat} {t e : TypeId} {α : Type} {d : Kd α} {v : Value} {D : DataW H} {p : List MemPlace} (hu : P.underlying t = some (.slice e)) (ho : zCq P t (Kd.slice e d)) (hv : Value.okWide P w r b0 t v) (h : DataW.Trod enc P w base spare held t v D p) :
    ∃ (A : Option Addr) (c : Nat) (l : List α), v = .slice A l.length c ∧ l.length ≤ c ∧ d.C w A l.length l := by
  obtain ⟨a0, len, cap, rfl⟩ := okWide_slice hu hv
  obtain ⟨fuel, hf⟩ := h
  obtain ⟨l, A, c, e1, hl, hC⟩ := ho H enc w base spare held fuel _ _ hf
  simp [Value.cells] at e1
  obtain ⟨rfl, rfl, rfl⟩ := e1
  exact ⟨_, _, l, rfl, hl, hC⟩
theorem zDW {r : Reach} {b0 : Nat} {t e : TypeId} {f0 : Field} {α : Type} {d : Kd α} {v : Value} {D : DataW H} {p : List MemPlace} (hs : P.underlying t = some (.struct #[f0])) (hone : oneCellFields P #[f0] = true) (hC : P.cellsOf t = 1)
    (ho : zCq P f0.type (Kd.slice e d)) (hv : Value.okWide P w r b0 t v) (h : DataW.Trod enc P w base spare held t v D p) :
    ∃ (A : Option Addr) (c : Nat) (l : List α), v = .agg #[.slice A l.length c] ∧ l.length ≤ c ∧ d.C w A l.length l := by
  obtain ⟨cs, rfl, hsz⟩ := okWide_struct hs hv
  obtain ⟨c0, rfl⟩ := array1 (hsz.trans hC)
  obtain ⟨fuel, hf⟩ := h
  obtain ⟨y0, n, hx, _, h0⟩ := trod_struct1 hs hf
  obtain ⟨o0, k0⟩ := hone_of hone 0 f0 rfl
  have h0' : DataW.trod enc P w base spare held n f0.type [c0] = some y0 := by simpa [Value.cells, o0, k0] using h0
  obtain ⟨l, A, c, e1, hl, hCC⟩ := ho H enc w base spare held n _ _ h0'
  simp at e1
  subst e1
  exact ⟨A, c, l, rfl, hl, hCC⟩
end
theorem zDX {e : Nat} {α : Type} {d : Kd α} {w : World} {A : Option Addr} {l : List (List α)} (h : (Kd.slice e d).C w A l.length l) : l.length ≤ 9223372036854775807 ∧ ∀ r ∈ l, r.length ≤ 9223372036854775807 := by
  refine ⟨h.2.1, fun r hr => ?_⟩
  obtain ⟨j, hj, rfl⟩ := List.mem_iff_getElem.1 hr
  obtain ⟨ad, _, hc⟩ := h.2.2 (by omega)
  obtain ⟨c, _, hK, _⟩ := hc j _ (List.getElem?_eq_getElem hj)
  obtain ⟨A', c', _, _, hC⟩ := hK
  exact hC.2.1
end Go.Proofs.Ythjpdljdodalaaa.Lib
namespace Go.Proofs.Ythjpdljdodalaaa.fnExactIsNormal
open Go.ChangeShapes Go.WideShapes Go.ChangeAt Go.RowKit Go.Proofs.Ythjpdljdodalaaa.Lib Go.Proofs.YthjpdljdodalaaaW.PrintWords Go.Proofs.Ythjpdljdodalaaa.P
open Go.ChangeMaps (open_string shut_string)
set_option linter.unusedVariables false
theorem own : ownKnob Try.prog.godebug = none := by kernel_rfl
theorem laidOut : laidOutB Try.prog = true := by kernel_rfl
set_option maxRecDepth 100000 in
theorem lifted (os : Os) (started : os.Started) (H : Type) (enc : TypeId × Value → H) :
    ReturnsInHanded {} Try.checked os 3 .any (Rows.fnExactIsNormalSpec.pre6 enc Try.prog Try.f3 Rows.fnExactIsNormalRow.domain false) (Rows.fnExactIsNormalSpec.post enc Try.prog Try.f3 false true false false) := by
  refine returnsInHanded_of_change_sized (C := Try.checked) own started (by kernel_rfl) Try.func3
    (ChangeSpec.witness6 (enc := enc) (C := Try.checked) false ⟨#[], #[.agg #[.slice none 0 0], .slice none 0 0], []⟩ 8 (by kernel_rfl) (by kernel_rfl) (by kernel_rfl) (by kernel_rfl)) ?_
  intro W base args ds gs before hval0 hW hcnd hsz0 _
  have hval : ∀ (j : Nat) t v, Try.f3.params[j]? = some t → args[j]? = some v → Value.okWide Try.prog W .any base t v := hval0
  have hW' := hW
  obtain ⟨p, q, hA0, hV, rfl, hfz, hnd⟩ := hW
  have hA : DataW.TrodAll enc Try.prog W 0 (fun _ => true) true Try.f3.params.toList args.toList ds p := hA0
  rw [Try.params3] at hA hval
  obtain ⟨v0, vs0, d0, ds0, p0, q0, hargs, rfl, rfl, h0, r0⟩ := trodAll_cons hA
  obtain ⟨v1, vs1, d1, ds1, p1, q1, rfl, rfl, rfl, h1, r1⟩ := trodAll_cons r0
  obtain ⟨rfl, rfl, rfl⟩ := trodAll_nil r1
  obtain rfl : args = #[v0, v1] := by cases args; simp_all
  obtain ⟨rfl, rfl⟩ := trodVars_none hV
  have k0 := h0
  have lt0 : ∀ x ∈ p0, x.block < W.heap.size := by obtain ⟨m, hm⟩ := k0; exact DataW.trod_lt m _ _ _ hm
  obtain ⟨A0, c0, l0, rfl, hl0, hC0⟩ := zDW Try.underlying24 (by kernel_rfl) (by kernel_rfl) (JN Try.underlying22 (by kernel_rfl) (JN Try.underlying103 (by kernel_rfl) (zBR Try.underlying136 (by kernel_rfl) (by kernel_rfl) Try.underlying2 Try.underlying2 Zt (fun a b => (⟨a, b⟩ : qY)) (fun w a b => zBx w ⟨a, b⟩)))) (hval 0 24 v0 rfl rfl) h0
  have k1 := h1
  have lt1 : ∀ x ∈ p1, x.block < W.heap.size := by obtain ⟨m, hm⟩ := k1; exact DataW.trod_lt m _ _ _ hm
  obtain ⟨A1, c1, l1, rfl, hl1, hC1⟩ := zDu Try.underlying25 (JN Try.underlying25 (by kernel_rfl) (zDV Try.underlying2)) (hval 1 25 v1 rfl rfl) h1
  obtain ⟨k, hk⟩ := Pure.zAI l0 l1 (zDX hC0) hC1.2.1
  refine (Za.calls k _ _ l0 _ _ l1 true W hC0 hl0 hC1 hl1 hk).mono fun e W' ⟨he, bel⟩ => ?_
  subst he
  exact ⟨_, rfl, _, _, _, [], _, [], hW', trodAll_mk1 (shut_bool Try.underlying4 _), (trodAll_cons_mk (Below.trod laidOut (by kernel_rfl) (of_decide_eq_true (by kernel_rfl)) k0 bel lt0) (trodAll_cons_mk (Below.trod laidOut (by kernel_rfl) (of_decide_eq_true (by kernel_rfl)) k1 bel lt1) trodAll_mk0)), rfl, bel.frame _, fun h => by cases h⟩
theorem over : Rows.fnExactIsNormalRow.holds Try.pinned (OpenSpec.ofChange Rows.fnExactIsNormalSpec) :=
  OpenClaim.holds_of_wide 3 Try.f3 rfl rfl rfl rfl rfl rfl rfl ⟨rfl, rfl, rfl, rfl, rfl⟩ rfl rfl rfl rfl rfl (by kernel_rfl) Try.func3 (by kernel_rfl)
    (of_decide_eq_true (by kernel_rfl)) (by unfold Func.isWrapper; first | (rw [if_pos (by decide +kernel)]; kernel_rfl) | (rw [if_neg (by decide +kernel)]; exact ⟨rfl, rfl⟩))
    (fun os started H enc _ => lifted os started H enc)
theorem proved : Rows.FnExactIsNormalSaid := over
#print axioms proved
end Go.Proofs.Ythjpdljdodalaaa.fnExactIsNormal
namespace Go.Proofs.Ythjpdljdodalaaa
theorem fnExactIsNormal_holds : Rows.FnExactIsNormalSaid := fnExactIsNormal.proved
end Go.Proofs.Ythjpdljdodalaaa
