/- The statement FnExactIsAdmissibleSaid, proved: part 7 of 7 (texts of this session and of the kit's print, put together and cut to what is used by a program of it). -/
import Derived.Test.YthjpdljdodalaaaMFnExactIsAdmissible6
import Derived.Deep.Slices
import Derived.ChangeSame
import Derived.ChangeArms
import Derived.WideShapes
import Derived.Lib.SmallJoins
import Derived.ChangeShapes
import Derived.Test.YthjpdljdodalaaaRows
import Derived.WalkKit
import Derived.ProofKit
import Derived.OpenShut
import Derived.ShutString
import Derived.ChangeOld
import Derived.Below
import Derived.SizedLaws
import Derived.Carry

namespace Go.Proofs.Ythjpdljdodalaaa.P
open Go.RowKit Go.Proofs.YthjpdljdodalaaaW.PrintWords Go.Proofs.YthjpdljdodalaaaW.PrintLast Go.Proofs.YthjpdljdodalaaaW.PrintMore
attribute [local go_sem] zy zz qK qL zl zm qA qB
set_option linter.unusedVariables false
set_option linter.unusedSimpArgs false
def ZW.f (k : Nat) (l0_0 : List (List (qa))) (l1 : List Int) : Option (Bool) := if (l1.length : Int) > 1048576 then (some true) else ((qu.f k l0_0 1048576).bind fun t102 => (if t102 < 0 then (some true) else ((zZ.f k l0_0).bind fun t103 => ((zh.f k l1).bind fun t106 => ((qw.f k t103 t106).bind fun t109 => ((zZ.f k l0_0).bind fun t110 => ((zh.f k l1).bind fun t114 => ((qg.f k t110 t114).bind fun t117 => (if (t117 != t109) = true then (some false) else ((zZ.f k l0_0).bind fun t118 => ((qS.f k t110 t118).bind fun t121 => (if t121 = true then ((zh.f k l1).bind fun t122 => ((qM.f k t114 t122).bind fun t125 => (if t125 = true then (some true) else (some false)))) else (some false)))))))))))))
set_option maxHeartbeats 8000000 in
set_option maxRecDepth 100000 in
theorem ZW.calls (k : Nat) (A0_0 : Option Addr) (c0_0 : Nat) (l0_0 : List (List (qa))) (A1 : Option Addr) (c1 : Nat) (l1 : List Int) (r : Bool) (w : World) (hr0_0 : Kd.C (Kd.slice 136 Zz) w A0_0 l0_0.length l0_0) (hc0_0 : l0_0.length ≤ c0_0) (hr1 : Kd.C (Kd.int .i64) w A1 l1.length l1) (hc1 : l1.length ≤ c1) (h : ZW.f k l0_0 l1 = some r) :
 Calls Try.prog 5 #[.agg #[.slice A0_0 l0_0.length c0_0], .slice A1 l1.length c1] w fun e w' => e = .returned (.bool r) ∧ Below w.heap.size w w' := by
 have hu24 := Try.underlying24
 have hu30 := Try.underlying30
 have HR0_0 := zB.mk hr0_0
 have HC0_0 := zB.mk hc0_0
 clear hr0_0 hc0_0
 have HR1 := zB.mk hr1
 have HC1 := zB.mk hc1
 clear hr1 hc1
 have HB := zB.mk (Below.refl w.heap.size w)
 have H : (if (l1.length : Int) > 1048576 then (some true) else ((qu.f k l0_0 1048576).bind fun t102 => (if t102 < 0 then (some true) else ((zZ.f k l0_0).bind fun t103 => ((zh.f k l1).bind fun t106 => ((qw.f k t103 t106).bind fun t109 => ((zZ.f k l0_0).bind fun t110 => ((zh.f k l1).bind fun t114 => ((qg.f k t110 t114).bind fun t117 => (if (t117 != t109) = true then (some false) else ((zZ.f k l0_0).bind fun t118 => ((qS.f k t110 t118).bind fun t121 => (if t121 = true then ((zh.f k l1).bind fun t122 => ((qM.f k t114 t122).bind fun t125 => (if t125 = true then (some true) else (some false)))) else (some false)))))))))))))) = some r := h
 clear h
 by_cases c3 : (l1.length : Int) > 1048576
 next =>
  rw [if_pos c3] at H
  have c3b0 : decide (1048576 < (l1.length : Int)) = true := decide_eq_true c3
  have c3b1 : decide (1048576 < l1.length) = true := decide_eq_true (by omega)
  clear c3
  obtain rfl := Option.some.inj H
  go_enter Try.func5, Try.ntmps5
  go_wp2_with (first | ((with_reducible refine zw (N := 2) rfl ?_); refine zr ?hg (N := 2) ?hd (cs := #[.slice A0_0 l0_0.length c0_0]) (t := 24) ?hr ?_; (case hd => rfl); (case hg => rfl); (case hr => first | (go_simp; done) | (go_simp; rfl)); intro gb101 hg w4 hbox hb; have n0_ := zB.mk (zM (by repeat (first | (with_reducible first | exact HB.out | apply zC | apply zA | apply zD) | exact HB.out)) hb); have n1_ := zB.mk (hbox); have n2_ := zB.mk ((by rw [hg]; exact (zN (by repeat (first | (with_reducible first | exact HB.out | apply zC | apply zA | apply zD) | exact HB.out))) : w.heap.size ≤ gb101)); have n3_ := zB.mk ((by rw [hg]; exact (zN (by repeat (first | (with_reducible first | exact HB.out | apply zC | apply zA | apply zD) | exact HB.out))) : w.heap.size ≤ gb101)); clear HB; have HB := n0_; have BK101 := n1_; have GW101 := n2_; have GE101 := n3_; clear n0_ n1_ n2_ n3_; clear hb hbox hg))
  go_ret
  exact ⟨by first | rfl | (simp [zR, zS] <;> rfl) | (simp [*, zR, zS] <;> rfl), by repeat (first | (with_reducible first | exact HB.out | apply zC | apply zA | apply zD | refine zF ?_ GE101.out) | exact HB.out)⟩
 next =>
  rw [if_neg c3] at H
  have c3b0 : decide (1048576 < (l1.length : Int)) = false := decide_eq_false c3
  have c3b1 : decide (1048576 < l1.length) = false := decide_eq_false (by omega)
  clear c3
  replace H := Option.bind_eq_some_iff.mp H
  obtain ⟨t102, A50, H⟩ := H
  replace H : (if t102 < 0 then (some true) else ((zZ.f k l0_0).bind fun t103 => ((zh.f k l1).bind fun t106 => ((qw.f k t103 t106).bind fun t109 => ((zZ.f k l0_0).bind fun t110 => ((zh.f k l1).bind fun t114 => ((qg.f k t110 t114).bind fun t117 => (if (t117 != t109) = true then (some false) else ((zZ.f k l0_0).bind fun t118 => ((qS.f k t110 t118).bind fun t121 => (if t121 = true then ((zh.f k l1).bind fun t122 => ((qM.f k t114 t122).bind fun t125 => (if t125 = true then (some true) else (some false)))) else (some false)))))))))))) = some r := H
  have A5 := zB.mk A50
  clear A50
  by_cases c6 : t102 < 0
  next =>
   rw [if_pos c6] at H
   have c6b0 : decide (t102 < 0) = true := decide_eq_true c6
   clear c6
   obtain rfl := Option.some.inj H
   go_enter Try.func5, Try.ntmps5
   go_wp2_with (first | ((with_reducible refine zw (N := 2) rfl ?_); refine zr ?hg (N := 2) ?hd (cs := #[.slice A0_0 l0_0.length c0_0]) (t := 24) ?hr ?_; (case hd => rfl); (case hg => rfl); (case hr => first | (go_simp; done) | (go_simp; rfl)); intro gb101 hg w7 hbox hb; have n0_ := zB.mk (zM (by repeat (first | (with_reducible first | exact HB.out | apply zC | apply zA | apply zD) | exact HB.out)) hb); have n1_ := zB.mk (hbox); have n2_ := zB.mk ((by rw [hg]; exact (zN (by repeat (first | (with_reducible first | exact HB.out | apply zC | apply zA | apply zD) | exact HB.out))) : w.heap.size ≤ gb101)); have n3_ := zB.mk ((by rw [hg]; exact (zN (by repeat (first | (with_reducible first | exact HB.out | apply zC | apply zA | apply zD) | exact HB.out))) : w.heap.size ≤ gb101)); clear HB; have HB := n0_; have BK101 := n1_; have GW101 := n2_; have GE101 := n3_; clear n0_ n1_ n2_ n3_; clear hb hbox hg; have hcz8_0 : w7.cell? ⟨gb101, 0, none⟩ = some (.slice A0_0 l0_0.length c0_0) := (zL BK101.out 0).trans rfl; have hfz8_0 := zO BK101.out 0) | ((with_reducible refine zQ (f := 15) rfl ?_); refine qN (some 15) rfl rfl Try.func15 (by kernel_rfl) rfl #[.agg #[.slice A0_0 l0_0.length c0_0], .int .i64 1048576] rfl (by (try simp only [List.map_toArray, List.map_cons, List.map_nil]); first | done | rfl | (simp only [List.length_drop, List.length_take]; rfl)) ?_; (with_reducible refine (qu.calls k _ _ l0_0 1048576 t102 _ ?side1 ?side2 A5.out).mono ?_); (case side1 => repeat (first | exact (Kd.zt HR0_0.out HB.out) | (with_reducible refine Kd.zb ?_ _) | (with_reducible refine Kd.zc ?_ _) | (with_reducible refine Kd.zx ?_))); (case side2 => exact HC0_0.out); rintro e w9 ⟨rfl, hb⟩; refine ⟨_, rfl, ?_⟩; have n0_ := zB.mk (zP (g := gb101) (o := .cells #[.slice A0_0 l0_0.length c0_0] 24 (0, 0)) (by (with_reducible repeat (first | refine zH ?_ _ | refine zJ ?_ | refine zG ?_ _)); exact BK101.out) hb); have n1_ := zB.mk (zM (by repeat (first | (with_reducible first | exact HB.out | apply zC | apply zA | apply zD | refine zF ?_ GE101.out) | exact HB.out)) hb); clear BK101; clear HB; have BK101 := n0_; have HB := n1_; clear n0_ n1_; (try clear hb); (try clear hb2); (try clear hk); (try clear hi)))
   go_ret
   exact ⟨by first | rfl | (simp [zR, zS] <;> rfl) | (simp [*, zR, zS] <;> rfl), by repeat (first | (with_reducible first | exact HB.out | apply zC | apply zA | apply zD | refine zF ?_ GE101.out) | exact HB.out)⟩
  next =>
   rw [if_neg c6] at H
   have c6b0 : decide (t102 < 0) = false := decide_eq_false c6
   clear c6
   replace H := Option.bind_eq_some_iff.mp H
   obtain ⟨t103, A100, H⟩ := H
   replace H : ((zh.f k l1).bind fun t106 => ((qw.f k t103 t106).bind fun t109 => ((zZ.f k l0_0).bind fun t110 => ((zh.f k l1).bind fun t114 => ((qg.f k t110 t114).bind fun t117 => (if (t117 != t109) = true then (some false) else ((zZ.f k l0_0).bind fun t118 => ((qS.f k t110 t118).bind fun t121 => (if t121 = true then ((zh.f k l1).bind fun t122 => ((qM.f k t114 t122).bind fun t125 => (if t125 = true then (some true) else (some false)))) else (some false)))))))))) = some r := H
   have A10 := zB.mk A100
   clear A100
   replace H := Option.bind_eq_some_iff.mp H
   obtain ⟨t106, A110, H⟩ := H
   replace H : ((qw.f k t103 t106).bind fun t109 => ((zZ.f k l0_0).bind fun t110 => ((zh.f k l1).bind fun t114 => ((qg.f k t110 t114).bind fun t117 => (if (t117 != t109) = true then (some false) else ((zZ.f k l0_0).bind fun t118 => ((qS.f k t110 t118).bind fun t121 => (if t121 = true then ((zh.f k l1).bind fun t122 => ((qM.f k t114 t122).bind fun t125 => (if t125 = true then (some true) else (some false)))) else (some false))))))))) = some r := H
   have A11 := zB.mk A110
   clear A110
   replace H := Option.bind_eq_some_iff.mp H
   obtain ⟨t109, A120, H⟩ := H
   replace H : ((zZ.f k l0_0).bind fun t110 => ((zh.f k l1).bind fun t114 => ((qg.f k t110 t114).bind fun t117 => (if (t117 != t109) = true then (some false) else ((zZ.f k l0_0).bind fun t118 => ((qS.f k t110 t118).bind fun t121 => (if t121 = true then ((zh.f k l1).bind fun t122 => ((qM.f k t114 t122).bind fun t125 => (if t125 = true then (some true) else (some false)))) else (some false)))))))) = some r := H
   have A12 := zB.mk A120
   clear A120
   replace H := Option.bind_eq_some_iff.mp H
   obtain ⟨t110, A130, H⟩ := H
   replace H : ((zh.f k l1).bind fun t114 => ((qg.f k t110 t114).bind fun t117 => (if (t117 != t109) = true then (some false) else ((zZ.f k l0_0).bind fun t118 => ((qS.f k t110 t118).bind fun t121 => (if t121 = true then ((zh.f k l1).bind fun t122 => ((qM.f k t114 t122).bind fun t125 => (if t125 = true then (some true) else (some false)))) else (some false))))))) = some r := H
   have A13 := zB.mk A130
   clear A130
   replace H := Option.bind_eq_some_iff.mp H
   obtain ⟨t114, A140, H⟩ := H
   replace H : ((qg.f k t110 t114).bind fun t117 => (if (t117 != t109) = true then (some false) else ((zZ.f k l0_0).bind fun t118 => ((qS.f k t110 t118).bind fun t121 => (if t121 = true then ((zh.f k l1).bind fun t122 => ((qM.f k t114 t122).bind fun t125 => (if t125 = true then (some true) else (some false)))) else (some false)))))) = some r := H
   have A14 := zB.mk A140
   clear A140
   replace H := Option.bind_eq_some_iff.mp H
   obtain ⟨t117, A150, H⟩ := H
   replace H : (if (t117 != t109) = true then (some false) else ((zZ.f k l0_0).bind fun t118 => ((qS.f k t110 t118).bind fun t121 => (if t121 = true then ((zh.f k l1).bind fun t122 => ((qM.f k t114 t122).bind fun t125 => (if t125 = true then (some true) else (some false)))) else (some false))))) = some r := H
   have A15 := zB.mk A150
   clear A150
   by_cases c16 : (t117 != t109) = true
   next =>
    rw [if_pos c16] at H
    have c16b0 : (t117 != t109) = true := c16
    (try (have c16b1 : decide (t117 = t109) = false := by simpa using c16))
    (try (have c16b2 : (t117 == t109) = false := by simpa using c16))
    (try (have c16b3 : ¬ (t117 = t109) := by simpa using c16))
    clear c16
    obtain rfl := Option.some.inj H
    go_enter Try.func5, Try.ntmps5
    go_wp2_with (first | ((with_reducible refine zw (N := 2) rfl ?_); refine zr ?hg (N := 2) ?hd (cs := #[.slice A0_0 l0_0.length c0_0]) (t := 24) ?hr ?_; (case hd => rfl); (case hg => rfl); (case hr => first | (go_simp; done) | (go_simp; rfl)); intro gb101 hg w17 hbox hb; have n0_ := zB.mk (zM (by repeat (first | (with_reducible first | exact HB.out | apply zC | apply zA | apply zD) | exact HB.out)) hb); have n1_ := zB.mk (hbox); have n2_ := zB.mk ((by rw [hg]; exact (zN (by repeat (first | (with_reducible first | exact HB.out | apply zC | apply zA | apply zD) | exact HB.out))) : w.heap.size ≤ gb101)); have n3_ := zB.mk ((by rw [hg]; exact (zN (by repeat (first | (with_reducible first | exact HB.out | apply zC | apply zA | apply zD) | exact HB.out))) : w.heap.size ≤ gb101)); clear HB; have HB := n0_; have BK101 := n1_; have GW101 := n2_; have GE101 := n3_; clear n0_ n1_ n2_ n3_; clear hb hbox hg; have hcz18_0 : w17.cell? ⟨gb101, 0, none⟩ = some (.slice A0_0 l0_0.length c0_0) := (zL BK101.out 0).trans rfl; have hfz18_0 := zO BK101.out 0) | ((with_reducible refine zQ (f := 15) rfl ?_); refine qN (some 15) rfl rfl Try.func15 (by kernel_rfl) rfl #[.agg #[.slice A0_0 l0_0.length c0_0], .int .i64 1048576] rfl (by (try simp only [List.map_toArray, List.map_cons, List.map_nil]); first | done | rfl | (simp only [List.length_drop, List.length_take]; rfl)) ?_; (with_reducible refine (qu.calls k _ _ l0_0 1048576 t102 _ ?side1 ?side2 A5.out).mono ?_); (case side1 => repeat (first | exact (Kd.zt HR0_0.out HB.out) | (with_reducible refine Kd.zb ?_ _) | (with_reducible refine Kd.zc ?_ _) | (with_reducible refine Kd.zx ?_))); (case side2 => exact HC0_0.out); rintro e w19 ⟨rfl, hb⟩; refine ⟨_, rfl, ?_⟩; have n0_ := zB.mk (zP (g := gb101) (o := .cells #[.slice A0_0 l0_0.length c0_0] 24 (0, 0)) (by (with_reducible repeat (first | refine zH ?_ _ | refine zJ ?_ | refine zG ?_ _)); exact BK101.out) hb); have n1_ := zB.mk (zM (by repeat (first | (with_reducible first | exact HB.out | apply zC | apply zA | apply zD | refine zF ?_ GE101.out) | exact HB.out)) hb); clear BK101; clear HB; have BK101 := n0_; have HB := n1_; clear n0_ n1_; (try clear hb); (try clear hb2); (try clear hk); (try clear hi); have hcz20_0 : w19.cell? ⟨gb101, 0, none⟩ = some (.slice A0_0 l0_0.length c0_0) := (zL BK101.out 0).trans rfl; have hfz20_0 := zO BK101.out 0) | ((with_reducible refine zQ (f := 17) rfl ?_); refine qN (some 19) rfl rfl Try.func17 (by kernel_rfl) rfl #[.agg #[.slice A0_0 l0_0.length c0_0]] rfl (by (try simp only [List.map_toArray, List.map_cons, List.map_nil]); first | done | rfl | (simp only [List.length_drop, List.length_take]; rfl)) ?_; (with_reducible refine (zZ.calls k _ _ l0_0 t103 _ ?side1 ?side2 A10.out).mono ?_); (case side1 => repeat (first | exact (Kd.zt HR0_0.out HB.out) | (with_reducible refine Kd.zb ?_ _) | (with_reducible refine Kd.zc ?_ _) | (with_reducible refine Kd.zx ?_))); (case side2 => exact HC0_0.out); rintro e w21 ⟨v104, rfl, ho0, hb⟩; refine ⟨_, rfl, ?_⟩; have n0_ := zB.mk (Kd.Zv ho0 (zN (by repeat (first | (with_reducible first | exact HB.out | apply zC | apply zA | apply zD | refine zF ?_ GE101.out) | exact HB.out)))); have n1_ := zB.mk (zP (g := gb101) (o := .cells #[.slice A0_0 l0_0.length c0_0] 24 (0, 0)) (by (with_reducible repeat (first | refine zH ?_ _ | refine zJ ?_ | refine zG ?_ _)); exact BK101.out) hb); have n2_ := zB.mk (zM (by repeat (first | (with_reducible first | exact HB.out | apply zC | apply zA | apply zD | refine zF ?_ GE101.out) | exact HB.out)) hb); clear BK101; clear HB; have HO105 := n0_; have BK101 := n1_; have HB := n2_; clear n0_ n1_ n2_; (try clear hb); (try clear hb2); (try clear hk); (try clear hi); (try clear ho0)) | ((with_reducible refine zQ (f := 18) rfl ?_); refine qN (some 21) rfl rfl Try.func18 (by kernel_rfl) rfl #[.slice A1 l1.length c1] rfl (by (try simp only [List.map_toArray, List.map_cons, List.map_nil]); first | done | rfl | (simp only [List.length_drop, List.length_take]; rfl)) ?_; (with_reducible refine (zh.calls k _ _ l1 t106 _ ?side1 ?side2 A11.out).mono ?_); (case side1 => repeat (first | exact (Kd.zt HR1.out HB.out) | (with_reducible refine Kd.zb ?_ _) | (with_reducible refine Kd.zc ?_ _) | (with_reducible refine Kd.zx ?_))); (case side2 => exact HC1.out); rintro e w22 ⟨v107, rfl, ho0, hb⟩; refine ⟨_, rfl, ?_⟩; have n0_ := zB.mk (Kd.qZ (by (with_reducible repeat (first | apply Kd.zf | apply Kd.zg | apply Kd.zv)); exact HO105.out) hb); have n1_ := zB.mk (Kd.ZL ho0 (zN (by repeat (first | (with_reducible first | exact HB.out | apply zC | apply zA | apply zD | refine zF ?_ GE101.out) | exact HB.out)))); have n2_ := zB.mk (zP (g := gb101) (o := .cells #[.slice A0_0 l0_0.length c0_0] 24 (0, 0)) (by (with_reducible repeat (first | refine zH ?_ _ | refine zJ ?_ | refine zG ?_ _)); exact BK101.out) hb); have n3_ := zB.mk (zM (by repeat (first | (with_reducible first | exact HB.out | apply zC | apply zA | apply zD | refine zF ?_ GE101.out) | exact HB.out)) hb); clear HO105; clear BK101; clear HB; have HO105 := n0_; have HO108 := n1_; have BK101 := n2_; have HB := n3_; clear n0_ n1_ n2_ n3_; (try clear hb); (try clear hb2); (try clear hk); (try clear hi); (try clear ho0); obtain ⟨Ao23, co23, eo23⟩ := Kd.Zw HO105.out; subst eo23; obtain ⟨Ao24, co24, eo24⟩ := Kd.ZX HO108.out; subst eo24) | ((with_reducible refine zQ (f := 28) rfl ?_); refine qN (some 22) rfl rfl Try.func28 (by kernel_rfl) rfl #[.agg #[.slice Ao23 t103.length co23], .slice Ao24 t106.length co24] rfl (by (try simp only [List.map_toArray, List.map_cons, List.map_nil]); first | done | rfl | (simp only [List.length_drop, List.length_take]; rfl)) ?_; (with_reducible refine (qw.calls k _ _ t103 _ _ t106 t109 _ ?side1 ?side2 ?side3 ?side4 A12.out).mono ?_); (case side1 => repeat (first | exact (Kd.qo HO105.out).2.2 | (with_reducible refine Kd.zb ?_ _) | (with_reducible refine Kd.zc ?_ _) | (with_reducible refine Kd.zx ?_))); (case side2 => exact (Kd.qo HO105.out).2.1); (case side3 => repeat (first | exact (Kd.qC HO108.out).2.2 | (with_reducible refine Kd.zb ?_ _) | (with_reducible refine Kd.zc ?_ _) | (with_reducible refine Kd.zx ?_))); (case side4 => exact (Kd.qC HO108.out).2.1); rintro e w25 ⟨rfl, hb⟩; refine ⟨_, rfl, ?_⟩; have n0_ := zB.mk (Kd.qZ (by (with_reducible repeat (first | apply Kd.zf | apply Kd.zg | apply Kd.zv)); exact HO105.out) hb); have n1_ := zB.mk (Kd.qm (by (with_reducible repeat (first | apply Kd.ze | apply Kd.zd | apply Kd.zp)); exact HO108.out) hb); have n2_ := zB.mk (zP (g := gb101) (o := .cells #[.slice A0_0 l0_0.length c0_0] 24 (0, 0)) (by (with_reducible repeat (first | refine zH ?_ _ | refine zJ ?_ | refine zG ?_ _)); exact BK101.out) hb); have n3_ := zB.mk (zM (by repeat (first | (with_reducible first | exact HB.out | apply zC | apply zA | apply zD | refine zF ?_ GE101.out) | exact HB.out)) hb); clear HO105; clear HO108; clear BK101; clear HB; have HO105 := n0_; have HO108 := n1_; have BK101 := n2_; have HB := n3_; clear n0_ n1_ n2_ n3_; (try clear hb); (try clear hb2); (try clear hk); (try clear hi); have hcz26_0 : w25.cell? ⟨gb101, 0, none⟩ = some (.slice A0_0 l0_0.length c0_0) := (zL BK101.out 0).trans rfl; have hfz26_0 := zO BK101.out 0) | ((with_reducible refine zQ (f := 17) rfl ?_); refine qN (some 24) rfl rfl Try.func17 (by kernel_rfl) rfl #[.agg #[.slice A0_0 l0_0.length c0_0]] rfl (by (try simp only [List.map_toArray, List.map_cons, List.map_nil]); first | done | rfl | (simp only [List.length_drop, List.length_take]; rfl)) ?_; (with_reducible refine (zZ.calls k _ _ l0_0 t110 _ ?side1 ?side2 A13.out).mono ?_); (case side1 => repeat (first | exact (Kd.zt HR0_0.out HB.out) | (with_reducible refine Kd.zb ?_ _) | (with_reducible refine Kd.zc ?_ _) | (with_reducible refine Kd.zx ?_))); (case side2 => exact HC0_0.out); rintro e w27 ⟨v111, rfl, ho0, hb⟩; refine ⟨_, rfl, ?_⟩; have n0_ := zB.mk (Kd.Zi (by (with_reducible repeat (first | apply Kd.zf | apply Kd.zg | apply Kd.zv)); exact HO105.out) (Kd.JG ho0) hb); have n1_ := zB.mk (Kd.qm (by (with_reducible repeat (first | apply Kd.ze | apply Kd.zd | apply Kd.zp)); exact HO108.out) hb); have n2_ := zB.mk (Kd.Zv (Kd.JH ho0 (Kd.zDS (by (with_reducible repeat (first | apply Kd.zf | apply Kd.zg | apply Kd.zv)); exact HO105.out))) (zN (by repeat (first | (with_reducible first | exact HB.out | apply zC | apply zA | apply zD | refine zF ?_ GE101.out) | exact HB.out)))); have n3_ := zB.mk (zP (g := gb101) (o := .cells #[.slice A0_0 l0_0.length c0_0] 24 (0, 0)) (by (with_reducible repeat (first | refine zH ?_ _ | refine zJ ?_ | refine zG ?_ _)); exact BK101.out) hb); have n4_ := zB.mk (zM (by repeat (first | (with_reducible first | exact HB.out | apply zC | apply zA | apply zD | refine zF ?_ GE101.out) | exact HB.out)) hb); clear HO105; clear HO108; clear BK101; clear HB; have HO105 := n0_; have HO108 := n1_; have HO112 := n2_; have BK101 := n3_; have HB := n4_; clear n0_ n1_ n2_ n3_ n4_; (try clear hb); (try clear hb2); (try clear hk); (try clear hi); (try clear ho0)) | ((with_reducible refine zw (N := 7) rfl ?_); refine zr ?hg (N := 7) ?hd (cs := #[.slice none 0 0]) (t := 30) ?hr ?_; (case hd => rfl); (case hg => rfl); (case hr => first | (go_simp; done) | (go_simp; rfl)); intro gb113 hg w28 hbox hb; have n0_ := zB.mk (Kd.qZ (by (with_reducible repeat (first | apply Kd.zf | apply Kd.zg | apply Kd.zv)); exact HO105.out) hb); have n1_ := zB.mk (Kd.qm (by (with_reducible repeat (first | apply Kd.ze | apply Kd.zd | apply Kd.zp)); exact HO108.out) hb); have n2_ := zB.mk (Kd.qZ (by (with_reducible repeat (first | apply Kd.zf | apply Kd.zg | apply Kd.zv)); exact HO112.out) hb); have n3_ := zB.mk (zP (g := gb101) (o := .cells #[.slice A0_0 l0_0.length c0_0] 24 (0, 0)) (by (with_reducible repeat (first | refine zH ?_ _ | refine zJ ?_ | refine zG ?_ _)); exact BK101.out) hb); have n4_ := zB.mk (zM (by repeat (first | (with_reducible first | exact HB.out | apply zC | apply zA | apply zD | refine zF ?_ GE101.out) | exact HB.out)) hb); have n5_ := zB.mk (hbox); have n6_ := zB.mk ((by rw [hg]; exact (zN (by repeat (first | (with_reducible first | exact HB.out | apply zC | apply zA | apply zD | refine zF ?_ GE101.out) | exact HB.out))) : w.heap.size ≤ gb113)); have n7_ := zB.mk ((by rw [hg]; exact (zN (by repeat (first | (with_reducible first | exact HB.out | apply zC | apply zA | apply zD | refine zF ?_ GE101.out) | exact HB.out))) : w.heap.size ≤ gb113)); have n8_ := zB.mk ((by rw [hg]; exact Nat.ne_of_lt (ql (g := gb101) (o := .cells #[.slice A0_0 l0_0.length c0_0] 24 (0, 0)) (by (with_reducible repeat (first | refine zH ?_ _ | refine zJ ?_ | refine zG ?_ _)); exact BK101.out)) : gb101 ≠ gb113)); have n9_ := zB.mk ((by rw [hg]; exact Nat.ne_of_gt (ql (g := gb101) (o := .cells #[.slice A0_0 l0_0.length c0_0] 24 (0, 0)) (by (with_reducible repeat (first | refine zH ?_ _ | refine zJ ?_ | refine zG ?_ _)); exact BK101.out)) : gb113 ≠ gb101)); clear HO105; clear HO108; clear HO112; clear BK101; clear HB; have HO105 := n0_; have HO108 := n1_; have HO112 := n2_; have BK101 := n3_; have HB := n4_; have BK113 := n5_; have GW113 := n6_; have GE113 := n7_; have NB101_113 := n8_; have NB113_101 := n9_; clear n0_ n1_ n2_ n3_ n4_ n5_ n6_ n7_ n8_ n9_; clear hb hbox hg; obtain ⟨Ao29, co29, eo29⟩ := Kd.Zw HO112.out; subst eo29; have hnb30 := NB113_101.out; have hnc30 := NB101_113.out; have hcz31_0 : w28.cell? ⟨gb113, 0, none⟩ = some (.slice none 0 0) := (zL BK113.out 0).trans rfl; have hfz31_0 := zO BK113.out 0) | ((with_reducible refine zQ (f := 18) rfl ?_); refine qN (some 26) rfl rfl Try.func18 (by kernel_rfl) rfl #[.slice A1 l1.length c1] rfl (by (try simp only [List.map_toArray, List.map_cons, List.map_nil]); first | done | rfl | (simp only [List.length_drop, List.length_take]; rfl)) ?_; (with_reducible refine (zh.calls k _ _ l1 t114 _ ?side1 ?side2 A14.out).mono ?_); (case side1 => exact Kd.zt HR1.out (by repeat (first | (with_reducible first | exact HB.out | apply zC | apply zA | apply zD | refine zF ?_ GE101.out | refine zF ?_ GE113.out) | exact HB.out))); (case side2 => exact HC1.out); rintro e w32 ⟨v115, rfl, ho0, hb⟩; refine ⟨_, rfl, ?_⟩; have n0_ := zB.mk (Kd.qZ (by (with_reducible repeat (first | apply Kd.zf | apply Kd.zg | apply Kd.zv)); exact (Kd.ZS (Kd.JA (p := ⟨gb113, 0, none⟩) (Kd.QI HO105.out BK113.out (by decide)) (fun _ hk => hk.2) (.slice Ao29 t110.length co29)) (fun _ h_ => h_.1))) hb); have n1_ := zB.mk (Kd.Zm (by (with_reducible repeat (first | apply Kd.ze | apply Kd.zd | apply Kd.zp)); exact (Kd.qe (Kd.JV (p := ⟨gb113, 0, none⟩) (Kd.Qi HO108.out BK113.out (by decide)) (fun _ hk => hk.2) (.slice Ao29 t110.length co29)) (fun _ h_ => h_.1))) (Kd.QE ho0) hb); have n2_ := zB.mk (Kd.qZ (by (with_reducible repeat (first | apply Kd.zf | apply Kd.zg | apply Kd.zv)); exact (Kd.ZS (Kd.JA (p := ⟨gb113, 0, none⟩) (Kd.QI HO112.out BK113.out (by decide)) (fun _ hk => hk.2) (.slice Ao29 t110.length co29)) (fun _ h_ => h_.1))) hb); have n3_ := zB.mk (Kd.ZL (Kd.Qa ho0 (Kd.Jg (by (with_reducible repeat (first | apply Kd.ze | apply Kd.zd | apply Kd.zp)); exact (Kd.qe (Kd.JV (p := ⟨gb113, 0, none⟩) (Kd.Qi HO108.out BK113.out (by decide)) (fun _ hk => hk.2) (.slice Ao29 t110.length co29)) (fun _ h_ => h_.1))))) (zN (by repeat (first | (with_reducible first | exact HB.out | apply zC | apply zA | apply zD | refine zF ?_ GE101.out | refine zF ?_ GE113.out) | exact HB.out)))); have n4_ := zB.mk (zP (g := gb101) (o := .cells #[.slice A0_0 l0_0.length c0_0] 24 (0, 0)) (by (with_reducible repeat (first | refine zH ?_ _ | refine zJ ?_ | refine zG ?_ _)); refine qc ?_ NB101_113.out _; (with_reducible repeat (first | refine zH ?_ _ | refine zJ ?_ | refine zG ?_ _)); exact BK101.out) hb); have n5_ := zB.mk (zP (g := gb113) (o := .cells #[.slice Ao29 t110.length co29] 30 (0, 0)) (by (with_reducible repeat (first | refine zH ?_ _ | refine zJ ?_ | refine zG ?_ _)); refine qi (cs := #[.slice none 0 0]) ?_ 0 _ rfl; (with_reducible repeat (first | refine zH ?_ _ | refine zJ ?_ | refine zG ?_ _)); exact BK113.out) hb); have n6_ := zB.mk (zM (by repeat (first | (with_reducible first | exact HB.out | apply zC | apply zA | apply zD | refine zF ?_ GE101.out | refine zF ?_ GE113.out) | exact HB.out)) hb); clear HO105; clear HO108; clear HO112; clear BK101; clear BK113; clear HB; have HO105 := n0_; have HO108 := n1_; have HO112 := n2_; have HO116 := n3_; have BK101 := n4_; have BK113 := n5_; have HB := n6_; clear n0_ n1_ n2_ n3_ n4_ n5_ n6_; (try clear hb); (try clear hb2); (try clear hk); (try clear hi); (try clear ho0); have hcz33_0 : w32.cell? ⟨gb113, 0, none⟩ = some (.slice Ao29 t110.length co29) := (zL BK113.out 0).trans rfl; have hfz33_0 := zO BK113.out 0; obtain ⟨Ao34, co34, eo34⟩ := Kd.ZX HO116.out; subst eo34) | ((with_reducible refine zQ (f := 29) rfl ?_); refine qN (some 29) rfl rfl Try.func29 (by kernel_rfl) rfl #[.agg #[.slice Ao29 t110.length co29], .slice Ao34 t114.length co34] rfl (by (try simp only [List.map_toArray, List.map_cons, List.map_nil]); first | done | rfl | (simp only [List.length_drop, List.length_take]; rfl)) ?_; (with_reducible refine (qg.calls k _ _ t110 _ _ t114 t117 _ ?side1 ?side2 ?side3 ?side4 A15.out).mono ?_); (case side1 => repeat (first | exact (Kd.qo HO112.out).2.2 | (with_reducible refine Kd.zb ?_ _) | (with_reducible refine Kd.zc ?_ _) | (with_reducible refine Kd.zx ?_))); (case side2 => exact (Kd.qo HO112.out).2.1); (case side3 => repeat (first | exact (Kd.qC HO116.out).2.2 | (with_reducible refine Kd.zb ?_ _) | (with_reducible refine Kd.zc ?_ _) | (with_reducible refine Kd.zx ?_))); (case side4 => exact (Kd.qC HO116.out).2.1); rintro e w35 ⟨rfl, hb⟩; refine ⟨_, rfl, ?_⟩; have n0_ := zB.mk (Kd.qZ (by (with_reducible repeat (first | apply Kd.zf | apply Kd.zg | apply Kd.zv)); exact HO105.out) hb); have n1_ := zB.mk (Kd.qm (by (with_reducible repeat (first | apply Kd.ze | apply Kd.zd | apply Kd.zp)); exact HO108.out) hb); have n2_ := zB.mk (Kd.qZ (by (with_reducible repeat (first | apply Kd.zf | apply Kd.zg | apply Kd.zv)); exact HO112.out) hb); have n3_ := zB.mk (Kd.qm (by (with_reducible repeat (first | apply Kd.ze | apply Kd.zd | apply Kd.zp)); exact HO116.out) hb); have n4_ := zB.mk (zP (g := gb101) (o := .cells #[.slice A0_0 l0_0.length c0_0] 24 (0, 0)) (by (with_reducible repeat (first | refine zH ?_ _ | refine zJ ?_ | refine zG ?_ _)); exact BK101.out) hb); have n5_ := zB.mk (zP (g := gb113) (o := .cells #[.slice Ao29 t110.length co29] 30 (0, 0)) (by (with_reducible repeat (first | refine zH ?_ _ | refine zJ ?_ | refine zG ?_ _)); exact BK113.out) hb); have n6_ := zB.mk (zM (by repeat (first | (with_reducible first | exact HB.out | apply zC | apply zA | apply zD | refine zF ?_ GE101.out | refine zF ?_ GE113.out) | exact HB.out)) hb); clear HO105; clear HO108; clear HO112; clear HO116; clear BK101; clear BK113; clear HB; have HO105 := n0_; have HO108 := n1_; have HO112 := n2_; have HO116 := n3_; have BK101 := n4_; have BK113 := n5_; have HB := n6_; clear n0_ n1_ n2_ n3_ n4_ n5_ n6_; (try clear hb); (try clear hb2); (try clear hk); (try clear hi)))
    go_ret
    exact ⟨by first | rfl | (simp [zR, zS] <;> rfl) | (simp [*, zR, zS] <;> rfl), by repeat (first | (with_reducible first | exact HB.out | apply zC | apply zA | apply zD | refine zF ?_ GE101.out | refine zF ?_ GE113.out) | exact HB.out)⟩
   next =>
    rw [if_neg c16] at H
    have c16b0 : (t117 != t109) = false := by simpa using c16
    (try (have c16b1 : decide (t117 = t109) = true := by simpa using c16))
    (try (have c16b2 : (t117 == t109) = true := by simpa using c16))
    clear c16
    replace H := Option.bind_eq_some_iff.mp H
    obtain ⟨t118, A360, H⟩ := H
    replace H : ((qS.f k t110 t118).bind fun t121 => (if t121 = true then ((zh.f k l1).bind fun t122 => ((qM.f k t114 t122).bind fun t125 => (if t125 = true then (some true) else (some false)))) else (some false))) = some r := H
    have A36 := zB.mk A360
    clear A360
    replace H := Option.bind_eq_some_iff.mp H
    obtain ⟨t121, A370, H⟩ := H
    replace H : (if t121 = true then ((zh.f k l1).bind fun t122 => ((qM.f k t114 t122).bind fun t125 => (if t125 = true then (some true) else (some false)))) else (some false)) = some r := H
    have A37 := zB.mk A370
    clear A370
    by_cases c38 : t121 = true
    next =>
     subst c38
     have H1 : ((zh.f k l1).bind fun t122 => ((qM.f k t114 t122).bind fun t125 => (if t125 = true then (some true) else (some false)))) = some r := by rw [if_pos rfl] at H; exact H
     clear H
     have H := H1
     clear H1
     replace H := Option.bind_eq_some_iff.mp H
     obtain ⟨t122, A390, H⟩ := H
     replace H : ((qM.f k t114 t122).bind fun t125 => (if t125 = true then (some true) else (some false))) = some r := H
     have A39 := zB.mk A390
     clear A390
     replace H := Option.bind_eq_some_iff.mp H
     obtain ⟨t125, A400, H⟩ := H
     replace H : (if t125 = true then (some true) else (some false)) = some r := H
     have A40 := zB.mk A400
     clear A400
     by_cases c41 : t125 = true
     next =>
      subst c41
      have H1 : (some true) = some r := by rw [if_pos rfl] at H; exact H
      clear H
      have H := H1
      clear H1
      obtain rfl := Option.some.inj H
      go_enter Try.func5, Try.ntmps5
      try go_wp2_with (first | ((with_reducible refine zw (N := 2) rfl ?_); refine zr ?hg (N := 2) ?hd (cs := #[.slice A0_0 l0_0.length c0_0]) (t := 24) ?hr ?_; (case hd => rfl); (case hg => rfl); (case hr => first | (go_simp; done) | (go_simp; rfl)); intro gb101 hg w42 hbox hb; have n0_ := zB.mk (zM (by repeat (first | (with_reducible first | exact HB.out | apply zC | apply zA | apply zD) | exact HB.out)) hb); have n1_ := zB.mk (hbox); have n2_ := zB.mk ((by rw [hg]; exact (zN (by repeat (first | (with_reducible first | exact HB.out | apply zC | apply zA | apply zD) | exact HB.out))) : w.heap.size ≤ gb101)); have n3_ := zB.mk ((by rw [hg]; exact (zN (by repeat (first | (with_reducible first | exact HB.out | apply zC | apply zA | apply zD) | exact HB.out))) : w.heap.size ≤ gb101)); clear HB; have HB := n0_; have BK101 := n1_; have GW101 := n2_; have GE101 := n3_; clear n0_ n1_ n2_ n3_; clear hb hbox hg; have hcz43_0 : w42.cell? ⟨gb101, 0, none⟩ = some (.slice A0_0 l0_0.length c0_0) := (zL BK101.out 0).trans rfl; have hfz43_0 := zO BK101.out 0) | ((with_reducible refine zQ (f := 15) rfl ?_); refine qN (some 15) rfl rfl Try.func15 (by kernel_rfl) rfl #[.agg #[.slice A0_0 l0_0.length c0_0], .int .i64 1048576] rfl (by (try simp only [List.map_toArray, List.map_cons, List.map_nil]); first | done | rfl | (simp only [List.length_drop, List.length_take]; rfl)) ?_; (with_reducible refine (qu.calls k _ _ l0_0 1048576 t102 _ ?side1 ?side2 A5.out).mono ?_); (case side1 => repeat (first | exact (Kd.zt HR0_0.out HB.out) | (with_reducible refine Kd.zb ?_ _) | (with_reducible refine Kd.zc ?_ _) | (with_reducible refine Kd.zx ?_))); (case side2 => exact HC0_0.out); rintro e w44 ⟨rfl, hb⟩; refine ⟨_, rfl, ?_⟩; have n0_ := zB.mk (zP (g := gb101) (o := .cells #[.slice A0_0 l0_0.length c0_0] 24 (0, 0)) (by (with_reducible repeat (first | refine zH ?_ _ | refine zJ ?_ | refine zG ?_ _)); exact BK101.out) hb); have n1_ := zB.mk (zM (by repeat (first | (with_reducible first | exact HB.out | apply zC | apply zA | apply zD | refine zF ?_ GE101.out) | exact HB.out)) hb); clear BK101; clear HB; have BK101 := n0_; have HB := n1_; clear n0_ n1_; (try clear hb); (try clear hb2); (try clear hk); (try clear hi); have hcz45_0 : w44.cell? ⟨gb101, 0, none⟩ = some (.slice A0_0 l0_0.length c0_0) := (zL BK101.out 0).trans rfl; have hfz45_0 := zO BK101.out 0) | ((with_reducible refine zQ (f := 17) rfl ?_); refine qN (some 19) rfl rfl Try.func17 (by kernel_rfl) rfl #[.agg #[.slice A0_0 l0_0.length c0_0]] rfl (by (try simp only [List.map_toArray, List.map_cons, List.map_nil]); first | done | rfl | (simp only [List.length_drop, List.length_take]; rfl)) ?_; (with_reducible refine (zZ.calls k _ _ l0_0 t103 _ ?side1 ?side2 A10.out).mono ?_); (case side1 => repeat (first | exact (Kd.zt HR0_0.out HB.out) | (with_reducible refine Kd.zb ?_ _) | (with_reducible refine Kd.zc ?_ _) | (with_reducible refine Kd.zx ?_))); (case side2 => exact HC0_0.out); rintro e w46 ⟨v104, rfl, ho0, hb⟩; refine ⟨_, rfl, ?_⟩; have n0_ := zB.mk (Kd.Zv ho0 (zN (by repeat (first | (with_reducible first | exact HB.out | apply zC | apply zA | apply zD | refine zF ?_ GE101.out) | exact HB.out)))); have n1_ := zB.mk (zP (g := gb101) (o := .cells #[.slice A0_0 l0_0.length c0_0] 24 (0, 0)) (by (with_reducible repeat (first | refine zH ?_ _ | refine zJ ?_ | refine zG ?_ _)); exact BK101.out) hb); have n2_ := zB.mk (zM (by repeat (first | (with_reducible first | exact HB.out | apply zC | apply zA | apply zD | refine zF ?_ GE101.out) | exact HB.out)) hb); clear BK101; clear HB; have HO105 := n0_; have BK101 := n1_; have HB := n2_; clear n0_ n1_ n2_; (try clear hb); (try clear hb2); (try clear hk); (try clear hi); (try clear ho0)) | ((with_reducible refine zQ (f := 18) rfl ?_); refine qN (some 21) rfl rfl Try.func18 (by kernel_rfl) rfl #[.slice A1 l1.length c1] rfl (by (try simp only [List.map_toArray, List.map_cons, List.map_nil]); first | done | rfl | (simp only [List.length_drop, List.length_take]; rfl)) ?_; (with_reducible refine (zh.calls k _ _ l1 t106 _ ?side1 ?side2 A11.out).mono ?_); (case side1 => repeat (first | exact (Kd.zt HR1.out HB.out) | (with_reducible refine Kd.zb ?_ _) | (with_reducible refine Kd.zc ?_ _) | (with_reducible refine Kd.zx ?_))); (case side2 => exact HC1.out); rintro e w47 ⟨v107, rfl, ho0, hb⟩; refine ⟨_, rfl, ?_⟩; have n0_ := zB.mk (Kd.qZ (by (with_reducible repeat (first | apply Kd.zf | apply Kd.zg | apply Kd.zv)); exact HO105.out) hb); have n1_ := zB.mk (Kd.ZL ho0 (zN (by repeat (first | (with_reducible first | exact HB.out | apply zC | apply zA | apply zD | refine zF ?_ GE101.out) | exact HB.out)))); have n2_ := zB.mk (zP (g := gb101) (o := .cells #[.slice A0_0 l0_0.length c0_0] 24 (0, 0)) (by (with_reducible repeat (first | refine zH ?_ _ | refine zJ ?_ | refine zG ?_ _)); exact BK101.out) hb); have n3_ := zB.mk (zM (by repeat (first | (with_reducible first | exact HB.out | apply zC | apply zA | apply zD | refine zF ?_ GE101.out) | exact HB.out)) hb); clear HO105; clear BK101; clear HB; have HO105 := n0_; have HO108 := n1_; have BK101 := n2_; have HB := n3_; clear n0_ n1_ n2_ n3_; (try clear hb); (try clear hb2); (try clear hk); (try clear hi); (try clear ho0); obtain ⟨Ao48, co48, eo48⟩ := Kd.Zw HO105.out; subst eo48; obtain ⟨Ao49, co49, eo49⟩ := Kd.ZX HO108.out; subst eo49) | ((with_reducible refine zQ (f := 28) rfl ?_); refine qN (some 22) rfl rfl Try.func28 (by kernel_rfl) rfl #[.agg #[.slice Ao48 t103.length co48], .slice Ao49 t106.length co49] rfl (by (try simp only [List.map_toArray, List.map_cons, List.map_nil]); first | done | rfl | (simp only [List.length_drop, List.length_take]; rfl)) ?_; (with_reducible refine (qw.calls k _ _ t103 _ _ t106 t109 _ ?side1 ?side2 ?side3 ?side4 A12.out).mono ?_); (case side1 => repeat (first | exact (Kd.qo HO105.out).2.2 | (with_reducible refine Kd.zb ?_ _) | (with_reducible refine Kd.zc ?_ _) | (with_reducible refine Kd.zx ?_))); (case side2 => exact (Kd.qo HO105.out).2.1); (case side3 => repeat (first | exact (Kd.qC HO108.out).2.2 | (with_reducible refine Kd.zb ?_ _) | (with_reducible refine Kd.zc ?_ _) | (with_reducible refine Kd.zx ?_))); (case side4 => exact (Kd.qC HO108.out).2.1); rintro e w50 ⟨rfl, hb⟩; refine ⟨_, rfl, ?_⟩; have n0_ := zB.mk (Kd.qZ (by (with_reducible repeat (first | apply Kd.zf | apply Kd.zg | apply Kd.zv)); exact HO105.out) hb); have n1_ := zB.mk (Kd.qm (by (with_reducible repeat (first | apply Kd.ze | apply Kd.zd | apply Kd.zp)); exact HO108.out) hb); have n2_ := zB.mk (zP (g := gb101) (o := .cells #[.slice A0_0 l0_0.length c0_0] 24 (0, 0)) (by (with_reducible repeat (first | refine zH ?_ _ | refine zJ ?_ | refine zG ?_ _)); exact BK101.out) hb); have n3_ := zB.mk (zM (by repeat (first | (with_reducible first | exact HB.out | apply zC | apply zA | apply zD | refine zF ?_ GE101.out) | exact HB.out)) hb); clear HO105; clear HO108; clear BK101; clear HB; have HO105 := n0_; have HO108 := n1_; have BK101 := n2_; have HB := n3_; clear n0_ n1_ n2_ n3_; (try clear hb); (try clear hb2); (try clear hk); (try clear hi); have hcz51_0 : w50.cell? ⟨gb101, 0, none⟩ = some (.slice A0_0 l0_0.length c0_0) := (zL BK101.out 0).trans rfl; have hfz51_0 := zO BK101.out 0) | ((with_reducible refine zQ (f := 17) rfl ?_); refine qN (some 24) rfl rfl Try.func17 (by kernel_rfl) rfl #[.agg #[.slice A0_0 l0_0.length c0_0]] rfl (by (try simp only [List.map_toArray, List.map_cons, List.map_nil]); first | done | rfl | (simp only [List.length_drop, List.length_take]; rfl)) ?_; (with_reducible refine (zZ.calls k _ _ l0_0 t110 _ ?side1 ?side2 A13.out).mono ?_); (case side1 => repeat (first | exact (Kd.zt HR0_0.out HB.out) | (with_reducible refine Kd.zb ?_ _) | (with_reducible refine Kd.zc ?_ _) | (with_reducible refine Kd.zx ?_))); (case side2 => exact HC0_0.out); rintro e w52 ⟨v111, rfl, ho0, hb⟩; refine ⟨_, rfl, ?_⟩; have n0_ := zB.mk (Kd.Zi (by (with_reducible repeat (first | apply Kd.zf | apply Kd.zg | apply Kd.zv)); exact HO105.out) (Kd.JG ho0) hb); have n1_ := zB.mk (Kd.qm (by (with_reducible repeat (first | apply Kd.ze | apply Kd.zd | apply Kd.zp)); exact HO108.out) hb); have n2_ := zB.mk (Kd.Zv (Kd.JH ho0 (Kd.zDS (by (with_reducible repeat (first | apply Kd.zf | apply Kd.zg | apply Kd.zv)); exact HO105.out))) (zN (by repeat (first | (with_reducible first | exact HB.out | apply zC | apply zA | apply zD | refine zF ?_ GE101.out) | exact HB.out)))); have n3_ := zB.mk (zP (g := gb101) (o := .cells #[.slice A0_0 l0_0.length c0_0] 24 (0, 0)) (by (with_reducible repeat (first | refine zH ?_ _ | refine zJ ?_ | refine zG ?_ _)); exact BK101.out) hb); have n4_ := zB.mk (zM (by repeat (first | (with_reducible first | exact HB.out | apply zC | apply zA | apply zD | refine zF ?_ GE101.out) | exact HB.out)) hb); clear HO105; clear HO108; clear BK101; clear HB; have HO105 := n0_; have HO108 := n1_; have HO112 := n2_; have BK101 := n3_; have HB := n4_; clear n0_ n1_ n2_ n3_ n4_; (try clear hb); (try clear hb2); (try clear hk); (try clear hi); (try clear ho0)) | ((with_reducible refine zw (N := 7) rfl ?_); refine zr ?hg (N := 7) ?hd (cs := #[.slice none 0 0]) (t := 30) ?hr ?_; (case hd => rfl); (case hg => rfl); (case hr => first | (go_simp; done) | (go_simp; rfl)); intro gb113 hg w53 hbox hb; have n0_ := zB.mk (Kd.qZ (by (with_reducible repeat (first | apply Kd.zf | apply Kd.zg | apply Kd.zv)); exact HO105.out) hb); have n1_ := zB.mk (Kd.qm (by (with_reducible repeat (first | apply Kd.ze | apply Kd.zd | apply Kd.zp)); exact HO108.out) hb); have n2_ := zB.mk (Kd.qZ (by (with_reducible repeat (first | apply Kd.zf | apply Kd.zg | apply Kd.zv)); exact HO112.out) hb); have n3_ := zB.mk (zP (g := gb101) (o := .cells #[.slice A0_0 l0_0.length c0_0] 24 (0, 0)) (by (with_reducible repeat (first | refine zH ?_ _ | refine zJ ?_ | refine zG ?_ _)); exact BK101.out) hb); have n4_ := zB.mk (zM (by repeat (first | (with_reducible first | exact HB.out | apply zC | apply zA | apply zD | refine zF ?_ GE101.out) | exact HB.out)) hb); have n5_ := zB.mk (hbox); have n6_ := zB.mk ((by rw [hg]; exact (zN (by repeat (first | (with_reducible first | exact HB.out | apply zC | apply zA | apply zD | refine zF ?_ GE101.out) | exact HB.out))) : w.heap.size ≤ gb113)); have n7_ := zB.mk ((by rw [hg]; exact (zN (by repeat (first | (with_reducible first | exact HB.out | apply zC | apply zA | apply zD | refine zF ?_ GE101.out) | exact HB.out))) : w.heap.size ≤ gb113)); have n8_ := zB.mk ((by rw [hg]; exact Nat.ne_of_lt (ql (g := gb101) (o := .cells #[.slice A0_0 l0_0.length c0_0] 24 (0, 0)) (by (with_reducible repeat (first | refine zH ?_ _ | refine zJ ?_ | refine zG ?_ _)); exact BK101.out)) : gb101 ≠ gb113)); have n9_ := zB.mk ((by rw [hg]; exact Nat.ne_of_gt (ql (g := gb101) (o := .cells #[.slice A0_0 l0_0.length c0_0] 24 (0, 0)) (by (with_reducible repeat (first | refine zH ?_ _ | refine zJ ?_ | refine zG ?_ _)); exact BK101.out)) : gb113 ≠ gb101)); clear HO105; clear HO108; clear HO112; clear BK101; clear HB; have HO105 := n0_; have HO108 := n1_; have HO112 := n2_; have BK101 := n3_; have HB := n4_; have BK113 := n5_; have GW113 := n6_; have GE113 := n7_; have NB101_113 := n8_; have NB113_101 := n9_; clear n0_ n1_ n2_ n3_ n4_ n5_ n6_ n7_ n8_ n9_; clear hb hbox hg; obtain ⟨Ao54, co54, eo54⟩ := Kd.Zw HO112.out; subst eo54; have hnb55 := NB113_101.out; have hnc55 := NB101_113.out; have hcz56_0 : w53.cell? ⟨gb113, 0, none⟩ = some (.slice none 0 0) := (zL BK113.out 0).trans rfl; have hfz56_0 := zO BK113.out 0) | ((with_reducible refine zQ (f := 18) rfl ?_); refine qN (some 26) rfl rfl Try.func18 (by kernel_rfl) rfl #[.slice A1 l1.length c1] rfl (by (try simp only [List.map_toArray, List.map_cons, List.map_nil]); first | done | rfl | (simp only [List.length_drop, List.length_take]; rfl)) ?_; (with_reducible refine (zh.calls k _ _ l1 t114 _ ?side1 ?side2 A14.out).mono ?_); (case side1 => exact Kd.zt HR1.out (by repeat (first | (with_reducible first | exact HB.out | apply zC | apply zA | apply zD | refine zF ?_ GE101.out | refine zF ?_ GE113.out) | exact HB.out))); (case side2 => exact HC1.out); rintro e w57 ⟨v115, rfl, ho0, hb⟩; refine ⟨_, rfl, ?_⟩; have n0_ := zB.mk (Kd.qZ (by (with_reducible repeat (first | apply Kd.zf | apply Kd.zg | apply Kd.zv)); exact (Kd.ZS (Kd.JA (p := ⟨gb113, 0, none⟩) (Kd.QI HO105.out BK113.out (by decide)) (fun _ hk => hk.2) (.slice Ao54 t110.length co54)) (fun _ h_ => h_.1))) hb); have n1_ := zB.mk (Kd.Zm (by (with_reducible repeat (first | apply Kd.ze | apply Kd.zd | apply Kd.zp)); exact (Kd.qe (Kd.JV (p := ⟨gb113, 0, none⟩) (Kd.Qi HO108.out BK113.out (by decide)) (fun _ hk => hk.2) (.slice Ao54 t110.length co54)) (fun _ h_ => h_.1))) (Kd.QE ho0) hb); have n2_ := zB.mk (Kd.qZ (by (with_reducible repeat (first | apply Kd.zf | apply Kd.zg | apply Kd.zv)); exact (Kd.ZS (Kd.JA (p := ⟨gb113, 0, none⟩) (Kd.QI HO112.out BK113.out (by decide)) (fun _ hk => hk.2) (.slice Ao54 t110.length co54)) (fun _ h_ => h_.1))) hb); have n3_ := zB.mk (Kd.ZL (Kd.Qa ho0 (Kd.Jg (by (with_reducible repeat (first | apply Kd.ze | apply Kd.zd | apply Kd.zp)); exact (Kd.qe (Kd.JV (p := ⟨gb113, 0, none⟩) (Kd.Qi HO108.out BK113.out (by decide)) (fun _ hk => hk.2) (.slice Ao54 t110.length co54)) (fun _ h_ => h_.1))))) (zN (by repeat (first | (with_reducible first | exact HB.out | apply zC | apply zA | apply zD | refine zF ?_ GE101.out | refine zF ?_ GE113.out) | exact HB.out)))); have n4_ := zB.mk (zP (g := gb101) (o := .cells #[.slice A0_0 l0_0.length c0_0] 24 (0, 0)) (by (with_reducible repeat (first | refine zH ?_ _ | refine zJ ?_ | refine zG ?_ _)); refine qc ?_ NB101_113.out _; (with_reducible repeat (first | refine zH ?_ _ | refine zJ ?_ | refine zG ?_ _)); exact BK101.out) hb); have n5_ := zB.mk (zP (g := gb113) (o := .cells #[.slice Ao54 t110.length co54] 30 (0, 0)) (by (with_reducible repeat (first | refine zH ?_ _ | refine zJ ?_ | refine zG ?_ _)); refine qi (cs := #[.slice none 0 0]) ?_ 0 _ rfl; (with_reducible repeat (first | refine zH ?_ _ | refine zJ ?_ | refine zG ?_ _)); exact BK113.out) hb); have n6_ := zB.mk (zM (by repeat (first | (with_reducible first | exact HB.out | apply zC | apply zA | apply zD | refine zF ?_ GE101.out | refine zF ?_ GE113.out) | exact HB.out)) hb); clear HO105; clear HO108; clear HO112; clear BK101; clear BK113; clear HB; have HO105 := n0_; have HO108 := n1_; have HO112 := n2_; have HO116 := n3_; have BK101 := n4_; have BK113 := n5_; have HB := n6_; clear n0_ n1_ n2_ n3_ n4_ n5_ n6_; (try clear hb); (try clear hb2); (try clear hk); (try clear hi); (try clear ho0); have hcz58_0 : w57.cell? ⟨gb113, 0, none⟩ = some (.slice Ao54 t110.length co54) := (zL BK113.out 0).trans rfl; have hfz58_0 := zO BK113.out 0; obtain ⟨Ao59, co59, eo59⟩ := Kd.ZX HO116.out; subst eo59) | ((with_reducible refine zQ (f := 29) rfl ?_); refine qN (some 29) rfl rfl Try.func29 (by kernel_rfl) rfl #[.agg #[.slice Ao54 t110.length co54], .slice Ao59 t114.length co59] rfl (by (try simp only [List.map_toArray, List.map_cons, List.map_nil]); first | done | rfl | (simp only [List.length_drop, List.length_take]; rfl)) ?_; (with_reducible refine (qg.calls k _ _ t110 _ _ t114 t117 _ ?side1 ?side2 ?side3 ?side4 A15.out).mono ?_); (case side1 => repeat (first | exact (Kd.qo HO112.out).2.2 | (with_reducible refine Kd.zb ?_ _) | (with_reducible refine Kd.zc ?_ _) | (with_reducible refine Kd.zx ?_))); (case side2 => exact (Kd.qo HO112.out).2.1); (case side3 => repeat (first | exact (Kd.qC HO116.out).2.2 | (with_reducible refine Kd.zb ?_ _) | (with_reducible refine Kd.zc ?_ _) | (with_reducible refine Kd.zx ?_))); (case side4 => exact (Kd.qC HO116.out).2.1); rintro e w60 ⟨rfl, hb⟩; refine ⟨_, rfl, ?_⟩; have n0_ := zB.mk (Kd.qZ (by (with_reducible repeat (first | apply Kd.zf | apply Kd.zg | apply Kd.zv)); exact HO105.out) hb); have n1_ := zB.mk (Kd.qm (by (with_reducible repeat (first | apply Kd.ze | apply Kd.zd | apply Kd.zp)); exact HO108.out) hb); have n2_ := zB.mk (Kd.qZ (by (with_reducible repeat (first | apply Kd.zf | apply Kd.zg | apply Kd.zv)); exact HO112.out) hb); have n3_ := zB.mk (Kd.qm (by (with_reducible repeat (first | apply Kd.ze | apply Kd.zd | apply Kd.zp)); exact HO116.out) hb); have n4_ := zB.mk (zP (g := gb101) (o := .cells #[.slice A0_0 l0_0.length c0_0] 24 (0, 0)) (by (with_reducible repeat (first | refine zH ?_ _ | refine zJ ?_ | refine zG ?_ _)); exact BK101.out) hb); have n5_ := zB.mk (zP (g := gb113) (o := .cells #[.slice Ao54 t110.length co54] 30 (0, 0)) (by (with_reducible repeat (first | refine zH ?_ _ | refine zJ ?_ | refine zG ?_ _)); exact BK113.out) hb); have n6_ := zB.mk (zM (by repeat (first | (with_reducible first | exact HB.out | apply zC | apply zA | apply zD | refine zF ?_ GE101.out | refine zF ?_ GE113.out) | exact HB.out)) hb); clear HO105; clear HO108; clear HO112; clear HO116; clear BK101; clear BK113; clear HB; have HO105 := n0_; have HO108 := n1_; have HO112 := n2_; have HO116 := n3_; have BK101 := n4_; have BK113 := n5_; have HB := n6_; clear n0_ n1_ n2_ n3_ n4_ n5_ n6_; (try clear hb); (try clear hb2); (try clear hk); (try clear hi)))
      have n0_ := zB.mk (Kd.zv HO105.out)
      have n1_ := zB.mk (Kd.zp HO108.out)
      have n2_ := zB.mk (Kd.zv HO112.out)
      have n3_ := zB.mk (Kd.zp HO116.out)
      have n4_ := zB.mk (zJ BK101.out)
      have n5_ := zB.mk (zJ BK113.out)
      have n6_ := zB.mk (zD HB.out)
      clear HO105
      clear HO108
      clear HO112
      clear HO116
      clear BK101
      clear BK113
      clear HB
      have HO105 := n0_
      have HO108 := n1_
      have HO112 := n2_
      have HO116 := n3_
      have BK101 := n4_
      have BK113 := n5_
      have HB := n6_
      clear n0_ n1_ n2_ n3_ n4_ n5_ n6_
      refine Zt (n := 5) (S := fun w' => w'.cell? ⟨gb113, 0, none⟩ = some (.slice Ao54 t110.length co54) ∧ w'.cell? ⟨gb101, 0, none⟩ = some (.slice A0_0 l0_0.length c0_0)) (ds := []) #[false, false, false, false, false] (by kernel_rfl) rfl rfl ⟨(zL BK113.out 0).trans rfl, (zL BK101.out 0).trans rfl⟩ (fun hHeld => ?_)
      generalize w60.drew = w61 at HO105 HO108 HO112 HO116 BK101 BK113 HB hHeld ⊢
      refine qy (i := 0) (N := some 33) (v := ?_) (a' := ?_) #[true, false, false, false, false] rfl rfl (by kernel_rfl) (fun _ _ _ h => h) (Or.inl ⟨by rfl, ?_⟩) hHeld ?_ ?_
      rotate_left
      next =>
       rintro w' ⟨s0, s1⟩
       go_simp
       with_reducible rfl
      rotate_left
      next =>
       simp only [Act.put, List.setIfInBounds_toArray, List.set_cons_zero, List.set_cons_succ, zV, zX]
       rfl
      refine qy (i := 1) (N := some 34) (v := ?_) (a' := ?_) #[true, true, false, false, false] rfl rfl (by kernel_rfl) (fun _ _ _ h => h) (Or.inl ⟨by rfl, ?_⟩) hHeld ?_ ?_
      rotate_left
      next =>
       rintro w' ⟨s0, s1⟩
       go_simp
       with_reducible rfl
      rotate_left
      next =>
       simp only [Act.put, List.setIfInBounds_toArray, List.set_cons_zero, List.set_cons_succ, zV, zX]
       rfl
      refine Ju (i := 2) (N := some 35) #[true, true, true, false, false] rfl rfl (by kernel_rfl) (by decide) (fun K hK => ?_)
      refine Qg Try.func17 (by kernel_rfl) rfl #[.agg #[.slice A0_0 l0_0.length c0_0]] (by rfl) rfl rfl (by (try simp only [List.map_toArray, List.map_cons, List.map_nil]); first | done | rfl | (simp only [List.length_drop, List.length_take]; rfl)) ?_
      with_reducible refine (zZ.calls k _ _ l0_0 t118 _ ?side1 ?side2 A36.out).mono ?_
      (case side1 => repeat (first | exact (Kd.zt HR0_0.out HB.out) | (with_reducible refine Kd.zb ?_ _) | (with_reducible refine Kd.zc ?_ _) | (with_reducible refine Kd.zx ?_)))
      (case side2 => exact HC0_0.out)
      rintro e w62 ⟨v119, rfl, ho0, hb⟩
      refine ⟨_, rfl, ?_⟩
      have n0_ := zB.mk (Kd.Zi (by (with_reducible repeat (first | apply Kd.zf | apply Kd.zg | apply Kd.zv)); exact HO105.out) (Kd.JG ho0) hb)
      have n1_ := zB.mk (Kd.qm (by (with_reducible repeat (first | apply Kd.ze | apply Kd.zd | apply Kd.zp)); exact HO108.out) hb)
      have n2_ := zB.mk (Kd.Zi (by (with_reducible repeat (first | apply Kd.zf | apply Kd.zg | apply Kd.zv)); exact HO112.out) (Kd.JG ho0) hb)
      have n3_ := zB.mk (Kd.qm (by (with_reducible repeat (first | apply Kd.ze | apply Kd.zd | apply Kd.zp)); exact HO116.out) hb)
      have n4_ := zB.mk (Kd.Zv (Kd.JH (Kd.JH ho0 (Kd.zDS (by (with_reducible repeat (first | apply Kd.zf | apply Kd.zg | apply Kd.zv)); exact HO105.out))) (Kd.zDS (by (with_reducible repeat (first | apply Kd.zf | apply Kd.zg | apply Kd.zv)); exact HO112.out))) (zN (by repeat (first | (with_reducible first | exact HB.out | apply zC | apply zA | apply zD | refine zF ?_ GE101.out | refine zF ?_ GE113.out) | exact HB.out))))
      have n5_ := zB.mk (zP (g := gb101) (o := .cells #[.slice A0_0 l0_0.length c0_0] 24 (0, 0)) (by (with_reducible repeat (first | refine zH ?_ _ | refine zJ ?_ | refine zG ?_ _)); exact BK101.out) hb)
      have n6_ := zB.mk (zP (g := gb113) (o := .cells #[.slice Ao54 t110.length co54] 30 (0, 0)) (by (with_reducible repeat (first | refine zH ?_ _ | refine zJ ?_ | refine zG ?_ _)); exact BK113.out) hb)
      have n7_ := zB.mk (zM (by repeat (first | (with_reducible first | exact HB.out | apply zC | apply zA | apply zD | refine zF ?_ GE101.out | refine zF ?_ GE113.out) | exact HB.out)) hb)
      clear HO105
      clear HO108
      clear HO112
      clear HO116
      clear BK101
      clear BK113
      clear HB
      have HO105 := n0_
      have HO108 := n1_
      have HO112 := n2_
      have HO116 := n3_
      have HO120 := n4_
      have BK101 := n5_
      have BK113 := n6_
      have HB := n7_
      clear n0_ n1_ n2_ n3_ n4_ n5_ n6_ n7_
      (try clear hb)
      (try clear hb2)
      (try clear hk)
      (try clear hi)
      (try clear ho0)
      obtain ⟨Ao63, co63, eo63⟩ := Kd.Zw HO120.out
      (first | subst eo63 | (injection eo63 with f1_ f2_ f3_; have f4_ := f1_.symm; have f5_ := f3_.symm; clear f1_ f2_ f3_; subst f4_; subst f5_))
      refine hK.out _ _ ⟨(zL BK113.out 0).trans rfl, (zL BK101.out 0).trans rfl⟩ (fun hHeld => ?_)
      clear hK K
      refine QH (a' := ?_) ?_ ?_
      rotate_left
      next =>
       show Act.put _ (some 35) _ = _
       simp only [Act.put, List.setIfInBounds_toArray, List.set_cons_zero, List.set_cons_succ, zV, zX]
       rfl
      refine Ju (i := 3) (N := some 36) #[true, true, true, true, false] rfl rfl (by kernel_rfl) (by decide) (fun K hK => ?_)
      refine Qg Try.func20 (by kernel_rfl) rfl #[.agg #[.slice Ao54 t110.length co54], .agg #[.slice Ao63 t118.length co63]] (by rfl) rfl rfl (by (try simp only [List.map_toArray, List.map_cons, List.map_nil]); first | done | rfl | (simp only [List.length_drop, List.length_take]; rfl)) ?_
      with_reducible refine (qS.calls k _ _ t110 _ _ t118 true _ ?side1 ?side2 ?side3 ?side4 A37.out).mono ?_
      (case side1 => repeat (first | exact (Kd.qo HO112.out).2.2 | (with_reducible refine Kd.zb ?_ _) | (with_reducible refine Kd.zc ?_ _) | (with_reducible refine Kd.zx ?_)))
      (case side2 => exact (Kd.qo HO112.out).2.1)
      (case side3 => repeat (first | exact (Kd.qo HO120.out).2.2 | (with_reducible refine Kd.zb ?_ _) | (with_reducible refine Kd.zc ?_ _) | (with_reducible refine Kd.zx ?_)))
      (case side4 => exact (Kd.qo HO120.out).2.1)
      rintro e w64 ⟨rfl, hb⟩
      refine ⟨_, rfl, ?_⟩
      have n0_ := zB.mk (Kd.qZ (by (with_reducible repeat (first | apply Kd.zf | apply Kd.zg | apply Kd.zv)); exact HO105.out) hb)
      have n1_ := zB.mk (Kd.qm (by (with_reducible repeat (first | apply Kd.ze | apply Kd.zd | apply Kd.zp)); exact HO108.out) hb)
      have n2_ := zB.mk (Kd.qZ (by (with_reducible repeat (first | apply Kd.zf | apply Kd.zg | apply Kd.zv)); exact HO112.out) hb)
      have n3_ := zB.mk (Kd.qm (by (with_reducible repeat (first | apply Kd.ze | apply Kd.zd | apply Kd.zp)); exact HO116.out) hb)
      have n4_ := zB.mk (Kd.qZ (by (with_reducible repeat (first | apply Kd.zf | apply Kd.zg | apply Kd.zv)); exact HO120.out) hb)
      have n5_ := zB.mk (zP (g := gb101) (o := .cells #[.slice A0_0 l0_0.length c0_0] 24 (0, 0)) (by (with_reducible repeat (first | refine zH ?_ _ | refine zJ ?_ | refine zG ?_ _)); exact BK101.out) hb)
      have n6_ := zB.mk (zP (g := gb113) (o := .cells #[.slice Ao54 t110.length co54] 30 (0, 0)) (by (with_reducible repeat (first | refine zH ?_ _ | refine zJ ?_ | refine zG ?_ _)); exact BK113.out) hb)
      have n7_ := zB.mk (zM (by repeat (first | (with_reducible first | exact HB.out | apply zC | apply zA | apply zD | refine zF ?_ GE101.out | refine zF ?_ GE113.out) | exact HB.out)) hb)
      clear HO105
      clear HO108
      clear HO112
      clear HO116
      clear HO120
      clear BK101
      clear BK113
      clear HB
      have HO105 := n0_
      have HO108 := n1_
      have HO112 := n2_
      have HO116 := n3_
      have HO120 := n4_
      have BK101 := n5_
      have BK113 := n6_
      have HB := n7_
      clear n0_ n1_ n2_ n3_ n4_ n5_ n6_ n7_
      (try clear hb)
      (try clear hb2)
      (try clear hk)
      (try clear hi)
      refine hK.out _ _ ⟨(zL BK113.out 0).trans rfl, (zL BK101.out 0).trans rfl⟩ (fun hHeld => ?_)
      clear hK K
      refine QH (a' := ?_) ?_ ?_
      rotate_left
      next =>
       show Act.put _ (some 36) _ = _
       simp only [Act.put, List.setIfInBounds_toArray, List.set_cons_zero, List.set_cons_succ, zV, zX]
       rfl
      refine zk (i := 4) (N := some 37) (v := ?_) (a' := ?_) #[true, true, true, true, true] rfl rfl (by kernel_rfl) (fun _ _ _ h => h) (Or.inl ⟨by rfl, ?_⟩) ?_ ?_
      rotate_left
      next =>
       intro w'
       go_simp
       with_reducible rfl
      rotate_left
      next =>
       simp only [Act.put, List.setIfInBounds_toArray, List.set_cons_zero, List.set_cons_succ, zV, zX]
       rfl
      refine QX (by kernel_rfl) ?_
      try go_wp2_with (first | ((with_reducible refine zQ (f := 18) rfl ?_); refine qN (some 40) rfl rfl Try.func18 (by kernel_rfl) rfl #[.slice A1 l1.length c1] rfl (by (try simp only [List.map_toArray, List.map_cons, List.map_nil]); first | done | rfl | (simp only [List.length_drop, List.length_take]; rfl)) ?_; (with_reducible refine (zh.calls k _ _ l1 t122 _ ?side1 ?side2 A39.out).mono ?_); (case side1 => repeat (first | exact (Kd.zt HR1.out HB.out) | (with_reducible refine Kd.zb ?_ _) | (with_reducible refine Kd.zc ?_ _) | (with_reducible refine Kd.zx ?_))); (case side2 => exact HC1.out); rintro e w65 ⟨v123, rfl, ho0, hb⟩; refine ⟨_, rfl, ?_⟩; have n0_ := zB.mk (Kd.qZ (by (with_reducible repeat (first | apply Kd.zf | apply Kd.zg | apply Kd.zv)); exact HO105.out) hb); have n1_ := zB.mk (Kd.Zm (by (with_reducible repeat (first | apply Kd.ze | apply Kd.zd | apply Kd.zp)); exact HO108.out) (Kd.QE ho0) hb); have n2_ := zB.mk (Kd.qZ (by (with_reducible repeat (first | apply Kd.zf | apply Kd.zg | apply Kd.zv)); exact HO112.out) hb); have n3_ := zB.mk (Kd.Zm (by (with_reducible repeat (first | apply Kd.ze | apply Kd.zd | apply Kd.zp)); exact HO116.out) (Kd.QE ho0) hb); have n4_ := zB.mk (Kd.qZ (by (with_reducible repeat (first | apply Kd.zf | apply Kd.zg | apply Kd.zv)); exact HO120.out) hb); have n5_ := zB.mk (Kd.ZL (Kd.Qa (Kd.Qa ho0 (Kd.Jg (by (with_reducible repeat (first | apply Kd.ze | apply Kd.zd | apply Kd.zp)); exact HO108.out))) (Kd.Jg (by (with_reducible repeat (first | apply Kd.ze | apply Kd.zd | apply Kd.zp)); exact HO116.out))) (zN (by repeat (first | (with_reducible first | exact HB.out | apply zC | apply zA | apply zD | refine zF ?_ GE101.out | refine zF ?_ GE113.out) | exact HB.out)))); have n6_ := zB.mk (zP (g := gb101) (o := .cells #[.slice A0_0 l0_0.length c0_0] 24 (0, 0)) (by (with_reducible repeat (first | refine zH ?_ _ | refine zJ ?_ | refine zG ?_ _)); exact BK101.out) hb); have n7_ := zB.mk (zP (g := gb113) (o := .cells #[.slice Ao54 t110.length co54] 30 (0, 0)) (by (with_reducible repeat (first | refine zH ?_ _ | refine zJ ?_ | refine zG ?_ _)); exact BK113.out) hb); have n8_ := zB.mk (zM (by repeat (first | (with_reducible first | exact HB.out | apply zC | apply zA | apply zD | refine zF ?_ GE101.out | refine zF ?_ GE113.out) | exact HB.out)) hb); clear HO105; clear HO108; clear HO112; clear HO116; clear HO120; clear BK101; clear BK113; clear HB; have HO105 := n0_; have HO108 := n1_; have HO112 := n2_; have HO116 := n3_; have HO120 := n4_; have HO124 := n5_; have BK101 := n6_; have BK113 := n7_; have HB := n8_; clear n0_ n1_ n2_ n3_ n4_ n5_ n6_ n7_ n8_; (try clear hb); (try clear hb2); (try clear hk); (try clear hi); (try clear ho0); obtain ⟨Ao66, co66, eo66⟩ := Kd.ZX HO124.out; subst eo66) | ((with_reducible refine zQ (f := 21) rfl ?_); refine qN (some 41) rfl rfl Try.func21 (by kernel_rfl) rfl #[.slice Ao59 t114.length co59, .slice Ao66 t122.length co66] rfl (by (try simp only [List.map_toArray, List.map_cons, List.map_nil]); first | done | rfl | (simp only [List.length_drop, List.length_take]; rfl)) ?_; (with_reducible refine (qM.calls k _ _ t114 _ _ t122 true _ ?side1 ?side2 ?side3 ?side4 A40.out).mono ?_); (case side1 => repeat (first | exact (Kd.qC HO116.out).2.2 | (with_reducible refine Kd.zb ?_ _) | (with_reducible refine Kd.zc ?_ _) | (with_reducible refine Kd.zx ?_))); (case side2 => exact (Kd.qC HO116.out).2.1); (case side3 => repeat (first | exact (Kd.qC HO124.out).2.2 | (with_reducible refine Kd.zb ?_ _) | (with_reducible refine Kd.zc ?_ _) | (with_reducible refine Kd.zx ?_))); (case side4 => exact (Kd.qC HO124.out).2.1); rintro e w' ⟨rfl, ⟨nd, rfl⟩⟩; refine ⟨_, rfl, ?_⟩))
      go_ret
      exact ⟨by first | rfl | (simp [zR, zS] <;> rfl) | (simp [*, zR, zS] <;> rfl), by repeat (first | (with_reducible first | exact HB.out | apply zC | apply zA | apply zD | refine zF ?_ GE101.out | refine zF ?_ GE113.out) | exact HB.out)⟩
     next =>
      replace c41 := Bool.eq_false_iff.mpr c41
      subst c41
      have H1 : (some false) = some r := by rw [if_neg (show ¬ (false = true) by decide)] at H; exact H
      clear H
      have H := H1
      clear H1
      obtain rfl := Option.some.inj H
      go_enter Try.func5, Try.ntmps5
      try go_wp2_with (first | ((with_reducible refine zw (N := 2) rfl ?_); refine zr ?hg (N := 2) ?hd (cs := #[.slice A0_0 l0_0.length c0_0]) (t := 24) ?hr ?_; (case hd => rfl); (case hg => rfl); (case hr => first | (go_simp; done) | (go_simp; rfl)); intro gb101 hg w67 hbox hb; have n0_ := zB.mk (zM (by repeat (first | (with_reducible first | exact HB.out | apply zC | apply zA | apply zD) | exact HB.out)) hb); have n1_ := zB.mk (hbox); have n2_ := zB.mk ((by rw [hg]; exact (zN (by repeat (first | (with_reducible first | exact HB.out | apply zC | apply zA | apply zD) | exact HB.out))) : w.heap.size ≤ gb101)); have n3_ := zB.mk ((by rw [hg]; exact (zN (by repeat (first | (with_reducible first | exact HB.out | apply zC | apply zA | apply zD) | exact HB.out))) : w.heap.size ≤ gb101)); clear HB; have HB := n0_; have BK101 := n1_; have GW101 := n2_; have GE101 := n3_; clear n0_ n1_ n2_ n3_; clear hb hbox hg; have hcz68_0 : w67.cell? ⟨gb101, 0, none⟩ = some (.slice A0_0 l0_0.length c0_0) := (zL BK101.out 0).trans rfl; have hfz68_0 := zO BK101.out 0) | ((with_reducible refine zQ (f := 15) rfl ?_); refine qN (some 15) rfl rfl Try.func15 (by kernel_rfl) rfl #[.agg #[.slice A0_0 l0_0.length c0_0], .int .i64 1048576] rfl (by (try simp only [List.map_toArray, List.map_cons, List.map_nil]); first | done | rfl | (simp only [List.length_drop, List.length_take]; rfl)) ?_; (with_reducible refine (qu.calls k _ _ l0_0 1048576 t102 _ ?side1 ?side2 A5.out).mono ?_); (case side1 => repeat (first | exact (Kd.zt HR0_0.out HB.out) | (with_reducible refine Kd.zb ?_ _) | (with_reducible refine Kd.zc ?_ _) | (with_reducible refine Kd.zx ?_))); (case side2 => exact HC0_0.out); rintro e w69 ⟨rfl, hb⟩; refine ⟨_, rfl, ?_⟩; have n0_ := zB.mk (zP (g := gb101) (o := .cells #[.slice A0_0 l0_0.length c0_0] 24 (0, 0)) (by (with_reducible repeat (first | refine zH ?_ _ | refine zJ ?_ | refine zG ?_ _)); exact BK101.out) hb); have n1_ := zB.mk (zM (by repeat (first | (with_reducible first | exact HB.out | apply zC | apply zA | apply zD | refine zF ?_ GE101.out) | exact HB.out)) hb); clear BK101; clear HB; have BK101 := n0_; have HB := n1_; clear n0_ n1_; (try clear hb); (try clear hb2); (try clear hk); (try clear hi); have hcz70_0 : w69.cell? ⟨gb101, 0, none⟩ = some (.slice A0_0 l0_0.length c0_0) := (zL BK101.out 0).trans rfl; have hfz70_0 := zO BK101.out 0) | ((with_reducible refine zQ (f := 17) rfl ?_); refine qN (some 19) rfl rfl Try.func17 (by kernel_rfl) rfl #[.agg #[.slice A0_0 l0_0.length c0_0]] rfl (by (try simp only [List.map_toArray, List.map_cons, List.map_nil]); first | done | rfl | (simp only [List.length_drop, List.length_take]; rfl)) ?_; (with_reducible refine (zZ.calls k _ _ l0_0 t103 _ ?side1 ?side2 A10.out).mono ?_); (case side1 => repeat (first | exact (Kd.zt HR0_0.out HB.out) | (with_reducible refine Kd.zb ?_ _) | (with_reducible refine Kd.zc ?_ _) | (with_reducible refine Kd.zx ?_))); (case side2 => exact HC0_0.out); rintro e w71 ⟨v104, rfl, ho0, hb⟩; refine ⟨_, rfl, ?_⟩; have n0_ := zB.mk (Kd.Zv ho0 (zN (by repeat (first | (with_reducible first | exact HB.out | apply zC | apply zA | apply zD | refine zF ?_ GE101.out) | exact HB.out)))); have n1_ := zB.mk (zP (g := gb101) (o := .cells #[.slice A0_0 l0_0.length c0_0] 24 (0, 0)) (by (with_reducible repeat (first | refine zH ?_ _ | refine zJ ?_ | refine zG ?_ _)); exact BK101.out) hb); have n2_ := zB.mk (zM (by repeat (first | (with_reducible first | exact HB.out | apply zC | apply zA | apply zD | refine zF ?_ GE101.out) | exact HB.out)) hb); clear BK101; clear HB; have HO105 := n0_; have BK101 := n1_; have HB := n2_; clear n0_ n1_ n2_; (try clear hb); (try clear hb2); (try clear hk); (try clear hi); (try clear ho0)) | ((with_reducible refine zQ (f := 18) rfl ?_); refine qN (some 21) rfl rfl Try.func18 (by kernel_rfl) rfl #[.slice A1 l1.length c1] rfl (by (try simp only [List.map_toArray, List.map_cons, List.map_nil]); first | done | rfl | (simp only [List.length_drop, List.length_take]; rfl)) ?_; (with_reducible refine (zh.calls k _ _ l1 t106 _ ?side1 ?side2 A11.out).mono ?_); (case side1 => repeat (first | exact (Kd.zt HR1.out HB.out) | (with_reducible refine Kd.zb ?_ _) | (with_reducible refine Kd.zc ?_ _) | (with_reducible refine Kd.zx ?_))); (case side2 => exact HC1.out); rintro e w72 ⟨v107, rfl, ho0, hb⟩; refine ⟨_, rfl, ?_⟩; have n0_ := zB.mk (Kd.qZ (by (with_reducible repeat (first | apply Kd.zf | apply Kd.zg | apply Kd.zv)); exact HO105.out) hb); have n1_ := zB.mk (Kd.ZL ho0 (zN (by repeat (first | (with_reducible first | exact HB.out | apply zC | apply zA | apply zD | refine zF ?_ GE101.out) | exact HB.out)))); have n2_ := zB.mk (zP (g := gb101) (o := .cells #[.slice A0_0 l0_0.length c0_0] 24 (0, 0)) (by (with_reducible repeat (first | refine zH ?_ _ | refine zJ ?_ | refine zG ?_ _)); exact BK101.out) hb); have n3_ := zB.mk (zM (by repeat (first | (with_reducible first | exact HB.out | apply zC | apply zA | apply zD | refine zF ?_ GE101.out) | exact HB.out)) hb); clear HO105; clear BK101; clear HB; have HO105 := n0_; have HO108 := n1_; have BK101 := n2_; have HB := n3_; clear n0_ n1_ n2_ n3_; (try clear hb); (try clear hb2); (try clear hk); (try clear hi); (try clear ho0); obtain ⟨Ao73, co73, eo73⟩ := Kd.Zw HO105.out; subst eo73; obtain ⟨Ao74, co74, eo74⟩ := Kd.ZX HO108.out; subst eo74) | ((with_reducible refine zQ (f := 28) rfl ?_); refine qN (some 22) rfl rfl Try.func28 (by kernel_rfl) rfl #[.agg #[.slice Ao73 t103.length co73], .slice Ao74 t106.length co74] rfl (by (try simp only [List.map_toArray, List.map_cons, List.map_nil]); first | done | rfl | (simp only [List.length_drop, List.length_take]; rfl)) ?_; (with_reducible refine (qw.calls k _ _ t103 _ _ t106 t109 _ ?side1 ?side2 ?side3 ?side4 A12.out).mono ?_); (case side1 => repeat (first | exact (Kd.qo HO105.out).2.2 | (with_reducible refine Kd.zb ?_ _) | (with_reducible refine Kd.zc ?_ _) | (with_reducible refine Kd.zx ?_))); (case side2 => exact (Kd.qo HO105.out).2.1); (case side3 => repeat (first | exact (Kd.qC HO108.out).2.2 | (with_reducible refine Kd.zb ?_ _) | (with_reducible refine Kd.zc ?_ _) | (with_reducible refine Kd.zx ?_))); (case side4 => exact (Kd.qC HO108.out).2.1); rintro e w75 ⟨rfl, hb⟩; refine ⟨_, rfl, ?_⟩; have n0_ := zB.mk (Kd.qZ (by (with_reducible repeat (first | apply Kd.zf | apply Kd.zg | apply Kd.zv)); exact HO105.out) hb); have n1_ := zB.mk (Kd.qm (by (with_reducible repeat (first | apply Kd.ze | apply Kd.zd | apply Kd.zp)); exact HO108.out) hb); have n2_ := zB.mk (zP (g := gb101) (o := .cells #[.slice A0_0 l0_0.length c0_0] 24 (0, 0)) (by (with_reducible repeat (first | refine zH ?_ _ | refine zJ ?_ | refine zG ?_ _)); exact BK101.out) hb); have n3_ := zB.mk (zM (by repeat (first | (with_reducible first | exact HB.out | apply zC | apply zA | apply zD | refine zF ?_ GE101.out) | exact HB.out)) hb); clear HO105; clear HO108; clear BK101; clear HB; have HO105 := n0_; have HO108 := n1_; have BK101 := n2_; have HB := n3_; clear n0_ n1_ n2_ n3_; (try clear hb); (try clear hb2); (try clear hk); (try clear hi); have hcz76_0 : w75.cell? ⟨gb101, 0, none⟩ = some (.slice A0_0 l0_0.length c0_0) := (zL BK101.out 0).trans rfl; have hfz76_0 := zO BK101.out 0) | ((with_reducible refine zQ (f := 17) rfl ?_); refine qN (some 24) rfl rfl Try.func17 (by kernel_rfl) rfl #[.agg #[.slice A0_0 l0_0.length c0_0]] rfl (by (try simp only [List.map_toArray, List.map_cons, List.map_nil]); first | done | rfl | (simp only [List.length_drop, List.length_take]; rfl)) ?_; (with_reducible refine (zZ.calls k _ _ l0_0 t110 _ ?side1 ?side2 A13.out).mono ?_); (case side1 => repeat (first | exact (Kd.zt HR0_0.out HB.out) | (with_reducible refine Kd.zb ?_ _) | (with_reducible refine Kd.zc ?_ _) | (with_reducible refine Kd.zx ?_))); (case side2 => exact HC0_0.out); rintro e w77 ⟨v111, rfl, ho0, hb⟩; refine ⟨_, rfl, ?_⟩; have n0_ := zB.mk (Kd.Zi (by (with_reducible repeat (first | apply Kd.zf | apply Kd.zg | apply Kd.zv)); exact HO105.out) (Kd.JG ho0) hb); have n1_ := zB.mk (Kd.qm (by (with_reducible repeat (first | apply Kd.ze | apply Kd.zd | apply Kd.zp)); exact HO108.out) hb); have n2_ := zB.mk (Kd.Zv (Kd.JH ho0 (Kd.zDS (by (with_reducible repeat (first | apply Kd.zf | apply Kd.zg | apply Kd.zv)); exact HO105.out))) (zN (by repeat (first | (with_reducible first | exact HB.out | apply zC | apply zA | apply zD | refine zF ?_ GE101.out) | exact HB.out)))); have n3_ := zB.mk (zP (g := gb101) (o := .cells #[.slice A0_0 l0_0.length c0_0] 24 (0, 0)) (by (with_reducible repeat (first | refine zH ?_ _ | refine zJ ?_ | refine zG ?_ _)); exact BK101.out) hb); have n4_ := zB.mk (zM (by repeat (first | (with_reducible first | exact HB.out | apply zC | apply zA | apply zD | refine zF ?_ GE101.out) | exact HB.out)) hb); clear HO105; clear HO108; clear BK101; clear HB; have HO105 := n0_; have HO108 := n1_; have HO112 := n2_; have BK101 := n3_; have HB := n4_; clear n0_ n1_ n2_ n3_ n4_; (try clear hb); (try clear hb2); (try clear hk); (try clear hi); (try clear ho0)) | ((with_reducible refine zw (N := 7) rfl ?_); refine zr ?hg (N := 7) ?hd (cs := #[.slice none 0 0]) (t := 30) ?hr ?_; (case hd => rfl); (case hg => rfl); (case hr => first | (go_simp; done) | (go_simp; rfl)); intro gb113 hg w78 hbox hb; have n0_ := zB.mk (Kd.qZ (by (with_reducible repeat (first | apply Kd.zf | apply Kd.zg | apply Kd.zv)); exact HO105.out) hb); have n1_ := zB.mk (Kd.qm (by (with_reducible repeat (first | apply Kd.ze | apply Kd.zd | apply Kd.zp)); exact HO108.out) hb); have n2_ := zB.mk (Kd.qZ (by (with_reducible repeat (first | apply Kd.zf | apply Kd.zg | apply Kd.zv)); exact HO112.out) hb); have n3_ := zB.mk (zP (g := gb101) (o := .cells #[.slice A0_0 l0_0.length c0_0] 24 (0, 0)) (by (with_reducible repeat (first | refine zH ?_ _ | refine zJ ?_ | refine zG ?_ _)); exact BK101.out) hb); have n4_ := zB.mk (zM (by repeat (first | (with_reducible first | exact HB.out | apply zC | apply zA | apply zD | refine zF ?_ GE101.out) | exact HB.out)) hb); have n5_ := zB.mk (hbox); have n6_ := zB.mk ((by rw [hg]; exact (zN (by repeat (first | (with_reducible first | exact HB.out | apply zC | apply zA | apply zD | refine zF ?_ GE101.out) | exact HB.out))) : w.heap.size ≤ gb113)); have n7_ := zB.mk ((by rw [hg]; exact (zN (by repeat (first | (with_reducible first | exact HB.out | apply zC | apply zA | apply zD | refine zF ?_ GE101.out) | exact HB.out))) : w.heap.size ≤ gb113)); have n8_ := zB.mk ((by rw [hg]; exact Nat.ne_of_lt (ql (g := gb101) (o := .cells #[.slice A0_0 l0_0.length c0_0] 24 (0, 0)) (by (with_reducible repeat (first | refine zH ?_ _ | refine zJ ?_ | refine zG ?_ _)); exact BK101.out)) : gb101 ≠ gb113)); have n9_ := zB.mk ((by rw [hg]; exact Nat.ne_of_gt (ql (g := gb101) (o := .cells #[.slice A0_0 l0_0.length c0_0] 24 (0, 0)) (by (with_reducible repeat (first | refine zH ?_ _ | refine zJ ?_ | refine zG ?_ _)); exact BK101.out)) : gb113 ≠ gb101)); clear HO105; clear HO108; clear HO112; clear BK101; clear HB; have HO105 := n0_; have HO108 := n1_; have HO112 := n2_; have BK101 := n3_; have HB := n4_; have BK113 := n5_; have GW113 := n6_; have GE113 := n7_; have NB101_113 := n8_; have NB113_101 := n9_; clear n0_ n1_ n2_ n3_ n4_ n5_ n6_ n7_ n8_ n9_; clear hb hbox hg; obtain ⟨Ao79, co79, eo79⟩ := Kd.Zw HO112.out; subst eo79; have hnb80 := NB113_101.out; have hnc80 := NB101_113.out; have hcz81_0 : w78.cell? ⟨gb113, 0, none⟩ = some (.slice none 0 0) := (zL BK113.out 0).trans rfl; have hfz81_0 := zO BK113.out 0) | ((with_reducible refine zQ (f := 18) rfl ?_); refine qN (some 26) rfl rfl Try.func18 (by kernel_rfl) rfl #[.slice A1 l1.length c1] rfl (by (try simp only [List.map_toArray, List.map_cons, List.map_nil]); first | done | rfl | (simp only [List.length_drop, List.length_take]; rfl)) ?_; (with_reducible refine (zh.calls k _ _ l1 t114 _ ?side1 ?side2 A14.out).mono ?_); (case side1 => exact Kd.zt HR1.out (by repeat (first | (with_reducible first | exact HB.out | apply zC | apply zA | apply zD | refine zF ?_ GE101.out | refine zF ?_ GE113.out) | exact HB.out))); (case side2 => exact HC1.out); rintro e w82 ⟨v115, rfl, ho0, hb⟩; refine ⟨_, rfl, ?_⟩; have n0_ := zB.mk (Kd.qZ (by (with_reducible repeat (first | apply Kd.zf | apply Kd.zg | apply Kd.zv)); exact (Kd.ZS (Kd.JA (p := ⟨gb113, 0, none⟩) (Kd.QI HO105.out BK113.out (by decide)) (fun _ hk => hk.2) (.slice Ao79 t110.length co79)) (fun _ h_ => h_.1))) hb); have n1_ := zB.mk (Kd.Zm (by (with_reducible repeat (first | apply Kd.ze | apply Kd.zd | apply Kd.zp)); exact (Kd.qe (Kd.JV (p := ⟨gb113, 0, none⟩) (Kd.Qi HO108.out BK113.out (by decide)) (fun _ hk => hk.2) (.slice Ao79 t110.length co79)) (fun _ h_ => h_.1))) (Kd.QE ho0) hb); have n2_ := zB.mk (Kd.qZ (by (with_reducible repeat (first | apply Kd.zf | apply Kd.zg | apply Kd.zv)); exact (Kd.ZS (Kd.JA (p := ⟨gb113, 0, none⟩) (Kd.QI HO112.out BK113.out (by decide)) (fun _ hk => hk.2) (.slice Ao79 t110.length co79)) (fun _ h_ => h_.1))) hb); have n3_ := zB.mk (Kd.ZL (Kd.Qa ho0 (Kd.Jg (by (with_reducible repeat (first | apply Kd.ze | apply Kd.zd | apply Kd.zp)); exact (Kd.qe (Kd.JV (p := ⟨gb113, 0, none⟩) (Kd.Qi HO108.out BK113.out (by decide)) (fun _ hk => hk.2) (.slice Ao79 t110.length co79)) (fun _ h_ => h_.1))))) (zN (by repeat (first | (with_reducible first | exact HB.out | apply zC | apply zA | apply zD | refine zF ?_ GE101.out | refine zF ?_ GE113.out) | exact HB.out)))); have n4_ := zB.mk (zP (g := gb101) (o := .cells #[.slice A0_0 l0_0.length c0_0] 24 (0, 0)) (by (with_reducible repeat (first | refine zH ?_ _ | refine zJ ?_ | refine zG ?_ _)); refine qc ?_ NB101_113.out _; (with_reducible repeat (first | refine zH ?_ _ | refine zJ ?_ | refine zG ?_ _)); exact BK101.out) hb); have n5_ := zB.mk (zP (g := gb113) (o := .cells #[.slice Ao79 t110.length co79] 30 (0, 0)) (by (with_reducible repeat (first | refine zH ?_ _ | refine zJ ?_ | refine zG ?_ _)); refine qi (cs := #[.slice none 0 0]) ?_ 0 _ rfl; (with_reducible repeat (first | refine zH ?_ _ | refine zJ ?_ | refine zG ?_ _)); exact BK113.out) hb); have n6_ := zB.mk (zM (by repeat (first | (with_reducible first | exact HB.out | apply zC | apply zA | apply zD | refine zF ?_ GE101.out | refine zF ?_ GE113.out) | exact HB.out)) hb); clear HO105; clear HO108; clear HO112; clear BK101; clear BK113; clear HB; have HO105 := n0_; have HO108 := n1_; have HO112 := n2_; have HO116 := n3_; have BK101 := n4_; have BK113 := n5_; have HB := n6_; clear n0_ n1_ n2_ n3_ n4_ n5_ n6_; (try clear hb); (try clear hb2); (try clear hk); (try clear hi); (try clear ho0); have hcz83_0 : w82.cell? ⟨gb113, 0, none⟩ = some (.slice Ao79 t110.length co79) := (zL BK113.out 0).trans rfl; have hfz83_0 := zO BK113.out 0; obtain ⟨Ao84, co84, eo84⟩ := Kd.ZX HO116.out; subst eo84) | ((with_reducible refine zQ (f := 29) rfl ?_); refine qN (some 29) rfl rfl Try.func29 (by kernel_rfl) rfl #[.agg #[.slice Ao79 t110.length co79], .slice Ao84 t114.length co84] rfl (by (try simp only [List.map_toArray, List.map_cons, List.map_nil]); first | done | rfl | (simp only [List.length_drop, List.length_take]; rfl)) ?_; (with_reducible refine (qg.calls k _ _ t110 _ _ t114 t117 _ ?side1 ?side2 ?side3 ?side4 A15.out).mono ?_); (case side1 => repeat (first | exact (Kd.qo HO112.out).2.2 | (with_reducible refine Kd.zb ?_ _) | (with_reducible refine Kd.zc ?_ _) | (with_reducible refine Kd.zx ?_))); (case side2 => exact (Kd.qo HO112.out).2.1); (case side3 => repeat (first | exact (Kd.qC HO116.out).2.2 | (with_reducible refine Kd.zb ?_ _) | (with_reducible refine Kd.zc ?_ _) | (with_reducible refine Kd.zx ?_))); (case side4 => exact (Kd.qC HO116.out).2.1); rintro e w85 ⟨rfl, hb⟩; refine ⟨_, rfl, ?_⟩; have n0_ := zB.mk (Kd.qZ (by (with_reducible repeat (first | apply Kd.zf | apply Kd.zg | apply Kd.zv)); exact HO105.out) hb); have n1_ := zB.mk (Kd.qm (by (with_reducible repeat (first | apply Kd.ze | apply Kd.zd | apply Kd.zp)); exact HO108.out) hb); have n2_ := zB.mk (Kd.qZ (by (with_reducible repeat (first | apply Kd.zf | apply Kd.zg | apply Kd.zv)); exact HO112.out) hb); have n3_ := zB.mk (Kd.qm (by (with_reducible repeat (first | apply Kd.ze | apply Kd.zd | apply Kd.zp)); exact HO116.out) hb); have n4_ := zB.mk (zP (g := gb101) (o := .cells #[.slice A0_0 l0_0.length c0_0] 24 (0, 0)) (by (with_reducible repeat (first | refine zH ?_ _ | refine zJ ?_ | refine zG ?_ _)); exact BK101.out) hb); have n5_ := zB.mk (zP (g := gb113) (o := .cells #[.slice Ao79 t110.length co79] 30 (0, 0)) (by (with_reducible repeat (first | refine zH ?_ _ | refine zJ ?_ | refine zG ?_ _)); exact BK113.out) hb); have n6_ := zB.mk (zM (by repeat (first | (with_reducible first | exact HB.out | apply zC | apply zA | apply zD | refine zF ?_ GE101.out | refine zF ?_ GE113.out) | exact HB.out)) hb); clear HO105; clear HO108; clear HO112; clear HO116; clear BK101; clear BK113; clear HB; have HO105 := n0_; have HO108 := n1_; have HO112 := n2_; have HO116 := n3_; have BK101 := n4_; have BK113 := n5_; have HB := n6_; clear n0_ n1_ n2_ n3_ n4_ n5_ n6_; (try clear hb); (try clear hb2); (try clear hk); (try clear hi)))
      have n0_ := zB.mk (Kd.zv HO105.out)
      have n1_ := zB.mk (Kd.zp HO108.out)
      have n2_ := zB.mk (Kd.zv HO112.out)
      have n3_ := zB.mk (Kd.zp HO116.out)
      have n4_ := zB.mk (zJ BK101.out)
      have n5_ := zB.mk (zJ BK113.out)
      have n6_ := zB.mk (zD HB.out)
      clear HO105
      clear HO108
      clear HO112
      clear HO116
      clear BK101
      clear BK113
      clear HB
      have HO105 := n0_
      have HO108 := n1_
      have HO112 := n2_
      have HO116 := n3_
      have BK101 := n4_
      have BK113 := n5_
      have HB := n6_
      clear n0_ n1_ n2_ n3_ n4_ n5_ n6_
      refine Zt (n := 5) (S := fun w' => w'.cell? ⟨gb113, 0, none⟩ = some (.slice Ao79 t110.length co79) ∧ w'.cell? ⟨gb101, 0, none⟩ = some (.slice A0_0 l0_0.length c0_0)) (ds := []) #[false, false, false, false, false] (by kernel_rfl) rfl rfl ⟨(zL BK113.out 0).trans rfl, (zL BK101.out 0).trans rfl⟩ (fun hHeld => ?_)
      generalize w85.drew = w86 at HO105 HO108 HO112 HO116 BK101 BK113 HB hHeld ⊢
      refine qy (i := 0) (N := some 33) (v := ?_) (a' := ?_) #[true, false, false, false, false] rfl rfl (by kernel_rfl) (fun _ _ _ h => h) (Or.inl ⟨by rfl, ?_⟩) hHeld ?_ ?_
      rotate_left
      next =>
       rintro w' ⟨s0, s1⟩
       go_simp
       with_reducible rfl
      rotate_left
      next =>
       simp only [Act.put, List.setIfInBounds_toArray, List.set_cons_zero, List.set_cons_succ, zV, zX]
       rfl
      refine qy (i := 1) (N := some 34) (v := ?_) (a' := ?_) #[true, true, false, false, false] rfl rfl (by kernel_rfl) (fun _ _ _ h => h) (Or.inl ⟨by rfl, ?_⟩) hHeld ?_ ?_
      rotate_left
      next =>
       rintro w' ⟨s0, s1⟩
       go_simp
       with_reducible rfl
      rotate_left
      next =>
       simp only [Act.put, List.setIfInBounds_toArray, List.set_cons_zero, List.set_cons_succ, zV, zX]
       rfl
      refine Ju (i := 2) (N := some 35) #[true, true, true, false, false] rfl rfl (by kernel_rfl) (by decide) (fun K hK => ?_)
      refine Qg Try.func17 (by kernel_rfl) rfl #[.agg #[.slice A0_0 l0_0.length c0_0]] (by rfl) rfl rfl (by (try simp only [List.map_toArray, List.map_cons, List.map_nil]); first | done | rfl | (simp only [List.length_drop, List.length_take]; rfl)) ?_
      with_reducible refine (zZ.calls k _ _ l0_0 t118 _ ?side1 ?side2 A36.out).mono ?_
      (case side1 => repeat (first | exact (Kd.zt HR0_0.out HB.out) | (with_reducible refine Kd.zb ?_ _) | (with_reducible refine Kd.zc ?_ _) | (with_reducible refine Kd.zx ?_)))
      (case side2 => exact HC0_0.out)
      rintro e w87 ⟨v119, rfl, ho0, hb⟩
      refine ⟨_, rfl, ?_⟩
      have n0_ := zB.mk (Kd.Zi (by (with_reducible repeat (first | apply Kd.zf | apply Kd.zg | apply Kd.zv)); exact HO105.out) (Kd.JG ho0) hb)
      have n1_ := zB.mk (Kd.qm (by (with_reducible repeat (first | apply Kd.ze | apply Kd.zd | apply Kd.zp)); exact HO108.out) hb)
      have n2_ := zB.mk (Kd.Zi (by (with_reducible repeat (first | apply Kd.zf | apply Kd.zg | apply Kd.zv)); exact HO112.out) (Kd.JG ho0) hb)
      have n3_ := zB.mk (Kd.qm (by (with_reducible repeat (first | apply Kd.ze | apply Kd.zd | apply Kd.zp)); exact HO116.out) hb)
      have n4_ := zB.mk (Kd.Zv (Kd.JH (Kd.JH ho0 (Kd.zDS (by (with_reducible repeat (first | apply Kd.zf | apply Kd.zg | apply Kd.zv)); exact HO105.out))) (Kd.zDS (by (with_reducible repeat (first | apply Kd.zf | apply Kd.zg | apply Kd.zv)); exact HO112.out))) (zN (by repeat (first | (with_reducible first | exact HB.out | apply zC | apply zA | apply zD | refine zF ?_ GE101.out | refine zF ?_ GE113.out) | exact HB.out))))
      have n5_ := zB.mk (zP (g := gb101) (o := .cells #[.slice A0_0 l0_0.length c0_0] 24 (0, 0)) (by (with_reducible repeat (first | refine zH ?_ _ | refine zJ ?_ | refine zG ?_ _)); exact BK101.out) hb)
      have n6_ := zB.mk (zP (g := gb113) (o := .cells #[.slice Ao79 t110.length co79] 30 (0, 0)) (by (with_reducible repeat (first | refine zH ?_ _ | refine zJ ?_ | refine zG ?_ _)); exact BK113.out) hb)
      have n7_ := zB.mk (zM (by repeat (first | (with_reducible first | exact HB.out | apply zC | apply zA | apply zD | refine zF ?_ GE101.out | refine zF ?_ GE113.out) | exact HB.out)) hb)
      clear HO105
      clear HO108
      clear HO112
      clear HO116
      clear BK101
      clear BK113
      clear HB
      have HO105 := n0_
      have HO108 := n1_
      have HO112 := n2_
      have HO116 := n3_
      have HO120 := n4_
      have BK101 := n5_
      have BK113 := n6_
      have HB := n7_
      clear n0_ n1_ n2_ n3_ n4_ n5_ n6_ n7_
      (try clear hb)
      (try clear hb2)
      (try clear hk)
      (try clear hi)
      (try clear ho0)
      obtain ⟨Ao88, co88, eo88⟩ := Kd.Zw HO120.out
      (first | subst eo88 | (injection eo88 with f1_ f2_ f3_; have f4_ := f1_.symm; have f5_ := f3_.symm; clear f1_ f2_ f3_; subst f4_; subst f5_))
      refine hK.out _ _ ⟨(zL BK113.out 0).trans rfl, (zL BK101.out 0).trans rfl⟩ (fun hHeld => ?_)
      clear hK K
      refine QH (a' := ?_) ?_ ?_
      rotate_left
      next =>
       show Act.put _ (some 35) _ = _
       simp only [Act.put, List.setIfInBounds_toArray, List.set_cons_zero, List.set_cons_succ, zV, zX]
       rfl
      refine Ju (i := 3) (N := some 36) #[true, true, true, true, false] rfl rfl (by kernel_rfl) (by decide) (fun K hK => ?_)
      refine Qg Try.func20 (by kernel_rfl) rfl #[.agg #[.slice Ao79 t110.length co79], .agg #[.slice Ao88 t118.length co88]] (by rfl) rfl rfl (by (try simp only [List.map_toArray, List.map_cons, List.map_nil]); first | done | rfl | (simp only [List.length_drop, List.length_take]; rfl)) ?_
      with_reducible refine (qS.calls k _ _ t110 _ _ t118 true _ ?side1 ?side2 ?side3 ?side4 A37.out).mono ?_
      (case side1 => repeat (first | exact (Kd.qo HO112.out).2.2 | (with_reducible refine Kd.zb ?_ _) | (with_reducible refine Kd.zc ?_ _) | (with_reducible refine Kd.zx ?_)))
      (case side2 => exact (Kd.qo HO112.out).2.1)
      (case side3 => repeat (first | exact (Kd.qo HO120.out).2.2 | (with_reducible refine Kd.zb ?_ _) | (with_reducible refine Kd.zc ?_ _) | (with_reducible refine Kd.zx ?_)))
      (case side4 => exact (Kd.qo HO120.out).2.1)
      rintro e w89 ⟨rfl, hb⟩
      refine ⟨_, rfl, ?_⟩
      have n0_ := zB.mk (Kd.qZ (by (with_reducible repeat (first | apply Kd.zf | apply Kd.zg | apply Kd.zv)); exact HO105.out) hb)
      have n1_ := zB.mk (Kd.qm (by (with_reducible repeat (first | apply Kd.ze | apply Kd.zd | apply Kd.zp)); exact HO108.out) hb)
      have n2_ := zB.mk (Kd.qZ (by (with_reducible repeat (first | apply Kd.zf | apply Kd.zg | apply Kd.zv)); exact HO112.out) hb)
      have n3_ := zB.mk (Kd.qm (by (with_reducible repeat (first | apply Kd.ze | apply Kd.zd | apply Kd.zp)); exact HO116.out) hb)
      have n4_ := zB.mk (Kd.qZ (by (with_reducible repeat (first | apply Kd.zf | apply Kd.zg | apply Kd.zv)); exact HO120.out) hb)
      have n5_ := zB.mk (zP (g := gb101) (o := .cells #[.slice A0_0 l0_0.length c0_0] 24 (0, 0)) (by (with_reducible repeat (first | refine zH ?_ _ | refine zJ ?_ | refine zG ?_ _)); exact BK101.out) hb)
      have n6_ := zB.mk (zP (g := gb113) (o := .cells #[.slice Ao79 t110.length co79] 30 (0, 0)) (by (with_reducible repeat (first | refine zH ?_ _ | refine zJ ?_ | refine zG ?_ _)); exact BK113.out) hb)
      have n7_ := zB.mk (zM (by repeat (first | (with_reducible first | exact HB.out | apply zC | apply zA | apply zD | refine zF ?_ GE101.out | refine zF ?_ GE113.out) | exact HB.out)) hb)
      clear HO105
      clear HO108
      clear HO112
      clear HO116
      clear HO120
      clear BK101
      clear BK113
      clear HB
      have HO105 := n0_
      have HO108 := n1_
      have HO112 := n2_
      have HO116 := n3_
      have HO120 := n4_
      have BK101 := n5_
      have BK113 := n6_
      have HB := n7_
      clear n0_ n1_ n2_ n3_ n4_ n5_ n6_ n7_
      (try clear hb)
      (try clear hb2)
      (try clear hk)
      (try clear hi)
      refine hK.out _ _ ⟨(zL BK113.out 0).trans rfl, (zL BK101.out 0).trans rfl⟩ (fun hHeld => ?_)
      clear hK K
      refine QH (a' := ?_) ?_ ?_
      rotate_left
      next =>
       show Act.put _ (some 36) _ = _
       simp only [Act.put, List.setIfInBounds_toArray, List.set_cons_zero, List.set_cons_succ, zV, zX]
       rfl
      refine zk (i := 4) (N := some 37) (v := ?_) (a' := ?_) #[true, true, true, true, true] rfl rfl (by kernel_rfl) (fun _ _ _ h => h) (Or.inl ⟨by rfl, ?_⟩) ?_ ?_
      rotate_left
      next =>
       intro w'
       go_simp
       with_reducible rfl
      rotate_left
      next =>
       simp only [Act.put, List.setIfInBounds_toArray, List.set_cons_zero, List.set_cons_succ, zV, zX]
       rfl
      refine QX (by kernel_rfl) ?_
      try go_wp2_with (first | ((with_reducible refine zQ (f := 18) rfl ?_); refine qN (some 40) rfl rfl Try.func18 (by kernel_rfl) rfl #[.slice A1 l1.length c1] rfl (by (try simp only [List.map_toArray, List.map_cons, List.map_nil]); first | done | rfl | (simp only [List.length_drop, List.length_take]; rfl)) ?_; (with_reducible refine (zh.calls k _ _ l1 t122 _ ?side1 ?side2 A39.out).mono ?_); (case side1 => repeat (first | exact (Kd.zt HR1.out HB.out) | (with_reducible refine Kd.zb ?_ _) | (with_reducible refine Kd.zc ?_ _) | (with_reducible refine Kd.zx ?_))); (case side2 => exact HC1.out); rintro e w90 ⟨v123, rfl, ho0, hb⟩; refine ⟨_, rfl, ?_⟩; have n0_ := zB.mk (Kd.qZ (by (with_reducible repeat (first | apply Kd.zf | apply Kd.zg | apply Kd.zv)); exact HO105.out) hb); have n1_ := zB.mk (Kd.Zm (by (with_reducible repeat (first | apply Kd.ze | apply Kd.zd | apply Kd.zp)); exact HO108.out) (Kd.QE ho0) hb); have n2_ := zB.mk (Kd.qZ (by (with_reducible repeat (first | apply Kd.zf | apply Kd.zg | apply Kd.zv)); exact HO112.out) hb); have n3_ := zB.mk (Kd.Zm (by (with_reducible repeat (first | apply Kd.ze | apply Kd.zd | apply Kd.zp)); exact HO116.out) (Kd.QE ho0) hb); have n4_ := zB.mk (Kd.qZ (by (with_reducible repeat (first | apply Kd.zf | apply Kd.zg | apply Kd.zv)); exact HO120.out) hb); have n5_ := zB.mk (Kd.ZL (Kd.Qa (Kd.Qa ho0 (Kd.Jg (by (with_reducible repeat (first | apply Kd.ze | apply Kd.zd | apply Kd.zp)); exact HO108.out))) (Kd.Jg (by (with_reducible repeat (first | apply Kd.ze | apply Kd.zd | apply Kd.zp)); exact HO116.out))) (zN (by repeat (first | (with_reducible first | exact HB.out | apply zC | apply zA | apply zD | refine zF ?_ GE101.out | refine zF ?_ GE113.out) | exact HB.out)))); have n6_ := zB.mk (zP (g := gb101) (o := .cells #[.slice A0_0 l0_0.length c0_0] 24 (0, 0)) (by (with_reducible repeat (first | refine zH ?_ _ | refine zJ ?_ | refine zG ?_ _)); exact BK101.out) hb); have n7_ := zB.mk (zP (g := gb113) (o := .cells #[.slice Ao79 t110.length co79] 30 (0, 0)) (by (with_reducible repeat (first | refine zH ?_ _ | refine zJ ?_ | refine zG ?_ _)); exact BK113.out) hb); have n8_ := zB.mk (zM (by repeat (first | (with_reducible first | exact HB.out | apply zC | apply zA | apply zD | refine zF ?_ GE101.out | refine zF ?_ GE113.out) | exact HB.out)) hb); clear HO105; clear HO108; clear HO112; clear HO116; clear HO120; clear BK101; clear BK113; clear HB; have HO105 := n0_; have HO108 := n1_; have HO112 := n2_; have HO116 := n3_; have HO120 := n4_; have HO124 := n5_; have BK101 := n6_; have BK113 := n7_; have HB := n8_; clear n0_ n1_ n2_ n3_ n4_ n5_ n6_ n7_ n8_; (try clear hb); (try clear hb2); (try clear hk); (try clear hi); (try clear ho0); obtain ⟨Ao91, co91, eo91⟩ := Kd.ZX HO124.out; subst eo91) | ((with_reducible refine zQ (f := 21) rfl ?_); refine qN (some 41) rfl rfl Try.func21 (by kernel_rfl) rfl #[.slice Ao84 t114.length co84, .slice Ao91 t122.length co91] rfl (by (try simp only [List.map_toArray, List.map_cons, List.map_nil]); first | done | rfl | (simp only [List.length_drop, List.length_take]; rfl)) ?_; (with_reducible refine (qM.calls k _ _ t114 _ _ t122 false _ ?side1 ?side2 ?side3 ?side4 A40.out).mono ?_); (case side1 => repeat (first | exact (Kd.qC HO116.out).2.2 | (with_reducible refine Kd.zb ?_ _) | (with_reducible refine Kd.zc ?_ _) | (with_reducible refine Kd.zx ?_))); (case side2 => exact (Kd.qC HO116.out).2.1); (case side3 => repeat (first | exact (Kd.qC HO124.out).2.2 | (with_reducible refine Kd.zb ?_ _) | (with_reducible refine Kd.zc ?_ _) | (with_reducible refine Kd.zx ?_))); (case side4 => exact (Kd.qC HO124.out).2.1); rintro e w' ⟨rfl, ⟨nd, rfl⟩⟩; refine ⟨_, rfl, ?_⟩))
      go_ret
      exact ⟨by first | rfl | (simp [zR, zS] <;> rfl) | (simp [*, zR, zS] <;> rfl), by repeat (first | (with_reducible first | exact HB.out | apply zC | apply zA | apply zD | refine zF ?_ GE101.out | refine zF ?_ GE113.out) | exact HB.out)⟩
    next =>
     replace c38 := Bool.eq_false_iff.mpr c38
     subst c38
     have H1 : (some false) = some r := by rw [if_neg (show ¬ (false = true) by decide)] at H; exact H
     clear H
     have H := H1
     clear H1
     obtain rfl := Option.some.inj H
     go_enter Try.func5, Try.ntmps5
     try go_wp2_with (first | ((with_reducible refine zw (N := 2) rfl ?_); refine zr ?hg (N := 2) ?hd (cs := #[.slice A0_0 l0_0.length c0_0]) (t := 24) ?hr ?_; (case hd => rfl); (case hg => rfl); (case hr => first | (go_simp; done) | (go_simp; rfl)); intro gb101 hg w92 hbox hb; have n0_ := zB.mk (zM (by repeat (first | (with_reducible first | exact HB.out | apply zC | apply zA | apply zD) | exact HB.out)) hb); have n1_ := zB.mk (hbox); have n2_ := zB.mk ((by rw [hg]; exact (zN (by repeat (first | (with_reducible first | exact HB.out | apply zC | apply zA | apply zD) | exact HB.out))) : w.heap.size ≤ gb101)); have n3_ := zB.mk ((by rw [hg]; exact (zN (by repeat (first | (with_reducible first | exact HB.out | apply zC | apply zA | apply zD) | exact HB.out))) : w.heap.size ≤ gb101)); clear HB; have HB := n0_; have BK101 := n1_; have GW101 := n2_; have GE101 := n3_; clear n0_ n1_ n2_ n3_; clear hb hbox hg; have hcz93_0 : w92.cell? ⟨gb101, 0, none⟩ = some (.slice A0_0 l0_0.length c0_0) := (zL BK101.out 0).trans rfl; have hfz93_0 := zO BK101.out 0) | ((with_reducible refine zQ (f := 15) rfl ?_); refine qN (some 15) rfl rfl Try.func15 (by kernel_rfl) rfl #[.agg #[.slice A0_0 l0_0.length c0_0], .int .i64 1048576] rfl (by (try simp only [List.map_toArray, List.map_cons, List.map_nil]); first | done | rfl | (simp only [List.length_drop, List.length_take]; rfl)) ?_; (with_reducible refine (qu.calls k _ _ l0_0 1048576 t102 _ ?side1 ?side2 A5.out).mono ?_); (case side1 => repeat (first | exact (Kd.zt HR0_0.out HB.out) | (with_reducible refine Kd.zb ?_ _) | (with_reducible refine Kd.zc ?_ _) | (with_reducible refine Kd.zx ?_))); (case side2 => exact HC0_0.out); rintro e w94 ⟨rfl, hb⟩; refine ⟨_, rfl, ?_⟩; have n0_ := zB.mk (zP (g := gb101) (o := .cells #[.slice A0_0 l0_0.length c0_0] 24 (0, 0)) (by (with_reducible repeat (first | refine zH ?_ _ | refine zJ ?_ | refine zG ?_ _)); exact BK101.out) hb); have n1_ := zB.mk (zM (by repeat (first | (with_reducible first | exact HB.out | apply zC | apply zA | apply zD | refine zF ?_ GE101.out) | exact HB.out)) hb); clear BK101; clear HB; have BK101 := n0_; have HB := n1_; clear n0_ n1_; (try clear hb); (try clear hb2); (try clear hk); (try clear hi); have hcz95_0 : w94.cell? ⟨gb101, 0, none⟩ = some (.slice A0_0 l0_0.length c0_0) := (zL BK101.out 0).trans rfl; have hfz95_0 := zO BK101.out 0) | ((with_reducible refine zQ (f := 17) rfl ?_); refine qN (some 19) rfl rfl Try.func17 (by kernel_rfl) rfl #[.agg #[.slice A0_0 l0_0.length c0_0]] rfl (by (try simp only [List.map_toArray, List.map_cons, List.map_nil]); first | done | rfl | (simp only [List.length_drop, List.length_take]; rfl)) ?_; (with_reducible refine (zZ.calls k _ _ l0_0 t103 _ ?side1 ?side2 A10.out).mono ?_); (case side1 => repeat (first | exact (Kd.zt HR0_0.out HB.out) | (with_reducible refine Kd.zb ?_ _) | (with_reducible refine Kd.zc ?_ _) | (with_reducible refine Kd.zx ?_))); (case side2 => exact HC0_0.out); rintro e w96 ⟨v104, rfl, ho0, hb⟩; refine ⟨_, rfl, ?_⟩; have n0_ := zB.mk (Kd.Zv ho0 (zN (by repeat (first | (with_reducible first | exact HB.out | apply zC | apply zA | apply zD | refine zF ?_ GE101.out) | exact HB.out)))); have n1_ := zB.mk (zP (g := gb101) (o := .cells #[.slice A0_0 l0_0.length c0_0] 24 (0, 0)) (by (with_reducible repeat (first | refine zH ?_ _ | refine zJ ?_ | refine zG ?_ _)); exact BK101.out) hb); have n2_ := zB.mk (zM (by repeat (first | (with_reducible first | exact HB.out | apply zC | apply zA | apply zD | refine zF ?_ GE101.out) | exact HB.out)) hb); clear BK101; clear HB; have HO105 := n0_; have BK101 := n1_; have HB := n2_; clear n0_ n1_ n2_; (try clear hb); (try clear hb2); (try clear hk); (try clear hi); (try clear ho0)) | ((with_reducible refine zQ (f := 18) rfl ?_); refine qN (some 21) rfl rfl Try.func18 (by kernel_rfl) rfl #[.slice A1 l1.length c1] rfl (by (try simp only [List.map_toArray, List.map_cons, List.map_nil]); first | done | rfl | (simp only [List.length_drop, List.length_take]; rfl)) ?_; (with_reducible refine (zh.calls k _ _ l1 t106 _ ?side1 ?side2 A11.out).mono ?_); (case side1 => repeat (first | exact (Kd.zt HR1.out HB.out) | (with_reducible refine Kd.zb ?_ _) | (with_reducible refine Kd.zc ?_ _) | (with_reducible refine Kd.zx ?_))); (case side2 => exact HC1.out); rintro e w97 ⟨v107, rfl, ho0, hb⟩; refine ⟨_, rfl, ?_⟩; have n0_ := zB.mk (Kd.qZ (by (with_reducible repeat (first | apply Kd.zf | apply Kd.zg | apply Kd.zv)); exact HO105.out) hb); have n1_ := zB.mk (Kd.ZL ho0 (zN (by repeat (first | (with_reducible first | exact HB.out | apply zC | apply zA | apply zD | refine zF ?_ GE101.out) | exact HB.out)))); have n2_ := zB.mk (zP (g := gb101) (o := .cells #[.slice A0_0 l0_0.length c0_0] 24 (0, 0)) (by (with_reducible repeat (first | refine zH ?_ _ | refine zJ ?_ | refine zG ?_ _)); exact BK101.out) hb); have n3_ := zB.mk (zM (by repeat (first | (with_reducible first | exact HB.out | apply zC | apply zA | apply zD | refine zF ?_ GE101.out) | exact HB.out)) hb); clear HO105; clear BK101; clear HB; have HO105 := n0_; have HO108 := n1_; have BK101 := n2_; have HB := n3_; clear n0_ n1_ n2_ n3_; (try clear hb); (try clear hb2); (try clear hk); (try clear hi); (try clear ho0); obtain ⟨Ao98, co98, eo98⟩ := Kd.Zw HO105.out; subst eo98; obtain ⟨Ao99, co99, eo99⟩ := Kd.ZX HO108.out; subst eo99) | ((with_reducible refine zQ (f := 28) rfl ?_); refine qN (some 22) rfl rfl Try.func28 (by kernel_rfl) rfl #[.agg #[.slice Ao98 t103.length co98], .slice Ao99 t106.length co99] rfl (by (try simp only [List.map_toArray, List.map_cons, List.map_nil]); first | done | rfl | (simp only [List.length_drop, List.length_take]; rfl)) ?_; (with_reducible refine (qw.calls k _ _ t103 _ _ t106 t109 _ ?side1 ?side2 ?side3 ?side4 A12.out).mono ?_); (case side1 => repeat (first | exact (Kd.qo HO105.out).2.2 | (with_reducible refine Kd.zb ?_ _) | (with_reducible refine Kd.zc ?_ _) | (with_reducible refine Kd.zx ?_))); (case side2 => exact (Kd.qo HO105.out).2.1); (case side3 => repeat (first | exact (Kd.qC HO108.out).2.2 | (with_reducible refine Kd.zb ?_ _) | (with_reducible refine Kd.zc ?_ _) | (with_reducible refine Kd.zx ?_))); (case side4 => exact (Kd.qC HO108.out).2.1); rintro e w100 ⟨rfl, hb⟩; refine ⟨_, rfl, ?_⟩; have n0_ := zB.mk (Kd.qZ (by (with_reducible repeat (first | apply Kd.zf | apply Kd.zg | apply Kd.zv)); exact HO105.out) hb); have n1_ := zB.mk (Kd.qm (by (with_reducible repeat (first | apply Kd.ze | apply Kd.zd | apply Kd.zp)); exact HO108.out) hb); have n2_ := zB.mk (zP (g := gb101) (o := .cells #[.slice A0_0 l0_0.length c0_0] 24 (0, 0)) (by (with_reducible repeat (first | refine zH ?_ _ | refine zJ ?_ | refine zG ?_ _)); exact BK101.out) hb); have n3_ := zB.mk (zM (by repeat (first | (with_reducible first | exact HB.out | apply zC | apply zA | apply zD | refine zF ?_ GE101.out) | exact HB.out)) hb); clear HO105; clear HO108; clear BK101; clear HB; have HO105 := n0_; have HO108 := n1_; have BK101 := n2_; have HB := n3_; clear n0_ n1_ n2_ n3_; (try clear hb); (try clear hb2); (try clear hk); (try clear hi); have hcz101_0 : w100.cell? ⟨gb101, 0, none⟩ = some (.slice A0_0 l0_0.length c0_0) := (zL BK101.out 0).trans rfl; have hfz101_0 := zO BK101.out 0) | ((with_reducible refine zQ (f := 17) rfl ?_); refine qN (some 24) rfl rfl Try.func17 (by kernel_rfl) rfl #[.agg #[.slice A0_0 l0_0.length c0_0]] rfl (by (try simp only [List.map_toArray, List.map_cons, List.map_nil]); first | done | rfl | (simp only [List.length_drop, List.length_take]; rfl)) ?_; (with_reducible refine (zZ.calls k _ _ l0_0 t110 _ ?side1 ?side2 A13.out).mono ?_); (case side1 => repeat (first | exact (Kd.zt HR0_0.out HB.out) | (with_reducible refine Kd.zb ?_ _) | (with_reducible refine Kd.zc ?_ _) | (with_reducible refine Kd.zx ?_))); (case side2 => exact HC0_0.out); rintro e w102 ⟨v111, rfl, ho0, hb⟩; refine ⟨_, rfl, ?_⟩; have n0_ := zB.mk (Kd.Zi (by (with_reducible repeat (first | apply Kd.zf | apply Kd.zg | apply Kd.zv)); exact HO105.out) (Kd.JG ho0) hb); have n1_ := zB.mk (Kd.qm (by (with_reducible repeat (first | apply Kd.ze | apply Kd.zd | apply Kd.zp)); exact HO108.out) hb); have n2_ := zB.mk (Kd.Zv (Kd.JH ho0 (Kd.zDS (by (with_reducible repeat (first | apply Kd.zf | apply Kd.zg | apply Kd.zv)); exact HO105.out))) (zN (by repeat (first | (with_reducible first | exact HB.out | apply zC | apply zA | apply zD | refine zF ?_ GE101.out) | exact HB.out)))); have n3_ := zB.mk (zP (g := gb101) (o := .cells #[.slice A0_0 l0_0.length c0_0] 24 (0, 0)) (by (with_reducible repeat (first | refine zH ?_ _ | refine zJ ?_ | refine zG ?_ _)); exact BK101.out) hb); have n4_ := zB.mk (zM (by repeat (first | (with_reducible first | exact HB.out | apply zC | apply zA | apply zD | refine zF ?_ GE101.out) | exact HB.out)) hb); clear HO105; clear HO108; clear BK101; clear HB; have HO105 := n0_; have HO108 := n1_; have HO112 := n2_; have BK101 := n3_; have HB := n4_; clear n0_ n1_ n2_ n3_ n4_; (try clear hb); (try clear hb2); (try clear hk); (try clear hi); (try clear ho0)) | ((with_reducible refine zw (N := 7) rfl ?_); refine zr ?hg (N := 7) ?hd (cs := #[.slice none 0 0]) (t := 30) ?hr ?_; (case hd => rfl); (case hg => rfl); (case hr => first | (go_simp; done) | (go_simp; rfl)); intro gb113 hg w103 hbox hb; have n0_ := zB.mk (Kd.qZ (by (with_reducible repeat (first | apply Kd.zf | apply Kd.zg | apply Kd.zv)); exact HO105.out) hb); have n1_ := zB.mk (Kd.qm (by (with_reducible repeat (first | apply Kd.ze | apply Kd.zd | apply Kd.zp)); exact HO108.out) hb); have n2_ := zB.mk (Kd.qZ (by (with_reducible repeat (first | apply Kd.zf | apply Kd.zg | apply Kd.zv)); exact HO112.out) hb); have n3_ := zB.mk (zP (g := gb101) (o := .cells #[.slice A0_0 l0_0.length c0_0] 24 (0, 0)) (by (with_reducible repeat (first | refine zH ?_ _ | refine zJ ?_ | refine zG ?_ _)); exact BK101.out) hb); have n4_ := zB.mk (zM (by repeat (first | (with_reducible first | exact HB.out | apply zC | apply zA | apply zD | refine zF ?_ GE101.out) | exact HB.out)) hb); have n5_ := zB.mk (hbox); have n6_ := zB.mk ((by rw [hg]; exact (zN (by repeat (first | (with_reducible first | exact HB.out | apply zC | apply zA | apply zD | refine zF ?_ GE101.out) | exact HB.out))) : w.heap.size ≤ gb113)); have n7_ := zB.mk ((by rw [hg]; exact (zN (by repeat (first | (with_reducible first | exact HB.out | apply zC | apply zA | apply zD | refine zF ?_ GE101.out) | exact HB.out))) : w.heap.size ≤ gb113)); have n8_ := zB.mk ((by rw [hg]; exact Nat.ne_of_lt (ql (g := gb101) (o := .cells #[.slice A0_0 l0_0.length c0_0] 24 (0, 0)) (by (with_reducible repeat (first | refine zH ?_ _ | refine zJ ?_ | refine zG ?_ _)); exact BK101.out)) : gb101 ≠ gb113)); have n9_ := zB.mk ((by rw [hg]; exact Nat.ne_of_gt (ql (g := gb101) (o := .cells #[.slice A0_0 l0_0.length c0_0] 24 (0, 0)) (by (with_reducible repeat (first | refine zH ?_ _ | refine zJ ?_ | refine zG ?_ _)); exact BK101.out)) : gb113 ≠ gb101)); clear HO105; clear HO108; clear HO112; clear BK101; clear HB; have HO105 := n0_; have HO108 := n1_; have HO112 := n2_; have BK101 := n3_; have HB := n4_; have BK113 := n5_; have GW113 := n6_; have GE113 := n7_; have NB101_113 := n8_; have NB113_101 := n9_; clear n0_ n1_ n2_ n3_ n4_ n5_ n6_ n7_ n8_ n9_; clear hb hbox hg; obtain ⟨Ao104, co104, eo104⟩ := Kd.Zw HO112.out; subst eo104; have hnb105 := NB113_101.out; have hnc105 := NB101_113.out; have hcz106_0 : w103.cell? ⟨gb113, 0, none⟩ = some (.slice none 0 0) := (zL BK113.out 0).trans rfl; have hfz106_0 := zO BK113.out 0) | ((with_reducible refine zQ (f := 18) rfl ?_); refine qN (some 26) rfl rfl Try.func18 (by kernel_rfl) rfl #[.slice A1 l1.length c1] rfl (by (try simp only [List.map_toArray, List.map_cons, List.map_nil]); first | done | rfl | (simp only [List.length_drop, List.length_take]; rfl)) ?_; (with_reducible refine (zh.calls k _ _ l1 t114 _ ?side1 ?side2 A14.out).mono ?_); (case side1 => exact Kd.zt HR1.out (by repeat (first | (with_reducible first | exact HB.out | apply zC | apply zA | apply zD | refine zF ?_ GE101.out | refine zF ?_ GE113.out) | exact HB.out))); (case side2 => exact HC1.out); rintro e w107 ⟨v115, rfl, ho0, hb⟩; refine ⟨_, rfl, ?_⟩; have n0_ := zB.mk (Kd.qZ (by (with_reducible repeat (first | apply Kd.zf | apply Kd.zg | apply Kd.zv)); exact (Kd.ZS (Kd.JA (p := ⟨gb113, 0, none⟩) (Kd.QI HO105.out BK113.out (by decide)) (fun _ hk => hk.2) (.slice Ao104 t110.length co104)) (fun _ h_ => h_.1))) hb); have n1_ := zB.mk (Kd.Zm (by (with_reducible repeat (first | apply Kd.ze | apply Kd.zd | apply Kd.zp)); exact (Kd.qe (Kd.JV (p := ⟨gb113, 0, none⟩) (Kd.Qi HO108.out BK113.out (by decide)) (fun _ hk => hk.2) (.slice Ao104 t110.length co104)) (fun _ h_ => h_.1))) (Kd.QE ho0) hb); have n2_ := zB.mk (Kd.qZ (by (with_reducible repeat (first | apply Kd.zf | apply Kd.zg | apply Kd.zv)); exact (Kd.ZS (Kd.JA (p := ⟨gb113, 0, none⟩) (Kd.QI HO112.out BK113.out (by decide)) (fun _ hk => hk.2) (.slice Ao104 t110.length co104)) (fun _ h_ => h_.1))) hb); have n3_ := zB.mk (Kd.ZL (Kd.Qa ho0 (Kd.Jg (by (with_reducible repeat (first | apply Kd.ze | apply Kd.zd | apply Kd.zp)); exact (Kd.qe (Kd.JV (p := ⟨gb113, 0, none⟩) (Kd.Qi HO108.out BK113.out (by decide)) (fun _ hk => hk.2) (.slice Ao104 t110.length co104)) (fun _ h_ => h_.1))))) (zN (by repeat (first | (with_reducible first | exact HB.out | apply zC | apply zA | apply zD | refine zF ?_ GE101.out | refine zF ?_ GE113.out) | exact HB.out)))); have n4_ := zB.mk (zP (g := gb101) (o := .cells #[.slice A0_0 l0_0.length c0_0] 24 (0, 0)) (by (with_reducible repeat (first | refine zH ?_ _ | refine zJ ?_ | refine zG ?_ _)); refine qc ?_ NB101_113.out _; (with_reducible repeat (first | refine zH ?_ _ | refine zJ ?_ | refine zG ?_ _)); exact BK101.out) hb); have n5_ := zB.mk (zP (g := gb113) (o := .cells #[.slice Ao104 t110.length co104] 30 (0, 0)) (by (with_reducible repeat (first | refine zH ?_ _ | refine zJ ?_ | refine zG ?_ _)); refine qi (cs := #[.slice none 0 0]) ?_ 0 _ rfl; (with_reducible repeat (first | refine zH ?_ _ | refine zJ ?_ | refine zG ?_ _)); exact BK113.out) hb); have n6_ := zB.mk (zM (by repeat (first | (with_reducible first | exact HB.out | apply zC | apply zA | apply zD | refine zF ?_ GE101.out | refine zF ?_ GE113.out) | exact HB.out)) hb); clear HO105; clear HO108; clear HO112; clear BK101; clear BK113; clear HB; have HO105 := n0_; have HO108 := n1_; have HO112 := n2_; have HO116 := n3_; have BK101 := n4_; have BK113 := n5_; have HB := n6_; clear n0_ n1_ n2_ n3_ n4_ n5_ n6_; (try clear hb); (try clear hb2); (try clear hk); (try clear hi); (try clear ho0); have hcz108_0 : w107.cell? ⟨gb113, 0, none⟩ = some (.slice Ao104 t110.length co104) := (zL BK113.out 0).trans rfl; have hfz108_0 := zO BK113.out 0; obtain ⟨Ao109, co109, eo109⟩ := Kd.ZX HO116.out; subst eo109) | ((with_reducible refine zQ (f := 29) rfl ?_); refine qN (some 29) rfl rfl Try.func29 (by kernel_rfl) rfl #[.agg #[.slice Ao104 t110.length co104], .slice Ao109 t114.length co109] rfl (by (try simp only [List.map_toArray, List.map_cons, List.map_nil]); first | done | rfl | (simp only [List.length_drop, List.length_take]; rfl)) ?_; (with_reducible refine (qg.calls k _ _ t110 _ _ t114 t117 _ ?side1 ?side2 ?side3 ?side4 A15.out).mono ?_); (case side1 => repeat (first | exact (Kd.qo HO112.out).2.2 | (with_reducible refine Kd.zb ?_ _) | (with_reducible refine Kd.zc ?_ _) | (with_reducible refine Kd.zx ?_))); (case side2 => exact (Kd.qo HO112.out).2.1); (case side3 => repeat (first | exact (Kd.qC HO116.out).2.2 | (with_reducible refine Kd.zb ?_ _) | (with_reducible refine Kd.zc ?_ _) | (with_reducible refine Kd.zx ?_))); (case side4 => exact (Kd.qC HO116.out).2.1); rintro e w110 ⟨rfl, hb⟩; refine ⟨_, rfl, ?_⟩; have n0_ := zB.mk (Kd.qZ (by (with_reducible repeat (first | apply Kd.zf | apply Kd.zg | apply Kd.zv)); exact HO105.out) hb); have n1_ := zB.mk (Kd.qm (by (with_reducible repeat (first | apply Kd.ze | apply Kd.zd | apply Kd.zp)); exact HO108.out) hb); have n2_ := zB.mk (Kd.qZ (by (with_reducible repeat (first | apply Kd.zf | apply Kd.zg | apply Kd.zv)); exact HO112.out) hb); have n3_ := zB.mk (Kd.qm (by (with_reducible repeat (first | apply Kd.ze | apply Kd.zd | apply Kd.zp)); exact HO116.out) hb); have n4_ := zB.mk (zP (g := gb101) (o := .cells #[.slice A0_0 l0_0.length c0_0] 24 (0, 0)) (by (with_reducible repeat (first | refine zH ?_ _ | refine zJ ?_ | refine zG ?_ _)); exact BK101.out) hb); have n5_ := zB.mk (zP (g := gb113) (o := .cells #[.slice Ao104 t110.length co104] 30 (0, 0)) (by (with_reducible repeat (first | refine zH ?_ _ | refine zJ ?_ | refine zG ?_ _)); exact BK113.out) hb); have n6_ := zB.mk (zM (by repeat (first | (with_reducible first | exact HB.out | apply zC | apply zA | apply zD | refine zF ?_ GE101.out | refine zF ?_ GE113.out) | exact HB.out)) hb); clear HO105; clear HO108; clear HO112; clear HO116; clear BK101; clear BK113; clear HB; have HO105 := n0_; have HO108 := n1_; have HO112 := n2_; have HO116 := n3_; have BK101 := n4_; have BK113 := n5_; have HB := n6_; clear n0_ n1_ n2_ n3_ n4_ n5_ n6_; (try clear hb); (try clear hb2); (try clear hk); (try clear hi)))
     have n0_ := zB.mk (Kd.zv HO105.out)
     have n1_ := zB.mk (Kd.zp HO108.out)
     have n2_ := zB.mk (Kd.zv HO112.out)
     have n3_ := zB.mk (Kd.zp HO116.out)
     have n4_ := zB.mk (zJ BK101.out)
     have n5_ := zB.mk (zJ BK113.out)
     have n6_ := zB.mk (zD HB.out)
     clear HO105
     clear HO108
     clear HO112
     clear HO116
     clear BK101
     clear BK113
     clear HB
     have HO105 := n0_
     have HO108 := n1_
     have HO112 := n2_
     have HO116 := n3_
     have BK101 := n4_
     have BK113 := n5_
     have HB := n6_
     clear n0_ n1_ n2_ n3_ n4_ n5_ n6_
     refine Zt (n := 5) (S := fun w' => w'.cell? ⟨gb113, 0, none⟩ = some (.slice Ao104 t110.length co104) ∧ w'.cell? ⟨gb101, 0, none⟩ = some (.slice A0_0 l0_0.length c0_0)) (ds := []) #[false, false, false, false, false] (by kernel_rfl) rfl rfl ⟨(zL BK113.out 0).trans rfl, (zL BK101.out 0).trans rfl⟩ (fun hHeld => ?_)
     generalize w110.drew = w111 at HO105 HO108 HO112 HO116 BK101 BK113 HB hHeld ⊢
     refine qy (i := 0) (N := some 33) (v := ?_) (a' := ?_) #[true, false, false, false, false] rfl rfl (by kernel_rfl) (fun _ _ _ h => h) (Or.inl ⟨by rfl, ?_⟩) hHeld ?_ ?_
     rotate_left
     next =>
      rintro w' ⟨s0, s1⟩
      go_simp
      with_reducible rfl
     rotate_left
     next =>
      simp only [Act.put, List.setIfInBounds_toArray, List.set_cons_zero, List.set_cons_succ, zV, zX]
      rfl
     refine qy (i := 1) (N := some 34) (v := ?_) (a' := ?_) #[true, true, false, false, false] rfl rfl (by kernel_rfl) (fun _ _ _ h => h) (Or.inl ⟨by rfl, ?_⟩) hHeld ?_ ?_
     rotate_left
     next =>
      rintro w' ⟨s0, s1⟩
      go_simp
      with_reducible rfl
     rotate_left
     next =>
      simp only [Act.put, List.setIfInBounds_toArray, List.set_cons_zero, List.set_cons_succ, zV, zX]
      rfl
     refine Ju (i := 2) (N := some 35) #[true, true, true, false, false] rfl rfl (by kernel_rfl) (by decide) (fun K hK => ?_)
     refine Qg Try.func17 (by kernel_rfl) rfl #[.agg #[.slice A0_0 l0_0.length c0_0]] (by rfl) rfl rfl (by (try simp only [List.map_toArray, List.map_cons, List.map_nil]); first | done | rfl | (simp only [List.length_drop, List.length_take]; rfl)) ?_
     with_reducible refine (zZ.calls k _ _ l0_0 t118 _ ?side1 ?side2 A36.out).mono ?_
     (case side1 => repeat (first | exact (Kd.zt HR0_0.out HB.out) | (with_reducible refine Kd.zb ?_ _) | (with_reducible refine Kd.zc ?_ _) | (with_reducible refine Kd.zx ?_)))
     (case side2 => exact HC0_0.out)
     rintro e w112 ⟨v119, rfl, ho0, hb⟩
     refine ⟨_, rfl, ?_⟩
     have n0_ := zB.mk (Kd.Zi (by (with_reducible repeat (first | apply Kd.zf | apply Kd.zg | apply Kd.zv)); exact HO105.out) (Kd.JG ho0) hb)
     have n1_ := zB.mk (Kd.qm (by (with_reducible repeat (first | apply Kd.ze | apply Kd.zd | apply Kd.zp)); exact HO108.out) hb)
     have n2_ := zB.mk (Kd.Zi (by (with_reducible repeat (first | apply Kd.zf | apply Kd.zg | apply Kd.zv)); exact HO112.out) (Kd.JG ho0) hb)
     have n3_ := zB.mk (Kd.qm (by (with_reducible repeat (first | apply Kd.ze | apply Kd.zd | apply Kd.zp)); exact HO116.out) hb)
     have n4_ := zB.mk (Kd.Zv (Kd.JH (Kd.JH ho0 (Kd.zDS (by (with_reducible repeat (first | apply Kd.zf | apply Kd.zg | apply Kd.zv)); exact HO105.out))) (Kd.zDS (by (with_reducible repeat (first | apply Kd.zf | apply Kd.zg | apply Kd.zv)); exact HO112.out))) (zN (by repeat (first | (with_reducible first | exact HB.out | apply zC | apply zA | apply zD | refine zF ?_ GE101.out | refine zF ?_ GE113.out) | exact HB.out))))
     have n5_ := zB.mk (zP (g := gb101) (o := .cells #[.slice A0_0 l0_0.length c0_0] 24 (0, 0)) (by (with_reducible repeat (first | refine zH ?_ _ | refine zJ ?_ | refine zG ?_ _)); exact BK101.out) hb)
     have n6_ := zB.mk (zP (g := gb113) (o := .cells #[.slice Ao104 t110.length co104] 30 (0, 0)) (by (with_reducible repeat (first | refine zH ?_ _ | refine zJ ?_ | refine zG ?_ _)); exact BK113.out) hb)
     have n7_ := zB.mk (zM (by repeat (first | (with_reducible first | exact HB.out | apply zC | apply zA | apply zD | refine zF ?_ GE101.out | refine zF ?_ GE113.out) | exact HB.out)) hb)
     clear HO105
     clear HO108
     clear HO112
     clear HO116
     clear BK101
     clear BK113
     clear HB
     have HO105 := n0_
     have HO108 := n1_
     have HO112 := n2_
     have HO116 := n3_
     have HO120 := n4_
     have BK101 := n5_
     have BK113 := n6_
     have HB := n7_
     clear n0_ n1_ n2_ n3_ n4_ n5_ n6_ n7_
     (try clear hb)
     (try clear hb2)
     (try clear hk)
     (try clear hi)
     (try clear ho0)
     obtain ⟨Ao113, co113, eo113⟩ := Kd.Zw HO120.out
     (first | subst eo113 | (injection eo113 with f1_ f2_ f3_; have f4_ := f1_.symm; have f5_ := f3_.symm; clear f1_ f2_ f3_; subst f4_; subst f5_))
     refine hK.out _ _ ⟨(zL BK113.out 0).trans rfl, (zL BK101.out 0).trans rfl⟩ (fun hHeld => ?_)
     clear hK K
     refine QH (a' := ?_) ?_ ?_
     rotate_left
     next =>
      show Act.put _ (some 35) _ = _
      simp only [Act.put, List.setIfInBounds_toArray, List.set_cons_zero, List.set_cons_succ, zV, zX]
      rfl
     refine Ju (i := 3) (N := some 36) #[true, true, true, true, false] rfl rfl (by kernel_rfl) (by decide) (fun K hK => ?_)
     refine Qg Try.func20 (by kernel_rfl) rfl #[.agg #[.slice Ao104 t110.length co104], .agg #[.slice Ao113 t118.length co113]] (by rfl) rfl rfl (by (try simp only [List.map_toArray, List.map_cons, List.map_nil]); first | done | rfl | (simp only [List.length_drop, List.length_take]; rfl)) ?_
     with_reducible refine (qS.calls k _ _ t110 _ _ t118 false _ ?side1 ?side2 ?side3 ?side4 A37.out).mono ?_
     (case side1 => repeat (first | exact (Kd.qo HO112.out).2.2 | (with_reducible refine Kd.zb ?_ _) | (with_reducible refine Kd.zc ?_ _) | (with_reducible refine Kd.zx ?_)))
     (case side2 => exact (Kd.qo HO112.out).2.1)
     (case side3 => repeat (first | exact (Kd.qo HO120.out).2.2 | (with_reducible refine Kd.zb ?_ _) | (with_reducible refine Kd.zc ?_ _) | (with_reducible refine Kd.zx ?_)))
     (case side4 => exact (Kd.qo HO120.out).2.1)
     rintro e w114 ⟨rfl, hb⟩
     refine ⟨_, rfl, ?_⟩
     have n0_ := zB.mk (Kd.qZ (by (with_reducible repeat (first | apply Kd.zf | apply Kd.zg | apply Kd.zv)); exact HO105.out) hb)
     have n1_ := zB.mk (Kd.qm (by (with_reducible repeat (first | apply Kd.ze | apply Kd.zd | apply Kd.zp)); exact HO108.out) hb)
     have n2_ := zB.mk (Kd.qZ (by (with_reducible repeat (first | apply Kd.zf | apply Kd.zg | apply Kd.zv)); exact HO112.out) hb)
     have n3_ := zB.mk (Kd.qm (by (with_reducible repeat (first | apply Kd.ze | apply Kd.zd | apply Kd.zp)); exact HO116.out) hb)
     have n4_ := zB.mk (Kd.qZ (by (with_reducible repeat (first | apply Kd.zf | apply Kd.zg | apply Kd.zv)); exact HO120.out) hb)
     have n5_ := zB.mk (zP (g := gb101) (o := .cells #[.slice A0_0 l0_0.length c0_0] 24 (0, 0)) (by (with_reducible repeat (first | refine zH ?_ _ | refine zJ ?_ | refine zG ?_ _)); exact BK101.out) hb)
     have n6_ := zB.mk (zP (g := gb113) (o := .cells #[.slice Ao104 t110.length co104] 30 (0, 0)) (by (with_reducible repeat (first | refine zH ?_ _ | refine zJ ?_ | refine zG ?_ _)); exact BK113.out) hb)
     have n7_ := zB.mk (zM (by repeat (first | (with_reducible first | exact HB.out | apply zC | apply zA | apply zD | refine zF ?_ GE101.out | refine zF ?_ GE113.out) | exact HB.out)) hb)
     clear HO105
     clear HO108
     clear HO112
     clear HO116
     clear HO120
     clear BK101
     clear BK113
     clear HB
     have HO105 := n0_
     have HO108 := n1_
     have HO112 := n2_
     have HO116 := n3_
     have HO120 := n4_
     have BK101 := n5_
     have BK113 := n6_
     have HB := n7_
     clear n0_ n1_ n2_ n3_ n4_ n5_ n6_ n7_
     (try clear hb)
     (try clear hb2)
     (try clear hk)
     (try clear hi)
     refine hK.out _ _ ⟨(zL BK113.out 0).trans rfl, (zL BK101.out 0).trans rfl⟩ (fun hHeld => ?_)
     clear hK K
     refine QH (a' := ?_) ?_ ?_
     rotate_left
     next =>
      show Act.put _ (some 36) _ = _
      simp only [Act.put, List.setIfInBounds_toArray, List.set_cons_zero, List.set_cons_succ, zV, zX]
      rfl
     refine zk (i := 4) (N := some 37) (v := ?_) (a' := ?_) #[true, true, true, true, true] rfl rfl (by kernel_rfl) (fun _ _ _ h => h) (Or.inl ⟨by rfl, ?_⟩) ?_ ?_
     rotate_left
     next =>
      intro w'
      go_simp
      with_reducible rfl
     rotate_left
     next =>
      simp only [Act.put, List.setIfInBounds_toArray, List.set_cons_zero, List.set_cons_succ, zV, zX]
      rfl
     refine QX (by kernel_rfl) ?_
     try go_wp2
     go_ret
     exact ⟨by first | rfl | (simp [zR, zS] <;> rfl) | (simp [*, zR, zS] <;> rfl), by repeat (first | (with_reducible first | exact HB.out | apply zC | apply zA | apply zD | refine zF ?_ GE101.out | refine zF ?_ GE113.out) | exact HB.out)⟩
end Go.Proofs.Ythjpdljdodalaaa.P
namespace Go.Proofs.Ythjpdljdodalaaa.Lib
set_option linter.unusedVariables false
open Go.RowKit Go.Proofs.YthjpdljdodalaaaW.PrintWords
theorem zCU {σ ρ : Type} (L : Nat → σ → Option ρ) (I : σ → Prop) (m : σ → Nat) (g : σ → ρ)
    (h : ∀ s, I s → (∃ K, ∀ k, K ≤ k → L (k + 1) s = some (g s)) ∨ (∃ s' K, I s' ∧ m s' < m s ∧ g s' = g s ∧ ∀ k, K ≤ k → L (k + 1) s = L k s')) :
    ∀ s, I s → Ev (fun k => L k s) (g s) := by
  have key : ∀ (n : Nat) (s : σ), m s < n → I s → Ev (fun k => L k s) (g s) := by
    intro n
    induction n with
    | zero => intro s hs; omega
    | succ n ih =>
      intro s hs hi
      rcases h s hi with ⟨K, hK⟩ | ⟨s', K, hi', hm, hg, hK⟩
      · refine ⟨K + 1, fun k hk => ?_⟩
        obtain ⟨j, rfl⟩ : ∃ j, k = j + 1 := ⟨k - 1, by omega⟩
        exact hK j (by omega)
      · obtain ⟨K', hK'⟩ := ih s' (by omega) hi'
        refine ⟨max K K' + 1, fun k hk => ?_⟩
        obtain ⟨j, rfl⟩ : ∃ j, k = j + 1 := ⟨k - 1, by omega⟩
        show L (j + 1) s = some (g s)
        rw [hK j (by omega), ← hg]
        exact hK' j (by omega)
  intro s hi
  exact key (m s + 1) s (by omega) hi
theorem JR {σ ρ : Type} (L : Nat → σ → Option ρ) (I : σ → Prop) (m : σ → Nat) (g : σ → ρ)
    (h : ∀ s, I s → (∀ k, L (k + 1) s = some (g s)) ∨ (∃ s', I s' ∧ m s' < m s ∧ g s' = g s ∧ ∀ k, L (k + 1) s = L k s')) :
    ∀ s, I s → Ev (fun k => L k s) (g s) :=
  zCU L I m g fun s hi => by
    rcases h s hi with h1 | ⟨s', h1, h2, h3, h4⟩
    · exact .inl ⟨0, fun k _ => h1 k⟩
    · exact .inr ⟨s', 0, h1, h2, h3, fun k _ => h4 k⟩
theorem ZG {x : Int} (h0 : -9223372036854775808 ≤ x) (h1 : x ≤ 9223372036854775807) : wrap64 x = x := by
  unfold wrap64; omega
theorem Za {n : Nat} (h : n ≤ 4611686018427387904) : wrap64 ((n : Int) + 1) = ((n + 1 : Nat) : Int) := by
  rw [ZG (by omega) (by omega)]; rfl
theorem zBa (xs : List Int) (n : Nat) (h : n < xs.length) : rd xs (n : Int) = xs[n] := by simp [rd, h]
theorem Ze {α : Type} {c : Prop} [Decidable c] {f g : Nat → Option α} {r : α} (h : ¬ c) (k : Ev g r) : Ev (fun n => if c then f n else g n) r := Ev.congr (fun _ => if_neg h) k
theorem ZD {α : Type} {c : Prop} [Decidable c] {f g : Nat → Option α} {r : α} (h : c) (k : Ev f r) : Ev (fun n => if c then f n else g n) r := Ev.congr (fun _ => if_pos h) k
theorem JP {α : Type} {r r' : α} (h : r = r') : Ev (fun _ => some r) r' := h ▸ Ev.now r
theorem Qv {α : Type} {o : Option α} {r : α} (h : o = some r) : Ev (fun _ => o) r := ⟨0, fun _ _ => h⟩
theorem zDu {α : Type} {g : Nat → Option α} {r : α} (h : ∀ k, g k = some r) : Ev g r := ⟨0, fun k _ => h k⟩
theorem qx {α : Type} {g f : Nat → Option α} {r : α} (h : ∀ k, g (k + 1) = f k) (k : Ev f r) : Ev g r := Ev.step h k
theorem zCt {α : Type} {f : α → Option Bool} {p : α → Bool} : ∀ (i : Nat) (l : List α), (∀ x ∈ l, f x = some (p x)) → ∃ r, zDI f i l = some r ∧ decide (0 ≤ r) = l.any p
  | i, [], _ => ⟨-1, rfl, rfl⟩
  | i, x :: xs, h => by
    rw [zAW, h x (List.mem_cons_self ..), Option.bind_some]
    cases hp : p x with
    | true => exact ⟨i, by rw [if_pos rfl], by simp [hp]⟩
    | false =>
      obtain ⟨r, h1, h2⟩ := zCt (i + 1) xs (fun y hy => h y (List.mem_cons_of_mem _ hy))
      exact ⟨r, by rw [if_neg (by simp)]; exact h1, by rw [h2]; simp [hp]⟩
theorem contO {α : Type} {f : α → Option Bool} {p : α → Bool} (l : List α) (h : ∀ x ∈ l, f x = some (p x)) : (zDI f 0 l).bind (fun i => some (decide (0 ≤ i))) = some (l.any p) := by
  obtain ⟨r, h1, h2⟩ := zCt 0 l h
  rw [h1, Option.bind_some, h2]
def zC4 (a : Int) : Nat → List Int
  | 0 => []
  | n + 1 => a :: zC4 (a + 1) n
end Go.Proofs.Ythjpdljdodalaaa.Lib
namespace Go.Proofs.Ythjpdljdodalaaa.P
open Go.RowKit Go.Proofs.YthjpdljdodalaaaW.PrintWords Go.Proofs.Ythjpdljdodalaaa.Lib
set_option linter.unusedVariables false
theorem zA1 (a b c : Int) : ZF.f a b c = some (decide (b ≤ a) && decide (a ≤ c)) := by
  unfold ZF.f
  by_cases h : b ≤ a <;> simp [h]
theorem zEU (a b c : Int) : QB.f a b c = some (decide (b ≤ a) && decide (a ≤ c)) := by
  unfold QB.f
  by_cases h : b ≤ a <;> simp [h]
theorem zCV (a : Int) : ZT.f a = some (decide (0 ≤ a) && decide (a ≤ 23)) := by
  unfold ZT.f
  by_cases h : 0 ≤ a
  · rw [if_pos h]; simp [h]; omega
  · rw [if_neg h]; simp [h]
theorem zDv (a : Int) : Zp.f a = some (decide (0 ≤ a) && decide (a ≤ 23)) := by
  unfold Zp.f; rw [zA1]; rfl
theorem zEk {p : Int} (h0 : 0 ≤ p) (h1 : p ≤ 23) : ∃ m : Fin 24, p = (m.val : Int) := ⟨⟨p.toNat, by omega⟩, by simp; omega⟩
theorem zC5 {p : Int} (h0 : 0 ≤ p) (h1 : p ≤ 23) : Ev (fun k => zW.f k p) (ZK p) := by
  obtain ⟨m, rfl⟩ := zEk h0 h1
  have key : ∀ m : Fin 24, zW.f 5 (m.val : Int) = some (ZK (m.val : Int)) := by decide +kernel
  exact Ev.of (fun k => zW.mono _ k) (key m)
theorem zDw (p : Int) : (ZK p).length = 4 := rfl
theorem Jo {p f : Int} (h0 : 0 ≤ p) (h1 : p ≤ 23) (hf0 : 0 ≤ f) (hf1 : f ≤ 3) : 0 ≤ rd (ZK p) f ∧ rd (ZK p) f ≤ 3 := by
  obtain ⟨a, b, c, d⟩ := zAU p h0 h1
  exact zAx a b c d f hf0 hf1
theorem zAH {p f : Int} (h0 : 0 ≤ p) (h1 : p ≤ 23) (hf0 : 0 ≤ f) (hf1 : f ≤ 3) : Ev (fun k => ZC.f k p f) (rd (ZK p) f) := by
  refine Ev.bind (zC5 h0 h1) ?_
  exact ZD hf0 (ZD (by rw [zDw]; omega) (Ev.now _))
theorem zDJ {p : Int} (h0 : 0 ≤ p) (h1 : p ≤ 23) : Ev (fun k => qP.f k p) (zDF p) := by
  obtain ⟨m, rfl⟩ := zEk h0 h1
  have key : ∀ m : Fin 24, qP.f 40 (m.val : Int) = some (zDF (m.val : Int)) := by decide +kernel
  exact Ev.of (fun k => qP.mono _ k) (key m)
theorem zDx {q p f : Int} (h0 : 0 ≤ p) (h1 : p ≤ 23) (hf0 : 0 ≤ f) (hf1 : f ≤ 3) : ZI.f q p f = some (rd (ZK p) f) := if_pos ⟨h0, h1, hf0, hf1⟩
theorem zDK {q p a : Int} (h0 : 0 ≤ p) (h1 : p ≤ 23) : ZA.f q p a = some (a, zDF p) := by
  unfold ZA.f QF.f
  rw [if_pos ⟨h0, h1⟩]; rfl
end Go.Proofs.Ythjpdljdodalaaa.P
namespace Go.Proofs.Ythjpdljdodalaaa.P
open Go.RowKit Go.Proofs.YthjpdljdodalaaaW.PrintWords Go.Proofs.Ythjpdljdodalaaa.Lib
set_option linter.unusedVariables false
abbrev Tri := List (List qU)
def Small (t : Tri) : Prop := t.length ≤ 1048576 ∧ ∀ r ∈ t, r.length ≤ 1048576
def zCu (t : List (List qa)) : Prop := t.length ≤ 1048576 ∧ ∀ r ∈ t, r.length ≤ 1048576
def Fits (t : List (List qa)) : Prop := t.length ≤ 9223372036854775807 ∧ ∀ r ∈ t, r.length ≤ 9223372036854775807
theorem Qk (t : List (List qa)) (n : Nat) (h : n < t.length) : ZM t (n : Int) = t[n] := by simp [ZM, h]
theorem Qf (t : Tri) (n : Nat) (h : n < t.length) : zE t (n : Int) = t[n] := by simp [zE, h]
theorem zBb (t : List qa) (n : Nat) (h : n < t.length) : Zr t (n : Int) = t[n] := by simp [Zr, h]
theorem zAz (t : List qU) (n : Nat) (h : n < t.length) : zI t (n : Int) = t[n] := by simp [zI, h]
theorem zB0 (r : List qa) (a : Int) (h0 : 0 ≤ a) (h1 : a ≤ 1048576) (h : r.length ≤ 9223372036854775807) : Zx.f r a = some (if a - r.length < 0 then -1 else a - r.length) := by
  unfold Zx.f
  rw [ZG (by omega) (by omega)]
  split <;> rfl
theorem zCW (t : List (List qa)) (h : Fits t) (hl : t.length ≤ 1048576) : ∃ r, Ev (fun k => qb.l0 k t (1048576 - t.length) 0) r ∧ (0 ≤ r → ∀ x ∈ t, x.length ≤ 1048576) := by
  have key : ∀ d n : Nat, ∀ a : Int, n + d = t.length → 0 ≤ a → a ≤ 1048576 → ∃ r, Ev (fun k => qb.l0 k t a (n : Int)) r ∧ (0 ≤ r → ∀ x ∈ t.drop n, x.length ≤ 1048576) := by
    intro d
    induction d with
    | zero =>
      intro n a hn h0 h1
      refine ⟨a, qx (f := fun _ => some a) (fun k => ?_) (Ev.now a), fun _ x hx => ?_⟩
      · simp only [qb.l0]; rw [if_neg (by omega)]
      · rw [List.drop_eq_nil_of_le (by omega)] at hx; cases hx
    | succ d ih =>
      intro n a hn h0 h1
      have hlt : n < t.length := by omega
      have hf := h.2 t[n] (List.getElem_mem hlt)
      by_cases hc : a - t[n].length < 0
      · refine ⟨-1, qx (f := fun _ => some (-1)) (fun k => ?_) (Ev.now (-1)), fun h => by omega⟩
        simp only [qb.l0]
        rw [if_pos (by omega), if_pos (by omega), Qk t n hlt, zB0 _ a h0 h1 hf, Option.bind_some, if_pos hc]
        rfl
      · obtain ⟨r, hr, hr2⟩ := ih (n + 1) (a - t[n].length) (by omega) (by omega) (by omega)
        refine ⟨r, qx (fun k => ?_) hr, fun h x hx => ?_⟩
        · simp only [qb.l0]
          rw [if_pos (by omega), if_pos (by omega), Qk t n hlt, zB0 _ a h0 h1 hf, Option.bind_some, if_neg hc, if_neg (by omega), Za (by omega)]
        · rw [List.drop_eq_getElem_cons hlt] at hx
          rcases List.mem_cons.1 hx with rfl | hx
          · omega
          · exact hr2 h x hx
  obtain ⟨r, hr, hr2⟩ := key t.length 0 (1048576 - t.length) (by omega) (by omega) (by omega)
  exact ⟨r, hr, fun h => by have := hr2 h; rwa [List.drop_zero] at this⟩
theorem Jp (t : List (List qa)) (h : Fits t) : ∃ r, Ev (fun k => qu.f k t 1048576) r ∧ (¬ r < 0 → zCu t) := by
  by_cases hl : (1048576 - (t.length : Int)) < 0
  · refine ⟨-1, ?_, fun h => by omega⟩
    refine Ev.bind (a := -1) (zDu (fun k => ?_)) (ZD (by omega) (Ev.now _))
    unfold qb.f
    have := h.1
    rw [ZG (by omega) (by omega), if_pos hl]
  · obtain ⟨r, hr, hr2⟩ := zCW t h (by omega)
    have h2 : Ev (fun k => qb.f k t 1048576) r := by
      refine Ev.congr (fun k => ?_) hr
      unfold qb.f
      rw [ZG (by omega) (by omega), if_neg hl]
    by_cases hn : r < 0
    · exact ⟨-1, Ev.bind h2 (ZD hn (Ev.now _)), fun h => by omega⟩
    · exact ⟨r, Ev.bind h2 (Ze hn (Ev.now _)), fun _ => ⟨by omega, hr2 (by omega)⟩⟩
def cvF (x : qa) : qU := ⟨x.f0, x.f1⟩
def cvR (r : List qa) : List qU := r.map cvF
def cvT (t : List (List qa)) : Tri := t.map cvR
theorem zDy {t : List (List qa)} (h : zCu t) : Small (cvT t) := by
  refine ⟨by simp [cvT]; exact h.1, fun r hr => ?_⟩
  obtain ⟨s, hs, rfl⟩ := List.mem_map.1 hr
  simp [cvR]; exact h.2 s hs
theorem zAC {α β : Type} (f : α → β) (l : List α) (z : β) (n : Nat) (h : n < l.length) :
    ((l.take n).map f ++ List.replicate (l.length - n) z).set n (f l[n]) = (l.take (n + 1)).map f ++ List.replicate (l.length - (n + 1)) z := by
  have e : l.length - n = (l.length - (n + 1)) + 1 := by omega
  rw [e, List.replicate_succ, List.set_append_right _ _ (by simp; omega)]
  have : n - ((l.take n).map f).length = 0 := by simp; omega
  rw [this, List.set_cons_zero, List.take_succ_eq_append_getElem h, List.map_append, List.append_assoc]
  rfl
theorem zDL (l : List qa) (h : l.length ≤ 1048576) : Ev (fun k => qn.f k l) (cvR l) := by
  have hl : Ev (fun k => qn.l0 k l (List.replicate l.length Jl) 0) (cvR l) := by
    refine JR (fun k (s : List qU × Int) => qn.l0 k l s.1 s.2) (fun s => ∃ n : Nat, n ≤ l.length ∧ s.2 = n ∧ s.1 = (l.take n).map cvF ++ List.replicate (l.length - n) Jl) (fun s => l.length - s.2.toNat) (fun _ => cvR l) ?_ (List.replicate l.length Jl, 0) ⟨0, by omega, rfl, by simp⟩
    rintro ⟨a, i⟩ ⟨n, hn, rfl, rfl⟩
    dsimp only
    by_cases hlt : n < l.length
    · refine .inr ⟨((l.take (n + 1)).map cvF ++ List.replicate (l.length - (n + 1)) Jl, ((n + 1 : Nat) : Int)), ⟨n + 1, by omega, rfl, rfl⟩, by simp; omega, rfl, fun k => ?_⟩
      simp only [qn.l0, Qe.f, Option.bind_some]
      rw [if_pos (by omega), if_pos (by omega), if_pos (by simp; omega), Za (by omega), Int.toNat_natCast, zBb l n hlt]
      have := zAC cvF l Jl n hlt
      rw [← this]
      rfl
    · obtain rfl : n = l.length := by omega
      refine .inl fun k => ?_
      simp only [qn.l0]
      rw [if_neg (by omega)]
      simp [cvR]
  refine Ev.congr (fun k => ?_) hl
  unfold qn.f
  rw [if_pos (by omega), if_pos (by simp; omega), Int.toNat_natCast]
theorem zCX (l : List (List qa)) (h : zCu l) : Ev (fun k => qh.f k l) (cvT l) := by
  have hl : Ev (fun k => qh.l0 k l (List.replicate l.length []) 0) (cvT l) := by
    refine zCU (fun k (s : Tri × Int) => qh.l0 k l s.1 s.2) (fun s => ∃ n : Nat, n ≤ l.length ∧ s.2 = n ∧ s.1 = (l.take n).map cvR ++ List.replicate (l.length - n) []) (fun s => l.length - s.2.toNat) (fun _ => cvT l) ?_ (List.replicate l.length [], 0) ⟨0, by omega, rfl, by simp⟩
    rintro ⟨a, i⟩ ⟨n, hn, rfl, rfl⟩
    dsimp only
    by_cases hlt : n < l.length
    · obtain ⟨K, hK⟩ := zDL l[n] (h.2 _ (List.getElem_mem hlt))
      refine .inr ⟨((l.take (n + 1)).map cvR ++ List.replicate (l.length - (n + 1)) [], ((n + 1 : Nat) : Int)), K, ⟨n + 1, by omega, rfl, rfl⟩, by simp; omega, rfl, fun k hk => ?_⟩
      have e : qn.f k l[n] = some _ := hK k hk
      have h1 := h.1
      simp only [qh.l0]
      rw [if_pos (by omega), if_pos (by omega), Qk l n hlt, e, Option.bind_some, if_pos (by simp; omega), Za (by omega), Int.toNat_natCast, zAC cvR l [] n hlt]
    · obtain rfl : n = l.length := by omega
      refine .inl ⟨0, fun k _ => ?_⟩
      simp only [qh.l0]
      rw [if_neg (by omega)]
      simp [cvT]
  have h1 := h.1
  refine Ev.congr (fun k => ?_) hl
  unfold qh.f
  rw [if_pos (by omega), if_pos (by simp; omega), Int.toNat_natCast]
theorem Jq (l : List (List qa)) (h : zCu l) : Ev (fun k => zZ.f k l) (cvT l) := Ev.bind (zCX l h) (Ev.now _)
theorem zDM (l : List qU) (h : l.length ≤ 1048576) : Ev (fun k => qR.f k l l) true := by
  have hl : Ev (fun k => qR.l0 k l l 0) true := by
    refine JR (fun k (s : Int) => qR.l0 k l l s) (fun s => ∃ n : Nat, n ≤ l.length ∧ s = n) (fun s => l.length - s.toNat) (fun _ => true) ?_ 0 ⟨0, by omega, rfl⟩
    rintro i ⟨n, hn, rfl⟩
    by_cases hlt : n < l.length
    · refine .inr ⟨((n + 1 : Nat) : Int), ⟨n + 1, by omega, rfl⟩, by simp; omega, rfl, fun k => ?_⟩
      simp only [qR.l0, QM.f]
      rw [if_pos (by omega), if_pos (by omega), if_pos (by omega), if_pos trivial, if_pos trivial, Option.bind_some, if_pos rfl, Za (by omega)]
    · refine .inl fun k => ?_
      simp only [qR.l0]
      rw [if_neg (by omega)]
  refine Ev.congr (fun k => ?_) hl
  unfold qR.f
  rw [if_pos rfl]
theorem Jr (l : Tri) (h : Small l) : Ev (fun k => qS.f k l l) true := by
  have hl : Ev (fun k => qI.l0 k l l 0) true := by
    refine zCU (fun k (s : Int) => qI.l0 k l l s) (fun s => ∃ n : Nat, n ≤ l.length ∧ s = n) (fun s => l.length - s.toNat) (fun _ => true) ?_ 0 ⟨0, by omega, rfl⟩
    rintro i ⟨n, hn, rfl⟩
    by_cases hlt : n < l.length
    · obtain ⟨K, hK⟩ := zDM l[n] (h.2 _ (List.getElem_mem hlt))
      refine .inr ⟨((n + 1 : Nat) : Int), K, ⟨n + 1, by omega, rfl⟩, by simp; omega, rfl, fun k hk => ?_⟩
      have e : qR.f k l[n] l[n] = some _ := hK k hk
      have h1 := h.1
      simp only [qI.l0]
      rw [if_pos (by omega), if_pos (by omega), if_pos (by omega), Qf l n hlt, e, Option.bind_some, if_pos rfl, Za (by omega)]
    · refine .inl ⟨0, fun k _ => ?_⟩
      simp only [qI.l0]
      rw [if_neg (by omega)]
  have h2 : Ev (fun k => qI.f k l l) true := by
    refine Ev.congr (fun k => ?_) hl
    unfold qI.f
    rw [if_pos rfl]
  exact Ev.bind h2 (ZD rfl (Ev.now _))
end Go.Proofs.Ythjpdljdodalaaa.P
namespace Go.Proofs.Ythjpdljdodalaaa.P
open Go.RowKit Go.Proofs.YthjpdljdodalaaaW.PrintWords Go.Proofs.Ythjpdljdodalaaa.Lib
set_option linter.unusedVariables false
abbrev fc (t : Tri) (a f : Int) : qU := zI (zE t a) f
def zAE (t : Tri) (a f : Int) : Bool :=
  if (fc t a f).f0 = -1 then (fc t a f).f1 == 0
  else if 0 ≤ (fc t a f).f0 ∧ (fc t a f).f0 < (t.length : Int) ∧ 0 ≤ (fc t a f).f1 ∧ (fc t a f).f1 ≤ 23 then
    ((fc t (fc t a f).f0 (rd (ZK (fc t a f).f1) f)).f0 == a && (fc t (fc t a f).f0 (rd (ZK (fc t a f).f1) f)).f1 == zDF (fc t a f).f1) && !((fc t a f).f0 == a && rd (ZK (fc t a f).f1) f == f)
  else false
def Qp (t : Tri) (a : Int) : Int → Nat → Bool
  | _, 0 => true
  | f, d + 1 => zAE t a f && Qp t a (f + 1) d
def JU (t : Tri) : Int → Nat → Bool
  | _, 0 => true
  | a, d + 1 => Qp t a 0 4 && JU t (a + 1) d
def QK (t : Tri) : Bool := decide (t.length ≤ 8) && (t.all (fun r => decide (r.length = 4)) && JU t 0 t.length)
section
variable {t : Tri}
theorem zF7 (h4 : ∀ r ∈ t, r.length = 4) {a : Int} (h0 : 0 ≤ a) (h1 : a < t.length) : (zE t a).length = 4 := by
  obtain ⟨n, rfl⟩ := Int.eq_ofNat_of_zero_le h0
  rw [Qf t n (by omega)]
  exact h4 _ (List.getElem_mem _)
theorem zAj (h4 : ∀ r ∈ t, r.length = 4) (hn : t.length ≤ 8) {a f : Int} (h0 : 0 ≤ a) (h1 : a < t.length) (hf0 : 0 ≤ f) (hf1 : f ≤ 3) : Ev (fun k => zT.f k t a f) (zAE t a f) := by
  have hr := zF7 h4 h0 h1
  refine Ev.congr (fun k => by unfold zT.f; rw [if_pos h0, if_pos h1, if_pos hf0, if_pos (by omega)]) ?_
  change Ev (fun k => if (fc t a f).f0 = -1 then some ((fc t a f).f1 == 0) else _) (zAE t a f)
  unfold zAE
  by_cases hb : (fc t a f).f0 = -1
  · rw [if_pos hb]; exact ZD hb (Ev.now _)
  · refine Ze hb ?_
    rw [if_neg hb]
    have hix : qq.f t (fc t a f).f0 = some (decide (0 ≤ (fc t a f).f0) && decide ((fc t a f).f0 ≤ (t.length : Int) - 1)) := by
      unfold qq.f qt.f
      rw [Option.bind_some, ZG (by omega) (by omega), zA1]; rfl
    have hfalse : Ev (fun k => zT.j0 k a f true t (fc t a f).f0 (fc t a f).f1) false := qx (fun k => by rw [zT.j0, if_pos rfl]) (Ev.now false)
    refine Ev.bind (Qv hix) ?_
    by_cases hi : 0 ≤ (fc t a f).f0 ∧ (fc t a f).f0 < (t.length : Int)
    · refine ZD (by simp; omega) ?_
      refine Ev.bind (Qv (zDv _)) ?_
      by_cases hp : 0 ≤ (fc t a f).f1 ∧ (fc t a f).f1 ≤ 23
      · rw [if_pos ⟨hi.1, hi.2, hp.1, hp.2⟩]
        have e : (!(decide (0 ≤ (fc t a f).f1) && decide ((fc t a f).f1 ≤ 23))) = false := by simp [hp]
        rw [e]
        refine qx (fun k => by rw [zT.j0, if_neg (by simp), zDx hp.1 hp.2 hf0 hf1, Option.bind_some]) ?_
        obtain ⟨hg0, hg1⟩ := Jo hp.1 hp.2 hf0 hf1
        have hr2 := zF7 h4 hi.1 hi.2
        refine ZD hi.1 (ZD hi.2 (ZD hg0 (ZD (by rw [hr2]; omega) ?_)))
        refine Ev.bind (Qv (zDK hp.1 hp.2)) ?_
        change Ev (fun k => if ((fc t (fc t a f).f0 (rd (ZK (fc t a f).f1) f)).f0 == a && (fc t (fc t a f).f0 (rd (ZK (fc t a f).f1) f)).f1 == zDF (fc t a f).f1) = true then _ else _) _
        generalize ((fc t (fc t a f).f0 (rd (ZK (fc t a f).f1) f)).f0 == a && (fc t (fc t a f).f0 (rd (ZK (fc t a f).f1) f)).f1 == zDF (fc t a f).f1) = b
        cases b with
        | false => refine Ze (by simp) ?_; rw [Bool.false_and]; exact Ev.now false
        | true =>
          refine ZD rfl ?_
          rw [Bool.true_and]
          by_cases ha : (fc t a f).f0 = a
          · refine ZD ha (JP ?_)
            rw [ha]; simp [bne]
          · refine Ze ha (JP ?_)
            simp [ha]
      · rw [if_neg (by omega)]
        have e : (!(decide (0 ≤ (fc t a f).f1) && decide ((fc t a f).f1 ≤ 23))) = true := by
          rw [Bool.not_eq_true', Bool.and_eq_false_iff, decide_eq_false_iff_not, decide_eq_false_iff_not]; omega
        rw [e]
        exact hfalse
    · rw [if_neg (by omega)]
      refine Ze ?_ hfalse
      rw [Bool.and_eq_true, decide_eq_true_eq, decide_eq_true_eq]; omega
theorem zB1 (h4 : ∀ r ∈ t, r.length = 4) (hn : t.length ≤ 8) {a : Int} (h0 : 0 ≤ a) (h1 : a < t.length) {R : Bool} (hR : Ev (fun k => zU.l0 k (t.length : Int) (a + 1) t) R) :
    ∀ (d : Nat) (f : Int), 0 ≤ f → f + d = 4 → Ev (fun k => zU.l1 k a (t.length : Int) a f t) (Qp t a f d && R)
  | 0, f, hf, he => by
    refine qx (fun k => by rw [zU.l1, if_neg (by omega), ZG (by omega) (by omega)]) ?_
    rw [Qp, Bool.true_and]; exact hR
  | d + 1, f, hf, he => by
    refine qx (fun k => by rw [zU.l1, if_pos (by omega)]) ?_
    refine Ev.bind (zAj h4 hn h0 h1 hf (by omega)) ?_
    rw [Qp]
    cases hg : zAE t a f with
    | false => exact Ze (by simp) (by rw [Bool.false_and, Bool.false_and]; exact Ev.now false)
    | true =>
      refine ZD rfl ?_
      rw [Bool.true_and]
      exact Ev.congr (fun k => by rw [ZG (by omega) (by omega)]) (zB1 h4 hn h0 h1 hR d (f + 1) (by omega) (by omega))
theorem zB2 (h4 : ∀ r ∈ t, r.length = 4) (hn : t.length ≤ 8) : ∀ (d : Nat) (a : Int), 0 ≤ a → a + d = t.length → Ev (fun k => zU.l0 k (t.length : Int) a t) (JU t a d)
  | 0, a, ha, he => by
    refine qx (fun k => by rw [zU.l0, if_neg (by omega)]) ?_
    exact Ev.now true
  | d + 1, a, ha, he => by
    refine qx (fun k => by rw [zU.l0, if_pos (by omega)]) ?_
    rw [JU]
    exact zB1 h4 hn ha (by omega) (zB2 h4 hn d (a + 1) (by omega) (by omega)) 4 0 (by omega) (by omega)
theorem zBc : t.all (fun r => decide (r.length = 4)) = true ↔ ∀ r ∈ t, r.length = 4 := by simp
theorem zDz (h : Small t) : zo.f t = some (!(t.all fun r => decide (r.length = 4))) := by
  unfold zo.f qO.f
  rw [contO (p := fun r => !(decide (r.length = 4))) t (fun r _ => by
    show qp.f r = _
    unfold qp.f
    congr 1
    by_cases h : r.length = 4
    · simp [h]
    · have : ¬ ((r.length : Int) = 4) := by omega
      simp [h, this]), List.not_all_eq_any_not]
theorem zBd (h : Small t) : Ev (fun k => zU.f k t) (QK t) := by
  have hfalse : Ev (fun k => zU.j0 k true t) false := qx (fun k => by rw [zU.j0, if_pos rfl]) (Ev.now false)
  unfold QK
  by_cases h8 : t.length ≤ 8
  · refine Ev.congr (fun k => by unfold zU.f; rw [if_neg (by omega), zDz h, Option.bind_some]) ?_
    rw [decide_eq_true h8, Bool.true_and]
    cases hall : t.all (fun r => decide (r.length = 4)) with
    | false => rw [Bool.false_and]; exact hfalse
    | true =>
      rw [Bool.true_and]
      refine qx (fun k => by rw [zU.j0, if_neg (by simp)]) ?_
      exact zB2 (zBc.1 hall) h8 t.length 0 (by omega) (by omega)
  · refine Ev.congr (fun k => by unfold zU.f; rw [if_pos (by omega)]) ?_
    rw [decide_eq_false h8, Bool.false_and]; exact hfalse
theorem zB3 (h4 : ∀ r ∈ t, r.length = 4) (hn : t.length ≤ 8) {a : Int} (h0 : 0 ≤ a) (h1 : a < t.length) {R : Bool} (hR : Ev (fun k => zK.l1 k (a + 1) t) R) :
    ∀ (d : Nat) (f : Int), 0 ≤ f → f + d = 4 → Ev (fun k => zK.l2 k a f t) (Qp t a f d && R)
  | 0, f, hf, he => by
    refine qx (fun k => by rw [zK.l2, if_neg (by omega), ZG (by omega) (by omega)]) ?_
    rw [Qp, Bool.true_and]; exact hR
  | d + 1, f, hf, he => by
    have hr := zF7 h4 h0 h1
    have ih : Ev (fun k => zK.l2 k a (wrap64 (f + 1)) t) (Qp t a (f + 1) d && R) := Ev.congr (fun k => by rw [ZG (by omega) (by omega)]) (zB3 h4 hn h0 h1 hR d (f + 1) (by omega) (by omega))
    refine qx (fun k => by rw [zK.l2, if_pos (by omega), if_pos h0, if_pos h1, if_pos hf, if_pos (by omega)]) ?_
    change Ev (fun k => if (fc t a f).f0 = -1 then zK.j3 k a f ((fc t a f).f1 == 0) t (fc t a f).f0 (fc t a f).f1 else zK.j3 k a f false t (fc t a f).f0 (fc t a f).f1) _
    rw [Qp]
    have hstop : ∀ b, Ev (fun k => zK.j4 k a f true t (fc t a f).f0 (fc t a f).f1) (false && b) := fun b => by
      rw [Bool.false_and]; exact qx (fun k => by rw [zK.j4, if_pos rfl]) (Ev.now false)
    have hgo : Ev (fun k => zK.j3 k a f true t (fc t a f).f0 (fc t a f).f1) (Qp t a (f + 1) d && R) := qx (fun k => by rw [zK.j3, if_pos rfl]) ih
    have hrest : (¬ ((fc t a f).f0 = -1 ∧ (fc t a f).f1 = 0)) → Ev (fun k => zK.j3 k a f false t (fc t a f).f0 (fc t a f).f1) (zAE t a f && Qp t a (f + 1) d && R) := by
      intro hnb
      refine qx (fun k => by rw [zK.j3, qF.f, if_neg (by simp), Option.bind_some, zEU, Option.bind_some, ZG (by omega) (by omega)]) ?_
      unfold zAE
      by_cases hi : 0 ≤ (fc t a f).f0 ∧ (fc t a f).f0 < (t.length : Int)
      · refine ZD (by simp; omega) ?_
        refine Ev.bind (Qv (zCV _)) ?_
        rw [if_neg (by omega)]
        by_cases hp : 0 ≤ (fc t a f).f1 ∧ (fc t a f).f1 ≤ 23
        · rw [if_pos ⟨hi.1, hi.2, hp.1, hp.2⟩]
          have e : (!(decide (0 ≤ (fc t a f).f1) && decide ((fc t a f).f1 ≤ 23))) = false := by simp [hp]
          rw [e]
          obtain ⟨hg0, hg1⟩ := Jo hp.1 hp.2 hf (by omega)
          have hr2 := zF7 h4 hi.1 hi.2
          refine qx (fun k => by rw [zK.j4, if_neg (by simp)]) ?_
          refine Ev.bind (zAH hp.1 hp.2 hf (by omega)) ?_
          refine Ev.bind (zDJ hp.1 hp.2) ?_
          refine ZD hi.1 (ZD hi.2 (ZD hg0 (ZD (by rw [hr2]; omega) ?_)))
          change Ev (fun k => if (!((fc t (fc t a f).f0 (rd (ZK (fc t a f).f1) f)).f0 == a) || !((fc t (fc t a f).f0 (rd (ZK (fc t a f).f1) f)).f1 == zDF (fc t a f).f1)) = true then _ else _) _
          generalize ((fc t (fc t a f).f0 (rd (ZK (fc t a f).f1) f)).f0 == a) = b1
          generalize ((fc t (fc t a f).f0 (rd (ZK (fc t a f).f1) f)).f1 == zDF (fc t a f).f1) = b2
          cases b1 with
          | false => exact ZD rfl (by rw [Bool.false_and, Bool.false_and, Bool.false_and, Bool.false_and]; exact Ev.now false)
          | true =>
            cases b2 with
            | false => exact ZD rfl (by rw [Bool.true_and, Bool.false_and, Bool.false_and, Bool.false_and]; exact Ev.now false)
            | true =>
              refine Ze (by simp) ?_
              rw [Bool.true_and, Bool.true_and]
              by_cases ha : (fc t a f).f0 = a
              · refine ZD ha ?_
                by_cases hg : rd (ZK (fc t a f).f1) f = f
                · refine ZD hg ?_
                  rw [ha, hg]
                  simp
                  exact Ev.now false
                · refine Ze hg ?_
                  have : (rd (ZK (fc t a f).f1) f == f) = false := by simp [hg]
                  rw [this, Bool.and_false, Bool.not_false, Bool.true_and]
                  exact ih
              · refine Ze ha ?_
                have : ((fc t a f).f0 == a) = false := by simp [ha]
                rw [this, Bool.false_and, Bool.not_false, Bool.true_and]
                exact ih
        · rw [if_neg (by omega)]
          have e : (!(decide (0 ≤ (fc t a f).f1) && decide ((fc t a f).f1 ≤ 23))) = true := by
            rw [Bool.not_eq_true', Bool.and_eq_false_iff, decide_eq_false_iff_not, decide_eq_false_iff_not]; omega
          rw [e, Bool.false_and]
          exact hstop R
      · have hg : (if (fc t a f).f0 = -1 then ((fc t a f).f1 == 0) else if 0 ≤ (fc t a f).f0 ∧ (fc t a f).f0 < (t.length : Int) ∧ 0 ≤ (fc t a f).f1 ∧ (fc t a f).f1 ≤ 23 then
            ((fc t (fc t a f).f0 (rd (ZK (fc t a f).f1) f)).f0 == a && (fc t (fc t a f).f0 (rd (ZK (fc t a f).f1) f)).f1 == zDF (fc t a f).f1) && !((fc t a f).f0 == a && rd (ZK (fc t a f).f1) f == f) else false) = false := by
          by_cases hb : (fc t a f).f0 = -1
          · rw [if_pos hb]; simp; intro h; exact hnb ⟨hb, h⟩
          · rw [if_neg hb, if_neg (by omega)]
        rw [hg, Bool.false_and]
        refine Ze ?_ (hstop R)
        rw [Bool.and_eq_true, decide_eq_true_eq, decide_eq_true_eq]; omega
    by_cases hb : (fc t a f).f0 = -1
    · refine ZD hb ?_
      by_cases h0' : (fc t a f).f1 = 0
      · have e : zAE t a f = true := by unfold zAE; rw [if_pos hb]; simp [h0']
        rw [e, Bool.true_and]
        have e2 : ((fc t a f).f1 == 0) = true := by simp [h0']
        rw [e2]; exact hgo
      · have e2 : ((fc t a f).f1 == 0) = false := by simp [h0']
        rw [e2]; exact hrest (fun h => h0' h.2)
    · exact Ze hb (hrest (fun h => hb h.1))
theorem zB4 (h4 : ∀ r ∈ t, r.length = 4) (hn : t.length ≤ 8) : ∀ (d : Nat) (a : Int), 0 ≤ a → a + d = t.length → Ev (fun k => zK.l1 k a t) (JU t a d)
  | 0, a, ha, he => by
    refine qx (fun k => by rw [zK.l1, qF.f, Option.bind_some, if_neg (by omega)]) ?_
    exact Ev.now true
  | d + 1, a, ha, he => by
    refine qx (fun k => by rw [zK.l1, qF.f, Option.bind_some, if_pos (by omega)]) ?_
    rw [JU]
    exact zB3 h4 hn ha (by omega) (zB4 h4 hn d (a + 1) (by omega) (by omega)) 4 0 (by omega) (by omega)
theorem zDN (h8 : t.length ≤ 8) (d : Nat) : ∀ n : Nat, n + d = t.length → (t.all (fun r => decide (r.length = 4)) = (t.drop n).all (fun r => decide (r.length = 4))) → Ev (fun k => zK.l0 k (n : Int) t) (t.all (fun r => decide (r.length = 4)) && JU t 0 t.length) := by
  induction d with
  | zero =>
    intro n hn ha
    refine qx (fun k => by rw [zK.l0, if_neg (by omega)]) ?_
    have hall : t.all (fun r => decide (r.length = 4)) = true := by rw [ha, List.drop_eq_nil_of_le (by omega)]; rfl
    rw [hall, Bool.true_and]
    exact zB4 (zBc.1 hall) h8 t.length 0 (by omega) (by omega)
  | succ d ih =>
    intro n hn ha
    have hlt : n < t.length := by omega
    refine qx (fun k => by rw [zK.l0, if_pos (by omega), if_pos (by omega), Qf t n hlt]) ?_
    rw [List.drop_eq_getElem_cons hlt, List.all_cons] at ha
    by_cases h : t[n].length = 4
    · refine ZD (by omega) ?_
      refine Ev.congr (fun k => by rw [Za (by omega)]) (ih (n + 1) (by omega) ?_)
      rw [ha, decide_eq_true h, Bool.true_and]
    · refine Ze (by omega) ?_
      rw [ha, decide_eq_false h, Bool.false_and, Bool.false_and]
      exact Ev.now false
theorem zBe (t : Tri) : Ev (fun k => zK.f k t) (QK t) := by
  refine Ev.congr (fun k => by unfold zK.f qF.f; rw [Option.bind_some]) ?_
  unfold QK
  by_cases h8 : t.length ≤ 8
  · refine Ze (by omega) ?_
    rw [decide_eq_true h8, Bool.true_and]
    exact zDN h8 t.length 0 (by omega) (by rw [List.drop_zero])
  · refine ZD (by omega) ?_
    rw [decide_eq_false h8, Bool.false_and]
    exact Ev.now false
end
end Go.Proofs.Ythjpdljdodalaaa.P
namespace Go.Proofs.Ythjpdljdodalaaa.P
open Go.RowKit Go.Proofs.YthjpdljdodalaaaW.PrintWords Go.Proofs.Ythjpdljdodalaaa.Lib
set_option linter.unusedVariables false
theorem Zg {t : Tri} (h : QK t = true) : t.length ≤ 8 ∧ (∀ r ∈ t, r.length = 4) ∧ JU t 0 t.length = true := by
  unfold QK at h
  rw [Bool.and_eq_true, Bool.and_eq_true, decide_eq_true_eq] at h
  exact ⟨h.1, zBc.1 h.2.1, h.2.2⟩
theorem zE0 (t : Tri) (a : Int) (d : Nat) : ∀ f, Qp t a f d = true → ∀ g, f ≤ g → g < f + d → zAE t a g = true := by
  induction d with
  | zero => intro f _ g h1 h2; omega
  | succ d ih =>
    intro f h g h1 h2
    rw [Qp, Bool.and_eq_true] at h
    by_cases e : g = f
    · rw [e]; exact h.1
    · exact ih (f + 1) h.2 g (by omega) (by omega)
theorem zE1 (t : Tri) (d : Nat) : ∀ a, JU t a d = true → ∀ b, a ≤ b → b < a + d → ∀ g, 0 ≤ g → g ≤ 3 → zAE t b g = true := by
  induction d with
  | zero => intro a _ b h1 h2; omega
  | succ d ih =>
    intro a h b h1 h2 g hg0 hg1
    rw [JU, Bool.and_eq_true] at h
    by_cases e : b = a
    · rw [e]; exact zE0 t a 4 0 h.1 g hg0 (by omega)
    · exact ih (a + 1) h.2 b (by omega) (by omega) g hg0 hg1
theorem Js {t : Tri} (h : QK t = true) {a f : Int} (h0 : 0 ≤ a) (h1 : a < t.length) (hf0 : 0 ≤ f) (hf1 : f ≤ 3) :
    ((fc t a f).f0 = -1 ∧ (fc t a f).f1 = 0) ∨
    ((0 ≤ (fc t a f).f0 ∧ (fc t a f).f0 < (t.length : Int) ∧ 0 ≤ (fc t a f).f1 ∧ (fc t a f).f1 ≤ 23) ∧
      (fc t (fc t a f).f0 (rd (ZK (fc t a f).f1) f)).f0 = a ∧ (fc t (fc t a f).f0 (rd (ZK (fc t a f).f1) f)).f1 = zDF (fc t a f).f1 ∧ ¬ ((fc t a f).f0 = a ∧ rd (ZK (fc t a f).f1) f = f)) := by
  have hg := zE1 t t.length 0 (Zg h).2.2 a h0 (by omega) f hf0 hf1
  unfold zAE at hg
  by_cases hb : (fc t a f).f0 = -1
  · rw [if_pos hb] at hg
    exact .inl ⟨hb, by simpa using hg⟩
  · rw [if_neg hb] at hg
    by_cases hi : 0 ≤ (fc t a f).f0 ∧ (fc t a f).f0 < (t.length : Int) ∧ 0 ≤ (fc t a f).f1 ∧ (fc t a f).f1 ≤ 23
    · rw [if_pos hi, Bool.and_eq_true, Bool.and_eq_true, Bool.not_eq_true'] at hg
      refine .inr ⟨hi, eq_of_beq hg.1.1, eq_of_beq hg.1.2, fun hc => ?_⟩
      have := hg.2
      rw [Bool.and_eq_false_iff] at this
      rcases this with h2 | h2
      · exact absurd hc.1 (by simpa using h2)
      · exact absurd hc.2 (by simpa using h2)
    · rw [if_neg hi] at hg; cases hg
end Go.Proofs.Ythjpdljdodalaaa.P
namespace Go.Proofs.Ythjpdljdodalaaa.P
open Go.RowKit Go.Proofs.YthjpdljdodalaaaW.PrintWords Go.Proofs.Ythjpdljdodalaaa.Lib
set_option linter.unusedVariables false
def zE2 (cols : Nat) (j f b : Int) (p : List Int) : List (List Int) := (zDB [f]).map fun c => zCF cols j f b p c
theorem zB5 (cols : Nat) (j f b : Int) (p : List Int) : ∀ (L : List Int) (A : List (List Int)), QV cols j f b p L (A.flatten, (A.length : Int)) = ((A ++ L.map fun c => zCF cols j f b p c).flatten, ((A ++ L.map fun c => zCF cols j f b p c).length : Int))
 | [], A => by simp [QV]
 | c :: cs, A => by
  have h := zB5 cols j f b p cs (A ++ [zCF cols j f b p c])
  have e1 : (A ++ [zCF cols j f b p c]).flatten = A.flatten ++ zCF cols j f b p c := by simp
  have e2 : ((A ++ [zCF cols j f b p c]).length : Int) = (A.length : Int) + 1 := by simp
  rw [e1, e2] at h
  rw [QV, h]
  simp
def zE3 (cols : Nat) (A : List (List Int)) (j f : Nat) (x : qU) : List (List Int) :=
 if 4 * x.f0 + rd (ZK x.f1) (f : Int) < 4 * (j : Int) + (f : Int) then A else A ++ zE2 cols j f x.f0 (ZK x.f1)
theorem zCv {σ τ : Type} {Rel : σ → τ → Prop} {s1 : σ → Nat → Nat → qU → σ} {s2 : τ → Nat → Nat → qU → τ} (h : ∀ a b j f x, Rel a b → Rel (s1 a j f x) (s2 b j f x)) (j : Nat) : ∀ (r : List qU) (f : Nat) (a : σ) (b : τ), Rel a b → Rel (zDC s1 j r f a) (zDC s2 j r f b)
 | [], _, _, _, hr => hr
 | x :: xs, f, a, b, hr => by
  rw [zDC, zDC]
  refine zCv h j xs (f + 1) _ _ ?_
  split
  next =>
   exact hr
  next =>
   exact h _ _ _ _ _ hr
theorem zCw {σ τ : Type} {Rel : σ → τ → Prop} {s1 : σ → Nat → Nat → qU → σ} {s2 : τ → Nat → Nat → qU → τ} (h : ∀ a b j f x, Rel a b → Rel (s1 a j f x) (s2 b j f x)) : ∀ (l : List (List qU)) (j : Nat) (a : σ) (b : τ), Rel a b → Rel (zBY s1 l j a) (zBY s2 l j b)
 | [], _, _, _, hr => hr
 | r :: rs, j, a, b, hr => by
  rw [zBY, zBY]
  exact zCw h rs (j + 1) _ _ (zCv h j r 0 a b hr)
def JC (t : Tri) : List (List Int) := zBY (zE3 (7 * t.length)) t 0 []
theorem zEV (t : Tri) : zAh t = ((JC t).flatten, ((JC t).length : Int)) := by
 refine zCw (Rel := fun (a : List Int × Int) (b : List (List Int)) => a = (b.flatten, (b.length : Int))) (fun a b j f x hr => ?_) t 0 ([], 0) [] (by simp)
 rw [hr]
 unfold Jn zE3
 split
 next =>
  rfl
 next =>
  exact zB5 _ _ _ _ _ _ _
def zAF (t : Tri) (a f : Int) : Prop := (fc t a f).f0 > a ∨ ((fc t a f).f0 = a ∧ rd (ZK (fc t a f).f1) f > f)
instance (t : Tri) (a f : Int) : Decidable (zAF t a f) := by unfold zAF; infer_instance
def QW (t : Tri) (a : Int) : Int → Nat → List (List Int)
 | _, 0 => []
 | f, d + 1 => (if zAF t a f then [[a, f]] else []) ++ QW t a (f + 1) d
def QS (t : Tri) : Int → Nat → List (List Int)
 | _, 0 => []
 | a, d + 1 => QW t a 0 4 ++ QS t (a + 1) d
def zBf (t : Tri) (p : List Int) : List (List Int) := zE2 (7 * t.length) (rd p 0) (rd p 1) (fc t (rd p 0) (rd p 1)).f0 (ZK (fc t (rd p 0) (rd p 1)).f1)
theorem zF0 {t : Tri} (h : QK t = true) {a f : Int} (h0 : 0 ≤ a) (h1 : a < t.length) (hf0 : 0 ≤ f) (hf1 : f ≤ 3) (hb : ¬ (fc t a f).f0 < 0) : zAF t a f ↔ ¬ (4 * (fc t a f).f0 + rd (ZK (fc t a f).f1) f < 4 * a + f) := by
 rcases Js h h0 h1 hf0 hf1 with ⟨e, _⟩ | ⟨⟨g0, g1, g2, g3⟩, _, _, hn⟩
 next =>
  omega
 next =>
  obtain ⟨k0, k1⟩ := Jo g2 g3 hf0 hf1
  unfold zAF
  generalize (fc t a f).f0 = b at *
  generalize rd (ZK (fc t a f).f1) f = g at *
  by_cases e : b = a
  next =>
   have : ¬ g = f := fun hc => hn ⟨e, hc⟩
   constructor <;> intro hh <;> omega
  next =>
   constructor <;> intro hh <;> omega
theorem zB6 {t : Tri} (h : QK t = true) (j : Nat) (hj : j < t.length) : ∀ (d f : Nat) (A : List (List Int)), f + d = 4 → zDC (zE3 (7 * t.length)) j (t[j].drop f) f A = A ++ (QW t j f d).flatMap (zBf t)
 | 0, f, A, hf => by
  have h4 : t[j].length = 4 := (Zg h).2.1 _ (List.getElem_mem hj)
  rw [List.drop_eq_nil_of_le (by omega), zDC, QW]; simp
 | d + 1, f, A, hf => by
  have h4 : t[j].length = 4 := (Zg h).2.1 _ (List.getElem_mem hj)
  have hlt : f < t[j].length := by omega
  have hfc : fc t (j : Int) (f : Int) = t[j][f] := by unfold fc; rw [Qf t j hj, zAz _ f hlt]
  rw [List.drop_eq_getElem_cons hlt, zDC, zB6 h j hj d (f + 1) _ (by omega), QW]
  have e1 : ((f : Int) + 1) = ((f + 1 : Nat) : Int) := by omega
  rw [e1, List.flatMap_append, ← List.append_assoc]
  congr 1
  have hff := zF0 (a := (j : Int)) (f := (f : Int)) h (by omega) (by omega) (by omega) (by omega)
  by_cases hb : t[j][f].f0 < 0
  next =>
   rw [if_pos hb, if_neg (fun hc => by unfold zAF at hc; rw [hfc] at hc; omega)]; simp
  next =>
   rw [if_neg hb]
   have hff2 := hff (by rw [hfc]; exact hb)
   rw [hfc] at hff2
   unfold zE3
   by_cases hc : 4 * t[j][f].f0 + rd (ZK t[j][f].f1) (f : Int) < 4 * (j : Int) + (f : Int)
   next =>
    rw [if_pos hc, if_neg (fun hq => (hff2.1 hq) hc)]; simp
   next =>
    rw [if_neg hc, if_pos (hff2.2 hc)]
    have e2 : zBf t [(j : Int), (f : Int)] = zE2 (7 * t.length) (j : Int) (f : Int) t[j][f].f0 (ZK t[j][f].f1) := by
     show zE2 (7 * t.length) (j : Int) (f : Int) (fc t (j : Int) (f : Int)).f0 (ZK (fc t (j : Int) (f : Int)).f1) = _
     rw [hfc]
    simp [e2]
theorem zB7 {t : Tri} (h : QK t = true) : ∀ (d j : Nat) (A : List (List Int)), j + d = t.length → zBY (zE3 (7 * t.length)) (t.drop j) j A = A ++ (QS t j d).flatMap (zBf t)
 | 0, j, A, hj => by rw [List.drop_eq_nil_of_le (by omega), zBY, QS]; simp
 | d + 1, j, A, hj => by
  have hlt : j < t.length := by omega
  have e1 : ((j : Int) + 1) = ((j + 1 : Nat) : Int) := by omega
  have h2 := zB6 h j hlt 4 0 A (by omega)
  rw [List.drop_zero] at h2
  rw [List.drop_eq_getElem_cons hlt, zBY, h2, zB7 h d (j + 1) _ (by omega), QS, List.flatMap_append, List.append_assoc, e1]
  rfl
theorem JY {t : Tri} (h : QK t = true) : JC t = (QS t 0 t.length).flatMap (zBf t) := by
 have := zB7 h t.length 0 [] (by omega)
 rw [List.drop_zero, List.nil_append] at this
 exact this
theorem zEW {t : Tri} (h : QK t = true) : zF6 t := by
 obtain ⟨h8, h4, _⟩ := Zg h
 refine ⟨h8, fun r hr => by rw [h4 r hr]; omega, fun r hr x hx hb => ?_⟩
 obtain ⟨j, hj, rfl⟩ := List.getElem_of_mem hr
 obtain ⟨f, hf, rfl⟩ := List.getElem_of_mem hx
 have h4' := h4 _ (List.getElem_mem hj)
 have hfc : fc t (j : Int) (f : Int) = t[j][f] := by unfold fc; rw [Qf t j hj, zAz _ f hf]
 have := Js (a := (j : Int)) (f := (f : Int)) h (by omega) (by omega) (by omega) (by omega)
 rw [hfc] at this
 rcases this with ⟨e, _⟩ | ⟨⟨g0, g1, g2, g3⟩, _⟩
 next =>
  omega
 next =>
  exact ⟨g1, g2, g3⟩
theorem zDO {t : Tri} (h : QK t = true) : qH.f t = some (((JC t).length : Int), 7 * (t.length : Int), (JC t).flatten) := by
 unfold qH.f
 rw [if_pos (zEW h), zEV]
theorem zAX {t : Tri} (h : QK t = true) : ∀ r ∈ JC t, r.length = 7 * t.length := by
 intro r hr
 rw [JY h] at hr
 obtain ⟨p, _, hp⟩ := List.mem_flatMap.1 hr
 obtain ⟨c, _, rfl⟩ := List.mem_map.1 hp
 exact zCR _ _ _ _ _ _
theorem zB8 (t : Tri) (a : Int) : ∀ (d : Nat) (f : Int), (QW t a f d).length ≤ d
 | 0, _ => by simp [QW]
 | d + 1, f => by
  have := zB8 t a d (f + 1)
  rw [QW, List.length_append]
  split <;> simp <;> omega
theorem zA2 (t : Tri) : ∀ (d : Nat) (a : Int), (QS t a d).length ≤ 4 * d
 | 0, _ => by simp [QS]
 | d + 1, a => by
  have := zA2 t d (a + 1)
  have := zB8 t a 4 0
  rw [QS, List.length_append]
  omega
def zE4 (t : Tri) (p : List Int) : Prop := ∃ a f : Int, p = [a, f] ∧ 0 ≤ a ∧ a < t.length ∧ 0 ≤ f ∧ f ≤ 3 ∧ ¬ (fc t a f).f0 < 0
theorem zC6 (t : Tri) {a : Int} (h0 : 0 ≤ a) (h1 : a < t.length) : ∀ (d : Nat) (f : Int), 0 ≤ f → f + d = 4 → ∀ p ∈ QW t a f d, zE4 t p
 | 0, _, _, _, p, hp => by simp [QW] at hp
 | d + 1, f, hf, he, p, hp => by
  rw [QW, List.mem_append] at hp
  rcases hp with hp | hp
  next =>
   by_cases hc : zAF t a f
   next =>
    rw [if_pos hc] at hp
    have : p = [a, f] := by simpa using hp
    exact ⟨a, f, this, h0, h1, hf, by omega, by unfold zAF at hc; omega⟩
   next =>
    rw [if_neg hc] at hp; simp at hp
  next =>
   exact zC6 t h0 h1 d (f + 1) (by omega) (by omega) p hp
theorem zC7 (t : Tri) : ∀ (d : Nat) (a : Int), 0 ≤ a → a + d = t.length → ∀ p ∈ QS t a d, zE4 t p
 | 0, _, _, _, p, hp => by simp [QS] at hp
 | d + 1, a, ha, he, p, hp => by
  rw [QS, List.mem_append] at hp
  rcases hp with hp | hp
  next =>
   exact zC6 t ha (by omega) 4 0 (by omega) (by omega) p hp
  next =>
   exact zC7 t d (a + 1) (by omega) (by omega) p hp
section
variable {t : Tri}
theorem JZ (h : QK t = true) {a : Int} (h0 : 0 ≤ a) (h1 : a < t.length) {R : List (List Int)} {D : Nat} (hR : ∀ acc : List (List Int), acc.length + D ≤ 100 → Ev (fun k => zu.l0 k acc (a + 1) t) (acc ++ R)) :
 ∀ (d : Nat) (f : Int) (acc : List (List Int)), 0 ≤ f → f + d = 4 → acc.length + d + D ≤ 100 → Ev (fun k => zu.l1 k acc a f t) (acc ++ QW t a f d ++ R)
 | 0, f, acc, hf, he, hl => by
  have h8 := (Zg h).1
  refine qx (fun k => by rw [zu.l1, if_neg (by omega), ZG (by omega) (by omega)]) ?_
  rw [QW, List.append_nil]; exact hR acc (by omega)
 | d + 1, f, acc, hf, he, hl => by
  obtain ⟨h8, h4, _⟩ := Zg h
  have hr := zF7 h4 h0 h1
  refine qx (fun k => by rw [zu.l1, if_pos (by omega), if_pos h0, if_pos h1, if_pos hf, if_pos (by omega)]) ?_
  rw [QW]
  have hyes : zAF t a f → Ev (fun k => if acc.length < 5864062014805 then zu.l1 k (acc ++ [[a, f]]) a (wrap64 (f + 1)) t else none) (acc ++ ((if zAF t a f then [[a, f]] else []) ++ QW t a (f + 1) d) ++ R) := fun hc => by
   rw [if_pos hc]
   refine ZD (by omega) (Ev.congr (fun k => by rw [ZG (by omega) (by omega)]) ?_)
   have := JZ h h0 h1 hR d (f + 1) (acc ++ [[a, f]]) (by omega) (by omega) (by simp; omega)
   rwa [List.append_assoc acc] at this
  have hno : ¬ zAF t a f → Ev (fun k => zu.l1 k acc a (wrap64 (f + 1)) t) (acc ++ ((if zAF t a f then [[a, f]] else []) ++ QW t a (f + 1) d) ++ R) := fun hc => by
   rw [if_neg hc, List.nil_append]
   exact Ev.congr (fun k => by rw [ZG (by omega) (by omega)]) (JZ h h0 h1 hR d (f + 1) acc (by omega) (by omega) (by omega))
  change Ev (fun k => if (fc t a f).f0 > a then _ else if (fc t a f).f0 = a then (ZC.f k (fc t a f).f1 f).bind _ else _) _
  by_cases c1 : (fc t a f).f0 > a
  next =>
   exact ZD c1 (hyes (.inl c1))
  next =>
   refine Ze c1 ?_
   by_cases c2 : (fc t a f).f0 = a
   next =>
    have hp : 0 ≤ (fc t a f).f1 ∧ (fc t a f).f1 ≤ 23 := by
     rcases Js h h0 h1 hf (by omega) with ⟨e, _⟩ | ⟨⟨_, _, g2, g3⟩, _⟩
     next =>
      omega
     next =>
      exact ⟨g2, g3⟩
    refine ZD c2 (Ev.bind (zAH hp.1 hp.2 hf (by omega)) ?_)
    by_cases c3 : rd (ZK (fc t a f).f1) f > f
    next =>
     exact ZD c3 (hyes (.inr ⟨c2, c3⟩))
    next =>
     exact Ze c3 (hno (fun hc => by rcases hc with hc | hc; exact c1 hc; exact c3 hc.2))
   next =>
    exact Ze c2 (hno (fun hc => by rcases hc with hc | hc; exact c1 hc; exact c2 hc.1))
theorem zAY (h : QK t = true) : ∀ (d : Nat) (a : Int) (acc : List (List Int)), 0 ≤ a → a + d = t.length → acc.length + 4 * d ≤ 100 → Ev (fun k => zu.l0 k acc a t) (acc ++ QS t a d)
 | 0, a, acc, ha, he, hl => by
  refine qx (fun k => by rw [zu.l0, qF.f, Option.bind_some, if_neg (by omega)]) ?_
  rw [QS, List.append_nil]; exact Ev.now _
 | d + 1, a, acc, ha, he, hl => by
  refine qx (fun k => by rw [zu.l0, qF.f, Option.bind_some, if_pos (by omega)]) ?_
  have := JZ h ha (by omega) (R := QS t (a + 1) d) (D := 4 * d) (fun acc2 hl2 => zAY h d (a + 1) acc2 (by omega) (by omega) hl2) 4 0 acc (by omega) (by omega) (by omega)
  rwa [List.append_assoc] at this
theorem zBg (h : QK t = true) : Ev (fun k => zu.f k t) (QS t 0 t.length) := by
 have h8 := (Zg h).1
 have := zAY h t.length 0 [] (by omega) (by omega) (by simp; omega)
 rwa [List.nil_append] at this
theorem zB9 {a b : Int} (ha : sm a) (hb : sm b) (hne : b ≠ a) : qQ.f a b = some (qd b a) := by
 obtain ⟨ha0, ha1⟩ := ha
 obtain ⟨hb0, hb1⟩ := hb
 rcases (show a = 0 ∨ a = 1 ∨ a = 2 ∨ a = 3 by omega) with rfl | rfl | rfl | rfl <;> rcases (show b = 0 ∨ b = 1 ∨ b = 2 ∨ b = 3 by omega) with rfl | rfl | rfl | rfl <;> first | exact absurd rfl hne | decide +kernel
theorem qd_bd {a b : Int} (ha : sm a) (hb : sm b) (hne : a ≠ b) : 0 ≤ qd a b ∧ qd a b ≤ 2 := (zCQ ha hb hne).2
theorem zBA (h : QK t = true) {P : List (List Int)} {i : Int} {a f : Int} (h0 : 0 ≤ a) (h1 : a < t.length) (hf0 : 0 ≤ f) (hf1 : f ≤ 3) (hb : ¬ (fc t a f).f0 < 0) {R : List (List Int)} {D : Nat} (hi : 0 ≤ i) (hi2 : i ≤ 1000)
 (hR : ∀ acc : List (List Int), acc.length + D ≤ 1000 → Ev (fun k => zq.l0 k acc P (i + 1) t) (acc ++ R)) :
 ∀ (d : Nat) (c : Int) (acc : List (List Int)), 0 ≤ c → c + d = 4 → acc.length + d + D ≤ 1000 → Ev (fun k => zq.l1 k acc P i a f c t) (acc ++ ((zC4 c d).filter fun x => ![f].contains x).map (fun x => zCF (7 * t.length) a f (fc t a f).f0 (ZK (fc t a f).f1) x) ++ R)
 | 0, c, acc, hc, he, hl => by
  refine qx (fun k => by rw [zq.l1, if_neg (by omega), ZG (by omega) (by omega)]) ?_
  rw [zC4]; simp only [List.filter_nil, List.map_nil, List.append_nil]; exact hR acc (by omega)
 | d + 1, c, acc, hc, he, hl => by
  obtain ⟨h8, h4, _⟩ := Zg h
  have ih := fun (acc2 : List (List Int)) (hl2 : acc2.length + d + D ≤ 1000) => zBA h h0 h1 hf0 hf1 hb hi hi2 hR d (c + 1) acc2 (by omega) (by omega) hl2
  by_cases hcf : c = f
  next =>
   refine qx (fun k => by rw [zq.l1, if_pos (by omega), if_pos hcf, ZG (by omega) (by omega)]) ?_
   have e1 : (![f].contains c) = false := by simp [hcf]
   rw [zC4, List.filter_cons, e1, if_neg (by simp)]
   exact ih acc (by omega)
  next =>
   have e1 : (![f].contains c) = true := by simp [hcf]
   have hsc : sm c := ⟨hc, by omega⟩
   have hsf : sm f := ⟨hf0, hf1⟩
   obtain ⟨g0, g1, g2, g3⟩ : 0 ≤ (fc t a f).f0 ∧ (fc t a f).f0 < (t.length : Int) ∧ 0 ≤ (fc t a f).f1 ∧ (fc t a f).f1 ≤ 23 := by
    rcases Js h h0 h1 hf0 hf1 with ⟨e, _⟩ | ⟨e, _⟩
    next =>
     omega
    next =>
     exact e
   have hd := Jo g2 g3 hc (show c ≤ 3 by omega)
   have hx := Jo g2 g3 hf0 hf1
   have hne := zBz g2 g3 hsc hsf hcf
   obtain ⟨q0, q1⟩ := qd_bd hsc hsf hcf
   obtain ⟨r0, r1⟩ := qd_bd hd hx hne
   have hmr : zCF (7 * t.length) a f (fc t a f).f0 (ZK (fc t a f).f1) c = zA0 (zA0 (Jm (Jm (List.replicate (7 * t.length) 0) (7 * a + c)) (7 * a + 4 + qd c f)) (7 * (fc t a f).f0 + rd (ZK (fc t a f).f1) c)) (7 * (fc t a f).f0 + 4 + qd (rd (ZK (fc t a f).f1) c) (rd (ZK (fc t a f).f1) f)) := rfl
   have hcorner : Ev (fun k => qk.f k t a f c) ((fc t a f).f0, rd (ZK (fc t a f).f1) f, rd (ZK (fc t a f).f1) c) := by
    have hr := zF7 h4 h0 h1
    refine Ev.congr (fun k => by unfold qk.f; rw [if_pos h0, if_pos h1, if_pos hf0, if_pos (by omega)]) ?_
    exact Ev.bind (zAH g2 g3 hf0 hf1) (Ev.bind (zAH g2 g3 hc (by omega)) (Ev.now _))
   have hbt1 := zB9 hsf hsc hcf
   have hbt2 := zB9 (show sm (rd (ZK (fc t a f).f1) f) from hx) (show sm (rd (ZK (fc t a f).f1) c) from hd) hne
   have hlt : (7 * (t.length : Int)) = ((7 * t.length : Nat) : Int) := by omega
   rw [zC4, List.filter_cons, e1, if_pos rfl, List.map_cons, hmr]
   generalize (fc t a f).f0 = b at *
   generalize rd (ZK (fc t a f).f1) c = dd at *
   generalize rd (ZK (fc t a f).f1) f = x at *
   generalize qd c f = q at *
   generalize qd dd x = q2 at *
   obtain ⟨d0, d1⟩ := hd
   have w1 : wrap64 (7 * a) = 7 * a := ZG (by omega) (by omega)
   have w2 : wrap64 (7 * a + c) = 7 * a + c := ZG (by omega) (by omega)
   have w3 : wrap64 (7 * a + 4) = 7 * a + 4 := ZG (by omega) (by omega)
   have w4 : wrap64 (7 * a + 4 + q) = 7 * a + 4 + q := ZG (by omega) (by omega)
   have w5 : wrap64 (7 * b) = 7 * b := ZG (by omega) (by omega)
   have w6 : wrap64 (7 * b + dd) = 7 * b + dd := ZG (by omega) (by omega)
   have w7 : wrap64 (7 * b + 4) = 7 * b + 4 := ZG (by omega) (by omega)
   have w8 : wrap64 (7 * b + 4 + q2) = 7 * b + 4 + q2 := ZG (by omega) (by omega)
   have w9 : wrap64 (7 * (t.length : Int)) = 7 * (t.length : Int) := ZG (by omega) (by omega)
   have w10 : wrap64 (c + 1) = c + 1 := ZG (by omega) (by omega)
   have hln : (List.replicate (7 * t.length) (0 : Int)).length = 7 * t.length := List.length_replicate
   refine qx (fun k => by rw [zq.l1, if_pos (by omega), if_neg hcf, qF.f, Option.bind_some, w9, if_pos (by omega), if_pos (by omega), Option.bind_some, hlt, Int.toNat_natCast]) ?_
   refine Ev.bind hcorner ?_
   dsimp only
   refine Ev.congr (fun k => by rw [w1, w2, if_pos (by omega), if_pos (by rw [hln]; omega), Option.bind_some, hbt1, Option.bind_some, w3, w4, if_pos (by omega), if_pos (by rw [hln]; omega), Option.bind_some, w5, w6, if_pos (by omega), if_pos (by rw [hln]; omega), Option.bind_some, hbt2, Option.bind_some, w7, w8, if_pos (by omega), if_pos (by rw [hln]; omega), if_pos (by omega), w10]) ?_
   have := ih (acc ++ [zA0 (zA0 (Jm (Jm (List.replicate (7 * t.length) 0) (7 * a + c)) (7 * a + 4 + q)) (7 * b + dd)) (7 * b + 4 + q2)]) (by simp; omega)
   rw [List.append_assoc acc] at this
   exact this
theorem zBB (h : QK t = true) {P : List (List Int)} (hP : ∀ p ∈ P, zE4 t p) (hPl : P.length ≤ 100) : ∀ (d i : Nat) (acc : List (List Int)), i + d = P.length → acc.length + 4 * d ≤ 1000 → Ev (fun k => zq.l0 k acc P (i : Int) t) (acc ++ (P.drop i).flatMap (zBf t))
 | 0, i, acc, he, hl => by
  refine qx (fun k => by rw [zq.l0, if_neg (by omega)]) ?_
  rw [List.drop_eq_nil_of_le (by omega)]; simp only [List.flatMap_nil, List.append_nil]; exact Ev.now _
 | d + 1, i, acc, he, hl => by
  have hlt : i < P.length := by omega
  obtain ⟨a, f, hp, h0, h1, hf0, hf1, hb⟩ := hP P[i] (List.getElem_mem hlt)
  have ex : za P (i : Int) = [a, f] := by simp [za, hlt, hp]
  refine qx (fun k => by rw [zq.l0, if_pos (by omega), if_pos (by omega), ex, if_pos (by simp), if_pos (by simp)]) ?_
  have := zBA h (P := P) (i := (i : Int)) h0 h1 hf0 hf1 hb (R := (P.drop (i + 1)).flatMap (zBf t)) (D := 4 * d) (by omega) (by omega) (fun acc2 hl2 => zBB h hP hPl d (i + 1) acc2 (by omega) hl2) 4 0 acc (by omega) (by omega) (by omega)
  rw [List.append_assoc] at this
  rw [List.drop_eq_getElem_cons hlt, hp, List.flatMap_cons]
  exact this
theorem zC8 (h : QK t = true) : Ev (fun k => zq.f k t) (JC t) := by
 have h8 := (Zg h).1
 have hl := zA2 t t.length 0
 refine Ev.bind (zBg h) ?_
 have := zBB h (zC7 t t.length 0 (by omega) (by omega)) (by omega) (QS t 0 t.length).length 0 [] (by omega) (by simp; omega)
 rw [List.nil_append, List.drop_zero, ← JY h] at this
 exact this
theorem zBC (h : QK t = true) : (JC t).length ≤ 1000 := by
 have h8 := (Zg h).1
 have hl := zA2 t t.length 0
 rw [JY h, List.length_flatMap]
 have : ∀ P : List (List Int), ((P.map fun p => (zBf t p).length).sum) ≤ 4 * P.length := by
  intro P
  induction P with
  | nil => simp
  | cons p ps ih =>
   simp only [List.map_cons, List.sum_cons, List.length_cons]
   have h1 : (zBf t p).length ≤ 4 := by unfold zBf zE2; rw [List.length_map]; exact zCp _
   omega
 have := this (QS t 0 t.length)
 omega
end
end Go.Proofs.Ythjpdljdodalaaa.P
namespace Go.Proofs.Ythjpdljdodalaaa.P
open Go.RowKit Go.Proofs.YthjpdljdodalaaaW.PrintWords Go.Proofs.Ythjpdljdodalaaa.Lib
set_option linter.unusedVariables false
def Ja (t : Tri) : Int := if QK t then (if (t.length : Int) > 6 then 3 else 0) else 1
def inR (x : Int) : Bool := decide (0 ≤ x) && decide (x ≤ 1000)
theorem zA3 {t : Tri} (h : Ja t = 0) : QK t = true ∧ t.length ≤ 6 := by
  unfold Ja at h
  cases ht : QK t with
  | false => rw [ht] at h; simp at h
  | true =>
    rw [ht, if_pos rfl] at h
    refine ⟨rfl, ?_⟩
    by_cases hl : (t.length : Int) > 6
    · rw [if_pos hl] at h; simp at h
    · omega
theorem zBh (t : Tri) : Ev (fun k => Zy.f k t) (Ja t) := by
  refine Ev.bind (zBe t) ?_
  unfold Ja
  cases QK t with
  | false => exact Ze (by simp) (Ev.now _)
  | true =>
    refine ZD rfl (Ev.bind (Qv (by unfold qF.f; rfl)) ?_)
    rw [if_pos rfl]
    by_cases hl : (t.length : Int) > 6
    · exact ZD hl (JP (if_pos hl).symm)
    · exact Ze hl (JP (if_neg hl).symm)
theorem zBi {t : Tri} (hs : Small t) : Ev (fun k => Zd.f k t) (Ja t) := by
  refine Ev.bind (zBd hs) ?_
  unfold Ja
  cases QK t with
  | false => exact Ze (by simp) (Ev.now _)
  | true =>
    refine ZD rfl ?_
    rw [if_pos rfl]
    by_cases hl : (t.length : Int) > 6
    · exact ZD hl (JP (if_pos hl).symm)
    · exact Ze hl (JP (if_neg hl).symm)
theorem zEX (a b c : Int) : QN.f a b c = some (decide (b ≤ a) && decide (a ≤ c)) := by
  unfold QN.f
  by_cases h : b ≤ a <;> simp [h]
end Go.Proofs.Ythjpdljdodalaaa.P
namespace Go.Proofs.Ythjpdljdodalaaa.P
open Go.RowKit Go.Proofs.YthjpdljdodalaaaW.PrintWords Go.Proofs.Ythjpdljdodalaaa.Lib
set_option linter.unusedVariables false
theorem zBj {α : Type} (l : List α) (z : α) (n : Nat) (h : n < l.length) :
    (l.take n ++ List.replicate (l.length - n) z).set n l[n] = l.take (n + 1) ++ List.replicate (l.length - (n + 1)) z := by
  have e : l.length - n = (l.length - (n + 1)) + 1 := by omega
  rw [e, List.replicate_succ, List.set_append_right _ _ (by simp; omega)]
  have : n - (l.take n).length = 0 := by simp; omega
  rw [this, List.set_cons_zero, List.take_succ_eq_append_getElem h, List.append_assoc]
  rfl
theorem zCY (l : List Int) (h : l.length ≤ 4398046511104) : Ev (fun k => zh.f k l) l := by
  have hl : Ev (fun k => zh.l0 k l (List.replicate l.length 0) 0) l := by
    refine JR (fun k (s : List Int × Int) => zh.l0 k l s.1 s.2) (fun s => ∃ n : Nat, n ≤ l.length ∧ s.2 = n ∧ s.1 = l.take n ++ List.replicate (l.length - n) 0) (fun s => l.length - s.2.toNat) (fun _ => l) ?_ (List.replicate l.length 0, 0) ⟨0, by omega, rfl, by simp⟩
    rintro ⟨a, i⟩ ⟨n, hn, rfl, rfl⟩
    dsimp only
    by_cases hlt : n < l.length
    · refine .inr ⟨(l.take (n + 1) ++ List.replicate (l.length - (n + 1)) 0, ((n + 1 : Nat) : Int)), ⟨n + 1, by omega, rfl, rfl⟩, by simp; omega, rfl, fun k => ?_⟩
      simp only [zh.l0]
      rw [if_pos (by omega), if_pos (by omega), if_pos (by simp; omega), Za (by omega), Int.toNat_natCast, zBa l n hlt, zBj l 0 n hlt]
    · obtain rfl : n = l.length := by omega
      refine .inl fun k => ?_
      simp only [zh.l0]
      rw [if_neg (by omega)]
      simp
  refine Ev.congr (fun k => ?_) hl
  unfold zh.f
  rw [if_pos (by omega), if_pos (by simp; omega), Int.toNat_natCast]
theorem zCZ (l : List Int) (h : l.length ≤ 4398046511104) : Ev (fun k => qM.f k l l) true := by
  have hl : Ev (fun k => qM.l0 k l l 0) true := by
    refine JR (fun k (s : Int) => qM.l0 k l l s) (fun s => ∃ n : Nat, n ≤ l.length ∧ s = n) (fun s => l.length - s.toNat) (fun _ => true) ?_ 0 ⟨0, by omega, rfl⟩
    rintro i ⟨n, hn, rfl⟩
    by_cases hlt : n < l.length
    · refine .inr ⟨((n + 1 : Nat) : Int), ⟨n + 1, by omega, rfl⟩, by simp; omega, rfl, fun k => ?_⟩
      simp only [qM.l0]
      rw [if_pos (by omega), if_pos (by omega), if_pos (by omega), if_pos trivial, Za (by omega)]
    · refine .inl fun k => ?_
      simp only [qM.l0]
      rw [if_neg (by omega)]
  refine Ev.congr (fun k => ?_) hl
  unfold qM.f
  rw [if_pos rfl]
end Go.Proofs.Ythjpdljdodalaaa.P
namespace Go.Proofs.Ythjpdljdodalaaa.P
open Go.RowKit Go.Proofs.YthjpdljdodalaaaW.PrintWords Go.Proofs.Ythjpdljdodalaaa.Lib
set_option linter.unusedVariables false
def JQ (R : List (List Int)) (v : List Int) : Bool := R.all fun r => decide (zDH r v 0 = 0)
def Qw (t : Tri) (v : List Int) : Bool := if (v.length : Int) = 7 * (t.length : Int) then (if v.all inR = true then JQ (JC t) v else false) else false
def Jt (t : Tri) (v : List Int) : Bool := if Ja t = 0 then Qw t v else false
theorem zDP {t : Tri} {v : List Int} (hv : v.length ≤ 4398046511104) {R : Bool} (hR : Ev (fun k => (zq.f k t).bind fun t106 => zj.l1 k v t106 0) R) (d : Nat) : ∀ n : Nat, n + d = v.length → Ev (fun k => zj.l0 k v (n : Int) t) (if (v.drop n).all inR = true then R else false) := by
  induction d with
  | zero =>
    intro n hn
    refine qx (fun k => by rw [zj.l0, if_neg (by omega)]) ?_
    rw [List.drop_eq_nil_of_le (by omega), if_pos (by rfl)]; exact hR
  | succ d ih =>
    intro n hn
    have hlt : n < v.length := by omega
    refine qx (fun k => by rw [zj.l0, if_pos (by omega), if_pos (by omega), zBa v n hlt, zEX, Option.bind_some, Za (by omega)]) ?_
    rw [List.drop_eq_getElem_cons hlt, List.all_cons]
    change Ev (fun k => if inR v[n] = true then _ else _) _
    cases h : inR v[n] with
    | false => exact Ze (by simp) (by rw [Bool.false_and, if_neg (by simp)]; exact Ev.now _)
    | true => exact ZD rfl (by rw [Bool.true_and]; exact ih (n + 1) (by omega))
theorem zAZ (r v : List Int) (hl : r.length ≤ v.length) (hr : r.length ≤ 1000000) : ∀ (d n : Nat) (s : Int), n + d = r.length → Ev (fun k => ZE.l0 k r v s (n : Int)) (zDH (r.drop n) (v.drop n) s)
  | 0, n, s, hn => by
    refine qx (fun k => by rw [ZE.l0, if_neg (by omega)]) ?_
    rw [List.drop_eq_nil_of_le (by omega)]
    cases v.drop n <;> exact Ev.now _
  | d + 1, n, s, hn => by
    have hlt : n < r.length := by omega
    have hlv : n < v.length := by omega
    refine qx (fun k => by rw [ZE.l0, if_pos (by omega), if_pos (by omega), if_pos (by omega), zBa r n hlt, zBa v n hlv, Za (by omega)]) ?_
    rw [List.drop_eq_getElem_cons hlt, List.drop_eq_getElem_cons hlv, zDH]
    exact zAZ r v hl hr d (n + 1) _ (by omega)
theorem zCa (r v : List Int) (hl : r.length ≤ v.length) (hr : r.length ≤ 1000000) : Ev (fun k => ZE.f k r v) (zDH r v 0) := by
  have := zAZ r v hl hr r.length 0 0 (by omega)
  rwa [List.drop_zero, List.drop_zero] at this
theorem zBD (R : List (List Int)) (v : List Int) (hR : ∀ r ∈ R, r.length ≤ v.length ∧ r.length ≤ 1000000) (hl : R.length ≤ 1000000) : ∀ (d n : Nat), n + d = R.length → Ev (fun k => zj.l1 k v R (n : Int)) (JQ (R.drop n) v)
  | 0, n, hn => by
    refine qx (fun k => by rw [zj.l1, if_neg (by omega)]) ?_
    rw [List.drop_eq_nil_of_le (by omega)]; exact Ev.now _
  | d + 1, n, hn => by
    have hlt : n < R.length := by omega
    have ex : za R (n : Int) = R[n] := by simp [za, hlt]
    have h1 := hR R[n] (List.getElem_mem hlt)
    refine qx (fun k => by rw [zj.l1, if_pos (by omega), if_pos (by omega), ex, Za (by omega)]) ?_
    refine Ev.bind (zCa _ v h1.1 h1.2) ?_
    unfold JQ
    rw [List.drop_eq_getElem_cons hlt, List.all_cons]
    by_cases hz : zDH R[n] v 0 = 0
    · rw [decide_eq_true hz, Bool.true_and]
      exact ZD hz (zBD R v hR hl d (n + 1) (by omega))
    · rw [decide_eq_false hz, Bool.false_and]
      exact Ze hz (Ev.now _)
theorem zAk (t : Tri) (v : List Int) (hv : v.length ≤ 4398046511104) : Ev (fun k => zj.f k t v) (Jt t v) := by
  have hfalse : Ev (fun k => zj.j0 k v true t) false := qx (fun k => by rw [zj.j0, if_pos rfl]) (Ev.now false)
  refine Ev.bind (zBh t) ?_
  unfold Jt
  by_cases hc : Ja t = 0
  · obtain ⟨ht, h6⟩ := zA3 hc
    rw [if_pos hc]
    unfold Qw
    refine ZD hc (Ev.bind (Qv (by unfold qF.f; rfl)) ?_)
    refine Ev.congr (fun k => by rw [ZG (by omega) (by omega)]) (f := fun k => zj.j0 k v ((v.length : Int) != (7 * (t.length : Int))) t) ?_
    by_cases hl : (v.length : Int) = 7 * (t.length : Int)
    · rw [if_pos hl]
      have e : ((v.length : Int) != (7 * (t.length : Int))) = false := by simp [hl]
      rw [e]
      refine qx (fun k => by rw [zj.j0, if_neg (by simp)]) ?_
      have hrows : Ev (fun k => (zq.f k t).bind fun t106 => zj.l1 k v t106 0) (JQ (JC t) v) := by
        refine Ev.bind (zC8 ht) ?_
        have := zBD (JC t) v (fun r hr => by have := zAX ht r hr; omega) (by have := zBC ht; omega) (JC t).length 0 (by omega)
        rwa [List.drop_zero] at this
      have := zDP hv hrows v.length 0 (by omega)
      rwa [List.drop_zero] at this
    · rw [if_neg hl]
      have e : ((v.length : Int) != (7 * (t.length : Int))) = true := by simp [hl]
      rw [e]
      exact hfalse
  · rw [if_neg hc]
    exact Ze hc hfalse
theorem zC9 (cols : Nat) (A r B : List Int) (k : Nat) (hA : A.length = k * cols) (hr : r.length = cols) : rowAt cols (A ++ (r ++ B)) k = r := by
  unfold rowAt
  have h3 : (k + 1) * cols = A.length + r.length := by rw [Nat.succ_mul]; omega
  rw [h3, ← hA, ← List.append_assoc, List.take_append_of_le_length (by simp), List.take_of_length_le (by simp), List.drop_append_of_le_length (Nat.le_refl _), List.drop_length, List.nil_append]
theorem zBE (cols : Nat) (v : List Int) : ∀ (R : List (List Int)) (A : List Int) (k : Nat), A.length = k * cols → (∀ r ∈ R, r.length = cols) → JN cols (A ++ R.flatten) v R.length k = JQ R v
  | [], _, _, _, _ => rfl
  | r :: R, A, k, hA, hR => by
    have hr := hR r (List.mem_cons_self ..)
    rw [List.length_cons, JN, List.flatten_cons, zC9 cols A r _ k hA hr]
    have ih := zBE cols v R (A ++ r) (k + 1) (by rw [List.length_append, hA, hr, Nat.succ_mul]) (fun x hx => hR x (List.mem_cons_of_mem _ hx))
    rw [List.append_assoc] at ih
    rw [ih]
    unfold JQ
    rw [List.all_cons]
    by_cases hz : zDH r v 0 = 0
    · rw [if_pos hz, decide_eq_true hz, Bool.true_and]
    · rw [if_neg hz, decide_eq_false hz, Bool.false_and]
theorem zAa (cols : Nat) : ∀ (R : List (List Int)), (∀ r ∈ R, r.length = cols) → R.flatten.length = R.length * cols
  | [], _ => by simp
  | r :: R, h => by
    rw [List.flatten_cons, List.length_append, zAa cols R (fun x hx => h x (List.mem_cons_of_mem _ hx)), h r (List.mem_cons_self ..), List.length_cons, Nat.succ_mul]; omega
theorem zAl {t : Tri} (h : QK t = true) (v : List Int) (hv : (v.length : Int) = 7 * (t.length : Int)) : Zc.f ((JC t).length : Int) (7 * (t.length : Int)) (JC t).flatten v = some (JQ (JC t) v) := by
  have h8 := (Zg h).1
  have hs := zBC h
  have hf := zAa (7 * t.length) (JC t) (zAX h)
  have e7 : (7 * (t.length : Int)).toNat = 7 * t.length := by omega
  unfold Zc.f
  rw [if_pos ?_, e7, Int.toNat_natCast]
  · have := zBE (7 * t.length) v (JC t) [] 0 (by simp) (zAX h)
    rw [List.nil_append] at this
    rw [this]
  · refine ⟨by omega, by omega, by omega, by omega, ?_, by omega⟩
    rw [hf]; push_cast; rfl
theorem zE5 (v : List Int) : zi.f v = some (!(v.all inR)) := by
  unfold zi.f qJ.f
  rw [contO (p := fun y => !(inR y)) v (fun y _ => by
    show qY.f y = _
    unfold qY.f
    rw [zA1]; rfl), List.not_all_eq_any_not]
theorem zBk {t : Tri} (h : QK t = true) (v : List Int) : qj.f t v = some (Qw t v) := by
  have h8 := (Zg h).1
  unfold qj.f Qw
  rw [ZG (by omega) (by omega)]
  by_cases hl : (v.length : Int) = 7 * (t.length : Int)
  · rw [if_pos hl, if_pos hl, zE5, Option.bind_some]
    cases ha : v.all inR with
    | false => rfl
    | true => rw [if_neg (by simp), zDO h, Option.bind_some, zAl h v hl, Option.bind_some, if_pos rfl]
  · rw [if_neg hl, if_neg hl]
end Go.Proofs.Ythjpdljdodalaaa.P
namespace Go.Proofs.Ythjpdljdodalaaa.P
open Go.RowKit Go.Proofs.YthjpdljdodalaaaW.PrintWords Go.Proofs.YthjpdljdodalaaaW.PrintLast Go.Proofs.YthjpdljdodalaaaW.PrintMore
attribute [local go_sem] zy zz qK qL zl zm qA qB
set_option linter.unusedVariables false
set_option linter.unusedSimpArgs false
def ZU.l0 : Nat → List Int → List Int → Int → Option (List Int)
  | 0, _, _, _ => none
  | k + 1, x0, x3, x4 => if x4 < (x0.length : Int) then (if 0 ≤ x4 then (if (rd x0 x4) = 0 then (ZU.l0 k x0 x3 (wrap64 (x4 + 1))) else (if x3.length < 17592186044416 then (ZU.l0 k x0 (x3 ++ [x4]) (wrap64 (x4 + 1))) else (none))) else (none)) else (some x3)
def ZU.f (k : Nat) (l0 : List Int) : Option (List Int) := ZU.l0 k l0 (([] : List Int)) 0
end Go.Proofs.Ythjpdljdodalaaa.P
namespace Go.Proofs.Ythjpdljdodalaaa.P
open Go.RowKit Go.Proofs.YthjpdljdodalaaaW.PrintWords Go.Proofs.Ythjpdljdodalaaa.Lib
set_option linter.unusedVariables false
def zCx : Nat → List Int → List Int
  | _, [] => []
  | i, x :: xs => if x = 0 then zCx (i + 1) xs else (i : Int) :: zCx (i + 1) xs
theorem zCA (l : List Int) (n : Nat) (h : n < l.length) : zCx n (l.drop n) = if l[n] = 0 then zCx (n + 1) (l.drop (n + 1)) else (n : Int) :: zCx (n + 1) (l.drop (n + 1)) := by
  rw [List.drop_eq_getElem_cons h]; rfl
theorem zDQ (l : List Int) (h : l.length ≤ 4398046511104) : Ev (fun k => ZU.f k l) (zCx 0 l) := by
  refine JR (fun k (s : List Int × Int) => ZU.l0 k l s.1 s.2) (fun s => ∃ n : Nat, n ≤ l.length ∧ s.2 = n ∧ s.1.length ≤ n) (fun s => l.length - s.2.toNat) (fun s => s.1 ++ zCx s.2.toNat (l.drop s.2.toNat)) ?_ ([], 0) ⟨0, by omega, rfl, by simp⟩
  rintro ⟨a, i⟩ ⟨n, hn, rfl, ha⟩
  dsimp only at ha ⊢
  by_cases hlt : n < l.length
  · right
    rw [Int.toNat_natCast, zCA l n hlt]
    by_cases hx : l[n] = 0
    · refine ⟨(a, ((n + 1 : Nat) : Int)), ⟨n + 1, by omega, rfl, by dsimp only; omega⟩, by dsimp only; omega, by dsimp only; rw [Int.toNat_natCast, if_pos hx], fun k => ?_⟩
      simp only [ZU.l0]
      rw [if_pos (by omega), if_pos (by omega), zBa l n hlt, if_pos hx, Za (by omega)]
    · refine ⟨(a ++ [(n : Int)], ((n + 1 : Nat) : Int)), ⟨n + 1, by omega, rfl, by simp; omega⟩, by dsimp only; omega, by dsimp only; rw [Int.toNat_natCast, if_neg hx]; simp, fun k => ?_⟩
      simp only [ZU.l0]
      rw [if_pos (by omega), if_pos (by omega), zBa l n hlt, if_neg hx, if_pos (by omega), Za (by omega)]
  · obtain rfl : n = l.length := by omega
    refine .inl fun k => ?_
    simp only [ZU.l0]
    rw [if_neg (by omega)]
    simp [zCx]
theorem zA4 (l : List Int) (h : l.length ≤ 4398046511104) : Ev (fun k => qX.f k l) (zCx 0 l) := by
  refine JR (fun k (s : List Int × Int) => qX.l0 k s.1 l (l.length : Int) s.2) (fun s => ∃ n : Nat, n ≤ l.length ∧ s.2 = n ∧ s.1.length ≤ n) (fun s => l.length - s.2.toNat) (fun s => s.1 ++ zCx s.2.toNat (l.drop s.2.toNat)) ?_ ([], 0) ⟨0, by omega, rfl, by simp⟩
  rintro ⟨a, i⟩ ⟨n, hn, rfl, ha⟩
  dsimp only at ha ⊢
  by_cases hlt : n < l.length
  · right
    rw [Int.toNat_natCast, zCA l n hlt]
    by_cases hx : l[n] = 0
    · refine ⟨(a, ((n + 1 : Nat) : Int)), ⟨n + 1, by omega, rfl, by dsimp only; omega⟩, by dsimp only; omega, by dsimp only; rw [Int.toNat_natCast, if_pos hx], fun k => ?_⟩
      simp only [qX.l0]
      rw [if_pos (by omega), if_pos (by omega), if_pos (by omega), zBa l n hlt, if_pos hx, Za (by omega)]
    · refine ⟨(a ++ [(n : Int)], ((n + 1 : Nat) : Int)), ⟨n + 1, by omega, rfl, by simp; omega⟩, by dsimp only; omega, by dsimp only; rw [Int.toNat_natCast, if_neg hx]; simp, fun k => ?_⟩
      simp only [qX.l0]
      rw [if_pos (by omega), if_pos (by omega), if_pos (by omega), zBa l n hlt, if_neg hx, if_pos (by omega), Za (by omega)]
  · obtain rfl : n = l.length := by omega
    refine .inl fun k => ?_
    simp only [qX.l0]
    rw [if_neg (by omega)]
    simp [zCx]
end Go.Proofs.Ythjpdljdodalaaa.P
namespace Go.Proofs.Ythjpdljdodalaaa.P
open Go.RowKit Go.Proofs.YthjpdljdodalaaaW.PrintWords Go.Proofs.Ythjpdljdodalaaa.Lib
set_option linter.unusedVariables false
def nzc : List Int → Nat
  | [] => 0
  | x :: xs => if x = 0 then nzc xs else nzc xs + 1
theorem zEY (l : List Int) : ∀ i, (zCx i l).length = nzc l := by
  induction l with
  | nil => intro i; rfl
  | cons x xs ih => intro i; unfold zCx nzc; split <;> simp [ih]
def zF1 (v : List Int) (i : Nat) : Bool := decide (nzc (Qd 7 4 3 v i) ≤ 1)
def zF2 (v : List Int) : Nat → Nat → Bool
  | 0, _ => true
  | d + 1, n => zF1 v n && zF2 v d (n + 1)
def zF8 (v : List Int) : Bool := zF2 v (v.length / 7) 0
def zF3 (v : List Int) : Nat → Bool
  | 0 => true
  | n + 1 => zF3 v n && zF1 v n
theorem zCy (v : List Int) : ∀ d n, zF2 v d n = true ↔ ∀ i, n ≤ i → i < n + d → zF1 v i = true
  | 0, n => by simp [zF2]; intro i h1 h2; omega
  | d + 1, n => by
    rw [zF2, Bool.and_eq_true, zCy v d (n + 1)]
    constructor
    · rintro ⟨h0, h1⟩ i hi hd
      rcases Nat.eq_or_lt_of_le hi with rfl | h
      · exact h0
      · exact h1 i h (by omega)
    · intro h
      exact ⟨h n (Nat.le_refl _) (by omega), fun i hi hd => h i (by omega) (by omega)⟩
theorem zCz (v : List Int) : ∀ n, zF3 v n = true ↔ ∀ i, i < n → zF1 v i = true
  | 0 => by simp [zF3]
  | n + 1 => by
    rw [zF3, Bool.and_eq_true, zCz v n]
    constructor
    · rintro ⟨h0, h1⟩ i hi
      rcases Nat.lt_succ_iff_lt_or_eq.1 hi with h | rfl
      · exact h0 i h
      · exact h1
    · intro h
      exact ⟨fun i hi => h i (by omega), h n (by omega)⟩
theorem zF4 (v : List Int) (n : Nat) : zF3 v n = zF2 v n 0 := by
  rw [Bool.eq_iff_iff, zCz, zCy]
  constructor
  · intro h i _ hi; exact h i (by omega)
  · intro h i hi; exact h i (by omega) (by omega)
theorem zAD {v : List Int} {n : Nat} (h : n * 7 + 7 ≤ v.length) : Qd 7 4 3 v n = [v[n * 7 + 4], v[n * 7 + 5], v[n * 7 + 6]] := by
  unfold Qd
  rw [List.drop_eq_getElem_cons (by omega), List.take_succ_cons, List.drop_eq_getElem_cons (by omega), List.take_succ_cons, List.drop_eq_getElem_cons (by omega), List.take_succ_cons, List.take_zero]
theorem zE6 (v : List Int) : ∀ n, n * 7 ≤ v.length → Ev (fun k => zCq (fun i => zEy (qX.f k) 7 4 3 v i) n) (zF3 v n)
  | 0, _ => Ev.now true
  | n + 1, h => by
    refine Ev.bind (zE6 v n (by omega)) ?_
    have h3 : (Qd 7 4 3 v n).length = 3 := by rw [zAD (by omega)]; rfl
    have hs := zA4 (Qd 7 4 3 v n) (by omega)
    obtain ⟨K, hK⟩ := hs
    refine ⟨K, fun k hk => ?_⟩
    have h9 : qX.f k (Qd 7 4 3 v n) = some (zCx 0 (Qd 7 4 3 v n)) := hK k hk
    dsimp only
    unfold zEy
    rw [h9]
    simp [zF3, zF1, zEY]
theorem zCB (v : List Int) (h7 : v.length % 7 = 0) (hl : v.length ≤ 7000000000) : Ev (fun k => qz.f k v) (zF8 v) := by
  refine Ev.congr (fun k => by unfold qz.f; rw [if_pos ⟨h7, hl⟩]) ?_
  unfold zF8
  rw [← zF4]
  exact zE6 v _ (by omega)
def nz1 (x : Int) : Int := if x = 0 then 0 else 1
theorem zF5 (x : Int) : 0 ≤ nz1 x ∧ nz1 x ≤ 1 := by unfold nz1; split <;> omega
theorem Qx (v : List Int) (n q : Nat) (hq4 : 4 ≤ q) (hq : q ≤ 6) (h : n * 7 + 7 ≤ v.length) (hb : v.length ≤ 7000000000) (hp : ∀ x ∈ v, 0 ≤ x) (c : Int) (hc0 : 0 ≤ c) (hc : c ≤ 10) {R : Bool} (hlt : n * 7 + q < v.length)
    (hR : Ev (fun k => qW.l1 k v ((n * 7 : Nat) : Int) (c + nz1 v[n * 7 + q]) ((q + 1 : Nat) : Int)) R) : Ev (fun k => qW.l1 k v ((n * 7 : Nat) : Int) c (q : Int)) R := by
  have e1 : wrap64 (((n * 7 : Nat) : Int) + (q : Int)) = ((n * 7 + q : Nat) : Int) := by rw [ZG (by omega) (by omega)]; omega
  have e2 : wrap64 ((q : Int) + 1) = ((q + 1 : Nat) : Int) := Za (by omega)
  have hv := hp v[n * 7 + q] (List.getElem_mem hlt)
  refine qx (fun k => by rw [qW.l1, if_pos (by omega), e1, if_pos (by omega), if_pos (by omega), zBa v _ hlt, e2]) ?_
  by_cases hz : v[n * 7 + q] > 0
  · refine ZD hz ?_
    have e3 : wrap64 (c + 1) = c + nz1 v[n * 7 + q] := by rw [ZG (by omega) (by omega)]; unfold nz1; rw [if_neg (by omega)]
    rw [e3]; exact hR
  · refine Ze hz ?_
    have e3 : c = c + nz1 v[n * 7 + q] := by unfold nz1; rw [if_pos (by omega)]; omega
    rw [e3]; exact hR
theorem zCb (v : List Int) (n : Nat) (h : n * 7 + 7 ≤ v.length) (hb : v.length ≤ 7000000000) (hp : ∀ x ∈ v, 0 ≤ x) {R : Bool} (hR : Ev (fun k => qW.l0 k v (((n + 1) * 7 : Nat) : Int)) R) : Ev (fun k => qW.l1 k v ((n * 7 : Nat) : Int) 0 4) (zF1 v n && R) := by
  have b4 := zF5 (v[n * 7 + 4])
  have b5 := zF5 (v[n * 7 + 5])
  have b6 := zF5 (v[n * 7 + 6])
  refine Qx v n 4 (by omega) (by omega) h hb hp 0 (by omega) (by omega) (by omega) ?_
  refine Qx v n 5 (by omega) (by omega) h hb hp _ (by omega) (by omega) (by omega) ?_
  refine Qx v n 6 (by omega) (by omega) h hb hp _ (by omega) (by omega) (by omega) ?_
  have e1 : wrap64 (((n * 7 : Nat) : Int) + 7) = (((n + 1) * 7 : Nat) : Int) := by rw [ZG (by omega) (by omega)]; omega
  refine qx (fun k => by rw [qW.l1, if_neg (by omega), e1]) ?_
  have hn : (0 + nz1 v[n * 7 + 4] + nz1 v[n * 7 + 5] + nz1 v[n * 7 + 6] : Int) = (nzc (Qd 7 4 3 v n) : Int) := by
    rw [zAD h]
    unfold nzc nzc nzc nzc nz1
    repeat' split
    all_goals simp
  rw [hn]
  unfold zF1
  by_cases hz : nzc (Qd 7 4 3 v n) ≤ 1
  · rw [decide_eq_true hz, Bool.true_and]
    exact Ze (by omega) hR
  · rw [decide_eq_false hz, Bool.false_and]
    exact ZD (by omega) (Ev.now _)
theorem zAb (v : List Int) (hb : v.length ≤ 7000000000) (hp : ∀ x ∈ v, 0 ≤ x) (N : Nat) (hN : v.length = N * 7) : ∀ d n, n + d = N → Ev (fun k => qW.l0 k v ((n * 7 : Nat) : Int)) (zF2 v d n)
  | 0, n, hn => by
    have e1 : wrap64 (((n * 7 : Nat) : Int) + 7) = ((n * 7 + 7 : Nat) : Int) := by rw [ZG (by omega) (by omega)]; omega
    refine qx (fun k => by rw [qW.l0, e1, if_neg (by omega)]) ?_
    exact Ev.now _
  | d + 1, n, hn => by
    have e1 : wrap64 (((n * 7 : Nat) : Int) + 7) = ((n * 7 + 7 : Nat) : Int) := by rw [ZG (by omega) (by omega)]; omega
    refine qx (fun k => by rw [qW.l0, e1, if_pos (by omega)]) ?_
    exact zCb v n (by omega) hb hp (zAb v hb hp N hN d (n + 1) (by omega))
theorem zCC (v : List Int) (h7 : v.length % 7 = 0) (hl : v.length ≤ 7000000000) (hp : ∀ x ∈ v, 0 ≤ x) : Ev (fun k => qW.f k v) (zF8 v) := by
  have := zAb v hl hp (v.length / 7) (by omega) (v.length / 7) 0 (by omega)
  unfold zF8
  exact this
theorem zBF {t : Tri} {v : List Int} (h : Qw t v = true) : (v.length : Int) = 7 * (t.length : Int) ∧ (∀ x ∈ v, 0 ≤ x ∧ x ≤ 1000) ∧ JQ (JC t) v = true := by
  unfold Qw at h
  by_cases hl : (v.length : Int) = 7 * (t.length : Int)
  · rw [if_pos hl] at h
    by_cases ha : v.all inR = true
    · rw [if_pos ha] at h
      refine ⟨hl, fun x hx => ?_, h⟩
      have := List.all_eq_true.1 ha x hx
      unfold inR at this
      simp at this
      exact this
    · rw [if_neg ha] at h; cases h
  · rw [if_neg hl] at h; cases h
def adm0 (t : Tri) (v : List Int) : Bool := if Qw t v = true then zF8 v else false
def adm (t : Tri) (v : List Int) : Bool := if Jt t v = true then zF8 v else false
theorem zAc {t : Tri} (h : Ja t = 0) (v : List Int) : Jt t v = Qw t v := by unfold Jt; rw [if_pos h]
theorem adm_eq {t : Tri} (h : Ja t = 0) (v : List Int) : adm t v = adm0 t v := by unfold adm adm0; rw [zAc h]
theorem zCc {t : Tri} {v : List Int} (h : Jt t v = true) : Ja t = 0 := by
  unfold Jt at h
  by_cases hc : Ja t = 0
  · exact hc
  · rw [if_neg hc] at h; cases h
theorem zCD {t : Tri} (hc : Ja t = 0) (v : List Int) : Ev (fun k => qf.f k t v) (adm0 t v) := by
  obtain ⟨ht, h6⟩ := zA3 hc
  refine Ev.bind (Qv (zBk ht v)) ?_
  unfold adm0
  by_cases hn : Qw t v = true
  · obtain ⟨hl, hr, _⟩ := zBF hn
    refine ZD hn (Ev.bind (zCB v (by omega) (by omega)) ?_)
    rw [if_pos hn]; exact Ev.now _
  · rw [if_neg hn]; exact Ze hn (Ev.now _)
theorem zCd (t : Tri) (v : List Int) (hv : v.length ≤ 4398046511104) : Ev (fun k => qw.f k t v) (adm t v) := by
  refine Ev.bind (zAk t v hv) ?_
  unfold adm
  by_cases hn : Jt t v = true
  · have hc := zCc hn
    obtain ⟨ht, h6⟩ := zA3 hc
    rw [zAc hc] at hn
    obtain ⟨hl, hr, _⟩ := zBF hn
    rw [zAc hc]
    refine ZD hn (Ev.bind (zCC v (by omega) (by omega) (fun x hx => (hr x hx).1)) ?_)
    rw [if_pos hn]; exact Ev.now _
  · rw [if_neg hn]; exact Ze hn (Ev.now _)
theorem zEZ {t : Tri} (hc : ¬ Ja t = 0) (v : List Int) : adm t v = false := by
  unfold adm Jt
  rw [if_neg hc, if_neg (by simp)]
theorem zCe {t : Tri} (hs : Small t) (v : List Int) : Ev (fun k => qg.f k t v) (adm t v) := by
  refine Ev.bind (zBi hs) ?_
  by_cases hc : Ja t = 0
  · exact ZD hc (Ev.bind (zCD hc v) (JP (adm_eq hc v).symm))
  · exact Ze hc (JP (zEZ hc v).symm)
end Go.Proofs.Ythjpdljdodalaaa.P
namespace Go.Proofs.Ythjpdljdodalaaa.Pure
open Go.RowKit Go.Proofs.Ythjpdljdodalaaa.P Go.Proofs.Ythjpdljdodalaaa.Lib Go.Proofs.YthjpdljdodalaaaW.PrintWords
theorem Jb (l : List (List qa)) (x : List Int) (h : Fits l) (hx : x.length ≤ 9223372036854775807) : ∃ k, ZW.f k l x = some true := by
  refine Ev.rounds ?_
  by_cases hx1 : (x.length : Int) > 1048576
  · exact ZD hx1 (Ev.now true)
  refine Ze hx1 ?_
  obtain ⟨r, hr, hs⟩ := Jp l h
  refine Ev.bind hr ?_
  by_cases hn : r < 0
  · exact ZD hn (Ev.now true)
  · have hsm := hs hn
    have hto := Jq l hsm
    have hti := zCY x (by omega)
    have hS := zDy hsm
    refine Ze hn ?_
    refine Ev.bind hto ?_
    refine Ev.bind hti ?_
    refine Ev.bind (zCd _ _ (by omega)) ?_
    refine Ev.bind hto ?_
    refine Ev.bind hti ?_
    refine Ev.bind (zCe hS _) ?_
    refine Ze (by simp) ?_
    refine Ev.bind hto ?_
    refine Ev.bind (Jr _ hS) ?_
    refine ZD rfl ?_
    refine Ev.bind hti ?_
    refine Ev.bind (zCZ _ (by omega)) ?_
    exact ZD rfl (Ev.now true)
end Go.Proofs.Ythjpdljdodalaaa.Pure
namespace Go.Proofs.Ythjpdljdodalaaa.Lib
open Go.RowKit Go.Proofs.YthjpdljdodalaaaW.PrintWords Go.Joins Go.Deep Go.WideShapes Go.ChangeShapes
set_option linter.unusedVariables false
def zDR (P : Program) (t : TypeId) {α : Type} (d : Kd α) : Prop := ∀ (H : Type) (enc : TypeId × Value → H) (w : World) (base : Nat) (spare : Nat → Bool) (held : Bool) (fuel : Nat) (cs : List Value) (x : DataW H × List MemPlace),
  DataW.trod enc P w base spare held fuel t cs = some x → ∃ y, d.K w y cs
theorem zE7 {P : Program} {t : TypeId} {k : IntKind} (ht : P.underlying t = some (.int k)) : zDR P t (Kd.int k) := by
  intro H enc w base spare held fuel cs x h
  obtain ⟨n, rfl, _, _⟩ := DataW.trod_int ht h
  exact ⟨n, rfl⟩
theorem zCE {α : Type} {R : Nat → α → Prop} : ∀ n, (∀ i, i < n → ∃ y, R i y) → ∃ ys : List α, ys.length = n ∧ ∀ j p, ys[j]? = some p → R j p
  | 0, _ => ⟨[], rfl, fun j p h => by simp at h⟩
  | n + 1, h => by
    obtain ⟨ys, hl, hr⟩ := zCE n (fun i hi => h i (by omega))
    obtain ⟨y, hy⟩ := h n (by omega)
    refine ⟨ys ++ [y], by simp [hl], fun j p hj => ?_⟩
    by_cases hlt : j < n
    · rw [List.getElem?_append_left (by omega)] at hj
      exact hr j p hj
    · have hjn : j < (ys ++ [y]).length := (List.getElem?_eq_some_iff.1 hj).1
      have : j = n := by simp [hl] at hjn; omega
      subst this
      rw [List.getElem?_append_right (by omega), hl, Nat.sub_self] at hj
      injection hj with hj
      rw [← hj]
      exact hy
theorem Jc {P : Program} {t e : TypeId} {α : Type} {d : Kd α} (ht : P.underlying t = some (.slice e)) (hc : P.cellsOf e = d.sz) (h : zDR P e d) : zDR P t (Kd.slice e d) := by
  intro H enc w base spare held fuel cs x hx
  rcases open_slice ht hx with ⟨rfl, _⟩ | ⟨a, len, cap, m, n, D, Pl, rfl, hb, hl, hm, hmm, _, hi⟩
  · exact ⟨[], none, 0, rfl, Nat.le_refl _, Kd.C_nil d w⟩
  · have each : ∀ i, i < len → ∃ y, ∃ cs', w.cells? base (a.add (i * d.sz)) d.sz = some cs' ∧ d.K w y cs' := by
      intro i hil
      have him : i < m := by rw [hmm]; split <;> omega
      obtain ⟨cs', h1, h2⟩ := hi i him
      obtain ⟨y, hy⟩ := h H enc w base spare held n cs' _ h2
      rw [hc] at h1
      exact ⟨y, cs', h1, hy⟩
    obtain ⟨ys, hlen, hys⟩ := zCE len each
    refine ⟨ys, some a, cap, by rw [hlen], by omega, rfl, ?_, fun _ => ⟨a, rfl, fun j p hj => ?_⟩⟩
    · unfold maxLen at hm; omega
    · obtain ⟨cs', h1, h2⟩ := hys j p hj
      obtain ⟨_, h3, h4⟩ := World.cells?_some h1
      refine ⟨cs', h3, h2, fun i u hu => ?_⟩
      have hil : i < d.sz := by rw [← h3]; exact (List.getElem?_eq_some_iff.1 hu).1
      rw [← hu, ← h4 i hil, Go.Deep.add_add]
theorem zBl {P : Program} {t : TypeId} {f0 f1 : Field} {α : Type} (hs : P.underlying t = some (.struct #[f0, f1])) (hone : oneCellFields P #[f0, f1] = true) (hC : P.cellsOf t = 2)
    (h0 : P.underlying f0.type = some (.int .i64)) (h1 : P.underlying f1.type = some (.int .i64)) (d : Kd α) (mk : Int → Int → α) (hK : ∀ w a b, d.K w (mk a b) [.int .i64 a, .int .i64 b]) : zDR P t d := by
  intro H enc w base spare held fuel cs x h
  obtain ⟨y0, y1, n, hx, hl, g0, g1⟩ := trod_struct2 hs h
  obtain ⟨o0, k0⟩ := hone_of hone 0 f0 rfl
  obtain ⟨o1, k1⟩ := hone_of hone 1 f1 rfl
  rw [hC] at hl
  match cs, hl with
  | [c0, c1], _ =>
    rw [o0, k0] at g0
    rw [o1, k1] at g1
    obtain ⟨a, e0, _, _⟩ := DataW.trod_int h0 g0
    obtain ⟨b, e1, _, _⟩ := DataW.trod_int h1 g1
    simp at e0 e1
    subst e0 e1
    exact ⟨mk a b, hK w a b⟩
section
variable {H : Type} {enc : TypeId × Value → H} {P : Program} {w : World} {base : Nat} {spare : Nat → Bool} {held : Bool}
theorem array1 {α : Type} {cs : Array α} (h : cs.size = 1) : ∃ c0, cs = #[c0] := by
  obtain ⟨l⟩ := cs
  match l, h with
  | [c0], _ => exact ⟨c0, rfl⟩
theorem zEa {r : Reach} {b0 : Nat} {t e : TypeId} {α : Type} {d : Kd α} {v : Value} {D : DataW H} {p : List MemPlace} (hu : P.underlying t = some (.slice e)) (ho : zDR P t (Kd.slice e d)) (hv : Value.okWide P w r b0 t v) (h : DataW.Trod enc P w base spare held t v D p) :
    ∃ (A : Option Addr) (c : Nat) (l : List α), v = .slice A l.length c ∧ l.length ≤ c ∧ d.C w A l.length l := by
  obtain ⟨a0, len, cap, rfl⟩ := okWide_slice hu hv
  obtain ⟨fuel, hf⟩ := h
  obtain ⟨l, A, c, e1, hl, hC⟩ := ho H enc w base spare held fuel _ _ hf
  simp [Value.cells] at e1
  obtain ⟨rfl, rfl, rfl⟩ := e1
  exact ⟨_, _, l, rfl, hl, hC⟩
theorem zE8 {r : Reach} {b0 : Nat} {t e : TypeId} {f0 : Field} {α : Type} {d : Kd α} {v : Value} {D : DataW H} {p : List MemPlace} (hs : P.underlying t = some (.struct #[f0])) (hone : oneCellFields P #[f0] = true) (hC : P.cellsOf t = 1)
    (ho : zDR P f0.type (Kd.slice e d)) (hv : Value.okWide P w r b0 t v) (h : DataW.Trod enc P w base spare held t v D p) :
    ∃ (A : Option Addr) (c : Nat) (l : List α), v = .agg #[.slice A l.length c] ∧ l.length ≤ c ∧ d.C w A l.length l := by
  obtain ⟨cs, rfl, hsz⟩ := okWide_struct hs hv
  obtain ⟨c0, rfl⟩ := array1 (hsz.trans hC)
  obtain ⟨fuel, hf⟩ := h
  obtain ⟨y0, n, hx, _, h0⟩ := trod_struct1 hs hf
  obtain ⟨o0, k0⟩ := hone_of hone 0 f0 rfl
  have h0' : DataW.trod enc P w base spare held n f0.type [c0] = some y0 := by simpa [Value.cells, o0, k0] using h0
  obtain ⟨l, A, c, e1, hl, hCC⟩ := ho H enc w base spare held n _ _ h0'
  simp at e1
  subst e1
  exact ⟨A, c, l, rfl, hl, hCC⟩
end
theorem zE9 {e : Nat} {α : Type} {d : Kd α} {w : World} {A : Option Addr} {l : List (List α)} (h : (Kd.slice e d).C w A l.length l) : l.length ≤ 9223372036854775807 ∧ ∀ r ∈ l, r.length ≤ 9223372036854775807 := by
  refine ⟨h.2.1, fun r hr => ?_⟩
  obtain ⟨j, hj, rfl⟩ := List.mem_iff_getElem.1 hr
  obtain ⟨ad, _, hc⟩ := h.2.2 (by omega)
  obtain ⟨c, _, hK, _⟩ := hc j _ (List.getElem?_eq_getElem hj)
  obtain ⟨A', c', _, _, hC⟩ := hK
  exact hC.2.1
end Go.Proofs.Ythjpdljdodalaaa.Lib
namespace Go.Proofs.Ythjpdljdodalaaa.fnExactIsAdmissible
open Go.ChangeShapes Go.WideShapes Go.ChangeAt Go.RowKit Go.Proofs.Ythjpdljdodalaaa.Lib Go.Proofs.YthjpdljdodalaaaW.PrintWords Go.Proofs.Ythjpdljdodalaaa.P
open Go.ChangeMaps (open_string shut_string)
set_option linter.unusedVariables false
theorem own : ownKnob Try.prog.godebug = none := by kernel_rfl
theorem laidOut : laidOutB Try.prog = true := by kernel_rfl
set_option maxRecDepth 100000 in
theorem lifted (os : Os) (started : os.Started) (H : Type) (enc : TypeId × Value → H) :
    ReturnsInHanded {} Try.checked os 5 .any (Rows.fnExactIsAdmissibleSpec.pre6 enc Try.prog Try.f5 Rows.fnExactIsAdmissibleRow.domain false) (Rows.fnExactIsAdmissibleSpec.post enc Try.prog Try.f5 false true false false) := by
  refine returnsInHanded_of_change_sized (C := Try.checked) own started (by kernel_rfl) Try.func5
    (ChangeSpec.witness6 (enc := enc) (C := Try.checked) false ⟨#[], #[.agg #[.slice none 0 0], .slice none 0 0], []⟩ 8 (by kernel_rfl) (by kernel_rfl) (by kernel_rfl) (by kernel_rfl)) ?_
  intro W base args ds gs before hval0 hW hcnd hsz0 _
  have hval : ∀ (j : Nat) t v, Try.f5.params[j]? = some t → args[j]? = some v → Value.okWide Try.prog W .any base t v := hval0
  have hW' := hW
  obtain ⟨p, q, hA0, hV, rfl, hfz, hnd⟩ := hW
  have hA : DataW.TrodAll enc Try.prog W 0 (fun _ => true) true Try.f5.params.toList args.toList ds p := hA0
  rw [Try.params5] at hA hval
  obtain ⟨v0, vs0, d0, ds0, p0, q0, hargs, rfl, rfl, h0, r0⟩ := trodAll_cons hA
  obtain ⟨v1, vs1, d1, ds1, p1, q1, rfl, rfl, rfl, h1, r1⟩ := trodAll_cons r0
  obtain ⟨rfl, rfl, rfl⟩ := trodAll_nil r1
  obtain rfl : args = #[v0, v1] := by cases args; simp_all
  obtain ⟨rfl, rfl⟩ := trodVars_none hV
  have k0 := h0
  have lt0 : ∀ x ∈ p0, x.block < W.heap.size := by obtain ⟨m, hm⟩ := k0; exact DataW.trod_lt m _ _ _ hm
  obtain ⟨A0, c0, l0, rfl, hl0, hC0⟩ := zE8 Try.underlying24 (by kernel_rfl) (by kernel_rfl) (Jc Try.underlying22 (by kernel_rfl) (Jc Try.underlying103 (by kernel_rfl) (zBl Try.underlying136 (by kernel_rfl) (by kernel_rfl) Try.underlying2 Try.underlying2 Zz (fun a b => (⟨a, b⟩ : qa)) (fun w a b => zCO w ⟨a, b⟩)))) (hval 0 24 v0 rfl rfl) h0
  have k1 := h1
  have lt1 : ∀ x ∈ p1, x.block < W.heap.size := by obtain ⟨m, hm⟩ := k1; exact DataW.trod_lt m _ _ _ hm
  obtain ⟨A1, c1, l1, rfl, hl1, hC1⟩ := zEa Try.underlying25 (Jc Try.underlying25 (by kernel_rfl) (zE7 Try.underlying2)) (hval 1 25 v1 rfl rfl) h1
  obtain ⟨k, hk⟩ := Pure.Jb l0 l1 (zE9 hC0) hC1.2.1
  refine (ZW.calls k _ _ l0 _ _ l1 true W hC0 hl0 hC1 hl1 hk).mono fun e W' ⟨he, bel⟩ => ?_
  subst he
  exact ⟨_, rfl, _, _, _, [], _, [], hW', trodAll_mk1 (shut_bool Try.underlying4 _), (trodAll_cons_mk (Below.trod laidOut (by kernel_rfl) (of_decide_eq_true (by kernel_rfl)) k0 bel lt0) (trodAll_cons_mk (Below.trod laidOut (by kernel_rfl) (of_decide_eq_true (by kernel_rfl)) k1 bel lt1) trodAll_mk0)), rfl, bel.frame _, fun h => by cases h⟩
theorem over : Rows.fnExactIsAdmissibleRow.holds Try.pinned (OpenSpec.ofChange Rows.fnExactIsAdmissibleSpec) :=
  OpenClaim.holds_of_wide 5 Try.f5 rfl rfl rfl rfl rfl rfl rfl ⟨rfl, rfl, rfl, rfl, rfl⟩ rfl rfl rfl rfl rfl (by kernel_rfl) Try.func5 (by kernel_rfl)
    (of_decide_eq_true (by kernel_rfl)) (by unfold Func.isWrapper; first | (rw [if_pos (by decide +kernel)]; kernel_rfl) | (rw [if_neg (by decide +kernel)]; exact ⟨rfl, rfl⟩))
    (fun os started H enc _ => lifted os started H enc)
theorem proved : Rows.FnExactIsAdmissibleSaid := over
#print axioms proved
end Go.Proofs.Ythjpdljdodalaaa.fnExactIsAdmissible
namespace Go.Proofs.Ythjpdljdodalaaa
theorem fnExactIsAdmissible_holds : Rows.FnExactIsAdmissibleSaid := fnExactIsAdmissible.proved
end Go.Proofs.Ythjpdljdodalaaa
