/- The statement FnExactUnionTriangulationsSaid, proved: part 5 of 6 (texts of this session and of the kit's print, put together and cut to what is used by a program of it). -/
import Derived.Test.YtdgdnnjigigkcaaMFnExactUnionTriangulations4
import Derived.Deep.Slices
import Derived.ChangeSame
import Derived.ChangeArms
import Derived.WideShapes
import Derived.Lib.SmallJoins
import Derived.ChangeShapes
namespace Go.Proofs.Ytdgdnnjigigkcaa.P
open Go.RowKit Go.Proofs.YtdgdnnjigigkcaaW.PrintWords Go.Proofs.YtdgdnnjigigkcaaW.PrintLast Go.Proofs.YtdgdnnjigigkcaaW.PrintMore
attribute [local go_sem] max2_int min2_int max_two min_two max_three min_three max_four min_four   -- for this text's walks alone
set_option linter.unusedVariables false
set_option linter.unusedSimpArgs false
open Go.Proofs.Ytdgdnnjigigkcaa.Lib
/-! ### laws_FnExactUnionTriangulations: function 5 -/
def laws_FnExactUnionTriangulations.f (k : Nat) (l0 : List (List (SLawFace))) (l1 : List (List (SLawFace))) : Option Bool := (laws_szTriangulation.f k l0 1048576).bind fun t2 => if t2 < 0 then some true else (laws_szTriangulation.f k l1 t2).bind fun t5 => if t5 < 0 then some true else (laws_toTriangulation.f k l0).bind fun t8 => (laws_toTriangulation.f k l1).bind fun t11 => (spec_UnionTriangulations.f k t8 t11).bind fun bt6 => (laws_toTriangulation.f k l0).bind fun t18 => (laws_toTriangulation.f k l1).bind fun t21 => (impl_UnionTriangulations.f k t18 t21).bind fun bt9 => (laws_eqTriangulation.f k bt9.1 bt6.1).bind fun t28 => if t28 = true then if bt9.2 = bt6.2 then (laws_toTriangulation.f k l0).bind fun t31 => (laws_eqTriangulation.f k t18 t31).bind fun t34 => if t34 = true then (laws_toTriangulation.f k l1).bind fun t36 => (laws_eqTriangulation.f k t21 t36).bind fun t39 => if t39 = true then (laws_markTriangulation.f k t18 1).bind fun bt19 => (laws_markTriangulation.f k t21 bt19.1).bind fun bt20 => if bt20.1 < 0 then some false else (laws_eqTriangulation.f k bt9.1 bt6.1).bind fun t48 => if t48 = true then if bt9.2 = bt6.2 then (laws_markTriangulation.f k bt9.1 1).bind fun bt25 => (laws_heldTriangulation.f k bt25.2 1).bind fun t54 => if t54 < 0 then some false else if t54 = bt25.1 then (laws_toTriangulation.f k l0).bind fun t58 => (laws_toTriangulation.f k l1).bind fun t61 => (impl_UnionTriangulations.f k t58 t61).bind fun bt31 => (laws_eqTriangulation.f k bt31.1 bt6.1).bind fun t68 => if t68 = true then if bt31.2 = bt6.2 then (laws_heldTriangulation.f k bt25.2 1).bind fun t71 => if t71 < 0 then some false else if t71 = bt25.1 then some true else some false else some false else some false else some false else some false else some false else some false else some false else some false else some false
set_option maxHeartbeats 8000000 in
set_option maxRecDepth 100000 in
theorem laws_FnExactUnionTriangulations.calls (k : Nat) (A0 : Option Addr) (c0 : Nat) (l0 : List (List (SLawFace))) (A1 : Option Addr) (c1 : Nat) (l1 : List (List (SLawFace))) (w : World) (hr0 : Kd.C (Kd.slice 133 kLawFace) w A0 l0.length l0) (hc0 : l0.length ≤ c0) (hr1 : Kd.C (Kd.slice 133 kLawFace) w A1 l1.length l1) (hc1 : l1.length ≤ c1) (h : laws_FnExactUnionTriangulations.f k l0 l1 = some true) :
 Calls Try.prog 5 #[.agg #[.slice A0 l0.length c0], .agg #[.slice A1 l1.length c1]] w fun e w' => e = .returned (.bool true) ∧ Below w.heap.size w w' := by
 have hu24 := Try.underlying24
 have hu28 := Try.underlying28
 have HR0 := Aside0.mk hr0
 have HC0 := Aside0.mk hc0
 have HR1 := Aside0.mk hr1
 have HC1 := Aside0.mk hc1
 clear hr0 hc0 hr1 hc1
 have HB := Aside0.mk (Below.refl w.heap.size w)
 have HT := Aside0.mk (yoy w.heap.size)
 have H := h
 clear h
 unfold laws_FnExactUnionTriangulations.f at H
 obtain ⟨t2, H10, H⟩ := ydy.mp H
 have H1 := Aside0.mk H10
 clear H10
 by_cases cC3 : t2 < 0
 next =>
  have dC3 : decide (t2 < 0) = true := ygy cC3
  clear cC3 H
  go_enter Try.func5, Try.ntmps5
  try go_wp2_with (first | ((with_reducible refine gate_dst (N := 2) rfl ?_); refine box_event ?hg (N := 2) ?hd (cs := #[.slice A0 l0.length c0]) (t := 24) ?hr ?_; (case hd => rfl); (case hg => rfl); (case hr => first | (go_simp; done) | (go_simp; rfl)); intro g2 hg w1 hbox hb; have HNg2 := Aside0.mk (by rw [hg]; exact HT.out : w.heap.size ≤ g2); have HXg2 := Aside0.mk (show g2 + 1 ≤ w1.heap.size from blk_lt hbox); have nHB := Aside0.mk (below_step HB.out hb); have nHT := Aside0.mk (top_below HT.out hb); clear HB HT  ; have HB := nHB; have HT := nHT; clear nHB nHT  ; clear HT; have HT := HXg2; clear HXg2; have BKg2 := Aside0.mk hbox; clear hg hbox hb; have hczg2 : w1.cell? ⟨g2, 0, none⟩ = some (.slice A0 l0.length c0) := (blk_cell BKg2.out 0).trans rfl; have hfzg2 := blk_frozen BKg2.out 0) | ((with_reducible refine gate_dst (N := 3) rfl ?_); refine box_event ?hg (N := 3) ?hd (cs := #[.slice A1 l1.length c1]) (t := 24) ?hr ?_; (case hd => rfl); (case hg => rfl); (case hr => first | (go_simp; done) | (go_simp; rfl)); intro g3 hg w2 hbox hb; (try clear hczg2 hfzg2); have HNg3 := Aside0.mk (by rw [hg]; exact HT.out : g2 + 1 ≤ g3); have HXg3 := Aside0.mk (show g3 + 1 ≤ w2.heap.size from blk_lt hbox); have nBg2 := Aside0.mk (blk_below (g := g2) (o := .cells #[.slice A0 l0.length c0] 24 (0, 0)) BKg2.out hb); have nHB := Aside0.mk (below_step HB.out hb); have nHT := Aside0.mk (top_below HT.out hb); clear HB HT  BKg2; have BKg2 := nBg2; have HB := nHB; have HT := nHT; clear nHB nHT  nBg2; clear HT; have HT := HXg3; clear HXg3; have BKg3 := Aside0.mk hbox; clear hg hbox hb; have hnbg3_g2 : g3 ≠ g2 := (by have := HNg2.out; have := HNg3.out; omega); have hnbg2_g3 : g2 ≠ g3 := (by have := HNg2.out; have := HNg3.out; omega); have hczg2 : w2.cell? ⟨g2, 0, none⟩ = some (.slice A0 l0.length c0) := (blk_cell BKg2.out 0).trans rfl; have hfzg2 := blk_frozen BKg2.out 0; have hczg3 : w2.cell? ⟨g3, 0, none⟩ = some (.slice A1 l1.length c1) := (blk_cell BKg3.out 0).trans rfl; have hfzg3 := blk_frozen BKg3.out 0) | ((with_reducible refine gate_callee (f := 15) rfl ?_); refine goesL_ (some 19) rfl rfl Try.func15 (by kernel_rfl) rfl #[.agg #[.slice A0 l0.length c0], .int .i64 1048576] rfl (by (try simp only [yiy, yjy, yky]); first | done | rfl | (simp only [yly, ymy]; rfl)) ?_; (with_reducible refine (laws_szTriangulation.calls k _ _ l0 1048576 t2 _ ?side1 ?side2 H1.out).mono ?_); (case side1 => exact Kd.C_below HR0.out HB.out); (case side2 => exact HC0.out); rintro e w3 ⟨rfl, hb⟩; refine ⟨_, rfl, ?_⟩; (try clear hczg2 hfzg2 hczg3 hfzg3); have nBg2 := Aside0.mk (blk_below (g := g2) (o := .cells #[.slice A0 l0.length c0] 24 (0, 0)) BKg2.out hb); have nBg3 := Aside0.mk (blk_below (g := g3) (o := .cells #[.slice A1 l1.length c1] 24 (0, 0)) BKg3.out hb); have nHB := Aside0.mk (below_step HB.out hb); have nHT := Aside0.mk (top_below HT.out hb); clear HB HT  BKg2 BKg3; have BKg2 := nBg2; have BKg3 := nBg3; have HB := nHB; have HT := nHT; clear nHB nHT  nBg2 nBg3; (try clear hb); (try clear hnd); have hczg2 : w3.cell? ⟨g2, 0, none⟩ = some (.slice A0 l0.length c0) := (blk_cell BKg2.out 0).trans rfl; have hfzg2 := blk_frozen BKg2.out 0; have hczg3 : w3.cell? ⟨g3, 0, none⟩ = some (.slice A1 l1.length c1) := (blk_cell BKg3.out 0).trans rfl; have hfzg3 := blk_frozen BKg3.out 0))
  go_ret
  exact ⟨by first | rfl | (simp <;> rfl), HB.out⟩
 rw [if_neg cC3] at H
 have dC3 : decide (t2 < 0) = false := yhy cC3
 clear cC3
 obtain ⟨t5, H40, H⟩ := ydy.mp H
 have H4 := Aside0.mk H40
 clear H40
 by_cases cC6 : t5 < 0
 next =>
  have dC6 : decide (t5 < 0) = true := ygy cC6
  clear cC6 H
  go_enter Try.func5, Try.ntmps5
  try go_wp2_with (first | ((with_reducible refine gate_dst (N := 2) rfl ?_); refine box_event ?hg (N := 2) ?hd (cs := #[.slice A0 l0.length c0]) (t := 24) ?hr ?_; (case hd => rfl); (case hg => rfl); (case hr => first | (go_simp; done) | (go_simp; rfl)); intro g2 hg w1 hbox hb; have HNg2 := Aside0.mk (by rw [hg]; exact HT.out : w.heap.size ≤ g2); have HXg2 := Aside0.mk (show g2 + 1 ≤ w1.heap.size from blk_lt hbox); have nHB := Aside0.mk (below_step HB.out hb); have nHT := Aside0.mk (top_below HT.out hb); clear HB HT  ; have HB := nHB; have HT := nHT; clear nHB nHT  ; clear HT; have HT := HXg2; clear HXg2; have BKg2 := Aside0.mk hbox; clear hg hbox hb; have hczg2 : w1.cell? ⟨g2, 0, none⟩ = some (.slice A0 l0.length c0) := (blk_cell BKg2.out 0).trans rfl; have hfzg2 := blk_frozen BKg2.out 0) | ((with_reducible refine gate_dst (N := 3) rfl ?_); refine box_event ?hg (N := 3) ?hd (cs := #[.slice A1 l1.length c1]) (t := 24) ?hr ?_; (case hd => rfl); (case hg => rfl); (case hr => first | (go_simp; done) | (go_simp; rfl)); intro g3 hg w2 hbox hb; (try clear hczg2 hfzg2); have HNg3 := Aside0.mk (by rw [hg]; exact HT.out : g2 + 1 ≤ g3); have HXg3 := Aside0.mk (show g3 + 1 ≤ w2.heap.size from blk_lt hbox); have nBg2 := Aside0.mk (blk_below (g := g2) (o := .cells #[.slice A0 l0.length c0] 24 (0, 0)) BKg2.out hb); have nHB := Aside0.mk (below_step HB.out hb); have nHT := Aside0.mk (top_below HT.out hb); clear HB HT  BKg2; have BKg2 := nBg2; have HB := nHB; have HT := nHT; clear nHB nHT  nBg2; clear HT; have HT := HXg3; clear HXg3; have BKg3 := Aside0.mk hbox; clear hg hbox hb; have hnbg3_g2 : g3 ≠ g2 := (by have := HNg2.out; have := HNg3.out; omega); have hnbg2_g3 : g2 ≠ g3 := (by have := HNg2.out; have := HNg3.out; omega); have hczg2 : w2.cell? ⟨g2, 0, none⟩ = some (.slice A0 l0.length c0) := (blk_cell BKg2.out 0).trans rfl; have hfzg2 := blk_frozen BKg2.out 0; have hczg3 : w2.cell? ⟨g3, 0, none⟩ = some (.slice A1 l1.length c1) := (blk_cell BKg3.out 0).trans rfl; have hfzg3 := blk_frozen BKg3.out 0) | ((with_reducible refine gate_callee (f := 15) rfl ?_); refine goesL_ (some 19) rfl rfl Try.func15 (by kernel_rfl) rfl #[.agg #[.slice A0 l0.length c0], .int .i64 1048576] rfl (by (try simp only [yiy, yjy, yky]); first | done | rfl | (simp only [yly, ymy]; rfl)) ?_; (with_reducible refine (laws_szTriangulation.calls k _ _ l0 1048576 t2 _ ?side1 ?side2 H1.out).mono ?_); (case side1 => exact Kd.C_below HR0.out HB.out); (case side2 => exact HC0.out); rintro e w3 ⟨rfl, hb⟩; refine ⟨_, rfl, ?_⟩; (try clear hczg2 hfzg2 hczg3 hfzg3); have nBg2 := Aside0.mk (blk_below (g := g2) (o := .cells #[.slice A0 l0.length c0] 24 (0, 0)) BKg2.out hb); have nBg3 := Aside0.mk (blk_below (g := g3) (o := .cells #[.slice A1 l1.length c1] 24 (0, 0)) BKg3.out hb); have nHB := Aside0.mk (below_step HB.out hb); have nHT := Aside0.mk (top_below HT.out hb); clear HB HT  BKg2 BKg3; have BKg2 := nBg2; have BKg3 := nBg3; have HB := nHB; have HT := nHT; clear nHB nHT  nBg2 nBg3; (try clear hb); (try clear hnd); have hczg2 : w3.cell? ⟨g2, 0, none⟩ = some (.slice A0 l0.length c0) := (blk_cell BKg2.out 0).trans rfl; have hfzg2 := blk_frozen BKg2.out 0; have hczg3 : w3.cell? ⟨g3, 0, none⟩ = some (.slice A1 l1.length c1) := (blk_cell BKg3.out 0).trans rfl; have hfzg3 := blk_frozen BKg3.out 0) | ((with_reducible refine gate_callee (f := 15) rfl ?_); refine goesL_ (some 24) rfl rfl Try.func15 (by kernel_rfl) rfl #[.agg #[.slice A1 l1.length c1], .int .i64 t2] rfl (by (try simp only [yiy, yjy, yky]); first | done | rfl | (simp only [yly, ymy]; rfl)) ?_; (with_reducible refine (laws_szTriangulation.calls k _ _ l1 t2 t5 _ ?side1 ?side2 H4.out).mono ?_); (case side1 => exact Kd.C_below HR1.out HB.out); (case side2 => exact HC1.out); rintro e w4 ⟨rfl, hb⟩; refine ⟨_, rfl, ?_⟩; (try clear hczg2 hfzg2 hczg3 hfzg3); have nBg2 := Aside0.mk (blk_below (g := g2) (o := .cells #[.slice A0 l0.length c0] 24 (0, 0)) BKg2.out hb); have nBg3 := Aside0.mk (blk_below (g := g3) (o := .cells #[.slice A1 l1.length c1] 24 (0, 0)) BKg3.out hb); have nHB := Aside0.mk (below_step HB.out hb); have nHT := Aside0.mk (top_below HT.out hb); clear HB HT  BKg2 BKg3; have BKg2 := nBg2; have BKg3 := nBg3; have HB := nHB; have HT := nHT; clear nHB nHT  nBg2 nBg3; (try clear hb); (try clear hnd); have hczg2 : w4.cell? ⟨g2, 0, none⟩ = some (.slice A0 l0.length c0) := (blk_cell BKg2.out 0).trans rfl; have hfzg2 := blk_frozen BKg2.out 0; have hczg3 : w4.cell? ⟨g3, 0, none⟩ = some (.slice A1 l1.length c1) := (blk_cell BKg3.out 0).trans rfl; have hfzg3 := blk_frozen BKg3.out 0))
  go_ret
  exact ⟨by first | rfl | (simp <;> rfl), HB.out⟩
 rw [if_neg cC6] at H
 have dC6 : decide (t5 < 0) = false := yhy cC6
 clear cC6
 obtain ⟨t8, H70, H⟩ := ydy.mp H
 have H7 := Aside0.mk H70
 clear H70
 obtain ⟨t11, H100, H⟩ := ydy.mp H
 have H10 := Aside0.mk H100
 clear H100
 obtain ⟨⟨t14, t16⟩, H130, H⟩ := ydy.mp H
 have H13 := Aside0.mk H130
 clear H130
 obtain ⟨t18, H170, H⟩ := ydy.mp H
 have H17 := Aside0.mk H170
 clear H170
 obtain ⟨t21, H200, H⟩ := ydy.mp H
 have H20 := Aside0.mk H200
 clear H200
 obtain ⟨⟨t24, t26⟩, H230, H⟩ := ydy.mp H
 have H23 := Aside0.mk H230
 clear H230
 obtain ⟨t28, H270, H⟩ := ydy.mp H
 obtain rfl : t28 = true := by cases t28 with | true => rfl | false => exact absurd H (by simp)
 replace H := H
 have H27 := Aside0.mk H270
 clear H270
 rw [if_pos rfl] at H
 have cC29 : t26 = t16 := by by_cases c_ : t26 = t16; exact c_; rw [if_neg c_] at H; cases H
 rw [if_pos cC29] at H
 have dC29 : (t26 != t16) = false := by rw [cC29]; exact bne_self_eq_false _
 clear cC29
 obtain ⟨t31, H300, H⟩ := ydy.mp H
 have H30 := Aside0.mk H300
 clear H300
 obtain ⟨t34, H330, H⟩ := ydy.mp H
 obtain rfl : t34 = true := by cases t34 with | true => rfl | false => exact absurd H (by simp)
 replace H := H
 have H33 := Aside0.mk H330
 clear H330
 rw [if_pos rfl] at H
 obtain ⟨t36, H350, H⟩ := ydy.mp H
 have H35 := Aside0.mk H350
 clear H350
 obtain ⟨t39, H380, H⟩ := ydy.mp H
 obtain rfl : t39 = true := by cases t39 with | true => rfl | false => exact absurd H (by simp)
 replace H := H
 have H38 := Aside0.mk H380
 clear H380
 rw [if_pos rfl] at H
 obtain ⟨⟨m41, y42⟩, H400, H⟩ := ydy.mp H
 have H40 := Aside0.mk H400
 clear H400
 dsimp only at H
 obtain ⟨⟨m44, y45⟩, H430, H⟩ := ydy.mp H
 have H43 := Aside0.mk H430
 clear H430
 dsimp only at H
 have cC46 : ¬ (m44 < 0) := fun c_ => by rw [if_pos c_] at H; cases H
 rw [if_neg cC46] at H
 have dC46 : decide (m44 < 0) = false := yhy cC46
 clear cC46
 obtain ⟨t48, H470, H⟩ := ydy.mp H
 obtain rfl : t48 = true := by cases t48 with | true => rfl | false => exact absurd H (by simp)
 replace H := H
 have H47 := Aside0.mk H470
 clear H470
 rw [if_pos rfl] at H
 have cC49 : t26 = t16 := by by_cases c_ : t26 = t16; exact c_; rw [if_neg c_] at H; cases H
 rw [if_pos cC49] at H
 have dC49 : (t26 != t16) = false := by rw [cC49]; exact bne_self_eq_false _
 clear cC49
 obtain ⟨⟨m51, y52⟩, H500, H⟩ := ydy.mp H
 have H50 := Aside0.mk H500
 clear H500
 dsimp only at H
 obtain ⟨t54, H530, H⟩ := ydy.mp H
 have H53 := Aside0.mk H530
 clear H530
 have cC55 : ¬ (t54 < 0) := fun c_ => by rw [if_pos c_] at H; cases H
 rw [if_neg cC55] at H
 have dC55 : decide (t54 < 0) = false := yhy cC55
 clear cC55
 have cC56 : t54 = m51 := by by_cases c_ : t54 = m51; exact c_; rw [if_neg c_] at H; cases H
 rw [if_pos cC56] at H
 have dC56 : (t54 != m51) = false := by rw [cC56]; exact bne_self_eq_false _
 clear cC56
 obtain ⟨t58, H570, H⟩ := ydy.mp H
 have H57 := Aside0.mk H570
 clear H570
 obtain ⟨t61, H600, H⟩ := ydy.mp H
 have H60 := Aside0.mk H600
 clear H600
 obtain ⟨⟨t64, t66⟩, H630, H⟩ := ydy.mp H
 have H63 := Aside0.mk H630
 clear H630
 obtain ⟨t68, H670, H⟩ := ydy.mp H
 obtain rfl : t68 = true := by cases t68 with | true => rfl | false => exact absurd H (by simp)
 replace H := H
 have H67 := Aside0.mk H670
 clear H670
 rw [if_pos rfl] at H
 have cC69 : t66 = t16 := by by_cases c_ : t66 = t16; exact c_; rw [if_neg c_] at H; cases H
 rw [if_pos cC69] at H
 have dC69 : (t66 != t16) = false := by rw [cC69]; exact bne_self_eq_false _
 clear cC69
 obtain ⟨t71, H700, H⟩ := ydy.mp H
 have H70 := Aside0.mk H700
 clear H700
 have cC72 : ¬ (t71 < 0) := fun c_ => by rw [if_pos c_] at H; cases H
 rw [if_neg cC72] at H
 have dC72 : decide (t71 < 0) = false := yhy cC72
 clear cC72
 have cC73 : t71 = m51 := by by_cases c_ : t71 = m51; exact c_; rw [if_neg c_] at H; cases H
 rw [if_pos cC73] at H
 have dC73 : (t71 != m51) = false := by rw [cC73]; exact bne_self_eq_false _
 clear cC73
 clear H
 go_enter Try.func5, Try.ntmps5
 try go_wp2_with (first | ((with_reducible refine gate_dst (N := 2) rfl ?_); refine box_event ?hg (N := 2) ?hd (cs := #[.slice A0 l0.length c0]) (t := 24) ?hr ?_; (case hd => rfl); (case hg => rfl); (case hr => first | (go_simp; done) | (go_simp; rfl)); intro g2 hg w1 hbox hb; have HNg2 := Aside0.mk (by rw [hg]; exact HT.out : w.heap.size ≤ g2); have HXg2 := Aside0.mk (show g2 + 1 ≤ w1.heap.size from blk_lt hbox); have nHB := Aside0.mk (below_step HB.out hb); have nHT := Aside0.mk (top_below HT.out hb); clear HB HT  ; have HB := nHB; have HT := nHT; clear nHB nHT  ; clear HT; have HT := HXg2; clear HXg2; have BKg2 := Aside0.mk hbox; clear hg hbox hb; have hczg2 : w1.cell? ⟨g2, 0, none⟩ = some (.slice A0 l0.length c0) := (blk_cell BKg2.out 0).trans rfl; have hfzg2 := blk_frozen BKg2.out 0) | ((with_reducible refine gate_dst (N := 3) rfl ?_); refine box_event ?hg (N := 3) ?hd (cs := #[.slice A1 l1.length c1]) (t := 24) ?hr ?_; (case hd => rfl); (case hg => rfl); (case hr => first | (go_simp; done) | (go_simp; rfl)); intro g3 hg w2 hbox hb; (try clear hczg2 hfzg2); have HNg3 := Aside0.mk (by rw [hg]; exact HT.out : g2 + 1 ≤ g3); have HXg3 := Aside0.mk (show g3 + 1 ≤ w2.heap.size from blk_lt hbox); have nBg2 := Aside0.mk (blk_below (g := g2) (o := .cells #[.slice A0 l0.length c0] 24 (0, 0)) BKg2.out hb); have nHB := Aside0.mk (below_step HB.out hb); have nHT := Aside0.mk (top_below HT.out hb); clear HB HT  BKg2; have BKg2 := nBg2; have HB := nHB; have HT := nHT; clear nHB nHT  nBg2; clear HT; have HT := HXg3; clear HXg3; have BKg3 := Aside0.mk hbox; clear hg hbox hb; have hnbg3_g2 : g3 ≠ g2 := (by have := HNg2.out; have := HNg3.out; omega); have hnbg2_g3 : g2 ≠ g3 := (by have := HNg2.out; have := HNg3.out; omega); have hczg2 : w2.cell? ⟨g2, 0, none⟩ = some (.slice A0 l0.length c0) := (blk_cell BKg2.out 0).trans rfl; have hfzg2 := blk_frozen BKg2.out 0; have hczg3 : w2.cell? ⟨g3, 0, none⟩ = some (.slice A1 l1.length c1) := (blk_cell BKg3.out 0).trans rfl; have hfzg3 := blk_frozen BKg3.out 0) | ((with_reducible refine gate_callee (f := 15) rfl ?_); refine goesL_ (some 19) rfl rfl Try.func15 (by kernel_rfl) rfl #[.agg #[.slice A0 l0.length c0], .int .i64 1048576] rfl (by (try simp only [yiy, yjy, yky]); first | done | rfl | (simp only [yly, ymy]; rfl)) ?_; (with_reducible refine (laws_szTriangulation.calls k _ _ l0 1048576 t2 _ ?side1 ?side2 H1.out).mono ?_); (case side1 => exact Kd.C_below HR0.out HB.out); (case side2 => exact HC0.out); rintro e w3 ⟨rfl, hb⟩; refine ⟨_, rfl, ?_⟩; (try clear hczg2 hfzg2 hczg3 hfzg3); have nBg2 := Aside0.mk (blk_below (g := g2) (o := .cells #[.slice A0 l0.length c0] 24 (0, 0)) BKg2.out hb); have nBg3 := Aside0.mk (blk_below (g := g3) (o := .cells #[.slice A1 l1.length c1] 24 (0, 0)) BKg3.out hb); have nHB := Aside0.mk (below_step HB.out hb); have nHT := Aside0.mk (top_below HT.out hb); clear HB HT  BKg2 BKg3; have BKg2 := nBg2; have BKg3 := nBg3; have HB := nHB; have HT := nHT; clear nHB nHT  nBg2 nBg3; (try clear hb); (try clear hnd); have hczg2 : w3.cell? ⟨g2, 0, none⟩ = some (.slice A0 l0.length c0) := (blk_cell BKg2.out 0).trans rfl; have hfzg2 := blk_frozen BKg2.out 0; have hczg3 : w3.cell? ⟨g3, 0, none⟩ = some (.slice A1 l1.length c1) := (blk_cell BKg3.out 0).trans rfl; have hfzg3 := blk_frozen BKg3.out 0) | ((with_reducible refine gate_callee (f := 15) rfl ?_); refine goesL_ (some 24) rfl rfl Try.func15 (by kernel_rfl) rfl #[.agg #[.slice A1 l1.length c1], .int .i64 t2] rfl (by (try simp only [yiy, yjy, yky]); first | done | rfl | (simp only [yly, ymy]; rfl)) ?_; (with_reducible refine (laws_szTriangulation.calls k _ _ l1 t2 t5 _ ?side1 ?side2 H4.out).mono ?_); (case side1 => exact Kd.C_below HR1.out HB.out); (case side2 => exact HC1.out); rintro e w4 ⟨rfl, hb⟩; refine ⟨_, rfl, ?_⟩; (try clear hczg2 hfzg2 hczg3 hfzg3); have nBg2 := Aside0.mk (blk_below (g := g2) (o := .cells #[.slice A0 l0.length c0] 24 (0, 0)) BKg2.out hb); have nBg3 := Aside0.mk (blk_below (g := g3) (o := .cells #[.slice A1 l1.length c1] 24 (0, 0)) BKg3.out hb); have nHB := Aside0.mk (below_step HB.out hb); have nHT := Aside0.mk (top_below HT.out hb); clear HB HT  BKg2 BKg3; have BKg2 := nBg2; have BKg3 := nBg3; have HB := nHB; have HT := nHT; clear nHB nHT  nBg2 nBg3; (try clear hb); (try clear hnd); have hczg2 : w4.cell? ⟨g2, 0, none⟩ = some (.slice A0 l0.length c0) := (blk_cell BKg2.out 0).trans rfl; have hfzg2 := blk_frozen BKg2.out 0; have hczg3 : w4.cell? ⟨g3, 0, none⟩ = some (.slice A1 l1.length c1) := (blk_cell BKg3.out 0).trans rfl; have hfzg3 := blk_frozen BKg3.out 0))
 (try clear hczg2 hfzg2 hczg3 hfzg3)
 have nBg2 := Aside0.mk (blk_drew BKg2.out)
 have nBg3 := Aside0.mk (blk_drew BKg3.out)
 have nHB := Aside0.mk (below_drew1 HB.out)
 have nHT := Aside0.mk (top_drew HT.out)
 clear HB HT  BKg2 BKg3
 have BKg2 := nBg2
 have BKg3 := nBg3
 have HB := nHB
 have HT := nHT
 clear nHB nHT  nBg2 nBg3
 refine start_ (n := 11) (S := fun w' => w'.cell? ⟨g2, 0, none⟩ = some (.slice A0 l0.length c0) ∧ w'.cell? ⟨g3, 0, none⟩ = some (.slice A1 l1.length c1)) (ds := [9]) #[false, false, false, false, false, false, false, false, false, false, false] (by kernel_rfl) rfl rfl ⟨(blk_cell BKg2.out 0).trans rfl, (blk_cell BKg3.out 0).trans rfl⟩ (fun hHeld => ?_)
 generalize hdr_ : World.drew _ = w5 at BKg2 BKg3 HB HT hHeld ⊢
 (try clear hdr_)
 refine take_ (i := 0) (N := some 28) (v := ?_) (a' := ?_) #[true, false, false, false, false, false, false, false, false, false, false] rfl rfl (by kernel_rfl) (fun _ _ _ h => h) (Or.inl ⟨by rfl, ?_⟩) hHeld ?_ ?_
 rotate_left
 next =>
  rintro w' ⟨s0, s1⟩
  go_simp
  with_reducible rfl
 rotate_left
 next =>
  simp only [Act.put, yay, yby, ycy, i64_w, i32_w]
  rfl
 refine take_ (i := 2) (N := some 30) (v := ?_) (a' := ?_) #[true, false, true, false, false, false, false, false, false, false, false] rfl rfl (by kernel_rfl) (fun _ _ _ h => h) (Or.inl ⟨by rfl, ?_⟩) hHeld ?_ ?_
 rotate_left
 next =>
  rintro w' ⟨s0, s1⟩
  go_simp
  with_reducible rfl
 rotate_left
 next =>
  simp only [Act.put, yay, yby, ycy, i64_w, i32_w]
  rfl
 refine join_ (σ := Option Addr × Nat × Option Addr × Nat × Option Addr × Nat × Nat) 2 #[true, true, true, true, true, true, true, true, true, false, false] (fun s_ => [(29, .agg #[.slice s_.1 t8.length s_.2.1]), (31, .agg #[.slice s_.2.2.1 t11.length s_.2.2.2.1]), (32, .tuple #[.agg #[.slice s_.2.2.2.2.1 t14.length s_.2.2.2.2.2.1], .int .i64 t16]), (27, .tuple #[.agg #[.slice s_.2.2.2.2.1 t14.length s_.2.2.2.2.2.1], .int .i64 t16]), (33, .agg #[.slice s_.2.2.2.2.1 t14.length s_.2.2.2.2.2.1]), (34, .int .i64 t16), (6, .pointer (some ⟨s_.2.2.2.2.2.2, 0, none⟩))]) (fun s_ w' => ∃ loo15 hio15 tp : Nat, (g3 + 1 ≤ loo15 ∧ loo15 ≤ hio15) ∧ (g3 + 1 ≤ s_.2.2.2.2.2.2 ∧ (s_.2.2.2.2.2.2 < loo15 ∨ hio15 ≤ s_.2.2.2.2.2.2)) ∧ (s_.2.2.2.2.2.2 + 1 ≤ tp ∧ hio15 ≤ tp) ∧ tp ≤ w'.heap.size ∧ ObS (Kd.slice 74 kFace) 75 w.heap.size w' loo15 hio15 (.slice s_.2.2.2.2.1 t14.length s_.2.2.2.2.2.1) t14 ∧ w'.heap[g2]? = some (.cells #[.slice A0 l0.length c0] 24 (0, 0)) ∧ w'.heap[g3]? = some (.cells #[.slice A1 l1.length c1] 24 (0, 0)) ∧ w'.heap[s_.2.2.2.2.2.2]? = some (.cells #[.slice none 0 0] 28 (0, 0)) ∧ Below w.heap.size w w') ?cont5 (fun hcont => ?walk5)
 case walk5 =>
  refine two_ (i := 1) (j := 8) (Ni := some 29) (Nj := some 6) #[true, true, true, false, false, false, false, false, false, false, false] #[true, false, true, false, false, false, false, false, true, false, false] rfl rfl rfl rfl (by kernel_rfl) (by decide) (by decide) (fun K hK => ?_) (fun K hK => ?_)
  next =>
   refine goes_ Try.func17 (by kernel_rfl) rfl #[.agg #[.slice A0 l0.length c0]] (by rfl) rfl rfl (by (try simp only [yiy, yjy, yky]); first | done | rfl | (simp only [yly, ymy]; rfl)) ?_
   with_reducible refine (laws_toTriangulation.calls k _ _ l0 t8 _ ?side1 ?side2 H7.out).mono ?_
   (case side1 => exact Kd.C_below HR0.out HB.out)
   (case side2 => exact HC0.out)
   rintro e w6 ⟨vo9, rfl, ho0, hb⟩
   refine ⟨_, rfl, ?_⟩
   obtain ⟨loo9, hio9, hno9⟩ := ObS.made ho0 hb HT.out (below_size HB.out)
   have nBg2 := Aside0.mk (blk_below (g := g2) (o := .cells #[.slice A0 l0.length c0] 24 (0, 0)) BKg2.out hb)
   have nBg3 := Aside0.mk (blk_below (g := g3) (o := .cells #[.slice A1 l1.length c1] 24 (0, 0)) BKg3.out hb)
   have nHB := Aside0.mk (below_step HB.out hb)
   have nHT := Aside0.mk (top_below HT.out hb)
   clear HB HT  BKg2 BKg3
   have BKg2 := nBg2
   have BKg3 := nBg3
   have HB := nHB
   have HT := nHT
   clear nHB nHT  nBg2 nBg3
   have HNo9 := Aside0.mk hno9.1
   clear HT
   have HT := Aside0.mk hno9.2.1
   have HOo9 := Aside0.mk hno9.2.2
   clear hno9 ho0
   obtain ⟨Ao9, co9, eeo9⟩ := HOo9.out.slice
   subst eeo9
   (try clear hb)
   (try clear hnd)
   refine hK.out _ _ ⟨(blk_cell BKg2.out 0).trans rfl, (blk_cell BKg3.out 0).trans rfl⟩ (fun hHeld => ?_)
   clear hK K
   refine norm_ (a' := ?_) ?_ ?_
   rotate_left
   next =>
    show Act.put _ (some 29) _ = _
    simp only [Act.put, yay, yby, ycy, i64_w, i32_w]
    rfl
   refine two_ (i := 3) (j := 8) (Ni := some 31) (Nj := some 6) #[true, true, true, true, false, false, false, false, false, false, false] #[true, true, true, false, false, false, false, false, true, false, false] rfl rfl rfl rfl (by kernel_rfl) (by decide) (by decide) (fun K hK => ?_) (fun K hK => ?_)
   next =>
    refine goes_ Try.func17 (by kernel_rfl) rfl #[.agg #[.slice A1 l1.length c1]] (by rfl) rfl rfl (by (try simp only [yiy, yjy, yky]); first | done | rfl | (simp only [yly, ymy]; rfl)) ?_
    with_reducible refine (laws_toTriangulation.calls k _ _ l1 t11 _ ?side1 ?side2 H10.out).mono ?_
    (case side1 => exact Kd.C_below HR1.out HB.out)
    (case side2 => exact HC1.out)
    rintro e w7 ⟨vo12, rfl, ho0, hb⟩
    refine ⟨_, rfl, ?_⟩
    obtain ⟨loo12, hio12, hno12⟩ := ObS.made ho0 hb HT.out (below_size HB.out)
    have nOo9 := Aside0.mk (ObS.below HOo9.out hb)
    have nBg2 := Aside0.mk (blk_below (g := g2) (o := .cells #[.slice A0 l0.length c0] 24 (0, 0)) BKg2.out hb)
    have nBg3 := Aside0.mk (blk_below (g := g3) (o := .cells #[.slice A1 l1.length c1] 24 (0, 0)) BKg3.out hb)
    have nHB := Aside0.mk (below_step HB.out hb)
    have nHT := Aside0.mk (top_below HT.out hb)
    clear HB HT HOo9 BKg2 BKg3
    have HOo9 := nOo9
    have BKg2 := nBg2
    have BKg3 := nBg3
    have HB := nHB
    have HT := nHT
    clear nHB nHT nOo9 nBg2 nBg3
    have HNo12 := Aside0.mk hno12.1
    clear HT
    have HT := Aside0.mk hno12.2.1
    have HOo12 := Aside0.mk hno12.2.2
    clear hno12 ho0
    obtain ⟨Ao12, co12, eeo12⟩ := HOo12.out.slice
    subst eeo12
    (try clear hb)
    (try clear hnd)
    refine hK.out _ _ ⟨(blk_cell BKg2.out 0).trans rfl, (blk_cell BKg3.out 0).trans rfl⟩ (fun hHeld => ?_)
    clear hK K
    refine norm_ (a' := ?_) ?_ ?_
    rotate_left
    next =>
     show Act.put _ (some 31) _ = _
     simp only [Act.put, yay, yby, ycy, i64_w, i32_w]
     rfl
    refine two_ (i := 4) (j := 8) (Ni := some 32) (Nj := some 6) #[true, true, true, true, true, false, false, false, false, false, false] #[true, true, true, true, false, false, false, false, true, false, false] rfl rfl rfl rfl (by kernel_rfl) (by decide) (by decide) (fun K hK => ?_) (fun K hK => ?_)
    next =>
     refine goes_ Try.func24 (by kernel_rfl) rfl #[.agg #[.slice Ao9 t8.length co9], .agg #[.slice Ao12 t11.length co12]] (by rfl) rfl rfl (by (try simp only [yiy, yjy, yky]); first | done | rfl | (simp only [yly, ymy]; rfl)) ?_
     with_reducible refine (spec_UnionTriangulations.calls k _ _ t8 _ _ t11 t14 t16 _ ?side1 ?side2 ?side3 ?side4 H13.out).mono ?_
     (case side1 => exact (ObS.reads HOo9.out).2.2)
     (case side2 => exact ObS.room HOo9.out)
     (case side3 => exact (ObS.reads HOo12.out).2.2)
     (case side4 => exact ObS.room HOo12.out)
     rintro e w8 ⟨vo15, rfl, ho0, hb⟩
     refine ⟨_, rfl, ?_⟩
     obtain ⟨loo15, hio15, hno15⟩ := ObS.made ho0 hb HT.out (below_size HB.out)
     have nOo9 := Aside0.mk (ObS.below HOo9.out hb)
     have nOo12 := Aside0.mk (ObS.below HOo12.out hb)
     have nBg2 := Aside0.mk (blk_below (g := g2) (o := .cells #[.slice A0 l0.length c0] 24 (0, 0)) BKg2.out hb)
     have nBg3 := Aside0.mk (blk_below (g := g3) (o := .cells #[.slice A1 l1.length c1] 24 (0, 0)) BKg3.out hb)
     have nHB := Aside0.mk (below_step HB.out hb)
     have nHT := Aside0.mk (top_below HT.out hb)
     clear HB HT HOo9 HOo12 BKg2 BKg3
     have HOo9 := nOo9
     have HOo12 := nOo12
     have BKg2 := nBg2
     have BKg3 := nBg3
     have HB := nHB
     have HT := nHT
     clear nHB nHT nOo9 nOo12 nBg2 nBg3
     have HNo15 := Aside0.mk hno15.1
     clear HT
     have HT := Aside0.mk hno15.2.1
     have HOo15 := Aside0.mk hno15.2.2
     clear hno15 ho0
     obtain ⟨Ao15, co15, eeo15⟩ := HOo15.out.slice
     subst eeo15
     (try clear hb)
     (try clear hnd)
     refine hK.out _ _ ⟨(blk_cell BKg2.out 0).trans rfl, (blk_cell BKg3.out 0).trans rfl⟩ (fun hHeld => ?_)
     clear hK K
     refine norm_ (a' := ?_) ?_ ?_
     rotate_left
     next =>
      show Act.put _ (some 32) _ = _
      simp only [Act.put, yay, yby, ycy, i64_w, i32_w]
      rfl
     refine pure_ (i := 5) (N := some 27) (v := ?_) (a' := ?_) #[true, true, true, true, true, true, false, false, false, false, false] rfl rfl (by kernel_rfl) (fun _ _ _ h => h) (Or.inl ⟨by rfl, ?_⟩) ?_ ?_
     rotate_left
     next =>
      intro w'
      go_simp
      with_reducible rfl
     rotate_left
     next =>
      simp only [Act.put, yay, yby, ycy, i64_w, i32_w]
      rfl
     refine pure_ (i := 6) (N := some 33) (v := ?_) (a' := ?_) #[true, true, true, true, true, true, true, false, false, false, false] rfl rfl (by kernel_rfl) (fun _ _ _ h => h) (Or.inl ⟨by rfl, ?_⟩) ?_ ?_
     rotate_left
     next =>
      intro w'
      go_simp
      with_reducible rfl
     rotate_left
     next =>
      simp only [Act.put, yay, yby, ycy, i64_w, i32_w]
      rfl
     refine pure_ (i := 7) (N := some 34) (v := ?_) (a' := ?_) #[true, true, true, true, true, true, true, true, false, false, false] rfl rfl (by kernel_rfl) (fun _ _ _ h => h) (Or.inl ⟨by rfl, ?_⟩) ?_ ?_
     rotate_left
     next =>
      intro w'
      go_simp
      with_reducible rfl
     rotate_left
     next =>
      simp only [Act.put, yay, yby, ycy, i64_w, i32_w]
      rfl
     refine one_ (i := 8) (N := some 6) #[true, true, true, true, true, true, true, true, true, false, false] rfl rfl (by kernel_rfl) (by decide) (fun K hK => ?_)
     refine value_ (w1 := ?_) (v := ?_) (by rfl) rfl ?_ ?_
     rotate_left 2
     next =>
      go_simp
      constructor
      next =>
       rfl
      next =>
       rfl
     have hbx := new_at4 (W := w8) rfl (.cells #[.slice none 0 0] 28)
     have hb := below_alloc (Below.refl w8.heap.size w8) (.cells #[.slice none 0 0] 28)
     generalize hal_ : World.alloc w8 _ = w9 at hbx hb ⊢
     (try clear hal_)
     have HNg6 := Aside0.mk (show hio15 ≤ w8.heap.size from HT.out)
     have HX_ := Aside0.mk (show w8.heap.size + 1 ≤ w9.heap.size from blk_lt hbx)
     have nOo9 := Aside0.mk (ObS.below HOo9.out hb)
     have nOo12 := Aside0.mk (ObS.below HOo12.out hb)
     have nOo15 := Aside0.mk (ObS.below HOo15.out hb)
     have nBg2 := Aside0.mk (blk_below (g := g2) (o := .cells #[.slice A0 l0.length c0] 24 (0, 0)) BKg2.out hb)
     have nBg3 := Aside0.mk (blk_below (g := g3) (o := .cells #[.slice A1 l1.length c1] 24 (0, 0)) BKg3.out hb)
     have nHB := Aside0.mk (below_step HB.out hb)
     have nHT := Aside0.mk (top_below HT.out hb)
     clear HB HT HOo9 HOo12 HOo15 BKg2 BKg3
     have HOo9 := nOo9
     have HOo12 := nOo12
     have HOo15 := nOo15
     have BKg2 := nBg2
     have BKg3 := nBg3
     have HB := nHB
     have HT := nHT
     clear nHB nHT nOo9 nOo12 nOo15 nBg2 nBg3
     clear HT
     have HT := HX_
     clear HX_
     have BKg6 := Aside0.mk hbx
     clear hb hbx hHeld
     generalize w8.heap.size = g6 at HNg6 HT BKg6 ⊢
     refine hK.out _ _ ⟨(blk_cell BKg2.out 0).trans rfl, (blk_cell BKg3.out 0).trans rfl⟩ (fun hHeld => ?_)
     clear hK K
     refine norm_ (a' := ?_) ?_ ?_
     rotate_left
     next =>
      show Act.put _ (some 6) _ = _
      simp only [Act.put, yay, yby, ycy, i64_w, i32_w]
      rfl
     have hc_ := hcont (Ao9, co9, Ao12, co12, Ao15, co15, g6) w9 ⟨loo15, hio15, w9.heap.size, (by (try dsimp only); have := HNg2.out; have := HNg3.out; have := HNo9.out; have := HNo12.out; have := HNo15.out; have := HNg6.out; have := HT.out; omega), (by (try dsimp only); have := HNg2.out; have := HNg3.out; have := HNo9.out; have := HNo12.out; have := HNo15.out; have := HNg6.out; have := HT.out; omega), (by (try dsimp only); have := HNg2.out; have := HNg3.out; have := HNo9.out; have := HNo12.out; have := HNo15.out; have := HNg6.out; have := HT.out; omega), yoy _, HOo15.out, BKg2.out, BKg3.out, BKg6.out, HB.out⟩
     exact norm_ (by simp only [putAll, Act.put, yay, yby, ycy, i64_w, i32_w] <;> rfl) hc_
    next =>
     refine value_ (w1 := ?_) (v := ?_) (by rfl) rfl ?_ ?_
     rotate_left 2
     next =>
      go_simp
      constructor
      next =>
       rfl
      next =>
       rfl
     have hbx := new_at4 (W := w7) rfl (.cells #[.slice none 0 0] 28)
     have hb := below_alloc (Below.refl w7.heap.size w7) (.cells #[.slice none 0 0] 28)
     generalize hal_ : World.alloc w7 _ = w8 at hbx hb ⊢
     (try clear hal_)
     have HNg6 := Aside0.mk (show hio12 ≤ w7.heap.size from HT.out)
     have HX_ := Aside0.mk (show w7.heap.size + 1 ≤ w8.heap.size from blk_lt hbx)
     have nOo9 := Aside0.mk (ObS.below HOo9.out hb)
     have nOo12 := Aside0.mk (ObS.below HOo12.out hb)
     have nBg2 := Aside0.mk (blk_below (g := g2) (o := .cells #[.slice A0 l0.length c0] 24 (0, 0)) BKg2.out hb)
     have nBg3 := Aside0.mk (blk_below (g := g3) (o := .cells #[.slice A1 l1.length c1] 24 (0, 0)) BKg3.out hb)
     have nHB := Aside0.mk (below_step HB.out hb)
     have nHT := Aside0.mk (top_below HT.out hb)
     clear HB HT HOo9 HOo12 BKg2 BKg3
     have HOo9 := nOo9
     have HOo12 := nOo12
     have BKg2 := nBg2
     have BKg3 := nBg3
     have HB := nHB
     have HT := nHT
     clear nHB nHT nOo9 nOo12 nBg2 nBg3
     clear HT
     have HT := HX_
     clear HX_
     have BKg6 := Aside0.mk hbx
     clear hb hbx hHeld
     generalize w7.heap.size = g6 at HNg6 HT BKg6 ⊢
     refine hK.out _ _ ⟨(blk_cell BKg2.out 0).trans rfl, (blk_cell BKg3.out 0).trans rfl⟩ (fun hHeld => ?_)
     clear hK K
     refine norm_ (a' := ?_) ?_ ?_
     rotate_left
     next =>
      show Act.put _ (some 6) _ = _
      simp only [Act.put, yay, yby, ycy, i64_w, i32_w]
      rfl
     refine one_ (i := 4) (N := some 32) #[true, true, true, true, true, false, false, false, true, false, false] rfl rfl (by kernel_rfl) (by decide) (fun K hK => ?_)
     refine goes_ Try.func24 (by kernel_rfl) rfl #[.agg #[.slice Ao9 t8.length co9], .agg #[.slice Ao12 t11.length co12]] (by rfl) rfl rfl (by (try simp only [yiy, yjy, yky]); first | done | rfl | (simp only [yly, ymy]; rfl)) ?_
     with_reducible refine (spec_UnionTriangulations.calls k _ _ t8 _ _ t11 t14 t16 _ ?side1 ?side2 ?side3 ?side4 H13.out).mono ?_
     (case side1 => exact (ObS.reads HOo9.out).2.2)
     (case side2 => exact ObS.room HOo9.out)
     (case side3 => exact (ObS.reads HOo12.out).2.2)
     (case side4 => exact ObS.room HOo12.out)
     rintro e w9 ⟨vo15, rfl, ho0, hb⟩
     refine ⟨_, rfl, ?_⟩
     obtain ⟨loo15, hio15, hno15⟩ := ObS.made ho0 hb HT.out (below_size HB.out)
     have nOo9 := Aside0.mk (ObS.below HOo9.out hb)
     have nOo12 := Aside0.mk (ObS.below HOo12.out hb)
     have nBg2 := Aside0.mk (blk_below (g := g2) (o := .cells #[.slice A0 l0.length c0] 24 (0, 0)) BKg2.out hb)
     have nBg3 := Aside0.mk (blk_below (g := g3) (o := .cells #[.slice A1 l1.length c1] 24 (0, 0)) BKg3.out hb)
     have nBg6 := Aside0.mk (blk_below (g := g6) (o := .cells #[.slice none 0 0] 28 (0, 0)) BKg6.out hb)
     have nHB := Aside0.mk (below_step HB.out hb)
     have nHT := Aside0.mk (top_below HT.out hb)
     clear HB HT HOo9 HOo12 BKg2 BKg3 BKg6
     have HOo9 := nOo9
     have HOo12 := nOo12
     have BKg2 := nBg2
     have BKg3 := nBg3
     have BKg6 := nBg6
     have HB := nHB
     have HT := nHT
     clear nHB nHT nOo9 nOo12 nBg2 nBg3 nBg6
     have HNo15 := Aside0.mk hno15.1
     clear HT
     have HT := Aside0.mk hno15.2.1
     have HOo15 := Aside0.mk hno15.2.2
     clear hno15 ho0
     obtain ⟨Ao15, co15, eeo15⟩ := HOo15.out.slice
     subst eeo15
     (try clear hb)
     (try clear hnd)
     refine hK.out _ _ ⟨(blk_cell BKg2.out 0).trans rfl, (blk_cell BKg3.out 0).trans rfl⟩ (fun hHeld => ?_)
     clear hK K
     refine norm_ (a' := ?_) ?_ ?_
     rotate_left
     next =>
      show Act.put _ (some 32) _ = _
      simp only [Act.put, yay, yby, ycy, i64_w, i32_w]
      rfl
     refine pure_ (i := 5) (N := some 27) (v := ?_) (a' := ?_) #[true, true, true, true, true, true, false, false, true, false, false] rfl rfl (by kernel_rfl) (fun _ _ _ h => h) (Or.inl ⟨by rfl, ?_⟩) ?_ ?_
     rotate_left
     next =>
      intro w'
      go_simp
      with_reducible rfl
     rotate_left
     next =>
      simp only [Act.put, yay, yby, ycy, i64_w, i32_w]
      rfl
     refine pure_ (i := 6) (N := some 33) (v := ?_) (a' := ?_) #[true, true, true, true, true, true, true, false, true, false, false] rfl rfl (by kernel_rfl) (fun _ _ _ h => h) (Or.inl ⟨by rfl, ?_⟩) ?_ ?_
     rotate_left
     next =>
      intro w'
      go_simp
      with_reducible rfl
     rotate_left
     next =>
      simp only [Act.put, yay, yby, ycy, i64_w, i32_w]
      rfl
     refine pure_ (i := 7) (N := some 34) (v := ?_) (a' := ?_) #[true, true, true, true, true, true, true, true, true, false, false] rfl rfl (by kernel_rfl) (fun _ _ _ h => h) (Or.inl ⟨by rfl, ?_⟩) ?_ ?_
     rotate_left
     next =>
      intro w'
      go_simp
      with_reducible rfl
     rotate_left
     next =>
      simp only [Act.put, yay, yby, ycy, i64_w, i32_w]
      rfl
     have hc_ := hcont (Ao9, co9, Ao12, co12, Ao15, co15, g6) w9 ⟨loo15, hio15, w9.heap.size, (by (try dsimp only); have := HNg2.out; have := HNg3.out; have := HNo9.out; have := HNo12.out; have := HNg6.out; have := HNo15.out; have := HT.out; omega), (by (try dsimp only); have := HNg2.out; have := HNg3.out; have := HNo9.out; have := HNo12.out; have := HNg6.out; have := HNo15.out; have := HT.out; omega), (by (try dsimp only); have := HNg2.out; have := HNg3.out; have := HNo9.out; have := HNo12.out; have := HNg6.out; have := HNo15.out; have := HT.out; omega), yoy _, HOo15.out, BKg2.out, BKg3.out, BKg6.out, HB.out⟩
     exact norm_ (by simp only [putAll, Act.put, yay, yby, ycy, i64_w, i32_w] <;> rfl) hc_
   next =>
    refine value_ (w1 := ?_) (v := ?_) (by rfl) rfl ?_ ?_
    rotate_left 2
    next =>
     go_simp
     constructor
     next =>
      rfl
     next =>
      rfl
    have hbx := new_at4 (W := w6) rfl (.cells #[.slice none 0 0] 28)
    have hb := below_alloc (Below.refl w6.heap.size w6) (.cells #[.slice none 0 0] 28)
    generalize hal_ : World.alloc w6 _ = w7 at hbx hb ⊢
    (try clear hal_)
    have HNg6 := Aside0.mk (show hio9 ≤ w6.heap.size from HT.out)
    have HX_ := Aside0.mk (show w6.heap.size + 1 ≤ w7.heap.size from blk_lt hbx)
    have nOo9 := Aside0.mk (ObS.below HOo9.out hb)
    have nBg2 := Aside0.mk (blk_below (g := g2) (o := .cells #[.slice A0 l0.length c0] 24 (0, 0)) BKg2.out hb)
    have nBg3 := Aside0.mk (blk_below (g := g3) (o := .cells #[.slice A1 l1.length c1] 24 (0, 0)) BKg3.out hb)
    have nHB := Aside0.mk (below_step HB.out hb)
    have nHT := Aside0.mk (top_below HT.out hb)
    clear HB HT HOo9 BKg2 BKg3
    have HOo9 := nOo9
    have BKg2 := nBg2
    have BKg3 := nBg3
    have HB := nHB
    have HT := nHT
    clear nHB nHT nOo9 nBg2 nBg3
    clear HT
    have HT := HX_
    clear HX_
    have BKg6 := Aside0.mk hbx
    clear hb hbx hHeld
    generalize w6.heap.size = g6 at HNg6 HT BKg6 ⊢
    refine hK.out _ _ ⟨(blk_cell BKg2.out 0).trans rfl, (blk_cell BKg3.out 0).trans rfl⟩ (fun hHeld => ?_)
    clear hK K
    refine norm_ (a' := ?_) ?_ ?_
    rotate_left
    next =>
     show Act.put _ (some 6) _ = _
     simp only [Act.put, yay, yby, ycy, i64_w, i32_w]
     rfl
    refine one_ (i := 3) (N := some 31) #[true, true, true, true, false, false, false, false, true, false, false] rfl rfl (by kernel_rfl) (by decide) (fun K hK => ?_)
    refine goes_ Try.func17 (by kernel_rfl) rfl #[.agg #[.slice A1 l1.length c1]] (by rfl) rfl rfl (by (try simp only [yiy, yjy, yky]); first | done | rfl | (simp only [yly, ymy]; rfl)) ?_
    with_reducible refine (laws_toTriangulation.calls k _ _ l1 t11 _ ?side1 ?side2 H10.out).mono ?_
    (case side1 => exact Kd.C_below HR1.out HB.out)
    (case side2 => exact HC1.out)
    rintro e w8 ⟨vo12, rfl, ho0, hb⟩
    refine ⟨_, rfl, ?_⟩
    obtain ⟨loo12, hio12, hno12⟩ := ObS.made ho0 hb HT.out (below_size HB.out)
    have nOo9 := Aside0.mk (ObS.below HOo9.out hb)
    have nBg2 := Aside0.mk (blk_below (g := g2) (o := .cells #[.slice A0 l0.length c0] 24 (0, 0)) BKg2.out hb)
    have nBg3 := Aside0.mk (blk_below (g := g3) (o := .cells #[.slice A1 l1.length c1] 24 (0, 0)) BKg3.out hb)
    have nBg6 := Aside0.mk (blk_below (g := g6) (o := .cells #[.slice none 0 0] 28 (0, 0)) BKg6.out hb)
    have nHB := Aside0.mk (below_step HB.out hb)
    have nHT := Aside0.mk (top_below HT.out hb)
    clear HB HT HOo9 BKg2 BKg3 BKg6
    have HOo9 := nOo9
    have BKg2 := nBg2
    have BKg3 := nBg3
    have BKg6 := nBg6
    have HB := nHB
    have HT := nHT
    clear nHB nHT nOo9 nBg2 nBg3 nBg6
    have HNo12 := Aside0.mk hno12.1
    clear HT
    have HT := Aside0.mk hno12.2.1
    have HOo12 := Aside0.mk hno12.2.2
    clear hno12 ho0
    obtain ⟨Ao12, co12, eeo12⟩ := HOo12.out.slice
    subst eeo12
    (try clear hb)
    (try clear hnd)
    refine hK.out _ _ ⟨(blk_cell BKg2.out 0).trans rfl, (blk_cell BKg3.out 0).trans rfl⟩ (fun hHeld => ?_)
    clear hK K
    refine norm_ (a' := ?_) ?_ ?_
    rotate_left
    next =>
     show Act.put _ (some 31) _ = _
     simp only [Act.put, yay, yby, ycy, i64_w, i32_w]
     rfl
    refine one_ (i := 4) (N := some 32) #[true, true, true, true, true, false, false, false, true, false, false] rfl rfl (by kernel_rfl) (by decide) (fun K hK => ?_)
    refine goes_ Try.func24 (by kernel_rfl) rfl #[.agg #[.slice Ao9 t8.length co9], .agg #[.slice Ao12 t11.length co12]] (by rfl) rfl rfl (by (try simp only [yiy, yjy, yky]); first | done | rfl | (simp only [yly, ymy]; rfl)) ?_
    with_reducible refine (spec_UnionTriangulations.calls k _ _ t8 _ _ t11 t14 t16 _ ?side1 ?side2 ?side3 ?side4 H13.out).mono ?_
    (case side1 => exact (ObS.reads HOo9.out).2.2)
    (case side2 => exact ObS.room HOo9.out)
    (case side3 => exact (ObS.reads HOo12.out).2.2)
    (case side4 => exact ObS.room HOo12.out)
    rintro e w9 ⟨vo15, rfl, ho0, hb⟩
    refine ⟨_, rfl, ?_⟩
    obtain ⟨loo15, hio15, hno15⟩ := ObS.made ho0 hb HT.out (below_size HB.out)
    have nOo9 := Aside0.mk (ObS.below HOo9.out hb)
    have nOo12 := Aside0.mk (ObS.below HOo12.out hb)
    have nBg2 := Aside0.mk (blk_below (g := g2) (o := .cells #[.slice A0 l0.length c0] 24 (0, 0)) BKg2.out hb)
    have nBg3 := Aside0.mk (blk_below (g := g3) (o := .cells #[.slice A1 l1.length c1] 24 (0, 0)) BKg3.out hb)
    have nBg6 := Aside0.mk (blk_below (g := g6) (o := .cells #[.slice none 0 0] 28 (0, 0)) BKg6.out hb)
    have nHB := Aside0.mk (below_step HB.out hb)
    have nHT := Aside0.mk (top_below HT.out hb)
    clear HB HT HOo9 HOo12 BKg2 BKg3 BKg6
    have HOo9 := nOo9
    have HOo12 := nOo12
    have BKg2 := nBg2
    have BKg3 := nBg3
    have BKg6 := nBg6
    have HB := nHB
    have HT := nHT
    clear nHB nHT nOo9 nOo12 nBg2 nBg3 nBg6
    have HNo15 := Aside0.mk hno15.1
    clear HT
    have HT := Aside0.mk hno15.2.1
    have HOo15 := Aside0.mk hno15.2.2
    clear hno15 ho0
    obtain ⟨Ao15, co15, eeo15⟩ := HOo15.out.slice
    subst eeo15
    (try clear hb)
    (try clear hnd)
    refine hK.out _ _ ⟨(blk_cell BKg2.out 0).trans rfl, (blk_cell BKg3.out 0).trans rfl⟩ (fun hHeld => ?_)
    clear hK K
    refine norm_ (a' := ?_) ?_ ?_
    rotate_left
    next =>
     show Act.put _ (some 32) _ = _
     simp only [Act.put, yay, yby, ycy, i64_w, i32_w]
     rfl
    refine pure_ (i := 5) (N := some 27) (v := ?_) (a' := ?_) #[true, true, true, true, true, true, false, false, true, false, false] rfl rfl (by kernel_rfl) (fun _ _ _ h => h) (Or.inl ⟨by rfl, ?_⟩) ?_ ?_
    rotate_left
    next =>
     intro w'
     go_simp
     with_reducible rfl
    rotate_left
    next =>
     simp only [Act.put, yay, yby, ycy, i64_w, i32_w]
     rfl
    refine pure_ (i := 6) (N := some 33) (v := ?_) (a' := ?_) #[true, true, true, true, true, true, true, false, true, false, false] rfl rfl (by kernel_rfl) (fun _ _ _ h => h) (Or.inl ⟨by rfl, ?_⟩) ?_ ?_
    rotate_left
    next =>
     intro w'
     go_simp
     with_reducible rfl
    rotate_left
    next =>
     simp only [Act.put, yay, yby, ycy, i64_w, i32_w]
     rfl
    refine pure_ (i := 7) (N := some 34) (v := ?_) (a' := ?_) #[true, true, true, true, true, true, true, true, true, false, false] rfl rfl (by kernel_rfl) (fun _ _ _ h => h) (Or.inl ⟨by rfl, ?_⟩) ?_ ?_
    rotate_left
    next =>
     intro w'
     go_simp
     with_reducible rfl
    rotate_left
    next =>
     simp only [Act.put, yay, yby, ycy, i64_w, i32_w]
     rfl
    have hc_ := hcont (Ao9, co9, Ao12, co12, Ao15, co15, g6) w9 ⟨loo15, hio15, w9.heap.size, (by (try dsimp only); have := HNg2.out; have := HNg3.out; have := HNo9.out; have := HNg6.out; have := HNo12.out; have := HNo15.out; have := HT.out; omega), (by (try dsimp only); have := HNg2.out; have := HNg3.out; have := HNo9.out; have := HNg6.out; have := HNo12.out; have := HNo15.out; have := HT.out; omega), (by (try dsimp only); have := HNg2.out; have := HNg3.out; have := HNo9.out; have := HNg6.out; have := HNo12.out; have := HNo15.out; have := HT.out; omega), yoy _, HOo15.out, BKg2.out, BKg3.out, BKg6.out, HB.out⟩
    exact norm_ (by simp only [putAll, Act.put, yay, yby, ycy, i64_w, i32_w] <;> rfl) hc_
  next =>
   refine value_ (w1 := ?_) (v := ?_) (by rfl) rfl ?_ ?_
   rotate_left 2
   next =>
    go_simp
    constructor
    next =>
     rfl
    next =>
     rfl
   have hbx := new_at4 (W := w5) rfl (.cells #[.slice none 0 0] 28)
   have hb := below_alloc (Below.refl w5.heap.size w5) (.cells #[.slice none 0 0] 28)
   generalize hal_ : World.alloc w5 _ = w6 at hbx hb ⊢
   (try clear hal_)
   have HNg6 := Aside0.mk (show g3 + 1 ≤ w5.heap.size from HT.out)
   have HX_ := Aside0.mk (show w5.heap.size + 1 ≤ w6.heap.size from blk_lt hbx)
   have nBg2 := Aside0.mk (blk_below (g := g2) (o := .cells #[.slice A0 l0.length c0] 24 (0, 0)) BKg2.out hb)
   have nBg3 := Aside0.mk (blk_below (g := g3) (o := .cells #[.slice A1 l1.length c1] 24 (0, 0)) BKg3.out hb)
   have nHB := Aside0.mk (below_step HB.out hb)
   have nHT := Aside0.mk (top_below HT.out hb)
   clear HB HT  BKg2 BKg3
   have BKg2 := nBg2
   have BKg3 := nBg3
   have HB := nHB
   have HT := nHT
   clear nHB nHT  nBg2 nBg3
   clear HT
   have HT := HX_
   clear HX_
   have BKg6 := Aside0.mk hbx
   clear hb hbx hHeld
   generalize w5.heap.size = g6 at HNg6 HT BKg6 ⊢
   refine hK.out _ _ ⟨(blk_cell BKg2.out 0).trans rfl, (blk_cell BKg3.out 0).trans rfl⟩ (fun hHeld => ?_)
   clear hK K
   refine norm_ (a' := ?_) ?_ ?_
   rotate_left
   next =>
    show Act.put _ (some 6) _ = _
    simp only [Act.put, yay, yby, ycy, i64_w, i32_w]
    rfl
   refine one_ (i := 1) (N := some 29) #[true, true, true, false, false, false, false, false, true, false, false] rfl rfl (by kernel_rfl) (by decide) (fun K hK => ?_)
   refine goes_ Try.func17 (by kernel_rfl) rfl #[.agg #[.slice A0 l0.length c0]] (by rfl) rfl rfl (by (try simp only [yiy, yjy, yky]); first | done | rfl | (simp only [yly, ymy]; rfl)) ?_
   with_reducible refine (laws_toTriangulation.calls k _ _ l0 t8 _ ?side1 ?side2 H7.out).mono ?_
   (case side1 => exact Kd.C_below HR0.out HB.out)
   (case side2 => exact HC0.out)
   rintro e w7 ⟨vo9, rfl, ho0, hb⟩
   refine ⟨_, rfl, ?_⟩
   obtain ⟨loo9, hio9, hno9⟩ := ObS.made ho0 hb HT.out (below_size HB.out)
   have nBg2 := Aside0.mk (blk_below (g := g2) (o := .cells #[.slice A0 l0.length c0] 24 (0, 0)) BKg2.out hb)
   have nBg3 := Aside0.mk (blk_below (g := g3) (o := .cells #[.slice A1 l1.length c1] 24 (0, 0)) BKg3.out hb)
   have nBg6 := Aside0.mk (blk_below (g := g6) (o := .cells #[.slice none 0 0] 28 (0, 0)) BKg6.out hb)
   have nHB := Aside0.mk (below_step HB.out hb)
   have nHT := Aside0.mk (top_below HT.out hb)
   clear HB HT  BKg2 BKg3 BKg6
   have BKg2 := nBg2
   have BKg3 := nBg3
   have BKg6 := nBg6
   have HB := nHB
   have HT := nHT
   clear nHB nHT  nBg2 nBg3 nBg6
   have HNo9 := Aside0.mk hno9.1
   clear HT
   have HT := Aside0.mk hno9.2.1
   have HOo9 := Aside0.mk hno9.2.2
   clear hno9 ho0
   obtain ⟨Ao9, co9, eeo9⟩ := HOo9.out.slice
   subst eeo9
   (try clear hb)
   (try clear hnd)
   refine hK.out _ _ ⟨(blk_cell BKg2.out 0).trans rfl, (blk_cell BKg3.out 0).trans rfl⟩ (fun hHeld => ?_)
   clear hK K
   refine norm_ (a' := ?_) ?_ ?_
   rotate_left
   next =>
    show Act.put _ (some 29) _ = _
    simp only [Act.put, yay, yby, ycy, i64_w, i32_w]
    rfl
   refine one_ (i := 3) (N := some 31) #[true, true, true, true, false, false, false, false, true, false, false] rfl rfl (by kernel_rfl) (by decide) (fun K hK => ?_)
   refine goes_ Try.func17 (by kernel_rfl) rfl #[.agg #[.slice A1 l1.length c1]] (by rfl) rfl rfl (by (try simp only [yiy, yjy, yky]); first | done | rfl | (simp only [yly, ymy]; rfl)) ?_
   with_reducible refine (laws_toTriangulation.calls k _ _ l1 t11 _ ?side1 ?side2 H10.out).mono ?_
   (case side1 => exact Kd.C_below HR1.out HB.out)
   (case side2 => exact HC1.out)
   rintro e w8 ⟨vo12, rfl, ho0, hb⟩
   refine ⟨_, rfl, ?_⟩
   obtain ⟨loo12, hio12, hno12⟩ := ObS.made ho0 hb HT.out (below_size HB.out)
   have nOo9 := Aside0.mk (ObS.below HOo9.out hb)
   have nBg2 := Aside0.mk (blk_below (g := g2) (o := .cells #[.slice A0 l0.length c0] 24 (0, 0)) BKg2.out hb)
   have nBg3 := Aside0.mk (blk_below (g := g3) (o := .cells #[.slice A1 l1.length c1] 24 (0, 0)) BKg3.out hb)
   have nBg6 := Aside0.mk (blk_below (g := g6) (o := .cells #[.slice none 0 0] 28 (0, 0)) BKg6.out hb)
   have nHB := Aside0.mk (below_step HB.out hb)
   have nHT := Aside0.mk (top_below HT.out hb)
   clear HB HT HOo9 BKg2 BKg3 BKg6
   have HOo9 := nOo9
   have BKg2 := nBg2
   have BKg3 := nBg3
   have BKg6 := nBg6
   have HB := nHB
   have HT := nHT
   clear nHB nHT nOo9 nBg2 nBg3 nBg6
   have HNo12 := Aside0.mk hno12.1
   clear HT
   have HT := Aside0.mk hno12.2.1
   have HOo12 := Aside0.mk hno12.2.2
   clear hno12 ho0
   obtain ⟨Ao12, co12, eeo12⟩ := HOo12.out.slice
   subst eeo12
   (try clear hb)
   (try clear hnd)
   refine hK.out _ _ ⟨(blk_cell BKg2.out 0).trans rfl, (blk_cell BKg3.out 0).trans rfl⟩ (fun hHeld => ?_)
   clear hK K
   refine norm_ (a' := ?_) ?_ ?_
   rotate_left
   next =>
    show Act.put _ (some 31) _ = _
    simp only [Act.put, yay, yby, ycy, i64_w, i32_w]
    rfl
   refine one_ (i := 4) (N := some 32) #[true, true, true, true, true, false, false, false, true, false, false] rfl rfl (by kernel_rfl) (by decide) (fun K hK => ?_)
   refine goes_ Try.func24 (by kernel_rfl) rfl #[.agg #[.slice Ao9 t8.length co9], .agg #[.slice Ao12 t11.length co12]] (by rfl) rfl rfl (by (try simp only [yiy, yjy, yky]); first | done | rfl | (simp only [yly, ymy]; rfl)) ?_
   with_reducible refine (spec_UnionTriangulations.calls k _ _ t8 _ _ t11 t14 t16 _ ?side1 ?side2 ?side3 ?side4 H13.out).mono ?_
   (case side1 => exact (ObS.reads HOo9.out).2.2)
   (case side2 => exact ObS.room HOo9.out)
   (case side3 => exact (ObS.reads HOo12.out).2.2)
   (case side4 => exact ObS.room HOo12.out)
   rintro e w9 ⟨vo15, rfl, ho0, hb⟩
   refine ⟨_, rfl, ?_⟩
   obtain ⟨loo15, hio15, hno15⟩ := ObS.made ho0 hb HT.out (below_size HB.out)
   have nOo9 := Aside0.mk (ObS.below HOo9.out hb)
   have nOo12 := Aside0.mk (ObS.below HOo12.out hb)
   have nBg2 := Aside0.mk (blk_below (g := g2) (o := .cells #[.slice A0 l0.length c0] 24 (0, 0)) BKg2.out hb)
   have nBg3 := Aside0.mk (blk_below (g := g3) (o := .cells #[.slice A1 l1.length c1] 24 (0, 0)) BKg3.out hb)
   have nBg6 := Aside0.mk (blk_below (g := g6) (o := .cells #[.slice none 0 0] 28 (0, 0)) BKg6.out hb)
   have nHB := Aside0.mk (below_step HB.out hb)
   have nHT := Aside0.mk (top_below HT.out hb)
   clear HB HT HOo9 HOo12 BKg2 BKg3 BKg6
   have HOo9 := nOo9
   have HOo12 := nOo12
   have BKg2 := nBg2
   have BKg3 := nBg3
   have BKg6 := nBg6
   have HB := nHB
   have HT := nHT
   clear nHB nHT nOo9 nOo12 nBg2 nBg3 nBg6
   have HNo15 := Aside0.mk hno15.1
   clear HT
   have HT := Aside0.mk hno15.2.1
   have HOo15 := Aside0.mk hno15.2.2
   clear hno15 ho0
   obtain ⟨Ao15, co15, eeo15⟩ := HOo15.out.slice
   subst eeo15
   (try clear hb)
   (try clear hnd)
   refine hK.out _ _ ⟨(blk_cell BKg2.out 0).trans rfl, (blk_cell BKg3.out 0).trans rfl⟩ (fun hHeld => ?_)
   clear hK K
   refine norm_ (a' := ?_) ?_ ?_
   rotate_left
   next =>
    show Act.put _ (some 32) _ = _
    simp only [Act.put, yay, yby, ycy, i64_w, i32_w]
    rfl
   refine pure_ (i := 5) (N := some 27) (v := ?_) (a' := ?_) #[true, true, true, true, true, true, false, false, true, false, false] rfl rfl (by kernel_rfl) (fun _ _ _ h => h) (Or.inl ⟨by rfl, ?_⟩) ?_ ?_
   rotate_left
   next =>
    intro w'
    go_simp
    with_reducible rfl
   rotate_left
   next =>
    simp only [Act.put, yay, yby, ycy, i64_w, i32_w]
    rfl
   refine pure_ (i := 6) (N := some 33) (v := ?_) (a' := ?_) #[true, true, true, true, true, true, true, false, true, false, false] rfl rfl (by kernel_rfl) (fun _ _ _ h => h) (Or.inl ⟨by rfl, ?_⟩) ?_ ?_
   rotate_left
   next =>
    intro w'
    go_simp
    with_reducible rfl
   rotate_left
   next =>
    simp only [Act.put, yay, yby, ycy, i64_w, i32_w]
    rfl
   refine pure_ (i := 7) (N := some 34) (v := ?_) (a' := ?_) #[true, true, true, true, true, true, true, true, true, false, false] rfl rfl (by kernel_rfl) (fun _ _ _ h => h) (Or.inl ⟨by rfl, ?_⟩) ?_ ?_
   rotate_left
   next =>
    intro w'
    go_simp
    with_reducible rfl
   rotate_left
   next =>
    simp only [Act.put, yay, yby, ycy, i64_w, i32_w]
    rfl
   have hc_ := hcont (Ao9, co9, Ao12, co12, Ao15, co15, g6) w9 ⟨loo15, hio15, w9.heap.size, (by (try dsimp only); have := HNg2.out; have := HNg3.out; have := HNg6.out; have := HNo9.out; have := HNo12.out; have := HNo15.out; have := HT.out; omega), (by (try dsimp only); have := HNg2.out; have := HNg3.out; have := HNg6.out; have := HNo9.out; have := HNo12.out; have := HNo15.out; have := HT.out; omega), (by (try dsimp only); have := HNg2.out; have := HNg3.out; have := HNg6.out; have := HNo9.out; have := HNo12.out; have := HNo15.out; have := HT.out; omega), yoy _, HOo15.out, BKg2.out, BKg3.out, BKg6.out, HB.out⟩
   exact norm_ (by simp only [putAll, Act.put, yay, yby, ycy, i64_w, i32_w] <;> rfl) hc_
 clear hHeld HB HT  BKg2 BKg3
 rintro ⟨Ao9, co9, Ao12, co12, Ao15, co15, g6⟩ w25 hF_
 have hF2_ : ∃ loo15 hio15 tp : Nat, (g3 + 1 ≤ loo15 ∧ loo15 ≤ hio15) ∧ (g3 + 1 ≤ g6 ∧ (g6 < loo15 ∨ hio15 ≤ g6)) ∧ (g6 + 1 ≤ tp ∧ hio15 ≤ tp) ∧ tp ≤ w25.heap.size ∧ ObS (Kd.slice 74 kFace) 75 w.heap.size w25 loo15 hio15 (.slice Ao15 t14.length co15) t14 ∧ w25.heap[g2]? = some (.cells #[.slice A0 l0.length c0] 24 (0, 0)) ∧ w25.heap[g3]? = some (.cells #[.slice A1 l1.length c1] 24 (0, 0)) ∧ w25.heap[g6]? = some (.cells #[.slice none 0 0] 28 (0, 0)) ∧ Below w.heap.size w w25 := hF_
 clear hF_
 obtain ⟨loo15, hio15, tpg6, n1_, n2_, n3_, n4_, hj0_, hj1_, hj2_, hj3_, hj4_⟩ := hF2_
 have HNo15 := Aside0.mk n1_
 have HNg6 := Aside0.mk n2_
 have HNtg6 := Aside0.mk n3_
 have HT := Aside0.mk n4_
 have HOo15 := Aside0.mk hj0_
 have BKg2 := Aside0.mk hj1_
 have BKg3 := Aside0.mk hj2_
 have BKg6 := Aside0.mk hj3_
 have HB := Aside0.mk hj4_
 clear n1_ n2_ n3_ n4_ hj0_ hj1_ hj2_ hj3_ hj4_
 have hnbg6_g2 : g6 ≠ g2 := (by have := HNg2.out; have := HNg3.out; have := HNo15.out; have := HNg6.out; have := HNtg6.out; omega)
 have hnbg2_g6 : g2 ≠ g6 := (by have := HNg2.out; have := HNg3.out; have := HNo15.out; have := HNg6.out; have := HNtg6.out; omega)
 have hnbg6_g3 : g6 ≠ g3 := (by have := HNg2.out; have := HNg3.out; have := HNo15.out; have := HNg6.out; have := HNtg6.out; omega)
 have hnbg3_g6 : g3 ≠ g6 := (by have := HNg2.out; have := HNg3.out; have := HNo15.out; have := HNg6.out; have := HNtg6.out; omega)
 have hczg2 : w25.cell? ⟨g2, 0, none⟩ = some (.slice A0 l0.length c0) := (blk_cell BKg2.out 0).trans rfl
 have hfzg2 := blk_frozen BKg2.out 0
 have hczg3 : w25.cell? ⟨g3, 0, none⟩ = some (.slice A1 l1.length c1) := (blk_cell BKg3.out 0).trans rfl
 have hfzg3 := blk_frozen BKg3.out 0
 have hczg6 : w25.cell? ⟨g6, 0, none⟩ = some (.slice none 0 0) := (blk_cell BKg6.out 0).trans rfl
 have hfzg6 := blk_frozen BKg6.out 0
 refine norm_ (a' := ?_) ?_ ?_
 rotate_left
 next =>
  simp only [putAll, Act.put, yay, yby, ycy, i64_w, i32_w]
  rfl
 refine last_ (i := 9) (N := none) #[true, true, true, true, true, true, true, true, true, true, false] rfl rfl (by kernel_rfl) (by decide) (fun K hK => ?_)
 refine skip_ (w1 := ?_) (by rfl) rfl ?_ ?_
 rotate_left
 next =>
  go_simp
  rfl
 refine hK.out _ _ ?_
 clear hK K
 refine pure_ (i := 10) (N := some 7) (v := ?_) (a' := ?_) #[true, true, true, true, true, true, true, true, true, true, true] rfl rfl (by kernel_rfl) (fun _ _ _ h => h) (Or.inl ⟨by rfl, ?_⟩) ?_ ?_
 rotate_left
 next =>
  intro w'
  go_simp
  with_reducible rfl
 rotate_left
 next =>
  simp only [Act.put, yay, yby, ycy, i64_w, i32_w]
  rfl
 refine done_ (by kernel_rfl) ?_
 try go_wp2_with (first | ((with_reducible refine gate_callee (f := 17) rfl ?_); refine goesL_ (some 36) rfl rfl Try.func17 (by kernel_rfl) rfl #[.agg #[.slice A0 l0.length c0]] rfl (by (try simp only [yiy, yjy, yky]); first | done | rfl | (simp only [yly, ymy]; rfl)) ?_; (with_reducible refine (laws_toTriangulation.calls k _ _ l0 t18 _ ?side1 ?side2 H17.out).mono ?_); (case side1 => exact Kd.C_below HR0.out (below_set HB.out (show w.heap.size ≤ g6 from (by have := HNg2.out; have := HNg3.out; have := HNo15.out; have := HNg6.out; have := HNtg6.out; omega)))); (case side2 => exact HC0.out); rintro e w26 ⟨vo19, rfl, ho0, hb⟩; refine ⟨_, rfl, ?_⟩; (try clear hczg2 hfzg2 hczg3 hfzg3 hczg6 hfzg6); obtain ⟨loo19, hio19, hno19⟩ := ObS.made ho0 hb (top_far HT.out) (below_size (below_set HB.out (show w.heap.size ≤ g6 from (by have := HNg2.out; have := HNg3.out; have := HNo15.out; have := HNg6.out; have := HNtg6.out; omega)))); have nOo15 := Aside0.mk (ObS.below (ObS.far (g := g6) (i := 0) HOo15.out (by have := HNg2.out; have := HNg3.out; have := HNo15.out; have := HNg6.out; have := HNtg6.out; omega) _) hb); have nBg2 := Aside0.mk (blk_below (g := g2) (o := .cells #[.slice A0 l0.length c0] 24 (0, 0)) (blk_far (p := ⟨g6, 0, none⟩) BKg2.out (show g2 ≠ g6 from (by have := HNg2.out; have := HNg3.out; have := HNo15.out; have := HNg6.out; have := HNtg6.out; omega)) _) hb); have nBg3 := Aside0.mk (blk_below (g := g3) (o := .cells #[.slice A1 l1.length c1] 24 (0, 0)) (blk_far (p := ⟨g6, 0, none⟩) BKg3.out (show g3 ≠ g6 from (by have := HNg2.out; have := HNg3.out; have := HNo15.out; have := HNg6.out; have := HNtg6.out; omega)) _) hb); have nBg6 := Aside0.mk (blk_below (g := g6) (o := .cells #[.slice Ao15 t14.length co15] 28 (0, 0)) (blk_put (cs := #[.slice none 0 0]) BKg6.out 0 _ rfl) hb); have nHB := Aside0.mk (below_step (below_set HB.out (show w.heap.size ≤ g6 from (by have := HNg2.out; have := HNg3.out; have := HNo15.out; have := HNg6.out; have := HNtg6.out; omega))) hb); have nHT := Aside0.mk (top_below (top_far HT.out) hb); clear HB HT HOo15 BKg2 BKg3 BKg6; have HOo15 := nOo15; have BKg2 := nBg2; have BKg3 := nBg3; have BKg6 := nBg6; have HB := nHB; have HT := nHT; clear nHB nHT nOo15 nBg2 nBg3 nBg6; have HNo19 := Aside0.mk hno19.1; clear HT; have HT := Aside0.mk hno19.2.1; have HOo19 := Aside0.mk hno19.2.2; clear hno19 ho0; obtain ⟨Ao19, co19, eeo19⟩ := HOo19.out.slice; subst eeo19; (try clear hb); (try clear hnd); have hczg2 : w26.cell? ⟨g2, 0, none⟩ = some (.slice A0 l0.length c0) := (blk_cell BKg2.out 0).trans rfl; have hfzg2 := blk_frozen BKg2.out 0; have hczg3 : w26.cell? ⟨g3, 0, none⟩ = some (.slice A1 l1.length c1) := (blk_cell BKg3.out 0).trans rfl; have hfzg3 := blk_frozen BKg3.out 0; have hczg6 : w26.cell? ⟨g6, 0, none⟩ = some (.slice Ao15 t14.length co15) := (blk_cell BKg6.out 0).trans rfl; have hfzg6 := blk_frozen BKg6.out 0) | ((with_reducible refine gate_dst (N := 8) rfl ?_); refine box_event ?hg (N := 8) ?hd (cs := #[.slice none 0 0]) (t := 28) ?hr ?_; (case hd => rfl); (case hg => rfl); (case hr => first | (go_simp; done) | (go_simp; rfl)); intro g8 hg w27 hbox hb; (try clear hczg2 hfzg2 hczg3 hfzg3 hczg6 hfzg6); have HNg8 := Aside0.mk (by rw [hg]; exact HT.out : hio19 ≤ g8); have HXg8 := Aside0.mk (show g8 + 1 ≤ w27.heap.size from blk_lt hbox); have nOo15 := Aside0.mk (ObS.below HOo15.out hb); have nOo19 := Aside0.mk (ObS.below HOo19.out hb); have nBg2 := Aside0.mk (blk_below (g := g2) (o := .cells #[.slice A0 l0.length c0] 24 (0, 0)) BKg2.out hb); have nBg3 := Aside0.mk (blk_below (g := g3) (o := .cells #[.slice A1 l1.length c1] 24 (0, 0)) BKg3.out hb); have nBg6 := Aside0.mk (blk_below (g := g6) (o := .cells #[.slice Ao15 t14.length co15] 28 (0, 0)) BKg6.out hb); have nHB := Aside0.mk (below_step HB.out hb); have nHT := Aside0.mk (top_below HT.out hb); clear HB HT HOo15 HOo19 BKg2 BKg3 BKg6; have HOo15 := nOo15; have HOo19 := nOo19; have BKg2 := nBg2; have BKg3 := nBg3; have BKg6 := nBg6; have HB := nHB; have HT := nHT; clear nHB nHT nOo15 nOo19 nBg2 nBg3 nBg6; clear HT; have HT := HXg8; clear HXg8; have BKg8 := Aside0.mk hbox; clear hg hbox hb; have hnbg8_g2 : g8 ≠ g2 := (by have := HNg2.out; have := HNg3.out; have := HNo15.out; have := HNg6.out; have := HNtg6.out; have := HNo19.out; have := HNg8.out; omega); have hnbg2_g8 : g2 ≠ g8 := (by have := HNg2.out; have := HNg3.out; have := HNo15.out; have := HNg6.out; have := HNtg6.out; have := HNo19.out; have := HNg8.out; omega); have hnbg8_g3 : g8 ≠ g3 := (by have := HNg2.out; have := HNg3.out; have := HNo15.out; have := HNg6.out; have := HNtg6.out; have := HNo19.out; have := HNg8.out; omega); have hnbg3_g8 : g3 ≠ g8 := (by have := HNg2.out; have := HNg3.out; have := HNo15.out; have := HNg6.out; have := HNtg6.out; have := HNo19.out; have := HNg8.out; omega); have hnbg8_g6 : g8 ≠ g6 := (by have := HNg2.out; have := HNg3.out; have := HNo15.out; have := HNg6.out; have := HNtg6.out; have := HNo19.out; have := HNg8.out; omega); have hnbg6_g8 : g6 ≠ g8 := (by have := HNg2.out; have := HNg3.out; have := HNo15.out; have := HNg6.out; have := HNtg6.out; have := HNo19.out; have := HNg8.out; omega); have hczg2 : w27.cell? ⟨g2, 0, none⟩ = some (.slice A0 l0.length c0) := (blk_cell BKg2.out 0).trans rfl; have hfzg2 := blk_frozen BKg2.out 0; have hczg3 : w27.cell? ⟨g3, 0, none⟩ = some (.slice A1 l1.length c1) := (blk_cell BKg3.out 0).trans rfl; have hfzg3 := blk_frozen BKg3.out 0; have hczg6 : w27.cell? ⟨g6, 0, none⟩ = some (.slice Ao15 t14.length co15) := (blk_cell BKg6.out 0).trans rfl; have hfzg6 := blk_frozen BKg6.out 0; have hczg8 : w27.cell? ⟨g8, 0, none⟩ = some (.slice none 0 0) := (blk_cell BKg8.out 0).trans rfl; have hfzg8 := blk_frozen BKg8.out 0) | ((with_reducible refine gate_callee (f := 17) rfl ?_); refine goesL_ (some 38) rfl rfl Try.func17 (by kernel_rfl) rfl #[.agg #[.slice A1 l1.length c1]] rfl (by (try simp only [yiy, yjy, yky]); first | done | rfl | (simp only [yly, ymy]; rfl)) ?_; (with_reducible refine (laws_toTriangulation.calls k _ _ l1 t21 _ ?side1 ?side2 H20.out).mono ?_); (case side1 => exact Kd.C_below HR1.out (below_set HB.out (show w.heap.size ≤ g8 from (by have := HNg2.out; have := HNg3.out; have := HNo15.out; have := HNg6.out; have := HNtg6.out; have := HNo19.out; have := HNg8.out; omega)))); (case side2 => exact HC1.out); rintro e w28 ⟨vo22, rfl, ho0, hb⟩; refine ⟨_, rfl, ?_⟩; (try clear hczg2 hfzg2 hczg3 hfzg3 hczg6 hfzg6 hczg8 hfzg8); obtain ⟨loo22, hio22, hno22⟩ := ObS.made ho0 hb (top_far HT.out) (below_size (below_set HB.out (show w.heap.size ≤ g8 from (by have := HNg2.out; have := HNg3.out; have := HNo15.out; have := HNg6.out; have := HNtg6.out; have := HNo19.out; have := HNg8.out; omega)))); have nOo15 := Aside0.mk (ObS.below (ObS.far (g := g8) (i := 0) HOo15.out (by have := HNg2.out; have := HNg3.out; have := HNo15.out; have := HNg6.out; have := HNtg6.out; have := HNo19.out; have := HNg8.out; omega) _) hb); have nOo19 := Aside0.mk (ObS.below (ObS.far (g := g8) (i := 0) HOo19.out (by have := HNg2.out; have := HNg3.out; have := HNo15.out; have := HNg6.out; have := HNtg6.out; have := HNo19.out; have := HNg8.out; omega) _) hb); have nBg2 := Aside0.mk (blk_below (g := g2) (o := .cells #[.slice A0 l0.length c0] 24 (0, 0)) (blk_far (p := ⟨g8, 0, none⟩) BKg2.out (show g2 ≠ g8 from (by have := HNg2.out; have := HNg3.out; have := HNo15.out; have := HNg6.out; have := HNtg6.out; have := HNo19.out; have := HNg8.out; omega)) _) hb); have nBg3 := Aside0.mk (blk_below (g := g3) (o := .cells #[.slice A1 l1.length c1] 24 (0, 0)) (blk_far (p := ⟨g8, 0, none⟩) BKg3.out (show g3 ≠ g8 from (by have := HNg2.out; have := HNg3.out; have := HNo15.out; have := HNg6.out; have := HNtg6.out; have := HNo19.out; have := HNg8.out; omega)) _) hb); have nBg6 := Aside0.mk (blk_below (g := g6) (o := .cells #[.slice Ao15 t14.length co15] 28 (0, 0)) (blk_far (p := ⟨g8, 0, none⟩) BKg6.out (show g6 ≠ g8 from (by have := HNg2.out; have := HNg3.out; have := HNo15.out; have := HNg6.out; have := HNtg6.out; have := HNo19.out; have := HNg8.out; omega)) _) hb); have nBg8 := Aside0.mk (blk_below (g := g8) (o := .cells #[.slice Ao19 t18.length co19] 28 (0, 0)) (blk_put (cs := #[.slice none 0 0]) BKg8.out 0 _ rfl) hb); have nHB := Aside0.mk (below_step (below_set HB.out (show w.heap.size ≤ g8 from (by have := HNg2.out; have := HNg3.out; have := HNo15.out; have := HNg6.out; have := HNtg6.out; have := HNo19.out; have := HNg8.out; omega))) hb); have nHT := Aside0.mk (top_below (top_far HT.out) hb); clear HB HT HOo15 HOo19 BKg2 BKg3 BKg6 BKg8; have HOo15 := nOo15; have HOo19 := nOo19; have BKg2 := nBg2; have BKg3 := nBg3; have BKg6 := nBg6; have BKg8 := nBg8; have HB := nHB; have HT := nHT; clear nHB nHT nOo15 nOo19 nBg2 nBg3 nBg6 nBg8; have HNo22 := Aside0.mk hno22.1; clear HT; have HT := Aside0.mk hno22.2.1; have HOo22 := Aside0.mk hno22.2.2; clear hno22 ho0; obtain ⟨Ao22, co22, eeo22⟩ := HOo22.out.slice; subst eeo22; (try clear hb); (try clear hnd); have hczg2 : w28.cell? ⟨g2, 0, none⟩ = some (.slice A0 l0.length c0) := (blk_cell BKg2.out 0).trans rfl; have hfzg2 := blk_frozen BKg2.out 0; have hczg3 : w28.cell? ⟨g3, 0, none⟩ = some (.slice A1 l1.length c1) := (blk_cell BKg3.out 0).trans rfl; have hfzg3 := blk_frozen BKg3.out 0; have hczg6 : w28.cell? ⟨g6, 0, none⟩ = some (.slice Ao15 t14.length co15) := (blk_cell BKg6.out 0).trans rfl; have hfzg6 := blk_frozen BKg6.out 0; have hczg8 : w28.cell? ⟨g8, 0, none⟩ = some (.slice Ao19 t18.length co19) := (blk_cell BKg8.out 0).trans rfl; have hfzg8 := blk_frozen BKg8.out 0) | ((with_reducible refine gate_dst (N := 9) rfl ?_); refine box_event ?hg (N := 9) ?hd (cs := #[.slice none 0 0]) (t := 28) ?hr ?_; (case hd => rfl); (case hg => rfl); (case hr => first | (go_simp; done) | (go_simp; rfl)); intro g9 hg w29 hbox hb; (try clear hczg2 hfzg2 hczg3 hfzg3 hczg6 hfzg6 hczg8 hfzg8); have HNg9 := Aside0.mk (by rw [hg]; exact HT.out : hio22 ≤ g9); have HXg9 := Aside0.mk (show g9 + 1 ≤ w29.heap.size from blk_lt hbox); have nOo15 := Aside0.mk (ObS.below HOo15.out hb); have nOo19 := Aside0.mk (ObS.below HOo19.out hb); have nOo22 := Aside0.mk (ObS.below HOo22.out hb); have nBg2 := Aside0.mk (blk_below (g := g2) (o := .cells #[.slice A0 l0.length c0] 24 (0, 0)) BKg2.out hb); have nBg3 := Aside0.mk (blk_below (g := g3) (o := .cells #[.slice A1 l1.length c1] 24 (0, 0)) BKg3.out hb); have nBg6 := Aside0.mk (blk_below (g := g6) (o := .cells #[.slice Ao15 t14.length co15] 28 (0, 0)) BKg6.out hb); have nBg8 := Aside0.mk (blk_below (g := g8) (o := .cells #[.slice Ao19 t18.length co19] 28 (0, 0)) BKg8.out hb); have nHB := Aside0.mk (below_step HB.out hb); have nHT := Aside0.mk (top_below HT.out hb); clear HB HT HOo15 HOo19 HOo22 BKg2 BKg3 BKg6 BKg8; have HOo15 := nOo15; have HOo19 := nOo19; have HOo22 := nOo22; have BKg2 := nBg2; have BKg3 := nBg3; have BKg6 := nBg6; have BKg8 := nBg8; have HB := nHB; have HT := nHT; clear nHB nHT nOo15 nOo19 nOo22 nBg2 nBg3 nBg6 nBg8; clear HT; have HT := HXg9; clear HXg9; have BKg9 := Aside0.mk hbox; clear hg hbox hb; have hnbg9_g2 : g9 ≠ g2 := (by have := HNg2.out; have := HNg3.out; have := HNo15.out; have := HNg6.out; have := HNtg6.out; have := HNo19.out; have := HNg8.out; have := HNo22.out; have := HNg9.out; omega); have hnbg2_g9 : g2 ≠ g9 := (by have := HNg2.out; have := HNg3.out; have := HNo15.out; have := HNg6.out; have := HNtg6.out; have := HNo19.out; have := HNg8.out; have := HNo22.out; have := HNg9.out; omega); have hnbg9_g3 : g9 ≠ g3 := (by have := HNg2.out; have := HNg3.out; have := HNo15.out; have := HNg6.out; have := HNtg6.out; have := HNo19.out; have := HNg8.out; have := HNo22.out; have := HNg9.out; omega); have hnbg3_g9 : g3 ≠ g9 := (by have := HNg2.out; have := HNg3.out; have := HNo15.out; have := HNg6.out; have := HNtg6.out; have := HNo19.out; have := HNg8.out; have := HNo22.out; have := HNg9.out; omega); have hnbg9_g6 : g9 ≠ g6 := (by have := HNg2.out; have := HNg3.out; have := HNo15.out; have := HNg6.out; have := HNtg6.out; have := HNo19.out; have := HNg8.out; have := HNo22.out; have := HNg9.out; omega); have hnbg6_g9 : g6 ≠ g9 := (by have := HNg2.out; have := HNg3.out; have := HNo15.out; have := HNg6.out; have := HNtg6.out; have := HNo19.out; have := HNg8.out; have := HNo22.out; have := HNg9.out; omega); have hnbg9_g8 : g9 ≠ g8 := (by have := HNg2.out; have := HNg3.out; have := HNo15.out; have := HNg6.out; have := HNtg6.out; have := HNo19.out; have := HNg8.out; have := HNo22.out; have := HNg9.out; omega); have hnbg8_g9 : g8 ≠ g9 := (by have := HNg2.out; have := HNg3.out; have := HNo15.out; have := HNg6.out; have := HNtg6.out; have := HNo19.out; have := HNg8.out; have := HNo22.out; have := HNg9.out; omega); have hczg2 : w29.cell? ⟨g2, 0, none⟩ = some (.slice A0 l0.length c0) := (blk_cell BKg2.out 0).trans rfl; have hfzg2 := blk_frozen BKg2.out 0; have hczg3 : w29.cell? ⟨g3, 0, none⟩ = some (.slice A1 l1.length c1) := (blk_cell BKg3.out 0).trans rfl; have hfzg3 := blk_frozen BKg3.out 0; have hczg6 : w29.cell? ⟨g6, 0, none⟩ = some (.slice Ao15 t14.length co15) := (blk_cell BKg6.out 0).trans rfl; have hfzg6 := blk_frozen BKg6.out 0; have hczg8 : w29.cell? ⟨g8, 0, none⟩ = some (.slice Ao19 t18.length co19) := (blk_cell BKg8.out 0).trans rfl; have hfzg8 := blk_frozen BKg8.out 0; have hczg9 : w29.cell? ⟨g9, 0, none⟩ = some (.slice none 0 0) := (blk_cell BKg9.out 0).trans rfl; have hfzg9 := blk_frozen BKg9.out 0) | ((with_reducible refine gate_callee (f := 25) rfl ?_); refine goesL_ (some 42) rfl rfl Try.func25 (by kernel_rfl) rfl #[.agg #[.slice Ao19 t18.length co19], .agg #[.slice Ao22 t21.length co22]] rfl (by (try simp only [yiy, yjy, yky]); first | done | rfl | (simp only [yly, ymy]; rfl)) ?_; (with_reducible refine (impl_UnionTriangulations.calls k _ _ t18 _ _ t21 t24 t26 _ ?side1 ?side2 ?side3 ?side4 H23.out).mono ?_); (case side1 => exact (ObS.reads (ObS.far (g := g9) (i := 0) HOo19.out (by have := HNg2.out; have := HNg3.out; have := HNo15.out; have := HNg6.out; have := HNtg6.out; have := HNo19.out; have := HNg8.out; have := HNo22.out; have := HNg9.out; omega) _)).2.2); (case side2 => exact ObS.room HOo19.out); (case side3 => exact (ObS.reads (ObS.far (g := g9) (i := 0) HOo22.out (by have := HNg2.out; have := HNg3.out; have := HNo15.out; have := HNg6.out; have := HNtg6.out; have := HNo19.out; have := HNg8.out; have := HNo22.out; have := HNg9.out; omega) _)).2.2); (case side4 => exact ObS.room HOo22.out); rintro e w30 ⟨vo25, rfl, ho0, hb⟩; refine ⟨_, rfl, ?_⟩; (try clear hczg2 hfzg2 hczg3 hfzg3 hczg6 hfzg6 hczg8 hfzg8 hczg9 hfzg9); obtain ⟨loo25, hio25, hno25⟩ := ObS.made ho0 hb (top_far HT.out) (below_size (below_set HB.out (show w.heap.size ≤ g9 from (by have := HNg2.out; have := HNg3.out; have := HNo15.out; have := HNg6.out; have := HNtg6.out; have := HNo19.out; have := HNg8.out; have := HNo22.out; have := HNg9.out; omega)))); have nOo15 := Aside0.mk (ObS.below (ObS.far (g := g9) (i := 0) HOo15.out (by have := HNg2.out; have := HNg3.out; have := HNo15.out; have := HNg6.out; have := HNtg6.out; have := HNo19.out; have := HNg8.out; have := HNo22.out; have := HNg9.out; omega) _) hb); have nOo19 := Aside0.mk (ObS.below (ObS.far (g := g9) (i := 0) HOo19.out (by have := HNg2.out; have := HNg3.out; have := HNo15.out; have := HNg6.out; have := HNtg6.out; have := HNo19.out; have := HNg8.out; have := HNo22.out; have := HNg9.out; omega) _) hb); have nOo22 := Aside0.mk (ObS.below (ObS.far (g := g9) (i := 0) HOo22.out (by have := HNg2.out; have := HNg3.out; have := HNo15.out; have := HNg6.out; have := HNtg6.out; have := HNo19.out; have := HNg8.out; have := HNo22.out; have := HNg9.out; omega) _) hb); have nBg2 := Aside0.mk (blk_below (g := g2) (o := .cells #[.slice A0 l0.length c0] 24 (0, 0)) (blk_far (p := ⟨g9, 0, none⟩) BKg2.out (show g2 ≠ g9 from (by have := HNg2.out; have := HNg3.out; have := HNo15.out; have := HNg6.out; have := HNtg6.out; have := HNo19.out; have := HNg8.out; have := HNo22.out; have := HNg9.out; omega)) _) hb); have nBg3 := Aside0.mk (blk_below (g := g3) (o := .cells #[.slice A1 l1.length c1] 24 (0, 0)) (blk_far (p := ⟨g9, 0, none⟩) BKg3.out (show g3 ≠ g9 from (by have := HNg2.out; have := HNg3.out; have := HNo15.out; have := HNg6.out; have := HNtg6.out; have := HNo19.out; have := HNg8.out; have := HNo22.out; have := HNg9.out; omega)) _) hb); have nBg6 := Aside0.mk (blk_below (g := g6) (o := .cells #[.slice Ao15 t14.length co15] 28 (0, 0)) (blk_far (p := ⟨g9, 0, none⟩) BKg6.out (show g6 ≠ g9 from (by have := HNg2.out; have := HNg3.out; have := HNo15.out; have := HNg6.out; have := HNtg6.out; have := HNo19.out; have := HNg8.out; have := HNo22.out; have := HNg9.out; omega)) _) hb); have nBg8 := Aside0.mk (blk_below (g := g8) (o := .cells #[.slice Ao19 t18.length co19] 28 (0, 0)) (blk_far (p := ⟨g9, 0, none⟩) BKg8.out (show g8 ≠ g9 from (by have := HNg2.out; have := HNg3.out; have := HNo15.out; have := HNg6.out; have := HNtg6.out; have := HNo19.out; have := HNg8.out; have := HNo22.out; have := HNg9.out; omega)) _) hb); have nBg9 := Aside0.mk (blk_below (g := g9) (o := .cells #[.slice Ao22 t21.length co22] 28 (0, 0)) (blk_put (cs := #[.slice none 0 0]) BKg9.out 0 _ rfl) hb); have nHB := Aside0.mk (below_step (below_set HB.out (show w.heap.size ≤ g9 from (by have := HNg2.out; have := HNg3.out; have := HNo15.out; have := HNg6.out; have := HNtg6.out; have := HNo19.out; have := HNg8.out; have := HNo22.out; have := HNg9.out; omega))) hb); have nHT := Aside0.mk (top_below (top_far HT.out) hb); clear HB HT HOo15 HOo19 HOo22 BKg2 BKg3 BKg6 BKg8 BKg9; have HOo15 := nOo15; have HOo19 := nOo19; have HOo22 := nOo22; have BKg2 := nBg2; have BKg3 := nBg3; have BKg6 := nBg6; have BKg8 := nBg8; have BKg9 := nBg9; have HB := nHB; have HT := nHT; clear nHB nHT nOo15 nOo19 nOo22 nBg2 nBg3 nBg6 nBg8 nBg9; have HNo25 := Aside0.mk hno25.1; clear HT; have HT := Aside0.mk hno25.2.1; have HOo25 := Aside0.mk hno25.2.2; clear hno25 ho0; obtain ⟨Ao25, co25, eeo25⟩ := HOo25.out.slice; subst eeo25; (try clear hb); (try clear hnd); have hczg2 : w30.cell? ⟨g2, 0, none⟩ = some (.slice A0 l0.length c0) := (blk_cell BKg2.out 0).trans rfl; have hfzg2 := blk_frozen BKg2.out 0; have hczg3 : w30.cell? ⟨g3, 0, none⟩ = some (.slice A1 l1.length c1) := (blk_cell BKg3.out 0).trans rfl; have hfzg3 := blk_frozen BKg3.out 0; have hczg6 : w30.cell? ⟨g6, 0, none⟩ = some (.slice Ao15 t14.length co15) := (blk_cell BKg6.out 0).trans rfl; have hfzg6 := blk_frozen BKg6.out 0; have hczg8 : w30.cell? ⟨g8, 0, none⟩ = some (.slice Ao19 t18.length co19) := (blk_cell BKg8.out 0).trans rfl; have hfzg8 := blk_frozen BKg8.out 0; have hczg9 : w30.cell? ⟨g9, 0, none⟩ = some (.slice Ao22 t21.length co22) := (blk_cell BKg9.out 0).trans rfl; have hfzg9 := blk_frozen BKg9.out 0) | ((with_reducible refine gate_dst (N := 10) rfl ?_); refine box_event ?hg (N := 10) ?hd (cs := #[.slice none 0 0]) (t := 28) ?hr ?_; (case hd => rfl); (case hg => rfl); (case hr => first | (go_simp; done) | (go_simp; rfl)); intro g10 hg w31 hbox hb; (try clear hczg2 hfzg2 hczg3 hfzg3 hczg6 hfzg6 hczg8 hfzg8 hczg9 hfzg9); have HNg10 := Aside0.mk (by rw [hg]; exact HT.out : hio25 ≤ g10); have HXg10 := Aside0.mk (show g10 + 1 ≤ w31.heap.size from blk_lt hbox); have nOo15 := Aside0.mk (ObS.below HOo15.out hb); have nOo19 := Aside0.mk (ObS.below HOo19.out hb); have nOo22 := Aside0.mk (ObS.below HOo22.out hb); have nOo25 := Aside0.mk (ObS.below HOo25.out hb); have nBg2 := Aside0.mk (blk_below (g := g2) (o := .cells #[.slice A0 l0.length c0] 24 (0, 0)) BKg2.out hb); have nBg3 := Aside0.mk (blk_below (g := g3) (o := .cells #[.slice A1 l1.length c1] 24 (0, 0)) BKg3.out hb); have nBg6 := Aside0.mk (blk_below (g := g6) (o := .cells #[.slice Ao15 t14.length co15] 28 (0, 0)) BKg6.out hb); have nBg8 := Aside0.mk (blk_below (g := g8) (o := .cells #[.slice Ao19 t18.length co19] 28 (0, 0)) BKg8.out hb); have nBg9 := Aside0.mk (blk_below (g := g9) (o := .cells #[.slice Ao22 t21.length co22] 28 (0, 0)) BKg9.out hb); have nHB := Aside0.mk (below_step HB.out hb); have nHT := Aside0.mk (top_below HT.out hb); clear HB HT HOo15 HOo19 HOo22 HOo25 BKg2 BKg3 BKg6 BKg8 BKg9; have HOo15 := nOo15; have HOo19 := nOo19; have HOo22 := nOo22; have HOo25 := nOo25; have BKg2 := nBg2; have BKg3 := nBg3; have BKg6 := nBg6; have BKg8 := nBg8; have BKg9 := nBg9; have HB := nHB; have HT := nHT; clear nHB nHT nOo15 nOo19 nOo22 nOo25 nBg2 nBg3 nBg6 nBg8 nBg9; clear HT; have HT := HXg10; clear HXg10; have BKg10 := Aside0.mk hbox; clear hg hbox hb; have hnbg10_g2 : g10 ≠ g2 := (by have := HNg2.out; have := HNg3.out; have := HNo15.out; have := HNg6.out; have := HNtg6.out; have := HNo19.out; have := HNg8.out; have := HNo22.out; have := HNg9.out; have := HNo25.out; have := HNg10.out; omega); have hnbg2_g10 : g2 ≠ g10 := (by have := HNg2.out; have := HNg3.out; have := HNo15.out; have := HNg6.out; have := HNtg6.out; have := HNo19.out; have := HNg8.out; have := HNo22.out; have := HNg9.out; have := HNo25.out; have := HNg10.out; omega); have hnbg10_g3 : g10 ≠ g3 := (by have := HNg2.out; have := HNg3.out; have := HNo15.out; have := HNg6.out; have := HNtg6.out; have := HNo19.out; have := HNg8.out; have := HNo22.out; have := HNg9.out; have := HNo25.out; have := HNg10.out; omega); have hnbg3_g10 : g3 ≠ g10 := (by have := HNg2.out; have := HNg3.out; have := HNo15.out; have := HNg6.out; have := HNtg6.out; have := HNo19.out; have := HNg8.out; have := HNo22.out; have := HNg9.out; have := HNo25.out; have := HNg10.out; omega); have hnbg10_g6 : g10 ≠ g6 := (by have := HNg2.out; have := HNg3.out; have := HNo15.out; have := HNg6.out; have := HNtg6.out; have := HNo19.out; have := HNg8.out; have := HNo22.out; have := HNg9.out; have := HNo25.out; have := HNg10.out; omega); have hnbg6_g10 : g6 ≠ g10 := (by have := HNg2.out; have := HNg3.out; have := HNo15.out; have := HNg6.out; have := HNtg6.out; have := HNo19.out; have := HNg8.out; have := HNo22.out; have := HNg9.out; have := HNo25.out; have := HNg10.out; omega); have hnbg10_g8 : g10 ≠ g8 := (by have := HNg2.out; have := HNg3.out; have := HNo15.out; have := HNg6.out; have := HNtg6.out; have := HNo19.out; have := HNg8.out; have := HNo22.out; have := HNg9.out; have := HNo25.out; have := HNg10.out; omega); have hnbg8_g10 : g8 ≠ g10 := (by have := HNg2.out; have := HNg3.out; have := HNo15.out; have := HNg6.out; have := HNtg6.out; have := HNo19.out; have := HNg8.out; have := HNo22.out; have := HNg9.out; have := HNo25.out; have := HNg10.out; omega); have hnbg10_g9 : g10 ≠ g9 := (by have := HNg2.out; have := HNg3.out; have := HNo15.out; have := HNg6.out; have := HNtg6.out; have := HNo19.out; have := HNg8.out; have := HNo22.out; have := HNg9.out; have := HNo25.out; have := HNg10.out; omega); have hnbg9_g10 : g9 ≠ g10 := (by have := HNg2.out; have := HNg3.out; have := HNo15.out; have := HNg6.out; have := HNtg6.out; have := HNo19.out; have := HNg8.out; have := HNo22.out; have := HNg9.out; have := HNo25.out; have := HNg10.out; omega); have hczg2 : w31.cell? ⟨g2, 0, none⟩ = some (.slice A0 l0.length c0) := (blk_cell BKg2.out 0).trans rfl; have hfzg2 := blk_frozen BKg2.out 0; have hczg3 : w31.cell? ⟨g3, 0, none⟩ = some (.slice A1 l1.length c1) := (blk_cell BKg3.out 0).trans rfl; have hfzg3 := blk_frozen BKg3.out 0; have hczg6 : w31.cell? ⟨g6, 0, none⟩ = some (.slice Ao15 t14.length co15) := (blk_cell BKg6.out 0).trans rfl; have hfzg6 := blk_frozen BKg6.out 0; have hczg8 : w31.cell? ⟨g8, 0, none⟩ = some (.slice Ao19 t18.length co19) := (blk_cell BKg8.out 0).trans rfl; have hfzg8 := blk_frozen BKg8.out 0; have hczg9 : w31.cell? ⟨g9, 0, none⟩ = some (.slice Ao22 t21.length co22) := (blk_cell BKg9.out 0).trans rfl; have hfzg9 := blk_frozen BKg9.out 0; have hczg10 : w31.cell? ⟨g10, 0, none⟩ = some (.slice none 0 0) := (blk_cell BKg10.out 0).trans rfl; have hfzg10 := blk_frozen BKg10.out 0) | ((with_reducible refine gate_callee (f := 19) rfl ?_); refine goesL_ (some 47) rfl rfl Try.func19 (by kernel_rfl) rfl #[.agg #[.slice Ao25 t24.length co25], .agg #[.slice Ao15 t14.length co15]] rfl (by (try simp only [yiy, yjy, yky]); first | done | rfl | (simp only [yly, ymy]; rfl)) ?_; (with_reducible refine (laws_eqTriangulation.calls k _ _ t24 _ _ t14 true _ ?side1 ?side2 ?side3 ?side4 H27.out).mono ?_); (case side1 => exact (ObS.reads (ObS.far (g := g10) (i := 0) HOo25.out (by have := HNg2.out; have := HNg3.out; have := HNo15.out; have := HNg6.out; have := HNtg6.out; have := HNo19.out; have := HNg8.out; have := HNo22.out; have := HNg9.out; have := HNo25.out; have := HNg10.out; omega) _)).2.2); (case side2 => exact ObS.room HOo25.out); (case side3 => exact (ObS.reads (ObS.far (g := g10) (i := 0) HOo15.out (by have := HNg2.out; have := HNg3.out; have := HNo15.out; have := HNg6.out; have := HNtg6.out; have := HNo19.out; have := HNg8.out; have := HNo22.out; have := HNg9.out; have := HNo25.out; have := HNg10.out; omega) _)).2.2); (case side4 => exact ObS.room HOo15.out); rintro e w32 ⟨rfl, hb⟩; refine ⟨_, rfl, ?_⟩; (try clear hczg2 hfzg2 hczg3 hfzg3 hczg6 hfzg6 hczg8 hfzg8 hczg9 hfzg9 hczg10 hfzg10); have nOo15 := Aside0.mk (ObS.below (ObS.far (g := g10) (i := 0) HOo15.out (by have := HNg2.out; have := HNg3.out; have := HNo15.out; have := HNg6.out; have := HNtg6.out; have := HNo19.out; have := HNg8.out; have := HNo22.out; have := HNg9.out; have := HNo25.out; have := HNg10.out; omega) _) hb); have nOo19 := Aside0.mk (ObS.below (ObS.far (g := g10) (i := 0) HOo19.out (by have := HNg2.out; have := HNg3.out; have := HNo15.out; have := HNg6.out; have := HNtg6.out; have := HNo19.out; have := HNg8.out; have := HNo22.out; have := HNg9.out; have := HNo25.out; have := HNg10.out; omega) _) hb); have nOo22 := Aside0.mk (ObS.below (ObS.far (g := g10) (i := 0) HOo22.out (by have := HNg2.out; have := HNg3.out; have := HNo15.out; have := HNg6.out; have := HNtg6.out; have := HNo19.out; have := HNg8.out; have := HNo22.out; have := HNg9.out; have := HNo25.out; have := HNg10.out; omega) _) hb); have nOo25 := Aside0.mk (ObS.below (ObS.far (g := g10) (i := 0) HOo25.out (by have := HNg2.out; have := HNg3.out; have := HNo15.out; have := HNg6.out; have := HNtg6.out; have := HNo19.out; have := HNg8.out; have := HNo22.out; have := HNg9.out; have := HNo25.out; have := HNg10.out; omega) _) hb); have nBg2 := Aside0.mk (blk_below (g := g2) (o := .cells #[.slice A0 l0.length c0] 24 (0, 0)) (blk_far (p := ⟨g10, 0, none⟩) BKg2.out (show g2 ≠ g10 from (by have := HNg2.out; have := HNg3.out; have := HNo15.out; have := HNg6.out; have := HNtg6.out; have := HNo19.out; have := HNg8.out; have := HNo22.out; have := HNg9.out; have := HNo25.out; have := HNg10.out; omega)) _) hb); have nBg3 := Aside0.mk (blk_below (g := g3) (o := .cells #[.slice A1 l1.length c1] 24 (0, 0)) (blk_far (p := ⟨g10, 0, none⟩) BKg3.out (show g3 ≠ g10 from (by have := HNg2.out; have := HNg3.out; have := HNo15.out; have := HNg6.out; have := HNtg6.out; have := HNo19.out; have := HNg8.out; have := HNo22.out; have := HNg9.out; have := HNo25.out; have := HNg10.out; omega)) _) hb); have nBg6 := Aside0.mk (blk_below (g := g6) (o := .cells #[.slice Ao15 t14.length co15] 28 (0, 0)) (blk_far (p := ⟨g10, 0, none⟩) BKg6.out (show g6 ≠ g10 from (by have := HNg2.out; have := HNg3.out; have := HNo15.out; have := HNg6.out; have := HNtg6.out; have := HNo19.out; have := HNg8.out; have := HNo22.out; have := HNg9.out; have := HNo25.out; have := HNg10.out; omega)) _) hb); have nBg8 := Aside0.mk (blk_below (g := g8) (o := .cells #[.slice Ao19 t18.length co19] 28 (0, 0)) (blk_far (p := ⟨g10, 0, none⟩) BKg8.out (show g8 ≠ g10 from (by have := HNg2.out; have := HNg3.out; have := HNo15.out; have := HNg6.out; have := HNtg6.out; have := HNo19.out; have := HNg8.out; have := HNo22.out; have := HNg9.out; have := HNo25.out; have := HNg10.out; omega)) _) hb); have nBg9 := Aside0.mk (blk_below (g := g9) (o := .cells #[.slice Ao22 t21.length co22] 28 (0, 0)) (blk_far (p := ⟨g10, 0, none⟩) BKg9.out (show g9 ≠ g10 from (by have := HNg2.out; have := HNg3.out; have := HNo15.out; have := HNg6.out; have := HNtg6.out; have := HNo19.out; have := HNg8.out; have := HNo22.out; have := HNg9.out; have := HNo25.out; have := HNg10.out; omega)) _) hb); have nBg10 := Aside0.mk (blk_below (g := g10) (o := .cells #[.slice Ao25 t24.length co25] 28 (0, 0)) (blk_put (cs := #[.slice none 0 0]) BKg10.out 0 _ rfl) hb); have nHB := Aside0.mk (below_step (below_set HB.out (show w.heap.size ≤ g10 from (by have := HNg2.out; have := HNg3.out; have := HNo15.out; have := HNg6.out; have := HNtg6.out; have := HNo19.out; have := HNg8.out; have := HNo22.out; have := HNg9.out; have := HNo25.out; have := HNg10.out; omega))) hb); have nHT := Aside0.mk (top_below (top_far HT.out) hb); clear HB HT HOo15 HOo19 HOo22 HOo25 BKg2 BKg3 BKg6 BKg8 BKg9 BKg10; have HOo15 := nOo15; have HOo19 := nOo19; have HOo22 := nOo22; have HOo25 := nOo25; have BKg2 := nBg2; have BKg3 := nBg3; have BKg6 := nBg6; have BKg8 := nBg8; have BKg9 := nBg9; have BKg10 := nBg10; have HB := nHB; have HT := nHT; clear nHB nHT nOo15 nOo19 nOo22 nOo25 nBg2 nBg3 nBg6 nBg8 nBg9 nBg10; (try clear hb); (try clear hnd); have hczg2 : w32.cell? ⟨g2, 0, none⟩ = some (.slice A0 l0.length c0) := (blk_cell BKg2.out 0).trans rfl; have hfzg2 := blk_frozen BKg2.out 0; have hczg3 : w32.cell? ⟨g3, 0, none⟩ = some (.slice A1 l1.length c1) := (blk_cell BKg3.out 0).trans rfl; have hfzg3 := blk_frozen BKg3.out 0; have hczg6 : w32.cell? ⟨g6, 0, none⟩ = some (.slice Ao15 t14.length co15) := (blk_cell BKg6.out 0).trans rfl; have hfzg6 := blk_frozen BKg6.out 0; have hczg8 : w32.cell? ⟨g8, 0, none⟩ = some (.slice Ao19 t18.length co19) := (blk_cell BKg8.out 0).trans rfl; have hfzg8 := blk_frozen BKg8.out 0; have hczg9 : w32.cell? ⟨g9, 0, none⟩ = some (.slice Ao22 t21.length co22) := (blk_cell BKg9.out 0).trans rfl; have hfzg9 := blk_frozen BKg9.out 0; have hczg10 : w32.cell? ⟨g10, 0, none⟩ = some (.slice Ao25 t24.length co25) := (blk_cell BKg10.out 0).trans rfl; have hfzg10 := blk_frozen BKg10.out 0))
 (try clear hczg2 hfzg2 hczg3 hfzg3 hczg6 hfzg6 hczg8 hfzg8 hczg9 hfzg9 hczg10 hfzg10)
 have nOo15 := Aside0.mk (ObS.drew HOo15.out)
 have nOo19 := Aside0.mk (ObS.drew HOo19.out)
 have nOo22 := Aside0.mk (ObS.drew HOo22.out)
 have nOo25 := Aside0.mk (ObS.drew HOo25.out)
 have nBg2 := Aside0.mk (blk_drew BKg2.out)
 have nBg3 := Aside0.mk (blk_drew BKg3.out)
 have nBg6 := Aside0.mk (blk_drew BKg6.out)
 have nBg8 := Aside0.mk (blk_drew BKg8.out)
 have nBg9 := Aside0.mk (blk_drew BKg9.out)
 have nBg10 := Aside0.mk (blk_drew BKg10.out)
 have nHB := Aside0.mk (below_drew1 HB.out)
 have nHT := Aside0.mk (top_drew HT.out)
 clear HB HT HOo15 HOo19 HOo22 HOo25 BKg2 BKg3 BKg6 BKg8 BKg9 BKg10
 have HOo15 := nOo15
 have HOo19 := nOo19
 have HOo22 := nOo22
 have HOo25 := nOo25
 have BKg2 := nBg2
 have BKg3 := nBg3
 have BKg6 := nBg6
 have BKg8 := nBg8
 have BKg9 := nBg9
 have BKg10 := nBg10
 have HB := nHB
 have HT := nHT
 clear nHB nHT nOo15 nOo19 nOo22 nOo25 nBg2 nBg3 nBg6 nBg8 nBg9 nBg10
 refine start_ (n := 5) (S := fun w' => w'.cell? ⟨g8, 0, none⟩ = some (.slice Ao19 t18.length co19) ∧ w'.cell? ⟨g2, 0, none⟩ = some (.slice A0 l0.length c0)) (ds := []) #[false, false, false, false, false] (by kernel_rfl) rfl rfl ⟨(blk_cell BKg8.out 0).trans rfl, (blk_cell BKg2.out 0).trans rfl⟩ (fun hHeld => ?_)
 generalize hdr_ : World.drew _ = w33 at HOo15 HOo19 HOo22 HOo25 BKg2 BKg3 BKg6 BKg8 BKg9 BKg10 HB HT hHeld ⊢
 (try clear hdr_)
 refine take_ (i := 0) (N := some 54) (v := ?_) (a' := ?_) #[true, false, false, false, false] rfl rfl (by kernel_rfl) (fun _ _ _ h => h) (Or.inl ⟨by rfl, ?_⟩) hHeld ?_ ?_
 rotate_left
 next =>
  rintro w' ⟨s0, s1⟩
  go_simp
  with_reducible rfl
 rotate_left
 next =>
  simp only [Act.put, yay, yby, ycy, i64_w, i32_w]
  rfl
 refine take_ (i := 1) (N := some 55) (v := ?_) (a' := ?_) #[true, true, false, false, false] rfl rfl (by kernel_rfl) (fun _ _ _ h => h) (Or.inl ⟨by rfl, ?_⟩) hHeld ?_ ?_
 rotate_left
 next =>
  rintro w' ⟨s0, s1⟩
  go_simp
  with_reducible rfl
 rotate_left
 next =>
  simp only [Act.put, yay, yby, ycy, i64_w, i32_w]
  rfl
 refine one_ (i := 2) (N := some 56) #[true, true, true, false, false] rfl rfl (by kernel_rfl) (by decide) (fun K hK => ?_)
 refine goes_ Try.func17 (by kernel_rfl) rfl #[.agg #[.slice A0 l0.length c0]] (by rfl) rfl rfl (by (try simp only [yiy, yjy, yky]); first | done | rfl | (simp only [yly, ymy]; rfl)) ?_
 with_reducible refine (laws_toTriangulation.calls k _ _ l0 t31 _ ?side1 ?side2 H30.out).mono ?_
 (case side1 => exact Kd.C_below HR0.out HB.out)
 (case side2 => exact HC0.out)
 rintro e w34 ⟨vo32, rfl, ho0, hb⟩
 refine ⟨_, rfl, ?_⟩
 (try clear hczg2 hfzg2 hczg3 hfzg3 hczg6 hfzg6 hczg8 hfzg8 hczg9 hfzg9 hczg10 hfzg10)
 obtain ⟨loo32, hio32, hno32⟩ := ObS.made ho0 hb HT.out (below_size HB.out)
 have nOo15 := Aside0.mk (ObS.below HOo15.out hb)
 have nOo19 := Aside0.mk (ObS.below HOo19.out hb)
 have nOo22 := Aside0.mk (ObS.below HOo22.out hb)
 have nOo25 := Aside0.mk (ObS.below HOo25.out hb)
 have nBg2 := Aside0.mk (blk_below (g := g2) (o := .cells #[.slice A0 l0.length c0] 24 (0, 0)) BKg2.out hb)
 have nBg3 := Aside0.mk (blk_below (g := g3) (o := .cells #[.slice A1 l1.length c1] 24 (0, 0)) BKg3.out hb)
 have nBg6 := Aside0.mk (blk_below (g := g6) (o := .cells #[.slice Ao15 t14.length co15] 28 (0, 0)) BKg6.out hb)
 have nBg8 := Aside0.mk (blk_below (g := g8) (o := .cells #[.slice Ao19 t18.length co19] 28 (0, 0)) BKg8.out hb)
 have nBg9 := Aside0.mk (blk_below (g := g9) (o := .cells #[.slice Ao22 t21.length co22] 28 (0, 0)) BKg9.out hb)
 have nBg10 := Aside0.mk (blk_below (g := g10) (o := .cells #[.slice Ao25 t24.length co25] 28 (0, 0)) BKg10.out hb)
 have nHB := Aside0.mk (below_step HB.out hb)
 have nHT := Aside0.mk (top_below HT.out hb)
 clear HB HT HOo15 HOo19 HOo22 HOo25 BKg2 BKg3 BKg6 BKg8 BKg9 BKg10
 have HOo15 := nOo15
 have HOo19 := nOo19
 have HOo22 := nOo22
 have HOo25 := nOo25
 have BKg2 := nBg2
 have BKg3 := nBg3
 have BKg6 := nBg6
 have BKg8 := nBg8
 have BKg9 := nBg9
 have BKg10 := nBg10
 have HB := nHB
 have HT := nHT
 clear nHB nHT nOo15 nOo19 nOo22 nOo25 nBg2 nBg3 nBg6 nBg8 nBg9 nBg10
 have HNo32 := Aside0.mk hno32.1
 clear HT
 have HT := Aside0.mk hno32.2.1
 have HOo32 := Aside0.mk hno32.2.2
 clear hno32 ho0
 obtain ⟨Ao32, co32, eeo32⟩ := HOo32.out.slice
 subst eeo32
 (try clear hb)
 (try clear hnd)
 refine hK.out _ _ ⟨(blk_cell BKg8.out 0).trans rfl, (blk_cell BKg2.out 0).trans rfl⟩ (fun hHeld => ?_)
 clear hK K
 refine norm_ (a' := ?_) ?_ ?_
 rotate_left
 next =>
  show Act.put _ (some 56) _ = _
  simp only [Act.put, yay, yby, ycy, i64_w, i32_w]
  rfl
 refine one_ (i := 3) (N := some 57) #[true, true, true, true, false] rfl rfl (by kernel_rfl) (by decide) (fun K hK => ?_)
 refine goes_ Try.func19 (by kernel_rfl) rfl #[.agg #[.slice Ao19 t18.length co19], .agg #[.slice Ao32 t31.length co32]] (by rfl) rfl rfl (by (try simp only [yiy, yjy, yky]); first | done | rfl | (simp only [yly, ymy]; rfl)) ?_
 with_reducible refine (laws_eqTriangulation.calls k _ _ t18 _ _ t31 true _ ?side1 ?side2 ?side3 ?side4 H33.out).mono ?_
 (case side1 => exact (ObS.reads HOo19.out).2.2)
 (case side2 => exact ObS.room HOo19.out)
 (case side3 => exact (ObS.reads HOo32.out).2.2)
 (case side4 => exact ObS.room HOo32.out)
 rintro e w35 ⟨rfl, hb⟩
 refine ⟨_, rfl, ?_⟩
 (try clear hczg2 hfzg2 hczg3 hfzg3 hczg6 hfzg6 hczg8 hfzg8 hczg9 hfzg9 hczg10 hfzg10)
 have nOo15 := Aside0.mk (ObS.below HOo15.out hb)
 have nOo19 := Aside0.mk (ObS.below HOo19.out hb)
 have nOo22 := Aside0.mk (ObS.below HOo22.out hb)
 have nOo25 := Aside0.mk (ObS.below HOo25.out hb)
 have nOo32 := Aside0.mk (ObS.below HOo32.out hb)
 have nBg2 := Aside0.mk (blk_below (g := g2) (o := .cells #[.slice A0 l0.length c0] 24 (0, 0)) BKg2.out hb)
 have nBg3 := Aside0.mk (blk_below (g := g3) (o := .cells #[.slice A1 l1.length c1] 24 (0, 0)) BKg3.out hb)
 have nBg6 := Aside0.mk (blk_below (g := g6) (o := .cells #[.slice Ao15 t14.length co15] 28 (0, 0)) BKg6.out hb)
 have nBg8 := Aside0.mk (blk_below (g := g8) (o := .cells #[.slice Ao19 t18.length co19] 28 (0, 0)) BKg8.out hb)
 have nBg9 := Aside0.mk (blk_below (g := g9) (o := .cells #[.slice Ao22 t21.length co22] 28 (0, 0)) BKg9.out hb)
 have nBg10 := Aside0.mk (blk_below (g := g10) (o := .cells #[.slice Ao25 t24.length co25] 28 (0, 0)) BKg10.out hb)
 have nHB := Aside0.mk (below_step HB.out hb)
 have nHT := Aside0.mk (top_below HT.out hb)
 clear HB HT HOo15 HOo19 HOo22 HOo25 HOo32 BKg2 BKg3 BKg6 BKg8 BKg9 BKg10
 have HOo15 := nOo15
 have HOo19 := nOo19
 have HOo22 := nOo22
 have HOo25 := nOo25
 have HOo32 := nOo32
 have BKg2 := nBg2
 have BKg3 := nBg3
 have BKg6 := nBg6
 have BKg8 := nBg8
 have BKg9 := nBg9
 have BKg10 := nBg10
 have HB := nHB
 have HT := nHT
 clear nHB nHT nOo15 nOo19 nOo22 nOo25 nOo32 nBg2 nBg3 nBg6 nBg8 nBg9 nBg10
 (try clear hb)
 (try clear hnd)
 refine hK.out _ _ ⟨(blk_cell BKg8.out 0).trans rfl, (blk_cell BKg2.out 0).trans rfl⟩ (fun hHeld => ?_)
 clear hK K
 refine norm_ (a' := ?_) ?_ ?_
 rotate_left
 next =>
  show Act.put _ (some 57) _ = _
  simp only [Act.put, yay, yby, ycy, i64_w, i32_w]
  rfl
 refine pure_ (i := 4) (N := some 58) (v := ?_) (a' := ?_) #[true, true, true, true, true] rfl rfl (by kernel_rfl) (fun _ _ _ h => h) (Or.inl ⟨by rfl, ?_⟩) ?_ ?_
 rotate_left
 next =>
  intro w'
  go_simp
  with_reducible rfl
 rotate_left
 next =>
  simp only [Act.put, yay, yby, ycy, i64_w, i32_w]
  rfl
 refine done_ (by kernel_rfl) ?_
 have hczg2 : w35.cell? ⟨g2, 0, none⟩ = some (.slice A0 l0.length c0) := (blk_cell BKg2.out 0).trans rfl
 have hfzg2 := blk_frozen BKg2.out 0
 have hczg3 : w35.cell? ⟨g3, 0, none⟩ = some (.slice A1 l1.length c1) := (blk_cell BKg3.out 0).trans rfl
 have hfzg3 := blk_frozen BKg3.out 0
 have hczg6 : w35.cell? ⟨g6, 0, none⟩ = some (.slice Ao15 t14.length co15) := (blk_cell BKg6.out 0).trans rfl
 have hfzg6 := blk_frozen BKg6.out 0
 have hczg8 : w35.cell? ⟨g8, 0, none⟩ = some (.slice Ao19 t18.length co19) := (blk_cell BKg8.out 0).trans rfl
 have hfzg8 := blk_frozen BKg8.out 0
 have hczg9 : w35.cell? ⟨g9, 0, none⟩ = some (.slice Ao22 t21.length co22) := (blk_cell BKg9.out 0).trans rfl
 have hfzg9 := blk_frozen BKg9.out 0
 have hczg10 : w35.cell? ⟨g10, 0, none⟩ = some (.slice Ao25 t24.length co25) := (blk_cell BKg10.out 0).trans rfl
 have hfzg10 := blk_frozen BKg10.out 0
 try go_wp2
 (try clear hczg2 hfzg2 hczg3 hfzg3 hczg6 hfzg6 hczg8 hfzg8 hczg9 hfzg9 hczg10 hfzg10)
 have nOo15 := Aside0.mk (ObS.drew HOo15.out)
 have nOo19 := Aside0.mk (ObS.drew HOo19.out)
 have nOo22 := Aside0.mk (ObS.drew HOo22.out)
 have nOo25 := Aside0.mk (ObS.drew HOo25.out)
 have nOo32 := Aside0.mk (ObS.drew HOo32.out)
 have nBg2 := Aside0.mk (blk_drew BKg2.out)
 have nBg3 := Aside0.mk (blk_drew BKg3.out)
 have nBg6 := Aside0.mk (blk_drew BKg6.out)
 have nBg8 := Aside0.mk (blk_drew BKg8.out)
 have nBg9 := Aside0.mk (blk_drew BKg9.out)
 have nBg10 := Aside0.mk (blk_drew BKg10.out)
 have nHB := Aside0.mk (below_drew1 HB.out)
 have nHT := Aside0.mk (top_drew HT.out)
 clear HB HT HOo15 HOo19 HOo22 HOo25 HOo32 BKg2 BKg3 BKg6 BKg8 BKg9 BKg10
 have HOo15 := nOo15
 have HOo19 := nOo19
 have HOo22 := nOo22
 have HOo25 := nOo25
 have HOo32 := nOo32
 have BKg2 := nBg2
 have BKg3 := nBg3
 have BKg6 := nBg6
 have BKg8 := nBg8
 have BKg9 := nBg9
 have BKg10 := nBg10
 have HB := nHB
 have HT := nHT
 clear nHB nHT nOo15 nOo19 nOo22 nOo25 nOo32 nBg2 nBg3 nBg6 nBg8 nBg9 nBg10
 refine start_ (n := 5) (S := fun w' => w'.cell? ⟨g9, 0, none⟩ = some (.slice Ao22 t21.length co22) ∧ w'.cell? ⟨g3, 0, none⟩ = some (.slice A1 l1.length c1)) (ds := []) #[false, false, false, false, false] (by kernel_rfl) rfl rfl ⟨(blk_cell BKg9.out 0).trans rfl, (blk_cell BKg3.out 0).trans rfl⟩ (fun hHeld => ?_)
 generalize hdr_ : World.drew _ = w36 at HOo15 HOo19 HOo22 HOo25 HOo32 BKg2 BKg3 BKg6 BKg8 BKg9 BKg10 HB HT hHeld ⊢
 (try clear hdr_)
 refine take_ (i := 0) (N := some 59) (v := ?_) (a' := ?_) #[true, false, false, false, false] rfl rfl (by kernel_rfl) (fun _ _ _ h => h) (Or.inl ⟨by rfl, ?_⟩) hHeld ?_ ?_
 rotate_left
 next =>
  rintro w' ⟨s0, s1⟩
  go_simp
  with_reducible rfl
 rotate_left
 next =>
  simp only [Act.put, yay, yby, ycy, i64_w, i32_w]
  rfl
 refine take_ (i := 1) (N := some 60) (v := ?_) (a' := ?_) #[true, true, false, false, false] rfl rfl (by kernel_rfl) (fun _ _ _ h => h) (Or.inl ⟨by rfl, ?_⟩) hHeld ?_ ?_
 rotate_left
 next =>
  rintro w' ⟨s0, s1⟩
  go_simp
  with_reducible rfl
 rotate_left
 next =>
  simp only [Act.put, yay, yby, ycy, i64_w, i32_w]
  rfl
 refine one_ (i := 2) (N := some 61) #[true, true, true, false, false] rfl rfl (by kernel_rfl) (by decide) (fun K hK => ?_)
 refine goes_ Try.func17 (by kernel_rfl) rfl #[.agg #[.slice A1 l1.length c1]] (by rfl) rfl rfl (by (try simp only [yiy, yjy, yky]); first | done | rfl | (simp only [yly, ymy]; rfl)) ?_
 with_reducible refine (laws_toTriangulation.calls k _ _ l1 t36 _ ?side1 ?side2 H35.out).mono ?_
 (case side1 => exact Kd.C_below HR1.out HB.out)
 (case side2 => exact HC1.out)
 rintro e w37 ⟨vo37, rfl, ho0, hb⟩
 refine ⟨_, rfl, ?_⟩
 (try clear hczg2 hfzg2 hczg3 hfzg3 hczg6 hfzg6 hczg8 hfzg8 hczg9 hfzg9 hczg10 hfzg10)
 obtain ⟨loo37, hio37, hno37⟩ := ObS.made ho0 hb HT.out (below_size HB.out)
 have nOo15 := Aside0.mk (ObS.below HOo15.out hb)
 have nOo19 := Aside0.mk (ObS.below HOo19.out hb)
 have nOo22 := Aside0.mk (ObS.below HOo22.out hb)
 have nOo25 := Aside0.mk (ObS.below HOo25.out hb)
 have nOo32 := Aside0.mk (ObS.below HOo32.out hb)
 have nBg2 := Aside0.mk (blk_below (g := g2) (o := .cells #[.slice A0 l0.length c0] 24 (0, 0)) BKg2.out hb)
 have nBg3 := Aside0.mk (blk_below (g := g3) (o := .cells #[.slice A1 l1.length c1] 24 (0, 0)) BKg3.out hb)
 have nBg6 := Aside0.mk (blk_below (g := g6) (o := .cells #[.slice Ao15 t14.length co15] 28 (0, 0)) BKg6.out hb)
 have nBg8 := Aside0.mk (blk_below (g := g8) (o := .cells #[.slice Ao19 t18.length co19] 28 (0, 0)) BKg8.out hb)
 have nBg9 := Aside0.mk (blk_below (g := g9) (o := .cells #[.slice Ao22 t21.length co22] 28 (0, 0)) BKg9.out hb)
 have nBg10 := Aside0.mk (blk_below (g := g10) (o := .cells #[.slice Ao25 t24.length co25] 28 (0, 0)) BKg10.out hb)
 have nHB := Aside0.mk (below_step HB.out hb)
 have nHT := Aside0.mk (top_below HT.out hb)
 clear HB HT HOo15 HOo19 HOo22 HOo25 HOo32 BKg2 BKg3 BKg6 BKg8 BKg9 BKg10
 have HOo15 := nOo15
 have HOo19 := nOo19
 have HOo22 := nOo22
 have HOo25 := nOo25
 have HOo32 := nOo32
 have BKg2 := nBg2
 have BKg3 := nBg3
 have BKg6 := nBg6
 have BKg8 := nBg8
 have BKg9 := nBg9
 have BKg10 := nBg10
 have HB := nHB
 have HT := nHT
 clear nHB nHT nOo15 nOo19 nOo22 nOo25 nOo32 nBg2 nBg3 nBg6 nBg8 nBg9 nBg10
 have HNo37 := Aside0.mk hno37.1
 clear HT
 have HT := Aside0.mk hno37.2.1
 have HOo37 := Aside0.mk hno37.2.2
 clear hno37 ho0
 obtain ⟨Ao37, co37, eeo37⟩ := HOo37.out.slice
 subst eeo37
 (try clear hb)
 (try clear hnd)
 refine hK.out _ _ ⟨(blk_cell BKg9.out 0).trans rfl, (blk_cell BKg3.out 0).trans rfl⟩ (fun hHeld => ?_)
 clear hK K
 refine norm_ (a' := ?_) ?_ ?_
 rotate_left
 next =>
  show Act.put _ (some 61) _ = _
  simp only [Act.put, yay, yby, ycy, i64_w, i32_w]
  rfl
 refine one_ (i := 3) (N := some 62) #[true, true, true, true, false] rfl rfl (by kernel_rfl) (by decide) (fun K hK => ?_)
 refine goes_ Try.func19 (by kernel_rfl) rfl #[.agg #[.slice Ao22 t21.length co22], .agg #[.slice Ao37 t36.length co37]] (by rfl) rfl rfl (by (try simp only [yiy, yjy, yky]); first | done | rfl | (simp only [yly, ymy]; rfl)) ?_
 with_reducible refine (laws_eqTriangulation.calls k _ _ t21 _ _ t36 true _ ?side1 ?side2 ?side3 ?side4 H38.out).mono ?_
 (case side1 => exact (ObS.reads HOo22.out).2.2)
 (case side2 => exact ObS.room HOo22.out)
 (case side3 => exact (ObS.reads HOo37.out).2.2)
 (case side4 => exact ObS.room HOo37.out)
 rintro e w38 ⟨rfl, hb⟩
 refine ⟨_, rfl, ?_⟩
 (try clear hczg2 hfzg2 hczg3 hfzg3 hczg6 hfzg6 hczg8 hfzg8 hczg9 hfzg9 hczg10 hfzg10)
 have nOo15 := Aside0.mk (ObS.below HOo15.out hb)
 have nOo19 := Aside0.mk (ObS.below HOo19.out hb)
 have nOo22 := Aside0.mk (ObS.below HOo22.out hb)
 have nOo25 := Aside0.mk (ObS.below HOo25.out hb)
 have nOo32 := Aside0.mk (ObS.below HOo32.out hb)
 have nOo37 := Aside0.mk (ObS.below HOo37.out hb)
 have nBg2 := Aside0.mk (blk_below (g := g2) (o := .cells #[.slice A0 l0.length c0] 24 (0, 0)) BKg2.out hb)
 have nBg3 := Aside0.mk (blk_below (g := g3) (o := .cells #[.slice A1 l1.length c1] 24 (0, 0)) BKg3.out hb)
 have nBg6 := Aside0.mk (blk_below (g := g6) (o := .cells #[.slice Ao15 t14.length co15] 28 (0, 0)) BKg6.out hb)
 have nBg8 := Aside0.mk (blk_below (g := g8) (o := .cells #[.slice Ao19 t18.length co19] 28 (0, 0)) BKg8.out hb)
 have nBg9 := Aside0.mk (blk_below (g := g9) (o := .cells #[.slice Ao22 t21.length co22] 28 (0, 0)) BKg9.out hb)
 have nBg10 := Aside0.mk (blk_below (g := g10) (o := .cells #[.slice Ao25 t24.length co25] 28 (0, 0)) BKg10.out hb)
 have nHB := Aside0.mk (below_step HB.out hb)
 have nHT := Aside0.mk (top_below HT.out hb)
 clear HB HT HOo15 HOo19 HOo22 HOo25 HOo32 HOo37 BKg2 BKg3 BKg6 BKg8 BKg9 BKg10
 have HOo15 := nOo15
 have HOo19 := nOo19
 have HOo22 := nOo22
 have HOo25 := nOo25
 have HOo32 := nOo32
 have HOo37 := nOo37
 have BKg2 := nBg2
 have BKg3 := nBg3
 have BKg6 := nBg6
 have BKg8 := nBg8
 have BKg9 := nBg9
 have BKg10 := nBg10
 have HB := nHB
 have HT := nHT
 clear nHB nHT nOo15 nOo19 nOo22 nOo25 nOo32 nOo37 nBg2 nBg3 nBg6 nBg8 nBg9 nBg10
 (try clear hb)
 (try clear hnd)
 refine hK.out _ _ ⟨(blk_cell BKg9.out 0).trans rfl, (blk_cell BKg3.out 0).trans rfl⟩ (fun hHeld => ?_)
 clear hK K
 refine norm_ (a' := ?_) ?_ ?_
 rotate_left
 next =>
  show Act.put _ (some 62) _ = _
  simp only [Act.put, yay, yby, ycy, i64_w, i32_w]
  rfl
 refine pure_ (i := 4) (N := some 63) (v := ?_) (a' := ?_) #[true, true, true, true, true] rfl rfl (by kernel_rfl) (fun _ _ _ h => h) (Or.inl ⟨by rfl, ?_⟩) ?_ ?_
 rotate_left
 next =>
  intro w'
  go_simp
  with_reducible rfl
 rotate_left
 next =>
  simp only [Act.put, yay, yby, ycy, i64_w, i32_w]
  rfl
 refine done_ (by kernel_rfl) ?_
 have hczg2 : w38.cell? ⟨g2, 0, none⟩ = some (.slice A0 l0.length c0) := (blk_cell BKg2.out 0).trans rfl
 have hfzg2 := blk_frozen BKg2.out 0
 have hczg3 : w38.cell? ⟨g3, 0, none⟩ = some (.slice A1 l1.length c1) := (blk_cell BKg3.out 0).trans rfl
 have hfzg3 := blk_frozen BKg3.out 0
 have hczg6 : w38.cell? ⟨g6, 0, none⟩ = some (.slice Ao15 t14.length co15) := (blk_cell BKg6.out 0).trans rfl
 have hfzg6 := blk_frozen BKg6.out 0
 have hczg8 : w38.cell? ⟨g8, 0, none⟩ = some (.slice Ao19 t18.length co19) := (blk_cell BKg8.out 0).trans rfl
 have hfzg8 := blk_frozen BKg8.out 0
 have hczg9 : w38.cell? ⟨g9, 0, none⟩ = some (.slice Ao22 t21.length co22) := (blk_cell BKg9.out 0).trans rfl
 have hfzg9 := blk_frozen BKg9.out 0
 have hczg10 : w38.cell? ⟨g10, 0, none⟩ = some (.slice Ao25 t24.length co25) := (blk_cell BKg10.out 0).trans rfl
 have hfzg10 := blk_frozen BKg10.out 0
 try go_wp2_with (first | ((with_reducible refine gate_callee (f := 20) rfl ?_); refine goesL_ (some 66) rfl rfl Try.func20 (by kernel_rfl) rfl #[.agg #[.slice Ao19 t18.length co19], .int .i64 1] rfl (by (try simp only [yiy, yjy, yky]); first | done | rfl | (simp only [yly, ymy]; rfl)) ?_; (with_reducible refine (laws_markTriangulation.calls k (fun k_ => loo19 ≤ k_ ∧ k_ < hio19) (.slice Ao19 t18.length co19) t18 1 m41 y42 w _ HB.out (ObS.row HOo19.out) H40.out).mono ?_); rintro e w39 ⟨rfl, hy, hb, hk0⟩; refine ⟨_, rfl, ?_⟩; have hk := hk0; have nM := Aside0.mk (ObS.marked HOo19.out hy hk.1); (try clear hczg2 hfzg2 hczg3 hfzg3 hczg6 hfzg6 hczg8 hfzg8 hczg9 hfzg9 hczg10 hfzg10); have nOo15 := Aside0.mk (ObS.kept HOo15.out hk (by have := HNg2.out; have := HNg3.out; have := HNo15.out; have := HNg6.out; have := HNtg6.out; have := HNo19.out; have := HNg8.out; have := HNo22.out; have := HNg9.out; have := HNo25.out; have := HNg10.out; have := HNo32.out; have := HNo37.out; omega)); have nOo22 := Aside0.mk (ObS.kept HOo22.out hk (by have := HNg2.out; have := HNg3.out; have := HNo15.out; have := HNg6.out; have := HNtg6.out; have := HNo19.out; have := HNg8.out; have := HNo22.out; have := HNg9.out; have := HNo25.out; have := HNg10.out; have := HNo32.out; have := HNo37.out; omega)); have nOo25 := Aside0.mk (ObS.kept HOo25.out hk (by have := HNg2.out; have := HNg3.out; have := HNo15.out; have := HNg6.out; have := HNtg6.out; have := HNo19.out; have := HNg8.out; have := HNo22.out; have := HNg9.out; have := HNo25.out; have := HNg10.out; have := HNo32.out; have := HNo37.out; omega)); have nOo32 := Aside0.mk (ObS.kept HOo32.out hk (by have := HNg2.out; have := HNg3.out; have := HNo15.out; have := HNg6.out; have := HNtg6.out; have := HNo19.out; have := HNg8.out; have := HNo22.out; have := HNg9.out; have := HNo25.out; have := HNg10.out; have := HNo32.out; have := HNo37.out; omega)); have nOo37 := Aside0.mk (ObS.kept HOo37.out hk (by have := HNg2.out; have := HNg3.out; have := HNo15.out; have := HNg6.out; have := HNtg6.out; have := HNo19.out; have := HNg8.out; have := HNo22.out; have := HNg9.out; have := HNo25.out; have := HNg10.out; have := HNo32.out; have := HNo37.out; omega)); have nBg2 := Aside0.mk (blk_kept (g := g2) (o := .cells #[.slice A0 l0.length c0] 24 (0, 0)) BKg2.out hk (fun h_ => by have h1_ := h_.1; have h2_ := h_.2; have := HNg2.out; have := HNg3.out; have := HNo15.out; have := HNg6.out; have := HNtg6.out; have := HNo19.out; have := HNg8.out; have := HNo22.out; have := HNg9.out; have := HNo25.out; have := HNg10.out; have := HNo32.out; have := HNo37.out; omega)); have nBg3 := Aside0.mk (blk_kept (g := g3) (o := .cells #[.slice A1 l1.length c1] 24 (0, 0)) BKg3.out hk (fun h_ => by have h1_ := h_.1; have h2_ := h_.2; have := HNg2.out; have := HNg3.out; have := HNo15.out; have := HNg6.out; have := HNtg6.out; have := HNo19.out; have := HNg8.out; have := HNo22.out; have := HNg9.out; have := HNo25.out; have := HNg10.out; have := HNo32.out; have := HNo37.out; omega)); have nBg6 := Aside0.mk (blk_kept (g := g6) (o := .cells #[.slice Ao15 t14.length co15] 28 (0, 0)) BKg6.out hk (fun h_ => by have h1_ := h_.1; have h2_ := h_.2; have := HNg2.out; have := HNg3.out; have := HNo15.out; have := HNg6.out; have := HNtg6.out; have := HNo19.out; have := HNg8.out; have := HNo22.out; have := HNg9.out; have := HNo25.out; have := HNg10.out; have := HNo32.out; have := HNo37.out; omega)); have nBg8 := Aside0.mk (blk_kept (g := g8) (o := .cells #[.slice Ao19 t18.length co19] 28 (0, 0)) BKg8.out hk (fun h_ => by have h1_ := h_.1; have h2_ := h_.2; have := HNg2.out; have := HNg3.out; have := HNo15.out; have := HNg6.out; have := HNtg6.out; have := HNo19.out; have := HNg8.out; have := HNo22.out; have := HNg9.out; have := HNo25.out; have := HNg10.out; have := HNo32.out; have := HNo37.out; omega)); have nBg9 := Aside0.mk (blk_kept (g := g9) (o := .cells #[.slice Ao22 t21.length co22] 28 (0, 0)) BKg9.out hk (fun h_ => by have h1_ := h_.1; have h2_ := h_.2; have := HNg2.out; have := HNg3.out; have := HNo15.out; have := HNg6.out; have := HNtg6.out; have := HNo19.out; have := HNg8.out; have := HNo22.out; have := HNg9.out; have := HNo25.out; have := HNg10.out; have := HNo32.out; have := HNo37.out; omega)); have nBg10 := Aside0.mk (blk_kept (g := g10) (o := .cells #[.slice Ao25 t24.length co25] 28 (0, 0)) BKg10.out hk (fun h_ => by have h1_ := h_.1; have h2_ := h_.2; have := HNg2.out; have := HNg3.out; have := HNo15.out; have := HNg6.out; have := HNtg6.out; have := HNo19.out; have := HNg8.out; have := HNo22.out; have := HNg9.out; have := HNo25.out; have := HNg10.out; have := HNo32.out; have := HNo37.out; omega)); have nHT := Aside0.mk (Nat.le_trans HT.out hk.1); clear HB HT HOo15 HOo19 HOo22 HOo25 HOo32 HOo37 BKg2 BKg3 BKg6 BKg8 BKg9 BKg10; have HOo15 := nOo15; have HOo19 := nM; have HOo22 := nOo22; have HOo25 := nOo25; have HOo32 := nOo32; have HOo37 := nOo37; have BKg2 := nBg2; have BKg3 := nBg3; have BKg6 := nBg6; have BKg8 := nBg8; have BKg9 := nBg9; have BKg10 := nBg10; have HB := Aside0.mk hb; have HT := nHT; (try clear hy); clear hb hk0 hk nM nHT nOo15 nOo22 nOo25 nOo32 nOo37 nBg2 nBg3 nBg6 nBg8 nBg9 nBg10; have hczg2 : w39.cell? ⟨g2, 0, none⟩ = some (.slice A0 l0.length c0) := (blk_cell BKg2.out 0).trans rfl; have hfzg2 := blk_frozen BKg2.out 0; have hczg3 : w39.cell? ⟨g3, 0, none⟩ = some (.slice A1 l1.length c1) := (blk_cell BKg3.out 0).trans rfl; have hfzg3 := blk_frozen BKg3.out 0; have hczg6 : w39.cell? ⟨g6, 0, none⟩ = some (.slice Ao15 t14.length co15) := (blk_cell BKg6.out 0).trans rfl; have hfzg6 := blk_frozen BKg6.out 0; have hczg8 : w39.cell? ⟨g8, 0, none⟩ = some (.slice Ao19 t18.length co19) := (blk_cell BKg8.out 0).trans rfl; have hfzg8 := blk_frozen BKg8.out 0; have hczg9 : w39.cell? ⟨g9, 0, none⟩ = some (.slice Ao22 t21.length co22) := (blk_cell BKg9.out 0).trans rfl; have hfzg9 := blk_frozen BKg9.out 0; have hczg10 : w39.cell? ⟨g10, 0, none⟩ = some (.slice Ao25 t24.length co25) := (blk_cell BKg10.out 0).trans rfl; have hfzg10 := blk_frozen BKg10.out 0) | ((with_reducible refine gate_callee (f := 20) rfl ?_); refine goesL_ (some 69) rfl rfl Try.func20 (by kernel_rfl) rfl #[.agg #[.slice Ao22 t21.length co22], .int .i64 m41] rfl (by (try simp only [yiy, yjy, yky]); first | done | rfl | (simp only [yly, ymy]; rfl)) ?_; (with_reducible refine (laws_markTriangulation.calls k (fun k_ => loo22 ≤ k_ ∧ k_ < hio22) (.slice Ao22 t21.length co22) t21 m41 m44 y45 w _ HB.out (ObS.row HOo22.out) H43.out).mono ?_); rintro e w40 ⟨rfl, hy, hb, hk0⟩; refine ⟨_, rfl, ?_⟩; have hk := hk0; have nM := Aside0.mk (ObS.marked HOo22.out hy hk.1); (try clear hczg2 hfzg2 hczg3 hfzg3 hczg6 hfzg6 hczg8 hfzg8 hczg9 hfzg9 hczg10 hfzg10); have nOo15 := Aside0.mk (ObS.kept HOo15.out hk (by have := HNg2.out; have := HNg3.out; have := HNo15.out; have := HNg6.out; have := HNtg6.out; have := HNo19.out; have := HNg8.out; have := HNo22.out; have := HNg9.out; have := HNo25.out; have := HNg10.out; have := HNo32.out; have := HNo37.out; omega)); have nOo19 := Aside0.mk (ObS.kept HOo19.out hk (by have := HNg2.out; have := HNg3.out; have := HNo15.out; have := HNg6.out; have := HNtg6.out; have := HNo19.out; have := HNg8.out; have := HNo22.out; have := HNg9.out; have := HNo25.out; have := HNg10.out; have := HNo32.out; have := HNo37.out; omega)); have nOo25 := Aside0.mk (ObS.kept HOo25.out hk (by have := HNg2.out; have := HNg3.out; have := HNo15.out; have := HNg6.out; have := HNtg6.out; have := HNo19.out; have := HNg8.out; have := HNo22.out; have := HNg9.out; have := HNo25.out; have := HNg10.out; have := HNo32.out; have := HNo37.out; omega)); have nOo32 := Aside0.mk (ObS.kept HOo32.out hk (by have := HNg2.out; have := HNg3.out; have := HNo15.out; have := HNg6.out; have := HNtg6.out; have := HNo19.out; have := HNg8.out; have := HNo22.out; have := HNg9.out; have := HNo25.out; have := HNg10.out; have := HNo32.out; have := HNo37.out; omega)); have nOo37 := Aside0.mk (ObS.kept HOo37.out hk (by have := HNg2.out; have := HNg3.out; have := HNo15.out; have := HNg6.out; have := HNtg6.out; have := HNo19.out; have := HNg8.out; have := HNo22.out; have := HNg9.out; have := HNo25.out; have := HNg10.out; have := HNo32.out; have := HNo37.out; omega)); have nBg2 := Aside0.mk (blk_kept (g := g2) (o := .cells #[.slice A0 l0.length c0] 24 (0, 0)) BKg2.out hk (fun h_ => by have h1_ := h_.1; have h2_ := h_.2; have := HNg2.out; have := HNg3.out; have := HNo15.out; have := HNg6.out; have := HNtg6.out; have := HNo19.out; have := HNg8.out; have := HNo22.out; have := HNg9.out; have := HNo25.out; have := HNg10.out; have := HNo32.out; have := HNo37.out; omega)); have nBg3 := Aside0.mk (blk_kept (g := g3) (o := .cells #[.slice A1 l1.length c1] 24 (0, 0)) BKg3.out hk (fun h_ => by have h1_ := h_.1; have h2_ := h_.2; have := HNg2.out; have := HNg3.out; have := HNo15.out; have := HNg6.out; have := HNtg6.out; have := HNo19.out; have := HNg8.out; have := HNo22.out; have := HNg9.out; have := HNo25.out; have := HNg10.out; have := HNo32.out; have := HNo37.out; omega)); have nBg6 := Aside0.mk (blk_kept (g := g6) (o := .cells #[.slice Ao15 t14.length co15] 28 (0, 0)) BKg6.out hk (fun h_ => by have h1_ := h_.1; have h2_ := h_.2; have := HNg2.out; have := HNg3.out; have := HNo15.out; have := HNg6.out; have := HNtg6.out; have := HNo19.out; have := HNg8.out; have := HNo22.out; have := HNg9.out; have := HNo25.out; have := HNg10.out; have := HNo32.out; have := HNo37.out; omega)); have nBg8 := Aside0.mk (blk_kept (g := g8) (o := .cells #[.slice Ao19 t18.length co19] 28 (0, 0)) BKg8.out hk (fun h_ => by have h1_ := h_.1; have h2_ := h_.2; have := HNg2.out; have := HNg3.out; have := HNo15.out; have := HNg6.out; have := HNtg6.out; have := HNo19.out; have := HNg8.out; have := HNo22.out; have := HNg9.out; have := HNo25.out; have := HNg10.out; have := HNo32.out; have := HNo37.out; omega)); have nBg9 := Aside0.mk (blk_kept (g := g9) (o := .cells #[.slice Ao22 t21.length co22] 28 (0, 0)) BKg9.out hk (fun h_ => by have h1_ := h_.1; have h2_ := h_.2; have := HNg2.out; have := HNg3.out; have := HNo15.out; have := HNg6.out; have := HNtg6.out; have := HNo19.out; have := HNg8.out; have := HNo22.out; have := HNg9.out; have := HNo25.out; have := HNg10.out; have := HNo32.out; have := HNo37.out; omega)); have nBg10 := Aside0.mk (blk_kept (g := g10) (o := .cells #[.slice Ao25 t24.length co25] 28 (0, 0)) BKg10.out hk (fun h_ => by have h1_ := h_.1; have h2_ := h_.2; have := HNg2.out; have := HNg3.out; have := HNo15.out; have := HNg6.out; have := HNtg6.out; have := HNo19.out; have := HNg8.out; have := HNo22.out; have := HNg9.out; have := HNo25.out; have := HNg10.out; have := HNo32.out; have := HNo37.out; omega)); have nHT := Aside0.mk (Nat.le_trans HT.out hk.1); clear HB HT HOo15 HOo19 HOo22 HOo25 HOo32 HOo37 BKg2 BKg3 BKg6 BKg8 BKg9 BKg10; have HOo15 := nOo15; have HOo19 := nOo19; have HOo22 := nM; have HOo25 := nOo25; have HOo32 := nOo32; have HOo37 := nOo37; have BKg2 := nBg2; have BKg3 := nBg3; have BKg6 := nBg6; have BKg8 := nBg8; have BKg9 := nBg9; have BKg10 := nBg10; have HB := Aside0.mk hb; have HT := nHT; (try clear hy); clear hb hk0 hk nM nHT nOo15 nOo19 nOo25 nOo32 nOo37 nBg2 nBg3 nBg6 nBg8 nBg9 nBg10; have hczg2 : w40.cell? ⟨g2, 0, none⟩ = some (.slice A0 l0.length c0) := (blk_cell BKg2.out 0).trans rfl; have hfzg2 := blk_frozen BKg2.out 0; have hczg3 : w40.cell? ⟨g3, 0, none⟩ = some (.slice A1 l1.length c1) := (blk_cell BKg3.out 0).trans rfl; have hfzg3 := blk_frozen BKg3.out 0; have hczg6 : w40.cell? ⟨g6, 0, none⟩ = some (.slice Ao15 t14.length co15) := (blk_cell BKg6.out 0).trans rfl; have hfzg6 := blk_frozen BKg6.out 0; have hczg8 : w40.cell? ⟨g8, 0, none⟩ = some (.slice Ao19 t18.length co19) := (blk_cell BKg8.out 0).trans rfl; have hfzg8 := blk_frozen BKg8.out 0; have hczg9 : w40.cell? ⟨g9, 0, none⟩ = some (.slice Ao22 t21.length co22) := (blk_cell BKg9.out 0).trans rfl; have hfzg9 := blk_frozen BKg9.out 0; have hczg10 : w40.cell? ⟨g10, 0, none⟩ = some (.slice Ao25 t24.length co25) := (blk_cell BKg10.out 0).trans rfl; have hfzg10 := blk_frozen BKg10.out 0))
 try go_wp2_with (first | (go_at_call 19; (with_reducible refine (laws_eqTriangulation.calls k _ _ t24 _ _ t14 true _ ?side1 ?side2 ?side3 ?side4 H47.out).mono ?_); (case side1 => exact (ObS.reads HOo25.out).2.2); (case side2 => exact ObS.room HOo25.out); (case side3 => exact (ObS.reads HOo15.out).2.2); (case side4 => exact ObS.room HOo15.out); rintro e w41 ⟨rfl, hb⟩; (try clear hczg2 hfzg2 hczg3 hfzg3 hczg6 hfzg6 hczg8 hfzg8 hczg9 hfzg9 hczg10 hfzg10); have nOo15 := Aside0.mk (ObS.below HOo15.out hb); have nOo19 := Aside0.mk (ObS.below HOo19.out hb); have nOo22 := Aside0.mk (ObS.below HOo22.out hb); have nOo25 := Aside0.mk (ObS.below HOo25.out hb); have nOo32 := Aside0.mk (ObS.below HOo32.out hb); have nOo37 := Aside0.mk (ObS.below HOo37.out hb); have nBg2 := Aside0.mk (blk_below (g := g2) (o := .cells #[.slice A0 l0.length c0] 24 (0, 0)) BKg2.out hb); have nBg3 := Aside0.mk (blk_below (g := g3) (o := .cells #[.slice A1 l1.length c1] 24 (0, 0)) BKg3.out hb); have nBg6 := Aside0.mk (blk_below (g := g6) (o := .cells #[.slice Ao15 t14.length co15] 28 (0, 0)) BKg6.out hb); have nBg8 := Aside0.mk (blk_below (g := g8) (o := .cells #[.slice Ao19 t18.length co19] 28 (0, 0)) BKg8.out hb); have nBg9 := Aside0.mk (blk_below (g := g9) (o := .cells #[.slice Ao22 t21.length co22] 28 (0, 0)) BKg9.out hb); have nBg10 := Aside0.mk (blk_below (g := g10) (o := .cells #[.slice Ao25 t24.length co25] 28 (0, 0)) BKg10.out hb); have nHB := Aside0.mk (below_step HB.out hb); have nHT := Aside0.mk (top_below HT.out hb); clear HB HT HOo15 HOo19 HOo22 HOo25 HOo32 HOo37 BKg2 BKg3 BKg6 BKg8 BKg9 BKg10; have HOo15 := nOo15; have HOo19 := nOo19; have HOo22 := nOo22; have HOo25 := nOo25; have HOo32 := nOo32; have HOo37 := nOo37; have BKg2 := nBg2; have BKg3 := nBg3; have BKg6 := nBg6; have BKg8 := nBg8; have BKg9 := nBg9; have BKg10 := nBg10; have HB := nHB; have HT := nHT; clear nHB nHT nOo15 nOo19 nOo22 nOo25 nOo32 nOo37 nBg2 nBg3 nBg6 nBg8 nBg9 nBg10; (try clear hb); (try clear hnd); have hczg2 : w41.cell? ⟨g2, 0, none⟩ = some (.slice A0 l0.length c0) := (blk_cell BKg2.out 0).trans rfl; have hfzg2 := blk_frozen BKg2.out 0; have hczg3 : w41.cell? ⟨g3, 0, none⟩ = some (.slice A1 l1.length c1) := (blk_cell BKg3.out 0).trans rfl; have hfzg3 := blk_frozen BKg3.out 0; have hczg6 : w41.cell? ⟨g6, 0, none⟩ = some (.slice Ao15 t14.length co15) := (blk_cell BKg6.out 0).trans rfl; have hfzg6 := blk_frozen BKg6.out 0; have hczg8 : w41.cell? ⟨g8, 0, none⟩ = some (.slice Ao19 t18.length co19) := (blk_cell BKg8.out 0).trans rfl; have hfzg8 := blk_frozen BKg8.out 0; have hczg9 : w41.cell? ⟨g9, 0, none⟩ = some (.slice Ao22 t21.length co22) := (blk_cell BKg9.out 0).trans rfl; have hfzg9 := blk_frozen BKg9.out 0; have hczg10 : w41.cell? ⟨g10, 0, none⟩ = some (.slice Ao25 t24.length co25) := (blk_cell BKg10.out 0).trans rfl; have hfzg10 := blk_frozen BKg10.out 0) | ((with_reducible refine gate_callee (f := 20) rfl ?_); refine goesL_ (some 85) rfl rfl Try.func20 (by kernel_rfl) rfl #[.agg #[.slice Ao25 t24.length co25], .int .i64 1] rfl (by (try simp only [yiy, yjy, yky]); first | done | rfl | (simp only [yly, ymy]; rfl)) ?_; (with_reducible refine (laws_markTriangulation.calls k (fun k_ => loo25 ≤ k_ ∧ k_ < hio25) (.slice Ao25 t24.length co25) t24 1 m51 y52 w _ HB.out (ObS.row HOo25.out) H50.out).mono ?_); rintro e w42 ⟨rfl, hy, hb, hk0⟩; refine ⟨_, rfl, ?_⟩; have hk := hk0; have nM := Aside0.mk (ObS.marked HOo25.out hy hk.1); (try clear hczg2 hfzg2 hczg3 hfzg3 hczg6 hfzg6 hczg8 hfzg8 hczg9 hfzg9 hczg10 hfzg10); have nOo15 := Aside0.mk (ObS.kept HOo15.out hk (by have := HNg2.out; have := HNg3.out; have := HNo15.out; have := HNg6.out; have := HNtg6.out; have := HNo19.out; have := HNg8.out; have := HNo22.out; have := HNg9.out; have := HNo25.out; have := HNg10.out; have := HNo32.out; have := HNo37.out; omega)); have nOo19 := Aside0.mk (ObS.kept HOo19.out hk (by have := HNg2.out; have := HNg3.out; have := HNo15.out; have := HNg6.out; have := HNtg6.out; have := HNo19.out; have := HNg8.out; have := HNo22.out; have := HNg9.out; have := HNo25.out; have := HNg10.out; have := HNo32.out; have := HNo37.out; omega)); have nOo22 := Aside0.mk (ObS.kept HOo22.out hk (by have := HNg2.out; have := HNg3.out; have := HNo15.out; have := HNg6.out; have := HNtg6.out; have := HNo19.out; have := HNg8.out; have := HNo22.out; have := HNg9.out; have := HNo25.out; have := HNg10.out; have := HNo32.out; have := HNo37.out; omega)); have nOo32 := Aside0.mk (ObS.kept HOo32.out hk (by have := HNg2.out; have := HNg3.out; have := HNo15.out; have := HNg6.out; have := HNtg6.out; have := HNo19.out; have := HNg8.out; have := HNo22.out; have := HNg9.out; have := HNo25.out; have := HNg10.out; have := HNo32.out; have := HNo37.out; omega)); have nOo37 := Aside0.mk (ObS.kept HOo37.out hk (by have := HNg2.out; have := HNg3.out; have := HNo15.out; have := HNg6.out; have := HNtg6.out; have := HNo19.out; have := HNg8.out; have := HNo22.out; have := HNg9.out; have := HNo25.out; have := HNg10.out; have := HNo32.out; have := HNo37.out; omega)); have nBg2 := Aside0.mk (blk_kept (g := g2) (o := .cells #[.slice A0 l0.length c0] 24 (0, 0)) BKg2.out hk (fun h_ => by have h1_ := h_.1; have h2_ := h_.2; have := HNg2.out; have := HNg3.out; have := HNo15.out; have := HNg6.out; have := HNtg6.out; have := HNo19.out; have := HNg8.out; have := HNo22.out; have := HNg9.out; have := HNo25.out; have := HNg10.out; have := HNo32.out; have := HNo37.out; omega)); have nBg3 := Aside0.mk (blk_kept (g := g3) (o := .cells #[.slice A1 l1.length c1] 24 (0, 0)) BKg3.out hk (fun h_ => by have h1_ := h_.1; have h2_ := h_.2; have := HNg2.out; have := HNg3.out; have := HNo15.out; have := HNg6.out; have := HNtg6.out; have := HNo19.out; have := HNg8.out; have := HNo22.out; have := HNg9.out; have := HNo25.out; have := HNg10.out; have := HNo32.out; have := HNo37.out; omega)); have nBg6 := Aside0.mk (blk_kept (g := g6) (o := .cells #[.slice Ao15 t14.length co15] 28 (0, 0)) BKg6.out hk (fun h_ => by have h1_ := h_.1; have h2_ := h_.2; have := HNg2.out; have := HNg3.out; have := HNo15.out; have := HNg6.out; have := HNtg6.out; have := HNo19.out; have := HNg8.out; have := HNo22.out; have := HNg9.out; have := HNo25.out; have := HNg10.out; have := HNo32.out; have := HNo37.out; omega)); have nBg8 := Aside0.mk (blk_kept (g := g8) (o := .cells #[.slice Ao19 t18.length co19] 28 (0, 0)) BKg8.out hk (fun h_ => by have h1_ := h_.1; have h2_ := h_.2; have := HNg2.out; have := HNg3.out; have := HNo15.out; have := HNg6.out; have := HNtg6.out; have := HNo19.out; have := HNg8.out; have := HNo22.out; have := HNg9.out; have := HNo25.out; have := HNg10.out; have := HNo32.out; have := HNo37.out; omega)); have nBg9 := Aside0.mk (blk_kept (g := g9) (o := .cells #[.slice Ao22 t21.length co22] 28 (0, 0)) BKg9.out hk (fun h_ => by have h1_ := h_.1; have h2_ := h_.2; have := HNg2.out; have := HNg3.out; have := HNo15.out; have := HNg6.out; have := HNtg6.out; have := HNo19.out; have := HNg8.out; have := HNo22.out; have := HNg9.out; have := HNo25.out; have := HNg10.out; have := HNo32.out; have := HNo37.out; omega)); have nBg10 := Aside0.mk (blk_kept (g := g10) (o := .cells #[.slice Ao25 t24.length co25] 28 (0, 0)) BKg10.out hk (fun h_ => by have h1_ := h_.1; have h2_ := h_.2; have := HNg2.out; have := HNg3.out; have := HNo15.out; have := HNg6.out; have := HNtg6.out; have := HNo19.out; have := HNg8.out; have := HNo22.out; have := HNg9.out; have := HNo25.out; have := HNg10.out; have := HNo32.out; have := HNo37.out; omega)); have nHT := Aside0.mk (Nat.le_trans HT.out hk.1); clear HB HT HOo15 HOo19 HOo22 HOo25 HOo32 HOo37 BKg2 BKg3 BKg6 BKg8 BKg9 BKg10; have HOo15 := nOo15; have HOo19 := nOo19; have HOo22 := nOo22; have HOo25 := nM; have HOo32 := nOo32; have HOo37 := nOo37; have BKg2 := nBg2; have BKg3 := nBg3; have BKg6 := nBg6; have BKg8 := nBg8; have BKg9 := nBg9; have BKg10 := nBg10; have HB := Aside0.mk hb; have HT := nHT; (try clear hy); clear hb hk0 hk nM nHT nOo15 nOo19 nOo22 nOo32 nOo37 nBg2 nBg3 nBg6 nBg8 nBg9 nBg10; have hczg2 : w42.cell? ⟨g2, 0, none⟩ = some (.slice A0 l0.length c0) := (blk_cell BKg2.out 0).trans rfl; have hfzg2 := blk_frozen BKg2.out 0; have hczg3 : w42.cell? ⟨g3, 0, none⟩ = some (.slice A1 l1.length c1) := (blk_cell BKg3.out 0).trans rfl; have hfzg3 := blk_frozen BKg3.out 0; have hczg6 : w42.cell? ⟨g6, 0, none⟩ = some (.slice Ao15 t14.length co15) := (blk_cell BKg6.out 0).trans rfl; have hfzg6 := blk_frozen BKg6.out 0; have hczg8 : w42.cell? ⟨g8, 0, none⟩ = some (.slice Ao19 t18.length co19) := (blk_cell BKg8.out 0).trans rfl; have hfzg8 := blk_frozen BKg8.out 0; have hczg9 : w42.cell? ⟨g9, 0, none⟩ = some (.slice Ao22 t21.length co22) := (blk_cell BKg9.out 0).trans rfl; have hfzg9 := blk_frozen BKg9.out 0; have hczg10 : w42.cell? ⟨g10, 0, none⟩ = some (.slice Ao25 t24.length co25) := (blk_cell BKg10.out 0).trans rfl; have hfzg10 := blk_frozen BKg10.out 0) | ((with_reducible refine gate_callee (f := 21) rfl ?_); refine goesL_ (some 88) rfl rfl Try.func21 (by kernel_rfl) rfl #[.agg #[.slice Ao25 y52.length co25], .int .i64 1] rfl (by (try simp only [yiy, yjy, yky]); first | done | (rw [show y52.length = t24.length from (ObS.reads HOo25.out).1.symm] <;> rfl) | rfl | (simp only [yly, ymy]; rfl)) ?_; (with_reducible refine (laws_heldTriangulation.calls k _ _ y52 1 t54 _ ?side1 ?side2 H53.out).mono ?_); (case side1 => exact (ObS.reads HOo25.out).2.2); (case side2 => exact ObS.room HOo25.out); rintro e w43 ⟨rfl, hb⟩; refine ⟨_, rfl, ?_⟩; (try clear hczg2 hfzg2 hczg3 hfzg3 hczg6 hfzg6 hczg8 hfzg8 hczg9 hfzg9 hczg10 hfzg10); have nOo15 := Aside0.mk (ObS.below HOo15.out hb); have nOo19 := Aside0.mk (ObS.below HOo19.out hb); have nOo22 := Aside0.mk (ObS.below HOo22.out hb); have nOo25 := Aside0.mk (ObS.below HOo25.out hb); have nOo32 := Aside0.mk (ObS.below HOo32.out hb); have nOo37 := Aside0.mk (ObS.below HOo37.out hb); have nBg2 := Aside0.mk (blk_below (g := g2) (o := .cells #[.slice A0 l0.length c0] 24 (0, 0)) BKg2.out hb); have nBg3 := Aside0.mk (blk_below (g := g3) (o := .cells #[.slice A1 l1.length c1] 24 (0, 0)) BKg3.out hb); have nBg6 := Aside0.mk (blk_below (g := g6) (o := .cells #[.slice Ao15 t14.length co15] 28 (0, 0)) BKg6.out hb); have nBg8 := Aside0.mk (blk_below (g := g8) (o := .cells #[.slice Ao19 t18.length co19] 28 (0, 0)) BKg8.out hb); have nBg9 := Aside0.mk (blk_below (g := g9) (o := .cells #[.slice Ao22 t21.length co22] 28 (0, 0)) BKg9.out hb); have nBg10 := Aside0.mk (blk_below (g := g10) (o := .cells #[.slice Ao25 t24.length co25] 28 (0, 0)) BKg10.out hb); have nHB := Aside0.mk (below_step HB.out hb); have nHT := Aside0.mk (top_below HT.out hb); clear HB HT HOo15 HOo19 HOo22 HOo25 HOo32 HOo37 BKg2 BKg3 BKg6 BKg8 BKg9 BKg10; have HOo15 := nOo15; have HOo19 := nOo19; have HOo22 := nOo22; have HOo25 := nOo25; have HOo32 := nOo32; have HOo37 := nOo37; have BKg2 := nBg2; have BKg3 := nBg3; have BKg6 := nBg6; have BKg8 := nBg8; have BKg9 := nBg9; have BKg10 := nBg10; have HB := nHB; have HT := nHT; clear nHB nHT nOo15 nOo19 nOo22 nOo25 nOo32 nOo37 nBg2 nBg3 nBg6 nBg8 nBg9 nBg10; (try clear hb); (try clear hnd); have hczg2 : w43.cell? ⟨g2, 0, none⟩ = some (.slice A0 l0.length c0) := (blk_cell BKg2.out 0).trans rfl; have hfzg2 := blk_frozen BKg2.out 0; have hczg3 : w43.cell? ⟨g3, 0, none⟩ = some (.slice A1 l1.length c1) := (blk_cell BKg3.out 0).trans rfl; have hfzg3 := blk_frozen BKg3.out 0; have hczg6 : w43.cell? ⟨g6, 0, none⟩ = some (.slice Ao15 t14.length co15) := (blk_cell BKg6.out 0).trans rfl; have hfzg6 := blk_frozen BKg6.out 0; have hczg8 : w43.cell? ⟨g8, 0, none⟩ = some (.slice Ao19 t18.length co19) := (blk_cell BKg8.out 0).trans rfl; have hfzg8 := blk_frozen BKg8.out 0; have hczg9 : w43.cell? ⟨g9, 0, none⟩ = some (.slice Ao22 t21.length co22) := (blk_cell BKg9.out 0).trans rfl; have hfzg9 := blk_frozen BKg9.out 0; have hczg10 : w43.cell? ⟨g10, 0, none⟩ = some (.slice Ao25 t24.length co25) := (blk_cell BKg10.out 0).trans rfl; have hfzg10 := blk_frozen BKg10.out 0))
 (try clear hczg2 hfzg2 hczg3 hfzg3 hczg6 hfzg6 hczg8 hfzg8 hczg9 hfzg9 hczg10 hfzg10)
 have nOo15 := Aside0.mk (ObS.drew HOo15.out)
 have nOo19 := Aside0.mk (ObS.drew HOo19.out)
 have nOo22 := Aside0.mk (ObS.drew HOo22.out)
 have nOo25 := Aside0.mk (ObS.drew HOo25.out)
 have nOo32 := Aside0.mk (ObS.drew HOo32.out)
 have nOo37 := Aside0.mk (ObS.drew HOo37.out)
 have nBg2 := Aside0.mk (blk_drew BKg2.out)
 have nBg3 := Aside0.mk (blk_drew BKg3.out)
 have nBg6 := Aside0.mk (blk_drew BKg6.out)
 have nBg8 := Aside0.mk (blk_drew BKg8.out)
 have nBg9 := Aside0.mk (blk_drew BKg9.out)
 have nBg10 := Aside0.mk (blk_drew BKg10.out)
 have nHB := Aside0.mk (below_drew1 HB.out)
 have nHT := Aside0.mk (top_drew HT.out)
 clear HB HT HOo15 HOo19 HOo22 HOo25 HOo32 HOo37 BKg2 BKg3 BKg6 BKg8 BKg9 BKg10
 have HOo15 := nOo15
 have HOo19 := nOo19
 have HOo22 := nOo22
 have HOo25 := nOo25
 have HOo32 := nOo32
 have HOo37 := nOo37
 have BKg2 := nBg2
 have BKg3 := nBg3
 have BKg6 := nBg6
 have BKg8 := nBg8
 have BKg9 := nBg9
 have BKg10 := nBg10
 have HB := nHB
 have HT := nHT
 clear nHB nHT nOo15 nOo19 nOo22 nOo25 nOo32 nOo37 nBg2 nBg3 nBg6 nBg8 nBg9 nBg10
 refine start_ (n := 11) (S := fun w' => w'.cell? ⟨g2, 0, none⟩ = some (.slice A0 l0.length c0) ∧ w'.cell? ⟨g3, 0, none⟩ = some (.slice A1 l1.length c1)) (ds := [9]) #[false, false, false, false, false, false, false, false, false, false, false] (by kernel_rfl) rfl rfl ⟨(blk_cell BKg2.out 0).trans rfl, (blk_cell BKg3.out 0).trans rfl⟩ (fun hHeld => ?_)
 generalize hdr_ : World.drew _ = w44 at HOo15 HOo19 HOo22 HOo25 HOo32 HOo37 BKg2 BKg3 BKg6 BKg8 BKg9 BKg10 HB HT hHeld ⊢
 (try clear hdr_)
 refine take_ (i := 0) (N := some 95) (v := ?_) (a' := ?_) #[true, false, false, false, false, false, false, false, false, false, false] rfl rfl (by kernel_rfl) (fun _ _ _ h => h) (Or.inl ⟨by rfl, ?_⟩) hHeld ?_ ?_
 rotate_left
 next =>
  rintro w' ⟨s0, s1⟩
  go_simp
  with_reducible rfl
 rotate_left
 next =>
  simp only [Act.put, yay, yby, ycy, i64_w, i32_w]
  rfl
 refine take_ (i := 2) (N := some 97) (v := ?_) (a' := ?_) #[true, false, true, false, false, false, false, false, false, false, false] rfl rfl (by kernel_rfl) (fun _ _ _ h => h) (Or.inl ⟨by rfl, ?_⟩) hHeld ?_ ?_
 rotate_left
 next =>
  rintro w' ⟨s0, s1⟩
  go_simp
  with_reducible rfl
 rotate_left
 next =>
  simp only [Act.put, yay, yby, ycy, i64_w, i32_w]
  rfl
 refine join_ (σ := Option Addr × Nat × Option Addr × Nat × Option Addr × Nat × Nat) 2 #[true, true, true, true, true, true, true, true, true, false, false] (fun s_ => [(96, .agg #[.slice s_.1 t58.length s_.2.1]), (98, .agg #[.slice s_.2.2.1 t61.length s_.2.2.2.1]), (99, .tuple #[.agg #[.slice s_.2.2.2.2.1 t64.length s_.2.2.2.2.2.1], .int .i64 t66]), (94, .tuple #[.agg #[.slice s_.2.2.2.2.1 t64.length s_.2.2.2.2.2.1], .int .i64 t66]), (100, .agg #[.slice s_.2.2.2.2.1 t64.length s_.2.2.2.2.2.1]), (101, .int .i64 t66), (15, .pointer (some ⟨s_.2.2.2.2.2.2, 0, none⟩))]) (fun s_ w' => ∃ loo65 hio65 tp : Nat, (hio37 ≤ loo65 ∧ loo65 ≤ hio65) ∧ (hio37 ≤ s_.2.2.2.2.2.2 ∧ (s_.2.2.2.2.2.2 < loo65 ∨ hio65 ≤ s_.2.2.2.2.2.2)) ∧ (s_.2.2.2.2.2.2 + 1 ≤ tp ∧ hio65 ≤ tp) ∧ tp ≤ w'.heap.size ∧ ObS (Kd.slice 74 kFace) 75 w.heap.size w' loo65 hio65 (.slice s_.2.2.2.2.1 t64.length s_.2.2.2.2.2.1) t64 ∧ ObS (Kd.slice 74 kFace) 75 w.heap.size w' loo15 hio15 (.slice Ao15 t14.length co15) t14 ∧ ObS (Kd.slice 74 kFace) 75 w.heap.size w' loo19 hio19 (.slice Ao19 t18.length co19) y42 ∧ ObS (Kd.slice 74 kFace) 75 w.heap.size w' loo22 hio22 (.slice Ao22 t21.length co22) y45 ∧ ObS (Kd.slice 74 kFace) 75 w.heap.size w' loo25 hio25 (.slice Ao25 t24.length co25) y52 ∧ ObS (Kd.slice 74 kFace) 75 w.heap.size w' loo32 hio32 (.slice Ao32 t31.length co32) t31 ∧ ObS (Kd.slice 74 kFace) 75 w.heap.size w' loo37 hio37 (.slice Ao37 t36.length co37) t36 ∧ w'.heap[g2]? = some (.cells #[.slice A0 l0.length c0] 24 (0, 0)) ∧ w'.heap[g3]? = some (.cells #[.slice A1 l1.length c1] 24 (0, 0)) ∧ w'.heap[g6]? = some (.cells #[.slice Ao15 t14.length co15] 28 (0, 0)) ∧ w'.heap[g8]? = some (.cells #[.slice Ao19 t18.length co19] 28 (0, 0)) ∧ w'.heap[g9]? = some (.cells #[.slice Ao22 t21.length co22] 28 (0, 0)) ∧ w'.heap[g10]? = some (.cells #[.slice Ao25 t24.length co25] 28 (0, 0)) ∧ w'.heap[s_.2.2.2.2.2.2]? = some (.cells #[.slice none 0 0] 28 (0, 0)) ∧ Below w.heap.size w w') ?cont44 (fun hcont => ?walk44)
 case walk44 =>
  refine two_ (i := 1) (j := 8) (Ni := some 96) (Nj := some 15) #[true, true, true, false, false, false, false, false, false, false, false] #[true, false, true, false, false, false, false, false, true, false, false] rfl rfl rfl rfl (by kernel_rfl) (by decide) (by decide) (fun K hK => ?_) (fun K hK => ?_)
  next =>
   refine goes_ Try.func17 (by kernel_rfl) rfl #[.agg #[.slice A0 l0.length c0]] (by rfl) rfl rfl (by (try simp only [yiy, yjy, yky]); first | done | rfl | (simp only [yly, ymy]; rfl)) ?_
   with_reducible refine (laws_toTriangulation.calls k _ _ l0 t58 _ ?side1 ?side2 H57.out).mono ?_
   (case side1 => exact Kd.C_below HR0.out HB.out)
   (case side2 => exact HC0.out)
   rintro e w45 ⟨vo59, rfl, ho0, hb⟩
   refine ⟨_, rfl, ?_⟩
   obtain ⟨loo59, hio59, hno59⟩ := ObS.made ho0 hb HT.out (below_size HB.out)
   have nOo15 := Aside0.mk (ObS.below HOo15.out hb)
   have nOo19 := Aside0.mk (ObS.below HOo19.out hb)
   have nOo22 := Aside0.mk (ObS.below HOo22.out hb)
   have nOo25 := Aside0.mk (ObS.below HOo25.out hb)
   have nOo32 := Aside0.mk (ObS.below HOo32.out hb)
   have nOo37 := Aside0.mk (ObS.below HOo37.out hb)
   have nBg2 := Aside0.mk (blk_below (g := g2) (o := .cells #[.slice A0 l0.length c0] 24 (0, 0)) BKg2.out hb)
   have nBg3 := Aside0.mk (blk_below (g := g3) (o := .cells #[.slice A1 l1.length c1] 24 (0, 0)) BKg3.out hb)
   have nBg6 := Aside0.mk (blk_below (g := g6) (o := .cells #[.slice Ao15 t14.length co15] 28 (0, 0)) BKg6.out hb)
   have nBg8 := Aside0.mk (blk_below (g := g8) (o := .cells #[.slice Ao19 t18.length co19] 28 (0, 0)) BKg8.out hb)
   have nBg9 := Aside0.mk (blk_below (g := g9) (o := .cells #[.slice Ao22 t21.length co22] 28 (0, 0)) BKg9.out hb)
   have nBg10 := Aside0.mk (blk_below (g := g10) (o := .cells #[.slice Ao25 t24.length co25] 28 (0, 0)) BKg10.out hb)
   have nHB := Aside0.mk (below_step HB.out hb)
   have nHT := Aside0.mk (top_below HT.out hb)
   clear HB HT HOo15 HOo19 HOo22 HOo25 HOo32 HOo37 BKg2 BKg3 BKg6 BKg8 BKg9 BKg10
   have HOo15 := nOo15
   have HOo19 := nOo19
   have HOo22 := nOo22
   have HOo25 := nOo25
   have HOo32 := nOo32
   have HOo37 := nOo37
   have BKg2 := nBg2
   have BKg3 := nBg3
   have BKg6 := nBg6
   have BKg8 := nBg8
   have BKg9 := nBg9
   have BKg10 := nBg10
   have HB := nHB
   have HT := nHT
   clear nHB nHT nOo15 nOo19 nOo22 nOo25 nOo32 nOo37 nBg2 nBg3 nBg6 nBg8 nBg9 nBg10
   have HNo59 := Aside0.mk hno59.1
   clear HT
   have HT := Aside0.mk hno59.2.1
   have HOo59 := Aside0.mk hno59.2.2
   clear hno59 ho0
   obtain ⟨Ao59, co59, eeo59⟩ := HOo59.out.slice
   subst eeo59
   (try clear hb)
   (try clear hnd)
   refine hK.out _ _ ⟨(blk_cell BKg2.out 0).trans rfl, (blk_cell BKg3.out 0).trans rfl⟩ (fun hHeld => ?_)
   clear hK K
   refine norm_ (a' := ?_) ?_ ?_
   rotate_left
   next =>
    show Act.put _ (some 96) _ = _
    simp only [Act.put, yay, yby, ycy, i64_w, i32_w]
    rfl
   refine two_ (i := 3) (j := 8) (Ni := some 98) (Nj := some 15) #[true, true, true, true, false, false, false, false, false, false, false] #[true, true, true, false, false, false, false, false, true, false, false] rfl rfl rfl rfl (by kernel_rfl) (by decide) (by decide) (fun K hK => ?_) (fun K hK => ?_)
   next =>
    refine goes_ Try.func17 (by kernel_rfl) rfl #[.agg #[.slice A1 l1.length c1]] (by rfl) rfl rfl (by (try simp only [yiy, yjy, yky]); first | done | rfl | (simp only [yly, ymy]; rfl)) ?_
    with_reducible refine (laws_toTriangulation.calls k _ _ l1 t61 _ ?side1 ?side2 H60.out).mono ?_
    (case side1 => exact Kd.C_below HR1.out HB.out)
    (case side2 => exact HC1.out)
    rintro e w46 ⟨vo62, rfl, ho0, hb⟩
    refine ⟨_, rfl, ?_⟩
    obtain ⟨loo62, hio62, hno62⟩ := ObS.made ho0 hb HT.out (below_size HB.out)
    have nOo15 := Aside0.mk (ObS.below HOo15.out hb)
    have nOo19 := Aside0.mk (ObS.below HOo19.out hb)
    have nOo22 := Aside0.mk (ObS.below HOo22.out hb)
    have nOo25 := Aside0.mk (ObS.below HOo25.out hb)
    have nOo32 := Aside0.mk (ObS.below HOo32.out hb)
    have nOo37 := Aside0.mk (ObS.below HOo37.out hb)
    have nOo59 := Aside0.mk (ObS.below HOo59.out hb)
    have nBg2 := Aside0.mk (blk_below (g := g2) (o := .cells #[.slice A0 l0.length c0] 24 (0, 0)) BKg2.out hb)
    have nBg3 := Aside0.mk (blk_below (g := g3) (o := .cells #[.slice A1 l1.length c1] 24 (0, 0)) BKg3.out hb)
    have nBg6 := Aside0.mk (blk_below (g := g6) (o := .cells #[.slice Ao15 t14.length co15] 28 (0, 0)) BKg6.out hb)
    have nBg8 := Aside0.mk (blk_below (g := g8) (o := .cells #[.slice Ao19 t18.length co19] 28 (0, 0)) BKg8.out hb)
    have nBg9 := Aside0.mk (blk_below (g := g9) (o := .cells #[.slice Ao22 t21.length co22] 28 (0, 0)) BKg9.out hb)
    have nBg10 := Aside0.mk (blk_below (g := g10) (o := .cells #[.slice Ao25 t24.length co25] 28 (0, 0)) BKg10.out hb)
    have nHB := Aside0.mk (below_step HB.out hb)
    have nHT := Aside0.mk (top_below HT.out hb)
    clear HB HT HOo15 HOo19 HOo22 HOo25 HOo32 HOo37 HOo59 BKg2 BKg3 BKg6 BKg8 BKg9 BKg10
    have HOo15 := nOo15
    have HOo19 := nOo19
    have HOo22 := nOo22
    have HOo25 := nOo25
    have HOo32 := nOo32
    have HOo37 := nOo37
    have HOo59 := nOo59
    have BKg2 := nBg2
    have BKg3 := nBg3
    have BKg6 := nBg6
    have BKg8 := nBg8
    have BKg9 := nBg9
    have BKg10 := nBg10
    have HB := nHB
    have HT := nHT
    clear nHB nHT nOo15 nOo19 nOo22 nOo25 nOo32 nOo37 nOo59 nBg2 nBg3 nBg6 nBg8 nBg9 nBg10
    have HNo62 := Aside0.mk hno62.1
    clear HT
    have HT := Aside0.mk hno62.2.1
    have HOo62 := Aside0.mk hno62.2.2
    clear hno62 ho0
    obtain ⟨Ao62, co62, eeo62⟩ := HOo62.out.slice
    subst eeo62
    (try clear hb)
    (try clear hnd)
    refine hK.out _ _ ⟨(blk_cell BKg2.out 0).trans rfl, (blk_cell BKg3.out 0).trans rfl⟩ (fun hHeld => ?_)
    clear hK K
    refine norm_ (a' := ?_) ?_ ?_
    rotate_left
    next =>
     show Act.put _ (some 98) _ = _
     simp only [Act.put, yay, yby, ycy, i64_w, i32_w]
     rfl
    refine two_ (i := 4) (j := 8) (Ni := some 99) (Nj := some 15) #[true, true, true, true, true, false, false, false, false, false, false] #[true, true, true, true, false, false, false, false, true, false, false] rfl rfl rfl rfl (by kernel_rfl) (by decide) (by decide) (fun K hK => ?_) (fun K hK => ?_)
    next =>
     refine goes_ Try.func25 (by kernel_rfl) rfl #[.agg #[.slice Ao59 t58.length co59], .agg #[.slice Ao62 t61.length co62]] (by rfl) rfl rfl (by (try simp only [yiy, yjy, yky]); first | done | rfl | (simp only [yly, ymy]; rfl)) ?_
     with_reducible refine (impl_UnionTriangulations.calls k _ _ t58 _ _ t61 t64 t66 _ ?side1 ?side2 ?side3 ?side4 H63.out).mono ?_
     (case side1 => exact (ObS.reads HOo59.out).2.2)
     (case side2 => exact ObS.room HOo59.out)
     (case side3 => exact (ObS.reads HOo62.out).2.2)
     (case side4 => exact ObS.room HOo62.out)
     rintro e w47 ⟨vo65, rfl, ho0, hb⟩
     refine ⟨_, rfl, ?_⟩
     obtain ⟨loo65, hio65, hno65⟩ := ObS.made ho0 hb HT.out (below_size HB.out)
     have nOo15 := Aside0.mk (ObS.below HOo15.out hb)
     have nOo19 := Aside0.mk (ObS.below HOo19.out hb)
     have nOo22 := Aside0.mk (ObS.below HOo22.out hb)
     have nOo25 := Aside0.mk (ObS.below HOo25.out hb)
     have nOo32 := Aside0.mk (ObS.below HOo32.out hb)
     have nOo37 := Aside0.mk (ObS.below HOo37.out hb)
     have nOo59 := Aside0.mk (ObS.below HOo59.out hb)
     have nOo62 := Aside0.mk (ObS.below HOo62.out hb)
     have nBg2 := Aside0.mk (blk_below (g := g2) (o := .cells #[.slice A0 l0.length c0] 24 (0, 0)) BKg2.out hb)
     have nBg3 := Aside0.mk (blk_below (g := g3) (o := .cells #[.slice A1 l1.length c1] 24 (0, 0)) BKg3.out hb)
     have nBg6 := Aside0.mk (blk_below (g := g6) (o := .cells #[.slice Ao15 t14.length co15] 28 (0, 0)) BKg6.out hb)
     have nBg8 := Aside0.mk (blk_below (g := g8) (o := .cells #[.slice Ao19 t18.length co19] 28 (0, 0)) BKg8.out hb)
     have nBg9 := Aside0.mk (blk_below (g := g9) (o := .cells #[.slice Ao22 t21.length co22] 28 (0, 0)) BKg9.out hb)
     have nBg10 := Aside0.mk (blk_below (g := g10) (o := .cells #[.slice Ao25 t24.length co25] 28 (0, 0)) BKg10.out hb)
     have nHB := Aside0.mk (below_step HB.out hb)
     have nHT := Aside0.mk (top_below HT.out hb)
     clear HB HT HOo15 HOo19 HOo22 HOo25 HOo32 HOo37 HOo59 HOo62 BKg2 BKg3 BKg6 BKg8 BKg9 BKg10
     have HOo15 := nOo15
     have HOo19 := nOo19
     have HOo22 := nOo22
     have HOo25 := nOo25
     have HOo32 := nOo32
     have HOo37 := nOo37
     have HOo59 := nOo59
     have HOo62 := nOo62
     have BKg2 := nBg2
     have BKg3 := nBg3
     have BKg6 := nBg6
     have BKg8 := nBg8
     have BKg9 := nBg9
     have BKg10 := nBg10
     have HB := nHB
     have HT := nHT
     clear nHB nHT nOo15 nOo19 nOo22 nOo25 nOo32 nOo37 nOo59 nOo62 nBg2 nBg3 nBg6 nBg8 nBg9 nBg10
     have HNo65 := Aside0.mk hno65.1
     clear HT
     have HT := Aside0.mk hno65.2.1
     have HOo65 := Aside0.mk hno65.2.2
     clear hno65 ho0
     obtain ⟨Ao65, co65, eeo65⟩ := HOo65.out.slice
     subst eeo65
     (try clear hb)
     (try clear hnd)
     refine hK.out _ _ ⟨(blk_cell BKg2.out 0).trans rfl, (blk_cell BKg3.out 0).trans rfl⟩ (fun hHeld => ?_)
     clear hK K
     refine norm_ (a' := ?_) ?_ ?_
     rotate_left
     next =>
      show Act.put _ (some 99) _ = _
      simp only [Act.put, yay, yby, ycy, i64_w, i32_w]
      rfl
     refine pure_ (i := 5) (N := some 94) (v := ?_) (a' := ?_) #[true, true, true, true, true, true, false, false, false, false, false] rfl rfl (by kernel_rfl) (fun _ _ _ h => h) (Or.inl ⟨by rfl, ?_⟩) ?_ ?_
     rotate_left
     next =>
      intro w'
      go_simp
      with_reducible rfl
     rotate_left
     next =>
      simp only [Act.put, yay, yby, ycy, i64_w, i32_w]
      rfl
     refine pure_ (i := 6) (N := some 100) (v := ?_) (a' := ?_) #[true, true, true, true, true, true, true, false, false, false, false] rfl rfl (by kernel_rfl) (fun _ _ _ h => h) (Or.inl ⟨by rfl, ?_⟩) ?_ ?_
     rotate_left
     next =>
      intro w'
      go_simp
      with_reducible rfl
     rotate_left
     next =>
      simp only [Act.put, yay, yby, ycy, i64_w, i32_w]
      rfl
     refine pure_ (i := 7) (N := some 101) (v := ?_) (a' := ?_) #[true, true, true, true, true, true, true, true, false, false, false] rfl rfl (by kernel_rfl) (fun _ _ _ h => h) (Or.inl ⟨by rfl, ?_⟩) ?_ ?_
     rotate_left
     next =>
      intro w'
      go_simp
      with_reducible rfl
     rotate_left
     next =>
      simp only [Act.put, yay, yby, ycy, i64_w, i32_w]
      rfl
     refine one_ (i := 8) (N := some 15) #[true, true, true, true, true, true, true, true, true, false, false] rfl rfl (by kernel_rfl) (by decide) (fun K hK => ?_)
     refine value_ (w1 := ?_) (v := ?_) (by rfl) rfl ?_ ?_
     rotate_left 2
     next =>
      go_simp
      constructor
      next =>
       rfl
      next =>
       rfl
     have hbx := new_at4 (W := w47) rfl (.cells #[.slice none 0 0] 28)
     have hb := below_alloc (Below.refl w47.heap.size w47) (.cells #[.slice none 0 0] 28)
     generalize hal_ : World.alloc w47 _ = w48 at hbx hb ⊢
     (try clear hal_)
     have HNg15 := Aside0.mk (show hio65 ≤ w47.heap.size from HT.out)
     have HX_ := Aside0.mk (show w47.heap.size + 1 ≤ w48.heap.size from blk_lt hbx)
     have nOo15 := Aside0.mk (ObS.below HOo15.out hb)
     have nOo19 := Aside0.mk (ObS.below HOo19.out hb)
     have nOo22 := Aside0.mk (ObS.below HOo22.out hb)
     have nOo25 := Aside0.mk (ObS.below HOo25.out hb)
     have nOo32 := Aside0.mk (ObS.below HOo32.out hb)
     have nOo37 := Aside0.mk (ObS.below HOo37.out hb)
     have nOo59 := Aside0.mk (ObS.below HOo59.out hb)
     have nOo62 := Aside0.mk (ObS.below HOo62.out hb)
     have nOo65 := Aside0.mk (ObS.below HOo65.out hb)
     have nBg2 := Aside0.mk (blk_below (g := g2) (o := .cells #[.slice A0 l0.length c0] 24 (0, 0)) BKg2.out hb)
     have nBg3 := Aside0.mk (blk_below (g := g3) (o := .cells #[.slice A1 l1.length c1] 24 (0, 0)) BKg3.out hb)
     have nBg6 := Aside0.mk (blk_below (g := g6) (o := .cells #[.slice Ao15 t14.length co15] 28 (0, 0)) BKg6.out hb)
     have nBg8 := Aside0.mk (blk_below (g := g8) (o := .cells #[.slice Ao19 t18.length co19] 28 (0, 0)) BKg8.out hb)
     have nBg9 := Aside0.mk (blk_below (g := g9) (o := .cells #[.slice Ao22 t21.length co22] 28 (0, 0)) BKg9.out hb)
     have nBg10 := Aside0.mk (blk_below (g := g10) (o := .cells #[.slice Ao25 t24.length co25] 28 (0, 0)) BKg10.out hb)
     have nHB := Aside0.mk (below_step HB.out hb)
     have nHT := Aside0.mk (top_below HT.out hb)
     clear HB HT HOo15 HOo19 HOo22 HOo25 HOo32 HOo37 HOo59 HOo62 HOo65 BKg2 BKg3 BKg6 BKg8 BKg9 BKg10
     have HOo15 := nOo15
     have HOo19 := nOo19
     have HOo22 := nOo22
     have HOo25 := nOo25
     have HOo32 := nOo32
     have HOo37 := nOo37
     have HOo59 := nOo59
     have HOo62 := nOo62
     have HOo65 := nOo65
     have BKg2 := nBg2
     have BKg3 := nBg3
     have BKg6 := nBg6
     have BKg8 := nBg8
     have BKg9 := nBg9
     have BKg10 := nBg10
     have HB := nHB
     have HT := nHT
     clear nHB nHT nOo15 nOo19 nOo22 nOo25 nOo32 nOo37 nOo59 nOo62 nOo65 nBg2 nBg3 nBg6 nBg8 nBg9 nBg10
     clear HT
     have HT := HX_
     clear HX_
     have BKg15 := Aside0.mk hbx
     clear hb hbx hHeld
     generalize w47.heap.size = g15 at HNg15 HT BKg15 ⊢
     refine hK.out _ _ ⟨(blk_cell BKg2.out 0).trans rfl, (blk_cell BKg3.out 0).trans rfl⟩ (fun hHeld => ?_)
     clear hK K
     refine norm_ (a' := ?_) ?_ ?_
     rotate_left
     next =>
      show Act.put _ (some 15) _ = _
      simp only [Act.put, yay, yby, ycy, i64_w, i32_w]
      rfl
     have hc_ := hcont (Ao59, co59, Ao62, co62, Ao65, co65, g15) w48 ⟨loo65, hio65, w48.heap.size, (by (try dsimp only); have := HNg2.out; have := HNg3.out; have := HNo15.out; have := HNg6.out; have := HNtg6.out; have := HNo19.out; have := HNg8.out; have := HNo22.out; have := HNg9.out; have := HNo25.out; have := HNg10.out; have := HNo32.out; have := HNo37.out; have := HNo59.out; have := HNo62.out; have := HNo65.out; have := HNg15.out; have := HT.out; omega), (by (try dsimp only); have := HNg2.out; have := HNg3.out; have := HNo15.out; have := HNg6.out; have := HNtg6.out; have := HNo19.out; have := HNg8.out; have := HNo22.out; have := HNg9.out; have := HNo25.out; have := HNg10.out; have := HNo32.out; have := HNo37.out; have := HNo59.out; have := HNo62.out; have := HNo65.out; have := HNg15.out; have := HT.out; omega), (by (try dsimp only); have := HNg2.out; have := HNg3.out; have := HNo15.out; have := HNg6.out; have := HNtg6.out; have := HNo19.out; have := HNg8.out; have := HNo22.out; have := HNg9.out; have := HNo25.out; have := HNg10.out; have := HNo32.out; have := HNo37.out; have := HNo59.out; have := HNo62.out; have := HNo65.out; have := HNg15.out; have := HT.out; omega), yoy _, HOo65.out, HOo15.out, HOo19.out, HOo22.out, HOo25.out, HOo32.out, HOo37.out, BKg2.out, BKg3.out, BKg6.out, BKg8.out, BKg9.out, BKg10.out, BKg15.out, HB.out⟩
     exact norm_ (by simp only [putAll, Act.put, yay, yby, ycy, i64_w, i32_w] <;> rfl) hc_
    next =>
     refine value_ (w1 := ?_) (v := ?_) (by rfl) rfl ?_ ?_
     rotate_left 2
     next =>
      go_simp
      constructor
      next =>
       rfl
      next =>
       rfl
     have hbx := new_at4 (W := w46) rfl (.cells #[.slice none 0 0] 28)
     have hb := below_alloc (Below.refl w46.heap.size w46) (.cells #[.slice none 0 0] 28)
     generalize hal_ : World.alloc w46 _ = w47 at hbx hb ⊢
     (try clear hal_)
     have HNg15 := Aside0.mk (show hio62 ≤ w46.heap.size from HT.out)
     have HX_ := Aside0.mk (show w46.heap.size + 1 ≤ w47.heap.size from blk_lt hbx)
     have nOo15 := Aside0.mk (ObS.below HOo15.out hb)
     have nOo19 := Aside0.mk (ObS.below HOo19.out hb)
     have nOo22 := Aside0.mk (ObS.below HOo22.out hb)
     have nOo25 := Aside0.mk (ObS.below HOo25.out hb)
     have nOo32 := Aside0.mk (ObS.below HOo32.out hb)
     have nOo37 := Aside0.mk (ObS.below HOo37.out hb)
     have nOo59 := Aside0.mk (ObS.below HOo59.out hb)
     have nOo62 := Aside0.mk (ObS.below HOo62.out hb)
     have nBg2 := Aside0.mk (blk_below (g := g2) (o := .cells #[.slice A0 l0.length c0] 24 (0, 0)) BKg2.out hb)
     have nBg3 := Aside0.mk (blk_below (g := g3) (o := .cells #[.slice A1 l1.length c1] 24 (0, 0)) BKg3.out hb)
     have nBg6 := Aside0.mk (blk_below (g := g6) (o := .cells #[.slice Ao15 t14.length co15] 28 (0, 0)) BKg6.out hb)
     have nBg8 := Aside0.mk (blk_below (g := g8) (o := .cells #[.slice Ao19 t18.length co19] 28 (0, 0)) BKg8.out hb)
     have nBg9 := Aside0.mk (blk_below (g := g9) (o := .cells #[.slice Ao22 t21.length co22] 28 (0, 0)) BKg9.out hb)
     have nBg10 := Aside0.mk (blk_below (g := g10) (o := .cells #[.slice Ao25 t24.length co25] 28 (0, 0)) BKg10.out hb)
     have nHB := Aside0.mk (below_step HB.out hb)
     have nHT := Aside0.mk (top_below HT.out hb)
     clear HB HT HOo15 HOo19 HOo22 HOo25 HOo32 HOo37 HOo59 HOo62 BKg2 BKg3 BKg6 BKg8 BKg9 BKg10
     have HOo15 := nOo15
     have HOo19 := nOo19
     have HOo22 := nOo22
     have HOo25 := nOo25
     have HOo32 := nOo32
     have HOo37 := nOo37
     have HOo59 := nOo59
     have HOo62 := nOo62
     have BKg2 := nBg2
     have BKg3 := nBg3
     have BKg6 := nBg6
     have BKg8 := nBg8
     have BKg9 := nBg9
     have BKg10 := nBg10
     have HB := nHB
     have HT := nHT
     clear nHB nHT nOo15 nOo19 nOo22 nOo25 nOo32 nOo37 nOo59 nOo62 nBg2 nBg3 nBg6 nBg8 nBg9 nBg10
     clear HT
     have HT := HX_
     clear HX_
     have BKg15 := Aside0.mk hbx
     clear hb hbx hHeld
     generalize w46.heap.size = g15 at HNg15 HT BKg15 ⊢
     refine hK.out _ _ ⟨(blk_cell BKg2.out 0).trans rfl, (blk_cell BKg3.out 0).trans rfl⟩ (fun hHeld => ?_)
     clear hK K
     refine norm_ (a' := ?_) ?_ ?_
     rotate_left
     next =>
      show Act.put _ (some 15) _ = _
      simp only [Act.put, yay, yby, ycy, i64_w, i32_w]
      rfl
     refine one_ (i := 4) (N := some 99) #[true, true, true, true, true, false, false, false, true, false, false] rfl rfl (by kernel_rfl) (by decide) (fun K hK => ?_)
     refine goes_ Try.func25 (by kernel_rfl) rfl #[.agg #[.slice Ao59 t58.length co59], .agg #[.slice Ao62 t61.length co62]] (by rfl) rfl rfl (by (try simp only [yiy, yjy, yky]); first | done | rfl | (simp only [yly, ymy]; rfl)) ?_
     with_reducible refine (impl_UnionTriangulations.calls k _ _ t58 _ _ t61 t64 t66 _ ?side1 ?side2 ?side3 ?side4 H63.out).mono ?_
     (case side1 => exact (ObS.reads HOo59.out).2.2)
     (case side2 => exact ObS.room HOo59.out)
     (case side3 => exact (ObS.reads HOo62.out).2.2)
     (case side4 => exact ObS.room HOo62.out)
     rintro e w48 ⟨vo65, rfl, ho0, hb⟩
     refine ⟨_, rfl, ?_⟩
     obtain ⟨loo65, hio65, hno65⟩ := ObS.made ho0 hb HT.out (below_size HB.out)
     have nOo15 := Aside0.mk (ObS.below HOo15.out hb)
     have nOo19 := Aside0.mk (ObS.below HOo19.out hb)
     have nOo22 := Aside0.mk (ObS.below HOo22.out hb)
     have nOo25 := Aside0.mk (ObS.below HOo25.out hb)
     have nOo32 := Aside0.mk (ObS.below HOo32.out hb)
     have nOo37 := Aside0.mk (ObS.below HOo37.out hb)
     have nOo59 := Aside0.mk (ObS.below HOo59.out hb)
     have nOo62 := Aside0.mk (ObS.below HOo62.out hb)
     have nBg2 := Aside0.mk (blk_below (g := g2) (o := .cells #[.slice A0 l0.length c0] 24 (0, 0)) BKg2.out hb)
     have nBg3 := Aside0.mk (blk_below (g := g3) (o := .cells #[.slice A1 l1.length c1] 24 (0, 0)) BKg3.out hb)
     have nBg6 := Aside0.mk (blk_below (g := g6) (o := .cells #[.slice Ao15 t14.length co15] 28 (0, 0)) BKg6.out hb)
     have nBg8 := Aside0.mk (blk_below (g := g8) (o := .cells #[.slice Ao19 t18.length co19] 28 (0, 0)) BKg8.out hb)
     have nBg9 := Aside0.mk (blk_below (g := g9) (o := .cells #[.slice Ao22 t21.length co22] 28 (0, 0)) BKg9.out hb)
     have nBg10 := Aside0.mk (blk_below (g := g10) (o := .cells #[.slice Ao25 t24.length co25] 28 (0, 0)) BKg10.out hb)
     have nBg15 := Aside0.mk (blk_below (g := g15) (o := .cells #[.slice none 0 0] 28 (0, 0)) BKg15.out hb)
     have nHB := Aside0.mk (below_step HB.out hb)
     have nHT := Aside0.mk (top_below HT.out hb)
     clear HB HT HOo15 HOo19 HOo22 HOo25 HOo32 HOo37 HOo59 HOo62 BKg2 BKg3 BKg6 BKg8 BKg9 BKg10 BKg15
     have HOo15 := nOo15
     have HOo19 := nOo19
     have HOo22 := nOo22
     have HOo25 := nOo25
     have HOo32 := nOo32
     have HOo37 := nOo37
     have HOo59 := nOo59
     have HOo62 := nOo62
     have BKg2 := nBg2
     have BKg3 := nBg3
     have BKg6 := nBg6
     have BKg8 := nBg8
     have BKg9 := nBg9
     have BKg10 := nBg10
     have BKg15 := nBg15
     have HB := nHB
     have HT := nHT
     clear nHB nHT nOo15 nOo19 nOo22 nOo25 nOo32 nOo37 nOo59 nOo62 nBg2 nBg3 nBg6 nBg8 nBg9 nBg10 nBg15
     have HNo65 := Aside0.mk hno65.1
     clear HT
     have HT := Aside0.mk hno65.2.1
     have HOo65 := Aside0.mk hno65.2.2
     clear hno65 ho0
     obtain ⟨Ao65, co65, eeo65⟩ := HOo65.out.slice
     subst eeo65
     (try clear hb)
     (try clear hnd)
     refine hK.out _ _ ⟨(blk_cell BKg2.out 0).trans rfl, (blk_cell BKg3.out 0).trans rfl⟩ (fun hHeld => ?_)
     clear hK K
     refine norm_ (a' := ?_) ?_ ?_
     rotate_left
     next =>
      show Act.put _ (some 99) _ = _
      simp only [Act.put, yay, yby, ycy, i64_w, i32_w]
      rfl
     refine pure_ (i := 5) (N := some 94) (v := ?_) (a' := ?_) #[true, true, true, true, true, true, false, false, true, false, false] rfl rfl (by kernel_rfl) (fun _ _ _ h => h) (Or.inl ⟨by rfl, ?_⟩) ?_ ?_
     rotate_left
     next =>
      intro w'
      go_simp
      with_reducible rfl
     rotate_left
     next =>
      simp only [Act.put, yay, yby, ycy, i64_w, i32_w]
      rfl
     refine pure_ (i := 6) (N := some 100) (v := ?_) (a' := ?_) #[true, true, true, true, true, true, true, false, true, false, false] rfl rfl (by kernel_rfl) (fun _ _ _ h => h) (Or.inl ⟨by rfl, ?_⟩) ?_ ?_
     rotate_left
     next =>
      intro w'
      go_simp
      with_reducible rfl
     rotate_left
     next =>
      simp only [Act.put, yay, yby, ycy, i64_w, i32_w]
      rfl
     refine pure_ (i := 7) (N := some 101) (v := ?_) (a' := ?_) #[true, true, true, true, true, true, true, true, true, false, false] rfl rfl (by kernel_rfl) (fun _ _ _ h => h) (Or.inl ⟨by rfl, ?_⟩) ?_ ?_
     rotate_left
     next =>
      intro w'
      go_simp
      with_reducible rfl
     rotate_left
     next =>
      simp only [Act.put, yay, yby, ycy, i64_w, i32_w]
      rfl
     have hc_ := hcont (Ao59, co59, Ao62, co62, Ao65, co65, g15) w48 ⟨loo65, hio65, w48.heap.size, (by (try dsimp only); have := HNg2.out; have := HNg3.out; have := HNo15.out; have := HNg6.out; have := HNtg6.out; have := HNo19.out; have := HNg8.out; have := HNo22.out; have := HNg9.out; have := HNo25.out; have := HNg10.out; have := HNo32.out; have := HNo37.out; have := HNo59.out; have := HNo62.out; have := HNg15.out; have := HNo65.out; have := HT.out; omega), (by (try dsimp only); have := HNg2.out; have := HNg3.out; have := HNo15.out; have := HNg6.out; have := HNtg6.out; have := HNo19.out; have := HNg8.out; have := HNo22.out; have := HNg9.out; have := HNo25.out; have := HNg10.out; have := HNo32.out; have := HNo37.out; have := HNo59.out; have := HNo62.out; have := HNg15.out; have := HNo65.out; have := HT.out; omega), (by (try dsimp only); have := HNg2.out; have := HNg3.out; have := HNo15.out; have := HNg6.out; have := HNtg6.out; have := HNo19.out; have := HNg8.out; have := HNo22.out; have := HNg9.out; have := HNo25.out; have := HNg10.out; have := HNo32.out; have := HNo37.out; have := HNo59.out; have := HNo62.out; have := HNg15.out; have := HNo65.out; have := HT.out; omega), yoy _, HOo65.out, HOo15.out, HOo19.out, HOo22.out, HOo25.out, HOo32.out, HOo37.out, BKg2.out, BKg3.out, BKg6.out, BKg8.out, BKg9.out, BKg10.out, BKg15.out, HB.out⟩
     exact norm_ (by simp only [putAll, Act.put, yay, yby, ycy, i64_w, i32_w] <;> rfl) hc_
   next =>
    refine value_ (w1 := ?_) (v := ?_) (by rfl) rfl ?_ ?_
    rotate_left 2
    next =>
     go_simp
     constructor
     next =>
      rfl
     next =>
      rfl
    have hbx := new_at4 (W := w45) rfl (.cells #[.slice none 0 0] 28)
    have hb := below_alloc (Below.refl w45.heap.size w45) (.cells #[.slice none 0 0] 28)
    generalize hal_ : World.alloc w45 _ = w46 at hbx hb ⊢
    (try clear hal_)
    have HNg15 := Aside0.mk (show hio59 ≤ w45.heap.size from HT.out)
    have HX_ := Aside0.mk (show w45.heap.size + 1 ≤ w46.heap.size from blk_lt hbx)
    have nOo15 := Aside0.mk (ObS.below HOo15.out hb)
    have nOo19 := Aside0.mk (ObS.below HOo19.out hb)
    have nOo22 := Aside0.mk (ObS.below HOo22.out hb)
    have nOo25 := Aside0.mk (ObS.below HOo25.out hb)
    have nOo32 := Aside0.mk (ObS.below HOo32.out hb)
    have nOo37 := Aside0.mk (ObS.below HOo37.out hb)
    have nOo59 := Aside0.mk (ObS.below HOo59.out hb)
    have nBg2 := Aside0.mk (blk_below (g := g2) (o := .cells #[.slice A0 l0.length c0] 24 (0, 0)) BKg2.out hb)
    have nBg3 := Aside0.mk (blk_below (g := g3) (o := .cells #[.slice A1 l1.length c1] 24 (0, 0)) BKg3.out hb)
    have nBg6 := Aside0.mk (blk_below (g := g6) (o := .cells #[.slice Ao15 t14.length co15] 28 (0, 0)) BKg6.out hb)
    have nBg8 := Aside0.mk (blk_below (g := g8) (o := .cells #[.slice Ao19 t18.length co19] 28 (0, 0)) BKg8.out hb)
    have nBg9 := Aside0.mk (blk_below (g := g9) (o := .cells #[.slice Ao22 t21.length co22] 28 (0, 0)) BKg9.out hb)
    have nBg10 := Aside0.mk (blk_below (g := g10) (o := .cells #[.slice Ao25 t24.length co25] 28 (0, 0)) BKg10.out hb)
    have nHB := Aside0.mk (below_step HB.out hb)
    have nHT := Aside0.mk (top_below HT.out hb)
    clear HB HT HOo15 HOo19 HOo22 HOo25 HOo32 HOo37 HOo59 BKg2 BKg3 BKg6 BKg8 BKg9 BKg10
    have HOo15 := nOo15
    have HOo19 := nOo19
    have HOo22 := nOo22
    have HOo25 := nOo25
    have HOo32 := nOo32
    have HOo37 := nOo37
    have HOo59 := nOo59
    have BKg2 := nBg2
    have BKg3 := nBg3
    have BKg6 := nBg6
    have BKg8 := nBg8
    have BKg9 := nBg9
    have BKg10 := nBg10
    have HB := nHB
    have HT := nHT
    clear nHB nHT nOo15 nOo19 nOo22 nOo25 nOo32 nOo37 nOo59 nBg2 nBg3 nBg6 nBg8 nBg9 nBg10
    clear HT
    have HT := HX_
    clear HX_
    have BKg15 := Aside0.mk hbx
    clear hb hbx hHeld
    generalize w45.heap.size = g15 at HNg15 HT BKg15 ⊢
    refine hK.out _ _ ⟨(blk_cell BKg2.out 0).trans rfl, (blk_cell BKg3.out 0).trans rfl⟩ (fun hHeld => ?_)
    clear hK K
    refine norm_ (a' := ?_) ?_ ?_
    rotate_left
    next =>
     show Act.put _ (some 15) _ = _
     simp only [Act.put, yay, yby, ycy, i64_w, i32_w]
     rfl
    refine one_ (i := 3) (N := some 98) #[true, true, true, true, false, false, false, false, true, false, false] rfl rfl (by kernel_rfl) (by decide) (fun K hK => ?_)
    refine goes_ Try.func17 (by kernel_rfl) rfl #[.agg #[.slice A1 l1.length c1]] (by rfl) rfl rfl (by (try simp only [yiy, yjy, yky]); first | done | rfl | (simp only [yly, ymy]; rfl)) ?_
    with_reducible refine (laws_toTriangulation.calls k _ _ l1 t61 _ ?side1 ?side2 H60.out).mono ?_
    (case side1 => exact Kd.C_below HR1.out HB.out)
    (case side2 => exact HC1.out)
    rintro e w47 ⟨vo62, rfl, ho0, hb⟩
    refine ⟨_, rfl, ?_⟩
    obtain ⟨loo62, hio62, hno62⟩ := ObS.made ho0 hb HT.out (below_size HB.out)
    have nOo15 := Aside0.mk (ObS.below HOo15.out hb)
    have nOo19 := Aside0.mk (ObS.below HOo19.out hb)
    have nOo22 := Aside0.mk (ObS.below HOo22.out hb)
    have nOo25 := Aside0.mk (ObS.below HOo25.out hb)
    have nOo32 := Aside0.mk (ObS.below HOo32.out hb)
    have nOo37 := Aside0.mk (ObS.below HOo37.out hb)
    have nOo59 := Aside0.mk (ObS.below HOo59.out hb)
    have nBg2 := Aside0.mk (blk_below (g := g2) (o := .cells #[.slice A0 l0.length c0] 24 (0, 0)) BKg2.out hb)
    have nBg3 := Aside0.mk (blk_below (g := g3) (o := .cells #[.slice A1 l1.length c1] 24 (0, 0)) BKg3.out hb)
    have nBg6 := Aside0.mk (blk_below (g := g6) (o := .cells #[.slice Ao15 t14.length co15] 28 (0, 0)) BKg6.out hb)
    have nBg8 := Aside0.mk (blk_below (g := g8) (o := .cells #[.slice Ao19 t18.length co19] 28 (0, 0)) BKg8.out hb)
    have nBg9 := Aside0.mk (blk_below (g := g9) (o := .cells #[.slice Ao22 t21.length co22] 28 (0, 0)) BKg9.out hb)
    have nBg10 := Aside0.mk (blk_below (g := g10) (o := .cells #[.slice Ao25 t24.length co25] 28 (0, 0)) BKg10.out hb)
    have nBg15 := Aside0.mk (blk_below (g := g15) (o := .cells #[.slice none 0 0] 28 (0, 0)) BKg15.out hb)
    have nHB := Aside0.mk (below_step HB.out hb)
    have nHT := Aside0.mk (top_below HT.out hb)
    clear HB HT HOo15 HOo19 HOo22 HOo25 HOo32 HOo37 HOo59 BKg2 BKg3 BKg6 BKg8 BKg9 BKg10 BKg15
    have HOo15 := nOo15
    have HOo19 := nOo19
    have HOo22 := nOo22
    have HOo25 := nOo25
    have HOo32 := nOo32
    have HOo37 := nOo37
    have HOo59 := nOo59
    have BKg2 := nBg2
    have BKg3 := nBg3
    have BKg6 := nBg6
    have BKg8 := nBg8
    have BKg9 := nBg9
    have BKg10 := nBg10
    have BKg15 := nBg15
    have HB := nHB
    have HT := nHT
    clear nHB nHT nOo15 nOo19 nOo22 nOo25 nOo32 nOo37 nOo59 nBg2 nBg3 nBg6 nBg8 nBg9 nBg10 nBg15
    have HNo62 := Aside0.mk hno62.1
    clear HT
    have HT := Aside0.mk hno62.2.1
    have HOo62 := Aside0.mk hno62.2.2
    clear hno62 ho0
    obtain ⟨Ao62, co62, eeo62⟩ := HOo62.out.slice
    subst eeo62
    (try clear hb)
    (try clear hnd)
    refine hK.out _ _ ⟨(blk_cell BKg2.out 0).trans rfl, (blk_cell BKg3.out 0).trans rfl⟩ (fun hHeld => ?_)
    clear hK K
    refine norm_ (a' := ?_) ?_ ?_
    rotate_left
    next =>
     show Act.put _ (some 98) _ = _
     simp only [Act.put, yay, yby, ycy, i64_w, i32_w]
     rfl
    refine one_ (i := 4) (N := some 99) #[true, true, true, true, true, false, false, false, true, false, false] rfl rfl (by kernel_rfl) (by decide) (fun K hK => ?_)
    refine goes_ Try.func25 (by kernel_rfl) rfl #[.agg #[.slice Ao59 t58.length co59], .agg #[.slice Ao62 t61.length co62]] (by rfl) rfl rfl (by (try simp only [yiy, yjy, yky]); first | done | rfl | (simp only [yly, ymy]; rfl)) ?_
    with_reducible refine (impl_UnionTriangulations.calls k _ _ t58 _ _ t61 t64 t66 _ ?side1 ?side2 ?side3 ?side4 H63.out).mono ?_
    (case side1 => exact (ObS.reads HOo59.out).2.2)
    (case side2 => exact ObS.room HOo59.out)
    (case side3 => exact (ObS.reads HOo62.out).2.2)
    (case side4 => exact ObS.room HOo62.out)
    rintro e w48 ⟨vo65, rfl, ho0, hb⟩
    refine ⟨_, rfl, ?_⟩
    obtain ⟨loo65, hio65, hno65⟩ := ObS.made ho0 hb HT.out (below_size HB.out)
    have nOo15 := Aside0.mk (ObS.below HOo15.out hb)
    have nOo19 := Aside0.mk (ObS.below HOo19.out hb)
    have nOo22 := Aside0.mk (ObS.below HOo22.out hb)
    have nOo25 := Aside0.mk (ObS.below HOo25.out hb)
    have nOo32 := Aside0.mk (ObS.below HOo32.out hb)
    have nOo37 := Aside0.mk (ObS.below HOo37.out hb)
    have nOo59 := Aside0.mk (ObS.below HOo59.out hb)
    have nOo62 := Aside0.mk (ObS.below HOo62.out hb)
    have nBg2 := Aside0.mk (blk_below (g := g2) (o := .cells #[.slice A0 l0.length c0] 24 (0, 0)) BKg2.out hb)
    have nBg3 := Aside0.mk (blk_below (g := g3) (o := .cells #[.slice A1 l1.length c1] 24 (0, 0)) BKg3.out hb)
    have nBg6 := Aside0.mk (blk_below (g := g6) (o := .cells #[.slice Ao15 t14.length co15] 28 (0, 0)) BKg6.out hb)
    have nBg8 := Aside0.mk (blk_below (g := g8) (o := .cells #[.slice Ao19 t18.length co19] 28 (0, 0)) BKg8.out hb)
    have nBg9 := Aside0.mk (blk_below (g := g9) (o := .cells #[.slice Ao22 t21.length co22] 28 (0, 0)) BKg9.out hb)
    have nBg10 := Aside0.mk (blk_below (g := g10) (o := .cells #[.slice Ao25 t24.length co25] 28 (0, 0)) BKg10.out hb)
    have nBg15 := Aside0.mk (blk_below (g := g15) (o := .cells #[.slice none 0 0] 28 (0, 0)) BKg15.out hb)
    have nHB := Aside0.mk (below_step HB.out hb)
    have nHT := Aside0.mk (top_below HT.out hb)
    clear HB HT HOo15 HOo19 HOo22 HOo25 HOo32 HOo37 HOo59 HOo62 BKg2 BKg3 BKg6 BKg8 BKg9 BKg10 BKg15
    have HOo15 := nOo15
    have HOo19 := nOo19
    have HOo22 := nOo22
    have HOo25 := nOo25
    have HOo32 := nOo32
    have HOo37 := nOo37
    have HOo59 := nOo59
    have HOo62 := nOo62
    have BKg2 := nBg2
    have BKg3 := nBg3
    have BKg6 := nBg6
    have BKg8 := nBg8
    have BKg9 := nBg9
    have BKg10 := nBg10
    have BKg15 := nBg15
    have HB := nHB
    have HT := nHT
    clear nHB nHT nOo15 nOo19 nOo22 nOo25 nOo32 nOo37 nOo59 nOo62 nBg2 nBg3 nBg6 nBg8 nBg9 nBg10 nBg15
    have HNo65 := Aside0.mk hno65.1
    clear HT
    have HT := Aside0.mk hno65.2.1
    have HOo65 := Aside0.mk hno65.2.2
    clear hno65 ho0
    obtain ⟨Ao65, co65, eeo65⟩ := HOo65.out.slice
    subst eeo65
    (try clear hb)
    (try clear hnd)
    refine hK.out _ _ ⟨(blk_cell BKg2.out 0).trans rfl, (blk_cell BKg3.out 0).trans rfl⟩ (fun hHeld => ?_)
    clear hK K
    refine norm_ (a' := ?_) ?_ ?_
    rotate_left
    next =>
     show Act.put _ (some 99) _ = _
     simp only [Act.put, yay, yby, ycy, i64_w, i32_w]
     rfl
    refine pure_ (i := 5) (N := some 94) (v := ?_) (a' := ?_) #[true, true, true, true, true, true, false, false, true, false, false] rfl rfl (by kernel_rfl) (fun _ _ _ h => h) (Or.inl ⟨by rfl, ?_⟩) ?_ ?_
    rotate_left
    next =>
     intro w'
     go_simp
     with_reducible rfl
    rotate_left
    next =>
     simp only [Act.put, yay, yby, ycy, i64_w, i32_w]
     rfl
    refine pure_ (i := 6) (N := some 100) (v := ?_) (a' := ?_) #[true, true, true, true, true, true, true, false, true, false, false] rfl rfl (by kernel_rfl) (fun _ _ _ h => h) (Or.inl ⟨by rfl, ?_⟩) ?_ ?_
    rotate_left
    next =>
     intro w'
     go_simp
     with_reducible rfl
    rotate_left
    next =>
     simp only [Act.put, yay, yby, ycy, i64_w, i32_w]
     rfl
    refine pure_ (i := 7) (N := some 101) (v := ?_) (a' := ?_) #[true, true, true, true, true, true, true, true, true, false, false] rfl rfl (by kernel_rfl) (fun _ _ _ h => h) (Or.inl ⟨by rfl, ?_⟩) ?_ ?_
    rotate_left
    next =>
     intro w'
     go_simp
     with_reducible rfl
    rotate_left
    next =>
     simp only [Act.put, yay, yby, ycy, i64_w, i32_w]
     rfl
    have hc_ := hcont (Ao59, co59, Ao62, co62, Ao65, co65, g15) w48 ⟨loo65, hio65, w48.heap.size, (by (try dsimp only); have := HNg2.out; have := HNg3.out; have := HNo15.out; have := HNg6.out; have := HNtg6.out; have := HNo19.out; have := HNg8.out; have := HNo22.out; have := HNg9.out; have := HNo25.out; have := HNg10.out; have := HNo32.out; have := HNo37.out; have := HNo59.out; have := HNg15.out; have := HNo62.out; have := HNo65.out; have := HT.out; omega), (by (try dsimp only); have := HNg2.out; have := HNg3.out; have := HNo15.out; have := HNg6.out; have := HNtg6.out; have := HNo19.out; have := HNg8.out; have := HNo22.out; have := HNg9.out; have := HNo25.out; have := HNg10.out; have := HNo32.out; have := HNo37.out; have := HNo59.out; have := HNg15.out; have := HNo62.out; have := HNo65.out; have := HT.out; omega), (by (try dsimp only); have := HNg2.out; have := HNg3.out; have := HNo15.out; have := HNg6.out; have := HNtg6.out; have := HNo19.out; have := HNg8.out; have := HNo22.out; have := HNg9.out; have := HNo25.out; have := HNg10.out; have := HNo32.out; have := HNo37.out; have := HNo59.out; have := HNg15.out; have := HNo62.out; have := HNo65.out; have := HT.out; omega), yoy _, HOo65.out, HOo15.out, HOo19.out, HOo22.out, HOo25.out, HOo32.out, HOo37.out, BKg2.out, BKg3.out, BKg6.out, BKg8.out, BKg9.out, BKg10.out, BKg15.out, HB.out⟩
    exact norm_ (by simp only [putAll, Act.put, yay, yby, ycy, i64_w, i32_w] <;> rfl) hc_
  next =>
   refine value_ (w1 := ?_) (v := ?_) (by rfl) rfl ?_ ?_
   rotate_left 2
   next =>
    go_simp
    constructor
    next =>
     rfl
    next =>
     rfl
   have hbx := new_at4 (W := w44) rfl (.cells #[.slice none 0 0] 28)
   have hb := below_alloc (Below.refl w44.heap.size w44) (.cells #[.slice none 0 0] 28)
   generalize hal_ : World.alloc w44 _ = w45 at hbx hb ⊢
   (try clear hal_)
   have HNg15 := Aside0.mk (show hio37 ≤ w44.heap.size from HT.out)
   have HX_ := Aside0.mk (show w44.heap.size + 1 ≤ w45.heap.size from blk_lt hbx)
   have nOo15 := Aside0.mk (ObS.below HOo15.out hb)
   have nOo19 := Aside0.mk (ObS.below HOo19.out hb)
   have nOo22 := Aside0.mk (ObS.below HOo22.out hb)
   have nOo25 := Aside0.mk (ObS.below HOo25.out hb)
   have nOo32 := Aside0.mk (ObS.below HOo32.out hb)
   have nOo37 := Aside0.mk (ObS.below HOo37.out hb)
   have nBg2 := Aside0.mk (blk_below (g := g2) (o := .cells #[.slice A0 l0.length c0] 24 (0, 0)) BKg2.out hb)
   have nBg3 := Aside0.mk (blk_below (g := g3) (o := .cells #[.slice A1 l1.length c1] 24 (0, 0)) BKg3.out hb)
   have nBg6 := Aside0.mk (blk_below (g := g6) (o := .cells #[.slice Ao15 t14.length co15] 28 (0, 0)) BKg6.out hb)
   have nBg8 := Aside0.mk (blk_below (g := g8) (o := .cells #[.slice Ao19 t18.length co19] 28 (0, 0)) BKg8.out hb)
   have nBg9 := Aside0.mk (blk_below (g := g9) (o := .cells #[.slice Ao22 t21.length co22] 28 (0, 0)) BKg9.out hb)
   have nBg10 := Aside0.mk (blk_below (g := g10) (o := .cells #[.slice Ao25 t24.length co25] 28 (0, 0)) BKg10.out hb)
   have nHB := Aside0.mk (below_step HB.out hb)
   have nHT := Aside0.mk (top_below HT.out hb)
   clear HB HT HOo15 HOo19 HOo22 HOo25 HOo32 HOo37 BKg2 BKg3 BKg6 BKg8 BKg9 BKg10
   have HOo15 := nOo15
   have HOo19 := nOo19
   have HOo22 := nOo22
   have HOo25 := nOo25
   have HOo32 := nOo32
   have HOo37 := nOo37
   have BKg2 := nBg2
   have BKg3 := nBg3
   have BKg6 := nBg6
   have BKg8 := nBg8
   have BKg9 := nBg9
   have BKg10 := nBg10
   have HB := nHB
   have HT := nHT
   clear nHB nHT nOo15 nOo19 nOo22 nOo25 nOo32 nOo37 nBg2 nBg3 nBg6 nBg8 nBg9 nBg10
   clear HT
   have HT := HX_
   clear HX_
   have BKg15 := Aside0.mk hbx
   clear hb hbx hHeld
   generalize w44.heap.size = g15 at HNg15 HT BKg15 ⊢
   refine hK.out _ _ ⟨(blk_cell BKg2.out 0).trans rfl, (blk_cell BKg3.out 0).trans rfl⟩ (fun hHeld => ?_)
   clear hK K
   refine norm_ (a' := ?_) ?_ ?_
   rotate_left
   next =>
    show Act.put _ (some 15) _ = _
    simp only [Act.put, yay, yby, ycy, i64_w, i32_w]
    rfl
   refine one_ (i := 1) (N := some 96) #[true, true, true, false, false, false, false, false, true, false, false] rfl rfl (by kernel_rfl) (by decide) (fun K hK => ?_)
   refine goes_ Try.func17 (by kernel_rfl) rfl #[.agg #[.slice A0 l0.length c0]] (by rfl) rfl rfl (by (try simp only [yiy, yjy, yky]); first | done | rfl | (simp only [yly, ymy]; rfl)) ?_
   with_reducible refine (laws_toTriangulation.calls k _ _ l0 t58 _ ?side1 ?side2 H57.out).mono ?_
   (case side1 => exact Kd.C_below HR0.out HB.out)
   (case side2 => exact HC0.out)
   rintro e w46 ⟨vo59, rfl, ho0, hb⟩
   refine ⟨_, rfl, ?_⟩
   obtain ⟨loo59, hio59, hno59⟩ := ObS.made ho0 hb HT.out (below_size HB.out)
   have nOo15 := Aside0.mk (ObS.below HOo15.out hb)
   have nOo19 := Aside0.mk (ObS.below HOo19.out hb)
   have nOo22 := Aside0.mk (ObS.below HOo22.out hb)
   have nOo25 := Aside0.mk (ObS.below HOo25.out hb)
   have nOo32 := Aside0.mk (ObS.below HOo32.out hb)
   have nOo37 := Aside0.mk (ObS.below HOo37.out hb)
   have nBg2 := Aside0.mk (blk_below (g := g2) (o := .cells #[.slice A0 l0.length c0] 24 (0, 0)) BKg2.out hb)
   have nBg3 := Aside0.mk (blk_below (g := g3) (o := .cells #[.slice A1 l1.length c1] 24 (0, 0)) BKg3.out hb)
   have nBg6 := Aside0.mk (blk_below (g := g6) (o := .cells #[.slice Ao15 t14.length co15] 28 (0, 0)) BKg6.out hb)
   have nBg8 := Aside0.mk (blk_below (g := g8) (o := .cells #[.slice Ao19 t18.length co19] 28 (0, 0)) BKg8.out hb)
   have nBg9 := Aside0.mk (blk_below (g := g9) (o := .cells #[.slice Ao22 t21.length co22] 28 (0, 0)) BKg9.out hb)
   have nBg10 := Aside0.mk (blk_below (g := g10) (o := .cells #[.slice Ao25 t24.length co25] 28 (0, 0)) BKg10.out hb)
   have nBg15 := Aside0.mk (blk_below (g := g15) (o := .cells #[.slice none 0 0] 28 (0, 0)) BKg15.out hb)
   have nHB := Aside0.mk (below_step HB.out hb)
   have nHT := Aside0.mk (top_below HT.out hb)
   clear HB HT HOo15 HOo19 HOo22 HOo25 HOo32 HOo37 BKg2 BKg3 BKg6 BKg8 BKg9 BKg10 BKg15
   have HOo15 := nOo15
   have HOo19 := nOo19
   have HOo22 := nOo22
   have HOo25 := nOo25
   have HOo32 := nOo32
   have HOo37 := nOo37
   have BKg2 := nBg2
   have BKg3 := nBg3
   have BKg6 := nBg6
   have BKg8 := nBg8
   have BKg9 := nBg9
   have BKg10 := nBg10
   have BKg15 := nBg15
   have HB := nHB
   have HT := nHT
   clear nHB nHT nOo15 nOo19 nOo22 nOo25 nOo32 nOo37 nBg2 nBg3 nBg6 nBg8 nBg9 nBg10 nBg15
   have HNo59 := Aside0.mk hno59.1
   clear HT
   have HT := Aside0.mk hno59.2.1
   have HOo59 := Aside0.mk hno59.2.2
   clear hno59 ho0
   obtain ⟨Ao59, co59, eeo59⟩ := HOo59.out.slice
   subst eeo59
   (try clear hb)
   (try clear hnd)
   refine hK.out _ _ ⟨(blk_cell BKg2.out 0).trans rfl, (blk_cell BKg3.out 0).trans rfl⟩ (fun hHeld => ?_)
   clear hK K
   refine norm_ (a' := ?_) ?_ ?_
   rotate_left
   next =>
    show Act.put _ (some 96) _ = _
    simp only [Act.put, yay, yby, ycy, i64_w, i32_w]
    rfl
   refine one_ (i := 3) (N := some 98) #[true, true, true, true, false, false, false, false, true, false, false] rfl rfl (by kernel_rfl) (by decide) (fun K hK => ?_)
   refine goes_ Try.func17 (by kernel_rfl) rfl #[.agg #[.slice A1 l1.length c1]] (by rfl) rfl rfl (by (try simp only [yiy, yjy, yky]); first | done | rfl | (simp only [yly, ymy]; rfl)) ?_
   with_reducible refine (laws_toTriangulation.calls k _ _ l1 t61 _ ?side1 ?side2 H60.out).mono ?_
   (case side1 => exact Kd.C_below HR1.out HB.out)
   (case side2 => exact HC1.out)
   rintro e w47 ⟨vo62, rfl, ho0, hb⟩
   refine ⟨_, rfl, ?_⟩
   obtain ⟨loo62, hio62, hno62⟩ := ObS.made ho0 hb HT.out (below_size HB.out)
   have nOo15 := Aside0.mk (ObS.below HOo15.out hb)
   have nOo19 := Aside0.mk (ObS.below HOo19.out hb)
   have nOo22 := Aside0.mk (ObS.below HOo22.out hb)
   have nOo25 := Aside0.mk (ObS.below HOo25.out hb)
   have nOo32 := Aside0.mk (ObS.below HOo32.out hb)
   have nOo37 := Aside0.mk (ObS.below HOo37.out hb)
   have nOo59 := Aside0.mk (ObS.below HOo59.out hb)
   have nBg2 := Aside0.mk (blk_below (g := g2) (o := .cells #[.slice A0 l0.length c0] 24 (0, 0)) BKg2.out hb)
   have nBg3 := Aside0.mk (blk_below (g := g3) (o := .cells #[.slice A1 l1.length c1] 24 (0, 0)) BKg3.out hb)
   have nBg6 := Aside0.mk (blk_below (g := g6) (o := .cells #[.slice Ao15 t14.length co15] 28 (0, 0)) BKg6.out hb)
   have nBg8 := Aside0.mk (blk_below (g := g8) (o := .cells #[.slice Ao19 t18.length co19] 28 (0, 0)) BKg8.out hb)
   have nBg9 := Aside0.mk (blk_below (g := g9) (o := .cells #[.slice Ao22 t21.length co22] 28 (0, 0)) BKg9.out hb)
   have nBg10 := Aside0.mk (blk_below (g := g10) (o := .cells #[.slice Ao25 t24.length co25] 28 (0, 0)) BKg10.out hb)
   have nBg15 := Aside0.mk (blk_below (g := g15) (o := .cells #[.slice none 0 0] 28 (0, 0)) BKg15.out hb)
   have nHB := Aside0.mk (below_step HB.out hb)
   have nHT := Aside0.mk (top_below HT.out hb)
   clear HB HT HOo15 HOo19 HOo22 HOo25 HOo32 HOo37 HOo59 BKg2 BKg3 BKg6 BKg8 BKg9 BKg10 BKg15
   have HOo15 := nOo15
   have HOo19 := nOo19
   have HOo22 := nOo22
   have HOo25 := nOo25
   have HOo32 := nOo32
   have HOo37 := nOo37
   have HOo59 := nOo59
   have BKg2 := nBg2
   have BKg3 := nBg3
   have BKg6 := nBg6
   have BKg8 := nBg8
   have BKg9 := nBg9
   have BKg10 := nBg10
   have BKg15 := nBg15
   have HB := nHB
   have HT := nHT
   clear nHB nHT nOo15 nOo19 nOo22 nOo25 nOo32 nOo37 nOo59 nBg2 nBg3 nBg6 nBg8 nBg9 nBg10 nBg15
   have HNo62 := Aside0.mk hno62.1
   clear HT
   have HT := Aside0.mk hno62.2.1
   have HOo62 := Aside0.mk hno62.2.2
   clear hno62 ho0
   obtain ⟨Ao62, co62, eeo62⟩ := HOo62.out.slice
   subst eeo62
   (try clear hb)
   (try clear hnd)
   refine hK.out _ _ ⟨(blk_cell BKg2.out 0).trans rfl, (blk_cell BKg3.out 0).trans rfl⟩ (fun hHeld => ?_)
   clear hK K
   refine norm_ (a' := ?_) ?_ ?_
   rotate_left
   next =>
    show Act.put _ (some 98) _ = _
    simp only [Act.put, yay, yby, ycy, i64_w, i32_w]
    rfl
   refine one_ (i := 4) (N := some 99) #[true, true, true, true, true, false, false, false, true, false, false] rfl rfl (by kernel_rfl) (by decide) (fun K hK => ?_)
   refine goes_ Try.func25 (by kernel_rfl) rfl #[.agg #[.slice Ao59 t58.length co59], .agg #[.slice Ao62 t61.length co62]] (by rfl) rfl rfl (by (try simp only [yiy, yjy, yky]); first | done | rfl | (simp only [yly, ymy]; rfl)) ?_
   with_reducible refine (impl_UnionTriangulations.calls k _ _ t58 _ _ t61 t64 t66 _ ?side1 ?side2 ?side3 ?side4 H63.out).mono ?_
   (case side1 => exact (ObS.reads HOo59.out).2.2)
   (case side2 => exact ObS.room HOo59.out)
   (case side3 => exact (ObS.reads HOo62.out).2.2)
   (case side4 => exact ObS.room HOo62.out)
   rintro e w48 ⟨vo65, rfl, ho0, hb⟩
   refine ⟨_, rfl, ?_⟩
   obtain ⟨loo65, hio65, hno65⟩ := ObS.made ho0 hb HT.out (below_size HB.out)
   have nOo15 := Aside0.mk (ObS.below HOo15.out hb)
   have nOo19 := Aside0.mk (ObS.below HOo19.out hb)
   have nOo22 := Aside0.mk (ObS.below HOo22.out hb)
   have nOo25 := Aside0.mk (ObS.below HOo25.out hb)
   have nOo32 := Aside0.mk (ObS.below HOo32.out hb)
   have nOo37 := Aside0.mk (ObS.below HOo37.out hb)
   have nOo59 := Aside0.mk (ObS.below HOo59.out hb)
   have nOo62 := Aside0.mk (ObS.below HOo62.out hb)
   have nBg2 := Aside0.mk (blk_below (g := g2) (o := .cells #[.slice A0 l0.length c0] 24 (0, 0)) BKg2.out hb)
   have nBg3 := Aside0.mk (blk_below (g := g3) (o := .cells #[.slice A1 l1.length c1] 24 (0, 0)) BKg3.out hb)
   have nBg6 := Aside0.mk (blk_below (g := g6) (o := .cells #[.slice Ao15 t14.length co15] 28 (0, 0)) BKg6.out hb)
   have nBg8 := Aside0.mk (blk_below (g := g8) (o := .cells #[.slice Ao19 t18.length co19] 28 (0, 0)) BKg8.out hb)
   have nBg9 := Aside0.mk (blk_below (g := g9) (o := .cells #[.slice Ao22 t21.length co22] 28 (0, 0)) BKg9.out hb)
   have nBg10 := Aside0.mk (blk_below (g := g10) (o := .cells #[.slice Ao25 t24.length co25] 28 (0, 0)) BKg10.out hb)
   have nBg15 := Aside0.mk (blk_below (g := g15) (o := .cells #[.slice none 0 0] 28 (0, 0)) BKg15.out hb)
   have nHB := Aside0.mk (below_step HB.out hb)
   have nHT := Aside0.mk (top_below HT.out hb)
   clear HB HT HOo15 HOo19 HOo22 HOo25 HOo32 HOo37 HOo59 HOo62 BKg2 BKg3 BKg6 BKg8 BKg9 BKg10 BKg15
   have HOo15 := nOo15
   have HOo19 := nOo19
   have HOo22 := nOo22
   have HOo25 := nOo25
   have HOo32 := nOo32
   have HOo37 := nOo37
   have HOo59 := nOo59
   have HOo62 := nOo62
   have BKg2 := nBg2
   have BKg3 := nBg3
   have BKg6 := nBg6
   have BKg8 := nBg8
   have BKg9 := nBg9
   have BKg10 := nBg10
   have BKg15 := nBg15
   have HB := nHB
   have HT := nHT
   clear nHB nHT nOo15 nOo19 nOo22 nOo25 nOo32 nOo37 nOo59 nOo62 nBg2 nBg3 nBg6 nBg8 nBg9 nBg10 nBg15
   have HNo65 := Aside0.mk hno65.1
   clear HT
   have HT := Aside0.mk hno65.2.1
   have HOo65 := Aside0.mk hno65.2.2
   clear hno65 ho0
   obtain ⟨Ao65, co65, eeo65⟩ := HOo65.out.slice
   subst eeo65
   (try clear hb)
   (try clear hnd)
   refine hK.out _ _ ⟨(blk_cell BKg2.out 0).trans rfl, (blk_cell BKg3.out 0).trans rfl⟩ (fun hHeld => ?_)
   clear hK K
   refine norm_ (a' := ?_) ?_ ?_
   rotate_left
   next =>
    show Act.put _ (some 99) _ = _
    simp only [Act.put, yay, yby, ycy, i64_w, i32_w]
    rfl
   refine pure_ (i := 5) (N := some 94) (v := ?_) (a' := ?_) #[true, true, true, true, true, true, false, false, true, false, false] rfl rfl (by kernel_rfl) (fun _ _ _ h => h) (Or.inl ⟨by rfl, ?_⟩) ?_ ?_
   rotate_left
   next =>
    intro w'
    go_simp
    with_reducible rfl
   rotate_left
   next =>
    simp only [Act.put, yay, yby, ycy, i64_w, i32_w]
    rfl
   refine pure_ (i := 6) (N := some 100) (v := ?_) (a' := ?_) #[true, true, true, true, true, true, true, false, true, false, false] rfl rfl (by kernel_rfl) (fun _ _ _ h => h) (Or.inl ⟨by rfl, ?_⟩) ?_ ?_
   rotate_left
   next =>
    intro w'
    go_simp
    with_reducible rfl
   rotate_left
   next =>
    simp only [Act.put, yay, yby, ycy, i64_w, i32_w]
    rfl
   refine pure_ (i := 7) (N := some 101) (v := ?_) (a' := ?_) #[true, true, true, true, true, true, true, true, true, false, false] rfl rfl (by kernel_rfl) (fun _ _ _ h => h) (Or.inl ⟨by rfl, ?_⟩) ?_ ?_
   rotate_left
   next =>
    intro w'
    go_simp
    with_reducible rfl
   rotate_left
   next =>
    simp only [Act.put, yay, yby, ycy, i64_w, i32_w]
    rfl
   have hc_ := hcont (Ao59, co59, Ao62, co62, Ao65, co65, g15) w48 ⟨loo65, hio65, w48.heap.size, (by (try dsimp only); have := HNg2.out; have := HNg3.out; have := HNo15.out; have := HNg6.out; have := HNtg6.out; have := HNo19.out; have := HNg8.out; have := HNo22.out; have := HNg9.out; have := HNo25.out; have := HNg10.out; have := HNo32.out; have := HNo37.out; have := HNg15.out; have := HNo59.out; have := HNo62.out; have := HNo65.out; have := HT.out; omega), (by (try dsimp only); have := HNg2.out; have := HNg3.out; have := HNo15.out; have := HNg6.out; have := HNtg6.out; have := HNo19.out; have := HNg8.out; have := HNo22.out; have := HNg9.out; have := HNo25.out; have := HNg10.out; have := HNo32.out; have := HNo37.out; have := HNg15.out; have := HNo59.out; have := HNo62.out; have := HNo65.out; have := HT.out; omega), (by (try dsimp only); have := HNg2.out; have := HNg3.out; have := HNo15.out; have := HNg6.out; have := HNtg6.out; have := HNo19.out; have := HNg8.out; have := HNo22.out; have := HNg9.out; have := HNo25.out; have := HNg10.out; have := HNo32.out; have := HNo37.out; have := HNg15.out; have := HNo59.out; have := HNo62.out; have := HNo65.out; have := HT.out; omega), yoy _, HOo65.out, HOo15.out, HOo19.out, HOo22.out, HOo25.out, HOo32.out, HOo37.out, BKg2.out, BKg3.out, BKg6.out, BKg8.out, BKg9.out, BKg10.out, BKg15.out, HB.out⟩
   exact norm_ (by simp only [putAll, Act.put, yay, yby, ycy, i64_w, i32_w] <;> rfl) hc_
 clear hHeld HB HT HOo15 HOo19 HOo22 HOo25 HOo32 HOo37 BKg2 BKg3 BKg6 BKg8 BKg9 BKg10
 rintro ⟨Ao59, co59, Ao62, co62, Ao65, co65, g15⟩ w64 hF_
 have hF2_ : ∃ loo65 hio65 tp : Nat, (hio37 ≤ loo65 ∧ loo65 ≤ hio65) ∧ (hio37 ≤ g15 ∧ (g15 < loo65 ∨ hio65 ≤ g15)) ∧ (g15 + 1 ≤ tp ∧ hio65 ≤ tp) ∧ tp ≤ w64.heap.size ∧ ObS (Kd.slice 74 kFace) 75 w.heap.size w64 loo65 hio65 (.slice Ao65 t64.length co65) t64 ∧ ObS (Kd.slice 74 kFace) 75 w.heap.size w64 loo15 hio15 (.slice Ao15 t14.length co15) t14 ∧ ObS (Kd.slice 74 kFace) 75 w.heap.size w64 loo19 hio19 (.slice Ao19 t18.length co19) y42 ∧ ObS (Kd.slice 74 kFace) 75 w.heap.size w64 loo22 hio22 (.slice Ao22 t21.length co22) y45 ∧ ObS (Kd.slice 74 kFace) 75 w.heap.size w64 loo25 hio25 (.slice Ao25 t24.length co25) y52 ∧ ObS (Kd.slice 74 kFace) 75 w.heap.size w64 loo32 hio32 (.slice Ao32 t31.length co32) t31 ∧ ObS (Kd.slice 74 kFace) 75 w.heap.size w64 loo37 hio37 (.slice Ao37 t36.length co37) t36 ∧ w64.heap[g2]? = some (.cells #[.slice A0 l0.length c0] 24 (0, 0)) ∧ w64.heap[g3]? = some (.cells #[.slice A1 l1.length c1] 24 (0, 0)) ∧ w64.heap[g6]? = some (.cells #[.slice Ao15 t14.length co15] 28 (0, 0)) ∧ w64.heap[g8]? = some (.cells #[.slice Ao19 t18.length co19] 28 (0, 0)) ∧ w64.heap[g9]? = some (.cells #[.slice Ao22 t21.length co22] 28 (0, 0)) ∧ w64.heap[g10]? = some (.cells #[.slice Ao25 t24.length co25] 28 (0, 0)) ∧ w64.heap[g15]? = some (.cells #[.slice none 0 0] 28 (0, 0)) ∧ Below w.heap.size w w64 := hF_
 clear hF_
 obtain ⟨loo65, hio65, tpg15, n1_, n2_, n3_, n4_, hj0_, hj1_, hj2_, hj3_, hj4_, hj5_, hj6_, hj7_, hj8_, hj9_, hj10_, hj11_, hj12_, hj13_, hj14_⟩ := hF2_
 have HNo65 := Aside0.mk n1_
 have HNg15 := Aside0.mk n2_
 have HNtg15 := Aside0.mk n3_
 have HT := Aside0.mk n4_
 have HOo65 := Aside0.mk hj0_
 have HOo15 := Aside0.mk hj1_
 have HOo19 := Aside0.mk hj2_
 have HOo22 := Aside0.mk hj3_
 have HOo25 := Aside0.mk hj4_
 have HOo32 := Aside0.mk hj5_
 have HOo37 := Aside0.mk hj6_
 have BKg2 := Aside0.mk hj7_
 have BKg3 := Aside0.mk hj8_
 have BKg6 := Aside0.mk hj9_
 have BKg8 := Aside0.mk hj10_
 have BKg9 := Aside0.mk hj11_
 have BKg10 := Aside0.mk hj12_
 have BKg15 := Aside0.mk hj13_
 have HB := Aside0.mk hj14_
 clear n1_ n2_ n3_ n4_ hj0_ hj1_ hj2_ hj3_ hj4_ hj5_ hj6_ hj7_ hj8_ hj9_ hj10_ hj11_ hj12_ hj13_ hj14_
 have hnbg15_g2 : g15 ≠ g2 := (by have := HNg2.out; have := HNg3.out; have := HNo15.out; have := HNg6.out; have := HNtg6.out; have := HNo19.out; have := HNg8.out; have := HNo22.out; have := HNg9.out; have := HNo25.out; have := HNg10.out; have := HNo32.out; have := HNo37.out; have := HNo65.out; have := HNg15.out; have := HNtg15.out; omega)
 have hnbg2_g15 : g2 ≠ g15 := (by have := HNg2.out; have := HNg3.out; have := HNo15.out; have := HNg6.out; have := HNtg6.out; have := HNo19.out; have := HNg8.out; have := HNo22.out; have := HNg9.out; have := HNo25.out; have := HNg10.out; have := HNo32.out; have := HNo37.out; have := HNo65.out; have := HNg15.out; have := HNtg15.out; omega)
 have hnbg15_g3 : g15 ≠ g3 := (by have := HNg2.out; have := HNg3.out; have := HNo15.out; have := HNg6.out; have := HNtg6.out; have := HNo19.out; have := HNg8.out; have := HNo22.out; have := HNg9.out; have := HNo25.out; have := HNg10.out; have := HNo32.out; have := HNo37.out; have := HNo65.out; have := HNg15.out; have := HNtg15.out; omega)
 have hnbg3_g15 : g3 ≠ g15 := (by have := HNg2.out; have := HNg3.out; have := HNo15.out; have := HNg6.out; have := HNtg6.out; have := HNo19.out; have := HNg8.out; have := HNo22.out; have := HNg9.out; have := HNo25.out; have := HNg10.out; have := HNo32.out; have := HNo37.out; have := HNo65.out; have := HNg15.out; have := HNtg15.out; omega)
 have hnbg15_g6 : g15 ≠ g6 := (by have := HNg2.out; have := HNg3.out; have := HNo15.out; have := HNg6.out; have := HNtg6.out; have := HNo19.out; have := HNg8.out; have := HNo22.out; have := HNg9.out; have := HNo25.out; have := HNg10.out; have := HNo32.out; have := HNo37.out; have := HNo65.out; have := HNg15.out; have := HNtg15.out; omega)
 have hnbg6_g15 : g6 ≠ g15 := (by have := HNg2.out; have := HNg3.out; have := HNo15.out; have := HNg6.out; have := HNtg6.out; have := HNo19.out; have := HNg8.out; have := HNo22.out; have := HNg9.out; have := HNo25.out; have := HNg10.out; have := HNo32.out; have := HNo37.out; have := HNo65.out; have := HNg15.out; have := HNtg15.out; omega)
 have hnbg15_g8 : g15 ≠ g8 := (by have := HNg2.out; have := HNg3.out; have := HNo15.out; have := HNg6.out; have := HNtg6.out; have := HNo19.out; have := HNg8.out; have := HNo22.out; have := HNg9.out; have := HNo25.out; have := HNg10.out; have := HNo32.out; have := HNo37.out; have := HNo65.out; have := HNg15.out; have := HNtg15.out; omega)
 have hnbg8_g15 : g8 ≠ g15 := (by have := HNg2.out; have := HNg3.out; have := HNo15.out; have := HNg6.out; have := HNtg6.out; have := HNo19.out; have := HNg8.out; have := HNo22.out; have := HNg9.out; have := HNo25.out; have := HNg10.out; have := HNo32.out; have := HNo37.out; have := HNo65.out; have := HNg15.out; have := HNtg15.out; omega)
 have hnbg15_g9 : g15 ≠ g9 := (by have := HNg2.out; have := HNg3.out; have := HNo15.out; have := HNg6.out; have := HNtg6.out; have := HNo19.out; have := HNg8.out; have := HNo22.out; have := HNg9.out; have := HNo25.out; have := HNg10.out; have := HNo32.out; have := HNo37.out; have := HNo65.out; have := HNg15.out; have := HNtg15.out; omega)
 have hnbg9_g15 : g9 ≠ g15 := (by have := HNg2.out; have := HNg3.out; have := HNo15.out; have := HNg6.out; have := HNtg6.out; have := HNo19.out; have := HNg8.out; have := HNo22.out; have := HNg9.out; have := HNo25.out; have := HNg10.out; have := HNo32.out; have := HNo37.out; have := HNo65.out; have := HNg15.out; have := HNtg15.out; omega)
 have hnbg15_g10 : g15 ≠ g10 := (by have := HNg2.out; have := HNg3.out; have := HNo15.out; have := HNg6.out; have := HNtg6.out; have := HNo19.out; have := HNg8.out; have := HNo22.out; have := HNg9.out; have := HNo25.out; have := HNg10.out; have := HNo32.out; have := HNo37.out; have := HNo65.out; have := HNg15.out; have := HNtg15.out; omega)
 have hnbg10_g15 : g10 ≠ g15 := (by have := HNg2.out; have := HNg3.out; have := HNo15.out; have := HNg6.out; have := HNtg6.out; have := HNo19.out; have := HNg8.out; have := HNo22.out; have := HNg9.out; have := HNo25.out; have := HNg10.out; have := HNo32.out; have := HNo37.out; have := HNo65.out; have := HNg15.out; have := HNtg15.out; omega)
 have hczg2 : w64.cell? ⟨g2, 0, none⟩ = some (.slice A0 l0.length c0) := (blk_cell BKg2.out 0).trans rfl
 have hfzg2 := blk_frozen BKg2.out 0
 have hczg3 : w64.cell? ⟨g3, 0, none⟩ = some (.slice A1 l1.length c1) := (blk_cell BKg3.out 0).trans rfl
 have hfzg3 := blk_frozen BKg3.out 0
 have hczg6 : w64.cell? ⟨g6, 0, none⟩ = some (.slice Ao15 t14.length co15) := (blk_cell BKg6.out 0).trans rfl
 have hfzg6 := blk_frozen BKg6.out 0
 have hczg8 : w64.cell? ⟨g8, 0, none⟩ = some (.slice Ao19 t18.length co19) := (blk_cell BKg8.out 0).trans rfl
 have hfzg8 := blk_frozen BKg8.out 0
 have hczg9 : w64.cell? ⟨g9, 0, none⟩ = some (.slice Ao22 t21.length co22) := (blk_cell BKg9.out 0).trans rfl
 have hfzg9 := blk_frozen BKg9.out 0
 have hczg10 : w64.cell? ⟨g10, 0, none⟩ = some (.slice Ao25 t24.length co25) := (blk_cell BKg10.out 0).trans rfl
 have hfzg10 := blk_frozen BKg10.out 0
 have hczg15 : w64.cell? ⟨g15, 0, none⟩ = some (.slice none 0 0) := (blk_cell BKg15.out 0).trans rfl
 have hfzg15 := blk_frozen BKg15.out 0
 refine norm_ (a' := ?_) ?_ ?_
 rotate_left
 next =>
  simp only [putAll, Act.put, yay, yby, ycy, i64_w, i32_w]
  rfl
 refine last_ (i := 9) (N := none) #[true, true, true, true, true, true, true, true, true, true, false] rfl rfl (by kernel_rfl) (by decide) (fun K hK => ?_)
 refine skip_ (w1 := ?_) (by rfl) rfl ?_ ?_
 rotate_left
 next =>
  go_simp
  rfl
 refine hK.out _ _ ?_
 clear hK K
 refine pure_ (i := 10) (N := some 16) (v := ?_) (a' := ?_) #[true, true, true, true, true, true, true, true, true, true, true] rfl rfl (by kernel_rfl) (fun _ _ _ h => h) (Or.inl ⟨by rfl, ?_⟩) ?_ ?_
 rotate_left
 next =>
  intro w'
  go_simp
  with_reducible rfl
 rotate_left
 next =>
  simp only [Act.put, yay, yby, ycy, i64_w, i32_w]
  rfl
 refine done_ (by kernel_rfl) ?_
 try go_wp2_with (first | ((with_reducible refine gate_callee (f := 19) rfl ?_); refine goesL_ (some 104) rfl rfl Try.func19 (by kernel_rfl) rfl #[.agg #[.slice Ao65 t64.length co65], .agg #[.slice Ao15 t14.length co15]] rfl (by (try simp only [yiy, yjy, yky]); first | done | rfl | (simp only [yly, ymy]; rfl)) ?_; (with_reducible refine (laws_eqTriangulation.calls k _ _ t64 _ _ t14 true _ ?side1 ?side2 ?side3 ?side4 H67.out).mono ?_); (case side1 => exact (ObS.reads (ObS.far (g := g15) (i := 0) HOo65.out (by have := HNg2.out; have := HNg3.out; have := HNo15.out; have := HNg6.out; have := HNtg6.out; have := HNo19.out; have := HNg8.out; have := HNo22.out; have := HNg9.out; have := HNo25.out; have := HNg10.out; have := HNo32.out; have := HNo37.out; have := HNo65.out; have := HNg15.out; have := HNtg15.out; omega) _)).2.2); (case side2 => exact ObS.room HOo65.out); (case side3 => exact (ObS.reads (ObS.far (g := g15) (i := 0) HOo15.out (by have := HNg2.out; have := HNg3.out; have := HNo15.out; have := HNg6.out; have := HNtg6.out; have := HNo19.out; have := HNg8.out; have := HNo22.out; have := HNg9.out; have := HNo25.out; have := HNg10.out; have := HNo32.out; have := HNo37.out; have := HNo65.out; have := HNg15.out; have := HNtg15.out; omega) _)).2.2); (case side4 => exact ObS.room HOo15.out); rintro e w65 ⟨rfl, hb⟩; refine ⟨_, rfl, ?_⟩; (try clear hczg2 hfzg2 hczg3 hfzg3 hczg6 hfzg6 hczg8 hfzg8 hczg9 hfzg9 hczg10 hfzg10 hczg15 hfzg15); have nOo15 := Aside0.mk (ObS.below (ObS.far (g := g15) (i := 0) HOo15.out (by have := HNg2.out; have := HNg3.out; have := HNo15.out; have := HNg6.out; have := HNtg6.out; have := HNo19.out; have := HNg8.out; have := HNo22.out; have := HNg9.out; have := HNo25.out; have := HNg10.out; have := HNo32.out; have := HNo37.out; have := HNo65.out; have := HNg15.out; have := HNtg15.out; omega) _) hb); have nOo19 := Aside0.mk (ObS.below (ObS.far (g := g15) (i := 0) HOo19.out (by have := HNg2.out; have := HNg3.out; have := HNo15.out; have := HNg6.out; have := HNtg6.out; have := HNo19.out; have := HNg8.out; have := HNo22.out; have := HNg9.out; have := HNo25.out; have := HNg10.out; have := HNo32.out; have := HNo37.out; have := HNo65.out; have := HNg15.out; have := HNtg15.out; omega) _) hb); have nOo22 := Aside0.mk (ObS.below (ObS.far (g := g15) (i := 0) HOo22.out (by have := HNg2.out; have := HNg3.out; have := HNo15.out; have := HNg6.out; have := HNtg6.out; have := HNo19.out; have := HNg8.out; have := HNo22.out; have := HNg9.out; have := HNo25.out; have := HNg10.out; have := HNo32.out; have := HNo37.out; have := HNo65.out; have := HNg15.out; have := HNtg15.out; omega) _) hb); have nOo25 := Aside0.mk (ObS.below (ObS.far (g := g15) (i := 0) HOo25.out (by have := HNg2.out; have := HNg3.out; have := HNo15.out; have := HNg6.out; have := HNtg6.out; have := HNo19.out; have := HNg8.out; have := HNo22.out; have := HNg9.out; have := HNo25.out; have := HNg10.out; have := HNo32.out; have := HNo37.out; have := HNo65.out; have := HNg15.out; have := HNtg15.out; omega) _) hb); have nOo32 := Aside0.mk (ObS.below (ObS.far (g := g15) (i := 0) HOo32.out (by have := HNg2.out; have := HNg3.out; have := HNo15.out; have := HNg6.out; have := HNtg6.out; have := HNo19.out; have := HNg8.out; have := HNo22.out; have := HNg9.out; have := HNo25.out; have := HNg10.out; have := HNo32.out; have := HNo37.out; have := HNo65.out; have := HNg15.out; have := HNtg15.out; omega) _) hb); have nOo37 := Aside0.mk (ObS.below (ObS.far (g := g15) (i := 0) HOo37.out (by have := HNg2.out; have := HNg3.out; have := HNo15.out; have := HNg6.out; have := HNtg6.out; have := HNo19.out; have := HNg8.out; have := HNo22.out; have := HNg9.out; have := HNo25.out; have := HNg10.out; have := HNo32.out; have := HNo37.out; have := HNo65.out; have := HNg15.out; have := HNtg15.out; omega) _) hb); have nOo65 := Aside0.mk (ObS.below (ObS.far (g := g15) (i := 0) HOo65.out (by have := HNg2.out; have := HNg3.out; have := HNo15.out; have := HNg6.out; have := HNtg6.out; have := HNo19.out; have := HNg8.out; have := HNo22.out; have := HNg9.out; have := HNo25.out; have := HNg10.out; have := HNo32.out; have := HNo37.out; have := HNo65.out; have := HNg15.out; have := HNtg15.out; omega) _) hb); have nBg2 := Aside0.mk (blk_below (g := g2) (o := .cells #[.slice A0 l0.length c0] 24 (0, 0)) (blk_far (p := ⟨g15, 0, none⟩) BKg2.out (show g2 ≠ g15 from (by have := HNg2.out; have := HNg3.out; have := HNo15.out; have := HNg6.out; have := HNtg6.out; have := HNo19.out; have := HNg8.out; have := HNo22.out; have := HNg9.out; have := HNo25.out; have := HNg10.out; have := HNo32.out; have := HNo37.out; have := HNo65.out; have := HNg15.out; have := HNtg15.out; omega)) _) hb); have nBg3 := Aside0.mk (blk_below (g := g3) (o := .cells #[.slice A1 l1.length c1] 24 (0, 0)) (blk_far (p := ⟨g15, 0, none⟩) BKg3.out (show g3 ≠ g15 from (by have := HNg2.out; have := HNg3.out; have := HNo15.out; have := HNg6.out; have := HNtg6.out; have := HNo19.out; have := HNg8.out; have := HNo22.out; have := HNg9.out; have := HNo25.out; have := HNg10.out; have := HNo32.out; have := HNo37.out; have := HNo65.out; have := HNg15.out; have := HNtg15.out; omega)) _) hb); have nBg6 := Aside0.mk (blk_below (g := g6) (o := .cells #[.slice Ao15 t14.length co15] 28 (0, 0)) (blk_far (p := ⟨g15, 0, none⟩) BKg6.out (show g6 ≠ g15 from (by have := HNg2.out; have := HNg3.out; have := HNo15.out; have := HNg6.out; have := HNtg6.out; have := HNo19.out; have := HNg8.out; have := HNo22.out; have := HNg9.out; have := HNo25.out; have := HNg10.out; have := HNo32.out; have := HNo37.out; have := HNo65.out; have := HNg15.out; have := HNtg15.out; omega)) _) hb); have nBg8 := Aside0.mk (blk_below (g := g8) (o := .cells #[.slice Ao19 t18.length co19] 28 (0, 0)) (blk_far (p := ⟨g15, 0, none⟩) BKg8.out (show g8 ≠ g15 from (by have := HNg2.out; have := HNg3.out; have := HNo15.out; have := HNg6.out; have := HNtg6.out; have := HNo19.out; have := HNg8.out; have := HNo22.out; have := HNg9.out; have := HNo25.out; have := HNg10.out; have := HNo32.out; have := HNo37.out; have := HNo65.out; have := HNg15.out; have := HNtg15.out; omega)) _) hb); have nBg9 := Aside0.mk (blk_below (g := g9) (o := .cells #[.slice Ao22 t21.length co22] 28 (0, 0)) (blk_far (p := ⟨g15, 0, none⟩) BKg9.out (show g9 ≠ g15 from (by have := HNg2.out; have := HNg3.out; have := HNo15.out; have := HNg6.out; have := HNtg6.out; have := HNo19.out; have := HNg8.out; have := HNo22.out; have := HNg9.out; have := HNo25.out; have := HNg10.out; have := HNo32.out; have := HNo37.out; have := HNo65.out; have := HNg15.out; have := HNtg15.out; omega)) _) hb); have nBg10 := Aside0.mk (blk_below (g := g10) (o := .cells #[.slice Ao25 t24.length co25] 28 (0, 0)) (blk_far (p := ⟨g15, 0, none⟩) BKg10.out (show g10 ≠ g15 from (by have := HNg2.out; have := HNg3.out; have := HNo15.out; have := HNg6.out; have := HNtg6.out; have := HNo19.out; have := HNg8.out; have := HNo22.out; have := HNg9.out; have := HNo25.out; have := HNg10.out; have := HNo32.out; have := HNo37.out; have := HNo65.out; have := HNg15.out; have := HNtg15.out; omega)) _) hb); have nBg15 := Aside0.mk (blk_below (g := g15) (o := .cells #[.slice Ao65 t64.length co65] 28 (0, 0)) (blk_put (cs := #[.slice none 0 0]) BKg15.out 0 _ rfl) hb); have nHB := Aside0.mk (below_step (below_set HB.out (show w.heap.size ≤ g15 from (by have := HNg2.out; have := HNg3.out; have := HNo15.out; have := HNg6.out; have := HNtg6.out; have := HNo19.out; have := HNg8.out; have := HNo22.out; have := HNg9.out; have := HNo25.out; have := HNg10.out; have := HNo32.out; have := HNo37.out; have := HNo65.out; have := HNg15.out; have := HNtg15.out; omega))) hb); have nHT := Aside0.mk (top_below (top_far HT.out) hb); clear HB HT HOo15 HOo19 HOo22 HOo25 HOo32 HOo37 HOo65 BKg2 BKg3 BKg6 BKg8 BKg9 BKg10 BKg15; have HOo15 := nOo15; have HOo19 := nOo19; have HOo22 := nOo22; have HOo25 := nOo25; have HOo32 := nOo32; have HOo37 := nOo37; have HOo65 := nOo65; have BKg2 := nBg2; have BKg3 := nBg3; have BKg6 := nBg6; have BKg8 := nBg8; have BKg9 := nBg9; have BKg10 := nBg10; have BKg15 := nBg15; have HB := nHB; have HT := nHT; clear nHB nHT nOo15 nOo19 nOo22 nOo25 nOo32 nOo37 nOo65 nBg2 nBg3 nBg6 nBg8 nBg9 nBg10 nBg15; (try clear hb); (try clear hnd); have hczg2 : w65.cell? ⟨g2, 0, none⟩ = some (.slice A0 l0.length c0) := (blk_cell BKg2.out 0).trans rfl; have hfzg2 := blk_frozen BKg2.out 0; have hczg3 : w65.cell? ⟨g3, 0, none⟩ = some (.slice A1 l1.length c1) := (blk_cell BKg3.out 0).trans rfl; have hfzg3 := blk_frozen BKg3.out 0; have hczg6 : w65.cell? ⟨g6, 0, none⟩ = some (.slice Ao15 t14.length co15) := (blk_cell BKg6.out 0).trans rfl; have hfzg6 := blk_frozen BKg6.out 0; have hczg8 : w65.cell? ⟨g8, 0, none⟩ = some (.slice Ao19 t18.length co19) := (blk_cell BKg8.out 0).trans rfl; have hfzg8 := blk_frozen BKg8.out 0; have hczg9 : w65.cell? ⟨g9, 0, none⟩ = some (.slice Ao22 t21.length co22) := (blk_cell BKg9.out 0).trans rfl; have hfzg9 := blk_frozen BKg9.out 0; have hczg10 : w65.cell? ⟨g10, 0, none⟩ = some (.slice Ao25 t24.length co25) := (blk_cell BKg10.out 0).trans rfl; have hfzg10 := blk_frozen BKg10.out 0; have hczg15 : w65.cell? ⟨g15, 0, none⟩ = some (.slice Ao65 t64.length co65) := (blk_cell BKg15.out 0).trans rfl; have hfzg15 := blk_frozen BKg15.out 0) | ((with_reducible refine gate_callee (f := 21) rfl ?_); refine goesL_ (some 113) rfl rfl Try.func21 (by kernel_rfl) rfl #[.agg #[.slice Ao25 y52.length co25], .int .i64 1] rfl (by (try simp only [yiy, yjy, yky]); first | done | (rw [show y52.length = t24.length from (ObS.reads HOo25.out).1.symm] <;> rfl) | rfl | (simp only [yly, ymy]; rfl)) ?_; (with_reducible refine (laws_heldTriangulation.calls k _ _ y52 1 t71 _ ?side1 ?side2 H70.out).mono ?_); (case side1 => exact (ObS.reads HOo25.out).2.2); (case side2 => exact ObS.room HOo25.out); rintro e w66 ⟨rfl, hb⟩; refine ⟨_, rfl, ?_⟩; (try clear hczg2 hfzg2 hczg3 hfzg3 hczg6 hfzg6 hczg8 hfzg8 hczg9 hfzg9 hczg10 hfzg10 hczg15 hfzg15); have nOo15 := Aside0.mk (ObS.below HOo15.out hb); have nOo19 := Aside0.mk (ObS.below HOo19.out hb); have nOo22 := Aside0.mk (ObS.below HOo22.out hb); have nOo25 := Aside0.mk (ObS.below HOo25.out hb); have nOo32 := Aside0.mk (ObS.below HOo32.out hb); have nOo37 := Aside0.mk (ObS.below HOo37.out hb); have nOo65 := Aside0.mk (ObS.below HOo65.out hb); have nBg2 := Aside0.mk (blk_below (g := g2) (o := .cells #[.slice A0 l0.length c0] 24 (0, 0)) BKg2.out hb); have nBg3 := Aside0.mk (blk_below (g := g3) (o := .cells #[.slice A1 l1.length c1] 24 (0, 0)) BKg3.out hb); have nBg6 := Aside0.mk (blk_below (g := g6) (o := .cells #[.slice Ao15 t14.length co15] 28 (0, 0)) BKg6.out hb); have nBg8 := Aside0.mk (blk_below (g := g8) (o := .cells #[.slice Ao19 t18.length co19] 28 (0, 0)) BKg8.out hb); have nBg9 := Aside0.mk (blk_below (g := g9) (o := .cells #[.slice Ao22 t21.length co22] 28 (0, 0)) BKg9.out hb); have nBg10 := Aside0.mk (blk_below (g := g10) (o := .cells #[.slice Ao25 t24.length co25] 28 (0, 0)) BKg10.out hb); have nBg15 := Aside0.mk (blk_below (g := g15) (o := .cells #[.slice Ao65 t64.length co65] 28 (0, 0)) BKg15.out hb); have nHB := Aside0.mk (below_step HB.out hb); have nHT := Aside0.mk (top_below HT.out hb); clear HB HT HOo15 HOo19 HOo22 HOo25 HOo32 HOo37 HOo65 BKg2 BKg3 BKg6 BKg8 BKg9 BKg10 BKg15; have HOo15 := nOo15; have HOo19 := nOo19; have HOo22 := nOo22; have HOo25 := nOo25; have HOo32 := nOo32; have HOo37 := nOo37; have HOo65 := nOo65; have BKg2 := nBg2; have BKg3 := nBg3; have BKg6 := nBg6; have BKg8 := nBg8; have BKg9 := nBg9; have BKg10 := nBg10; have BKg15 := nBg15; have HB := nHB; have HT := nHT; clear nHB nHT nOo15 nOo19 nOo22 nOo25 nOo32 nOo37 nOo65 nBg2 nBg3 nBg6 nBg8 nBg9 nBg10 nBg15; (try clear hb); (try clear hnd); have hczg2 : w66.cell? ⟨g2, 0, none⟩ = some (.slice A0 l0.length c0) := (blk_cell BKg2.out 0).trans rfl; have hfzg2 := blk_frozen BKg2.out 0; have hczg3 : w66.cell? ⟨g3, 0, none⟩ = some (.slice A1 l1.length c1) := (blk_cell BKg3.out 0).trans rfl; have hfzg3 := blk_frozen BKg3.out 0; have hczg6 : w66.cell? ⟨g6, 0, none⟩ = some (.slice Ao15 t14.length co15) := (blk_cell BKg6.out 0).trans rfl; have hfzg6 := blk_frozen BKg6.out 0; have hczg8 : w66.cell? ⟨g8, 0, none⟩ = some (.slice Ao19 t18.length co19) := (blk_cell BKg8.out 0).trans rfl; have hfzg8 := blk_frozen BKg8.out 0; have hczg9 : w66.cell? ⟨g9, 0, none⟩ = some (.slice Ao22 t21.length co22) := (blk_cell BKg9.out 0).trans rfl; have hfzg9 := blk_frozen BKg9.out 0; have hczg10 : w66.cell? ⟨g10, 0, none⟩ = some (.slice Ao25 t24.length co25) := (blk_cell BKg10.out 0).trans rfl; have hfzg10 := blk_frozen BKg10.out 0; have hczg15 : w66.cell? ⟨g15, 0, none⟩ = some (.slice Ao65 t64.length co65) := (blk_cell BKg15.out 0).trans rfl; have hfzg15 := blk_frozen BKg15.out 0))
 go_ret
 exact ⟨by first | rfl | (simp <;> rfl), HB.out⟩
end Go.Proofs.Ytdgdnnjigigkcaa.P
namespace Go.Proofs.Ytdgdnnjigigkcaa.Lib
set_option linter.unusedVariables false
open Go.RowKit Go.Proofs.YtdgdnnjigigkcaaW.PrintWords
/-- A loop comes to g of its first state: at each state it ends with g, or goes on at a smaller state of the same g. -/
theorem ev_loop {σ ρ : Type} (L : Nat → σ → Option ρ) (I : σ → Prop) (m : σ → Nat) (g : σ → ρ)
    (h : ∀ s, I s → (∃ K, ∀ k, K ≤ k → L (k + 1) s = some (g s)) ∨ (∃ s' K, I s' ∧ m s' < m s ∧ g s' = g s ∧ ∀ k, K ≤ k → L (k + 1) s = L k s')) :
    ∀ s, I s → Ev (fun k => L k s) (g s) := by
  have key : ∀ (n : Nat) (s : σ), m s < n → I s → Ev (fun k => L k s) (g s) := by
    intro n
    induction n with
    | zero => intro s hs; omega
    | succ n ih =>
      intro s hs hi
      rcases h s hi with ⟨K, hK⟩ | ⟨s', K, hi', hm, hg, hK⟩
      · refine ⟨K + 1, fun k hk => ?_⟩
        obtain ⟨j, rfl⟩ : ∃ j, k = j + 1 := ⟨k - 1, by omega⟩
        exact hK j (by omega)
      · obtain ⟨K', hK'⟩ := ih s' (by omega) hi'
        refine ⟨max K K' + 1, fun k hk => ?_⟩
        obtain ⟨j, rfl⟩ : ∃ j, k = j + 1 := ⟨k - 1, by omega⟩
        show L (j + 1) s = some (g s)
        rw [hK j (by omega), ← hg]
        exact hK' j (by omega)
  intro s hi
  exact key (m s + 1) s (by omega) hi
/-- The same, where a round asks for no number of rounds. -/
theorem ev_loop0 {σ ρ : Type} (L : Nat → σ → Option ρ) (I : σ → Prop) (m : σ → Nat) (g : σ → ρ)
    (h : ∀ s, I s → (∀ k, L (k + 1) s = some (g s)) ∨ (∃ s', I s' ∧ m s' < m s ∧ g s' = g s ∧ ∀ k, L (k + 1) s = L k s')) :
    ∀ s, I s → Ev (fun k => L k s) (g s) :=
  ev_loop L I m g fun s hi => by
    rcases h s hi with h1 | ⟨s', h1, h2, h3, h4⟩
    · exact .inl ⟨0, fun k _ => h1 k⟩
    · exact .inr ⟨s', 0, h1, h2, h3, fun k _ => h4 k⟩
theorem wrap_id {x : Int} (h0 : -9223372036854775808 ≤ x) (h1 : x ≤ 9223372036854775807) : wrap64 x = x := by
  unfold wrap64; omega
theorem wrap_succ {n : Nat} (h : n ≤ 4611686018427387904) : wrap64 ((n : Int) + 1) = ((n + 1 : Nat) : Int) := by
  rw [wrap_id (by omega) (by omega)]; rfl
theorem ev_neg {α : Type} {c : Prop} [Decidable c] {f g : Nat → Option α} {r : α} (h : ¬ c) (k : Ev g r) : Ev (fun n => if c then f n else g n) r := Ev.congr (fun _ => if_neg h) k
theorem ev_pos {α : Type} {c : Prop} [Decidable c] {f g : Nat → Option α} {r : α} (h : c) (k : Ev f r) : Ev (fun n => if c then f n else g n) r := Ev.congr (fun _ => if_pos h) k
theorem ev_some {α : Type} {r r' : α} (h : r = r') : Ev (fun _ => some r) r' := h ▸ Ev.now r
theorem ev_const {α : Type} {o : Option α} {r : α} (h : o = some r) : Ev (fun _ => o) r := ⟨0, fun _ _ => h⟩
theorem ev_const' {α : Type} {g : Nat → Option α} {r : α} (h : ∀ k, g k = some r) : Ev g r := ⟨0, fun k _ => h k⟩
/-- A function whose first step takes one round. -/
theorem ev_step {α : Type} {g f : Nat → Option α} {r : α} (h : ∀ k, g (k + 1) = f k) (k : Ev f r) : Ev g r := Ev.step h k
theorem idxO_any {α : Type} {f : α → Option Bool} {p : α → Bool} : ∀ (i : Nat) (l : List α), (∀ x ∈ l, f x = some (p x)) → ∃ r, idxO f i l = some r ∧ decide (0 ≤ r) = l.any p
  | i, [], _ => ⟨-1, rfl, rfl⟩
  | i, x :: xs, h => by
    rw [idxO_cons, h x (List.mem_cons_self ..), yfy]
    cases hp : p x with
    | true => exact ⟨i, by rw [if_pos rfl], by simp [hp]⟩
    | false =>
      obtain ⟨r, h1, h2⟩ := idxO_any (i + 1) xs (fun y hy => h y (List.mem_cons_of_mem _ hy))
      exact ⟨r, by rw [if_neg (by simp)]; exact h1, by rw [h2]; simp [hp]⟩
theorem contO {α : Type} {f : α → Option Bool} {p : α → Bool} (l : List α) (h : ∀ x ∈ l, f x = some (p x)) : (idxO f 0 l).bind (fun i => some (decide (0 ≤ i))) = some (l.any p) := by
  obtain ⟨r, h1, h2⟩ := idxO_any 0 l h
  rw [h1, yfy, h2]
end Go.Proofs.Ytdgdnnjigigkcaa.Lib
namespace Go.Proofs.Ytdgdnnjigigkcaa.P
open Go.RowKit Go.Proofs.YtdgdnnjigigkcaaW.PrintWords Go.Proofs.Ytdgdnnjigigkcaa.Lib
set_option linter.unusedVariables false
theorem inRange_eq (a b c : Int) : impl_inRange.f a b c = some (decide (b ≤ a) && decide (a ≤ c)) := by
  unfold impl_inRange.f
  by_cases h : b ≤ a <;> simp [h]
theorem l07In_eq (a b c : Int) : spec_l07In.f a b c = some (decide (b ≤ a) && decide (a ≤ c)) := by
  unfold spec_l07In.f
  by_cases h : b ≤ a <;> simp [h]
theorem l06Valid_eq (a : Int) : spec_l06Valid.f a = some (decide (0 ≤ a) && decide (a ≤ 23)) := by
  unfold spec_l06Valid.f
  by_cases h : 0 ≤ a
  · rw [if_pos h]; simp [h]; omega
  · rw [if_neg h]; simp [h]
theorem isPerm_eq (a : Int) : impl_isPerm.f a = some (decide (0 ≤ a) && decide (a ≤ 23)) := by
  unfold impl_isPerm.f; rw [inRange_eq]; rfl
/-- A number that is the index of a permutation. -/
theorem fin_of {p : Int} (h0 : 0 ≤ p) (h1 : p ≤ 23) : ∃ m : Fin 24, p = (m.val : Int) := ⟨⟨p.toNat, by omega⟩, by simp; omega⟩
theorem l06Images_ev {p : Int} (h0 : 0 ≤ p) (h1 : p ≤ 23) : Ev (fun k => spec_l06Images.f k p) (permL p) := by
  obtain ⟨m, rfl⟩ := fin_of h0 h1
  have key : ∀ m : Fin 24, spec_l06Images.f 5 (m.val : Int) = some (permL (m.val : Int)) := by decide +kernel
  exact Ev.of (fun k => spec_l06Images.mono _ k) (key m)
theorem permL_len (p : Int) : (permL p).length = 4 := rfl
theorem permL_sm {p f : Int} (h0 : 0 ≤ p) (h1 : p ≤ 23) (hf0 : 0 ≤ f) (hf1 : f ≤ 3) : 0 ≤ rd (permL p) f ∧ rd (permL p) f ≤ 3 := by
  obtain ⟨a, b, c, d⟩ := permAt_sm p h0 h1
  exact rd_four_sm a b c d f hf0 hf1
theorem l06At_ev {p f : Int} (h0 : 0 ≤ p) (h1 : p ≤ 23) (hf0 : 0 ≤ f) (hf1 : f ≤ 3) : Ev (fun k => spec_l06At.f k p f) (rd (permL p) f) := by
  refine Ev.bind (l06Images_ev h0 h1) ?_
  exact ev_pos hf0 (ev_pos (by rw [permL_len]; omega) (Ev.now _))
theorem l06Back_ev {p : Int} (h0 : 0 ≤ p) (h1 : p ≤ 23) : Ev (fun k => spec_l06Back.f k p) (invP p) := by
  obtain ⟨m, rfl⟩ := fin_of h0 h1
  have key : ∀ m : Fin 24, spec_l06Back.f 40 (m.val : Int) = some (invP (m.val : Int)) := by decide +kernel
  exact Ev.of (fun k => spec_l06Back.mono _ k) (key m)
theorem target_eq {q p f : Int} (h0 : 0 ≤ p) (h1 : p ≤ 23) (hf0 : 0 ≤ f) (hf1 : f ≤ 3) : impl_Face_target.f q p f = some (rd (permL p) f) := if_pos ⟨h0, h1, hf0, hf1⟩
theorem partner_eq {q p a : Int} (h0 : 0 ≤ p) (h1 : p ≤ 23) : impl_Face_partner.f q p a = some (a, invP p) := by
  unfold impl_Face_partner.f impl_invert.f
  rw [if_pos ⟨h0, h1⟩]; rfl
abbrev Tri := List (List SFace)
/-- No list of t is longer than a million. -/
def Small (t : Tri) : Prop := t.length ≤ 1048576 ∧ ∀ r ∈ t, r.length ≤ 1048576
def SmallL (t : List (List SLawFace)) : Prop := t.length ≤ 1048576 ∧ ∀ r ∈ t, r.length ≤ 1048576
def Fits (t : List (List SLawFace)) : Prop := t.length ≤ 9223372036854775807 ∧ ∀ r ∈ t, r.length ≤ 9223372036854775807
theorem rd_LLawFace_lt (t : List (List SLawFace)) (n : Nat) (h : n < t.length) : rd_LLawFace t (n : Int) = t[n] := by simp [rd_LLawFace, h]
theorem rd_LFace_lt (t : Tri) (n : Nat) (h : n < t.length) : rd_LFace t (n : Int) = t[n] := by simp [rd_LFace, h]
theorem rd_LawFace_lt (t : List SLawFace) (n : Nat) (h : n < t.length) : rd_LawFace t (n : Int) = t[n] := by simp [rd_LawFace, h]
theorem rd_Face_lt (t : List SFace) (n : Nat) (h : n < t.length) : rd_Face t (n : Int) = t[n] := by simp [rd_Face, h]
theorem szFaceS_eq (r : List SLawFace) (a : Int) (h0 : 0 ≤ a) (h1 : a ≤ 1048576) (h : r.length ≤ 9223372036854775807) : laws_szFaceS.f r a = some (if a - r.length < 0 then -1 else a - r.length) := by
  unfold laws_szFaceS.f
  rw [wrap_id (by omega) (by omega)]
  split <;> rfl
/-- The copies of the law's values. -/
def cvF (x : SLawFace) : SFace := ⟨x.f0, x.f1⟩
def cvR (r : List SLawFace) : List SFace := r.map cvF
def cvT (t : List (List SLawFace)) : Tri := t.map cvR
theorem cvT_small {t : List (List SLawFace)} (h : SmallL t) : Small (cvT t) := by
  refine ⟨by simp [cvT]; exact h.1, fun r hr => ?_⟩
  obtain ⟨s, hs, rfl⟩ := List.mem_map.1 hr
  simp [cvR]; exact h.2 s hs
theorem map_take_set {α β : Type} (f : α → β) (l : List α) (z : β) (n : Nat) (h : n < l.length) :
    ((l.take n).map f ++ List.replicate (l.length - n) z).set n (f l[n]) = (l.take (n + 1)).map f ++ List.replicate (l.length - (n + 1)) z := by
  have e : l.length - n = (l.length - (n + 1)) + 1 := by omega
  rw [e, List.replicate_succ, List.set_append_right _ _ (by simp; omega)]
  have : n - ((l.take n).map f).length = 0 := by simp; omega
  rw [this, yby, List.take_succ_eq_append_getElem h, List.map_append, List.append_assoc]
  rfl
theorem toFaceS_ev (l : List SLawFace) (h : l.length ≤ 1048576) : Ev (fun k => laws_toFaceS.f k l) (cvR l) := by
  have hl : Ev (fun k => laws_toFaceS.l0 k l (List.replicate l.length zFace) 0) (cvR l) := by
    refine ev_loop0 (fun k (s : List SFace × Int) => laws_toFaceS.l0 k l s.1 s.2) (fun s => ∃ n : Nat, n ≤ l.length ∧ s.2 = n ∧ s.1 = (l.take n).map cvF ++ List.replicate (l.length - n) zFace) (fun s => l.length - s.2.toNat) (fun _ => cvR l) ?_ (List.replicate l.length zFace, 0) ⟨0, by omega, rfl, by simp⟩
    rintro ⟨a, i⟩ ⟨n, hn, rfl, rfl⟩
    dsimp only
    by_cases hlt : n < l.length
    · refine .inr ⟨((l.take (n + 1)).map cvF ++ List.replicate (l.length - (n + 1)) zFace, ((n + 1 : Nat) : Int)), ⟨n + 1, by omega, rfl, rfl⟩, by simp; omega, rfl, fun k => ?_⟩
      simp only [laws_toFaceS.l0, laws_toFace.f, yfy]
      rw [if_pos (by omega), if_pos (by omega), if_pos (by simp; omega), wrap_succ (by omega), Int.toNat_natCast, rd_LawFace_lt l n hlt]
      have := map_take_set cvF l zFace n hlt
      rw [← this]
      rfl
    · obtain rfl : n = l.length := by omega
      refine .inl fun k => ?_
      simp only [laws_toFaceS.l0]
      rw [if_neg (by omega)]
      simp [cvR]
  refine Ev.congr (fun k => ?_) hl
  unfold laws_toFaceS.f
  rw [if_pos (by omega), if_pos (by simp; omega), Int.toNat_natCast]
theorem toFaceSS_ev (l : List (List SLawFace)) (h : SmallL l) : Ev (fun k => laws_toFaceSS.f k l) (cvT l) := by
  have hl : Ev (fun k => laws_toFaceSS.l0 k l (List.replicate l.length []) 0) (cvT l) := by
    refine ev_loop (fun k (s : Tri × Int) => laws_toFaceSS.l0 k l s.1 s.2) (fun s => ∃ n : Nat, n ≤ l.length ∧ s.2 = n ∧ s.1 = (l.take n).map cvR ++ List.replicate (l.length - n) []) (fun s => l.length - s.2.toNat) (fun _ => cvT l) ?_ (List.replicate l.length [], 0) ⟨0, by omega, rfl, by simp⟩
    rintro ⟨a, i⟩ ⟨n, hn, rfl, rfl⟩
    dsimp only
    by_cases hlt : n < l.length
    · obtain ⟨K, hK⟩ := toFaceS_ev l[n] (h.2 _ (List.getElem_mem hlt))
      refine .inr ⟨((l.take (n + 1)).map cvR ++ List.replicate (l.length - (n + 1)) [], ((n + 1 : Nat) : Int)), K, ⟨n + 1, by omega, rfl, rfl⟩, by simp; omega, rfl, fun k hk => ?_⟩
      have e : laws_toFaceS.f k l[n] = some _ := hK k hk
      have h1 := h.1
      simp only [laws_toFaceSS.l0]
      rw [if_pos (by omega), if_pos (by omega), rd_LLawFace_lt l n hlt, e, yfy, if_pos (by simp; omega), wrap_succ (by omega), Int.toNat_natCast, map_take_set cvR l [] n hlt]
    · obtain rfl : n = l.length := by omega
      refine .inl ⟨0, fun k _ => ?_⟩
      simp only [laws_toFaceSS.l0]
      rw [if_neg (by omega)]
      simp [cvT]
  have h1 := h.1
  refine Ev.congr (fun k => ?_) hl
  unfold laws_toFaceSS.f
  rw [if_pos (by omega), if_pos (by simp; omega), Int.toNat_natCast]
theorem toTriangulation_ev (l : List (List SLawFace)) (h : SmallL l) : Ev (fun k => laws_toTriangulation.f k l) (cvT l) := Ev.bind (toFaceSS_ev l h) (Ev.now _)
theorem eqFaceS_ev (l : List SFace) (h : l.length ≤ 1048576) : Ev (fun k => laws_eqFaceS.f k l l) true := by
  have hl : Ev (fun k => laws_eqFaceS.l0 k l l 0) true := by
    refine ev_loop0 (fun k (s : Int) => laws_eqFaceS.l0 k l l s) (fun s => ∃ n : Nat, n ≤ l.length ∧ s = n) (fun s => l.length - s.toNat) (fun _ => true) ?_ 0 ⟨0, by omega, rfl⟩
    rintro i ⟨n, hn, rfl⟩
    by_cases hlt : n < l.length
    · refine .inr ⟨((n + 1 : Nat) : Int), ⟨n + 1, by omega, rfl⟩, by simp; omega, rfl, fun k => ?_⟩
      simp only [laws_eqFaceS.l0, laws_eqFace.f]
      rw [if_pos (by omega), if_pos (by omega), if_pos (by omega), if_pos trivial, if_pos trivial, yfy, if_pos rfl, wrap_succ (by omega)]
    · refine .inl fun k => ?_
      simp only [laws_eqFaceS.l0]
      rw [if_neg (by omega)]
  refine Ev.congr (fun k => ?_) hl
  unfold laws_eqFaceS.f
  rw [if_pos rfl]
theorem eqTriangulation_ev (l : Tri) (h : Small l) : Ev (fun k => laws_eqTriangulation.f k l l) true := by
  have hl : Ev (fun k => laws_eqFaceSS.l0 k l l 0) true := by
    refine ev_loop (fun k (s : Int) => laws_eqFaceSS.l0 k l l s) (fun s => ∃ n : Nat, n ≤ l.length ∧ s = n) (fun s => l.length - s.toNat) (fun _ => true) ?_ 0 ⟨0, by omega, rfl⟩
    rintro i ⟨n, hn, rfl⟩
    by_cases hlt : n < l.length
    · obtain ⟨K, hK⟩ := eqFaceS_ev l[n] (h.2 _ (List.getElem_mem hlt))
      refine .inr ⟨((n + 1 : Nat) : Int), K, ⟨n + 1, by omega, rfl⟩, by simp; omega, rfl, fun k hk => ?_⟩
      have e : laws_eqFaceS.f k l[n] l[n] = some _ := hK k hk
      have h1 := h.1
      simp only [laws_eqFaceSS.l0]
      rw [if_pos (by omega), if_pos (by omega), if_pos (by omega), rd_LFace_lt l n hlt, e, yfy, if_pos rfl, wrap_succ (by omega)]
    · refine .inl ⟨0, fun k _ => ?_⟩
      simp only [laws_eqFaceSS.l0]
      rw [if_neg (by omega)]
  have h2 : Ev (fun k => laws_eqFaceSS.f k l l) true := by
    refine Ev.congr (fun k => ?_) hl
    unfold laws_eqFaceSS.f
    rw [if_pos rfl]
  exact Ev.bind h2 (ev_pos rfl (Ev.now _))
/-- The face f of the tetrahedron a. -/
abbrev fc (t : Tri) (a f : Int) : SFace := rd_Face (rd_LFace t a) f
/-- Is a face as in a valid triangulation? -/
def goodF (t : Tri) (a f : Int) : Bool :=
  if (fc t a f).f0 = -1 then (fc t a f).f1 == 0
  else if 0 ≤ (fc t a f).f0 ∧ (fc t a f).f0 < (t.length : Int) ∧ 0 ≤ (fc t a f).f1 ∧ (fc t a f).f1 ≤ 23 then
    ((fc t (fc t a f).f0 (rd (permL (fc t a f).f1) f)).f0 == a && (fc t (fc t a f).f0 (rd (permL (fc t a f).f1) f)).f1 == invP (fc t a f).f1) && !((fc t a f).f0 == a && rd (permL (fc t a f).f1) f == f)
  else false
/-- d faces of a from f on are good. -/
def goodFs (t : Tri) (a : Int) : Int → Nat → Bool
  | _, 0 => true
  | f, d + 1 => goodF t a f && goodFs t a (f + 1) d
/-- d tetrahedra from a on are good. -/
def goodTs (t : Tri) : Int → Nat → Bool
  | _, 0 => true
  | a, d + 1 => goodFs t a 0 4 && goodTs t (a + 1) d
/-- A valid triangulation. -/
def isTri (t : Tri) : Bool := decide (t.length ≤ 8) && (t.all (fun r => decide (r.length = 4)) && goodTs t 0 t.length)
section
variable {t : Tri}
theorem row4 (h4 : ∀ r ∈ t, r.length = 4) {a : Int} (h0 : 0 ≤ a) (h1 : a < t.length) : (rd_LFace t a).length = 4 := by
  obtain ⟨n, rfl⟩ := Int.eq_ofNat_of_zero_le h0
  rw [rd_LFace_lt t n (by omega)]
  exact h4 _ (List.getElem_mem _)
theorem impl_isGood_ev (h4 : ∀ r ∈ t, r.length = 4) (hn : t.length ≤ 8) {a f : Int} (h0 : 0 ≤ a) (h1 : a < t.length) (hf0 : 0 ≤ f) (hf1 : f ≤ 3) : Ev (fun k => impl_Triangulation_isGood.f k t a f) (goodF t a f) := by
  have hr := row4 h4 h0 h1
  refine Ev.congr (fun k => by unfold impl_Triangulation_isGood.f; rw [if_pos h0, if_pos h1, if_pos hf0, if_pos (by omega)]) ?_
  change Ev (fun k => if (fc t a f).f0 = -1 then some ((fc t a f).f1 == 0) else _) (goodF t a f)
  unfold goodF
  by_cases hb : (fc t a f).f0 = -1
  · rw [if_pos hb]; exact ev_pos hb (Ev.now _)
  · refine ev_neg hb ?_
    rw [if_neg hb]
    have hix : impl_hasIndex_Simpl_Face.f t (fc t a f).f0 = some (decide (0 ≤ (fc t a f).f0) && decide ((fc t a f).f0 ≤ (t.length : Int) - 1)) := by
      unfold impl_hasIndex_Simpl_Face.f impl_size_Simpl_Face.f
      rw [yfy, wrap_id (by omega) (by omega), inRange_eq]; rfl
    have hfalse : Ev (fun k => impl_Triangulation_isGood.j0 k a f true t (fc t a f).f0 (fc t a f).f1) false := ev_step (fun k => by rw [impl_Triangulation_isGood.j0, if_pos rfl]) (Ev.now false)
    refine Ev.bind (ev_const hix) ?_
    by_cases hi : 0 ≤ (fc t a f).f0 ∧ (fc t a f).f0 < (t.length : Int)
    · refine ev_pos (by simp; omega) ?_
      refine Ev.bind (ev_const (isPerm_eq _)) ?_
      by_cases hp : 0 ≤ (fc t a f).f1 ∧ (fc t a f).f1 ≤ 23
      · rw [if_pos ⟨hi.1, hi.2, hp.1, hp.2⟩]
        have e : (!(decide (0 ≤ (fc t a f).f1) && decide ((fc t a f).f1 ≤ 23))) = false := by simp [hp]
        rw [e]
        refine ev_step (fun k => by rw [impl_Triangulation_isGood.j0, if_neg (by simp), target_eq hp.1 hp.2 hf0 hf1, yfy]) ?_
        obtain ⟨hg0, hg1⟩ := permL_sm hp.1 hp.2 hf0 hf1
        have hr2 := row4 h4 hi.1 hi.2
        refine ev_pos hi.1 (ev_pos hi.2 (ev_pos hg0 (ev_pos (by rw [hr2]; omega) ?_)))
        refine Ev.bind (ev_const (partner_eq hp.1 hp.2)) ?_
        change Ev (fun k => if ((fc t (fc t a f).f0 (rd (permL (fc t a f).f1) f)).f0 == a && (fc t (fc t a f).f0 (rd (permL (fc t a f).f1) f)).f1 == invP (fc t a f).f1) = true then _ else _) _
        generalize ((fc t (fc t a f).f0 (rd (permL (fc t a f).f1) f)).f0 == a && (fc t (fc t a f).f0 (rd (permL (fc t a f).f1) f)).f1 == invP (fc t a f).f1) = b
        cases b with
        | false => refine ev_neg (by simp) ?_; rw [Bool.false_and]; exact Ev.now false
        | true =>
          refine ev_pos rfl ?_
          rw [Bool.true_and]
          by_cases ha : (fc t a f).f0 = a
          · refine ev_pos ha (ev_some ?_)
            rw [ha]; simp [bne]
          · refine ev_neg ha (ev_some ?_)
            simp [ha]
      · rw [if_neg (by omega)]
        have e : (!(decide (0 ≤ (fc t a f).f1) && decide ((fc t a f).f1 ≤ 23))) = true := by
          rw [Bool.not_eq_true', Bool.and_eq_false_iff, decide_eq_false_iff_not, decide_eq_false_iff_not]; omega
        rw [e]
        exact hfalse
    · rw [if_neg (by omega)]
      refine ev_neg ?_ hfalse
      rw [Bool.and_eq_true, decide_eq_true_eq, decide_eq_true_eq]; omega
theorem impl_l1_ev (h4 : ∀ r ∈ t, r.length = 4) (hn : t.length ≤ 8) {a : Int} (h0 : 0 ≤ a) (h1 : a < t.length) {R : Bool} (hR : Ev (fun k => impl_isTriangulation.l0 k (t.length : Int) (a + 1) t) R) :
    ∀ (d : Nat) (f : Int), 0 ≤ f → f + d = 4 → Ev (fun k => impl_isTriangulation.l1 k a (t.length : Int) a f t) (goodFs t a f d && R)
  | 0, f, hf, he => by
    refine ev_step (fun k => by rw [impl_isTriangulation.l1, if_neg (by omega), wrap_id (by omega) (by omega)]) ?_
    rw [goodFs, Bool.true_and]; exact hR
  | d + 1, f, hf, he => by
    refine ev_step (fun k => by rw [impl_isTriangulation.l1, if_pos (by omega)]) ?_
    refine Ev.bind (impl_isGood_ev h4 hn h0 h1 hf (by omega)) ?_
    rw [goodFs]
    cases hg : goodF t a f with
    | false => exact ev_neg (by simp) (by rw [Bool.false_and, Bool.false_and]; exact Ev.now false)
    | true =>
      refine ev_pos rfl ?_
      rw [Bool.true_and]
      exact Ev.congr (fun k => by rw [wrap_id (by omega) (by omega)]) (impl_l1_ev h4 hn h0 h1 hR d (f + 1) (by omega) (by omega))
theorem impl_l0_ev (h4 : ∀ r ∈ t, r.length = 4) (hn : t.length ≤ 8) : ∀ (d : Nat) (a : Int), 0 ≤ a → a + d = t.length → Ev (fun k => impl_isTriangulation.l0 k (t.length : Int) a t) (goodTs t a d)
  | 0, a, ha, he => by
    refine ev_step (fun k => by rw [impl_isTriangulation.l0, if_neg (by omega)]) ?_
    exact Ev.now true
  | d + 1, a, ha, he => by
    refine ev_step (fun k => by rw [impl_isTriangulation.l0, if_pos (by omega)]) ?_
    rw [goodTs]
    exact impl_l1_ev h4 hn ha (by omega) (impl_l0_ev h4 hn d (a + 1) (by omega) (by omega)) 4 0 (by omega) (by omega)
theorem all4_iff : t.all (fun r => decide (r.length = 4)) = true ↔ ∀ r ∈ t, r.length = 4 := by simp
theorem contains4 (h : Small t) : slices_ContainsFunc_SSimpl_Face_at_impl_isTriangulation_1.f t = some (!(t.all fun r => decide (r.length = 4))) := by
  unfold slices_ContainsFunc_SSimpl_Face_at_impl_isTriangulation_1.f slices_IndexFunc_SSimpl_Face_at_impl_isTriangulation_1.f
  rw [contO (p := fun r => !(decide (r.length = 4))) t (fun r _ => by
    show impl_isTriangulation_1.f r = _
    unfold impl_isTriangulation_1.f
    congr 1
    by_cases h : r.length = 4
    · simp [h]
    · have : ¬ ((r.length : Int) = 4) := by omega
      simp [h, this]), List.not_all_eq_any_not]
theorem impl_isTri_ev (h : Small t) : Ev (fun k => impl_isTriangulation.f k t) (isTri t) := by
  have hfalse : Ev (fun k => impl_isTriangulation.j0 k true t) false := ev_step (fun k => by rw [impl_isTriangulation.j0, if_pos rfl]) (Ev.now false)
  unfold isTri
  by_cases h8 : t.length ≤ 8
  · refine Ev.congr (fun k => by unfold impl_isTriangulation.f; rw [if_neg (by omega), contains4 h, yfy]) ?_
    rw [ygy h8, Bool.true_and]
    cases hall : t.all (fun r => decide (r.length = 4)) with
    | false => rw [Bool.false_and]; exact hfalse
    | true =>
      rw [Bool.true_and]
      refine ev_step (fun k => by rw [impl_isTriangulation.j0, if_neg (by simp)]) ?_
      exact impl_l0_ev (all4_iff.1 hall) h8 t.length 0 (by omega) (by omega)
  · refine Ev.congr (fun k => by unfold impl_isTriangulation.f; rw [if_pos (by omega)]) ?_
    rw [yhy h8, Bool.false_and]; exact hfalse
theorem spec_l2_ev (h4 : ∀ r ∈ t, r.length = 4) (hn : t.length ≤ 8) {a : Int} (h0 : 0 ≤ a) (h1 : a < t.length) {R : Bool} (hR : Ev (fun k => spec_IsTriangulation.l1 k (a + 1) t) R) :
    ∀ (d : Nat) (f : Int), 0 ≤ f → f + d = 4 → Ev (fun k => spec_IsTriangulation.l2 k a f t) (goodFs t a f d && R)
  | 0, f, hf, he => by
    refine ev_step (fun k => by rw [spec_IsTriangulation.l2, if_neg (by omega), wrap_id (by omega) (by omega)]) ?_
    rw [goodFs, Bool.true_and]; exact hR
  | d + 1, f, hf, he => by
    have hr := row4 h4 h0 h1
    have ih : Ev (fun k => spec_IsTriangulation.l2 k a (wrap64 (f + 1)) t) (goodFs t a (f + 1) d && R) := Ev.congr (fun k => by rw [wrap_id (by omega) (by omega)]) (spec_l2_ev h4 hn h0 h1 hR d (f + 1) (by omega) (by omega))
    refine ev_step (fun k => by rw [spec_IsTriangulation.l2, if_pos (by omega), if_pos h0, if_pos h1, if_pos hf, if_pos (by omega)]) ?_
    change Ev (fun k => if (fc t a f).f0 = -1 then spec_IsTriangulation.j3 k a f ((fc t a f).f1 == 0) t (fc t a f).f0 (fc t a f).f1 else spec_IsTriangulation.j3 k a f false t (fc t a f).f0 (fc t a f).f1) _
    rw [goodFs]
    have hstop : ∀ b, Ev (fun k => spec_IsTriangulation.j4 k a f true t (fc t a f).f0 (fc t a f).f1) (false && b) := fun b => by
      rw [Bool.false_and]; exact ev_step (fun k => by rw [spec_IsTriangulation.j4, if_pos rfl]) (Ev.now false)
    have hgo : Ev (fun k => spec_IsTriangulation.j3 k a f true t (fc t a f).f0 (fc t a f).f1) (goodFs t a (f + 1) d && R) := ev_step (fun k => by rw [spec_IsTriangulation.j3, if_pos rfl]) ih
    have hrest : (¬ ((fc t a f).f0 = -1 ∧ (fc t a f).f1 = 0)) → Ev (fun k => spec_IsTriangulation.j3 k a f false t (fc t a f).f0 (fc t a f).f1) (goodF t a f && goodFs t a (f + 1) d && R) := by
      intro hnb
      refine ev_step (fun k => by rw [spec_IsTriangulation.j3, spec_l07Tets.f, if_neg (by simp), yfy, l07In_eq, yfy, wrap_id (by omega) (by omega)]) ?_
      unfold goodF
      by_cases hi : 0 ≤ (fc t a f).f0 ∧ (fc t a f).f0 < (t.length : Int)
      · refine ev_pos (by simp; omega) ?_
        refine Ev.bind (ev_const (l06Valid_eq _)) ?_
        rw [if_neg (by omega)]
        by_cases hp : 0 ≤ (fc t a f).f1 ∧ (fc t a f).f1 ≤ 23
        · rw [if_pos ⟨hi.1, hi.2, hp.1, hp.2⟩]
          have e : (!(decide (0 ≤ (fc t a f).f1) && decide ((fc t a f).f1 ≤ 23))) = false := by simp [hp]
          rw [e]
          obtain ⟨hg0, hg1⟩ := permL_sm hp.1 hp.2 hf (by omega)
          have hr2 := row4 h4 hi.1 hi.2
          refine ev_step (fun k => by rw [spec_IsTriangulation.j4, if_neg (by simp)]) ?_
          refine Ev.bind (l06At_ev hp.1 hp.2 hf (by omega)) ?_
          refine Ev.bind (l06Back_ev hp.1 hp.2) ?_
          refine ev_pos hi.1 (ev_pos hi.2 (ev_pos hg0 (ev_pos (by rw [hr2]; omega) ?_)))
          change Ev (fun k => if (!((fc t (fc t a f).f0 (rd (permL (fc t a f).f1) f)).f0 == a) || !((fc t (fc t a f).f0 (rd (permL (fc t a f).f1) f)).f1 == invP (fc t a f).f1)) = true then _ else _) _
          generalize ((fc t (fc t a f).f0 (rd (permL (fc t a f).f1) f)).f0 == a) = b1
          generalize ((fc t (fc t a f).f0 (rd (permL (fc t a f).f1) f)).f1 == invP (fc t a f).f1) = b2
          cases b1 with
          | false => exact ev_pos rfl (by rw [Bool.false_and, Bool.false_and, Bool.false_and, Bool.false_and]; exact Ev.now false)
          | true =>
            cases b2 with
            | false => exact ev_pos rfl (by rw [Bool.true_and, Bool.false_and, Bool.false_and, Bool.false_and]; exact Ev.now false)
            | true =>
              refine ev_neg (by simp) ?_
              rw [Bool.true_and, Bool.true_and]
              by_cases ha : (fc t a f).f0 = a
              · refine ev_pos ha ?_
                by_cases hg : rd (permL (fc t a f).f1) f = f
                · refine ev_pos hg ?_
                  rw [ha, hg]
                  simp
                  exact Ev.now false
                · refine ev_neg hg ?_
                  have : (rd (permL (fc t a f).f1) f == f) = false := by simp [hg]
                  rw [this, Bool.and_false, Bool.not_false, Bool.true_and]
                  exact ih
              · refine ev_neg ha ?_
                have : ((fc t a f).f0 == a) = false := by simp [ha]
                rw [this, Bool.false_and, Bool.not_false, Bool.true_and]
                exact ih
        · rw [if_neg (by omega)]
          have e : (!(decide (0 ≤ (fc t a f).f1) && decide ((fc t a f).f1 ≤ 23))) = true := by
            rw [Bool.not_eq_true', Bool.and_eq_false_iff, decide_eq_false_iff_not, decide_eq_false_iff_not]; omega
          rw [e, Bool.false_and]
          exact hstop R
      · have hg : (if (fc t a f).f0 = -1 then ((fc t a f).f1 == 0) else if 0 ≤ (fc t a f).f0 ∧ (fc t a f).f0 < (t.length : Int) ∧ 0 ≤ (fc t a f).f1 ∧ (fc t a f).f1 ≤ 23 then
            ((fc t (fc t a f).f0 (rd (permL (fc t a f).f1) f)).f0 == a && (fc t (fc t a f).f0 (rd (permL (fc t a f).f1) f)).f1 == invP (fc t a f).f1) && !((fc t a f).f0 == a && rd (permL (fc t a f).f1) f == f) else false) = false := by
          by_cases hb : (fc t a f).f0 = -1
          · rw [if_pos hb]; simp; intro h; exact hnb ⟨hb, h⟩
          · rw [if_neg hb, if_neg (by omega)]
        rw [hg, Bool.false_and]
        refine ev_neg ?_ (hstop R)
        rw [Bool.and_eq_true, decide_eq_true_eq, decide_eq_true_eq]; omega
    by_cases hb : (fc t a f).f0 = -1
    · refine ev_pos hb ?_
      by_cases h0' : (fc t a f).f1 = 0
      · have e : goodF t a f = true := by unfold goodF; rw [if_pos hb]; simp [h0']
        rw [e, Bool.true_and]
        have e2 : ((fc t a f).f1 == 0) = true := by simp [h0']
        rw [e2]; exact hgo
      · have e2 : ((fc t a f).f1 == 0) = false := by simp [h0']
        rw [e2]; exact hrest (fun h => h0' h.2)
    · exact ev_neg hb (hrest (fun h => hb h.1))
theorem spec_l1_ev (h4 : ∀ r ∈ t, r.length = 4) (hn : t.length ≤ 8) : ∀ (d : Nat) (a : Int), 0 ≤ a → a + d = t.length → Ev (fun k => spec_IsTriangulation.l1 k a t) (goodTs t a d)
  | 0, a, ha, he => by
    refine ev_step (fun k => by rw [spec_IsTriangulation.l1, spec_l07Tets.f, yfy, if_neg (by omega)]) ?_
    exact Ev.now true
  | d + 1, a, ha, he => by
    refine ev_step (fun k => by rw [spec_IsTriangulation.l1, spec_l07Tets.f, yfy, if_pos (by omega)]) ?_
    rw [goodTs]
    exact spec_l2_ev h4 hn ha (by omega) (spec_l1_ev h4 hn d (a + 1) (by omega) (by omega)) 4 0 (by omega) (by omega)
theorem spec_l0_ev (h8 : t.length ≤ 8) (d : Nat) : ∀ n : Nat, n + d = t.length → (t.all (fun r => decide (r.length = 4)) = (t.drop n).all (fun r => decide (r.length = 4))) → Ev (fun k => spec_IsTriangulation.l0 k (n : Int) t) (t.all (fun r => decide (r.length = 4)) && goodTs t 0 t.length) := by
  induction d with
  | zero =>
    intro n hn ha
    refine ev_step (fun k => by rw [spec_IsTriangulation.l0, if_neg (by omega)]) ?_
    have hall : t.all (fun r => decide (r.length = 4)) = true := by rw [ha, List.drop_eq_nil_of_le (by omega)]; rfl
    rw [hall, Bool.true_and]
    exact spec_l1_ev (all4_iff.1 hall) h8 t.length 0 (by omega) (by omega)
  | succ d ih =>
    intro n hn ha
    have hlt : n < t.length := by omega
    refine ev_step (fun k => by rw [spec_IsTriangulation.l0, if_pos (by omega), if_pos (by omega), rd_LFace_lt t n hlt]) ?_
    rw [List.drop_eq_getElem_cons hlt, List.all_cons] at ha
    by_cases h : t[n].length = 4
    · refine ev_pos (by omega) ?_
      refine Ev.congr (fun k => by rw [wrap_succ (by omega)]) (ih (n + 1) (by omega) ?_)
      rw [ha, ygy h, Bool.true_and]
    · refine ev_neg (by omega) ?_
      rw [ha, yhy h, Bool.false_and, Bool.false_and]
      exact Ev.now false
theorem spec_isTri_ev (t : Tri) : Ev (fun k => spec_IsTriangulation.f k t) (isTri t) := by
  refine Ev.congr (fun k => by unfold spec_IsTriangulation.f spec_l07Tets.f; rw [yfy]) ?_
  unfold isTri
  by_cases h8 : t.length ≤ 8
  · refine ev_neg (by omega) ?_
    rw [ygy h8, Bool.true_and]
    exact spec_l0_ev h8 t.length 0 (by omega) (by rw [List.drop_zero])
  · refine ev_pos (by omega) ?_
    rw [yhy h8, Bool.false_and]
    exact Ev.now false
end
theorem isTri_good {t : Tri} (h : isTri t = true) : t.length ≤ 8 ∧ (∀ r ∈ t, r.length = 4) ∧ goodTs t 0 t.length = true := by
  unfold isTri at h
  rw [Bool.and_eq_true, Bool.and_eq_true, decide_eq_true_eq] at h
  exact ⟨h.1, all4_iff.1 h.2.1, h.2.2⟩
theorem goodFs_at (t : Tri) (a : Int) (d : Nat) : ∀ f, goodFs t a f d = true → ∀ g, f ≤ g → g < f + d → goodF t a g = true := by
  induction d with
  | zero => intro f _ g h1 h2; omega
  | succ d ih =>
    intro f h g h1 h2
    rw [goodFs, Bool.and_eq_true] at h
    by_cases e : g = f
    · rw [e]; exact h.1
    · exact ih (f + 1) h.2 g (by omega) (by omega)
theorem goodTs_at (t : Tri) (d : Nat) : ∀ a, goodTs t a d = true → ∀ b, a ≤ b → b < a + d → ∀ g, 0 ≤ g → g ≤ 3 → goodF t b g = true := by
  induction d with
  | zero => intro a _ b h1 h2; omega
  | succ d ih =>
    intro a h b h1 h2 g hg0 hg1
    rw [goodTs, Bool.and_eq_true] at h
    by_cases e : b = a
    · rw [e]; exact goodFs_at t a 4 0 h.1 g hg0 (by omega)
    · exact ih (a + 1) h.2 b (by omega) (by omega) g hg0 hg1
/-- A face of a valid triangulation: the boundary, or glued to a face that is glued back. -/
theorem face_good {t : Tri} (h : isTri t = true) {a f : Int} (h0 : 0 ≤ a) (h1 : a < t.length) (hf0 : 0 ≤ f) (hf1 : f ≤ 3) :
    ((fc t a f).f0 = -1 ∧ (fc t a f).f1 = 0) ∨
    ((0 ≤ (fc t a f).f0 ∧ (fc t a f).f0 < (t.length : Int) ∧ 0 ≤ (fc t a f).f1 ∧ (fc t a f).f1 ≤ 23) ∧
      (fc t (fc t a f).f0 (rd (permL (fc t a f).f1) f)).f0 = a ∧ (fc t (fc t a f).f0 (rd (permL (fc t a f).f1) f)).f1 = invP (fc t a f).f1 ∧ ¬ ((fc t a f).f0 = a ∧ rd (permL (fc t a f).f1) f = f)) := by
  have hg := goodTs_at t t.length 0 (isTri_good h).2.2 a h0 (by omega) f hf0 hf1
  unfold goodF at hg
  by_cases hb : (fc t a f).f0 = -1
  · rw [if_pos hb] at hg
    exact .inl ⟨hb, by simpa using hg⟩
  · rw [if_neg hb] at hg
    by_cases hi : 0 ≤ (fc t a f).f0 ∧ (fc t a f).f0 < (t.length : Int) ∧ 0 ≤ (fc t a f).f1 ∧ (fc t a f).f1 ≤ 23
    · rw [if_pos hi, Bool.and_eq_true, Bool.and_eq_true, Bool.not_eq_true'] at hg
      refine .inr ⟨hi, eq_of_beq hg.1.1, eq_of_beq hg.1.2, fun hc => ?_⟩
      have := hg.2
      rw [Bool.and_eq_false_iff] at this
      rcases this with h2 | h2
      · exact absurd hc.1 (by simpa using h2)
      · exact absurd hc.2 (by simpa using h2)
    · rw [if_neg hi] at hg; cases hg
theorem isTri_small {t : Tri} (h : isTri t = true) : Small t := ⟨by have := (isTri_good h).1; omega, fun r hr => by have := (isTri_good h).2.1 r hr; omega⟩
theorem spec_own_ev {t : Tri} (hs : Small t) : Ev (fun k => spec_l07Own.f k t) t := by
  refine ev_loop0 (fun k (s : Int × Tri) => spec_l07Own.l0 k s.1 t s.2) (fun s => ∃ n : Nat, n ≤ t.length ∧ s.1 = n ∧ s.2 = t.take n) (fun s => t.length - s.1.toNat) (fun _ => t) ?_ (0, []) ⟨0, by omega, rfl, by simp⟩
  rintro ⟨i, acc⟩ ⟨n, hn, rfl, rfl⟩
  dsimp only
  have hl := hs.1
  by_cases hlt : n < t.length
  · have hr := hs.2 t[n] (List.getElem_mem hlt)
    refine .inr ⟨(((n + 1 : Nat) : Int), t.take (n + 1)), ⟨n + 1, by omega, rfl, rfl⟩, by simp; omega, rfl, fun k => ?_⟩
    simp only [spec_l07Own.l0]
    rw [if_pos (by omega), yfy, if_pos (by omega), rd_LFace_lt t n hlt, if_pos (by simp; omega), if_pos (by simp; omega), wrap_succ (by omega), List.nil_append, List.take_succ_eq_append_getElem hlt]
  · obtain rfl : n = t.length := by omega
    refine .inl fun k => ?_
    simp only [spec_l07Own.l0]
    rw [if_neg (by omega), List.take_length]
theorem impl_copy_ev {t : Tri} (hs : Small t) : Ev (fun k => impl_copyTriangulation.f k t) t := by
  refine ev_loop0 (fun k (s : Int × Tri) => impl_copyTriangulation.l0 k t (t.length : Int) s.1 s.2) (fun s => ∃ n : Nat, n ≤ t.length ∧ s.1 = n ∧ s.2 = t.take n) (fun s => t.length - s.1.toNat) (fun _ => t) ?_ (0, []) ⟨0, by omega, rfl, by simp⟩
  rintro ⟨i, acc⟩ ⟨n, hn, rfl, rfl⟩
  dsimp only
  have hl := hs.1
  by_cases hlt : n < t.length
  · have hr := hs.2 t[n] (List.getElem_mem hlt)
    refine .inr ⟨(((n + 1 : Nat) : Int), t.take (n + 1)), ⟨n + 1, by omega, rfl, rfl⟩, by simp; omega, rfl, fun k => ?_⟩
    simp only [impl_copyTriangulation.l0]
    rw [if_pos (by omega), if_pos (by omega), if_pos (by omega), rd_LFace_lt t n hlt, slices_Clone_Simpl_Face.f, if_pos (by omega), yfy, if_pos (by simp; omega), wrap_succ (by omega), List.take_succ_eq_append_getElem hlt]
  · obtain rfl : n = t.length := by omega
    refine .inl fun k => ?_
    simp only [impl_copyTriangulation.l0]
    rw [if_neg (by omega), List.take_length]
/-- n marked faces from a on. -/
def mkR (a : Int) : Nat → List SFace
  | 0 => []
  | n + 1 => ⟨a, a + 1⟩ :: mkR (a + 2) n
theorem mkR_length (a : Int) (n : Nat) : (mkR a n).length = n := by
  induction n generalizing a with
  | zero => rfl
  | succ n ih => simp [mkR, ih]
theorem mkR_get (a : Int) (n i : Nat) (z : SFace) (h : i < n) : (mkR a n).getD i z = ⟨a + 2 * i, a + 2 * i + 1⟩ := by
  induction n generalizing a i with
  | zero => omega
  | succ n ih =>
    cases i with
    | zero => simp [mkR]
    | succ i => simp only [mkR, List.getD_cons_succ]; rw [ih (a + 2) i (by omega)]; congr 1 <;> omega
theorem mkR_snoc (a : Int) (n : Nat) : mkR a (n + 1) = mkR a n ++ [⟨a + 2 * n, a + 2 * n + 1⟩] := by
  induction n generalizing a with
  | zero => simp [mkR]
  | succ n ih =>
    rw [mkR, ih (a + 2)]
    have e : a + 2 + 2 * (n : Int) = a + 2 * ((n + 1 : Nat) : Int) := by omega
    rw [e]; rfl
theorem mk_set (l : List SFace) (a : Int) (n : Nat) (h : n < l.length) : (mkR a n ++ l.drop n).set n ⟨a + 2 * n, a + 2 * n + 1⟩ = mkR a (n + 1) ++ l.drop (n + 1) := by
  rw [List.set_append_right _ _ (by rw [mkR_length]; exact yoy _), mkR_length, Nat.sub_self, List.drop_eq_getElem_cons h, yby, mkR_snoc, List.append_assoc]
  rfl
theorem rd_Face_set (l : List SFace) (n : Nat) (v : SFace) (h : n < l.length) : rd_Face (l.set n v) (n : Int) = v := by
  rw [rd_Face_lt _ n (by rw [List.length_set]; exact h), List.getElem_set_self]
theorem markFaceS_ev (l : List SFace) (a : Int) (h : l.length ≤ 1099511627776) (h0 : 0 ≤ a) (h1 : a ≤ 9007199254740992) : Ev (fun k => laws_markFaceS.f k l a) (a + 2 * l.length, mkR a l.length) := by
  have hl : Ev (fun k => laws_markFaceS.l0 k l a 0) (a + 2 * l.length, mkR a l.length) := by
    refine ev_loop0 (fun k (s : List SFace × Int × Int) => laws_markFaceS.l0 k s.1 s.2.1 s.2.2) (fun s => ∃ n : Nat, n ≤ l.length ∧ s.2.2 = n ∧ s.2.1 = a + 2 * n ∧ s.1 = mkR a n ++ l.drop n) (fun s => l.length - s.2.2.toNat) (fun _ => (a + 2 * l.length, mkR a l.length)) ?_ (l, a, 0) ⟨0, by omega, rfl, by simp, by simp [mkR]⟩
    rintro ⟨x, b, i⟩ ⟨n, hn, rfl, rfl, rfl⟩
    dsimp only
    have hlen : (mkR a n ++ l.drop n).length = l.length := by simp [mkR_length]; omega
    by_cases hlt : n < l.length
    · refine .inr ⟨(mkR a (n + 1) ++ l.drop (n + 1), a + 2 * ((n + 1 : Nat) : Int), ((n + 1 : Nat) : Int)), ⟨n + 1, by omega, rfl, rfl, rfl⟩, by simp; omega, rfl, fun k => ?_⟩
      simp only [laws_markFaceS.l0]
      rw [if_pos (by rw [hlen]; omega), if_pos (by omega), yfy, Int.toNat_natCast, rd_Face_set _ n _ (by rw [hlen]; exact hlt), List.set_set, wrap_id (x := a + 2 * (n : Int) + 1) (by omega) (by omega), mk_set l a n hlt, wrap_succ (by omega), wrap_id (by omega) (by omega)]
      congr 1; omega
    · obtain rfl : n = l.length := by omega
      refine .inl fun k => ?_
      simp only [laws_markFaceS.l0]
      rw [if_neg (by rw [hlen]; omega)]
      simp
  exact hl
/-- The marks of a triangulation, and their number. -/
def cntF : Tri → Nat
  | [] => 0
  | r :: rs => 2 * r.length + cntF rs
def mkT (a : Int) : Tri → Tri
  | [] => []
  | r :: rs => mkR a r.length :: mkT (a + 2 * r.length) rs
theorem cntF_le (t : Tri) (h : ∀ r ∈ t, r.length ≤ 1048576) : cntF t ≤ 2097152 * t.length := by
  induction t with
  | nil => simp [cntF]
  | cons r rs ih =>
    have h1 := h r (List.mem_cons_self ..)
    have h2 := ih (fun x hx => h x (List.mem_cons_of_mem _ hx))
    simp only [cntF, List.length_cons]; omega
theorem markGo_ev : ∀ (suf : Tri) (pre : Tri) (a : Int), (∀ r ∈ suf, r.length ≤ 1048576) → 0 ≤ a → a + cntF suf ≤ 9007199254740992 → Ev (fun k => laws_markFaceSS.go k suf.length (pre ++ suf) a pre.length) (a + cntF suf, pre ++ mkT a suf)
  | [], pre, a, _, h0, h1 => ev_const' fun k => by simp [laws_markFaceSS.go, cntF, mkT]
  | r :: rs, pre, a, hr, h0, h1 => by
    simp only [cntF] at h1
    have hm := markFaceS_ev r a (by have := hr r (List.mem_cons_self ..); omega) h0 (by omega)
    have ih := markGo_ev rs (pre ++ [mkR a r.length]) (a + 2 * r.length) (fun x hx => hr x (List.mem_cons_of_mem _ hx)) (by omega) (by omega)
    simp only [List.length_cons, laws_markFaceSS.go]
    have e0 : List.getD (pre ++ r :: rs) pre.length [] = r := by simp
    rw [e0]
    refine Ev.bind hm ?_
    dsimp only
    have e1 : (pre ++ r :: rs).set pre.length (mkR a r.length) = pre ++ [mkR a r.length] ++ rs := by
      rw [List.set_append_right _ _ (yoy _), Nat.sub_self, yby]; simp
    rw [e1]
    have e2 : pre.length + 1 = (pre ++ [mkR a r.length]).length := by simp
    rw [e2]
    have e3 : (a + ((cntF (r :: rs) : Nat) : Int), pre ++ mkT a (r :: rs)) = (a + 2 * r.length + (cntF rs : Int), pre ++ [mkR a r.length] ++ mkT (a + 2 * r.length) rs) := by
      simp only [cntF, mkT, List.append_assoc, List.singleton_append]; congr 1; omega
    rw [e3]
    exact ih
theorem markTriangulation_ev (t : Tri) (a : Int) (hs : Small t) (h0 : 0 ≤ a) (h1 : a ≤ 1048576) : Ev (fun k => laws_markTriangulation.f k t a) (a + cntF t, mkT a t) := by
  have := markGo_ev t [] a hs.2 h0 (by have := cntF_le t hs.2; have := hs.1; omega)
  rw [List.nil_append, List.nil_append] at this
  exact this
theorem heldFaceS_ev (a : Int) (m : Nat) (h : m ≤ 1099511627776) (h0 : 0 ≤ a) (h1 : a ≤ 4398046511104) : Ev (fun k => laws_heldFaceS.f k (mkR a m) a) (a + 2 * m) := by
  have hl : Ev (fun k => laws_heldFaceS.l0 k (mkR a m) a 0) (a + 2 * m) := by
    refine ev_loop0 (fun k (s : Int × Int) => laws_heldFaceS.l0 k (mkR a m) s.1 s.2) (fun s => ∃ n : Nat, n ≤ m ∧ s.2 = n ∧ s.1 = a + 2 * n) (fun s => m - s.2.toNat) (fun _ => a + 2 * m) ?_ (a, 0) ⟨0, by omega, rfl, by simp⟩
    rintro ⟨b, i⟩ ⟨n, hn, rfl, rfl⟩
    dsimp only
    by_cases hlt : n < m
    · refine .inr ⟨(a + 2 * ((n + 1 : Nat) : Int), ((n + 1 : Nat) : Int)), ⟨n + 1, by omega, rfl, rfl⟩, by simp; omega, rfl, fun k => ?_⟩
      have e : rd_Face (mkR a m) (n : Int) = ⟨a + 2 * n, a + 2 * n + 1⟩ := by unfold rd_Face; rw [Int.toNat_natCast, mkR_get a m n _ hlt]
      simp only [laws_heldFaceS.l0]
      rw [if_pos (by rw [mkR_length]; omega), if_pos (by omega), e, if_pos rfl, wrap_id (x := a + 2 * (n : Int) + 1) (by omega) (by omega), if_pos rfl, wrap_succ (by omega), wrap_id (by omega) (by omega)]
      congr 1; omega
    · obtain rfl : n = m := by omega
      refine .inl fun k => ?_
      simp only [laws_heldFaceS.l0]
      rw [if_neg (by rw [mkR_length]; omega)]
  exact hl
theorem heldSS_ev : ∀ (suf : Tri) (pre : Tri) (a : Int), (∀ r ∈ suf, r.length ≤ 1048576) → pre.length + suf.length ≤ 1048576 → 0 ≤ a → a + cntF suf ≤ 4398046511104 → Ev (fun k => laws_heldFaceSS.l0 k (pre ++ mkT a suf) a (pre.length : Int)) (a + cntF suf)
  | [], pre, a, _, hn, h0, h1 => by
    refine ev_step (f := fun _ => some a) (fun k => ?_) (ev_some (by simp [cntF]))
    rw [laws_heldFaceSS.l0, if_neg (by simp [mkT])]
  | r :: rs, pre, a, hr, hn, h0, h1 => by
    simp only [cntF, List.length_cons] at h1 hn
    have hm := heldFaceS_ev a r.length (by have := hr r (List.mem_cons_self ..); omega) h0 (by omega)
    have ih := heldSS_ev rs (pre ++ [mkR a r.length]) (a + 2 * r.length) (fun x hx => hr x (List.mem_cons_of_mem _ hx)) (by simp; omega) (by omega) (by omega)
    have e1 : pre ++ mkT a (r :: rs) = pre ++ [mkR a r.length] ++ mkT (a + 2 * r.length) rs := by simp [mkT]
    have e4 : rd_LFace (pre ++ mkT a (r :: rs)) (pre.length : Int) = mkR a r.length := by
      rw [rd_LFace_lt _ _ (by simp [mkT])]; simp [mkT]
    refine ev_step (fun k => by rw [laws_heldFaceSS.l0, if_pos (by simp [mkT]; omega), if_pos (by omega), e4]) (Ev.bind hm ?_)
    refine ev_neg (by omega) ?_
    have e2 : wrap64 ((pre.length : Int) + 1) = ((pre ++ [mkR a r.length]).length : Int) := by rw [wrap_succ (by omega)]; simp
    have e3 : (a + ((cntF (r :: rs) : Nat) : Int)) = a + 2 * r.length + (cntF rs : Int) := by simp only [cntF]; omega
    rw [e1, e3]
    exact Ev.congr (fun k => by rw [e2]) ih
theorem heldTriangulation_ev (t : Tri) (a : Int) (hs : Small t) (h0 : 0 ≤ a) (h1 : a ≤ 1048576) : Ev (fun k => laws_heldTriangulation.f k (mkT a t) a) (a + cntF t) := by
  have := heldSS_ev t [] a hs.2 (by have := hs.1; simp; omega) h0 (by have := cntF_le t hs.2; have := hs.1; omega)
  rw [List.nil_append] at this
  refine Ev.bind (g := fun k => laws_heldFaceSS.f k (mkT a t) a) this ?_
  exact ev_neg (by omega) (Ev.now _)
theorem markTriangulation_from (t : Tri) (a : Int) (hs : Small t) (h0 : 0 ≤ a) (h1 : a ≤ 4000000000000000) : Ev (fun k => laws_markTriangulation.f k t a) (a + cntF t, mkT a t) := by
  have := markGo_ev t [] a hs.2 h0 (by have := cntF_le t hs.2; have := hs.1; omega)
  rw [List.nil_append, List.nil_append] at this
  exact this
theorem un_faces {t : Tri} (h : isTri t = true) : ∀ r ∈ t, ∀ x ∈ r, -1 ≤ x.f0 ∧ x.f0 < (t.length : Int) := by
  obtain ⟨h8, h4, _⟩ := isTri_good h
  intro r hr x hx
  obtain ⟨i, hi, rfl⟩ := List.getElem_of_mem hr
  obtain ⟨j, hj, rfl⟩ := List.getElem_of_mem hx
  have hj4 := h4 _ (List.getElem_mem hi)
  have e : fc t (i : Int) (j : Int) = t[i][j] := by show rd_Face (rd_LFace t (i : Int)) (j : Int) = _; rw [rd_LFace_lt t i hi, rd_Face_lt _ j hj]
  rcases face_good h (a := (i : Int)) (f := (j : Int)) (by omega) (by omega) (by omega) (by omega) with ⟨e1, e2⟩ | ⟨e1, _⟩
  · rw [e] at e1; omega
  · rw [e] at e1; exact ⟨by have := e1.1; omega, e1.2.1⟩
def unite (a b : Tri) : Tri × Int := if isTri a = true then (if isTri b = true then (if (a.length : Int) + (b.length : Int) > 8 then ([], 3) else (a ++ b.map (List.map (unF (a.length : Int))), 0)) else ([], 1)) else ([], 1)
theorem unite_small (a b : Tri) : Small (unite a b).1 := by
  have h0 : Small ([] : Tri) := ⟨by simp, fun r hr => by cases hr⟩
  unfold unite
  by_cases h : isTri a = true
  · obtain ⟨h8, h4, _⟩ := isTri_good h
    rw [if_pos h]
    by_cases h2 : isTri b = true
    · obtain ⟨h82, h42, _⟩ := isTri_good h2
      rw [if_pos h2]
      by_cases hb : (a.length : Int) + (b.length : Int) > 8
      · rw [if_pos hb]; exact h0
      · rw [if_neg hb]
        refine ⟨by show (a ++ b.map (List.map (unF (a.length : Int)))).length ≤ _; simp; omega, fun r hr => ?_⟩
        rcases List.mem_append.1 (show r ∈ a ++ b.map (List.map (unF (a.length : Int))) from hr) with h3 | h3
        · have := h4 r h3; omega
        · obtain ⟨q, hq, rfl⟩ := List.mem_map.1 h3; rw [List.length_map]; have := h42 q hq; omega
    · rw [if_neg h2]; exact h0
  · rw [if_neg h]; exact h0
theorem unOk_of {a b : Tri} (h : isTri a = true) (h2 : isTri b = true) : unOk a b a b = true := by
  obtain ⟨h8, h4, _⟩ := isTri_good h2
  unfold unOk
  simp only [Bool.and_eq_true, decide_eq_true_eq, List.all_eq_true]
  refine ⟨fun r hr => ⟨h4 r hr, fun x hx => ?_⟩, trivial, trivial⟩
  have := un_faces h2 r hr x hx
  exact ⟨by omega, by omega⟩
theorem impl_unite_ev {a b : Tri} (hs : Small a) (hs2 : Small b) : Ev (fun k => impl_UnionTriangulations.f k a b) (unite a b) := by
  refine Ev.bind (impl_isTri_ev hs) ?_
  unfold unite
  cases h : isTri a with
  | false => exact ev_neg (by simp) (Ev.now _)
  | true =>
    obtain ⟨h8, h4, _⟩ := isTri_good h
    rw [if_pos rfl]
    refine ev_pos rfl (Ev.bind (impl_isTri_ev hs2) ?_)
    cases h2 : isTri b with
    | false => exact ev_neg (by simp) (Ev.now _)
    | true =>
      obtain ⟨h82, h42, _⟩ := isTri_good h2
      rw [if_pos rfl]
      refine ev_pos rfl (ev_pos ⟨by omega, by omega⟩ ?_)
      by_cases hb : (a.length : Int) + (b.length : Int) > 8
      · rw [if_pos hb]; exact ev_pos hb (Ev.now _)
      · rw [if_neg hb]; exact ev_neg hb (Ev.bind (impl_copy_ev (isTri_small h)) (Ev.bind (impl_copy_ev (isTri_small h2)) (ev_pos (unOk_of h h2) (Ev.now _))))
section
variable {a b : Tri}
theorem spec_uni_l1 {acc : Tri} {i : Nat} {r : List SFace} {R : Tri} (hr : r.length = 4) (hx : ∀ x ∈ r, x.f0 ≤ 8) (ha : a.length ≤ 8)
    (hR : Ev (fun k => spec_l07Union.l1 k (i : Int) (unR (a.length : Int) r 4) 4 a b acc) R) : ∀ d f : Nat, f + d = 4 → Ev (fun k => spec_l07Union.l1 k (i : Int) (unR (a.length : Int) r f) (f : Int) a b acc) R := by
  intro d
  induction d with
  | zero => intro f hf; obtain rfl : f = 4 := by omega
            exact hR
  | succ d ih =>
    intro f hf
    have hlf : f < r.length := by omega
    have ih' := ih (f + 1) (by omega)
    have hnx := unR_next (a.length : Int) r f hlf
    have hsm := unR_same (a.length : Int) r f hlf
    have eg := unR_get (a.length : Int) r f hlf
    have hx1 := hx r[f] (List.getElem_mem hlf)
    obtain ⟨x, hxe⟩ : ∃ x, r[f] = x := ⟨_, rfl⟩
    rw [hxe] at hnx hsm eg hx1
    have c1 : (f : Int) < 4 := by omega
    have c2 : (0 : Int) ≤ (f : Int) := by omega
    have c3 : (f : Int) < ((unR (a.length : Int) r f).length : Int) := by rw [unR_length]; omega
    have hw : wrap64 ((f : Int) + 1) = ((f + 1 : Nat) : Int) := wrap_succ (by omega)
    refine ev_step (fun k => by rw [spec_l07Union.l1, if_pos c1, if_pos c2, if_pos c3, eg, hw]) ?_
    by_cases h0 : x.f0 ≥ 0
    · refine ev_pos h0 (Ev.bind (a := (a.length : Int)) (ev_const (by unfold spec_l07Tets.f; rfl)) ?_)
      have hn : unR (a.length : Int) r (f + 1) = (unR (a.length : Int) r f).set f ⟨wrap64 (x.f0 + (a.length : Int)), x.f1⟩ := by
        rw [hnx]; unfold unF; rw [if_neg (by omega), wrap_id (by omega) (by omega)]
      rw [Int.toNat_natCast, ← hn]; exact ih'
    · refine ev_neg h0 ?_
      rw [← hsm (by unfold unF; rw [if_pos (by omega)])]; exact ih'
theorem unR_four {n : Int} {r : List SFace} (hr : r.length = 4) : unR n r 4 = r.map (unF n) := by
  unfold unR
  rw [List.take_of_length_le (by omega), List.drop_eq_nil_of_le (by omega), List.append_nil]
theorem spec_uni_l0 (h4 : ∀ r ∈ b, r.length = 4) (hx : ∀ r ∈ b, ∀ x ∈ r, x.f0 ≤ 8) (ha : a.length ≤ 8) (hb : b.length ≤ 8) : ∀ d i : Nat, i + d = b.length →
    Ev (fun k => spec_l07Union.l0 k (i : Int) a b (a ++ (b.take i).map (List.map (unF (a.length : Int))))) (a ++ b.map (List.map (unF (a.length : Int)))) := by
  intro d
  induction d with
  | zero =>
    intro i hi
    have c1 : ¬ (i : Int) < (b.length : Int) := by omega
    rw [List.take_of_length_le (show b.length ≤ i by omega)]
    exact ev_step (fun k => by rw [spec_l07Union.l0, if_neg c1]) (Ev.now _)
  | succ d ih =>
    intro i hi
    have hlt : i < b.length := by omega
    have c1 : (i : Int) < (b.length : Int) := by omega
    have c2 : (0 : Int) ≤ (i : Int) := by omega
    have hr := h4 b[i] (List.getElem_mem hlt)
    have ih' := ih (i + 1) (by omega)
    rw [List.take_succ_eq_append_getElem hlt, List.map_append, ← List.append_assoc, yjy, yky] at ih'
    obtain ⟨acc, hacc⟩ : ∃ acc, a ++ (b.take i).map (List.map (unF (a.length : Int))) = acc := ⟨_, rfl⟩
    have hal : acc.length ≤ 16 := by rw [← hacc]; simp; omega
    rw [hacc] at ih' ⊢
    refine ev_step (f := fun k => (some ([] : List SFace)).bind fun y108 => (if 0 ≤ (i : Int) then (if y108.length + (rd_LFace b (i : Int)).length < 8796093022208 then (spec_l07Union.l1 k (i : Int) (y108 ++ (rd_LFace b (i : Int))) 0 a b acc) else (none)) else (none))) (fun k => by rw [spec_l07Union.l0, if_pos c1]) ?_
    refine Ev.bind (a := ([] : List SFace)) (Ev.now _) (ev_pos c2 (ev_pos (by rw [rd_LFace_lt b i hlt, hr]; decide) ?_))
    rw [rd_LFace_lt b i hlt, List.nil_append]
    refine spec_uni_l1 (r := b[i]) hr (hx _ (List.getElem_mem hlt)) ha ?_ 4 0 (by omega)
    rw [unR_four hr]
    have c5 : acc.length < 5864062014805 := by omega
    exact ev_step (fun k => by rw [spec_l07Union.l1, if_neg (by decide), if_pos c5, wrap_succ (by omega)]) ih'
end
theorem spec_unite_ev (a b : Tri) : Ev (fun k => spec_UnionTriangulations.f k a b) (unite a b) := by
  refine Ev.bind (spec_isTri_ev a) ?_
  unfold unite
  cases h : isTri a with
  | false =>
    rw [if_neg (by simp)]
    exact ev_neg (by simp) (ev_step (f := fun _ => some ([], 1)) (fun k => by rw [spec_UnionTriangulations.j0, if_pos rfl]) (Ev.now _))
  | true =>
    obtain ⟨h8, h4, _⟩ := isTri_good h
    rw [if_pos rfl]
    refine ev_pos rfl (Ev.bind (spec_isTri_ev b) ?_)
    cases h2 : isTri b with
    | false =>
      rw [if_neg (by simp)]
      exact ev_step (f := fun _ => some ([], 1)) (fun k => by rw [spec_UnionTriangulations.j0, if_pos (show (!false) = true from rfl)]) (Ev.now _)
    | true =>
      obtain ⟨h82, h42, _⟩ := isTri_good h2
      rw [if_pos rfl]
      refine ev_step (fun k => by rw [spec_UnionTriangulations.j0, if_neg (by decide)]) ?_
      refine Ev.bind (a := (a.length : Int)) (ev_const (by unfold spec_l07Tets.f; rfl)) (Ev.bind (a := (b.length : Int)) (ev_const (by unfold spec_l07Tets.f; rfl)) ?_)
      rw [wrap_id (by omega) (by omega)]
      by_cases hb : (a.length : Int) + (b.length : Int) > 8
      · rw [if_pos hb]; exact ev_pos hb (Ev.now _)
      · rw [if_neg hb]
        refine ev_neg hb (Ev.bind ?_ (Ev.now _))
        refine Ev.bind (spec_own_ev (isTri_small h)) ?_
        have := spec_uni_l0 (a := a) (b := b) h42 (fun r hr x hx => by have := un_faces h2 r hr x hx; omega) h8 h82 b.length 0 (by omega)
        rw [List.take_zero, yky, List.append_nil] at this
        exact this
theorem szF_go (t : List (List SLawFace)) (h : Fits t) (hl : t.length ≤ 1048576) : ∀ d n : Nat, ∀ a : Int, n + d = t.length → 0 ≤ a → a ≤ 1048576 → ∃ r, Ev (fun k => laws_szFaceSS.l0 k t a (n : Int)) r ∧ (0 ≤ r → ∀ x ∈ t.drop n, x.length ≤ 1048576) ∧ r ≤ 1048576 := by
  intro d
  induction d with
  | zero =>
    intro n a hn h0 h1
    refine ⟨a, ev_step (f := fun _ => some a) (fun k => ?_) (Ev.now a), fun _ x hx => ?_, h1⟩
    · simp only [laws_szFaceSS.l0]; rw [if_neg (by omega)]
    · rw [List.drop_eq_nil_of_le (by omega)] at hx; cases hx
  | succ d ih =>
    intro n a hn h0 h1
    have hlt : n < t.length := by omega
    have hf := h.2 t[n] (List.getElem_mem hlt)
    by_cases hc : a - t[n].length < 0
    · refine ⟨-1, ev_step (f := fun _ => some (-1)) (fun k => ?_) (Ev.now (-1)), fun h => by omega, by omega⟩
      simp only [laws_szFaceSS.l0]
      rw [if_pos (by omega), if_pos (by omega), rd_LLawFace_lt t n hlt, szFaceS_eq _ a h0 h1 hf, yfy, if_pos hc]
      rfl
    · obtain ⟨r, hr, hr2, hr3⟩ := ih (n + 1) (a - t[n].length) (by omega) (by omega) (by omega)
      refine ⟨r, ev_step (fun k => ?_) hr, fun h x hx => ?_, hr3⟩
      · simp only [laws_szFaceSS.l0]
        rw [if_pos (by omega), if_pos (by omega), rd_LLawFace_lt t n hlt, szFaceS_eq _ a h0 h1 hf, yfy, if_neg hc, if_neg (by omega), wrap_succ (by omega)]
      · rw [List.drop_eq_getElem_cons hlt] at hx
        rcases List.mem_cons.1 hx with rfl | hx
        · omega
        · exact hr2 h x hx
theorem szTriangulation_from (t : List (List SLawFace)) (h : Fits t) (a : Int) (h0 : 0 ≤ a) (h1 : a ≤ 1048576) : ∃ r, Ev (fun k => laws_szTriangulation.f k t a) r ∧ (¬ r < 0 → SmallL t) ∧ r ≤ 1048576 := by
  have hf := h.1
  by_cases hl : (a - (t.length : Int)) < 0
  · refine ⟨-1, ?_, fun h => by omega, by omega⟩
    refine Ev.bind (a := -1) (ev_const' (fun k => ?_)) (ev_pos (by omega) (Ev.now _))
    unfold laws_szFaceSS.f
    rw [wrap_id (by omega) (by omega), if_pos hl]
  · obtain ⟨r, hr, hr2, hr3⟩ := szF_go t h (by omega) t.length 0 (a - t.length) (by omega) (by omega) (by omega)
    have h2 : Ev (fun k => laws_szFaceSS.f k t a) r := by
      refine Ev.congr (fun k => ?_) hr
      unfold laws_szFaceSS.f
      rw [wrap_id (by omega) (by omega), if_neg hl]
      rfl
    by_cases hn : r < 0
    · exact ⟨-1, Ev.bind h2 (ev_pos hn (Ev.now _)), fun h => by omega, by omega⟩
    · exact ⟨r, Ev.bind h2 (ev_neg hn (Ev.now _)), fun _ => ⟨by omega, fun x hx => hr2 (by omega) x (by rwa [List.drop_zero])⟩, hr3⟩
end Go.Proofs.Ytdgdnnjigigkcaa.P
namespace Go.Proofs.Ytdgdnnjigigkcaa.Pure
open Go.RowKit Go.Proofs.Ytdgdnnjigigkcaa.P Go.Proofs.Ytdgdnnjigigkcaa.Lib Go.Proofs.YtdgdnnjigigkcaaW.PrintWords
set_option linter.unusedVariables false
theorem FnExactUnionTriangulations (l0 l1 : List (List SLawFace)) (h0 : Fits l0) (h1 : Fits l1) : ∃ k, laws_FnExactUnionTriangulations.f k l0 l1 = some true := by
  refine Ev.rounds ?_
  obtain ⟨r0, hr0, hs0, hle⟩ := szTriangulation_from l0 h0 1048576 (by omega) (by omega)
  refine Ev.bind hr0 ?_
  by_cases hn0 : r0 < 0
  · exact ev_pos hn0 (Ev.now true)
  refine ev_neg hn0 ?_
  obtain ⟨r1, hr1, hs1, _⟩ := szTriangulation_from l1 h1 r0 (by omega) hle
  refine Ev.bind hr1 ?_
  by_cases hn1 : r1 < 0
  · exact ev_pos hn1 (Ev.now true)
  refine ev_neg hn1 ?_
  have hto0 := toTriangulation_ev l0 (hs0 hn0)
  have hto1 := toTriangulation_ev l1 (hs1 hn1)
  have hS0 := cvT_small (hs0 hn0)
  have hS1 := cvT_small (hs1 hn1)
  have hi := impl_unite_ev hS0 hS1
  have hL := unite_small (cvT l0) (cvT l1)
  have heq := eqTriangulation_ev _ hL
  have hh := heldTriangulation_ev _ 1 hL (by omega) (by omega)
  have hc0 := cntF_le (cvT l0) hS0.2
  have hl0 := hS0.1
  refine Ev.bind hto0 ?_
  refine Ev.bind hto1 ?_
  refine Ev.bind (spec_unite_ev (cvT l0) (cvT l1)) ?_
  refine Ev.bind hto0 ?_
  refine Ev.bind hto1 ?_
  refine Ev.bind hi ?_
  refine Ev.bind heq (ev_pos rfl (ev_pos rfl ?_))
  refine Ev.bind hto0 ?_
  refine Ev.bind (eqTriangulation_ev _ hS0) (ev_pos rfl ?_)
  refine Ev.bind hto1 ?_
  refine Ev.bind (eqTriangulation_ev _ hS1) (ev_pos rfl ?_)
  refine Ev.bind (markTriangulation_ev _ 1 hS0 (by omega) (by omega)) ?_
  refine Ev.bind (markTriangulation_from _ _ hS1 (by dsimp only; omega) (by dsimp only; omega)) ?_
  refine ev_neg (by dsimp only; omega) ?_
  refine Ev.bind heq (ev_pos rfl (ev_pos rfl ?_))
  refine Ev.bind (markTriangulation_ev _ 1 hL (by omega) (by omega)) ?_
  refine Ev.bind hh ?_
  refine ev_neg (by omega) (ev_pos rfl ?_)
  refine Ev.bind hto0 ?_
  refine Ev.bind hto1 ?_
  refine Ev.bind hi ?_
  refine Ev.bind heq (ev_pos rfl (ev_pos rfl ?_))
  refine Ev.bind hh ?_
  exact ev_neg (by omega) (ev_pos rfl (Ev.now true))
end Go.Proofs.Ytdgdnnjigigkcaa.Pure
namespace Go.Proofs.Ytdgdnnjigigkcaa.Lib
open Go.RowKit Go.Proofs.YtdgdnnjigigkcaaW.PrintWords Go.Joins Go.Deep Go.WideShapes Go.ChangeShapes
set_option linter.unusedVariables false
/-- Whatever reads as data at type t reads as a value of the kind d. -/
def Opens (P : Program) (t : TypeId) {α : Type} (d : Kd α) : Prop := ∀ (H : Type) (enc : TypeId × Value → H) (w : World) (base : Nat) (spare : Nat → Bool) (held : Bool) (fuel : Nat) (cs : List Value) (x : DataW H × List MemPlace),
  DataW.trod enc P w base spare held fuel t cs = some x → ∃ y, d.K w y cs
theorem pick_list {α : Type} {R : Nat → α → Prop} : ∀ n, (∀ i, i < n → ∃ y, R i y) → ∃ ys : List α, ys.length = n ∧ ∀ j p, ys[j]? = some p → R j p
  | 0, _ => ⟨[], rfl, fun j p h => by simp at h⟩
  | n + 1, h => by
    obtain ⟨ys, hl, hr⟩ := pick_list n (fun i hi => h i (by omega))
    obtain ⟨y, hy⟩ := h n (by omega)
    refine ⟨ys ++ [y], by simp [hl], fun j p hj => ?_⟩
    by_cases hlt : j < n
    · rw [List.getElem?_append_left (by omega)] at hj
      exact hr j p hj
    · have hjn : j < (ys ++ [y]).length := (List.getElem?_eq_some_iff.1 hj).1
      have : j = n := by simp [hl] at hjn; omega
      subst this
      rw [List.getElem?_append_right (by omega), hl, Nat.sub_self] at hj
      injection hj with hj
      rw [← hj]
      exact hy
theorem opens_slice {P : Program} {t e : TypeId} {α : Type} {d : Kd α} (ht : P.underlying t = some (.slice e)) (hc : P.cellsOf e = d.sz) (h : Opens P e d) : Opens P t (Kd.slice e d) := by
  intro H enc w base spare held fuel cs x hx
  rcases open_slice ht hx with ⟨rfl, _⟩ | ⟨a, len, cap, m, n, D, Pl, rfl, hb, hl, hm, hmm, _, hi⟩
  · exact ⟨[], none, 0, rfl, yoy _, Kd.C_nil d w⟩
  · have each : ∀ i, i < len → ∃ y, ∃ cs', w.cells? base (a.add (i * d.sz)) d.sz = some cs' ∧ d.K w y cs' := by
      intro i hil
      have him : i < m := by rw [hmm]; split <;> omega
      obtain ⟨cs', h1, h2⟩ := hi i him
      obtain ⟨y, hy⟩ := h H enc w base spare held n cs' _ h2
      rw [hc] at h1
      exact ⟨y, cs', h1, hy⟩
    obtain ⟨ys, hlen, hys⟩ := pick_list len each
    refine ⟨ys, some a, cap, by rw [hlen], by omega, rfl, ?_, fun _ => ⟨a, rfl, fun j p hj => ?_⟩⟩
    · unfold maxLen at hm; omega
    · obtain ⟨cs', h1, h2⟩ := hys j p hj
      obtain ⟨_, h3, h4⟩ := World.cells?_some h1
      refine ⟨cs', h3, h2, fun i u hu => ?_⟩
      have hil : i < d.sz := by rw [← h3]; exact (List.getElem?_eq_some_iff.1 hu).1
      rw [← hu, ← h4 i hil, Go.Deep.add_add]
theorem opens_struct2 {P : Program} {t : TypeId} {f0 f1 : Field} {α : Type} (hs : P.underlying t = some (.struct #[f0, f1])) (hone : oneCellFields P #[f0, f1] = true) (hC : P.cellsOf t = 2)
    (h0 : P.underlying f0.type = some (.int .i64)) (h1 : P.underlying f1.type = some (.int .i64)) (d : Kd α) (mk : Int → Int → α) (hK : ∀ w a b, d.K w (mk a b) [.int .i64 a, .int .i64 b]) : Opens P t d := by
  intro H enc w base spare held fuel cs x h
  obtain ⟨y0, y1, n, hx, hl, g0, g1⟩ := trod_struct2 hs h
  obtain ⟨o0, k0⟩ := hone_of hone 0 f0 rfl
  obtain ⟨o1, k1⟩ := hone_of hone 1 f1 rfl
  rw [hC] at hl
  match cs, hl with
  | [c0, c1], _ =>
    rw [o0, k0] at g0
    rw [o1, k1] at g1
    obtain ⟨a, e0, _, _⟩ := DataW.trod_int h0 g0
    obtain ⟨b, e1, _, _⟩ := DataW.trod_int h1 g1
    simp at e0 e1
    subst e0 e1
    exact ⟨mk a b, hK w a b⟩
section
variable {H : Type} {enc : TypeId × Value → H} {P : Program} {w : World} {base : Nat} {spare : Nat → Bool} {held : Bool}
theorem array1 {α : Type} {cs : Array α} (h : cs.size = 1) : ∃ c0, cs = #[c0] := by
  obtain ⟨l⟩ := cs
  match l, h with
  | [c0], _ => exact ⟨c0, rfl⟩
/-- A struct that holds one slice, by value. -/
theorem open_agg1 {r : Reach} {b0 : Nat} {t e : TypeId} {f0 : Field} {α : Type} {d : Kd α} {v : Value} {D : DataW H} {p : List MemPlace} (hs : P.underlying t = some (.struct #[f0])) (hone : oneCellFields P #[f0] = true) (hC : P.cellsOf t = 1)
    (ho : Opens P f0.type (Kd.slice e d)) (hv : Value.okWide P w r b0 t v) (h : DataW.Trod enc P w base spare held t v D p) :
    ∃ (A : Option Addr) (c : Nat) (l : List α), v = .agg #[.slice A l.length c] ∧ l.length ≤ c ∧ d.C w A l.length l := by
  obtain ⟨cs, rfl, hsz⟩ := okWide_struct hs hv
  obtain ⟨c0, rfl⟩ := array1 (hsz.trans hC)
  obtain ⟨fuel, hf⟩ := h
  obtain ⟨y0, n, hx, _, h0⟩ := trod_struct1 hs hf
  obtain ⟨o0, k0⟩ := hone_of hone 0 f0 rfl
  have h0' : DataW.trod enc P w base spare held n f0.type [c0] = some y0 := by simpa [Value.cells, o0, k0] using h0
  obtain ⟨l, A, c, e1, hl, hCC⟩ := ho H enc w base spare held n _ _ h0'
  simp at e1
  subst e1
  exact ⟨A, c, l, rfl, hl, hCC⟩
end
theorem fits_of_C {e : Nat} {α : Type} {d : Kd α} {w : World} {A : Option Addr} {l : List (List α)} (h : (Kd.slice e d).C w A l.length l) : l.length ≤ 9223372036854775807 ∧ ∀ r ∈ l, r.length ≤ 9223372036854775807 := by
  refine ⟨h.2.1, fun r hr => ?_⟩
  obtain ⟨j, hj, rfl⟩ := List.mem_iff_getElem.1 hr
  obtain ⟨ad, _, hc⟩ := h.2.2 (by omega)
  obtain ⟨c, _, hK, _⟩ := hc j _ (List.getElem?_eq_getElem hj)
  obtain ⟨A', c', _, _, hC⟩ := hK
  exact hC.2.1
end Go.Proofs.Ytdgdnnjigigkcaa.Lib
