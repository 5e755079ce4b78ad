/- The statement FnExactGlueFacesSaid, proved: part 5 of 6 (texts of this session and of the kit's print, put together and cut to what is used by a program of it). -/
import Derived.Test.YtdgdnnjigigkcaaMFnExactGlueFaces4
import Derived.Deep.Slices
import Derived.ChangeSame
import Derived.ChangeArms
import Derived.WideShapes
import Derived.Lib.SmallJoins
import Derived.ChangeShapes
namespace Go.Proofs.Ytdgdnnjigigkcaa.P
open Go.RowKit Go.Proofs.YtdgdnnjigigkcaaW.PrintWords Go.Proofs.YtdgdnnjigigkcaaW.PrintLast Go.Proofs.YtdgdnnjigigkcaaW.PrintMore
attribute [local go_sem] max2_int min2_int max_two min_two max_three min_three max_four min_four   -- for this text's walks alone
set_option linter.unusedVariables false
set_option linter.unusedSimpArgs false
open Go.Proofs.Ytdgdnnjigigkcaa.Lib
/-! ### laws_FnExactGlueFaces: function 4 -/
def laws_FnExactGlueFaces.f (k : Nat) (l0 : List (List (SLawFace))) (a1 : Int) (a2 : Int) (a3 : Int) (a4 : Int) : Option Bool := (laws_szTriangulation.f k l0 1048576).bind fun t2 => if t2 < 0 then some true else (laws_toTriangulation.f k l0).bind fun t5 => (spec_GlueFaces.f k t5 a1 a2 a3 a4).bind fun bt3 => (laws_toTriangulation.f k l0).bind fun t12 => (impl_GlueFaces.f k t12 a1 a2 a3 a4).bind fun bt5 => (laws_eqTriangulation.f k bt5.1 bt3.1).bind fun t19 => if t19 = true then if bt5.2 = bt3.2 then (laws_toTriangulation.f k l0).bind fun t22 => (laws_eqTriangulation.f k t12 t22).bind fun t25 => if t25 = true then (laws_markTriangulation.f k t12 1).bind fun bt12 => if bt12.1 < 0 then some false else (laws_eqTriangulation.f k bt5.1 bt3.1).bind fun t31 => if t31 = true then if bt5.2 = bt3.2 then (laws_markTriangulation.f k bt5.1 1).bind fun bt17 => (laws_heldTriangulation.f k bt17.2 1).bind fun t37 => if t37 < 0 then some false else if t37 = bt17.1 then (laws_toTriangulation.f k l0).bind fun t41 => (impl_GlueFaces.f k t41 a1 a2 a3 a4).bind fun bt22 => (laws_eqTriangulation.f k bt22.1 bt3.1).bind fun t48 => if t48 = true then if bt22.2 = bt3.2 then (laws_heldTriangulation.f k bt17.2 1).bind fun t51 => if t51 < 0 then some false else if t51 = bt17.1 then some true else some false else some false else some false else some false else some false else some false else some false else some false else some false
set_option maxHeartbeats 8000000 in
set_option maxRecDepth 100000 in
theorem laws_FnExactGlueFaces.calls (k : Nat) (A0 : Option Addr) (c0 : Nat) (l0 : List (List (SLawFace))) (a1 : Int) (a2 : Int) (a3 : Int) (a4 : Int) (w : World) (hr0 : Kd.C (Kd.slice 133 kLawFace) w A0 l0.length l0) (hc0 : l0.length ≤ c0) (h : laws_FnExactGlueFaces.f k l0 a1 a2 a3 a4 = some true) :
 Calls Try.prog 4 #[.agg #[.slice A0 l0.length c0], .int .i64 a1, .int .i64 a2, .int .i64 a3, .int .i64 a4] w fun e w' => e = .returned (.bool true) ∧ Below w.heap.size w w' := by
 have hu24 := Try.underlying24
 have hu28 := Try.underlying28
 have HR0 := Aside0.mk hr0
 have HC0 := Aside0.mk hc0
 clear hr0 hc0
 have HB := Aside0.mk (Below.refl w.heap.size w)
 have HT := Aside0.mk (yoy w.heap.size)
 have H := h
 clear h
 unfold laws_FnExactGlueFaces.f at H
 obtain ⟨t2, H10, H⟩ := ydy.mp H
 have H1 := Aside0.mk H10
 clear H10
 by_cases cC3 : t2 < 0
 next =>
  have dC3 : decide (t2 < 0) = true := ygy cC3
  clear cC3 H
  go_enter Try.func4, Try.ntmps4
  try go_wp2_with (first | ((with_reducible refine gate_dst (N := 5) rfl ?_); refine box_event ?hg (N := 5) ?hd (cs := #[.slice A0 l0.length c0]) (t := 24) ?hr ?_; (case hd => rfl); (case hg => rfl); (case hr => first | (go_simp; done) | (go_simp; rfl)); intro g5 hg w1 hbox hb; have HNg5 := Aside0.mk (by rw [hg]; exact HT.out : w.heap.size ≤ g5); have HXg5 := Aside0.mk (show g5 + 1 ≤ w1.heap.size from blk_lt hbox); have nHB := Aside0.mk (below_step HB.out hb); have nHT := Aside0.mk (top_below HT.out hb); clear HB HT  ; have HB := nHB; have HT := nHT; clear nHB nHT  ; clear HT; have HT := HXg5; clear HXg5; have BKg5 := Aside0.mk hbox; clear hg hbox hb; have hczg5 : w1.cell? ⟨g5, 0, none⟩ = some (.slice A0 l0.length c0) := (blk_cell BKg5.out 0).trans rfl; have hfzg5 := blk_frozen BKg5.out 0) | ((with_reducible refine gate_callee (f := 15) rfl ?_); refine goesL_ (some 24) rfl rfl Try.func15 (by kernel_rfl) rfl #[.agg #[.slice A0 l0.length c0], .int .i64 1048576] rfl (by (try simp only [yiy, yjy, yky]); first | done | rfl | (simp only [yly, ymy]; rfl)) ?_; (with_reducible refine (laws_szTriangulation.calls k _ _ l0 1048576 t2 _ ?side1 ?side2 H1.out).mono ?_); (case side1 => exact Kd.C_below HR0.out HB.out); (case side2 => exact HC0.out); rintro e w2 ⟨rfl, hb⟩; refine ⟨_, rfl, ?_⟩; (try clear hczg5 hfzg5); have nBg5 := Aside0.mk (blk_below (g := g5) (o := .cells #[.slice A0 l0.length c0] 24 (0, 0)) BKg5.out hb); have nHB := Aside0.mk (below_step HB.out hb); have nHT := Aside0.mk (top_below HT.out hb); clear HB HT  BKg5; have BKg5 := nBg5; have HB := nHB; have HT := nHT; clear nHB nHT  nBg5; (try clear hb); (try clear hnd); have hczg5 : w2.cell? ⟨g5, 0, none⟩ = some (.slice A0 l0.length c0) := (blk_cell BKg5.out 0).trans rfl; have hfzg5 := blk_frozen BKg5.out 0))
  go_ret
  exact ⟨by first | rfl | (simp <;> rfl), HB.out⟩
 rw [if_neg cC3] at H
 have dC3 : decide (t2 < 0) = false := yhy cC3
 clear cC3
 obtain ⟨t5, H40, H⟩ := ydy.mp H
 have H4 := Aside0.mk H40
 clear H40
 obtain ⟨⟨t8, t10⟩, H70, H⟩ := ydy.mp H
 have H7 := Aside0.mk H70
 clear H70
 obtain ⟨t12, H110, H⟩ := ydy.mp H
 have H11 := Aside0.mk H110
 clear H110
 obtain ⟨⟨t15, t17⟩, H140, H⟩ := ydy.mp H
 have H14 := Aside0.mk H140
 clear H140
 obtain ⟨t19, H180, H⟩ := ydy.mp H
 obtain rfl : t19 = true := by cases t19 with | true => rfl | false => exact absurd H (by simp)
 replace H := H
 have H18 := Aside0.mk H180
 clear H180
 rw [if_pos rfl] at H
 have cC20 : t17 = t10 := by by_cases c_ : t17 = t10; exact c_; rw [if_neg c_] at H; cases H
 rw [if_pos cC20] at H
 have dC20 : (t17 != t10) = false := by rw [cC20]; exact bne_self_eq_false _
 clear cC20
 obtain ⟨t22, H210, H⟩ := ydy.mp H
 have H21 := Aside0.mk H210
 clear H210
 obtain ⟨t25, H240, H⟩ := ydy.mp H
 obtain rfl : t25 = true := by cases t25 with | true => rfl | false => exact absurd H (by simp)
 replace H := H
 have H24 := Aside0.mk H240
 clear H240
 rw [if_pos rfl] at H
 obtain ⟨⟨m27, y28⟩, H260, H⟩ := ydy.mp H
 have H26 := Aside0.mk H260
 clear H260
 dsimp only at H
 have cC29 : ¬ (m27 < 0) := fun c_ => by rw [if_pos c_] at H; cases H
 rw [if_neg cC29] at H
 have dC29 : decide (m27 < 0) = false := yhy cC29
 clear cC29
 obtain ⟨t31, H300, H⟩ := ydy.mp H
 obtain rfl : t31 = true := by cases t31 with | true => rfl | false => exact absurd H (by simp)
 replace H := H
 have H30 := Aside0.mk H300
 clear H300
 rw [if_pos rfl] at H
 have cC32 : t17 = t10 := by by_cases c_ : t17 = t10; exact c_; rw [if_neg c_] at H; cases H
 rw [if_pos cC32] at H
 have dC32 : (t17 != t10) = false := by rw [cC32]; exact bne_self_eq_false _
 clear cC32
 obtain ⟨⟨m34, y35⟩, H330, H⟩ := ydy.mp H
 have H33 := Aside0.mk H330
 clear H330
 dsimp only at H
 obtain ⟨t37, H360, H⟩ := ydy.mp H
 have H36 := Aside0.mk H360
 clear H360
 have cC38 : ¬ (t37 < 0) := fun c_ => by rw [if_pos c_] at H; cases H
 rw [if_neg cC38] at H
 have dC38 : decide (t37 < 0) = false := yhy cC38
 clear cC38
 have cC39 : t37 = m34 := by by_cases c_ : t37 = m34; exact c_; rw [if_neg c_] at H; cases H
 rw [if_pos cC39] at H
 have dC39 : (t37 != m34) = false := by rw [cC39]; exact bne_self_eq_false _
 clear cC39
 obtain ⟨t41, H400, H⟩ := ydy.mp H
 have H40 := Aside0.mk H400
 clear H400
 obtain ⟨⟨t44, t46⟩, H430, H⟩ := ydy.mp H
 have H43 := Aside0.mk H430
 clear H430
 obtain ⟨t48, H470, H⟩ := ydy.mp H
 obtain rfl : t48 = true := by cases t48 with | true => rfl | false => exact absurd H (by simp)
 replace H := H
 have H47 := Aside0.mk H470
 clear H470
 rw [if_pos rfl] at H
 have cC49 : t46 = t10 := by by_cases c_ : t46 = t10; exact c_; rw [if_neg c_] at H; cases H
 rw [if_pos cC49] at H
 have dC49 : (t46 != t10) = false := by rw [cC49]; exact bne_self_eq_false _
 clear cC49
 obtain ⟨t51, H500, H⟩ := ydy.mp H
 have H50 := Aside0.mk H500
 clear H500
 have cC52 : ¬ (t51 < 0) := fun c_ => by rw [if_pos c_] at H; cases H
 rw [if_neg cC52] at H
 have dC52 : decide (t51 < 0) = false := yhy cC52
 clear cC52
 have cC53 : t51 = m34 := by by_cases c_ : t51 = m34; exact c_; rw [if_neg c_] at H; cases H
 rw [if_pos cC53] at H
 have dC53 : (t51 != m34) = false := by rw [cC53]; exact bne_self_eq_false _
 clear cC53
 clear H
 go_enter Try.func4, Try.ntmps4
 try go_wp2_with (first | ((with_reducible refine gate_dst (N := 5) rfl ?_); refine box_event ?hg (N := 5) ?hd (cs := #[.slice A0 l0.length c0]) (t := 24) ?hr ?_; (case hd => rfl); (case hg => rfl); (case hr => first | (go_simp; done) | (go_simp; rfl)); intro g5 hg w1 hbox hb; have HNg5 := Aside0.mk (by rw [hg]; exact HT.out : w.heap.size ≤ g5); have HXg5 := Aside0.mk (show g5 + 1 ≤ w1.heap.size from blk_lt hbox); have nHB := Aside0.mk (below_step HB.out hb); have nHT := Aside0.mk (top_below HT.out hb); clear HB HT  ; have HB := nHB; have HT := nHT; clear nHB nHT  ; clear HT; have HT := HXg5; clear HXg5; have BKg5 := Aside0.mk hbox; clear hg hbox hb; have hczg5 : w1.cell? ⟨g5, 0, none⟩ = some (.slice A0 l0.length c0) := (blk_cell BKg5.out 0).trans rfl; have hfzg5 := blk_frozen BKg5.out 0) | ((with_reducible refine gate_callee (f := 15) rfl ?_); refine goesL_ (some 24) rfl rfl Try.func15 (by kernel_rfl) rfl #[.agg #[.slice A0 l0.length c0], .int .i64 1048576] rfl (by (try simp only [yiy, yjy, yky]); first | done | rfl | (simp only [yly, ymy]; rfl)) ?_; (with_reducible refine (laws_szTriangulation.calls k _ _ l0 1048576 t2 _ ?side1 ?side2 H1.out).mono ?_); (case side1 => exact Kd.C_below HR0.out HB.out); (case side2 => exact HC0.out); rintro e w2 ⟨rfl, hb⟩; refine ⟨_, rfl, ?_⟩; (try clear hczg5 hfzg5); have nBg5 := Aside0.mk (blk_below (g := g5) (o := .cells #[.slice A0 l0.length c0] 24 (0, 0)) BKg5.out hb); have nHB := Aside0.mk (below_step HB.out hb); have nHT := Aside0.mk (top_below HT.out hb); clear HB HT  BKg5; have BKg5 := nBg5; have HB := nHB; have HT := nHT; clear nHB nHT  nBg5; (try clear hb); (try clear hnd); have hczg5 : w2.cell? ⟨g5, 0, none⟩ = some (.slice A0 l0.length c0) := (blk_cell BKg5.out 0).trans rfl; have hfzg5 := blk_frozen BKg5.out 0) | ((with_reducible refine gate_callee (f := 17) rfl ?_); refine goesL_ (some 29) rfl rfl Try.func17 (by kernel_rfl) rfl #[.agg #[.slice A0 l0.length c0]] rfl (by (try simp only [yiy, yjy, yky]); first | done | rfl | (simp only [yly, ymy]; rfl)) ?_; (with_reducible refine (laws_toTriangulation.calls k _ _ l0 t5 _ ?side1 ?side2 H4.out).mono ?_); (case side1 => exact Kd.C_below HR0.out HB.out); (case side2 => exact HC0.out); rintro e w3 ⟨vo6, rfl, ho0, hb⟩; refine ⟨_, rfl, ?_⟩; (try clear hczg5 hfzg5); obtain ⟨loo6, hio6, hno6⟩ := ObS.made ho0 hb HT.out (below_size HB.out); have nBg5 := Aside0.mk (blk_below (g := g5) (o := .cells #[.slice A0 l0.length c0] 24 (0, 0)) BKg5.out hb); have nHB := Aside0.mk (below_step HB.out hb); have nHT := Aside0.mk (top_below HT.out hb); clear HB HT  BKg5; have BKg5 := nBg5; have HB := nHB; have HT := nHT; clear nHB nHT  nBg5; have HNo6 := Aside0.mk hno6.1; clear HT; have HT := Aside0.mk hno6.2.1; have HOo6 := Aside0.mk hno6.2.2; clear hno6 ho0; obtain ⟨Ao6, co6, eeo6⟩ := HOo6.out.slice; subst eeo6; (try clear hb); (try clear hnd); have hczg5 : w3.cell? ⟨g5, 0, none⟩ = some (.slice A0 l0.length c0) := (blk_cell BKg5.out 0).trans rfl; have hfzg5 := blk_frozen BKg5.out 0) | ((with_reducible refine gate_callee (f := 22) rfl ?_); refine goesL_ (some 34) rfl rfl Try.func22 (by kernel_rfl) rfl #[.agg #[.slice Ao6 t5.length co6], .int .i64 a1, .int .i64 a2, .int .i64 a3, .int .i64 a4] rfl (by (try simp only [yiy, yjy, yky]); first | done | rfl | (simp only [yly, ymy]; rfl)) ?_; (with_reducible refine (spec_GlueFaces.calls k _ _ t5 a1 a2 a3 a4 t8 t10 _ ?side1 ?side2 H7.out).mono ?_); (case side1 => exact (ObS.reads HOo6.out).2.2); (case side2 => exact ObS.room HOo6.out); rintro e w4 ⟨vo9, rfl, ho0, hb⟩; refine ⟨_, rfl, ?_⟩; (try clear hczg5 hfzg5); obtain ⟨loo9, hio9, hno9⟩ := ObS.made ho0 hb HT.out (below_size HB.out); have nOo6 := Aside0.mk (ObS.below HOo6.out hb); have nBg5 := Aside0.mk (blk_below (g := g5) (o := .cells #[.slice A0 l0.length c0] 24 (0, 0)) BKg5.out hb); have nHB := Aside0.mk (below_step HB.out hb); have nHT := Aside0.mk (top_below HT.out hb); clear HB HT HOo6 BKg5; have HOo6 := nOo6; have BKg5 := nBg5; have HB := nHB; have HT := nHT; clear nHB nHT nOo6 nBg5; have HNo9 := Aside0.mk hno9.1; clear HT; have HT := Aside0.mk hno9.2.1; have HOo9 := Aside0.mk hno9.2.2; clear hno9 ho0; obtain ⟨Ao9, co9, eeo9⟩ := HOo9.out.slice; subst eeo9; (try clear hb); (try clear hnd); have hczg5 : w4.cell? ⟨g5, 0, none⟩ = some (.slice A0 l0.length c0) := (blk_cell BKg5.out 0).trans rfl; have hfzg5 := blk_frozen BKg5.out 0) | ((with_reducible refine gate_dst (N := 12) rfl ?_); refine box_event ?hg (N := 12) ?hd (cs := #[.slice none 0 0]) (t := 28) ?hr ?_; (case hd => rfl); (case hg => rfl); (case hr => first | (go_simp; done) | (go_simp; rfl)); intro g12 hg w5 hbox hb; (try clear hczg5 hfzg5); have HNg12 := Aside0.mk (by rw [hg]; exact HT.out : hio9 ≤ g12); have HXg12 := Aside0.mk (show g12 + 1 ≤ w5.heap.size from blk_lt hbox); have nOo6 := Aside0.mk (ObS.below HOo6.out hb); have nOo9 := Aside0.mk (ObS.below HOo9.out hb); have nBg5 := Aside0.mk (blk_below (g := g5) (o := .cells #[.slice A0 l0.length c0] 24 (0, 0)) BKg5.out hb); have nHB := Aside0.mk (below_step HB.out hb); have nHT := Aside0.mk (top_below HT.out hb); clear HB HT HOo6 HOo9 BKg5; have HOo6 := nOo6; have HOo9 := nOo9; have BKg5 := nBg5; have HB := nHB; have HT := nHT; clear nHB nHT nOo6 nOo9 nBg5; clear HT; have HT := HXg12; clear HXg12; have BKg12 := Aside0.mk hbox; clear hg hbox hb; have hnbg12_g5 : g12 ≠ g5 := (by have := HNg5.out; have := HNo6.out; have := HNo9.out; have := HNg12.out; omega); have hnbg5_g12 : g5 ≠ g12 := (by have := HNg5.out; have := HNo6.out; have := HNo9.out; have := HNg12.out; omega); have hczg5 : w5.cell? ⟨g5, 0, none⟩ = some (.slice A0 l0.length c0) := (blk_cell BKg5.out 0).trans rfl; have hfzg5 := blk_frozen BKg5.out 0; have hczg12 : w5.cell? ⟨g12, 0, none⟩ = some (.slice none 0 0) := (blk_cell BKg12.out 0).trans rfl; have hfzg12 := blk_frozen BKg12.out 0) | ((with_reducible refine gate_callee (f := 17) rfl ?_); refine goesL_ (some 38) rfl rfl Try.func17 (by kernel_rfl) rfl #[.agg #[.slice A0 l0.length c0]] rfl (by (try simp only [yiy, yjy, yky]); first | done | rfl | (simp only [yly, ymy]; rfl)) ?_; (with_reducible refine (laws_toTriangulation.calls k _ _ l0 t12 _ ?side1 ?side2 H11.out).mono ?_); (case side1 => exact Kd.C_below HR0.out (below_set HB.out (show w.heap.size ≤ g12 from (by have := HNg5.out; have := HNo6.out; have := HNo9.out; have := HNg12.out; omega)))); (case side2 => exact HC0.out); rintro e w6 ⟨vo13, rfl, ho0, hb⟩; refine ⟨_, rfl, ?_⟩; (try clear hczg5 hfzg5 hczg12 hfzg12); obtain ⟨loo13, hio13, hno13⟩ := ObS.made ho0 hb (top_far HT.out) (below_size (below_set HB.out (show w.heap.size ≤ g12 from (by have := HNg5.out; have := HNo6.out; have := HNo9.out; have := HNg12.out; omega)))); have nOo6 := Aside0.mk (ObS.below (ObS.far (g := g12) (i := 0) HOo6.out (by have := HNg5.out; have := HNo6.out; have := HNo9.out; have := HNg12.out; omega) _) hb); have nOo9 := Aside0.mk (ObS.below (ObS.far (g := g12) (i := 0) HOo9.out (by have := HNg5.out; have := HNo6.out; have := HNo9.out; have := HNg12.out; omega) _) hb); have nBg5 := Aside0.mk (blk_below (g := g5) (o := .cells #[.slice A0 l0.length c0] 24 (0, 0)) (blk_far (p := ⟨g12, 0, none⟩) BKg5.out (show g5 ≠ g12 from (by have := HNg5.out; have := HNo6.out; have := HNo9.out; have := HNg12.out; omega)) _) hb); have nBg12 := Aside0.mk (blk_below (g := g12) (o := .cells #[.slice Ao9 t8.length co9] 28 (0, 0)) (blk_put (cs := #[.slice none 0 0]) BKg12.out 0 _ rfl) hb); have nHB := Aside0.mk (below_step (below_set HB.out (show w.heap.size ≤ g12 from (by have := HNg5.out; have := HNo6.out; have := HNo9.out; have := HNg12.out; omega))) hb); have nHT := Aside0.mk (top_below (top_far HT.out) hb); clear HB HT HOo6 HOo9 BKg5 BKg12; have HOo6 := nOo6; have HOo9 := nOo9; have BKg5 := nBg5; have BKg12 := nBg12; have HB := nHB; have HT := nHT; clear nHB nHT nOo6 nOo9 nBg5 nBg12; have HNo13 := Aside0.mk hno13.1; clear HT; have HT := Aside0.mk hno13.2.1; have HOo13 := Aside0.mk hno13.2.2; clear hno13 ho0; obtain ⟨Ao13, co13, eeo13⟩ := HOo13.out.slice; subst eeo13; (try clear hb); (try clear hnd); have hczg5 : w6.cell? ⟨g5, 0, none⟩ = some (.slice A0 l0.length c0) := (blk_cell BKg5.out 0).trans rfl; have hfzg5 := blk_frozen BKg5.out 0; have hczg12 : w6.cell? ⟨g12, 0, none⟩ = some (.slice Ao9 t8.length co9) := (blk_cell BKg12.out 0).trans rfl; have hfzg12 := blk_frozen BKg12.out 0) | ((with_reducible refine gate_dst (N := 14) rfl ?_); refine box_event ?hg (N := 14) ?hd (cs := #[.slice none 0 0]) (t := 28) ?hr ?_; (case hd => rfl); (case hg => rfl); (case hr => first | (go_simp; done) | (go_simp; rfl)); intro g14 hg w7 hbox hb; (try clear hczg5 hfzg5 hczg12 hfzg12); have HNg14 := Aside0.mk (by rw [hg]; exact HT.out : hio13 ≤ g14); have HXg14 := Aside0.mk (show g14 + 1 ≤ w7.heap.size from blk_lt hbox); have nOo6 := Aside0.mk (ObS.below HOo6.out hb); have nOo9 := Aside0.mk (ObS.below HOo9.out hb); have nOo13 := Aside0.mk (ObS.below HOo13.out hb); have nBg5 := Aside0.mk (blk_below (g := g5) (o := .cells #[.slice A0 l0.length c0] 24 (0, 0)) BKg5.out hb); have nBg12 := Aside0.mk (blk_below (g := g12) (o := .cells #[.slice Ao9 t8.length co9] 28 (0, 0)) BKg12.out hb); have nHB := Aside0.mk (below_step HB.out hb); have nHT := Aside0.mk (top_below HT.out hb); clear HB HT HOo6 HOo9 HOo13 BKg5 BKg12; have HOo6 := nOo6; have HOo9 := nOo9; have HOo13 := nOo13; have BKg5 := nBg5; have BKg12 := nBg12; have HB := nHB; have HT := nHT; clear nHB nHT nOo6 nOo9 nOo13 nBg5 nBg12; clear HT; have HT := HXg14; clear HXg14; have BKg14 := Aside0.mk hbox; clear hg hbox hb; have hnbg14_g5 : g14 ≠ g5 := (by have := HNg5.out; have := HNo6.out; have := HNo9.out; have := HNg12.out; have := HNo13.out; have := HNg14.out; omega); have hnbg5_g14 : g5 ≠ g14 := (by have := HNg5.out; have := HNo6.out; have := HNo9.out; have := HNg12.out; have := HNo13.out; have := HNg14.out; omega); have hnbg14_g12 : g14 ≠ g12 := (by have := HNg5.out; have := HNo6.out; have := HNo9.out; have := HNg12.out; have := HNo13.out; have := HNg14.out; omega); have hnbg12_g14 : g12 ≠ g14 := (by have := HNg5.out; have := HNo6.out; have := HNo9.out; have := HNg12.out; have := HNo13.out; have := HNg14.out; omega); have hczg5 : w7.cell? ⟨g5, 0, none⟩ = some (.slice A0 l0.length c0) := (blk_cell BKg5.out 0).trans rfl; have hfzg5 := blk_frozen BKg5.out 0; have hczg12 : w7.cell? ⟨g12, 0, none⟩ = some (.slice Ao9 t8.length co9) := (blk_cell BKg12.out 0).trans rfl; have hfzg12 := blk_frozen BKg12.out 0; have hczg14 : w7.cell? ⟨g14, 0, none⟩ = some (.slice none 0 0) := (blk_cell BKg14.out 0).trans rfl; have hfzg14 := blk_frozen BKg14.out 0) | ((with_reducible refine gate_callee (f := 23) rfl ?_); refine goesL_ (some 45) rfl rfl Try.func23 (by kernel_rfl) rfl #[.agg #[.slice Ao13 t12.length co13], .int .i64 a1, .int .i64 a2, .int .i64 a3, .int .i64 a4] rfl (by (try simp only [yiy, yjy, yky]); first | done | rfl | (simp only [yly, ymy]; rfl)) ?_; (with_reducible refine (impl_GlueFaces.calls k _ _ t12 a1 a2 a3 a4 t15 t17 _ ?side1 ?side2 H14.out).mono ?_); (case side1 => exact (ObS.reads (ObS.far (g := g14) (i := 0) HOo13.out (by have := HNg5.out; have := HNo6.out; have := HNo9.out; have := HNg12.out; have := HNo13.out; have := HNg14.out; omega) _)).2.2); (case side2 => exact ObS.room HOo13.out); rintro e w8 ⟨vo16, rfl, ho0, hb⟩; refine ⟨_, rfl, ?_⟩; (try clear hczg5 hfzg5 hczg12 hfzg12 hczg14 hfzg14); obtain ⟨loo16, hio16, hno16⟩ := ObS.made ho0 hb (top_far HT.out) (below_size (below_set HB.out (show w.heap.size ≤ g14 from (by have := HNg5.out; have := HNo6.out; have := HNo9.out; have := HNg12.out; have := HNo13.out; have := HNg14.out; omega)))); have nOo6 := Aside0.mk (ObS.below (ObS.far (g := g14) (i := 0) HOo6.out (by have := HNg5.out; have := HNo6.out; have := HNo9.out; have := HNg12.out; have := HNo13.out; have := HNg14.out; omega) _) hb); have nOo9 := Aside0.mk (ObS.below (ObS.far (g := g14) (i := 0) HOo9.out (by have := HNg5.out; have := HNo6.out; have := HNo9.out; have := HNg12.out; have := HNo13.out; have := HNg14.out; omega) _) hb); have nOo13 := Aside0.mk (ObS.below (ObS.far (g := g14) (i := 0) HOo13.out (by have := HNg5.out; have := HNo6.out; have := HNo9.out; have := HNg12.out; have := HNo13.out; have := HNg14.out; omega) _) hb); have nBg5 := Aside0.mk (blk_below (g := g5) (o := .cells #[.slice A0 l0.length c0] 24 (0, 0)) (blk_far (p := ⟨g14, 0, none⟩) BKg5.out (show g5 ≠ g14 from (by have := HNg5.out; have := HNo6.out; have := HNo9.out; have := HNg12.out; have := HNo13.out; have := HNg14.out; omega)) _) hb); have nBg12 := Aside0.mk (blk_below (g := g12) (o := .cells #[.slice Ao9 t8.length co9] 28 (0, 0)) (blk_far (p := ⟨g14, 0, none⟩) BKg12.out (show g12 ≠ g14 from (by have := HNg5.out; have := HNo6.out; have := HNo9.out; have := HNg12.out; have := HNo13.out; have := HNg14.out; omega)) _) hb); have nBg14 := Aside0.mk (blk_below (g := g14) (o := .cells #[.slice Ao13 t12.length co13] 28 (0, 0)) (blk_put (cs := #[.slice none 0 0]) BKg14.out 0 _ rfl) hb); have nHB := Aside0.mk (below_step (below_set HB.out (show w.heap.size ≤ g14 from (by have := HNg5.out; have := HNo6.out; have := HNo9.out; have := HNg12.out; have := HNo13.out; have := HNg14.out; omega))) hb); have nHT := Aside0.mk (top_below (top_far HT.out) hb); clear HB HT HOo6 HOo9 HOo13 BKg5 BKg12 BKg14; have HOo6 := nOo6; have HOo9 := nOo9; have HOo13 := nOo13; have BKg5 := nBg5; have BKg12 := nBg12; have BKg14 := nBg14; have HB := nHB; have HT := nHT; clear nHB nHT nOo6 nOo9 nOo13 nBg5 nBg12 nBg14; have HNo16 := Aside0.mk hno16.1; clear HT; have HT := Aside0.mk hno16.2.1; have HOo16 := Aside0.mk hno16.2.2; clear hno16 ho0; obtain ⟨Ao16, co16, eeo16⟩ := HOo16.out.slice; subst eeo16; (try clear hb); (try clear hnd); have hczg5 : w8.cell? ⟨g5, 0, none⟩ = some (.slice A0 l0.length c0) := (blk_cell BKg5.out 0).trans rfl; have hfzg5 := blk_frozen BKg5.out 0; have hczg12 : w8.cell? ⟨g12, 0, none⟩ = some (.slice Ao9 t8.length co9) := (blk_cell BKg12.out 0).trans rfl; have hfzg12 := blk_frozen BKg12.out 0; have hczg14 : w8.cell? ⟨g14, 0, none⟩ = some (.slice Ao13 t12.length co13) := (blk_cell BKg14.out 0).trans rfl; have hfzg14 := blk_frozen BKg14.out 0) | ((with_reducible refine gate_dst (N := 15) rfl ?_); refine box_event ?hg (N := 15) ?hd (cs := #[.slice none 0 0]) (t := 28) ?hr ?_; (case hd => rfl); (case hg => rfl); (case hr => first | (go_simp; done) | (go_simp; rfl)); intro g15 hg w9 hbox hb; (try clear hczg5 hfzg5 hczg12 hfzg12 hczg14 hfzg14); have HNg15 := Aside0.mk (by rw [hg]; exact HT.out : hio16 ≤ g15); have HXg15 := Aside0.mk (show g15 + 1 ≤ w9.heap.size from blk_lt hbox); have nOo6 := Aside0.mk (ObS.below HOo6.out hb); have nOo9 := Aside0.mk (ObS.below HOo9.out hb); have nOo13 := Aside0.mk (ObS.below HOo13.out hb); have nOo16 := Aside0.mk (ObS.below HOo16.out hb); have nBg5 := Aside0.mk (blk_below (g := g5) (o := .cells #[.slice A0 l0.length c0] 24 (0, 0)) BKg5.out hb); have nBg12 := Aside0.mk (blk_below (g := g12) (o := .cells #[.slice Ao9 t8.length co9] 28 (0, 0)) BKg12.out hb); have nBg14 := Aside0.mk (blk_below (g := g14) (o := .cells #[.slice Ao13 t12.length co13] 28 (0, 0)) BKg14.out hb); have nHB := Aside0.mk (below_step HB.out hb); have nHT := Aside0.mk (top_below HT.out hb); clear HB HT HOo6 HOo9 HOo13 HOo16 BKg5 BKg12 BKg14; have HOo6 := nOo6; have HOo9 := nOo9; have HOo13 := nOo13; have HOo16 := nOo16; have BKg5 := nBg5; have BKg12 := nBg12; have BKg14 := nBg14; have HB := nHB; have HT := nHT; clear nHB nHT nOo6 nOo9 nOo13 nOo16 nBg5 nBg12 nBg14; clear HT; have HT := HXg15; clear HXg15; have BKg15 := Aside0.mk hbox; clear hg hbox hb; have hnbg15_g5 : g15 ≠ g5 := (by have := HNg5.out; have := HNo6.out; have := HNo9.out; have := HNg12.out; have := HNo13.out; have := HNg14.out; have := HNo16.out; have := HNg15.out; omega); have hnbg5_g15 : g5 ≠ g15 := (by have := HNg5.out; have := HNo6.out; have := HNo9.out; have := HNg12.out; have := HNo13.out; have := HNg14.out; have := HNo16.out; have := HNg15.out; omega); have hnbg15_g12 : g15 ≠ g12 := (by have := HNg5.out; have := HNo6.out; have := HNo9.out; have := HNg12.out; have := HNo13.out; have := HNg14.out; have := HNo16.out; have := HNg15.out; omega); have hnbg12_g15 : g12 ≠ g15 := (by have := HNg5.out; have := HNo6.out; have := HNo9.out; have := HNg12.out; have := HNo13.out; have := HNg14.out; have := HNo16.out; have := HNg15.out; omega); have hnbg15_g14 : g15 ≠ g14 := (by have := HNg5.out; have := HNo6.out; have := HNo9.out; have := HNg12.out; have := HNo13.out; have := HNg14.out; have := HNo16.out; have := HNg15.out; omega); have hnbg14_g15 : g14 ≠ g15 := (by have := HNg5.out; have := HNo6.out; have := HNo9.out; have := HNg12.out; have := HNo13.out; have := HNg14.out; have := HNo16.out; have := HNg15.out; omega); have hczg5 : w9.cell? ⟨g5, 0, none⟩ = some (.slice A0 l0.length c0) := (blk_cell BKg5.out 0).trans rfl; have hfzg5 := blk_frozen BKg5.out 0; have hczg12 : w9.cell? ⟨g12, 0, none⟩ = some (.slice Ao9 t8.length co9) := (blk_cell BKg12.out 0).trans rfl; have hfzg12 := blk_frozen BKg12.out 0; have hczg14 : w9.cell? ⟨g14, 0, none⟩ = some (.slice Ao13 t12.length co13) := (blk_cell BKg14.out 0).trans rfl; have hfzg14 := blk_frozen BKg14.out 0; have hczg15 : w9.cell? ⟨g15, 0, none⟩ = some (.slice none 0 0) := (blk_cell BKg15.out 0).trans rfl; have hfzg15 := blk_frozen BKg15.out 0) | ((with_reducible refine gate_callee (f := 19) rfl ?_); refine goesL_ (some 50) rfl rfl Try.func19 (by kernel_rfl) rfl #[.agg #[.slice Ao16 t15.length co16], .agg #[.slice Ao9 t8.length co9]] rfl (by (try simp only [yiy, yjy, yky]); first | done | rfl | (simp only [yly, ymy]; rfl)) ?_; (with_reducible refine (laws_eqTriangulation.calls k _ _ t15 _ _ t8 true _ ?side1 ?side2 ?side3 ?side4 H18.out).mono ?_); (case side1 => exact (ObS.reads (ObS.far (g := g15) (i := 0) HOo16.out (by have := HNg5.out; have := HNo6.out; have := HNo9.out; have := HNg12.out; have := HNo13.out; have := HNg14.out; have := HNo16.out; have := HNg15.out; omega) _)).2.2); (case side2 => exact ObS.room HOo16.out); (case side3 => exact (ObS.reads (ObS.far (g := g15) (i := 0) HOo9.out (by have := HNg5.out; have := HNo6.out; have := HNo9.out; have := HNg12.out; have := HNo13.out; have := HNg14.out; have := HNo16.out; have := HNg15.out; omega) _)).2.2); (case side4 => exact ObS.room HOo9.out); rintro e w10 ⟨rfl, hb⟩; refine ⟨_, rfl, ?_⟩; (try clear hczg5 hfzg5 hczg12 hfzg12 hczg14 hfzg14 hczg15 hfzg15); have nOo6 := Aside0.mk (ObS.below (ObS.far (g := g15) (i := 0) HOo6.out (by have := HNg5.out; have := HNo6.out; have := HNo9.out; have := HNg12.out; have := HNo13.out; have := HNg14.out; have := HNo16.out; have := HNg15.out; omega) _) hb); have nOo9 := Aside0.mk (ObS.below (ObS.far (g := g15) (i := 0) HOo9.out (by have := HNg5.out; have := HNo6.out; have := HNo9.out; have := HNg12.out; have := HNo13.out; have := HNg14.out; have := HNo16.out; have := HNg15.out; omega) _) hb); have nOo13 := Aside0.mk (ObS.below (ObS.far (g := g15) (i := 0) HOo13.out (by have := HNg5.out; have := HNo6.out; have := HNo9.out; have := HNg12.out; have := HNo13.out; have := HNg14.out; have := HNo16.out; have := HNg15.out; omega) _) hb); have nOo16 := Aside0.mk (ObS.below (ObS.far (g := g15) (i := 0) HOo16.out (by have := HNg5.out; have := HNo6.out; have := HNo9.out; have := HNg12.out; have := HNo13.out; have := HNg14.out; have := HNo16.out; have := HNg15.out; omega) _) hb); have nBg5 := Aside0.mk (blk_below (g := g5) (o := .cells #[.slice A0 l0.length c0] 24 (0, 0)) (blk_far (p := ⟨g15, 0, none⟩) BKg5.out (show g5 ≠ g15 from (by have := HNg5.out; have := HNo6.out; have := HNo9.out; have := HNg12.out; have := HNo13.out; have := HNg14.out; have := HNo16.out; have := HNg15.out; omega)) _) hb); have nBg12 := Aside0.mk (blk_below (g := g12) (o := .cells #[.slice Ao9 t8.length co9] 28 (0, 0)) (blk_far (p := ⟨g15, 0, none⟩) BKg12.out (show g12 ≠ g15 from (by have := HNg5.out; have := HNo6.out; have := HNo9.out; have := HNg12.out; have := HNo13.out; have := HNg14.out; have := HNo16.out; have := HNg15.out; omega)) _) hb); have nBg14 := Aside0.mk (blk_below (g := g14) (o := .cells #[.slice Ao13 t12.length co13] 28 (0, 0)) (blk_far (p := ⟨g15, 0, none⟩) BKg14.out (show g14 ≠ g15 from (by have := HNg5.out; have := HNo6.out; have := HNo9.out; have := HNg12.out; have := HNo13.out; have := HNg14.out; have := HNo16.out; have := HNg15.out; omega)) _) hb); have nBg15 := Aside0.mk (blk_below (g := g15) (o := .cells #[.slice Ao16 t15.length co16] 28 (0, 0)) (blk_put (cs := #[.slice none 0 0]) BKg15.out 0 _ rfl) hb); have nHB := Aside0.mk (below_step (below_set HB.out (show w.heap.size ≤ g15 from (by have := HNg5.out; have := HNo6.out; have := HNo9.out; have := HNg12.out; have := HNo13.out; have := HNg14.out; have := HNo16.out; have := HNg15.out; omega))) hb); have nHT := Aside0.mk (top_below (top_far HT.out) hb); clear HB HT HOo6 HOo9 HOo13 HOo16 BKg5 BKg12 BKg14 BKg15; have HOo6 := nOo6; have HOo9 := nOo9; have HOo13 := nOo13; have HOo16 := nOo16; have BKg5 := nBg5; have BKg12 := nBg12; have BKg14 := nBg14; have BKg15 := nBg15; have HB := nHB; have HT := nHT; clear nHB nHT nOo6 nOo9 nOo13 nOo16 nBg5 nBg12 nBg14 nBg15; (try clear hb); (try clear hnd); have hczg5 : w10.cell? ⟨g5, 0, none⟩ = some (.slice A0 l0.length c0) := (blk_cell BKg5.out 0).trans rfl; have hfzg5 := blk_frozen BKg5.out 0; have hczg12 : w10.cell? ⟨g12, 0, none⟩ = some (.slice Ao9 t8.length co9) := (blk_cell BKg12.out 0).trans rfl; have hfzg12 := blk_frozen BKg12.out 0; have hczg14 : w10.cell? ⟨g14, 0, none⟩ = some (.slice Ao13 t12.length co13) := (blk_cell BKg14.out 0).trans rfl; have hfzg14 := blk_frozen BKg14.out 0; have hczg15 : w10.cell? ⟨g15, 0, none⟩ = some (.slice Ao16 t15.length co16) := (blk_cell BKg15.out 0).trans rfl; have hfzg15 := blk_frozen BKg15.out 0))
 (try clear hczg5 hfzg5 hczg12 hfzg12 hczg14 hfzg14 hczg15 hfzg15)
 have nOo6 := Aside0.mk (ObS.drew HOo6.out)
 have nOo9 := Aside0.mk (ObS.drew HOo9.out)
 have nOo13 := Aside0.mk (ObS.drew HOo13.out)
 have nOo16 := Aside0.mk (ObS.drew HOo16.out)
 have nBg5 := Aside0.mk (blk_drew BKg5.out)
 have nBg12 := Aside0.mk (blk_drew BKg12.out)
 have nBg14 := Aside0.mk (blk_drew BKg14.out)
 have nBg15 := Aside0.mk (blk_drew BKg15.out)
 have nHB := Aside0.mk (below_drew1 HB.out)
 have nHT := Aside0.mk (top_drew HT.out)
 clear HB HT HOo6 HOo9 HOo13 HOo16 BKg5 BKg12 BKg14 BKg15
 have HOo6 := nOo6
 have HOo9 := nOo9
 have HOo13 := nOo13
 have HOo16 := nOo16
 have BKg5 := nBg5
 have BKg12 := nBg12
 have BKg14 := nBg14
 have BKg15 := nBg15
 have HB := nHB
 have HT := nHT
 clear nHB nHT nOo6 nOo9 nOo13 nOo16 nBg5 nBg12 nBg14 nBg15
 refine start_ (n := 5) (S := fun w' => w'.cell? ⟨g14, 0, none⟩ = some (.slice Ao13 t12.length co13) ∧ w'.cell? ⟨g5, 0, none⟩ = some (.slice A0 l0.length c0)) (ds := []) #[false, false, false, false, false] (by kernel_rfl) rfl rfl ⟨(blk_cell BKg14.out 0).trans rfl, (blk_cell BKg5.out 0).trans rfl⟩ (fun hHeld => ?_)
 generalize hdr_ : World.drew _ = w11 at HOo6 HOo9 HOo13 HOo16 BKg5 BKg12 BKg14 BKg15 HB HT hHeld ⊢
 (try clear hdr_)
 refine take_ (i := 0) (N := some 57) (v := ?_) (a' := ?_) #[true, false, false, false, false] rfl rfl (by kernel_rfl) (fun _ _ _ h => h) (Or.inl ⟨by rfl, ?_⟩) hHeld ?_ ?_
 rotate_left
 next =>
  rintro w' ⟨s0, s1⟩
  go_simp
  with_reducible rfl
 rotate_left
 next =>
  simp only [Act.put, yay, yby, ycy, i64_w, i32_w]
  rfl
 refine take_ (i := 1) (N := some 58) (v := ?_) (a' := ?_) #[true, true, false, false, false] rfl rfl (by kernel_rfl) (fun _ _ _ h => h) (Or.inl ⟨by rfl, ?_⟩) hHeld ?_ ?_
 rotate_left
 next =>
  rintro w' ⟨s0, s1⟩
  go_simp
  with_reducible rfl
 rotate_left
 next =>
  simp only [Act.put, yay, yby, ycy, i64_w, i32_w]
  rfl
 refine one_ (i := 2) (N := some 59) #[true, true, true, false, false] rfl rfl (by kernel_rfl) (by decide) (fun K hK => ?_)
 refine goes_ Try.func17 (by kernel_rfl) rfl #[.agg #[.slice A0 l0.length c0]] (by rfl) rfl rfl (by (try simp only [yiy, yjy, yky]); first | done | rfl | (simp only [yly, ymy]; rfl)) ?_
 with_reducible refine (laws_toTriangulation.calls k _ _ l0 t22 _ ?side1 ?side2 H21.out).mono ?_
 (case side1 => exact Kd.C_below HR0.out HB.out)
 (case side2 => exact HC0.out)
 rintro e w12 ⟨vo23, rfl, ho0, hb⟩
 refine ⟨_, rfl, ?_⟩
 (try clear hczg5 hfzg5 hczg12 hfzg12 hczg14 hfzg14 hczg15 hfzg15)
 obtain ⟨loo23, hio23, hno23⟩ := ObS.made ho0 hb HT.out (below_size HB.out)
 have nOo6 := Aside0.mk (ObS.below HOo6.out hb)
 have nOo9 := Aside0.mk (ObS.below HOo9.out hb)
 have nOo13 := Aside0.mk (ObS.below HOo13.out hb)
 have nOo16 := Aside0.mk (ObS.below HOo16.out hb)
 have nBg5 := Aside0.mk (blk_below (g := g5) (o := .cells #[.slice A0 l0.length c0] 24 (0, 0)) BKg5.out hb)
 have nBg12 := Aside0.mk (blk_below (g := g12) (o := .cells #[.slice Ao9 t8.length co9] 28 (0, 0)) BKg12.out hb)
 have nBg14 := Aside0.mk (blk_below (g := g14) (o := .cells #[.slice Ao13 t12.length co13] 28 (0, 0)) BKg14.out hb)
 have nBg15 := Aside0.mk (blk_below (g := g15) (o := .cells #[.slice Ao16 t15.length co16] 28 (0, 0)) BKg15.out hb)
 have nHB := Aside0.mk (below_step HB.out hb)
 have nHT := Aside0.mk (top_below HT.out hb)
 clear HB HT HOo6 HOo9 HOo13 HOo16 BKg5 BKg12 BKg14 BKg15
 have HOo6 := nOo6
 have HOo9 := nOo9
 have HOo13 := nOo13
 have HOo16 := nOo16
 have BKg5 := nBg5
 have BKg12 := nBg12
 have BKg14 := nBg14
 have BKg15 := nBg15
 have HB := nHB
 have HT := nHT
 clear nHB nHT nOo6 nOo9 nOo13 nOo16 nBg5 nBg12 nBg14 nBg15
 have HNo23 := Aside0.mk hno23.1
 clear HT
 have HT := Aside0.mk hno23.2.1
 have HOo23 := Aside0.mk hno23.2.2
 clear hno23 ho0
 obtain ⟨Ao23, co23, eeo23⟩ := HOo23.out.slice
 subst eeo23
 (try clear hb)
 (try clear hnd)
 refine hK.out _ _ ⟨(blk_cell BKg14.out 0).trans rfl, (blk_cell BKg5.out 0).trans rfl⟩ (fun hHeld => ?_)
 clear hK K
 refine norm_ (a' := ?_) ?_ ?_
 rotate_left
 next =>
  show Act.put _ (some 59) _ = _
  simp only [Act.put, yay, yby, ycy, i64_w, i32_w]
  rfl
 refine one_ (i := 3) (N := some 60) #[true, true, true, true, false] rfl rfl (by kernel_rfl) (by decide) (fun K hK => ?_)
 refine goes_ Try.func19 (by kernel_rfl) rfl #[.agg #[.slice Ao13 t12.length co13], .agg #[.slice Ao23 t22.length co23]] (by rfl) rfl rfl (by (try simp only [yiy, yjy, yky]); first | done | rfl | (simp only [yly, ymy]; rfl)) ?_
 with_reducible refine (laws_eqTriangulation.calls k _ _ t12 _ _ t22 true _ ?side1 ?side2 ?side3 ?side4 H24.out).mono ?_
 (case side1 => exact (ObS.reads HOo13.out).2.2)
 (case side2 => exact ObS.room HOo13.out)
 (case side3 => exact (ObS.reads HOo23.out).2.2)
 (case side4 => exact ObS.room HOo23.out)
 rintro e w13 ⟨rfl, hb⟩
 refine ⟨_, rfl, ?_⟩
 (try clear hczg5 hfzg5 hczg12 hfzg12 hczg14 hfzg14 hczg15 hfzg15)
 have nOo6 := Aside0.mk (ObS.below HOo6.out hb)
 have nOo9 := Aside0.mk (ObS.below HOo9.out hb)
 have nOo13 := Aside0.mk (ObS.below HOo13.out hb)
 have nOo16 := Aside0.mk (ObS.below HOo16.out hb)
 have nOo23 := Aside0.mk (ObS.below HOo23.out hb)
 have nBg5 := Aside0.mk (blk_below (g := g5) (o := .cells #[.slice A0 l0.length c0] 24 (0, 0)) BKg5.out hb)
 have nBg12 := Aside0.mk (blk_below (g := g12) (o := .cells #[.slice Ao9 t8.length co9] 28 (0, 0)) BKg12.out hb)
 have nBg14 := Aside0.mk (blk_below (g := g14) (o := .cells #[.slice Ao13 t12.length co13] 28 (0, 0)) BKg14.out hb)
 have nBg15 := Aside0.mk (blk_below (g := g15) (o := .cells #[.slice Ao16 t15.length co16] 28 (0, 0)) BKg15.out hb)
 have nHB := Aside0.mk (below_step HB.out hb)
 have nHT := Aside0.mk (top_below HT.out hb)
 clear HB HT HOo6 HOo9 HOo13 HOo16 HOo23 BKg5 BKg12 BKg14 BKg15
 have HOo6 := nOo6
 have HOo9 := nOo9
 have HOo13 := nOo13
 have HOo16 := nOo16
 have HOo23 := nOo23
 have BKg5 := nBg5
 have BKg12 := nBg12
 have BKg14 := nBg14
 have BKg15 := nBg15
 have HB := nHB
 have HT := nHT
 clear nHB nHT nOo6 nOo9 nOo13 nOo16 nOo23 nBg5 nBg12 nBg14 nBg15
 (try clear hb)
 (try clear hnd)
 refine hK.out _ _ ⟨(blk_cell BKg14.out 0).trans rfl, (blk_cell BKg5.out 0).trans rfl⟩ (fun hHeld => ?_)
 clear hK K
 refine norm_ (a' := ?_) ?_ ?_
 rotate_left
 next =>
  show Act.put _ (some 60) _ = _
  simp only [Act.put, yay, yby, ycy, i64_w, i32_w]
  rfl
 refine pure_ (i := 4) (N := some 61) (v := ?_) (a' := ?_) #[true, true, true, true, true] rfl rfl (by kernel_rfl) (fun _ _ _ h => h) (Or.inl ⟨by rfl, ?_⟩) ?_ ?_
 rotate_left
 next =>
  intro w'
  go_simp
  with_reducible rfl
 rotate_left
 next =>
  simp only [Act.put, yay, yby, ycy, i64_w, i32_w]
  rfl
 refine done_ (by kernel_rfl) ?_
 have hczg5 : w13.cell? ⟨g5, 0, none⟩ = some (.slice A0 l0.length c0) := (blk_cell BKg5.out 0).trans rfl
 have hfzg5 := blk_frozen BKg5.out 0
 have hczg12 : w13.cell? ⟨g12, 0, none⟩ = some (.slice Ao9 t8.length co9) := (blk_cell BKg12.out 0).trans rfl
 have hfzg12 := blk_frozen BKg12.out 0
 have hczg14 : w13.cell? ⟨g14, 0, none⟩ = some (.slice Ao13 t12.length co13) := (blk_cell BKg14.out 0).trans rfl
 have hfzg14 := blk_frozen BKg14.out 0
 have hczg15 : w13.cell? ⟨g15, 0, none⟩ = some (.slice Ao16 t15.length co16) := (blk_cell BKg15.out 0).trans rfl
 have hfzg15 := blk_frozen BKg15.out 0
 try go_wp2_with (first | ((with_reducible refine gate_callee (f := 20) rfl ?_); refine goesL_ (some 64) rfl rfl Try.func20 (by kernel_rfl) rfl #[.agg #[.slice Ao13 t12.length co13], .int .i64 1] rfl (by (try simp only [yiy, yjy, yky]); first | done | rfl | (simp only [yly, ymy]; rfl)) ?_; (with_reducible refine (laws_markTriangulation.calls k (fun k_ => loo13 ≤ k_ ∧ k_ < hio13) (.slice Ao13 t12.length co13) t12 1 m27 y28 w _ HB.out (ObS.row HOo13.out) H26.out).mono ?_); rintro e w14 ⟨rfl, hy, hb, hk0⟩; refine ⟨_, rfl, ?_⟩; have hk := hk0; have nM := Aside0.mk (ObS.marked HOo13.out hy hk.1); (try clear hczg5 hfzg5 hczg12 hfzg12 hczg14 hfzg14 hczg15 hfzg15); have nOo6 := Aside0.mk (ObS.kept HOo6.out hk (by have := HNg5.out; have := HNo6.out; have := HNo9.out; have := HNg12.out; have := HNo13.out; have := HNg14.out; have := HNo16.out; have := HNg15.out; have := HNo23.out; omega)); have nOo9 := Aside0.mk (ObS.kept HOo9.out hk (by have := HNg5.out; have := HNo6.out; have := HNo9.out; have := HNg12.out; have := HNo13.out; have := HNg14.out; have := HNo16.out; have := HNg15.out; have := HNo23.out; omega)); have nOo16 := Aside0.mk (ObS.kept HOo16.out hk (by have := HNg5.out; have := HNo6.out; have := HNo9.out; have := HNg12.out; have := HNo13.out; have := HNg14.out; have := HNo16.out; have := HNg15.out; have := HNo23.out; omega)); have nOo23 := Aside0.mk (ObS.kept HOo23.out hk (by have := HNg5.out; have := HNo6.out; have := HNo9.out; have := HNg12.out; have := HNo13.out; have := HNg14.out; have := HNo16.out; have := HNg15.out; have := HNo23.out; omega)); have nBg5 := Aside0.mk (blk_kept (g := g5) (o := .cells #[.slice A0 l0.length c0] 24 (0, 0)) BKg5.out hk (fun h_ => by have h1_ := h_.1; have h2_ := h_.2; have := HNg5.out; have := HNo6.out; have := HNo9.out; have := HNg12.out; have := HNo13.out; have := HNg14.out; have := HNo16.out; have := HNg15.out; have := HNo23.out; omega)); have nBg12 := Aside0.mk (blk_kept (g := g12) (o := .cells #[.slice Ao9 t8.length co9] 28 (0, 0)) BKg12.out hk (fun h_ => by have h1_ := h_.1; have h2_ := h_.2; have := HNg5.out; have := HNo6.out; have := HNo9.out; have := HNg12.out; have := HNo13.out; have := HNg14.out; have := HNo16.out; have := HNg15.out; have := HNo23.out; omega)); have nBg14 := Aside0.mk (blk_kept (g := g14) (o := .cells #[.slice Ao13 t12.length co13] 28 (0, 0)) BKg14.out hk (fun h_ => by have h1_ := h_.1; have h2_ := h_.2; have := HNg5.out; have := HNo6.out; have := HNo9.out; have := HNg12.out; have := HNo13.out; have := HNg14.out; have := HNo16.out; have := HNg15.out; have := HNo23.out; omega)); have nBg15 := Aside0.mk (blk_kept (g := g15) (o := .cells #[.slice Ao16 t15.length co16] 28 (0, 0)) BKg15.out hk (fun h_ => by have h1_ := h_.1; have h2_ := h_.2; have := HNg5.out; have := HNo6.out; have := HNo9.out; have := HNg12.out; have := HNo13.out; have := HNg14.out; have := HNo16.out; have := HNg15.out; have := HNo23.out; omega)); have nHT := Aside0.mk (Nat.le_trans HT.out hk.1); clear HB HT HOo6 HOo9 HOo13 HOo16 HOo23 BKg5 BKg12 BKg14 BKg15; have HOo6 := nOo6; have HOo9 := nOo9; have HOo13 := nM; have HOo16 := nOo16; have HOo23 := nOo23; have BKg5 := nBg5; have BKg12 := nBg12; have BKg14 := nBg14; have BKg15 := nBg15; have HB := Aside0.mk hb; have HT := nHT; (try clear hy); clear hb hk0 hk nM nHT nOo6 nOo9 nOo16 nOo23 nBg5 nBg12 nBg14 nBg15; have hczg5 : w14.cell? ⟨g5, 0, none⟩ = some (.slice A0 l0.length c0) := (blk_cell BKg5.out 0).trans rfl; have hfzg5 := blk_frozen BKg5.out 0; have hczg12 : w14.cell? ⟨g12, 0, none⟩ = some (.slice Ao9 t8.length co9) := (blk_cell BKg12.out 0).trans rfl; have hfzg12 := blk_frozen BKg12.out 0; have hczg14 : w14.cell? ⟨g14, 0, none⟩ = some (.slice Ao13 t12.length co13) := (blk_cell BKg14.out 0).trans rfl; have hfzg14 := blk_frozen BKg14.out 0; have hczg15 : w14.cell? ⟨g15, 0, none⟩ = some (.slice Ao16 t15.length co16) := (blk_cell BKg15.out 0).trans rfl; have hfzg15 := blk_frozen BKg15.out 0))
 try go_wp2_with (first | (go_at_call 19; (with_reducible refine (laws_eqTriangulation.calls k _ _ t15 _ _ t8 true _ ?side1 ?side2 ?side3 ?side4 H30.out).mono ?_); (case side1 => exact (ObS.reads HOo16.out).2.2); (case side2 => exact ObS.room HOo16.out); (case side3 => exact (ObS.reads HOo9.out).2.2); (case side4 => exact ObS.room HOo9.out); rintro e w15 ⟨rfl, hb⟩; (try clear hczg5 hfzg5 hczg12 hfzg12 hczg14 hfzg14 hczg15 hfzg15); have nOo6 := Aside0.mk (ObS.below HOo6.out hb); have nOo9 := Aside0.mk (ObS.below HOo9.out hb); have nOo13 := Aside0.mk (ObS.below HOo13.out hb); have nOo16 := Aside0.mk (ObS.below HOo16.out hb); have nOo23 := Aside0.mk (ObS.below HOo23.out hb); have nBg5 := Aside0.mk (blk_below (g := g5) (o := .cells #[.slice A0 l0.length c0] 24 (0, 0)) BKg5.out hb); have nBg12 := Aside0.mk (blk_below (g := g12) (o := .cells #[.slice Ao9 t8.length co9] 28 (0, 0)) BKg12.out hb); have nBg14 := Aside0.mk (blk_below (g := g14) (o := .cells #[.slice Ao13 t12.length co13] 28 (0, 0)) BKg14.out hb); have nBg15 := Aside0.mk (blk_below (g := g15) (o := .cells #[.slice Ao16 t15.length co16] 28 (0, 0)) BKg15.out hb); have nHB := Aside0.mk (below_step HB.out hb); have nHT := Aside0.mk (top_below HT.out hb); clear HB HT HOo6 HOo9 HOo13 HOo16 HOo23 BKg5 BKg12 BKg14 BKg15; have HOo6 := nOo6; have HOo9 := nOo9; have HOo13 := nOo13; have HOo16 := nOo16; have HOo23 := nOo23; have BKg5 := nBg5; have BKg12 := nBg12; have BKg14 := nBg14; have BKg15 := nBg15; have HB := nHB; have HT := nHT; clear nHB nHT nOo6 nOo9 nOo13 nOo16 nOo23 nBg5 nBg12 nBg14 nBg15; (try clear hb); (try clear hnd); have hczg5 : w15.cell? ⟨g5, 0, none⟩ = some (.slice A0 l0.length c0) := (blk_cell BKg5.out 0).trans rfl; have hfzg5 := blk_frozen BKg5.out 0; have hczg12 : w15.cell? ⟨g12, 0, none⟩ = some (.slice Ao9 t8.length co9) := (blk_cell BKg12.out 0).trans rfl; have hfzg12 := blk_frozen BKg12.out 0; have hczg14 : w15.cell? ⟨g14, 0, none⟩ = some (.slice Ao13 t12.length co13) := (blk_cell BKg14.out 0).trans rfl; have hfzg14 := blk_frozen BKg14.out 0; have hczg15 : w15.cell? ⟨g15, 0, none⟩ = some (.slice Ao16 t15.length co16) := (blk_cell BKg15.out 0).trans rfl; have hfzg15 := blk_frozen BKg15.out 0) | ((with_reducible refine gate_callee (f := 20) rfl ?_); refine goesL_ (some 80) rfl rfl Try.func20 (by kernel_rfl) rfl #[.agg #[.slice Ao16 t15.length co16], .int .i64 1] rfl (by (try simp only [yiy, yjy, yky]); first | done | rfl | (simp only [yly, ymy]; rfl)) ?_; (with_reducible refine (laws_markTriangulation.calls k (fun k_ => loo16 ≤ k_ ∧ k_ < hio16) (.slice Ao16 t15.length co16) t15 1 m34 y35 w _ HB.out (ObS.row HOo16.out) H33.out).mono ?_); rintro e w16 ⟨rfl, hy, hb, hk0⟩; refine ⟨_, rfl, ?_⟩; have hk := hk0; have nM := Aside0.mk (ObS.marked HOo16.out hy hk.1); (try clear hczg5 hfzg5 hczg12 hfzg12 hczg14 hfzg14 hczg15 hfzg15); have nOo6 := Aside0.mk (ObS.kept HOo6.out hk (by have := HNg5.out; have := HNo6.out; have := HNo9.out; have := HNg12.out; have := HNo13.out; have := HNg14.out; have := HNo16.out; have := HNg15.out; have := HNo23.out; omega)); have nOo9 := Aside0.mk (ObS.kept HOo9.out hk (by have := HNg5.out; have := HNo6.out; have := HNo9.out; have := HNg12.out; have := HNo13.out; have := HNg14.out; have := HNo16.out; have := HNg15.out; have := HNo23.out; omega)); have nOo13 := Aside0.mk (ObS.kept HOo13.out hk (by have := HNg5.out; have := HNo6.out; have := HNo9.out; have := HNg12.out; have := HNo13.out; have := HNg14.out; have := HNo16.out; have := HNg15.out; have := HNo23.out; omega)); have nOo23 := Aside0.mk (ObS.kept HOo23.out hk (by have := HNg5.out; have := HNo6.out; have := HNo9.out; have := HNg12.out; have := HNo13.out; have := HNg14.out; have := HNo16.out; have := HNg15.out; have := HNo23.out; omega)); have nBg5 := Aside0.mk (blk_kept (g := g5) (o := .cells #[.slice A0 l0.length c0] 24 (0, 0)) BKg5.out hk (fun h_ => by have h1_ := h_.1; have h2_ := h_.2; have := HNg5.out; have := HNo6.out; have := HNo9.out; have := HNg12.out; have := HNo13.out; have := HNg14.out; have := HNo16.out; have := HNg15.out; have := HNo23.out; omega)); have nBg12 := Aside0.mk (blk_kept (g := g12) (o := .cells #[.slice Ao9 t8.length co9] 28 (0, 0)) BKg12.out hk (fun h_ => by have h1_ := h_.1; have h2_ := h_.2; have := HNg5.out; have := HNo6.out; have := HNo9.out; have := HNg12.out; have := HNo13.out; have := HNg14.out; have := HNo16.out; have := HNg15.out; have := HNo23.out; omega)); have nBg14 := Aside0.mk (blk_kept (g := g14) (o := .cells #[.slice Ao13 t12.length co13] 28 (0, 0)) BKg14.out hk (fun h_ => by have h1_ := h_.1; have h2_ := h_.2; have := HNg5.out; have := HNo6.out; have := HNo9.out; have := HNg12.out; have := HNo13.out; have := HNg14.out; have := HNo16.out; have := HNg15.out; have := HNo23.out; omega)); have nBg15 := Aside0.mk (blk_kept (g := g15) (o := .cells #[.slice Ao16 t15.length co16] 28 (0, 0)) BKg15.out hk (fun h_ => by have h1_ := h_.1; have h2_ := h_.2; have := HNg5.out; have := HNo6.out; have := HNo9.out; have := HNg12.out; have := HNo13.out; have := HNg14.out; have := HNo16.out; have := HNg15.out; have := HNo23.out; omega)); have nHT := Aside0.mk (Nat.le_trans HT.out hk.1); clear HB HT HOo6 HOo9 HOo13 HOo16 HOo23 BKg5 BKg12 BKg14 BKg15; have HOo6 := nOo6; have HOo9 := nOo9; have HOo13 := nOo13; have HOo16 := nM; have HOo23 := nOo23; have BKg5 := nBg5; have BKg12 := nBg12; have BKg14 := nBg14; have BKg15 := nBg15; have HB := Aside0.mk hb; have HT := nHT; (try clear hy); clear hb hk0 hk nM nHT nOo6 nOo9 nOo13 nOo23 nBg5 nBg12 nBg14 nBg15; have hczg5 : w16.cell? ⟨g5, 0, none⟩ = some (.slice A0 l0.length c0) := (blk_cell BKg5.out 0).trans rfl; have hfzg5 := blk_frozen BKg5.out 0; have hczg12 : w16.cell? ⟨g12, 0, none⟩ = some (.slice Ao9 t8.length co9) := (blk_cell BKg12.out 0).trans rfl; have hfzg12 := blk_frozen BKg12.out 0; have hczg14 : w16.cell? ⟨g14, 0, none⟩ = some (.slice Ao13 t12.length co13) := (blk_cell BKg14.out 0).trans rfl; have hfzg14 := blk_frozen BKg14.out 0; have hczg15 : w16.cell? ⟨g15, 0, none⟩ = some (.slice Ao16 t15.length co16) := (blk_cell BKg15.out 0).trans rfl; have hfzg15 := blk_frozen BKg15.out 0) | ((with_reducible refine gate_callee (f := 21) rfl ?_); refine goesL_ (some 83) rfl rfl Try.func21 (by kernel_rfl) rfl #[.agg #[.slice Ao16 y35.length co16], .int .i64 1] rfl (by (try simp only [yiy, yjy, yky]); first | done | (rw [show y35.length = t15.length from (ObS.reads HOo16.out).1.symm] <;> rfl) | rfl | (simp only [yly, ymy]; rfl)) ?_; (with_reducible refine (laws_heldTriangulation.calls k _ _ y35 1 t37 _ ?side1 ?side2 H36.out).mono ?_); (case side1 => exact (ObS.reads HOo16.out).2.2); (case side2 => exact ObS.room HOo16.out); rintro e w17 ⟨rfl, hb⟩; refine ⟨_, rfl, ?_⟩; (try clear hczg5 hfzg5 hczg12 hfzg12 hczg14 hfzg14 hczg15 hfzg15); have nOo6 := Aside0.mk (ObS.below HOo6.out hb); have nOo9 := Aside0.mk (ObS.below HOo9.out hb); have nOo13 := Aside0.mk (ObS.below HOo13.out hb); have nOo16 := Aside0.mk (ObS.below HOo16.out hb); have nOo23 := Aside0.mk (ObS.below HOo23.out hb); have nBg5 := Aside0.mk (blk_below (g := g5) (o := .cells #[.slice A0 l0.length c0] 24 (0, 0)) BKg5.out hb); have nBg12 := Aside0.mk (blk_below (g := g12) (o := .cells #[.slice Ao9 t8.length co9] 28 (0, 0)) BKg12.out hb); have nBg14 := Aside0.mk (blk_below (g := g14) (o := .cells #[.slice Ao13 t12.length co13] 28 (0, 0)) BKg14.out hb); have nBg15 := Aside0.mk (blk_below (g := g15) (o := .cells #[.slice Ao16 t15.length co16] 28 (0, 0)) BKg15.out hb); have nHB := Aside0.mk (below_step HB.out hb); have nHT := Aside0.mk (top_below HT.out hb); clear HB HT HOo6 HOo9 HOo13 HOo16 HOo23 BKg5 BKg12 BKg14 BKg15; have HOo6 := nOo6; have HOo9 := nOo9; have HOo13 := nOo13; have HOo16 := nOo16; have HOo23 := nOo23; have BKg5 := nBg5; have BKg12 := nBg12; have BKg14 := nBg14; have BKg15 := nBg15; have HB := nHB; have HT := nHT; clear nHB nHT nOo6 nOo9 nOo13 nOo16 nOo23 nBg5 nBg12 nBg14 nBg15; (try clear hb); (try clear hnd); have hczg5 : w17.cell? ⟨g5, 0, none⟩ = some (.slice A0 l0.length c0) := (blk_cell BKg5.out 0).trans rfl; have hfzg5 := blk_frozen BKg5.out 0; have hczg12 : w17.cell? ⟨g12, 0, none⟩ = some (.slice Ao9 t8.length co9) := (blk_cell BKg12.out 0).trans rfl; have hfzg12 := blk_frozen BKg12.out 0; have hczg14 : w17.cell? ⟨g14, 0, none⟩ = some (.slice Ao13 t12.length co13) := (blk_cell BKg14.out 0).trans rfl; have hfzg14 := blk_frozen BKg14.out 0; have hczg15 : w17.cell? ⟨g15, 0, none⟩ = some (.slice Ao16 t15.length co16) := (blk_cell BKg15.out 0).trans rfl; have hfzg15 := blk_frozen BKg15.out 0) | ((with_reducible refine gate_callee (f := 17) rfl ?_); refine goesL_ (some 91) rfl rfl Try.func17 (by kernel_rfl) rfl #[.agg #[.slice A0 l0.length c0]] rfl (by (try simp only [yiy, yjy, yky]); first | done | rfl | (simp only [yly, ymy]; rfl)) ?_; (with_reducible refine (laws_toTriangulation.calls k _ _ l0 t41 _ ?side1 ?side2 H40.out).mono ?_); (case side1 => exact Kd.C_below HR0.out HB.out); (case side2 => exact HC0.out); rintro e w18 ⟨vo42, rfl, ho0, hb⟩; refine ⟨_, rfl, ?_⟩; (try clear hczg5 hfzg5 hczg12 hfzg12 hczg14 hfzg14 hczg15 hfzg15); obtain ⟨loo42, hio42, hno42⟩ := ObS.made ho0 hb HT.out (below_size HB.out); have nOo6 := Aside0.mk (ObS.below HOo6.out hb); have nOo9 := Aside0.mk (ObS.below HOo9.out hb); have nOo13 := Aside0.mk (ObS.below HOo13.out hb); have nOo16 := Aside0.mk (ObS.below HOo16.out hb); have nOo23 := Aside0.mk (ObS.below HOo23.out hb); have nBg5 := Aside0.mk (blk_below (g := g5) (o := .cells #[.slice A0 l0.length c0] 24 (0, 0)) BKg5.out hb); have nBg12 := Aside0.mk (blk_below (g := g12) (o := .cells #[.slice Ao9 t8.length co9] 28 (0, 0)) BKg12.out hb); have nBg14 := Aside0.mk (blk_below (g := g14) (o := .cells #[.slice Ao13 t12.length co13] 28 (0, 0)) BKg14.out hb); have nBg15 := Aside0.mk (blk_below (g := g15) (o := .cells #[.slice Ao16 t15.length co16] 28 (0, 0)) BKg15.out hb); have nHB := Aside0.mk (below_step HB.out hb); have nHT := Aside0.mk (top_below HT.out hb); clear HB HT HOo6 HOo9 HOo13 HOo16 HOo23 BKg5 BKg12 BKg14 BKg15; have HOo6 := nOo6; have HOo9 := nOo9; have HOo13 := nOo13; have HOo16 := nOo16; have HOo23 := nOo23; have BKg5 := nBg5; have BKg12 := nBg12; have BKg14 := nBg14; have BKg15 := nBg15; have HB := nHB; have HT := nHT; clear nHB nHT nOo6 nOo9 nOo13 nOo16 nOo23 nBg5 nBg12 nBg14 nBg15; have HNo42 := Aside0.mk hno42.1; clear HT; have HT := Aside0.mk hno42.2.1; have HOo42 := Aside0.mk hno42.2.2; clear hno42 ho0; obtain ⟨Ao42, co42, eeo42⟩ := HOo42.out.slice; subst eeo42; (try clear hb); (try clear hnd); have hczg5 : w18.cell? ⟨g5, 0, none⟩ = some (.slice A0 l0.length c0) := (blk_cell BKg5.out 0).trans rfl; have hfzg5 := blk_frozen BKg5.out 0; have hczg12 : w18.cell? ⟨g12, 0, none⟩ = some (.slice Ao9 t8.length co9) := (blk_cell BKg12.out 0).trans rfl; have hfzg12 := blk_frozen BKg12.out 0; have hczg14 : w18.cell? ⟨g14, 0, none⟩ = some (.slice Ao13 t12.length co13) := (blk_cell BKg14.out 0).trans rfl; have hfzg14 := blk_frozen BKg14.out 0; have hczg15 : w18.cell? ⟨g15, 0, none⟩ = some (.slice Ao16 t15.length co16) := (blk_cell BKg15.out 0).trans rfl; have hfzg15 := blk_frozen BKg15.out 0) | ((with_reducible refine gate_callee (f := 23) rfl ?_); refine goesL_ (some 96) rfl rfl Try.func23 (by kernel_rfl) rfl #[.agg #[.slice Ao42 t41.length co42], .int .i64 a1, .int .i64 a2, .int .i64 a3, .int .i64 a4] rfl (by (try simp only [yiy, yjy, yky]); first | done | rfl | (simp only [yly, ymy]; rfl)) ?_; (with_reducible refine (impl_GlueFaces.calls k _ _ t41 a1 a2 a3 a4 t44 t46 _ ?side1 ?side2 H43.out).mono ?_); (case side1 => exact (ObS.reads HOo42.out).2.2); (case side2 => exact ObS.room HOo42.out); rintro e w19 ⟨vo45, rfl, ho0, hb⟩; refine ⟨_, rfl, ?_⟩; (try clear hczg5 hfzg5 hczg12 hfzg12 hczg14 hfzg14 hczg15 hfzg15); obtain ⟨loo45, hio45, hno45⟩ := ObS.made ho0 hb HT.out (below_size HB.out); have nOo6 := Aside0.mk (ObS.below HOo6.out hb); have nOo9 := Aside0.mk (ObS.below HOo9.out hb); have nOo13 := Aside0.mk (ObS.below HOo13.out hb); have nOo16 := Aside0.mk (ObS.below HOo16.out hb); have nOo23 := Aside0.mk (ObS.below HOo23.out hb); have nOo42 := Aside0.mk (ObS.below HOo42.out hb); have nBg5 := Aside0.mk (blk_below (g := g5) (o := .cells #[.slice A0 l0.length c0] 24 (0, 0)) BKg5.out hb); have nBg12 := Aside0.mk (blk_below (g := g12) (o := .cells #[.slice Ao9 t8.length co9] 28 (0, 0)) BKg12.out hb); have nBg14 := Aside0.mk (blk_below (g := g14) (o := .cells #[.slice Ao13 t12.length co13] 28 (0, 0)) BKg14.out hb); have nBg15 := Aside0.mk (blk_below (g := g15) (o := .cells #[.slice Ao16 t15.length co16] 28 (0, 0)) BKg15.out hb); have nHB := Aside0.mk (below_step HB.out hb); have nHT := Aside0.mk (top_below HT.out hb); clear HB HT HOo6 HOo9 HOo13 HOo16 HOo23 HOo42 BKg5 BKg12 BKg14 BKg15; have HOo6 := nOo6; have HOo9 := nOo9; have HOo13 := nOo13; have HOo16 := nOo16; have HOo23 := nOo23; have HOo42 := nOo42; have BKg5 := nBg5; have BKg12 := nBg12; have BKg14 := nBg14; have BKg15 := nBg15; have HB := nHB; have HT := nHT; clear nHB nHT nOo6 nOo9 nOo13 nOo16 nOo23 nOo42 nBg5 nBg12 nBg14 nBg15; have HNo45 := Aside0.mk hno45.1; clear HT; have HT := Aside0.mk hno45.2.1; have HOo45 := Aside0.mk hno45.2.2; clear hno45 ho0; obtain ⟨Ao45, co45, eeo45⟩ := HOo45.out.slice; subst eeo45; (try clear hb); (try clear hnd); have hczg5 : w19.cell? ⟨g5, 0, none⟩ = some (.slice A0 l0.length c0) := (blk_cell BKg5.out 0).trans rfl; have hfzg5 := blk_frozen BKg5.out 0; have hczg12 : w19.cell? ⟨g12, 0, none⟩ = some (.slice Ao9 t8.length co9) := (blk_cell BKg12.out 0).trans rfl; have hfzg12 := blk_frozen BKg12.out 0; have hczg14 : w19.cell? ⟨g14, 0, none⟩ = some (.slice Ao13 t12.length co13) := (blk_cell BKg14.out 0).trans rfl; have hfzg14 := blk_frozen BKg14.out 0; have hczg15 : w19.cell? ⟨g15, 0, none⟩ = some (.slice Ao16 t15.length co16) := (blk_cell BKg15.out 0).trans rfl; have hfzg15 := blk_frozen BKg15.out 0) | ((with_reducible refine gate_dst (N := 20) rfl ?_); refine box_event ?hg (N := 20) ?hd (cs := #[.slice none 0 0]) (t := 28) ?hr ?_; (case hd => rfl); (case hg => rfl); (case hr => first | (go_simp; done) | (go_simp; rfl)); intro g20 hg w20 hbox hb; (try clear hczg5 hfzg5 hczg12 hfzg12 hczg14 hfzg14 hczg15 hfzg15); have HNg20 := Aside0.mk (by rw [hg]; exact HT.out : hio45 ≤ g20); have HXg20 := Aside0.mk (show g20 + 1 ≤ w20.heap.size from blk_lt hbox); have nOo6 := Aside0.mk (ObS.below HOo6.out hb); have nOo9 := Aside0.mk (ObS.below HOo9.out hb); have nOo13 := Aside0.mk (ObS.below HOo13.out hb); have nOo16 := Aside0.mk (ObS.below HOo16.out hb); have nOo23 := Aside0.mk (ObS.below HOo23.out hb); have nOo42 := Aside0.mk (ObS.below HOo42.out hb); have nOo45 := Aside0.mk (ObS.below HOo45.out hb); have nBg5 := Aside0.mk (blk_below (g := g5) (o := .cells #[.slice A0 l0.length c0] 24 (0, 0)) BKg5.out hb); have nBg12 := Aside0.mk (blk_below (g := g12) (o := .cells #[.slice Ao9 t8.length co9] 28 (0, 0)) BKg12.out hb); have nBg14 := Aside0.mk (blk_below (g := g14) (o := .cells #[.slice Ao13 t12.length co13] 28 (0, 0)) BKg14.out hb); have nBg15 := Aside0.mk (blk_below (g := g15) (o := .cells #[.slice Ao16 t15.length co16] 28 (0, 0)) BKg15.out hb); have nHB := Aside0.mk (below_step HB.out hb); have nHT := Aside0.mk (top_below HT.out hb); clear HB HT HOo6 HOo9 HOo13 HOo16 HOo23 HOo42 HOo45 BKg5 BKg12 BKg14 BKg15; have HOo6 := nOo6; have HOo9 := nOo9; have HOo13 := nOo13; have HOo16 := nOo16; have HOo23 := nOo23; have HOo42 := nOo42; have HOo45 := nOo45; have BKg5 := nBg5; have BKg12 := nBg12; have BKg14 := nBg14; have BKg15 := nBg15; have HB := nHB; have HT := nHT; clear nHB nHT nOo6 nOo9 nOo13 nOo16 nOo23 nOo42 nOo45 nBg5 nBg12 nBg14 nBg15; clear HT; have HT := HXg20; clear HXg20; have BKg20 := Aside0.mk hbox; clear hg hbox hb; have hnbg20_g5 : g20 ≠ g5 := (by have := HNg5.out; have := HNo6.out; have := HNo9.out; have := HNg12.out; have := HNo13.out; have := HNg14.out; have := HNo16.out; have := HNg15.out; have := HNo23.out; have := HNo42.out; have := HNo45.out; have := HNg20.out; omega); have hnbg5_g20 : g5 ≠ g20 := (by have := HNg5.out; have := HNo6.out; have := HNo9.out; have := HNg12.out; have := HNo13.out; have := HNg14.out; have := HNo16.out; have := HNg15.out; have := HNo23.out; have := HNo42.out; have := HNo45.out; have := HNg20.out; omega); have hnbg20_g12 : g20 ≠ g12 := (by have := HNg5.out; have := HNo6.out; have := HNo9.out; have := HNg12.out; have := HNo13.out; have := HNg14.out; have := HNo16.out; have := HNg15.out; have := HNo23.out; have := HNo42.out; have := HNo45.out; have := HNg20.out; omega); have hnbg12_g20 : g12 ≠ g20 := (by have := HNg5.out; have := HNo6.out; have := HNo9.out; have := HNg12.out; have := HNo13.out; have := HNg14.out; have := HNo16.out; have := HNg15.out; have := HNo23.out; have := HNo42.out; have := HNo45.out; have := HNg20.out; omega); have hnbg20_g14 : g20 ≠ g14 := (by have := HNg5.out; have := HNo6.out; have := HNo9.out; have := HNg12.out; have := HNo13.out; have := HNg14.out; have := HNo16.out; have := HNg15.out; have := HNo23.out; have := HNo42.out; have := HNo45.out; have := HNg20.out; omega); have hnbg14_g20 : g14 ≠ g20 := (by have := HNg5.out; have := HNo6.out; have := HNo9.out; have := HNg12.out; have := HNo13.out; have := HNg14.out; have := HNo16.out; have := HNg15.out; have := HNo23.out; have := HNo42.out; have := HNo45.out; have := HNg20.out; omega); have hnbg20_g15 : g20 ≠ g15 := (by have := HNg5.out; have := HNo6.out; have := HNo9.out; have := HNg12.out; have := HNo13.out; have := HNg14.out; have := HNo16.out; have := HNg15.out; have := HNo23.out; have := HNo42.out; have := HNo45.out; have := HNg20.out; omega); have hnbg15_g20 : g15 ≠ g20 := (by have := HNg5.out; have := HNo6.out; have := HNo9.out; have := HNg12.out; have := HNo13.out; have := HNg14.out; have := HNo16.out; have := HNg15.out; have := HNo23.out; have := HNo42.out; have := HNo45.out; have := HNg20.out; omega); have hczg5 : w20.cell? ⟨g5, 0, none⟩ = some (.slice A0 l0.length c0) := (blk_cell BKg5.out 0).trans rfl; have hfzg5 := blk_frozen BKg5.out 0; have hczg12 : w20.cell? ⟨g12, 0, none⟩ = some (.slice Ao9 t8.length co9) := (blk_cell BKg12.out 0).trans rfl; have hfzg12 := blk_frozen BKg12.out 0; have hczg14 : w20.cell? ⟨g14, 0, none⟩ = some (.slice Ao13 t12.length co13) := (blk_cell BKg14.out 0).trans rfl; have hfzg14 := blk_frozen BKg14.out 0; have hczg15 : w20.cell? ⟨g15, 0, none⟩ = some (.slice Ao16 t15.length co16) := (blk_cell BKg15.out 0).trans rfl; have hfzg15 := blk_frozen BKg15.out 0; have hczg20 : w20.cell? ⟨g20, 0, none⟩ = some (.slice none 0 0) := (blk_cell BKg20.out 0).trans rfl; have hfzg20 := blk_frozen BKg20.out 0) | ((with_reducible refine gate_callee (f := 19) rfl ?_); refine goesL_ (some 101) rfl rfl Try.func19 (by kernel_rfl) rfl #[.agg #[.slice Ao45 t44.length co45], .agg #[.slice Ao9 t8.length co9]] rfl (by (try simp only [yiy, yjy, yky]); first | done | rfl | (simp only [yly, ymy]; rfl)) ?_; (with_reducible refine (laws_eqTriangulation.calls k _ _ t44 _ _ t8 true _ ?side1 ?side2 ?side3 ?side4 H47.out).mono ?_); (case side1 => exact (ObS.reads (ObS.far (g := g20) (i := 0) HOo45.out (by have := HNg5.out; have := HNo6.out; have := HNo9.out; have := HNg12.out; have := HNo13.out; have := HNg14.out; have := HNo16.out; have := HNg15.out; have := HNo23.out; have := HNo42.out; have := HNo45.out; have := HNg20.out; omega) _)).2.2); (case side2 => exact ObS.room HOo45.out); (case side3 => exact (ObS.reads (ObS.far (g := g20) (i := 0) HOo9.out (by have := HNg5.out; have := HNo6.out; have := HNo9.out; have := HNg12.out; have := HNo13.out; have := HNg14.out; have := HNo16.out; have := HNg15.out; have := HNo23.out; have := HNo42.out; have := HNo45.out; have := HNg20.out; omega) _)).2.2); (case side4 => exact ObS.room HOo9.out); rintro e w21 ⟨rfl, hb⟩; refine ⟨_, rfl, ?_⟩; (try clear hczg5 hfzg5 hczg12 hfzg12 hczg14 hfzg14 hczg15 hfzg15 hczg20 hfzg20); have nOo6 := Aside0.mk (ObS.below (ObS.far (g := g20) (i := 0) HOo6.out (by have := HNg5.out; have := HNo6.out; have := HNo9.out; have := HNg12.out; have := HNo13.out; have := HNg14.out; have := HNo16.out; have := HNg15.out; have := HNo23.out; have := HNo42.out; have := HNo45.out; have := HNg20.out; omega) _) hb); have nOo9 := Aside0.mk (ObS.below (ObS.far (g := g20) (i := 0) HOo9.out (by have := HNg5.out; have := HNo6.out; have := HNo9.out; have := HNg12.out; have := HNo13.out; have := HNg14.out; have := HNo16.out; have := HNg15.out; have := HNo23.out; have := HNo42.out; have := HNo45.out; have := HNg20.out; omega) _) hb); have nOo13 := Aside0.mk (ObS.below (ObS.far (g := g20) (i := 0) HOo13.out (by have := HNg5.out; have := HNo6.out; have := HNo9.out; have := HNg12.out; have := HNo13.out; have := HNg14.out; have := HNo16.out; have := HNg15.out; have := HNo23.out; have := HNo42.out; have := HNo45.out; have := HNg20.out; omega) _) hb); have nOo16 := Aside0.mk (ObS.below (ObS.far (g := g20) (i := 0) HOo16.out (by have := HNg5.out; have := HNo6.out; have := HNo9.out; have := HNg12.out; have := HNo13.out; have := HNg14.out; have := HNo16.out; have := HNg15.out; have := HNo23.out; have := HNo42.out; have := HNo45.out; have := HNg20.out; omega) _) hb); have nOo23 := Aside0.mk (ObS.below (ObS.far (g := g20) (i := 0) HOo23.out (by have := HNg5.out; have := HNo6.out; have := HNo9.out; have := HNg12.out; have := HNo13.out; have := HNg14.out; have := HNo16.out; have := HNg15.out; have := HNo23.out; have := HNo42.out; have := HNo45.out; have := HNg20.out; omega) _) hb); have nOo42 := Aside0.mk (ObS.below (ObS.far (g := g20) (i := 0) HOo42.out (by have := HNg5.out; have := HNo6.out; have := HNo9.out; have := HNg12.out; have := HNo13.out; have := HNg14.out; have := HNo16.out; have := HNg15.out; have := HNo23.out; have := HNo42.out; have := HNo45.out; have := HNg20.out; omega) _) hb); have nOo45 := Aside0.mk (ObS.below (ObS.far (g := g20) (i := 0) HOo45.out (by have := HNg5.out; have := HNo6.out; have := HNo9.out; have := HNg12.out; have := HNo13.out; have := HNg14.out; have := HNo16.out; have := HNg15.out; have := HNo23.out; have := HNo42.out; have := HNo45.out; have := HNg20.out; omega) _) hb); have nBg5 := Aside0.mk (blk_below (g := g5) (o := .cells #[.slice A0 l0.length c0] 24 (0, 0)) (blk_far (p := ⟨g20, 0, none⟩) BKg5.out (show g5 ≠ g20 from (by have := HNg5.out; have := HNo6.out; have := HNo9.out; have := HNg12.out; have := HNo13.out; have := HNg14.out; have := HNo16.out; have := HNg15.out; have := HNo23.out; have := HNo42.out; have := HNo45.out; have := HNg20.out; omega)) _) hb); have nBg12 := Aside0.mk (blk_below (g := g12) (o := .cells #[.slice Ao9 t8.length co9] 28 (0, 0)) (blk_far (p := ⟨g20, 0, none⟩) BKg12.out (show g12 ≠ g20 from (by have := HNg5.out; have := HNo6.out; have := HNo9.out; have := HNg12.out; have := HNo13.out; have := HNg14.out; have := HNo16.out; have := HNg15.out; have := HNo23.out; have := HNo42.out; have := HNo45.out; have := HNg20.out; omega)) _) hb); have nBg14 := Aside0.mk (blk_below (g := g14) (o := .cells #[.slice Ao13 t12.length co13] 28 (0, 0)) (blk_far (p := ⟨g20, 0, none⟩) BKg14.out (show g14 ≠ g20 from (by have := HNg5.out; have := HNo6.out; have := HNo9.out; have := HNg12.out; have := HNo13.out; have := HNg14.out; have := HNo16.out; have := HNg15.out; have := HNo23.out; have := HNo42.out; have := HNo45.out; have := HNg20.out; omega)) _) hb); have nBg15 := Aside0.mk (blk_below (g := g15) (o := .cells #[.slice Ao16 t15.length co16] 28 (0, 0)) (blk_far (p := ⟨g20, 0, none⟩) BKg15.out (show g15 ≠ g20 from (by have := HNg5.out; have := HNo6.out; have := HNo9.out; have := HNg12.out; have := HNo13.out; have := HNg14.out; have := HNo16.out; have := HNg15.out; have := HNo23.out; have := HNo42.out; have := HNo45.out; have := HNg20.out; omega)) _) hb); have nBg20 := Aside0.mk (blk_below (g := g20) (o := .cells #[.slice Ao45 t44.length co45] 28 (0, 0)) (blk_put (cs := #[.slice none 0 0]) BKg20.out 0 _ rfl) hb); have nHB := Aside0.mk (below_step (below_set HB.out (show w.heap.size ≤ g20 from (by have := HNg5.out; have := HNo6.out; have := HNo9.out; have := HNg12.out; have := HNo13.out; have := HNg14.out; have := HNo16.out; have := HNg15.out; have := HNo23.out; have := HNo42.out; have := HNo45.out; have := HNg20.out; omega))) hb); have nHT := Aside0.mk (top_below (top_far HT.out) hb); clear HB HT HOo6 HOo9 HOo13 HOo16 HOo23 HOo42 HOo45 BKg5 BKg12 BKg14 BKg15 BKg20; have HOo6 := nOo6; have HOo9 := nOo9; have HOo13 := nOo13; have HOo16 := nOo16; have HOo23 := nOo23; have HOo42 := nOo42; have HOo45 := nOo45; have BKg5 := nBg5; have BKg12 := nBg12; have BKg14 := nBg14; have BKg15 := nBg15; have BKg20 := nBg20; have HB := nHB; have HT := nHT; clear nHB nHT nOo6 nOo9 nOo13 nOo16 nOo23 nOo42 nOo45 nBg5 nBg12 nBg14 nBg15 nBg20; (try clear hb); (try clear hnd); have hczg5 : w21.cell? ⟨g5, 0, none⟩ = some (.slice A0 l0.length c0) := (blk_cell BKg5.out 0).trans rfl; have hfzg5 := blk_frozen BKg5.out 0; have hczg12 : w21.cell? ⟨g12, 0, none⟩ = some (.slice Ao9 t8.length co9) := (blk_cell BKg12.out 0).trans rfl; have hfzg12 := blk_frozen BKg12.out 0; have hczg14 : w21.cell? ⟨g14, 0, none⟩ = some (.slice Ao13 t12.length co13) := (blk_cell BKg14.out 0).trans rfl; have hfzg14 := blk_frozen BKg14.out 0; have hczg15 : w21.cell? ⟨g15, 0, none⟩ = some (.slice Ao16 t15.length co16) := (blk_cell BKg15.out 0).trans rfl; have hfzg15 := blk_frozen BKg15.out 0; have hczg20 : w21.cell? ⟨g20, 0, none⟩ = some (.slice Ao45 t44.length co45) := (blk_cell BKg20.out 0).trans rfl; have hfzg20 := blk_frozen BKg20.out 0) | ((with_reducible refine gate_callee (f := 21) rfl ?_); refine goesL_ (some 110) rfl rfl Try.func21 (by kernel_rfl) rfl #[.agg #[.slice Ao16 y35.length co16], .int .i64 1] rfl (by (try simp only [yiy, yjy, yky]); first | done | (rw [show y35.length = t15.length from (ObS.reads HOo16.out).1.symm] <;> rfl) | rfl | (simp only [yly, ymy]; rfl)) ?_; (with_reducible refine (laws_heldTriangulation.calls k _ _ y35 1 t51 _ ?side1 ?side2 H50.out).mono ?_); (case side1 => exact (ObS.reads HOo16.out).2.2); (case side2 => exact ObS.room HOo16.out); rintro e w22 ⟨rfl, hb⟩; refine ⟨_, rfl, ?_⟩; (try clear hczg5 hfzg5 hczg12 hfzg12 hczg14 hfzg14 hczg15 hfzg15 hczg20 hfzg20); have nOo6 := Aside0.mk (ObS.below HOo6.out hb); have nOo9 := Aside0.mk (ObS.below HOo9.out hb); have nOo13 := Aside0.mk (ObS.below HOo13.out hb); have nOo16 := Aside0.mk (ObS.below HOo16.out hb); have nOo23 := Aside0.mk (ObS.below HOo23.out hb); have nOo42 := Aside0.mk (ObS.below HOo42.out hb); have nOo45 := Aside0.mk (ObS.below HOo45.out hb); have nBg5 := Aside0.mk (blk_below (g := g5) (o := .cells #[.slice A0 l0.length c0] 24 (0, 0)) BKg5.out hb); have nBg12 := Aside0.mk (blk_below (g := g12) (o := .cells #[.slice Ao9 t8.length co9] 28 (0, 0)) BKg12.out hb); have nBg14 := Aside0.mk (blk_below (g := g14) (o := .cells #[.slice Ao13 t12.length co13] 28 (0, 0)) BKg14.out hb); have nBg15 := Aside0.mk (blk_below (g := g15) (o := .cells #[.slice Ao16 t15.length co16] 28 (0, 0)) BKg15.out hb); have nBg20 := Aside0.mk (blk_below (g := g20) (o := .cells #[.slice Ao45 t44.length co45] 28 (0, 0)) BKg20.out hb); have nHB := Aside0.mk (below_step HB.out hb); have nHT := Aside0.mk (top_below HT.out hb); clear HB HT HOo6 HOo9 HOo13 HOo16 HOo23 HOo42 HOo45 BKg5 BKg12 BKg14 BKg15 BKg20; have HOo6 := nOo6; have HOo9 := nOo9; have HOo13 := nOo13; have HOo16 := nOo16; have HOo23 := nOo23; have HOo42 := nOo42; have HOo45 := nOo45; have BKg5 := nBg5; have BKg12 := nBg12; have BKg14 := nBg14; have BKg15 := nBg15; have BKg20 := nBg20; have HB := nHB; have HT := nHT; clear nHB nHT nOo6 nOo9 nOo13 nOo16 nOo23 nOo42 nOo45 nBg5 nBg12 nBg14 nBg15 nBg20; (try clear hb); (try clear hnd); have hczg5 : w22.cell? ⟨g5, 0, none⟩ = some (.slice A0 l0.length c0) := (blk_cell BKg5.out 0).trans rfl; have hfzg5 := blk_frozen BKg5.out 0; have hczg12 : w22.cell? ⟨g12, 0, none⟩ = some (.slice Ao9 t8.length co9) := (blk_cell BKg12.out 0).trans rfl; have hfzg12 := blk_frozen BKg12.out 0; have hczg14 : w22.cell? ⟨g14, 0, none⟩ = some (.slice Ao13 t12.length co13) := (blk_cell BKg14.out 0).trans rfl; have hfzg14 := blk_frozen BKg14.out 0; have hczg15 : w22.cell? ⟨g15, 0, none⟩ = some (.slice Ao16 t15.length co16) := (blk_cell BKg15.out 0).trans rfl; have hfzg15 := blk_frozen BKg15.out 0; have hczg20 : w22.cell? ⟨g20, 0, none⟩ = some (.slice Ao45 t44.length co45) := (blk_cell BKg20.out 0).trans rfl; have hfzg20 := blk_frozen BKg20.out 0))
 go_ret
 exact ⟨by first | rfl | (simp <;> rfl), HB.out⟩
end Go.Proofs.Ytdgdnnjigigkcaa.P
namespace Go.Proofs.Ytdgdnnjigigkcaa.Lib
set_option linter.unusedVariables false
open Go.RowKit Go.Proofs.YtdgdnnjigigkcaaW.PrintWords
/-- A loop comes to g of its first state: at each state it ends with g, or goes on at a smaller state of the same g. -/
theorem ev_loop {σ ρ : Type} (L : Nat → σ → Option ρ) (I : σ → Prop) (m : σ → Nat) (g : σ → ρ)
    (h : ∀ s, I s → (∃ K, ∀ k, K ≤ k → L (k + 1) s = some (g s)) ∨ (∃ s' K, I s' ∧ m s' < m s ∧ g s' = g s ∧ ∀ k, K ≤ k → L (k + 1) s = L k s')) :
    ∀ s, I s → Ev (fun k => L k s) (g s) := by
  have key : ∀ (n : Nat) (s : σ), m s < n → I s → Ev (fun k => L k s) (g s) := by
    intro n
    induction n with
    | zero => intro s hs; omega
    | succ n ih =>
      intro s hs hi
      rcases h s hi with ⟨K, hK⟩ | ⟨s', K, hi', hm, hg, hK⟩
      · refine ⟨K + 1, fun k hk => ?_⟩
        obtain ⟨j, rfl⟩ : ∃ j, k = j + 1 := ⟨k - 1, by omega⟩
        exact hK j (by omega)
      · obtain ⟨K', hK'⟩ := ih s' (by omega) hi'
        refine ⟨max K K' + 1, fun k hk => ?_⟩
        obtain ⟨j, rfl⟩ : ∃ j, k = j + 1 := ⟨k - 1, by omega⟩
        show L (j + 1) s = some (g s)
        rw [hK j (by omega), ← hg]
        exact hK' j (by omega)
  intro s hi
  exact key (m s + 1) s (by omega) hi
/-- The same, where a round asks for no number of rounds. -/
theorem ev_loop0 {σ ρ : Type} (L : Nat → σ → Option ρ) (I : σ → Prop) (m : σ → Nat) (g : σ → ρ)
    (h : ∀ s, I s → (∀ k, L (k + 1) s = some (g s)) ∨ (∃ s', I s' ∧ m s' < m s ∧ g s' = g s ∧ ∀ k, L (k + 1) s = L k s')) :
    ∀ s, I s → Ev (fun k => L k s) (g s) :=
  ev_loop L I m g fun s hi => by
    rcases h s hi with h1 | ⟨s', h1, h2, h3, h4⟩
    · exact .inl ⟨0, fun k _ => h1 k⟩
    · exact .inr ⟨s', 0, h1, h2, h3, fun k _ => h4 k⟩
theorem wrap_id {x : Int} (h0 : -9223372036854775808 ≤ x) (h1 : x ≤ 9223372036854775807) : wrap64 x = x := by
  unfold wrap64; omega
theorem wrap_succ {n : Nat} (h : n ≤ 4611686018427387904) : wrap64 ((n : Int) + 1) = ((n + 1 : Nat) : Int) := by
  rw [wrap_id (by omega) (by omega)]; rfl
theorem ev_neg {α : Type} {c : Prop} [Decidable c] {f g : Nat → Option α} {r : α} (h : ¬ c) (k : Ev g r) : Ev (fun n => if c then f n else g n) r := Ev.congr (fun _ => if_neg h) k
theorem ev_pos {α : Type} {c : Prop} [Decidable c] {f g : Nat → Option α} {r : α} (h : c) (k : Ev f r) : Ev (fun n => if c then f n else g n) r := Ev.congr (fun _ => if_pos h) k
theorem ev_some {α : Type} {r r' : α} (h : r = r') : Ev (fun _ => some r) r' := h ▸ Ev.now r
theorem ev_const {α : Type} {o : Option α} {r : α} (h : o = some r) : Ev (fun _ => o) r := ⟨0, fun _ _ => h⟩
theorem ev_const' {α : Type} {g : Nat → Option α} {r : α} (h : ∀ k, g k = some r) : Ev g r := ⟨0, fun k _ => h k⟩
/-- A function whose first step takes one round. -/
theorem ev_step {α : Type} {g f : Nat → Option α} {r : α} (h : ∀ k, g (k + 1) = f k) (k : Ev f r) : Ev g r := Ev.step h k
theorem idxO_any {α : Type} {f : α → Option Bool} {p : α → Bool} : ∀ (i : Nat) (l : List α), (∀ x ∈ l, f x = some (p x)) → ∃ r, idxO f i l = some r ∧ decide (0 ≤ r) = l.any p
  | i, [], _ => ⟨-1, rfl, rfl⟩
  | i, x :: xs, h => by
    rw [idxO_cons, h x (List.mem_cons_self ..), yfy]
    cases hp : p x with
    | true => exact ⟨i, by rw [if_pos rfl], by simp [hp]⟩
    | false =>
      obtain ⟨r, h1, h2⟩ := idxO_any (i + 1) xs (fun y hy => h y (List.mem_cons_of_mem _ hy))
      exact ⟨r, by rw [if_neg (by simp)]; exact h1, by rw [h2]; simp [hp]⟩
theorem contO {α : Type} {f : α → Option Bool} {p : α → Bool} (l : List α) (h : ∀ x ∈ l, f x = some (p x)) : (idxO f 0 l).bind (fun i => some (decide (0 ≤ i))) = some (l.any p) := by
  obtain ⟨r, h1, h2⟩ := idxO_any 0 l h
  rw [h1, yfy, h2]
end Go.Proofs.Ytdgdnnjigigkcaa.Lib
namespace Go.Proofs.Ytdgdnnjigigkcaa.P
open Go.RowKit Go.Proofs.YtdgdnnjigigkcaaW.PrintWords Go.Proofs.Ytdgdnnjigigkcaa.Lib
set_option linter.unusedVariables false
theorem inRange_eq (a b c : Int) : impl_inRange.f a b c = some (decide (b ≤ a) && decide (a ≤ c)) := by
  unfold impl_inRange.f
  by_cases h : b ≤ a <;> simp [h]
theorem l07In_eq (a b c : Int) : spec_l07In.f a b c = some (decide (b ≤ a) && decide (a ≤ c)) := by
  unfold spec_l07In.f
  by_cases h : b ≤ a <;> simp [h]
theorem l06Valid_eq (a : Int) : spec_l06Valid.f a = some (decide (0 ≤ a) && decide (a ≤ 23)) := by
  unfold spec_l06Valid.f
  by_cases h : 0 ≤ a
  · rw [if_pos h]; simp [h]; omega
  · rw [if_neg h]; simp [h]
theorem isPerm_eq (a : Int) : impl_isPerm.f a = some (decide (0 ≤ a) && decide (a ≤ 23)) := by
  unfold impl_isPerm.f; rw [inRange_eq]; rfl
/-- A number that is the index of a permutation. -/
theorem fin_of {p : Int} (h0 : 0 ≤ p) (h1 : p ≤ 23) : ∃ m : Fin 24, p = (m.val : Int) := ⟨⟨p.toNat, by omega⟩, by simp; omega⟩
theorem l06Images_ev {p : Int} (h0 : 0 ≤ p) (h1 : p ≤ 23) : Ev (fun k => spec_l06Images.f k p) (permL p) := by
  obtain ⟨m, rfl⟩ := fin_of h0 h1
  have key : ∀ m : Fin 24, spec_l06Images.f 5 (m.val : Int) = some (permL (m.val : Int)) := by decide +kernel
  exact Ev.of (fun k => spec_l06Images.mono _ k) (key m)
theorem permL_len (p : Int) : (permL p).length = 4 := rfl
theorem permL_sm {p f : Int} (h0 : 0 ≤ p) (h1 : p ≤ 23) (hf0 : 0 ≤ f) (hf1 : f ≤ 3) : 0 ≤ rd (permL p) f ∧ rd (permL p) f ≤ 3 := by
  obtain ⟨a, b, c, d⟩ := permAt_sm p h0 h1
  exact rd_four_sm a b c d f hf0 hf1
theorem l06At_ev {p f : Int} (h0 : 0 ≤ p) (h1 : p ≤ 23) (hf0 : 0 ≤ f) (hf1 : f ≤ 3) : Ev (fun k => spec_l06At.f k p f) (rd (permL p) f) := by
  refine Ev.bind (l06Images_ev h0 h1) ?_
  exact ev_pos hf0 (ev_pos (by rw [permL_len]; omega) (Ev.now _))
theorem l06Back_ev {p : Int} (h0 : 0 ≤ p) (h1 : p ≤ 23) : Ev (fun k => spec_l06Back.f k p) (invP p) := by
  obtain ⟨m, rfl⟩ := fin_of h0 h1
  have key : ∀ m : Fin 24, spec_l06Back.f 40 (m.val : Int) = some (invP (m.val : Int)) := by decide +kernel
  exact Ev.of (fun k => spec_l06Back.mono _ k) (key m)
theorem target_eq {q p f : Int} (h0 : 0 ≤ p) (h1 : p ≤ 23) (hf0 : 0 ≤ f) (hf1 : f ≤ 3) : impl_Face_target.f q p f = some (rd (permL p) f) := if_pos ⟨h0, h1, hf0, hf1⟩
theorem partner_eq {q p a : Int} (h0 : 0 ≤ p) (h1 : p ≤ 23) : impl_Face_partner.f q p a = some (a, invP p) := by
  unfold impl_Face_partner.f impl_invert.f
  rw [if_pos ⟨h0, h1⟩]; rfl
abbrev Tri := List (List SFace)
/-- No list of t is longer than a million. -/
def Small (t : Tri) : Prop := t.length ≤ 1048576 ∧ ∀ r ∈ t, r.length ≤ 1048576
def SmallL (t : List (List SLawFace)) : Prop := t.length ≤ 1048576 ∧ ∀ r ∈ t, r.length ≤ 1048576
def Fits (t : List (List SLawFace)) : Prop := t.length ≤ 9223372036854775807 ∧ ∀ r ∈ t, r.length ≤ 9223372036854775807
theorem rd_LLawFace_lt (t : List (List SLawFace)) (n : Nat) (h : n < t.length) : rd_LLawFace t (n : Int) = t[n] := by simp [rd_LLawFace, h]
theorem rd_LFace_lt (t : Tri) (n : Nat) (h : n < t.length) : rd_LFace t (n : Int) = t[n] := by simp [rd_LFace, h]
theorem rd_LawFace_lt (t : List SLawFace) (n : Nat) (h : n < t.length) : rd_LawFace t (n : Int) = t[n] := by simp [rd_LawFace, h]
theorem rd_Face_lt (t : List SFace) (n : Nat) (h : n < t.length) : rd_Face t (n : Int) = t[n] := by simp [rd_Face, h]
theorem szFaceS_eq (r : List SLawFace) (a : Int) (h0 : 0 ≤ a) (h1 : a ≤ 1048576) (h : r.length ≤ 9223372036854775807) : laws_szFaceS.f r a = some (if a - r.length < 0 then -1 else a - r.length) := by
  unfold laws_szFaceS.f
  rw [wrap_id (by omega) (by omega)]
  split <;> rfl
theorem szFaceSS_ev (t : List (List SLawFace)) (h : Fits t) (hl : t.length ≤ 1048576) : ∃ r, Ev (fun k => laws_szFaceSS.l0 k t (1048576 - t.length) 0) r ∧ (0 ≤ r → ∀ x ∈ t, x.length ≤ 1048576) := by
  have key : ∀ d n : Nat, ∀ a : Int, n + d = t.length → 0 ≤ a → a ≤ 1048576 → ∃ r, Ev (fun k => laws_szFaceSS.l0 k t a (n : Int)) r ∧ (0 ≤ r → ∀ x ∈ t.drop n, x.length ≤ 1048576) := by
    intro d
    induction d with
    | zero =>
      intro n a hn h0 h1
      refine ⟨a, ev_step (f := fun _ => some a) (fun k => ?_) (Ev.now a), fun _ x hx => ?_⟩
      · simp only [laws_szFaceSS.l0]; rw [if_neg (by omega)]
      · rw [List.drop_eq_nil_of_le (by omega)] at hx; cases hx
    | succ d ih =>
      intro n a hn h0 h1
      have hlt : n < t.length := by omega
      have hf := h.2 t[n] (List.getElem_mem hlt)
      by_cases hc : a - t[n].length < 0
      · refine ⟨-1, ev_step (f := fun _ => some (-1)) (fun k => ?_) (Ev.now (-1)), fun h => by omega⟩
        simp only [laws_szFaceSS.l0]
        rw [if_pos (by omega), if_pos (by omega), rd_LLawFace_lt t n hlt, szFaceS_eq _ a h0 h1 hf, yfy, if_pos hc]
        rfl
      · obtain ⟨r, hr, hr2⟩ := ih (n + 1) (a - t[n].length) (by omega) (by omega) (by omega)
        refine ⟨r, ev_step (fun k => ?_) hr, fun h x hx => ?_⟩
        · simp only [laws_szFaceSS.l0]
          rw [if_pos (by omega), if_pos (by omega), rd_LLawFace_lt t n hlt, szFaceS_eq _ a h0 h1 hf, yfy, if_neg hc, if_neg (by omega), wrap_succ (by omega)]
        · rw [List.drop_eq_getElem_cons hlt] at hx
          rcases List.mem_cons.1 hx with rfl | hx
          · omega
          · exact hr2 h x hx
  obtain ⟨r, hr, hr2⟩ := key t.length 0 (1048576 - t.length) (by omega) (by omega) (by omega)
  exact ⟨r, hr, fun h => by have := hr2 h; rwa [List.drop_zero] at this⟩
theorem szTriangulation_ev (t : List (List SLawFace)) (h : Fits t) : ∃ r, Ev (fun k => laws_szTriangulation.f k t 1048576) r ∧ (¬ r < 0 → SmallL t) := by
  by_cases hl : (1048576 - (t.length : Int)) < 0
  · refine ⟨-1, ?_, fun h => by omega⟩
    refine Ev.bind (a := -1) (ev_const' (fun k => ?_)) (ev_pos (by omega) (Ev.now _))
    unfold laws_szFaceSS.f
    have := h.1
    rw [wrap_id (by omega) (by omega), if_pos hl]
  · obtain ⟨r, hr, hr2⟩ := szFaceSS_ev t h (by omega)
    have h2 : Ev (fun k => laws_szFaceSS.f k t 1048576) r := by
      refine Ev.congr (fun k => ?_) hr
      unfold laws_szFaceSS.f
      rw [wrap_id (by omega) (by omega), if_neg hl]
    by_cases hn : r < 0
    · exact ⟨-1, Ev.bind h2 (ev_pos hn (Ev.now _)), fun h => by omega⟩
    · exact ⟨r, Ev.bind h2 (ev_neg hn (Ev.now _)), fun _ => ⟨by omega, hr2 (by omega)⟩⟩
/-- The copies of the law's values. -/
def cvF (x : SLawFace) : SFace := ⟨x.f0, x.f1⟩
def cvR (r : List SLawFace) : List SFace := r.map cvF
def cvT (t : List (List SLawFace)) : Tri := t.map cvR
theorem cvT_small {t : List (List SLawFace)} (h : SmallL t) : Small (cvT t) := by
  refine ⟨by simp [cvT]; exact h.1, fun r hr => ?_⟩
  obtain ⟨s, hs, rfl⟩ := List.mem_map.1 hr
  simp [cvR]; exact h.2 s hs
theorem map_take_set {α β : Type} (f : α → β) (l : List α) (z : β) (n : Nat) (h : n < l.length) :
    ((l.take n).map f ++ List.replicate (l.length - n) z).set n (f l[n]) = (l.take (n + 1)).map f ++ List.replicate (l.length - (n + 1)) z := by
  have e : l.length - n = (l.length - (n + 1)) + 1 := by omega
  rw [e, List.replicate_succ, List.set_append_right _ _ (by simp; omega)]
  have : n - ((l.take n).map f).length = 0 := by simp; omega
  rw [this, yby, List.take_succ_eq_append_getElem h, List.map_append, List.append_assoc]
  rfl
theorem toFaceS_ev (l : List SLawFace) (h : l.length ≤ 1048576) : Ev (fun k => laws_toFaceS.f k l) (cvR l) := by
  have hl : Ev (fun k => laws_toFaceS.l0 k l (List.replicate l.length zFace) 0) (cvR l) := by
    refine ev_loop0 (fun k (s : List SFace × Int) => laws_toFaceS.l0 k l s.1 s.2) (fun s => ∃ n : Nat, n ≤ l.length ∧ s.2 = n ∧ s.1 = (l.take n).map cvF ++ List.replicate (l.length - n) zFace) (fun s => l.length - s.2.toNat) (fun _ => cvR l) ?_ (List.replicate l.length zFace, 0) ⟨0, by omega, rfl, by simp⟩
    rintro ⟨a, i⟩ ⟨n, hn, rfl, rfl⟩
    dsimp only
    by_cases hlt : n < l.length
    · refine .inr ⟨((l.take (n + 1)).map cvF ++ List.replicate (l.length - (n + 1)) zFace, ((n + 1 : Nat) : Int)), ⟨n + 1, by omega, rfl, rfl⟩, by simp; omega, rfl, fun k => ?_⟩
      simp only [laws_toFaceS.l0, laws_toFace.f, yfy]
      rw [if_pos (by omega), if_pos (by omega), if_pos (by simp; omega), wrap_succ (by omega), Int.toNat_natCast, rd_LawFace_lt l n hlt]
      have := map_take_set cvF l zFace n hlt
      rw [← this]
      rfl
    · obtain rfl : n = l.length := by omega
      refine .inl fun k => ?_
      simp only [laws_toFaceS.l0]
      rw [if_neg (by omega)]
      simp [cvR]
  refine Ev.congr (fun k => ?_) hl
  unfold laws_toFaceS.f
  rw [if_pos (by omega), if_pos (by simp; omega), Int.toNat_natCast]
theorem toFaceSS_ev (l : List (List SLawFace)) (h : SmallL l) : Ev (fun k => laws_toFaceSS.f k l) (cvT l) := by
  have hl : Ev (fun k => laws_toFaceSS.l0 k l (List.replicate l.length []) 0) (cvT l) := by
    refine ev_loop (fun k (s : Tri × Int) => laws_toFaceSS.l0 k l s.1 s.2) (fun s => ∃ n : Nat, n ≤ l.length ∧ s.2 = n ∧ s.1 = (l.take n).map cvR ++ List.replicate (l.length - n) []) (fun s => l.length - s.2.toNat) (fun _ => cvT l) ?_ (List.replicate l.length [], 0) ⟨0, by omega, rfl, by simp⟩
    rintro ⟨a, i⟩ ⟨n, hn, rfl, rfl⟩
    dsimp only
    by_cases hlt : n < l.length
    · obtain ⟨K, hK⟩ := toFaceS_ev l[n] (h.2 _ (List.getElem_mem hlt))
      refine .inr ⟨((l.take (n + 1)).map cvR ++ List.replicate (l.length - (n + 1)) [], ((n + 1 : Nat) : Int)), K, ⟨n + 1, by omega, rfl, rfl⟩, by simp; omega, rfl, fun k hk => ?_⟩
      have e : laws_toFaceS.f k l[n] = some _ := hK k hk
      have h1 := h.1
      simp only [laws_toFaceSS.l0]
      rw [if_pos (by omega), if_pos (by omega), rd_LLawFace_lt l n hlt, e, yfy, if_pos (by simp; omega), wrap_succ (by omega), Int.toNat_natCast, map_take_set cvR l [] n hlt]
    · obtain rfl : n = l.length := by omega
      refine .inl ⟨0, fun k _ => ?_⟩
      simp only [laws_toFaceSS.l0]
      rw [if_neg (by omega)]
      simp [cvT]
  have h1 := h.1
  refine Ev.congr (fun k => ?_) hl
  unfold laws_toFaceSS.f
  rw [if_pos (by omega), if_pos (by simp; omega), Int.toNat_natCast]
theorem toTriangulation_ev (l : List (List SLawFace)) (h : SmallL l) : Ev (fun k => laws_toTriangulation.f k l) (cvT l) := Ev.bind (toFaceSS_ev l h) (Ev.now _)
theorem eqFaceS_ev (l : List SFace) (h : l.length ≤ 1048576) : Ev (fun k => laws_eqFaceS.f k l l) true := by
  have hl : Ev (fun k => laws_eqFaceS.l0 k l l 0) true := by
    refine ev_loop0 (fun k (s : Int) => laws_eqFaceS.l0 k l l s) (fun s => ∃ n : Nat, n ≤ l.length ∧ s = n) (fun s => l.length - s.toNat) (fun _ => true) ?_ 0 ⟨0, by omega, rfl⟩
    rintro i ⟨n, hn, rfl⟩
    by_cases hlt : n < l.length
    · refine .inr ⟨((n + 1 : Nat) : Int), ⟨n + 1, by omega, rfl⟩, by simp; omega, rfl, fun k => ?_⟩
      simp only [laws_eqFaceS.l0, laws_eqFace.f]
      rw [if_pos (by omega), if_pos (by omega), if_pos (by omega), if_pos trivial, if_pos trivial, yfy, if_pos rfl, wrap_succ (by omega)]
    · refine .inl fun k => ?_
      simp only [laws_eqFaceS.l0]
      rw [if_neg (by omega)]
  refine Ev.congr (fun k => ?_) hl
  unfold laws_eqFaceS.f
  rw [if_pos rfl]
theorem eqTriangulation_ev (l : Tri) (h : Small l) : Ev (fun k => laws_eqTriangulation.f k l l) true := by
  have hl : Ev (fun k => laws_eqFaceSS.l0 k l l 0) true := by
    refine ev_loop (fun k (s : Int) => laws_eqFaceSS.l0 k l l s) (fun s => ∃ n : Nat, n ≤ l.length ∧ s = n) (fun s => l.length - s.toNat) (fun _ => true) ?_ 0 ⟨0, by omega, rfl⟩
    rintro i ⟨n, hn, rfl⟩
    by_cases hlt : n < l.length
    · obtain ⟨K, hK⟩ := eqFaceS_ev l[n] (h.2 _ (List.getElem_mem hlt))
      refine .inr ⟨((n + 1 : Nat) : Int), K, ⟨n + 1, by omega, rfl⟩, by simp; omega, rfl, fun k hk => ?_⟩
      have e : laws_eqFaceS.f k l[n] l[n] = some _ := hK k hk
      have h1 := h.1
      simp only [laws_eqFaceSS.l0]
      rw [if_pos (by omega), if_pos (by omega), if_pos (by omega), rd_LFace_lt l n hlt, e, yfy, if_pos rfl, wrap_succ (by omega)]
    · refine .inl ⟨0, fun k _ => ?_⟩
      simp only [laws_eqFaceSS.l0]
      rw [if_neg (by omega)]
  have h2 : Ev (fun k => laws_eqFaceSS.f k l l) true := by
    refine Ev.congr (fun k => ?_) hl
    unfold laws_eqFaceSS.f
    rw [if_pos rfl]
  exact Ev.bind h2 (ev_pos rfl (Ev.now _))
/-- The face f of the tetrahedron a. -/
abbrev fc (t : Tri) (a f : Int) : SFace := rd_Face (rd_LFace t a) f
/-- Is a face as in a valid triangulation? -/
def goodF (t : Tri) (a f : Int) : Bool :=
  if (fc t a f).f0 = -1 then (fc t a f).f1 == 0
  else if 0 ≤ (fc t a f).f0 ∧ (fc t a f).f0 < (t.length : Int) ∧ 0 ≤ (fc t a f).f1 ∧ (fc t a f).f1 ≤ 23 then
    ((fc t (fc t a f).f0 (rd (permL (fc t a f).f1) f)).f0 == a && (fc t (fc t a f).f0 (rd (permL (fc t a f).f1) f)).f1 == invP (fc t a f).f1) && !((fc t a f).f0 == a && rd (permL (fc t a f).f1) f == f)
  else false
/-- d faces of a from f on are good. -/
def goodFs (t : Tri) (a : Int) : Int → Nat → Bool
  | _, 0 => true
  | f, d + 1 => goodF t a f && goodFs t a (f + 1) d
/-- d tetrahedra from a on are good. -/
def goodTs (t : Tri) : Int → Nat → Bool
  | _, 0 => true
  | a, d + 1 => goodFs t a 0 4 && goodTs t (a + 1) d
/-- A valid triangulation. -/
def isTri (t : Tri) : Bool := decide (t.length ≤ 8) && (t.all (fun r => decide (r.length = 4)) && goodTs t 0 t.length)
section
variable {t : Tri}
theorem row4 (h4 : ∀ r ∈ t, r.length = 4) {a : Int} (h0 : 0 ≤ a) (h1 : a < t.length) : (rd_LFace t a).length = 4 := by
  obtain ⟨n, rfl⟩ := Int.eq_ofNat_of_zero_le h0
  rw [rd_LFace_lt t n (by omega)]
  exact h4 _ (List.getElem_mem _)
theorem impl_isGood_ev (h4 : ∀ r ∈ t, r.length = 4) (hn : t.length ≤ 8) {a f : Int} (h0 : 0 ≤ a) (h1 : a < t.length) (hf0 : 0 ≤ f) (hf1 : f ≤ 3) : Ev (fun k => impl_Triangulation_isGood.f k t a f) (goodF t a f) := by
  have hr := row4 h4 h0 h1
  refine Ev.congr (fun k => by unfold impl_Triangulation_isGood.f; rw [if_pos h0, if_pos h1, if_pos hf0, if_pos (by omega)]) ?_
  change Ev (fun k => if (fc t a f).f0 = -1 then some ((fc t a f).f1 == 0) else _) (goodF t a f)
  unfold goodF
  by_cases hb : (fc t a f).f0 = -1
  · rw [if_pos hb]; exact ev_pos hb (Ev.now _)
  · refine ev_neg hb ?_
    rw [if_neg hb]
    have hix : impl_hasIndex_Simpl_Face.f t (fc t a f).f0 = some (decide (0 ≤ (fc t a f).f0) && decide ((fc t a f).f0 ≤ (t.length : Int) - 1)) := by
      unfold impl_hasIndex_Simpl_Face.f impl_size_Simpl_Face.f
      rw [yfy, wrap_id (by omega) (by omega), inRange_eq]; rfl
    have hfalse : Ev (fun k => impl_Triangulation_isGood.j0 k a f true t (fc t a f).f0 (fc t a f).f1) false := ev_step (fun k => by rw [impl_Triangulation_isGood.j0, if_pos rfl]) (Ev.now false)
    refine Ev.bind (ev_const hix) ?_
    by_cases hi : 0 ≤ (fc t a f).f0 ∧ (fc t a f).f0 < (t.length : Int)
    · refine ev_pos (by simp; omega) ?_
      refine Ev.bind (ev_const (isPerm_eq _)) ?_
      by_cases hp : 0 ≤ (fc t a f).f1 ∧ (fc t a f).f1 ≤ 23
      · rw [if_pos ⟨hi.1, hi.2, hp.1, hp.2⟩]
        have e : (!(decide (0 ≤ (fc t a f).f1) && decide ((fc t a f).f1 ≤ 23))) = false := by simp [hp]
        rw [e]
        refine ev_step (fun k => by rw [impl_Triangulation_isGood.j0, if_neg (by simp), target_eq hp.1 hp.2 hf0 hf1, yfy]) ?_
        obtain ⟨hg0, hg1⟩ := permL_sm hp.1 hp.2 hf0 hf1
        have hr2 := row4 h4 hi.1 hi.2
        refine ev_pos hi.1 (ev_pos hi.2 (ev_pos hg0 (ev_pos (by rw [hr2]; omega) ?_)))
        refine Ev.bind (ev_const (partner_eq hp.1 hp.2)) ?_
        change Ev (fun k => if ((fc t (fc t a f).f0 (rd (permL (fc t a f).f1) f)).f0 == a && (fc t (fc t a f).f0 (rd (permL (fc t a f).f1) f)).f1 == invP (fc t a f).f1) = true then _ else _) _
        generalize ((fc t (fc t a f).f0 (rd (permL (fc t a f).f1) f)).f0 == a && (fc t (fc t a f).f0 (rd (permL (fc t a f).f1) f)).f1 == invP (fc t a f).f1) = b
        cases b with
        | false => refine ev_neg (by simp) ?_; rw [Bool.false_and]; exact Ev.now false
        | true =>
          refine ev_pos rfl ?_
          rw [Bool.true_and]
          by_cases ha : (fc t a f).f0 = a
          · refine ev_pos ha (ev_some ?_)
            rw [ha]; simp [bne]
          · refine ev_neg ha (ev_some ?_)
            simp [ha]
      · rw [if_neg (by omega)]
        have e : (!(decide (0 ≤ (fc t a f).f1) && decide ((fc t a f).f1 ≤ 23))) = true := by
          rw [Bool.not_eq_true', Bool.and_eq_false_iff, decide_eq_false_iff_not, decide_eq_false_iff_not]; omega
        rw [e]
        exact hfalse
    · rw [if_neg (by omega)]
      refine ev_neg ?_ hfalse
      rw [Bool.and_eq_true, decide_eq_true_eq, decide_eq_true_eq]; omega
theorem impl_l1_ev (h4 : ∀ r ∈ t, r.length = 4) (hn : t.length ≤ 8) {a : Int} (h0 : 0 ≤ a) (h1 : a < t.length) {R : Bool} (hR : Ev (fun k => impl_isTriangulation.l0 k (t.length : Int) (a + 1) t) R) :
    ∀ (d : Nat) (f : Int), 0 ≤ f → f + d = 4 → Ev (fun k => impl_isTriangulation.l1 k a (t.length : Int) a f t) (goodFs t a f d && R)
  | 0, f, hf, he => by
    refine ev_step (fun k => by rw [impl_isTriangulation.l1, if_neg (by omega), wrap_id (by omega) (by omega)]) ?_
    rw [goodFs, Bool.true_and]; exact hR
  | d + 1, f, hf, he => by
    refine ev_step (fun k => by rw [impl_isTriangulation.l1, if_pos (by omega)]) ?_
    refine Ev.bind (impl_isGood_ev h4 hn h0 h1 hf (by omega)) ?_
    rw [goodFs]
    cases hg : goodF t a f with
    | false => exact ev_neg (by simp) (by rw [Bool.false_and, Bool.false_and]; exact Ev.now false)
    | true =>
      refine ev_pos rfl ?_
      rw [Bool.true_and]
      exact Ev.congr (fun k => by rw [wrap_id (by omega) (by omega)]) (impl_l1_ev h4 hn h0 h1 hR d (f + 1) (by omega) (by omega))
theorem impl_l0_ev (h4 : ∀ r ∈ t, r.length = 4) (hn : t.length ≤ 8) : ∀ (d : Nat) (a : Int), 0 ≤ a → a + d = t.length → Ev (fun k => impl_isTriangulation.l0 k (t.length : Int) a t) (goodTs t a d)
  | 0, a, ha, he => by
    refine ev_step (fun k => by rw [impl_isTriangulation.l0, if_neg (by omega)]) ?_
    exact Ev.now true
  | d + 1, a, ha, he => by
    refine ev_step (fun k => by rw [impl_isTriangulation.l0, if_pos (by omega)]) ?_
    rw [goodTs]
    exact impl_l1_ev h4 hn ha (by omega) (impl_l0_ev h4 hn d (a + 1) (by omega) (by omega)) 4 0 (by omega) (by omega)
theorem all4_iff : t.all (fun r => decide (r.length = 4)) = true ↔ ∀ r ∈ t, r.length = 4 := by simp
theorem contains4 (h : Small t) : slices_ContainsFunc_SSimpl_Face_at_impl_isTriangulation_1.f t = some (!(t.all fun r => decide (r.length = 4))) := by
  unfold slices_ContainsFunc_SSimpl_Face_at_impl_isTriangulation_1.f slices_IndexFunc_SSimpl_Face_at_impl_isTriangulation_1.f
  rw [contO (p := fun r => !(decide (r.length = 4))) t (fun r _ => by
    show impl_isTriangulation_1.f r = _
    unfold impl_isTriangulation_1.f
    congr 1
    by_cases h : r.length = 4
    · simp [h]
    · have : ¬ ((r.length : Int) = 4) := by omega
      simp [h, this]), List.not_all_eq_any_not]
theorem impl_isTri_ev (h : Small t) : Ev (fun k => impl_isTriangulation.f k t) (isTri t) := by
  have hfalse : Ev (fun k => impl_isTriangulation.j0 k true t) false := ev_step (fun k => by rw [impl_isTriangulation.j0, if_pos rfl]) (Ev.now false)
  unfold isTri
  by_cases h8 : t.length ≤ 8
  · refine Ev.congr (fun k => by unfold impl_isTriangulation.f; rw [if_neg (by omega), contains4 h, yfy]) ?_
    rw [ygy h8, Bool.true_and]
    cases hall : t.all (fun r => decide (r.length = 4)) with
    | false => rw [Bool.false_and]; exact hfalse
    | true =>
      rw [Bool.true_and]
      refine ev_step (fun k => by rw [impl_isTriangulation.j0, if_neg (by simp)]) ?_
      exact impl_l0_ev (all4_iff.1 hall) h8 t.length 0 (by omega) (by omega)
  · refine Ev.congr (fun k => by unfold impl_isTriangulation.f; rw [if_pos (by omega)]) ?_
    rw [yhy h8, Bool.false_and]; exact hfalse
theorem spec_l2_ev (h4 : ∀ r ∈ t, r.length = 4) (hn : t.length ≤ 8) {a : Int} (h0 : 0 ≤ a) (h1 : a < t.length) {R : Bool} (hR : Ev (fun k => spec_IsTriangulation.l1 k (a + 1) t) R) :
    ∀ (d : Nat) (f : Int), 0 ≤ f → f + d = 4 → Ev (fun k => spec_IsTriangulation.l2 k a f t) (goodFs t a f d && R)
  | 0, f, hf, he => by
    refine ev_step (fun k => by rw [spec_IsTriangulation.l2, if_neg (by omega), wrap_id (by omega) (by omega)]) ?_
    rw [goodFs, Bool.true_and]; exact hR
  | d + 1, f, hf, he => by
    have hr := row4 h4 h0 h1
    have ih : Ev (fun k => spec_IsTriangulation.l2 k a (wrap64 (f + 1)) t) (goodFs t a (f + 1) d && R) := Ev.congr (fun k => by rw [wrap_id (by omega) (by omega)]) (spec_l2_ev h4 hn h0 h1 hR d (f + 1) (by omega) (by omega))
    refine ev_step (fun k => by rw [spec_IsTriangulation.l2, if_pos (by omega), if_pos h0, if_pos h1, if_pos hf, if_pos (by omega)]) ?_
    change Ev (fun k => if (fc t a f).f0 = -1 then spec_IsTriangulation.j3 k a f ((fc t a f).f1 == 0) t (fc t a f).f0 (fc t a f).f1 else spec_IsTriangulation.j3 k a f false t (fc t a f).f0 (fc t a f).f1) _
    rw [goodFs]
    have hstop : ∀ b, Ev (fun k => spec_IsTriangulation.j4 k a f true t (fc t a f).f0 (fc t a f).f1) (false && b) := fun b => by
      rw [Bool.false_and]; exact ev_step (fun k => by rw [spec_IsTriangulation.j4, if_pos rfl]) (Ev.now false)
    have hgo : Ev (fun k => spec_IsTriangulation.j3 k a f true t (fc t a f).f0 (fc t a f).f1) (goodFs t a (f + 1) d && R) := ev_step (fun k => by rw [spec_IsTriangulation.j3, if_pos rfl]) ih
    have hrest : (¬ ((fc t a f).f0 = -1 ∧ (fc t a f).f1 = 0)) → Ev (fun k => spec_IsTriangulation.j3 k a f false t (fc t a f).f0 (fc t a f).f1) (goodF t a f && goodFs t a (f + 1) d && R) := by
      intro hnb
      refine ev_step (fun k => by rw [spec_IsTriangulation.j3, spec_l07Tets.f, if_neg (by simp), yfy, l07In_eq, yfy, wrap_id (by omega) (by omega)]) ?_
      unfold goodF
      by_cases hi : 0 ≤ (fc t a f).f0 ∧ (fc t a f).f0 < (t.length : Int)
      · refine ev_pos (by simp; omega) ?_
        refine Ev.bind (ev_const (l06Valid_eq _)) ?_
        rw [if_neg (by omega)]
        by_cases hp : 0 ≤ (fc t a f).f1 ∧ (fc t a f).f1 ≤ 23
        · rw [if_pos ⟨hi.1, hi.2, hp.1, hp.2⟩]
          have e : (!(decide (0 ≤ (fc t a f).f1) && decide ((fc t a f).f1 ≤ 23))) = false := by simp [hp]
          rw [e]
          obtain ⟨hg0, hg1⟩ := permL_sm hp.1 hp.2 hf (by omega)
          have hr2 := row4 h4 hi.1 hi.2
          refine ev_step (fun k => by rw [spec_IsTriangulation.j4, if_neg (by simp)]) ?_
          refine Ev.bind (l06At_ev hp.1 hp.2 hf (by omega)) ?_
          refine Ev.bind (l06Back_ev hp.1 hp.2) ?_
          refine ev_pos hi.1 (ev_pos hi.2 (ev_pos hg0 (ev_pos (by rw [hr2]; omega) ?_)))
          change Ev (fun k => if (!((fc t (fc t a f).f0 (rd (permL (fc t a f).f1) f)).f0 == a) || !((fc t (fc t a f).f0 (rd (permL (fc t a f).f1) f)).f1 == invP (fc t a f).f1)) = true then _ else _) _
          generalize ((fc t (fc t a f).f0 (rd (permL (fc t a f).f1) f)).f0 == a) = b1
          generalize ((fc t (fc t a f).f0 (rd (permL (fc t a f).f1) f)).f1 == invP (fc t a f).f1) = b2
          cases b1 with
          | false => exact ev_pos rfl (by rw [Bool.false_and, Bool.false_and, Bool.false_and, Bool.false_and]; exact Ev.now false)
          | true =>
            cases b2 with
            | false => exact ev_pos rfl (by rw [Bool.true_and, Bool.false_and, Bool.false_and, Bool.false_and]; exact Ev.now false)
            | true =>
              refine ev_neg (by simp) ?_
              rw [Bool.true_and, Bool.true_and]
              by_cases ha : (fc t a f).f0 = a
              · refine ev_pos ha ?_
                by_cases hg : rd (permL (fc t a f).f1) f = f
                · refine ev_pos hg ?_
                  rw [ha, hg]
                  simp
                  exact Ev.now false
                · refine ev_neg hg ?_
                  have : (rd (permL (fc t a f).f1) f == f) = false := by simp [hg]
                  rw [this, Bool.and_false, Bool.not_false, Bool.true_and]
                  exact ih
              · refine ev_neg ha ?_
                have : ((fc t a f).f0 == a) = false := by simp [ha]
                rw [this, Bool.false_and, Bool.not_false, Bool.true_and]
                exact ih
        · rw [if_neg (by omega)]
          have e : (!(decide (0 ≤ (fc t a f).f1) && decide ((fc t a f).f1 ≤ 23))) = true := by
            rw [Bool.not_eq_true', Bool.and_eq_false_iff, decide_eq_false_iff_not, decide_eq_false_iff_not]; omega
          rw [e, Bool.false_and]
          exact hstop R
      · have hg : (if (fc t a f).f0 = -1 then ((fc t a f).f1 == 0) else if 0 ≤ (fc t a f).f0 ∧ (fc t a f).f0 < (t.length : Int) ∧ 0 ≤ (fc t a f).f1 ∧ (fc t a f).f1 ≤ 23 then
            ((fc t (fc t a f).f0 (rd (permL (fc t a f).f1) f)).f0 == a && (fc t (fc t a f).f0 (rd (permL (fc t a f).f1) f)).f1 == invP (fc t a f).f1) && !((fc t a f).f0 == a && rd (permL (fc t a f).f1) f == f) else false) = false := by
          by_cases hb : (fc t a f).f0 = -1
          · rw [if_pos hb]; simp; intro h; exact hnb ⟨hb, h⟩
          · rw [if_neg hb, if_neg (by omega)]
        rw [hg, Bool.false_and]
        refine ev_neg ?_ (hstop R)
        rw [Bool.and_eq_true, decide_eq_true_eq, decide_eq_true_eq]; omega
    by_cases hb : (fc t a f).f0 = -1
    · refine ev_pos hb ?_
      by_cases h0' : (fc t a f).f1 = 0
      · have e : goodF t a f = true := by unfold goodF; rw [if_pos hb]; simp [h0']
        rw [e, Bool.true_and]
        have e2 : ((fc t a f).f1 == 0) = true := by simp [h0']
        rw [e2]; exact hgo
      · have e2 : ((fc t a f).f1 == 0) = false := by simp [h0']
        rw [e2]; exact hrest (fun h => h0' h.2)
    · exact ev_neg hb (hrest (fun h => hb h.1))
theorem spec_l1_ev (h4 : ∀ r ∈ t, r.length = 4) (hn : t.length ≤ 8) : ∀ (d : Nat) (a : Int), 0 ≤ a → a + d = t.length → Ev (fun k => spec_IsTriangulation.l1 k a t) (goodTs t a d)
  | 0, a, ha, he => by
    refine ev_step (fun k => by rw [spec_IsTriangulation.l1, spec_l07Tets.f, yfy, if_neg (by omega)]) ?_
    exact Ev.now true
  | d + 1, a, ha, he => by
    refine ev_step (fun k => by rw [spec_IsTriangulation.l1, spec_l07Tets.f, yfy, if_pos (by omega)]) ?_
    rw [goodTs]
    exact spec_l2_ev h4 hn ha (by omega) (spec_l1_ev h4 hn d (a + 1) (by omega) (by omega)) 4 0 (by omega) (by omega)
theorem spec_l0_ev (h8 : t.length ≤ 8) (d : Nat) : ∀ n : Nat, n + d = t.length → (t.all (fun r => decide (r.length = 4)) = (t.drop n).all (fun r => decide (r.length = 4))) → Ev (fun k => spec_IsTriangulation.l0 k (n : Int) t) (t.all (fun r => decide (r.length = 4)) && goodTs t 0 t.length) := by
  induction d with
  | zero =>
    intro n hn ha
    refine ev_step (fun k => by rw [spec_IsTriangulation.l0, if_neg (by omega)]) ?_
    have hall : t.all (fun r => decide (r.length = 4)) = true := by rw [ha, List.drop_eq_nil_of_le (by omega)]; rfl
    rw [hall, Bool.true_and]
    exact spec_l1_ev (all4_iff.1 hall) h8 t.length 0 (by omega) (by omega)
  | succ d ih =>
    intro n hn ha
    have hlt : n < t.length := by omega
    refine ev_step (fun k => by rw [spec_IsTriangulation.l0, if_pos (by omega), if_pos (by omega), rd_LFace_lt t n hlt]) ?_
    rw [List.drop_eq_getElem_cons hlt, List.all_cons] at ha
    by_cases h : t[n].length = 4
    · refine ev_pos (by omega) ?_
      refine Ev.congr (fun k => by rw [wrap_succ (by omega)]) (ih (n + 1) (by omega) ?_)
      rw [ha, ygy h, Bool.true_and]
    · refine ev_neg (by omega) ?_
      rw [ha, yhy h, Bool.false_and, Bool.false_and]
      exact Ev.now false
theorem spec_isTri_ev (t : Tri) : Ev (fun k => spec_IsTriangulation.f k t) (isTri t) := by
  refine Ev.congr (fun k => by unfold spec_IsTriangulation.f spec_l07Tets.f; rw [yfy]) ?_
  unfold isTri
  by_cases h8 : t.length ≤ 8
  · refine ev_neg (by omega) ?_
    rw [ygy h8, Bool.true_and]
    exact spec_l0_ev h8 t.length 0 (by omega) (by rw [List.drop_zero])
  · refine ev_pos (by omega) ?_
    rw [yhy h8, Bool.false_and]
    exact Ev.now false
end
theorem isTri_good {t : Tri} (h : isTri t = true) : t.length ≤ 8 ∧ (∀ r ∈ t, r.length = 4) ∧ goodTs t 0 t.length = true := by
  unfold isTri at h
  rw [Bool.and_eq_true, Bool.and_eq_true, decide_eq_true_eq] at h
  exact ⟨h.1, all4_iff.1 h.2.1, h.2.2⟩
theorem isTri_small {t : Tri} (h : isTri t = true) : Small t := ⟨by have := (isTri_good h).1; omega, fun r hr => by have := (isTri_good h).2.1 r hr; omega⟩
theorem rowlen {t : Tri} (h : isTri t = true) {a : Int} (h0 : 0 ≤ a) (h1 : a < t.length) : (rd_LFace t a).length = 4 := row4 (isTri_good h).2.1 h0 h1
/-- A face is stored. -/
def setF (t : Tri) (a f : Int) (x : SFace) : Tri := t.set a.toNat ((rd_LFace t a).set f.toNat x)
theorem setF_length (t : Tri) (a f : Int) (x : SFace) : (setF t a f x).length = t.length := by simp [setF]
theorem setF_rows {t : Tri} {n : Nat} (h : ∀ r ∈ t, r.length = n) {a : Int} (h0 : 0 ≤ a) (h1 : a < t.length) (f : Int) (x : SFace) : ∀ r ∈ setF t a f x, r.length = n := by
  intro r hr
  rcases List.mem_or_eq_of_mem_set hr with h2 | h2
  · exact h r h2
  · rw [h2, List.length_set]
    obtain ⟨m, rfl⟩ := Int.eq_ofNat_of_zero_le h0
    rw [rd_LFace_lt t m (by omega)]
    exact h _ (List.getElem_mem _)
theorem spec_own_ev {t : Tri} (hs : Small t) : Ev (fun k => spec_l07Own.f k t) t := by
  refine ev_loop0 (fun k (s : Int × Tri) => spec_l07Own.l0 k s.1 t s.2) (fun s => ∃ n : Nat, n ≤ t.length ∧ s.1 = n ∧ s.2 = t.take n) (fun s => t.length - s.1.toNat) (fun _ => t) ?_ (0, []) ⟨0, by omega, rfl, by simp⟩
  rintro ⟨i, acc⟩ ⟨n, hn, rfl, rfl⟩
  dsimp only
  have hl := hs.1
  by_cases hlt : n < t.length
  · have hr := hs.2 t[n] (List.getElem_mem hlt)
    refine .inr ⟨(((n + 1 : Nat) : Int), t.take (n + 1)), ⟨n + 1, by omega, rfl, rfl⟩, by simp; omega, rfl, fun k => ?_⟩
    simp only [spec_l07Own.l0]
    rw [if_pos (by omega), yfy, if_pos (by omega), rd_LFace_lt t n hlt, if_pos (by simp; omega), if_pos (by simp; omega), wrap_succ (by omega), List.nil_append, List.take_succ_eq_append_getElem hlt]
  · obtain rfl : n = t.length := by omega
    refine .inl fun k => ?_
    simp only [spec_l07Own.l0]
    rw [if_neg (by omega), List.take_length]
theorem impl_copy_ev {t : Tri} (hs : Small t) : Ev (fun k => impl_copyTriangulation.f k t) t := by
  refine ev_loop0 (fun k (s : Int × Tri) => impl_copyTriangulation.l0 k t (t.length : Int) s.1 s.2) (fun s => ∃ n : Nat, n ≤ t.length ∧ s.1 = n ∧ s.2 = t.take n) (fun s => t.length - s.1.toNat) (fun _ => t) ?_ (0, []) ⟨0, by omega, rfl, by simp⟩
  rintro ⟨i, acc⟩ ⟨n, hn, rfl, rfl⟩
  dsimp only
  have hl := hs.1
  by_cases hlt : n < t.length
  · have hr := hs.2 t[n] (List.getElem_mem hlt)
    refine .inr ⟨(((n + 1 : Nat) : Int), t.take (n + 1)), ⟨n + 1, by omega, rfl, rfl⟩, by simp; omega, rfl, fun k => ?_⟩
    simp only [impl_copyTriangulation.l0]
    rw [if_pos (by omega), if_pos (by omega), if_pos (by omega), rd_LFace_lt t n hlt, slices_Clone_Simpl_Face.f, if_pos (by omega), yfy, if_pos (by simp; omega), wrap_succ (by omega), List.take_succ_eq_append_getElem hlt]
  · obtain rfl : n = t.length := by omega
    refine .inl fun k => ?_
    simp only [impl_copyTriangulation.l0]
    rw [if_neg (by omega), List.take_length]
def glued2 (t : Tri) (a f b p : Int) : Tri := setF (setF t a f ⟨b, p⟩) b (rd (permL p) f) ⟨a, invP p⟩
def glueP (t : Tri) (a1 a2 a3 a4 : Int) : Tri × Int :=
  if isTri t = true then (if 0 ≤ a1 ∧ a1 ≤ (t.length : Int) - 1 then (if 0 ≤ a3 ∧ a3 ≤ (t.length : Int) - 1 then (if 0 ≤ a2 ∧ a2 ≤ 3 then (if 0 ≤ a4 ∧ a4 ≤ 23 then (if 0 ≤ (rd_Face (rd_LFace t a1) a2).f0 ∨ 0 ≤ (rd_Face (rd_LFace t a3) (rd (permL a4) a2)).f0 ∨ (a1 = a3 ∧ a2 = rd (permL a4) a2) then ([], 5) else (glued2 t a1 a2 a3 a4, 0)) else ([], 2)) else ([], 2)) else ([], 2)) else ([], 2)) else ([], 1)
theorem glueP_nil : Small ([] : Tri) := ⟨by simp, fun r hr => by cases hr⟩
theorem glueP_small (t : Tri) (a1 a2 a3 a4 : Int) : Small (glueP t a1 a2 a3 a4).1 := by
  unfold glueP
  by_cases h : isTri t = true
  · obtain ⟨h8, h4, _⟩ := isTri_good h
    rw [if_pos h]
    split
    · rename_i c1
      split
      · rename_i c2
        split
        · split
          · split
            · exact glueP_nil
            · refine ⟨by show (glued2 t a1 a2 a3 a4).length ≤ _; unfold glued2; rw [setF_length, setF_length]; omega, fun r hr => ?_⟩
              have := setF_rows (setF_rows h4 c1.1 (by omega) a2 ⟨a3, a4⟩) c2.1 (by rw [setF_length]; omega) (rd (permL a4) a2) ⟨a1, invP a4⟩ r hr
              omega
          · exact glueP_nil
        · exact glueP_nil
      · exact glueP_nil
    · exact glueP_nil
  · rw [if_neg h]; exact glueP_nil
theorem spec_glue_ev (t : Tri) (a1 a2 a3 a4 : Int) : Ev (fun k => spec_GlueFaces.f k t a1 a2 a3 a4) (glueP t a1 a2 a3 a4) := by
  refine Ev.bind (spec_isTri_ev t) ?_
  unfold glueP
  cases h : isTri t with
  | false => exact ev_neg (by simp) (Ev.now _)
  | true =>
    obtain ⟨h8, h4, _⟩ := isTri_good h
    rw [if_pos rfl]
    refine ev_pos rfl (ev_pos (by omega) ?_)
    by_cases c1 : 0 ≤ a1 ∧ a1 ≤ (t.length : Int) - 1
    case neg => rw [if_neg c1]; exact ev_neg c1 (Ev.now _)
    rw [if_pos c1]; refine ev_pos c1 ?_
    by_cases c2 : 0 ≤ a3 ∧ a3 ≤ (t.length : Int) - 1
    case neg => rw [if_neg c2]; exact ev_neg c2 (Ev.now _)
    rw [if_pos c2]; refine ev_pos c2 ?_
    by_cases c3 : 0 ≤ a2 ∧ a2 ≤ 3
    case neg => rw [if_neg c3]; exact ev_neg c3 (Ev.now _)
    rw [if_pos c3]; refine ev_pos c3 ?_
    by_cases c4 : 0 ≤ a4 ∧ a4 ≤ 23
    case neg => rw [if_neg c4]; exact ev_neg c4 (Ev.now _)
    rw [if_pos c4]; refine ev_pos c4 ?_
    have r1 := rowlen h c1.1 (show a1 < t.length by omega)
    have r3 := rowlen h c2.1 (show a3 < t.length by omega)
    obtain ⟨q0, q1⟩ := permL_sm c4.1 c4.2 c3.1 c3.2
    refine Ev.bind (l06At_ev c4.1 c4.2 c3.1 c3.2) (ev_pos ⟨⟨q0, q1⟩, r1, r3⟩ ?_)
    by_cases c5 : 0 ≤ (rd_Face (rd_LFace t a1) a2).f0 ∨ 0 ≤ (rd_Face (rd_LFace t a3) (rd (permL a4) a2)).f0 ∨ (a1 = a3 ∧ a2 = rd (permL a4) a2)
    · rw [if_pos c5]; exact ev_pos c5 (Ev.now _)
    · rw [if_neg c5]
      refine ev_neg c5 (Ev.bind (spec_own_ev (isTri_small h)) (Ev.bind (a := glued2 t a1 a2 a3 a4) ?_ (Ev.now _)))
      refine Ev.bind (l06At_ev c4.1 c4.2 c3.1 c3.2) (Ev.bind (l06Back_ev c4.1 c4.2) (ev_pos ⟨⟨c1.1, by omega, c3.1, by omega⟩, c2.1, by omega, q0, ?_⟩ (ev_some rfl)))
      have := row4 (setF_rows h4 c1.1 (show a1 < t.length by omega) a2 ⟨a3, a4⟩) c2.1 (by rw [setF_length]; omega)
      change _ < ((rd_LFace (setF t a1 a2 ⟨a3, a4⟩) a3).length : Int)
      rw [this]; exact Int.lt_of_le_of_lt q1 (by omega)
theorem impl_glue_ev {t : Tri} (hs : Small t) (a1 a2 a3 a4 : Int) : Ev (fun k => impl_GlueFaces.f k t a1 a2 a3 a4) (glueP t a1 a2 a3 a4) := by
  refine Ev.bind (impl_isTri_ev hs) ?_
  unfold glueP
  cases h : isTri t with
  | false => exact ev_neg (by simp) (Ev.now _)
  | true =>
    obtain ⟨h8, h4, _⟩ := isTri_good h
    rw [if_pos rfl]
    refine ev_pos rfl (ev_pos (by omega) ?_)
    by_cases c1 : 0 ≤ a1 ∧ a1 ≤ (t.length : Int) - 1
    case neg => rw [if_neg c1]; exact ev_neg c1 (Ev.now _)
    rw [if_pos c1]; refine ev_pos c1 ?_
    by_cases c2 : 0 ≤ a3 ∧ a3 ≤ (t.length : Int) - 1
    case neg => rw [if_neg c2]; exact ev_neg c2 (Ev.now _)
    rw [if_pos c2]; refine ev_pos c2 ?_
    by_cases c3 : 0 ≤ a2 ∧ a2 ≤ 3
    case neg => rw [if_neg c3]; exact ev_neg c3 (Ev.now _)
    rw [if_pos c3]; refine ev_pos c3 ?_
    by_cases c4 : 0 ≤ a4 ∧ a4 ≤ 23
    case neg => rw [if_neg c4]; exact ev_neg c4 (Ev.now _)
    rw [if_pos c4]; refine ev_pos c4 ?_
    have r1 := rowlen h c1.1 (show a1 < t.length by omega)
    have r3 := rowlen h c2.1 (show a3 < t.length by omega)
    obtain ⟨q0, q1⟩ := permL_sm c4.1 c4.2 c3.1 c3.2
    refine Ev.bind (ev_const (target_eq c4.1 c4.2 c3.1 c3.2)) (ev_pos ⟨⟨q0, q1⟩, r1, r3⟩ ?_)
    by_cases c5 : 0 ≤ (rd_Face (rd_LFace t a1) a2).f0 ∨ 0 ≤ (rd_Face (rd_LFace t a3) (rd (permL a4) a2)).f0 ∨ (a1 = a3 ∧ a2 = rd (permL a4) a2)
    · rw [if_pos c5]; exact ev_pos c5 (Ev.now _)
    · rw [if_neg c5]
      refine ev_neg c5 (Ev.bind (impl_copy_ev (isTri_small h)) (Ev.bind (a := glued2 t a1 a2 a3 a4) (ev_const ?_) (Ev.now _)))
      have hlt : rd (permL a4) a2 < ((rd_LFace (putF t a1 a2 ⟨a3, a4⟩) a3).length : Int) := by
        have := row4 (setF_rows h4 c1.1 (show a1 < t.length by omega) a2 ⟨a3, a4⟩) c2.1 (by rw [setF_length]; omega)
        change _ < ((rd_LFace (setF t a1 a2 ⟨a3, a4⟩) a3).length : Int)
        rw [this]; exact Int.lt_of_le_of_lt q1 (by omega)
      unfold impl_Triangulation_glue.f
      rw [target_eq c4.1 c4.2 c3.1 c3.2, yfy, partner_eq c4.1 c4.2, yfy, if_pos ⟨⟨c1.1, by omega, c3.1, by omega⟩, c2.1, by omega, q0, hlt⟩]
      rfl
/-- n marked faces from a on. -/
def mkR (a : Int) : Nat → List SFace
  | 0 => []
  | n + 1 => ⟨a, a + 1⟩ :: mkR (a + 2) n
theorem mkR_length (a : Int) (n : Nat) : (mkR a n).length = n := by
  induction n generalizing a with
  | zero => rfl
  | succ n ih => simp [mkR, ih]
theorem mkR_get (a : Int) (n i : Nat) (z : SFace) (h : i < n) : (mkR a n).getD i z = ⟨a + 2 * i, a + 2 * i + 1⟩ := by
  induction n generalizing a i with
  | zero => omega
  | succ n ih =>
    cases i with
    | zero => simp [mkR]
    | succ i => simp only [mkR, List.getD_cons_succ]; rw [ih (a + 2) i (by omega)]; congr 1 <;> omega
theorem mkR_snoc (a : Int) (n : Nat) : mkR a (n + 1) = mkR a n ++ [⟨a + 2 * n, a + 2 * n + 1⟩] := by
  induction n generalizing a with
  | zero => simp [mkR]
  | succ n ih =>
    rw [mkR, ih (a + 2)]
    have e : a + 2 + 2 * (n : Int) = a + 2 * ((n + 1 : Nat) : Int) := by omega
    rw [e]; rfl
theorem mk_set (l : List SFace) (a : Int) (n : Nat) (h : n < l.length) : (mkR a n ++ l.drop n).set n ⟨a + 2 * n, a + 2 * n + 1⟩ = mkR a (n + 1) ++ l.drop (n + 1) := by
  rw [List.set_append_right _ _ (by rw [mkR_length]; exact yoy _), mkR_length, Nat.sub_self, List.drop_eq_getElem_cons h, yby, mkR_snoc, List.append_assoc]
  rfl
theorem rd_Face_set (l : List SFace) (n : Nat) (v : SFace) (h : n < l.length) : rd_Face (l.set n v) (n : Int) = v := by
  rw [rd_Face_lt _ n (by rw [List.length_set]; exact h), List.getElem_set_self]
theorem markFaceS_ev (l : List SFace) (a : Int) (h : l.length ≤ 1099511627776) (h0 : 0 ≤ a) (h1 : a ≤ 4398046511104) : Ev (fun k => laws_markFaceS.f k l a) (a + 2 * l.length, mkR a l.length) := by
  have hl : Ev (fun k => laws_markFaceS.l0 k l a 0) (a + 2 * l.length, mkR a l.length) := by
    refine ev_loop0 (fun k (s : List SFace × Int × Int) => laws_markFaceS.l0 k s.1 s.2.1 s.2.2) (fun s => ∃ n : Nat, n ≤ l.length ∧ s.2.2 = n ∧ s.2.1 = a + 2 * n ∧ s.1 = mkR a n ++ l.drop n) (fun s => l.length - s.2.2.toNat) (fun _ => (a + 2 * l.length, mkR a l.length)) ?_ (l, a, 0) ⟨0, by omega, rfl, by simp, by simp [mkR]⟩
    rintro ⟨x, b, i⟩ ⟨n, hn, rfl, rfl, rfl⟩
    dsimp only
    have hlen : (mkR a n ++ l.drop n).length = l.length := by simp [mkR_length]; omega
    by_cases hlt : n < l.length
    · refine .inr ⟨(mkR a (n + 1) ++ l.drop (n + 1), a + 2 * ((n + 1 : Nat) : Int), ((n + 1 : Nat) : Int)), ⟨n + 1, by omega, rfl, rfl, rfl⟩, by simp; omega, rfl, fun k => ?_⟩
      simp only [laws_markFaceS.l0]
      rw [if_pos (by rw [hlen]; omega), if_pos (by omega), yfy, Int.toNat_natCast, rd_Face_set _ n _ (by rw [hlen]; exact hlt), List.set_set, wrap_id (x := a + 2 * (n : Int) + 1) (by omega) (by omega), mk_set l a n hlt, wrap_succ (by omega), wrap_id (by omega) (by omega)]
      congr 1; omega
    · obtain rfl : n = l.length := by omega
      refine .inl fun k => ?_
      simp only [laws_markFaceS.l0]
      rw [if_neg (by rw [hlen]; omega)]
      simp
  exact hl
/-- The marks of a triangulation, and their number. -/
def cntF : Tri → Nat
  | [] => 0
  | r :: rs => 2 * r.length + cntF rs
def mkT (a : Int) : Tri → Tri
  | [] => []
  | r :: rs => mkR a r.length :: mkT (a + 2 * r.length) rs
theorem cntF_le (t : Tri) (h : ∀ r ∈ t, r.length ≤ 1048576) : cntF t ≤ 2097152 * t.length := by
  induction t with
  | nil => simp [cntF]
  | cons r rs ih =>
    have h1 := h r (List.mem_cons_self ..)
    have h2 := ih (fun x hx => h x (List.mem_cons_of_mem _ hx))
    simp only [cntF, List.length_cons]; omega
theorem markGo_ev : ∀ (suf : Tri) (pre : Tri) (a : Int), (∀ r ∈ suf, r.length ≤ 1048576) → 0 ≤ a → a + cntF suf ≤ 4398046511104 → Ev (fun k => laws_markFaceSS.go k suf.length (pre ++ suf) a pre.length) (a + cntF suf, pre ++ mkT a suf)
  | [], pre, a, _, h0, h1 => ev_const' fun k => by simp [laws_markFaceSS.go, cntF, mkT]
  | r :: rs, pre, a, hr, h0, h1 => by
    simp only [cntF] at h1
    have hm := markFaceS_ev r a (by have := hr r (List.mem_cons_self ..); omega) h0 (by omega)
    have ih := markGo_ev rs (pre ++ [mkR a r.length]) (a + 2 * r.length) (fun x hx => hr x (List.mem_cons_of_mem _ hx)) (by omega) (by omega)
    simp only [List.length_cons, laws_markFaceSS.go]
    have e0 : List.getD (pre ++ r :: rs) pre.length [] = r := by simp
    rw [e0]
    refine Ev.bind hm ?_
    dsimp only
    have e1 : (pre ++ r :: rs).set pre.length (mkR a r.length) = pre ++ [mkR a r.length] ++ rs := by
      rw [List.set_append_right _ _ (yoy _), Nat.sub_self, yby]; simp
    rw [e1]
    have e2 : pre.length + 1 = (pre ++ [mkR a r.length]).length := by simp
    rw [e2]
    have e3 : (a + ((cntF (r :: rs) : Nat) : Int), pre ++ mkT a (r :: rs)) = (a + 2 * r.length + (cntF rs : Int), pre ++ [mkR a r.length] ++ mkT (a + 2 * r.length) rs) := by
      simp only [cntF, mkT, List.append_assoc, List.singleton_append]; congr 1; omega
    rw [e3]
    exact ih
theorem markTriangulation_ev (t : Tri) (a : Int) (hs : Small t) (h0 : 0 ≤ a) (h1 : a ≤ 1048576) : Ev (fun k => laws_markTriangulation.f k t a) (a + cntF t, mkT a t) := by
  have := markGo_ev t [] a hs.2 h0 (by have := cntF_le t hs.2; have := hs.1; omega)
  rw [List.nil_append, List.nil_append] at this
  exact this
theorem heldFaceS_ev (a : Int) (m : Nat) (h : m ≤ 1099511627776) (h0 : 0 ≤ a) (h1 : a ≤ 4398046511104) : Ev (fun k => laws_heldFaceS.f k (mkR a m) a) (a + 2 * m) := by
  have hl : Ev (fun k => laws_heldFaceS.l0 k (mkR a m) a 0) (a + 2 * m) := by
    refine ev_loop0 (fun k (s : Int × Int) => laws_heldFaceS.l0 k (mkR a m) s.1 s.2) (fun s => ∃ n : Nat, n ≤ m ∧ s.2 = n ∧ s.1 = a + 2 * n) (fun s => m - s.2.toNat) (fun _ => a + 2 * m) ?_ (a, 0) ⟨0, by omega, rfl, by simp⟩
    rintro ⟨b, i⟩ ⟨n, hn, rfl, rfl⟩
    dsimp only
    by_cases hlt : n < m
    · refine .inr ⟨(a + 2 * ((n + 1 : Nat) : Int), ((n + 1 : Nat) : Int)), ⟨n + 1, by omega, rfl, rfl⟩, by simp; omega, rfl, fun k => ?_⟩
      have e : rd_Face (mkR a m) (n : Int) = ⟨a + 2 * n, a + 2 * n + 1⟩ := by unfold rd_Face; rw [Int.toNat_natCast, mkR_get a m n _ hlt]
      simp only [laws_heldFaceS.l0]
      rw [if_pos (by rw [mkR_length]; omega), if_pos (by omega), e, if_pos rfl, wrap_id (x := a + 2 * (n : Int) + 1) (by omega) (by omega), if_pos rfl, wrap_succ (by omega), wrap_id (by omega) (by omega)]
      congr 1; omega
    · obtain rfl : n = m := by omega
      refine .inl fun k => ?_
      simp only [laws_heldFaceS.l0]
      rw [if_neg (by rw [mkR_length]; omega)]
  exact hl
theorem heldSS_ev : ∀ (suf : Tri) (pre : Tri) (a : Int), (∀ r ∈ suf, r.length ≤ 1048576) → pre.length + suf.length ≤ 1048576 → 0 ≤ a → a + cntF suf ≤ 4398046511104 → Ev (fun k => laws_heldFaceSS.l0 k (pre ++ mkT a suf) a (pre.length : Int)) (a + cntF suf)
  | [], pre, a, _, hn, h0, h1 => by
    refine ev_step (f := fun _ => some a) (fun k => ?_) (ev_some (by simp [cntF]))
    rw [laws_heldFaceSS.l0, if_neg (by simp [mkT])]
  | r :: rs, pre, a, hr, hn, h0, h1 => by
    simp only [cntF, List.length_cons] at h1 hn
    have hm := heldFaceS_ev a r.length (by have := hr r (List.mem_cons_self ..); omega) h0 (by omega)
    have ih := heldSS_ev rs (pre ++ [mkR a r.length]) (a + 2 * r.length) (fun x hx => hr x (List.mem_cons_of_mem _ hx)) (by simp; omega) (by omega) (by omega)
    have e1 : pre ++ mkT a (r :: rs) = pre ++ [mkR a r.length] ++ mkT (a + 2 * r.length) rs := by simp [mkT]
    have e4 : rd_LFace (pre ++ mkT a (r :: rs)) (pre.length : Int) = mkR a r.length := by
      rw [rd_LFace_lt _ _ (by simp [mkT])]; simp [mkT]
    refine ev_step (fun k => by rw [laws_heldFaceSS.l0, if_pos (by simp [mkT]; omega), if_pos (by omega), e4]) (Ev.bind hm ?_)
    refine ev_neg (by omega) ?_
    have e2 : wrap64 ((pre.length : Int) + 1) = ((pre ++ [mkR a r.length]).length : Int) := by rw [wrap_succ (by omega)]; simp
    have e3 : (a + ((cntF (r :: rs) : Nat) : Int)) = a + 2 * r.length + (cntF rs : Int) := by simp only [cntF]; omega
    rw [e1, e3]
    exact Ev.congr (fun k => by rw [e2]) ih
theorem heldTriangulation_ev (t : Tri) (a : Int) (hs : Small t) (h0 : 0 ≤ a) (h1 : a ≤ 1048576) : Ev (fun k => laws_heldTriangulation.f k (mkT a t) a) (a + cntF t) := by
  have := heldSS_ev t [] a hs.2 (by have := hs.1; simp; omega) h0 (by have := cntF_le t hs.2; have := hs.1; omega)
  rw [List.nil_append] at this
  refine Ev.bind (g := fun k => laws_heldFaceSS.f k (mkT a t) a) this ?_
  exact ev_neg (by omega) (Ev.now _)
end Go.Proofs.Ytdgdnnjigigkcaa.P
namespace Go.Proofs.Ytdgdnnjigigkcaa.Pure
open Go.RowKit Go.Proofs.Ytdgdnnjigigkcaa.P Go.Proofs.Ytdgdnnjigigkcaa.Lib Go.Proofs.YtdgdnnjigigkcaaW.PrintWords
set_option linter.unusedVariables false
theorem FnExactGlueFaces (l0 : List (List SLawFace)) (a1 : Int) (a2 : Int) (a3 : Int) (a4 : Int) (h0 : Fits l0) (_ : (Lit.int .i64 a1).wf = true) (_ : (Lit.int .i64 a2).wf = true) (_ : (Lit.int .i64 a3).wf = true) (_ : (Lit.int .i64 a4).wf = true) : ∃ k, laws_FnExactGlueFaces.f k l0 a1 a2 a3 a4 = some true := by
  refine Ev.rounds ?_
  obtain ⟨r0, hr0, hs0⟩ := szTriangulation_ev l0 h0
  refine Ev.bind hr0 ?_
  by_cases hn0 : r0 < 0
  · exact ev_pos hn0 (Ev.now true)
  have hsm0 := hs0 hn0
  refine ev_neg hn0 ?_
  have hto0 := toTriangulation_ev l0 hsm0
  have hS0 := cvT_small hsm0
  have hi := impl_glue_ev hS0 a1 a2 a3 a4
  have hL := glueP_small (cvT l0) a1 a2 a3 a4
  have heq := eqTriangulation_ev _ hL
  have hh := heldTriangulation_ev _ 1 hL (by omega) (by omega)
  refine Ev.bind hto0 ?_
  refine Ev.bind (spec_glue_ev (cvT l0) a1 a2 a3 a4) ?_
  refine Ev.bind hto0 ?_
  refine Ev.bind hi ?_
  refine Ev.bind heq (ev_pos rfl (ev_pos rfl ?_))
  refine Ev.bind hto0 ?_
  refine Ev.bind (eqTriangulation_ev _ hS0) (ev_pos rfl ?_)
  refine Ev.bind (markTriangulation_ev _ 1 hS0 (by omega) (by omega)) ?_
  refine ev_neg (by dsimp only; omega) ?_
  refine Ev.bind heq (ev_pos rfl (ev_pos rfl ?_))
  refine Ev.bind (markTriangulation_ev _ 1 hL (by omega) (by omega)) ?_
  refine Ev.bind hh ?_
  refine ev_neg (by omega) (ev_pos rfl ?_)
  refine Ev.bind hto0 ?_
  refine Ev.bind hi ?_
  refine Ev.bind heq (ev_pos rfl (ev_pos rfl ?_))
  refine Ev.bind hh ?_
  exact ev_neg (by omega) (ev_pos rfl (Ev.now true))
end Go.Proofs.Ytdgdnnjigigkcaa.Pure
namespace Go.Proofs.Ytdgdnnjigigkcaa.Lib
open Go.RowKit Go.Proofs.YtdgdnnjigigkcaaW.PrintWords Go.Joins Go.Deep Go.WideShapes Go.ChangeShapes
set_option linter.unusedVariables false
/-- Whatever reads as data at type t reads as a value of the kind d. -/
def Opens (P : Program) (t : TypeId) {α : Type} (d : Kd α) : Prop := ∀ (H : Type) (enc : TypeId × Value → H) (w : World) (base : Nat) (spare : Nat → Bool) (held : Bool) (fuel : Nat) (cs : List Value) (x : DataW H × List MemPlace),
  DataW.trod enc P w base spare held fuel t cs = some x → ∃ y, d.K w y cs
theorem pick_list {α : Type} {R : Nat → α → Prop} : ∀ n, (∀ i, i < n → ∃ y, R i y) → ∃ ys : List α, ys.length = n ∧ ∀ j p, ys[j]? = some p → R j p
  | 0, _ => ⟨[], rfl, fun j p h => by simp at h⟩
  | n + 1, h => by
    obtain ⟨ys, hl, hr⟩ := pick_list n (fun i hi => h i (by omega))
    obtain ⟨y, hy⟩ := h n (by omega)
    refine ⟨ys ++ [y], by simp [hl], fun j p hj => ?_⟩
    by_cases hlt : j < n
    · rw [List.getElem?_append_left (by omega)] at hj
      exact hr j p hj
    · have hjn : j < (ys ++ [y]).length := (List.getElem?_eq_some_iff.1 hj).1
      have : j = n := by simp [hl] at hjn; omega
      subst this
      rw [List.getElem?_append_right (by omega), hl, Nat.sub_self] at hj
      injection hj with hj
      rw [← hj]
      exact hy
theorem opens_slice {P : Program} {t e : TypeId} {α : Type} {d : Kd α} (ht : P.underlying t = some (.slice e)) (hc : P.cellsOf e = d.sz) (h : Opens P e d) : Opens P t (Kd.slice e d) := by
  intro H enc w base spare held fuel cs x hx
  rcases open_slice ht hx with ⟨rfl, _⟩ | ⟨a, len, cap, m, n, D, Pl, rfl, hb, hl, hm, hmm, _, hi⟩
  · exact ⟨[], none, 0, rfl, yoy _, Kd.C_nil d w⟩
  · have each : ∀ i, i < len → ∃ y, ∃ cs', w.cells? base (a.add (i * d.sz)) d.sz = some cs' ∧ d.K w y cs' := by
      intro i hil
      have him : i < m := by rw [hmm]; split <;> omega
      obtain ⟨cs', h1, h2⟩ := hi i him
      obtain ⟨y, hy⟩ := h H enc w base spare held n cs' _ h2
      rw [hc] at h1
      exact ⟨y, cs', h1, hy⟩
    obtain ⟨ys, hlen, hys⟩ := pick_list len each
    refine ⟨ys, some a, cap, by rw [hlen], by omega, rfl, ?_, fun _ => ⟨a, rfl, fun j p hj => ?_⟩⟩
    · unfold maxLen at hm; omega
    · obtain ⟨cs', h1, h2⟩ := hys j p hj
      obtain ⟨_, h3, h4⟩ := World.cells?_some h1
      refine ⟨cs', h3, h2, fun i u hu => ?_⟩
      have hil : i < d.sz := by rw [← h3]; exact (List.getElem?_eq_some_iff.1 hu).1
      rw [← hu, ← h4 i hil, Go.Deep.add_add]
theorem opens_struct2 {P : Program} {t : TypeId} {f0 f1 : Field} {α : Type} (hs : P.underlying t = some (.struct #[f0, f1])) (hone : oneCellFields P #[f0, f1] = true) (hC : P.cellsOf t = 2)
    (h0 : P.underlying f0.type = some (.int .i64)) (h1 : P.underlying f1.type = some (.int .i64)) (d : Kd α) (mk : Int → Int → α) (hK : ∀ w a b, d.K w (mk a b) [.int .i64 a, .int .i64 b]) : Opens P t d := by
  intro H enc w base spare held fuel cs x h
  obtain ⟨y0, y1, n, hx, hl, g0, g1⟩ := trod_struct2 hs h
  obtain ⟨o0, k0⟩ := hone_of hone 0 f0 rfl
  obtain ⟨o1, k1⟩ := hone_of hone 1 f1 rfl
  rw [hC] at hl
  match cs, hl with
  | [c0, c1], _ =>
    rw [o0, k0] at g0
    rw [o1, k1] at g1
    obtain ⟨a, e0, _, _⟩ := DataW.trod_int h0 g0
    obtain ⟨b, e1, _, _⟩ := DataW.trod_int h1 g1
    simp at e0 e1
    subst e0 e1
    exact ⟨mk a b, hK w a b⟩
section
variable {H : Type} {enc : TypeId × Value → H} {P : Program} {w : World} {base : Nat} {spare : Nat → Bool} {held : Bool}
theorem array1 {α : Type} {cs : Array α} (h : cs.size = 1) : ∃ c0, cs = #[c0] := by
  obtain ⟨l⟩ := cs
  match l, h with
  | [c0], _ => exact ⟨c0, rfl⟩
/-- A struct that holds one slice, by value. -/
theorem open_agg1 {r : Reach} {b0 : Nat} {t e : TypeId} {f0 : Field} {α : Type} {d : Kd α} {v : Value} {D : DataW H} {p : List MemPlace} (hs : P.underlying t = some (.struct #[f0])) (hone : oneCellFields P #[f0] = true) (hC : P.cellsOf t = 1)
    (ho : Opens P f0.type (Kd.slice e d)) (hv : Value.okWide P w r b0 t v) (h : DataW.Trod enc P w base spare held t v D p) :
    ∃ (A : Option Addr) (c : Nat) (l : List α), v = .agg #[.slice A l.length c] ∧ l.length ≤ c ∧ d.C w A l.length l := by
  obtain ⟨cs, rfl, hsz⟩ := okWide_struct hs hv
  obtain ⟨c0, rfl⟩ := array1 (hsz.trans hC)
  obtain ⟨fuel, hf⟩ := h
  obtain ⟨y0, n, hx, _, h0⟩ := trod_struct1 hs hf
  obtain ⟨o0, k0⟩ := hone_of hone 0 f0 rfl
  have h0' : DataW.trod enc P w base spare held n f0.type [c0] = some y0 := by simpa [Value.cells, o0, k0] using h0
  obtain ⟨l, A, c, e1, hl, hCC⟩ := ho H enc w base spare held n _ _ h0'
  simp at e1
  subst e1
  exact ⟨A, c, l, rfl, hl, hCC⟩
end
theorem fits_of_C {e : Nat} {α : Type} {d : Kd α} {w : World} {A : Option Addr} {l : List (List α)} (h : (Kd.slice e d).C w A l.length l) : l.length ≤ 9223372036854775807 ∧ ∀ r ∈ l, r.length ≤ 9223372036854775807 := by
  refine ⟨h.2.1, fun r hr => ?_⟩
  obtain ⟨j, hj, rfl⟩ := List.mem_iff_getElem.1 hr
  obtain ⟨ad, _, hc⟩ := h.2.2 (by omega)
  obtain ⟨c, _, hK, _⟩ := hc j _ (List.getElem?_eq_getElem hj)
  obtain ⟨A', c', _, _, hC⟩ := hK
  exact hC.2.1
end Go.Proofs.Ytdgdnnjigigkcaa.Lib
