/- The statement FnExactFaceSignsSaid, proved: part 6 of 7 (texts of this session and of the kit's print, put together and cut to what is used by a program of it). -/
import Derived.Test.YtfnopcbicceeaaaMFnExactFaceSigns5
import Derived.Deep.Slices
import Derived.ChangeSame
import Derived.ChangeArms
import Derived.WideShapes
import Derived.Lib.SmallJoins
import Derived.ChangeShapes
namespace Go.Proofs.Ytfnopcbicceeaaa.P
open Go.RowKit Go.Proofs.YtfnopcbicceeaaaW.PrintWords Go.Proofs.YtfnopcbicceeaaaW.PrintLast Go.Proofs.YtfnopcbicceeaaaW.PrintMore
attribute [local go_sem] max2_int min2_int max_two min_two max_three min_three max_four min_four   -- for this text's walks alone
set_option linter.unusedVariables false
set_option linter.unusedSimpArgs false
open Go.Proofs.Ytfnopcbicceeaaa.Lib
/-! ### laws_FnExactFaceSigns: function 5 -/
def laws_FnExactFaceSigns.f (k : Nat) (l0 : List (List (SLawFace))) : Option Bool := (laws_szTriangulation.f k l0 1048576).bind fun t2 => if t2 < 0 then some true else (laws_toTriangulation.f k l0).bind fun t5 => (spec_FaceSigns.f k t5).bind fun t8 => (laws_toTriangulation.f k l0).bind fun t11 => (impl_FaceSigns.f k t11).bind fun t14 => (laws_eqInt64SS.f k t14 t8).bind fun t17 => if t17 = true then (laws_toTriangulation.f k l0).bind fun t19 => (laws_eqTriangulation.f k t11 t19).bind fun t22 => if t22 = true then (laws_markTriangulation.f k t11 1).bind fun bt11 => if bt11.1 < 0 then some false else (laws_eqInt64SS.f k t14 t8).bind fun t28 => if t28 = true then (laws_markInt64SS.f k t14 1).bind fun bt15 => (laws_heldInt64SS.f k bt15.2 1).bind fun t33 => if t33 < 0 then some false else if t33 = bt15.1 then (laws_toTriangulation.f k l0).bind fun t37 => (impl_FaceSigns.f k t37).bind fun t40 => (laws_eqInt64SS.f k t40 t8).bind fun t43 => if t43 = true then (laws_heldInt64SS.f k bt15.2 1).bind fun t45 => if t45 < 0 then some false else if t45 = bt15.1 then some true else some false else some false else some false else some false else some false else some false
set_option maxHeartbeats 8000000 in
set_option maxRecDepth 100000 in
theorem laws_FnExactFaceSigns.calls (k : Nat) (A0 : Option Addr) (c0 : Nat) (l0 : List (List (SLawFace))) (w : World) (hr0 : Kd.C (Kd.slice 123 kLawFace) w A0 l0.length l0) (hc0 : l0.length ≤ c0) (h : laws_FnExactFaceSigns.f k l0 = some true) :
 Calls Try.prog 5 #[.agg #[.slice A0 l0.length c0]] w fun e w' => e = .returned (.bool true) ∧ Below w.heap.size w w' := by
 have hu24 := Try.underlying24
 have hu30 := Try.underlying30
 have HR0 := Aside0.mk hr0
 have HC0 := Aside0.mk hc0
 clear hr0 hc0
 have HB := Aside0.mk (ypy w.heap.size w)
 have HT := Aside0.mk (yoy w.heap.size)
 have H := h
 clear h
 unfold laws_FnExactFaceSigns.f at H
 obtain ⟨t2, H10, H⟩ := ydy.mp H
 have H1 := Aside0.mk H10
 clear H10
 by_cases cC3 : t2 < 0
 next =>
  have dC3 : decide (t2 < 0) = true := ygy cC3
  clear cC3 H
  go_enter Try.func5, Try.ntmps5
  try go_wp2_with (first | ((with_reducible refine gate_dst (N := 1) rfl ?_); refine box_event ?hg (N := 1) ?hd (cs := #[.slice A0 l0.length c0]) (t := 24) ?hr ?_; (case hd => rfl); (case hg => rfl); (case hr => first | (go_simp; done) | (go_simp; rfl)); intro g1 hg w1 hbox hb; have HNg1 := Aside0.mk (by rw [hg]; exact HT.out : w.heap.size ≤ g1); have HXg1 := Aside0.mk (show g1 + 1 ≤ w1.heap.size from blk_lt hbox); have nHB := Aside0.mk (below_step HB.out hb); have nHT := Aside0.mk (top_below HT.out hb); clear HB HT  ; have HB := nHB; have HT := nHT; clear nHB nHT  ; clear HT; have HT := HXg1; clear HXg1; have BKg1 := Aside0.mk hbox; clear hg hbox hb; have hczg1 : w1.cell? ⟨g1, 0, none⟩ = some (.slice A0 l0.length c0) := (blk_cell BKg1.out 0).trans rfl; have hfzg1 := blk_frozen BKg1.out 0) | ((with_reducible refine gate_callee (f := 8) rfl ?_); refine goesL_ (some 13) rfl rfl Try.func8 (by kernel_rfl) rfl #[.agg #[.slice A0 l0.length c0], .int .i64 1048576] rfl (by (try simp only [yiy, yjy, yky]); first | done | rfl | (simp only [yly, ymy]; rfl)) ?_; (with_reducible refine (laws_szTriangulation.calls k _ _ l0 1048576 t2 _ ?side1 ?side2 H1.out).mono ?_); (case side1 => exact Kd.C_below HR0.out HB.out); (case side2 => exact HC0.out); rintro e w2 ⟨rfl, hb⟩; refine ⟨_, rfl, ?_⟩; (try clear hczg1 hfzg1); have nBg1 := Aside0.mk (blk_below (g := g1) (o := .cells #[.slice A0 l0.length c0] 24 (0, 0)) BKg1.out hb); have nHB := Aside0.mk (below_step HB.out hb); have nHT := Aside0.mk (top_below HT.out hb); clear HB HT  BKg1; have BKg1 := nBg1; have HB := nHB; have HT := nHT; clear nHB nHT  nBg1; (try clear hb); (try clear hnd); have hczg1 : w2.cell? ⟨g1, 0, none⟩ = some (.slice A0 l0.length c0) := (blk_cell BKg1.out 0).trans rfl; have hfzg1 := blk_frozen BKg1.out 0))
  go_ret
  exact ⟨by first | rfl | (simp <;> rfl), HB.out⟩
 rw [if_neg cC3] at H
 have dC3 : decide (t2 < 0) = false := yhy cC3
 clear cC3
 obtain ⟨t5, H40, H⟩ := ydy.mp H
 have H4 := Aside0.mk H40
 clear H40
 obtain ⟨t8, H70, H⟩ := ydy.mp H
 have H7 := Aside0.mk H70
 clear H70
 obtain ⟨t11, H100, H⟩ := ydy.mp H
 have H10 := Aside0.mk H100
 clear H100
 obtain ⟨t14, H130, H⟩ := ydy.mp H
 have H13 := Aside0.mk H130
 clear H130
 obtain ⟨t17, H160, H⟩ := ydy.mp H
 obtain rfl : t17 = true := by cases t17 with | true => rfl | false => exact absurd H (by simp)
 replace H := H
 have H16 := Aside0.mk H160
 clear H160
 rw [if_pos rfl] at H
 obtain ⟨t19, H180, H⟩ := ydy.mp H
 have H18 := Aside0.mk H180
 clear H180
 obtain ⟨t22, H210, H⟩ := ydy.mp H
 obtain rfl : t22 = true := by cases t22 with | true => rfl | false => exact absurd H (by simp)
 replace H := H
 have H21 := Aside0.mk H210
 clear H210
 rw [if_pos rfl] at H
 obtain ⟨⟨m24, y25⟩, H230, H⟩ := ydy.mp H
 have H23 := Aside0.mk H230
 clear H230
 dsimp only at H
 have cC26 : ¬ (m24 < 0) := fun c_ => by rw [if_pos c_] at H; cases H
 rw [if_neg cC26] at H
 have dC26 : decide (m24 < 0) = false := yhy cC26
 clear cC26
 obtain ⟨t28, H270, H⟩ := ydy.mp H
 obtain rfl : t28 = true := by cases t28 with | true => rfl | false => exact absurd H (by simp)
 replace H := H
 have H27 := Aside0.mk H270
 clear H270
 rw [if_pos rfl] at H
 obtain ⟨⟨m30, y31⟩, H290, H⟩ := ydy.mp H
 have H29 := Aside0.mk H290
 clear H290
 dsimp only at H
 obtain ⟨t33, H320, H⟩ := ydy.mp H
 have H32 := Aside0.mk H320
 clear H320
 have cC34 : ¬ (t33 < 0) := fun c_ => by rw [if_pos c_] at H; cases H
 rw [if_neg cC34] at H
 have dC34 : decide (t33 < 0) = false := yhy cC34
 clear cC34
 have cC35 : t33 = m30 := by by_cases c_ : t33 = m30; exact c_; rw [if_neg c_] at H; cases H
 rw [if_pos cC35] at H
 have dC35 : (t33 != m30) = false := by rw [cC35]; exact bne_self_eq_false _
 clear cC35
 obtain ⟨t37, H360, H⟩ := ydy.mp H
 have H36 := Aside0.mk H360
 clear H360
 obtain ⟨t40, H390, H⟩ := ydy.mp H
 have H39 := Aside0.mk H390
 clear H390
 obtain ⟨t43, H420, H⟩ := ydy.mp H
 obtain rfl : t43 = true := by cases t43 with | true => rfl | false => exact absurd H (by simp)
 replace H := H
 have H42 := Aside0.mk H420
 clear H420
 rw [if_pos rfl] at H
 obtain ⟨t45, H440, H⟩ := ydy.mp H
 have H44 := Aside0.mk H440
 clear H440
 have cC46 : ¬ (t45 < 0) := fun c_ => by rw [if_pos c_] at H; cases H
 rw [if_neg cC46] at H
 have dC46 : decide (t45 < 0) = false := yhy cC46
 clear cC46
 have cC47 : t45 = m30 := by by_cases c_ : t45 = m30; exact c_; rw [if_neg c_] at H; cases H
 rw [if_pos cC47] at H
 have dC47 : (t45 != m30) = false := by rw [cC47]; exact bne_self_eq_false _
 clear cC47
 clear H
 go_enter Try.func5, Try.ntmps5
 try go_wp2_with (first | ((with_reducible refine gate_dst (N := 1) rfl ?_); refine box_event ?hg (N := 1) ?hd (cs := #[.slice A0 l0.length c0]) (t := 24) ?hr ?_; (case hd => rfl); (case hg => rfl); (case hr => first | (go_simp; done) | (go_simp; rfl)); intro g1 hg w1 hbox hb; have HNg1 := Aside0.mk (by rw [hg]; exact HT.out : w.heap.size ≤ g1); have HXg1 := Aside0.mk (show g1 + 1 ≤ w1.heap.size from blk_lt hbox); have nHB := Aside0.mk (below_step HB.out hb); have nHT := Aside0.mk (top_below HT.out hb); clear HB HT  ; have HB := nHB; have HT := nHT; clear nHB nHT  ; clear HT; have HT := HXg1; clear HXg1; have BKg1 := Aside0.mk hbox; clear hg hbox hb; have hczg1 : w1.cell? ⟨g1, 0, none⟩ = some (.slice A0 l0.length c0) := (blk_cell BKg1.out 0).trans rfl; have hfzg1 := blk_frozen BKg1.out 0) | ((with_reducible refine gate_callee (f := 8) rfl ?_); refine goesL_ (some 13) rfl rfl Try.func8 (by kernel_rfl) rfl #[.agg #[.slice A0 l0.length c0], .int .i64 1048576] rfl (by (try simp only [yiy, yjy, yky]); first | done | rfl | (simp only [yly, ymy]; rfl)) ?_; (with_reducible refine (laws_szTriangulation.calls k _ _ l0 1048576 t2 _ ?side1 ?side2 H1.out).mono ?_); (case side1 => exact Kd.C_below HR0.out HB.out); (case side2 => exact HC0.out); rintro e w2 ⟨rfl, hb⟩; refine ⟨_, rfl, ?_⟩; (try clear hczg1 hfzg1); have nBg1 := Aside0.mk (blk_below (g := g1) (o := .cells #[.slice A0 l0.length c0] 24 (0, 0)) BKg1.out hb); have nHB := Aside0.mk (below_step HB.out hb); have nHT := Aside0.mk (top_below HT.out hb); clear HB HT  BKg1; have BKg1 := nBg1; have HB := nHB; have HT := nHT; clear nHB nHT  nBg1; (try clear hb); (try clear hnd); have hczg1 : w2.cell? ⟨g1, 0, none⟩ = some (.slice A0 l0.length c0) := (blk_cell BKg1.out 0).trans rfl; have hfzg1 := blk_frozen BKg1.out 0) | ((with_reducible refine gate_callee (f := 10) rfl ?_); refine goesL_ (some 17) rfl rfl Try.func10 (by kernel_rfl) rfl #[.agg #[.slice A0 l0.length c0]] rfl (by (try simp only [yiy, yjy, yky]); first | done | rfl | (simp only [yly, ymy]; rfl)) ?_; (with_reducible refine (laws_toTriangulation.calls k _ _ l0 t5 _ ?side1 ?side2 H4.out).mono ?_); (case side1 => exact Kd.C_below HR0.out HB.out); (case side2 => exact HC0.out); rintro e w3 ⟨vo6, rfl, ho0, hb⟩; refine ⟨_, rfl, ?_⟩; (try clear hczg1 hfzg1); obtain ⟨loo6, hio6, hno6⟩ := ObS.made ho0 hb HT.out (below_size HB.out); have nBg1 := Aside0.mk (blk_below (g := g1) (o := .cells #[.slice A0 l0.length c0] 24 (0, 0)) BKg1.out hb); have nHB := Aside0.mk (below_step HB.out hb); have nHT := Aside0.mk (top_below HT.out hb); clear HB HT  BKg1; have BKg1 := nBg1; have HB := nHB; have HT := nHT; clear nHB nHT  nBg1; have HNo6 := Aside0.mk hno6.1; clear HT; have HT := Aside0.mk hno6.2.1; have HOo6 := Aside0.mk hno6.2.2; clear hno6 ho0; obtain ⟨Ao6, co6, eeo6⟩ := HOo6.out.slice; subst eeo6; (try clear hb); (try clear hnd); have hczg1 : w3.cell? ⟨g1, 0, none⟩ = some (.slice A0 l0.length c0) := (blk_cell BKg1.out 0).trans rfl; have hfzg1 := blk_frozen BKg1.out 0) | ((with_reducible refine gate_callee (f := 17) rfl ?_); refine goesL_ (some 18) rfl rfl Try.func17 (by kernel_rfl) rfl #[.agg #[.slice Ao6 t5.length co6]] rfl (by (try simp only [yiy, yjy, yky]); first | done | rfl | (simp only [yly, ymy]; rfl)) ?_; (with_reducible refine (spec_FaceSigns.calls k _ _ t5 t8 _ ?side1 ?side2 H7.out).mono ?_); (case side1 => exact (ObS.reads HOo6.out).2.2); (case side2 => exact ObS.room HOo6.out); rintro e w4 ⟨vo9, rfl, ho0, hb⟩; refine ⟨_, rfl, ?_⟩; (try clear hczg1 hfzg1); obtain ⟨loo9, hio9, hno9⟩ := ObS.made ho0 hb HT.out (below_size HB.out); have nOo6 := Aside0.mk (ObS.below HOo6.out hb); have nBg1 := Aside0.mk (blk_below (g := g1) (o := .cells #[.slice A0 l0.length c0] 24 (0, 0)) BKg1.out hb); have nHB := Aside0.mk (below_step HB.out hb); have nHT := Aside0.mk (top_below HT.out hb); clear HB HT HOo6 BKg1; have HOo6 := nOo6; have BKg1 := nBg1; have HB := nHB; have HT := nHT; clear nHB nHT nOo6 nBg1; have HNo9 := Aside0.mk hno9.1; clear HT; have HT := Aside0.mk hno9.2.1; have HOo9 := Aside0.mk hno9.2.2; clear hno9 ho0; obtain ⟨Ao9, co9, eeo9⟩ := HOo9.out.slice; subst eeo9; (try clear hb); (try clear hnd); have hczg1 : w4.cell? ⟨g1, 0, none⟩ = some (.slice A0 l0.length c0) := (blk_cell BKg1.out 0).trans rfl; have hfzg1 := blk_frozen BKg1.out 0) | ((with_reducible refine gate_callee (f := 10) rfl ?_); refine goesL_ (some 20) rfl rfl Try.func10 (by kernel_rfl) rfl #[.agg #[.slice A0 l0.length c0]] rfl (by (try simp only [yiy, yjy, yky]); first | done | rfl | (simp only [yly, ymy]; rfl)) ?_; (with_reducible refine (laws_toTriangulation.calls k _ _ l0 t11 _ ?side1 ?side2 H10.out).mono ?_); (case side1 => exact Kd.C_below HR0.out HB.out); (case side2 => exact HC0.out); rintro e w5 ⟨vo12, rfl, ho0, hb⟩; refine ⟨_, rfl, ?_⟩; (try clear hczg1 hfzg1); obtain ⟨loo12, hio12, hno12⟩ := ObS.made ho0 hb HT.out (below_size HB.out); have nOo6 := Aside0.mk (ObS.below HOo6.out hb); have nOo9 := Aside0.mk (ObS.below HOo9.out hb); have nBg1 := Aside0.mk (blk_below (g := g1) (o := .cells #[.slice A0 l0.length c0] 24 (0, 0)) BKg1.out hb); have nHB := Aside0.mk (below_step HB.out hb); have nHT := Aside0.mk (top_below HT.out hb); clear HB HT HOo6 HOo9 BKg1; have HOo6 := nOo6; have HOo9 := nOo9; have BKg1 := nBg1; have HB := nHB; have HT := nHT; clear nHB nHT nOo6 nOo9 nBg1; have HNo12 := Aside0.mk hno12.1; clear HT; have HT := Aside0.mk hno12.2.1; have HOo12 := Aside0.mk hno12.2.2; clear hno12 ho0; obtain ⟨Ao12, co12, eeo12⟩ := HOo12.out.slice; subst eeo12; (try clear hb); (try clear hnd); have hczg1 : w5.cell? ⟨g1, 0, none⟩ = some (.slice A0 l0.length c0) := (blk_cell BKg1.out 0).trans rfl; have hfzg1 := blk_frozen BKg1.out 0) | ((with_reducible refine gate_dst (N := 5) rfl ?_); refine box_event ?hg (N := 5) ?hd (cs := #[.slice none 0 0]) (t := 30) ?hr ?_; (case hd => rfl); (case hg => rfl); (case hr => first | (go_simp; done) | (go_simp; rfl)); intro g5 hg w6 hbox hb; (try clear hczg1 hfzg1); have HNg5 := Aside0.mk (by rw [hg]; exact HT.out : hio12 ≤ g5); have HXg5 := Aside0.mk (show g5 + 1 ≤ w6.heap.size from blk_lt hbox); have nOo6 := Aside0.mk (ObS.below HOo6.out hb); have nOo9 := Aside0.mk (ObS.below HOo9.out hb); have nOo12 := Aside0.mk (ObS.below HOo12.out hb); have nBg1 := Aside0.mk (blk_below (g := g1) (o := .cells #[.slice A0 l0.length c0] 24 (0, 0)) BKg1.out hb); have nHB := Aside0.mk (below_step HB.out hb); have nHT := Aside0.mk (top_below HT.out hb); clear HB HT HOo6 HOo9 HOo12 BKg1; have HOo6 := nOo6; have HOo9 := nOo9; have HOo12 := nOo12; have BKg1 := nBg1; have HB := nHB; have HT := nHT; clear nHB nHT nOo6 nOo9 nOo12 nBg1; clear HT; have HT := HXg5; clear HXg5; have BKg5 := Aside0.mk hbox; clear hg hbox hb; have hnbg5_g1 : g5 ≠ g1 := (by have := HNg1.out; have := HNo6.out; have := HNo9.out; have := HNo12.out; have := HNg5.out; omega); have hnbg1_g5 : g1 ≠ g5 := (by have := HNg1.out; have := HNo6.out; have := HNo9.out; have := HNo12.out; have := HNg5.out; omega); have hczg1 : w6.cell? ⟨g1, 0, none⟩ = some (.slice A0 l0.length c0) := (blk_cell BKg1.out 0).trans rfl; have hfzg1 := blk_frozen BKg1.out 0; have hczg5 : w6.cell? ⟨g5, 0, none⟩ = some (.slice none 0 0) := (blk_cell BKg5.out 0).trans rfl; have hfzg5 := blk_frozen BKg5.out 0) | ((with_reducible refine gate_callee (f := 18) rfl ?_); refine goesL_ (some 22) rfl rfl Try.func18 (by kernel_rfl) rfl #[.agg #[.slice Ao12 t11.length co12]] rfl (by (try simp only [yiy, yjy, yky]); first | done | rfl | (simp only [yly, ymy]; rfl)) ?_; (with_reducible refine (impl_FaceSigns.calls k _ _ t11 t14 _ ?side1 ?side2 H13.out).mono ?_); (case side1 => exact (ObS.reads (ObS.far (g := g5) (i := 0) HOo12.out (by have := HNg1.out; have := HNo6.out; have := HNo9.out; have := HNo12.out; have := HNg5.out; omega) _)).2.2); (case side2 => exact ObS.room HOo12.out); rintro e w7 ⟨vo15, rfl, ho0, hb⟩; refine ⟨_, rfl, ?_⟩; (try clear hczg1 hfzg1 hczg5 hfzg5); obtain ⟨loo15, hio15, hno15⟩ := ObS.made ho0 hb (top_far HT.out) (below_size (below_set HB.out (show w.heap.size ≤ g5 from (by have := HNg1.out; have := HNo6.out; have := HNo9.out; have := HNo12.out; have := HNg5.out; omega)))); have nOo6 := Aside0.mk (ObS.below (ObS.far (g := g5) (i := 0) HOo6.out (by have := HNg1.out; have := HNo6.out; have := HNo9.out; have := HNo12.out; have := HNg5.out; omega) _) hb); have nOo9 := Aside0.mk (ObS.below (ObS.far (g := g5) (i := 0) HOo9.out (by have := HNg1.out; have := HNo6.out; have := HNo9.out; have := HNo12.out; have := HNg5.out; omega) _) hb); have nOo12 := Aside0.mk (ObS.below (ObS.far (g := g5) (i := 0) HOo12.out (by have := HNg1.out; have := HNo6.out; have := HNo9.out; have := HNo12.out; have := HNg5.out; omega) _) hb); have nBg1 := Aside0.mk (blk_below (g := g1) (o := .cells #[.slice A0 l0.length c0] 24 (0, 0)) (blk_far (p := ⟨g5, 0, none⟩) BKg1.out (show g1 ≠ g5 from (by have := HNg1.out; have := HNo6.out; have := HNo9.out; have := HNo12.out; have := HNg5.out; omega)) _) hb); have nBg5 := Aside0.mk (blk_below (g := g5) (o := .cells #[.slice Ao12 t11.length co12] 30 (0, 0)) (blk_put (cs := #[.slice none 0 0]) BKg5.out 0 _ rfl) hb); have nHB := Aside0.mk (below_step (below_set HB.out (show w.heap.size ≤ g5 from (by have := HNg1.out; have := HNo6.out; have := HNo9.out; have := HNo12.out; have := HNg5.out; omega))) hb); have nHT := Aside0.mk (top_below (top_far HT.out) hb); clear HB HT HOo6 HOo9 HOo12 BKg1 BKg5; have HOo6 := nOo6; have HOo9 := nOo9; have HOo12 := nOo12; have BKg1 := nBg1; have BKg5 := nBg5; have HB := nHB; have HT := nHT; clear nHB nHT nOo6 nOo9 nOo12 nBg1 nBg5; have HNo15 := Aside0.mk hno15.1; clear HT; have HT := Aside0.mk hno15.2.1; have HOo15 := Aside0.mk hno15.2.2; clear hno15 ho0; obtain ⟨Ao15, co15, eeo15⟩ := HOo15.out.slice; subst eeo15; (try clear hb); (try clear hnd); have hczg1 : w7.cell? ⟨g1, 0, none⟩ = some (.slice A0 l0.length c0) := (blk_cell BKg1.out 0).trans rfl; have hfzg1 := blk_frozen BKg1.out 0; have hczg5 : w7.cell? ⟨g5, 0, none⟩ = some (.slice Ao12 t11.length co12) := (blk_cell BKg5.out 0).trans rfl; have hfzg5 := blk_frozen BKg5.out 0) | ((with_reducible refine gate_callee (f := 19) rfl ?_); refine goesL_ (some 25) rfl rfl Try.func19 (by kernel_rfl) rfl #[.slice Ao15 t14.length co15, .slice Ao9 t8.length co9] rfl (by (try simp only [yiy, yjy, yky]); first | done | rfl | (simp only [yly, ymy]; rfl)) ?_; (with_reducible refine (laws_eqInt64SS.calls k _ _ t14 _ _ t8 true _ ?side1 ?side2 ?side3 ?side4 H16.out).mono ?_); (case side1 => exact (ObS.reads HOo15.out).2.2); (case side2 => exact ObS.room HOo15.out); (case side3 => exact (ObS.reads HOo9.out).2.2); (case side4 => exact ObS.room HOo9.out); rintro e w8 ⟨rfl, ⟨nd, hnd⟩⟩; refine ⟨_, rfl, ?_⟩; have hb := below_of_drewN hnd; (try clear hczg1 hfzg1 hczg5 hfzg5); have nOo6 := Aside0.mk (ObS.below HOo6.out hb); have nOo9 := Aside0.mk (ObS.below HOo9.out hb); have nOo12 := Aside0.mk (ObS.below HOo12.out hb); have nOo15 := Aside0.mk (ObS.below HOo15.out hb); have nBg1 := Aside0.mk (blk_below (g := g1) (o := .cells #[.slice A0 l0.length c0] 24 (0, 0)) BKg1.out hb); have nBg5 := Aside0.mk (blk_below (g := g5) (o := .cells #[.slice Ao12 t11.length co12] 30 (0, 0)) BKg5.out hb); have nHB := Aside0.mk (below_step HB.out hb); have nHT := Aside0.mk (top_below HT.out hb); clear HB HT HOo6 HOo9 HOo12 HOo15 BKg1 BKg5; have HOo6 := nOo6; have HOo9 := nOo9; have HOo12 := nOo12; have HOo15 := nOo15; have BKg1 := nBg1; have BKg5 := nBg5; have HB := nHB; have HT := nHT; clear nHB nHT nOo6 nOo9 nOo12 nOo15 nBg1 nBg5; (try clear hb); (try clear hnd); have hczg1 : w8.cell? ⟨g1, 0, none⟩ = some (.slice A0 l0.length c0) := (blk_cell BKg1.out 0).trans rfl; have hfzg1 := blk_frozen BKg1.out 0; have hczg5 : w8.cell? ⟨g5, 0, none⟩ = some (.slice Ao12 t11.length co12) := (blk_cell BKg5.out 0).trans rfl; have hfzg5 := blk_frozen BKg5.out 0))
 (try clear hczg1 hfzg1 hczg5 hfzg5)
 have nOo6 := Aside0.mk (ObS.drew HOo6.out)
 have nOo9 := Aside0.mk (ObS.drew HOo9.out)
 have nOo12 := Aside0.mk (ObS.drew HOo12.out)
 have nOo15 := Aside0.mk (ObS.drew HOo15.out)
 have nBg1 := Aside0.mk (blk_drew BKg1.out)
 have nBg5 := Aside0.mk (blk_drew BKg5.out)
 have nHB := Aside0.mk (below_drew1 HB.out)
 have nHT := Aside0.mk (top_drew HT.out)
 clear HB HT HOo6 HOo9 HOo12 HOo15 BKg1 BKg5
 have HOo6 := nOo6
 have HOo9 := nOo9
 have HOo12 := nOo12
 have HOo15 := nOo15
 have BKg1 := nBg1
 have BKg5 := nBg5
 have HB := nHB
 have HT := nHT
 clear nHB nHT nOo6 nOo9 nOo12 nOo15 nBg1 nBg5
 refine start_ (n := 5) (S := fun w' => w'.cell? ⟨g5, 0, none⟩ = some (.slice Ao12 t11.length co12) ∧ w'.cell? ⟨g1, 0, none⟩ = some (.slice A0 l0.length c0)) (ds := []) #[false, false, false, false, false] (by kernel_rfl) rfl rfl ⟨(blk_cell BKg5.out 0).trans rfl, (blk_cell BKg1.out 0).trans rfl⟩ (fun hHeld => ?_)
 generalize hdr_ : World.drew _ = w9 at HOo6 HOo9 HOo12 HOo15 BKg1 BKg5 HB HT hHeld ⊢
 (try clear hdr_)
 refine take_ (i := 0) (N := some 27) (v := ?_) (a' := ?_) #[true, false, false, false, false] rfl rfl (by kernel_rfl) (fun _ _ _ h => h) (Or.inl ⟨by rfl, ?_⟩) hHeld ?_ ?_
 rotate_left
 next =>
  rintro w' ⟨s0, s1⟩
  go_simp
  with_reducible rfl
 rotate_left
 next =>
  simp only [Act.put, yay, yby, ycy, i64_w, i32_w]
  rfl
 refine take_ (i := 1) (N := some 28) (v := ?_) (a' := ?_) #[true, true, false, false, false] rfl rfl (by kernel_rfl) (fun _ _ _ h => h) (Or.inl ⟨by rfl, ?_⟩) hHeld ?_ ?_
 rotate_left
 next =>
  rintro w' ⟨s0, s1⟩
  go_simp
  with_reducible rfl
 rotate_left
 next =>
  simp only [Act.put, yay, yby, ycy, i64_w, i32_w]
  rfl
 refine one_ (i := 2) (N := some 29) #[true, true, true, false, false] rfl rfl (by kernel_rfl) (by decide) (fun K hK => ?_)
 refine goes_ Try.func10 (by kernel_rfl) rfl #[.agg #[.slice A0 l0.length c0]] (by rfl) rfl rfl (by (try simp only [yiy, yjy, yky]); first | done | rfl | (simp only [yly, ymy]; rfl)) ?_
 with_reducible refine (laws_toTriangulation.calls k _ _ l0 t19 _ ?side1 ?side2 H18.out).mono ?_
 (case side1 => exact Kd.C_below HR0.out HB.out)
 (case side2 => exact HC0.out)
 rintro e w10 ⟨vo20, rfl, ho0, hb⟩
 refine ⟨_, rfl, ?_⟩
 (try clear hczg1 hfzg1 hczg5 hfzg5)
 obtain ⟨loo20, hio20, hno20⟩ := ObS.made ho0 hb HT.out (below_size HB.out)
 have nOo6 := Aside0.mk (ObS.below HOo6.out hb)
 have nOo9 := Aside0.mk (ObS.below HOo9.out hb)
 have nOo12 := Aside0.mk (ObS.below HOo12.out hb)
 have nOo15 := Aside0.mk (ObS.below HOo15.out hb)
 have nBg1 := Aside0.mk (blk_below (g := g1) (o := .cells #[.slice A0 l0.length c0] 24 (0, 0)) BKg1.out hb)
 have nBg5 := Aside0.mk (blk_below (g := g5) (o := .cells #[.slice Ao12 t11.length co12] 30 (0, 0)) BKg5.out hb)
 have nHB := Aside0.mk (below_step HB.out hb)
 have nHT := Aside0.mk (top_below HT.out hb)
 clear HB HT HOo6 HOo9 HOo12 HOo15 BKg1 BKg5
 have HOo6 := nOo6
 have HOo9 := nOo9
 have HOo12 := nOo12
 have HOo15 := nOo15
 have BKg1 := nBg1
 have BKg5 := nBg5
 have HB := nHB
 have HT := nHT
 clear nHB nHT nOo6 nOo9 nOo12 nOo15 nBg1 nBg5
 have HNo20 := Aside0.mk hno20.1
 clear HT
 have HT := Aside0.mk hno20.2.1
 have HOo20 := Aside0.mk hno20.2.2
 clear hno20 ho0
 obtain ⟨Ao20, co20, eeo20⟩ := HOo20.out.slice
 subst eeo20
 (try clear hb)
 (try clear hnd)
 refine hK.out _ _ ⟨(blk_cell BKg5.out 0).trans rfl, (blk_cell BKg1.out 0).trans rfl⟩ (fun hHeld => ?_)
 clear hK K
 refine norm_ (a' := ?_) ?_ ?_
 rotate_left
 next =>
  show Act.put _ (some 29) _ = _
  simp only [Act.put, yay, yby, ycy, i64_w, i32_w]
  rfl
 refine one_ (i := 3) (N := some 30) #[true, true, true, true, false] rfl rfl (by kernel_rfl) (by decide) (fun K hK => ?_)
 refine goes_ Try.func12 (by kernel_rfl) rfl #[.agg #[.slice Ao12 t11.length co12], .agg #[.slice Ao20 t19.length co20]] (by rfl) rfl rfl (by (try simp only [yiy, yjy, yky]); first | done | rfl | (simp only [yly, ymy]; rfl)) ?_
 with_reducible refine (laws_eqTriangulation.calls k _ _ t11 _ _ t19 true _ ?side1 ?side2 ?side3 ?side4 H21.out).mono ?_
 (case side1 => exact (ObS.reads HOo12.out).2.2)
 (case side2 => exact ObS.room HOo12.out)
 (case side3 => exact (ObS.reads HOo20.out).2.2)
 (case side4 => exact ObS.room HOo20.out)
 rintro e w11 ⟨rfl, hb⟩
 refine ⟨_, rfl, ?_⟩
 (try clear hczg1 hfzg1 hczg5 hfzg5)
 have nOo6 := Aside0.mk (ObS.below HOo6.out hb)
 have nOo9 := Aside0.mk (ObS.below HOo9.out hb)
 have nOo12 := Aside0.mk (ObS.below HOo12.out hb)
 have nOo15 := Aside0.mk (ObS.below HOo15.out hb)
 have nOo20 := Aside0.mk (ObS.below HOo20.out hb)
 have nBg1 := Aside0.mk (blk_below (g := g1) (o := .cells #[.slice A0 l0.length c0] 24 (0, 0)) BKg1.out hb)
 have nBg5 := Aside0.mk (blk_below (g := g5) (o := .cells #[.slice Ao12 t11.length co12] 30 (0, 0)) BKg5.out hb)
 have nHB := Aside0.mk (below_step HB.out hb)
 have nHT := Aside0.mk (top_below HT.out hb)
 clear HB HT HOo6 HOo9 HOo12 HOo15 HOo20 BKg1 BKg5
 have HOo6 := nOo6
 have HOo9 := nOo9
 have HOo12 := nOo12
 have HOo15 := nOo15
 have HOo20 := nOo20
 have BKg1 := nBg1
 have BKg5 := nBg5
 have HB := nHB
 have HT := nHT
 clear nHB nHT nOo6 nOo9 nOo12 nOo15 nOo20 nBg1 nBg5
 (try clear hb)
 (try clear hnd)
 refine hK.out _ _ ⟨(blk_cell BKg5.out 0).trans rfl, (blk_cell BKg1.out 0).trans rfl⟩ (fun hHeld => ?_)
 clear hK K
 refine norm_ (a' := ?_) ?_ ?_
 rotate_left
 next =>
  show Act.put _ (some 30) _ = _
  simp only [Act.put, yay, yby, ycy, i64_w, i32_w]
  rfl
 refine pure_ (i := 4) (N := some 31) (v := ?_) (a' := ?_) #[true, true, true, true, true] rfl rfl (by kernel_rfl) (fun _ _ _ h => h) (Or.inl ⟨by rfl, ?_⟩) ?_ ?_
 rotate_left
 next =>
  intro w'
  go_simp
  with_reducible rfl
 rotate_left
 next =>
  simp only [Act.put, yay, yby, ycy, i64_w, i32_w]
  rfl
 refine done_ (by kernel_rfl) ?_
 have hczg1 : w11.cell? ⟨g1, 0, none⟩ = some (.slice A0 l0.length c0) := (blk_cell BKg1.out 0).trans rfl
 have hfzg1 := blk_frozen BKg1.out 0
 have hczg5 : w11.cell? ⟨g5, 0, none⟩ = some (.slice Ao12 t11.length co12) := (blk_cell BKg5.out 0).trans rfl
 have hfzg5 := blk_frozen BKg5.out 0
 try go_wp2_with (first | ((with_reducible refine gate_callee (f := 15) rfl ?_); refine goesL_ (some 34) rfl rfl Try.func15 (by kernel_rfl) rfl #[.agg #[.slice Ao12 t11.length co12], .int .i64 1] rfl (by (try simp only [yiy, yjy, yky]); first | done | rfl | (simp only [yly, ymy]; rfl)) ?_; (with_reducible refine (laws_markTriangulation.calls k (fun k_ => loo12 ≤ k_ ∧ k_ < hio12) (.slice Ao12 t11.length co12) t11 1 m24 y25 w _ HB.out (ObS.row HOo12.out) H23.out).mono ?_); rintro e w12 ⟨rfl, hy, hb, hk0⟩; refine ⟨_, rfl, ?_⟩; have hk := hk0; have nM := Aside0.mk (ObS.marked HOo12.out hy hk.1); (try clear hczg1 hfzg1 hczg5 hfzg5); have nOo6 := Aside0.mk (ObS.kept HOo6.out hk (by have := HNg1.out; have := HNo6.out; have := HNo9.out; have := HNo12.out; have := HNg5.out; have := HNo15.out; have := HNo20.out; omega)); have nOo9 := Aside0.mk (ObS.kept HOo9.out hk (by have := HNg1.out; have := HNo6.out; have := HNo9.out; have := HNo12.out; have := HNg5.out; have := HNo15.out; have := HNo20.out; omega)); have nOo15 := Aside0.mk (ObS.kept HOo15.out hk (by have := HNg1.out; have := HNo6.out; have := HNo9.out; have := HNo12.out; have := HNg5.out; have := HNo15.out; have := HNo20.out; omega)); have nOo20 := Aside0.mk (ObS.kept HOo20.out hk (by have := HNg1.out; have := HNo6.out; have := HNo9.out; have := HNo12.out; have := HNg5.out; have := HNo15.out; have := HNo20.out; omega)); have nBg1 := Aside0.mk (blk_kept (g := g1) (o := .cells #[.slice A0 l0.length c0] 24 (0, 0)) BKg1.out hk (fun h_ => by have h1_ := h_.1; have h2_ := h_.2; have := HNg1.out; have := HNo6.out; have := HNo9.out; have := HNo12.out; have := HNg5.out; have := HNo15.out; have := HNo20.out; omega)); have nBg5 := Aside0.mk (blk_kept (g := g5) (o := .cells #[.slice Ao12 t11.length co12] 30 (0, 0)) BKg5.out hk (fun h_ => by have h1_ := h_.1; have h2_ := h_.2; have := HNg1.out; have := HNo6.out; have := HNo9.out; have := HNo12.out; have := HNg5.out; have := HNo15.out; have := HNo20.out; omega)); have nHT := Aside0.mk (Nat.le_trans HT.out hk.1); clear HB HT HOo6 HOo9 HOo12 HOo15 HOo20 BKg1 BKg5; have HOo6 := nOo6; have HOo9 := nOo9; have HOo12 := nM; have HOo15 := nOo15; have HOo20 := nOo20; have BKg1 := nBg1; have BKg5 := nBg5; have HB := Aside0.mk hb; have HT := nHT; (try clear hy); clear hb hk0 hk nM nHT nOo6 nOo9 nOo15 nOo20 nBg1 nBg5; have hczg1 : w12.cell? ⟨g1, 0, none⟩ = some (.slice A0 l0.length c0) := (blk_cell BKg1.out 0).trans rfl; have hfzg1 := blk_frozen BKg1.out 0; have hczg5 : w12.cell? ⟨g5, 0, none⟩ = some (.slice Ao12 t11.length co12) := (blk_cell BKg5.out 0).trans rfl; have hfzg5 := blk_frozen BKg5.out 0))
 try go_wp2_with (first | (go_at_call 19; (with_reducible refine (laws_eqInt64SS.calls k _ _ t14 _ _ t8 true _ ?side1 ?side2 ?side3 ?side4 H27.out).mono ?_); (case side1 => exact (ObS.reads HOo15.out).2.2); (case side2 => exact ObS.room HOo15.out); (case side3 => exact (ObS.reads HOo9.out).2.2); (case side4 => exact ObS.room HOo9.out); rintro e w13 ⟨rfl, ⟨nd, hnd⟩⟩; have hb := below_of_drewN hnd; (try clear hczg1 hfzg1 hczg5 hfzg5); have nOo6 := Aside0.mk (ObS.below HOo6.out hb); have nOo9 := Aside0.mk (ObS.below HOo9.out hb); have nOo12 := Aside0.mk (ObS.below HOo12.out hb); have nOo15 := Aside0.mk (ObS.below HOo15.out hb); have nOo20 := Aside0.mk (ObS.below HOo20.out hb); have nBg1 := Aside0.mk (blk_below (g := g1) (o := .cells #[.slice A0 l0.length c0] 24 (0, 0)) BKg1.out hb); have nBg5 := Aside0.mk (blk_below (g := g5) (o := .cells #[.slice Ao12 t11.length co12] 30 (0, 0)) BKg5.out hb); have nHB := Aside0.mk (below_step HB.out hb); have nHT := Aside0.mk (top_below HT.out hb); clear HB HT HOo6 HOo9 HOo12 HOo15 HOo20 BKg1 BKg5; have HOo6 := nOo6; have HOo9 := nOo9; have HOo12 := nOo12; have HOo15 := nOo15; have HOo20 := nOo20; have BKg1 := nBg1; have BKg5 := nBg5; have HB := nHB; have HT := nHT; clear nHB nHT nOo6 nOo9 nOo12 nOo15 nOo20 nBg1 nBg5; (try clear hb); (try clear hnd); have hczg1 : w13.cell? ⟨g1, 0, none⟩ = some (.slice A0 l0.length c0) := (blk_cell BKg1.out 0).trans rfl; have hfzg1 := blk_frozen BKg1.out 0; have hczg5 : w13.cell? ⟨g5, 0, none⟩ = some (.slice Ao12 t11.length co12) := (blk_cell BKg5.out 0).trans rfl; have hfzg5 := blk_frozen BKg5.out 0) | ((with_reducible refine gate_callee (f := 20) rfl ?_); refine goesL_ (some 45) rfl rfl Try.func20 (by kernel_rfl) rfl #[.slice Ao15 t14.length co15, .int .i64 1] rfl (by (try simp only [yiy, yjy, yky]); first | done | rfl | (simp only [yly, ymy]; rfl)) ?_; (with_reducible refine (laws_markInt64SS.calls k (fun k_ => loo15 ≤ k_ ∧ k_ < hio15) (.slice Ao15 t14.length co15) t14 1 m30 y31 w _ HB.out (ObS.row HOo15.out) H29.out).mono ?_); rintro e w14 ⟨rfl, hy, hb, hk0⟩; refine ⟨_, rfl, ?_⟩; have hk := hk0; have nM := Aside0.mk (ObS.marked HOo15.out hy hk.1); (try clear hczg1 hfzg1 hczg5 hfzg5); have nOo6 := Aside0.mk (ObS.kept HOo6.out hk (by have := HNg1.out; have := HNo6.out; have := HNo9.out; have := HNo12.out; have := HNg5.out; have := HNo15.out; have := HNo20.out; omega)); have nOo9 := Aside0.mk (ObS.kept HOo9.out hk (by have := HNg1.out; have := HNo6.out; have := HNo9.out; have := HNo12.out; have := HNg5.out; have := HNo15.out; have := HNo20.out; omega)); have nOo12 := Aside0.mk (ObS.kept HOo12.out hk (by have := HNg1.out; have := HNo6.out; have := HNo9.out; have := HNo12.out; have := HNg5.out; have := HNo15.out; have := HNo20.out; omega)); have nOo20 := Aside0.mk (ObS.kept HOo20.out hk (by have := HNg1.out; have := HNo6.out; have := HNo9.out; have := HNo12.out; have := HNg5.out; have := HNo15.out; have := HNo20.out; omega)); have nBg1 := Aside0.mk (blk_kept (g := g1) (o := .cells #[.slice A0 l0.length c0] 24 (0, 0)) BKg1.out hk (fun h_ => by have h1_ := h_.1; have h2_ := h_.2; have := HNg1.out; have := HNo6.out; have := HNo9.out; have := HNo12.out; have := HNg5.out; have := HNo15.out; have := HNo20.out; omega)); have nBg5 := Aside0.mk (blk_kept (g := g5) (o := .cells #[.slice Ao12 t11.length co12] 30 (0, 0)) BKg5.out hk (fun h_ => by have h1_ := h_.1; have h2_ := h_.2; have := HNg1.out; have := HNo6.out; have := HNo9.out; have := HNo12.out; have := HNg5.out; have := HNo15.out; have := HNo20.out; omega)); have nHT := Aside0.mk (Nat.le_trans HT.out hk.1); clear HB HT HOo6 HOo9 HOo12 HOo15 HOo20 BKg1 BKg5; have HOo6 := nOo6; have HOo9 := nOo9; have HOo12 := nOo12; have HOo15 := nM; have HOo20 := nOo20; have BKg1 := nBg1; have BKg5 := nBg5; have HB := Aside0.mk hb; have HT := nHT; (try clear hy); clear hb hk0 hk nM nHT nOo6 nOo9 nOo12 nOo20 nBg1 nBg5; have hczg1 : w14.cell? ⟨g1, 0, none⟩ = some (.slice A0 l0.length c0) := (blk_cell BKg1.out 0).trans rfl; have hfzg1 := blk_frozen BKg1.out 0; have hczg5 : w14.cell? ⟨g5, 0, none⟩ = some (.slice Ao12 t11.length co12) := (blk_cell BKg5.out 0).trans rfl; have hfzg5 := blk_frozen BKg5.out 0) | ((with_reducible refine gate_callee (f := 21) rfl ?_); refine goesL_ (some 48) rfl rfl Try.func21 (by kernel_rfl) rfl #[.slice Ao15 y31.length co15, .int .i64 1] rfl (by (try simp only [yiy, yjy, yky]); first | done | (rw [show y31.length = t14.length from (ObS.reads HOo15.out).1.symm] <;> rfl) | rfl | (simp only [yly, ymy]; rfl)) ?_; (with_reducible refine (laws_heldInt64SS.calls k _ _ y31 1 t33 _ ?side1 ?side2 H32.out).mono ?_); (case side1 => exact (ObS.reads HOo15.out).2.2); (case side2 => exact ObS.room HOo15.out); rintro e w15 ⟨rfl, ⟨nd, hnd⟩⟩; refine ⟨_, rfl, ?_⟩; have hb := below_of_drewN hnd; (try clear hczg1 hfzg1 hczg5 hfzg5); have nOo6 := Aside0.mk (ObS.below HOo6.out hb); have nOo9 := Aside0.mk (ObS.below HOo9.out hb); have nOo12 := Aside0.mk (ObS.below HOo12.out hb); have nOo15 := Aside0.mk (ObS.below HOo15.out hb); have nOo20 := Aside0.mk (ObS.below HOo20.out hb); have nBg1 := Aside0.mk (blk_below (g := g1) (o := .cells #[.slice A0 l0.length c0] 24 (0, 0)) BKg1.out hb); have nBg5 := Aside0.mk (blk_below (g := g5) (o := .cells #[.slice Ao12 t11.length co12] 30 (0, 0)) BKg5.out hb); have nHB := Aside0.mk (below_step HB.out hb); have nHT := Aside0.mk (top_below HT.out hb); clear HB HT HOo6 HOo9 HOo12 HOo15 HOo20 BKg1 BKg5; have HOo6 := nOo6; have HOo9 := nOo9; have HOo12 := nOo12; have HOo15 := nOo15; have HOo20 := nOo20; have BKg1 := nBg1; have BKg5 := nBg5; have HB := nHB; have HT := nHT; clear nHB nHT nOo6 nOo9 nOo12 nOo15 nOo20 nBg1 nBg5; (try clear hb); (try clear hnd); have hczg1 : w15.cell? ⟨g1, 0, none⟩ = some (.slice A0 l0.length c0) := (blk_cell BKg1.out 0).trans rfl; have hfzg1 := blk_frozen BKg1.out 0; have hczg5 : w15.cell? ⟨g5, 0, none⟩ = some (.slice Ao12 t11.length co12) := (blk_cell BKg5.out 0).trans rfl; have hfzg5 := blk_frozen BKg5.out 0) | ((with_reducible refine gate_callee (f := 10) rfl ?_); refine goesL_ (some 55) rfl rfl Try.func10 (by kernel_rfl) rfl #[.agg #[.slice A0 l0.length c0]] rfl (by (try simp only [yiy, yjy, yky]); first | done | rfl | (simp only [yly, ymy]; rfl)) ?_; (with_reducible refine (laws_toTriangulation.calls k _ _ l0 t37 _ ?side1 ?side2 H36.out).mono ?_); (case side1 => exact Kd.C_below HR0.out HB.out); (case side2 => exact HC0.out); rintro e w16 ⟨vo38, rfl, ho0, hb⟩; refine ⟨_, rfl, ?_⟩; (try clear hczg1 hfzg1 hczg5 hfzg5); obtain ⟨loo38, hio38, hno38⟩ := ObS.made ho0 hb HT.out (below_size HB.out); have nOo6 := Aside0.mk (ObS.below HOo6.out hb); have nOo9 := Aside0.mk (ObS.below HOo9.out hb); have nOo12 := Aside0.mk (ObS.below HOo12.out hb); have nOo15 := Aside0.mk (ObS.below HOo15.out hb); have nOo20 := Aside0.mk (ObS.below HOo20.out hb); have nBg1 := Aside0.mk (blk_below (g := g1) (o := .cells #[.slice A0 l0.length c0] 24 (0, 0)) BKg1.out hb); have nBg5 := Aside0.mk (blk_below (g := g5) (o := .cells #[.slice Ao12 t11.length co12] 30 (0, 0)) BKg5.out hb); have nHB := Aside0.mk (below_step HB.out hb); have nHT := Aside0.mk (top_below HT.out hb); clear HB HT HOo6 HOo9 HOo12 HOo15 HOo20 BKg1 BKg5; have HOo6 := nOo6; have HOo9 := nOo9; have HOo12 := nOo12; have HOo15 := nOo15; have HOo20 := nOo20; have BKg1 := nBg1; have BKg5 := nBg5; have HB := nHB; have HT := nHT; clear nHB nHT nOo6 nOo9 nOo12 nOo15 nOo20 nBg1 nBg5; have HNo38 := Aside0.mk hno38.1; clear HT; have HT := Aside0.mk hno38.2.1; have HOo38 := Aside0.mk hno38.2.2; clear hno38 ho0; obtain ⟨Ao38, co38, eeo38⟩ := HOo38.out.slice; subst eeo38; (try clear hb); (try clear hnd); have hczg1 : w16.cell? ⟨g1, 0, none⟩ = some (.slice A0 l0.length c0) := (blk_cell BKg1.out 0).trans rfl; have hfzg1 := blk_frozen BKg1.out 0; have hczg5 : w16.cell? ⟨g5, 0, none⟩ = some (.slice Ao12 t11.length co12) := (blk_cell BKg5.out 0).trans rfl; have hfzg5 := blk_frozen BKg5.out 0) | ((with_reducible refine gate_callee (f := 18) rfl ?_); refine goesL_ (some 56) rfl rfl Try.func18 (by kernel_rfl) rfl #[.agg #[.slice Ao38 t37.length co38]] rfl (by (try simp only [yiy, yjy, yky]); first | done | rfl | (simp only [yly, ymy]; rfl)) ?_; (with_reducible refine (impl_FaceSigns.calls k _ _ t37 t40 _ ?side1 ?side2 H39.out).mono ?_); (case side1 => exact (ObS.reads HOo38.out).2.2); (case side2 => exact ObS.room HOo38.out); rintro e w17 ⟨vo41, rfl, ho0, hb⟩; refine ⟨_, rfl, ?_⟩; (try clear hczg1 hfzg1 hczg5 hfzg5); obtain ⟨loo41, hio41, hno41⟩ := ObS.made ho0 hb HT.out (below_size HB.out); have nOo6 := Aside0.mk (ObS.below HOo6.out hb); have nOo9 := Aside0.mk (ObS.below HOo9.out hb); have nOo12 := Aside0.mk (ObS.below HOo12.out hb); have nOo15 := Aside0.mk (ObS.below HOo15.out hb); have nOo20 := Aside0.mk (ObS.below HOo20.out hb); have nOo38 := Aside0.mk (ObS.below HOo38.out hb); have nBg1 := Aside0.mk (blk_below (g := g1) (o := .cells #[.slice A0 l0.length c0] 24 (0, 0)) BKg1.out hb); have nBg5 := Aside0.mk (blk_below (g := g5) (o := .cells #[.slice Ao12 t11.length co12] 30 (0, 0)) BKg5.out hb); have nHB := Aside0.mk (below_step HB.out hb); have nHT := Aside0.mk (top_below HT.out hb); clear HB HT HOo6 HOo9 HOo12 HOo15 HOo20 HOo38 BKg1 BKg5; have HOo6 := nOo6; have HOo9 := nOo9; have HOo12 := nOo12; have HOo15 := nOo15; have HOo20 := nOo20; have HOo38 := nOo38; have BKg1 := nBg1; have BKg5 := nBg5; have HB := nHB; have HT := nHT; clear nHB nHT nOo6 nOo9 nOo12 nOo15 nOo20 nOo38 nBg1 nBg5; have HNo41 := Aside0.mk hno41.1; clear HT; have HT := Aside0.mk hno41.2.1; have HOo41 := Aside0.mk hno41.2.2; clear hno41 ho0; obtain ⟨Ao41, co41, eeo41⟩ := HOo41.out.slice; subst eeo41; (try clear hb); (try clear hnd); have hczg1 : w17.cell? ⟨g1, 0, none⟩ = some (.slice A0 l0.length c0) := (blk_cell BKg1.out 0).trans rfl; have hfzg1 := blk_frozen BKg1.out 0; have hczg5 : w17.cell? ⟨g5, 0, none⟩ = some (.slice Ao12 t11.length co12) := (blk_cell BKg5.out 0).trans rfl; have hfzg5 := blk_frozen BKg5.out 0) | ((with_reducible refine gate_callee (f := 19) rfl ?_); refine goesL_ (some 59) rfl rfl Try.func19 (by kernel_rfl) rfl #[.slice Ao41 t40.length co41, .slice Ao9 t8.length co9] rfl (by (try simp only [yiy, yjy, yky]); first | done | rfl | (simp only [yly, ymy]; rfl)) ?_; (with_reducible refine (laws_eqInt64SS.calls k _ _ t40 _ _ t8 true _ ?side1 ?side2 ?side3 ?side4 H42.out).mono ?_); (case side1 => exact (ObS.reads HOo41.out).2.2); (case side2 => exact ObS.room HOo41.out); (case side3 => exact (ObS.reads HOo9.out).2.2); (case side4 => exact ObS.room HOo9.out); rintro e w18 ⟨rfl, ⟨nd, hnd⟩⟩; refine ⟨_, rfl, ?_⟩; have hb := below_of_drewN hnd; (try clear hczg1 hfzg1 hczg5 hfzg5); have nOo6 := Aside0.mk (ObS.below HOo6.out hb); have nOo9 := Aside0.mk (ObS.below HOo9.out hb); have nOo12 := Aside0.mk (ObS.below HOo12.out hb); have nOo15 := Aside0.mk (ObS.below HOo15.out hb); have nOo20 := Aside0.mk (ObS.below HOo20.out hb); have nOo38 := Aside0.mk (ObS.below HOo38.out hb); have nOo41 := Aside0.mk (ObS.below HOo41.out hb); have nBg1 := Aside0.mk (blk_below (g := g1) (o := .cells #[.slice A0 l0.length c0] 24 (0, 0)) BKg1.out hb); have nBg5 := Aside0.mk (blk_below (g := g5) (o := .cells #[.slice Ao12 t11.length co12] 30 (0, 0)) BKg5.out hb); have nHB := Aside0.mk (below_step HB.out hb); have nHT := Aside0.mk (top_below HT.out hb); clear HB HT HOo6 HOo9 HOo12 HOo15 HOo20 HOo38 HOo41 BKg1 BKg5; have HOo6 := nOo6; have HOo9 := nOo9; have HOo12 := nOo12; have HOo15 := nOo15; have HOo20 := nOo20; have HOo38 := nOo38; have HOo41 := nOo41; have BKg1 := nBg1; have BKg5 := nBg5; have HB := nHB; have HT := nHT; clear nHB nHT nOo6 nOo9 nOo12 nOo15 nOo20 nOo38 nOo41 nBg1 nBg5; (try clear hb); (try clear hnd); have hczg1 : w18.cell? ⟨g1, 0, none⟩ = some (.slice A0 l0.length c0) := (blk_cell BKg1.out 0).trans rfl; have hfzg1 := blk_frozen BKg1.out 0; have hczg5 : w18.cell? ⟨g5, 0, none⟩ = some (.slice Ao12 t11.length co12) := (blk_cell BKg5.out 0).trans rfl; have hfzg5 := blk_frozen BKg5.out 0) | ((with_reducible refine gate_callee (f := 21) rfl ?_); refine goesL_ (some 63) rfl rfl Try.func21 (by kernel_rfl) rfl #[.slice Ao15 y31.length co15, .int .i64 1] rfl (by (try simp only [yiy, yjy, yky]); first | done | (rw [show y31.length = t14.length from (ObS.reads HOo15.out).1.symm] <;> rfl) | rfl | (simp only [yly, ymy]; rfl)) ?_; (with_reducible refine (laws_heldInt64SS.calls k _ _ y31 1 t45 _ ?side1 ?side2 H44.out).mono ?_); (case side1 => exact (ObS.reads HOo15.out).2.2); (case side2 => exact ObS.room HOo15.out); rintro e w19 ⟨rfl, ⟨nd, hnd⟩⟩; refine ⟨_, rfl, ?_⟩; have hb := below_of_drewN hnd; (try clear hczg1 hfzg1 hczg5 hfzg5); have nOo6 := Aside0.mk (ObS.below HOo6.out hb); have nOo9 := Aside0.mk (ObS.below HOo9.out hb); have nOo12 := Aside0.mk (ObS.below HOo12.out hb); have nOo15 := Aside0.mk (ObS.below HOo15.out hb); have nOo20 := Aside0.mk (ObS.below HOo20.out hb); have nOo38 := Aside0.mk (ObS.below HOo38.out hb); have nOo41 := Aside0.mk (ObS.below HOo41.out hb); have nBg1 := Aside0.mk (blk_below (g := g1) (o := .cells #[.slice A0 l0.length c0] 24 (0, 0)) BKg1.out hb); have nBg5 := Aside0.mk (blk_below (g := g5) (o := .cells #[.slice Ao12 t11.length co12] 30 (0, 0)) BKg5.out hb); have nHB := Aside0.mk (below_step HB.out hb); have nHT := Aside0.mk (top_below HT.out hb); clear HB HT HOo6 HOo9 HOo12 HOo15 HOo20 HOo38 HOo41 BKg1 BKg5; have HOo6 := nOo6; have HOo9 := nOo9; have HOo12 := nOo12; have HOo15 := nOo15; have HOo20 := nOo20; have HOo38 := nOo38; have HOo41 := nOo41; have BKg1 := nBg1; have BKg5 := nBg5; have HB := nHB; have HT := nHT; clear nHB nHT nOo6 nOo9 nOo12 nOo15 nOo20 nOo38 nOo41 nBg1 nBg5; (try clear hb); (try clear hnd); have hczg1 : w19.cell? ⟨g1, 0, none⟩ = some (.slice A0 l0.length c0) := (blk_cell BKg1.out 0).trans rfl; have hfzg1 := blk_frozen BKg1.out 0; have hczg5 : w19.cell? ⟨g5, 0, none⟩ = some (.slice Ao12 t11.length co12) := (blk_cell BKg5.out 0).trans rfl; have hfzg5 := blk_frozen BKg5.out 0))
 go_ret
 exact ⟨by first | rfl | (simp <;> rfl), HB.out⟩
end Go.Proofs.Ytfnopcbicceeaaa.P
namespace Go.Proofs.Ytfnopcbicceeaaa.P
open Go.RowKit Go.Proofs.YtfnopcbicceeaaaW.PrintWords Go.Proofs.Ytfnopcbicceeaaa.Lib
set_option linter.unusedVariables false
theorem inRange_eq (a b c : Int) : impl_inRange.f a b c = some (decide (b ≤ a) && decide (a ≤ c)) := by
  unfold impl_inRange.f
  by_cases h : b ≤ a <;> simp [h]
theorem l07In_eq (a b c : Int) : spec_l07In.f a b c = some (decide (b ≤ a) && decide (a ≤ c)) := by
  unfold spec_l07In.f
  by_cases h : b ≤ a <;> simp [h]
theorem l06Valid_eq (a : Int) : spec_l06Valid.f a = some (decide (0 ≤ a) && decide (a ≤ 23)) := by
  unfold spec_l06Valid.f
  by_cases h : 0 ≤ a
  · rw [if_pos h]; simp [h]; omega
  · rw [if_neg h]; simp [h]
theorem isPerm_eq (a : Int) : impl_isPerm.f a = some (decide (0 ≤ a) && decide (a ≤ 23)) := by
  unfold impl_isPerm.f; rw [inRange_eq]; rfl
/-- A number that is the index of a permutation. -/
theorem fin_of {p : Int} (h0 : 0 ≤ p) (h1 : p ≤ 23) : ∃ m : Fin 24, p = (m.val : Int) := ⟨⟨p.toNat, by omega⟩, by simp; omega⟩
theorem fin4_of {f : Int} (h0 : 0 ≤ f) (h1 : f ≤ 3) : ∃ m : Fin 4, f = (m.val : Int) := ⟨⟨f.toNat, by omega⟩, by simp; omega⟩
theorem l06Images_ev {p : Int} (h0 : 0 ≤ p) (h1 : p ≤ 23) : Ev (fun k => spec_l06Images.f k p) (permL p) := by
  obtain ⟨m, rfl⟩ := fin_of h0 h1
  have key : ∀ m : Fin 24, spec_l06Images.f 5 (m.val : Int) = some (permL (m.val : Int)) := by decide +kernel
  exact Ev.of (fun k => spec_l06Images.mono _ k) (key m)
theorem permL_len (p : Int) : (permL p).length = 4 := rfl
theorem permL_sm {p f : Int} (h0 : 0 ≤ p) (h1 : p ≤ 23) (hf0 : 0 ≤ f) (hf1 : f ≤ 3) : 0 ≤ rd (permL p) f ∧ rd (permL p) f ≤ 3 := by
  obtain ⟨a, b, c, d⟩ := permAt_sm p h0 h1
  exact rd_four_sm a b c d f hf0 hf1
theorem l06At_ev {p f : Int} (h0 : 0 ≤ p) (h1 : p ≤ 23) (hf0 : 0 ≤ f) (hf1 : f ≤ 3) : Ev (fun k => spec_l06At.f k p f) (rd (permL p) f) := by
  refine Ev.bind (l06Images_ev h0 h1) ?_
  exact ev_pos hf0 (ev_pos (by rw [permL_len]; omega) (Ev.now _))
theorem l06Back_ev {p : Int} (h0 : 0 ≤ p) (h1 : p ≤ 23) : Ev (fun k => spec_l06Back.f k p) (invP p) := by
  obtain ⟨m, rfl⟩ := fin_of h0 h1
  have key : ∀ m : Fin 24, spec_l06Back.f 40 (m.val : Int) = some (invP (m.val : Int)) := by decide +kernel
  exact Ev.of (fun k => spec_l06Back.mono _ k) (key m)
theorem target_eq {q p f : Int} (h0 : 0 ≤ p) (h1 : p ≤ 23) (hf0 : 0 ≤ f) (hf1 : f ≤ 3) : impl_Face_target.f q p f = some (rd (permL p) f) := if_pos ⟨h0, h1, hf0, hf1⟩
theorem partner_eq {q p a : Int} (h0 : 0 ≤ p) (h1 : p ≤ 23) : impl_Face_partner.f q p a = some (a, invP p) := by
  unfold impl_Face_partner.f impl_invert.f
  rw [if_pos ⟨h0, h1⟩]; rfl
theorem invP_bd {p : Int} (h0 : 0 ≤ p) (h1 : p ≤ 23) : 0 ≤ invP p ∧ invP p ≤ 23 := by
  obtain ⟨m, rfl⟩ := fin_of h0 h1
  have key : ∀ m : Fin 24, 0 ≤ invP (m.val : Int) ∧ invP (m.val : Int) ≤ 23 := by decide +kernel
  exact key m
abbrev Tri := List (List SFace)
/-- No list of t is longer than a million. -/
def Small (t : Tri) : Prop := t.length ≤ 1048576 ∧ ∀ r ∈ t, r.length ≤ 1048576
def SmallL (t : List (List SLawFace)) : Prop := t.length ≤ 1048576 ∧ ∀ r ∈ t, r.length ≤ 1048576
def Fits (t : List (List SLawFace)) : Prop := t.length ≤ 9223372036854775807 ∧ ∀ r ∈ t, r.length ≤ 9223372036854775807
theorem rd_LLawFace_lt (t : List (List SLawFace)) (n : Nat) (h : n < t.length) : rd_LLawFace t (n : Int) = t[n] := by simp [rd_LLawFace, h]
theorem rd_LFace_lt (t : Tri) (n : Nat) (h : n < t.length) : rd_LFace t (n : Int) = t[n] := by simp [rd_LFace, h]
theorem rd_LawFace_lt (t : List SLawFace) (n : Nat) (h : n < t.length) : rd_LawFace t (n : Int) = t[n] := by simp [rd_LawFace, h]
theorem rd_Face_lt (t : List SFace) (n : Nat) (h : n < t.length) : rd_Face t (n : Int) = t[n] := by simp [rd_Face, h]
theorem szFaceS_eq (r : List SLawFace) (a : Int) (h0 : 0 ≤ a) (h1 : a ≤ 1048576) (h : r.length ≤ 9223372036854775807) : laws_szFaceS.f r a = some (if a - r.length < 0 then -1 else a - r.length) := by
  unfold laws_szFaceS.f
  rw [wrap_id (by omega) (by omega)]
  split <;> rfl
theorem szFaceSS_ev (t : List (List SLawFace)) (h : Fits t) (hl : t.length ≤ 1048576) : ∃ r, Ev (fun k => laws_szFaceSS.l0 k t (1048576 - t.length) 0) r ∧ (0 ≤ r → ∀ x ∈ t, x.length ≤ 1048576) := by
  have key : ∀ d n : Nat, ∀ a : Int, n + d = t.length → 0 ≤ a → a ≤ 1048576 → ∃ r, Ev (fun k => laws_szFaceSS.l0 k t a (n : Int)) r ∧ (0 ≤ r → ∀ x ∈ t.drop n, x.length ≤ 1048576) := by
    intro d
    induction d with
    | zero =>
      intro n a hn h0 h1
      refine ⟨a, ev_step (f := fun _ => some a) (fun k => ?_) (Ev.now a), fun _ x hx => ?_⟩
      · simp only [laws_szFaceSS.l0]; rw [if_neg (by omega)]
      · rw [List.drop_eq_nil_of_le (by omega)] at hx; cases hx
    | succ d ih =>
      intro n a hn h0 h1
      have hlt : n < t.length := by omega
      have hf := h.2 t[n] (List.getElem_mem hlt)
      by_cases hc : a - t[n].length < 0
      · refine ⟨-1, ev_step (f := fun _ => some (-1)) (fun k => ?_) (Ev.now (-1)), fun h => by omega⟩
        simp only [laws_szFaceSS.l0]
        rw [if_pos (by omega), if_pos (by omega), rd_LLawFace_lt t n hlt, szFaceS_eq _ a h0 h1 hf, yfy, if_pos hc]
        rfl
      · obtain ⟨r, hr, hr2⟩ := ih (n + 1) (a - t[n].length) (by omega) (by omega) (by omega)
        refine ⟨r, ev_step (fun k => ?_) hr, fun h x hx => ?_⟩
        · simp only [laws_szFaceSS.l0]
          rw [if_pos (by omega), if_pos (by omega), rd_LLawFace_lt t n hlt, szFaceS_eq _ a h0 h1 hf, yfy, if_neg hc, if_neg (by omega), wrap_succ (by omega)]
        · rw [List.drop_eq_getElem_cons hlt] at hx
          rcases List.mem_cons.1 hx with rfl | hx
          · omega
          · exact hr2 h x hx
  obtain ⟨r, hr, hr2⟩ := key t.length 0 (1048576 - t.length) (by omega) (by omega) (by omega)
  exact ⟨r, hr, fun h => by have := hr2 h; rwa [List.drop_zero] at this⟩
theorem szTriangulation_ev (t : List (List SLawFace)) (h : Fits t) : ∃ r, Ev (fun k => laws_szTriangulation.f k t 1048576) r ∧ (¬ r < 0 → SmallL t) := by
  by_cases hl : (1048576 - (t.length : Int)) < 0
  · refine ⟨-1, ?_, fun h => by omega⟩
    refine Ev.bind (a := -1) (ev_const' (fun k => ?_)) (ev_pos (by omega) (Ev.now _))
    unfold laws_szFaceSS.f
    have := h.1
    rw [wrap_id (by omega) (by omega), if_pos hl]
  · obtain ⟨r, hr, hr2⟩ := szFaceSS_ev t h (by omega)
    have h2 : Ev (fun k => laws_szFaceSS.f k t 1048576) r := by
      refine Ev.congr (fun k => ?_) hr
      unfold laws_szFaceSS.f
      rw [wrap_id (by omega) (by omega), if_neg hl]
    by_cases hn : r < 0
    · exact ⟨-1, Ev.bind h2 (ev_pos hn (Ev.now _)), fun h => by omega⟩
    · exact ⟨r, Ev.bind h2 (ev_neg hn (Ev.now _)), fun _ => ⟨by omega, hr2 (by omega)⟩⟩
/-- The copies of the law's values. -/
def cvF (x : SLawFace) : SFace := ⟨x.f0, x.f1⟩
def cvR (r : List SLawFace) : List SFace := r.map cvF
def cvT (t : List (List SLawFace)) : Tri := t.map cvR
theorem cvT_small {t : List (List SLawFace)} (h : SmallL t) : Small (cvT t) := by
  refine ⟨by simp [cvT]; exact h.1, fun r hr => ?_⟩
  obtain ⟨s, hs, rfl⟩ := List.mem_map.1 hr
  simp [cvR]; exact h.2 s hs
theorem map_take_set {α β : Type} (f : α → β) (l : List α) (z : β) (n : Nat) (h : n < l.length) :
    ((l.take n).map f ++ List.replicate (l.length - n) z).set n (f l[n]) = (l.take (n + 1)).map f ++ List.replicate (l.length - (n + 1)) z := by
  have e : l.length - n = (l.length - (n + 1)) + 1 := by omega
  rw [e, List.replicate_succ, List.set_append_right _ _ (by simp; omega)]
  have : n - ((l.take n).map f).length = 0 := by simp; omega
  rw [this, yby, List.take_succ_eq_append_getElem h, List.map_append, List.append_assoc]
  rfl
theorem toFaceS_ev (l : List SLawFace) (h : l.length ≤ 1048576) : Ev (fun k => laws_toFaceS.f k l) (cvR l) := by
  have hl : Ev (fun k => laws_toFaceS.l0 k l (List.replicate l.length zFace) 0) (cvR l) := by
    refine ev_loop0 (fun k (s : List SFace × Int) => laws_toFaceS.l0 k l s.1 s.2) (fun s => ∃ n : Nat, n ≤ l.length ∧ s.2 = n ∧ s.1 = (l.take n).map cvF ++ List.replicate (l.length - n) zFace) (fun s => l.length - s.2.toNat) (fun _ => cvR l) ?_ (List.replicate l.length zFace, 0) ⟨0, by omega, rfl, by simp⟩
    rintro ⟨a, i⟩ ⟨n, hn, rfl, rfl⟩
    dsimp only
    by_cases hlt : n < l.length
    · refine .inr ⟨((l.take (n + 1)).map cvF ++ List.replicate (l.length - (n + 1)) zFace, ((n + 1 : Nat) : Int)), ⟨n + 1, by omega, rfl, rfl⟩, by simp; omega, rfl, fun k => ?_⟩
      simp only [laws_toFaceS.l0, laws_toFace.f, yfy]
      rw [if_pos (by omega), if_pos (by omega), if_pos (by simp; omega), wrap_succ (by omega), Int.toNat_natCast, rd_LawFace_lt l n hlt]
      have := map_take_set cvF l zFace n hlt
      rw [← this]
      rfl
    · obtain rfl : n = l.length := by omega
      refine .inl fun k => ?_
      simp only [laws_toFaceS.l0]
      rw [if_neg (by omega)]
      simp [cvR]
  refine Ev.congr (fun k => ?_) hl
  unfold laws_toFaceS.f
  rw [if_pos (by omega), if_pos (by simp; omega), Int.toNat_natCast]
theorem toFaceSS_ev (l : List (List SLawFace)) (h : SmallL l) : Ev (fun k => laws_toFaceSS.f k l) (cvT l) := by
  have hl : Ev (fun k => laws_toFaceSS.l0 k l (List.replicate l.length []) 0) (cvT l) := by
    refine ev_loop (fun k (s : Tri × Int) => laws_toFaceSS.l0 k l s.1 s.2) (fun s => ∃ n : Nat, n ≤ l.length ∧ s.2 = n ∧ s.1 = (l.take n).map cvR ++ List.replicate (l.length - n) []) (fun s => l.length - s.2.toNat) (fun _ => cvT l) ?_ (List.replicate l.length [], 0) ⟨0, by omega, rfl, by simp⟩
    rintro ⟨a, i⟩ ⟨n, hn, rfl, rfl⟩
    dsimp only
    by_cases hlt : n < l.length
    · obtain ⟨K, hK⟩ := toFaceS_ev l[n] (h.2 _ (List.getElem_mem hlt))
      refine .inr ⟨((l.take (n + 1)).map cvR ++ List.replicate (l.length - (n + 1)) [], ((n + 1 : Nat) : Int)), K, ⟨n + 1, by omega, rfl, rfl⟩, by simp; omega, rfl, fun k hk => ?_⟩
      have e : laws_toFaceS.f k l[n] = some _ := hK k hk
      have h1 := h.1
      simp only [laws_toFaceSS.l0]
      rw [if_pos (by omega), if_pos (by omega), rd_LLawFace_lt l n hlt, e, yfy, if_pos (by simp; omega), wrap_succ (by omega), Int.toNat_natCast, map_take_set cvR l [] n hlt]
    · obtain rfl : n = l.length := by omega
      refine .inl ⟨0, fun k _ => ?_⟩
      simp only [laws_toFaceSS.l0]
      rw [if_neg (by omega)]
      simp [cvT]
  have h1 := h.1
  refine Ev.congr (fun k => ?_) hl
  unfold laws_toFaceSS.f
  rw [if_pos (by omega), if_pos (by simp; omega), Int.toNat_natCast]
theorem toTriangulation_ev (l : List (List SLawFace)) (h : SmallL l) : Ev (fun k => laws_toTriangulation.f k l) (cvT l) := Ev.bind (toFaceSS_ev l h) (Ev.now _)
theorem eqFaceS_ev (l : List SFace) (h : l.length ≤ 1048576) : Ev (fun k => laws_eqFaceS.f k l l) true := by
  have hl : Ev (fun k => laws_eqFaceS.l0 k l l 0) true := by
    refine ev_loop0 (fun k (s : Int) => laws_eqFaceS.l0 k l l s) (fun s => ∃ n : Nat, n ≤ l.length ∧ s = n) (fun s => l.length - s.toNat) (fun _ => true) ?_ 0 ⟨0, by omega, rfl⟩
    rintro i ⟨n, hn, rfl⟩
    by_cases hlt : n < l.length
    · refine .inr ⟨((n + 1 : Nat) : Int), ⟨n + 1, by omega, rfl⟩, by simp; omega, rfl, fun k => ?_⟩
      simp only [laws_eqFaceS.l0, laws_eqFace.f]
      rw [if_pos (by omega), if_pos (by omega), if_pos (by omega), if_pos trivial, if_pos trivial, yfy, if_pos rfl, wrap_succ (by omega)]
    · refine .inl fun k => ?_
      simp only [laws_eqFaceS.l0]
      rw [if_neg (by omega)]
  refine Ev.congr (fun k => ?_) hl
  unfold laws_eqFaceS.f
  rw [if_pos rfl]
theorem eqTriangulation_ev (l : Tri) (h : Small l) : Ev (fun k => laws_eqTriangulation.f k l l) true := by
  have hl : Ev (fun k => laws_eqFaceSS.l0 k l l 0) true := by
    refine ev_loop (fun k (s : Int) => laws_eqFaceSS.l0 k l l s) (fun s => ∃ n : Nat, n ≤ l.length ∧ s = n) (fun s => l.length - s.toNat) (fun _ => true) ?_ 0 ⟨0, by omega, rfl⟩
    rintro i ⟨n, hn, rfl⟩
    by_cases hlt : n < l.length
    · obtain ⟨K, hK⟩ := eqFaceS_ev l[n] (h.2 _ (List.getElem_mem hlt))
      refine .inr ⟨((n + 1 : Nat) : Int), K, ⟨n + 1, by omega, rfl⟩, by simp; omega, rfl, fun k hk => ?_⟩
      have e : laws_eqFaceS.f k l[n] l[n] = some _ := hK k hk
      have h1 := h.1
      simp only [laws_eqFaceSS.l0]
      rw [if_pos (by omega), if_pos (by omega), if_pos (by omega), rd_LFace_lt l n hlt, e, yfy, if_pos rfl, wrap_succ (by omega)]
    · refine .inl ⟨0, fun k _ => ?_⟩
      simp only [laws_eqFaceSS.l0]
      rw [if_neg (by omega)]
  have h2 : Ev (fun k => laws_eqFaceSS.f k l l) true := by
    refine Ev.congr (fun k => ?_) hl
    unfold laws_eqFaceSS.f
    rw [if_pos rfl]
  exact Ev.bind h2 (ev_pos rfl (Ev.now _))
/-- The face f of the tetrahedron a. -/
abbrev fc (t : Tri) (a f : Int) : SFace := rd_Face (rd_LFace t a) f
/-- Is a face as in a valid triangulation? -/
def goodF (t : Tri) (a f : Int) : Bool :=
  if (fc t a f).f0 = -1 then (fc t a f).f1 == 0
  else if 0 ≤ (fc t a f).f0 ∧ (fc t a f).f0 < (t.length : Int) ∧ 0 ≤ (fc t a f).f1 ∧ (fc t a f).f1 ≤ 23 then
    ((fc t (fc t a f).f0 (rd (permL (fc t a f).f1) f)).f0 == a && (fc t (fc t a f).f0 (rd (permL (fc t a f).f1) f)).f1 == invP (fc t a f).f1) && !((fc t a f).f0 == a && rd (permL (fc t a f).f1) f == f)
  else false
/-- d faces of a from f on are good. -/
def goodFs (t : Tri) (a : Int) : Int → Nat → Bool
  | _, 0 => true
  | f, d + 1 => goodF t a f && goodFs t a (f + 1) d
/-- d tetrahedra from a on are good. -/
def goodTs (t : Tri) : Int → Nat → Bool
  | _, 0 => true
  | a, d + 1 => goodFs t a 0 4 && goodTs t (a + 1) d
/-- A valid triangulation. -/
def isTri (t : Tri) : Bool := decide (t.length ≤ 8) && (t.all (fun r => decide (r.length = 4)) && goodTs t 0 t.length)
section
variable {t : Tri}
theorem row4 (h4 : ∀ r ∈ t, r.length = 4) {a : Int} (h0 : 0 ≤ a) (h1 : a < t.length) : (rd_LFace t a).length = 4 := by
  obtain ⟨n, rfl⟩ := Int.eq_ofNat_of_zero_le h0
  rw [rd_LFace_lt t n (by omega)]
  exact h4 _ (List.getElem_mem _)
theorem impl_isGood_ev (h4 : ∀ r ∈ t, r.length = 4) (hn : t.length ≤ 8) {a f : Int} (h0 : 0 ≤ a) (h1 : a < t.length) (hf0 : 0 ≤ f) (hf1 : f ≤ 3) : Ev (fun k => impl_Triangulation_isGood.f k t a f) (goodF t a f) := by
  have hr := row4 h4 h0 h1
  refine Ev.congr (fun k => by unfold impl_Triangulation_isGood.f; rw [if_pos h0, if_pos h1, if_pos hf0, if_pos (by omega)]) ?_
  change Ev (fun k => if (fc t a f).f0 = -1 then some ((fc t a f).f1 == 0) else _) (goodF t a f)
  unfold goodF
  by_cases hb : (fc t a f).f0 = -1
  · rw [if_pos hb]; exact ev_pos hb (Ev.now _)
  · refine ev_neg hb ?_
    rw [if_neg hb]
    have hix : impl_hasIndex_Simpl_Face.f t (fc t a f).f0 = some (decide (0 ≤ (fc t a f).f0) && decide ((fc t a f).f0 ≤ (t.length : Int) - 1)) := by
      unfold impl_hasIndex_Simpl_Face.f impl_size_Simpl_Face.f
      rw [yfy, wrap_id (by omega) (by omega), inRange_eq]; rfl
    have hfalse : Ev (fun k => impl_Triangulation_isGood.j0 k a f true t (fc t a f).f0 (fc t a f).f1) false := ev_step (fun k => by rw [impl_Triangulation_isGood.j0, if_pos rfl]) (Ev.now false)
    refine Ev.bind (ev_const hix) ?_
    by_cases hi : 0 ≤ (fc t a f).f0 ∧ (fc t a f).f0 < (t.length : Int)
    · refine ev_pos (by simp; omega) ?_
      refine Ev.bind (ev_const (isPerm_eq _)) ?_
      by_cases hp : 0 ≤ (fc t a f).f1 ∧ (fc t a f).f1 ≤ 23
      · rw [if_pos ⟨hi.1, hi.2, hp.1, hp.2⟩]
        have e : (!(decide (0 ≤ (fc t a f).f1) && decide ((fc t a f).f1 ≤ 23))) = false := by simp [hp]
        rw [e]
        refine ev_step (fun k => by rw [impl_Triangulation_isGood.j0, if_neg (by simp), target_eq hp.1 hp.2 hf0 hf1, yfy]) ?_
        obtain ⟨hg0, hg1⟩ := permL_sm hp.1 hp.2 hf0 hf1
        have hr2 := row4 h4 hi.1 hi.2
        refine ev_pos hi.1 (ev_pos hi.2 (ev_pos hg0 (ev_pos (by rw [hr2]; omega) ?_)))
        refine Ev.bind (ev_const (partner_eq hp.1 hp.2)) ?_
        change Ev (fun k => if ((fc t (fc t a f).f0 (rd (permL (fc t a f).f1) f)).f0 == a && (fc t (fc t a f).f0 (rd (permL (fc t a f).f1) f)).f1 == invP (fc t a f).f1) = true then _ else _) _
        generalize ((fc t (fc t a f).f0 (rd (permL (fc t a f).f1) f)).f0 == a && (fc t (fc t a f).f0 (rd (permL (fc t a f).f1) f)).f1 == invP (fc t a f).f1) = b
        cases b with
        | false => refine ev_neg (by simp) ?_; rw [Bool.false_and]; exact Ev.now false
        | true =>
          refine ev_pos rfl ?_
          rw [Bool.true_and]
          by_cases ha : (fc t a f).f0 = a
          · refine ev_pos ha (ev_some ?_)
            rw [ha]; simp [bne]
          · refine ev_neg ha (ev_some ?_)
            simp [ha]
      · rw [if_neg (by omega)]
        have e : (!(decide (0 ≤ (fc t a f).f1) && decide ((fc t a f).f1 ≤ 23))) = true := by
          rw [Bool.not_eq_true', Bool.and_eq_false_iff, decide_eq_false_iff_not, decide_eq_false_iff_not]; omega
        rw [e]
        exact hfalse
    · rw [if_neg (by omega)]
      refine ev_neg ?_ hfalse
      rw [Bool.and_eq_true, decide_eq_true_eq, decide_eq_true_eq]; omega
theorem impl_l1_ev (h4 : ∀ r ∈ t, r.length = 4) (hn : t.length ≤ 8) {a : Int} (h0 : 0 ≤ a) (h1 : a < t.length) {R : Bool} (hR : Ev (fun k => impl_isTriangulation.l0 k (t.length : Int) (a + 1) t) R) :
    ∀ (d : Nat) (f : Int), 0 ≤ f → f + d = 4 → Ev (fun k => impl_isTriangulation.l1 k a (t.length : Int) a f t) (goodFs t a f d && R)
  | 0, f, hf, he => by
    refine ev_step (fun k => by rw [impl_isTriangulation.l1, if_neg (by omega), wrap_id (by omega) (by omega)]) ?_
    rw [goodFs, Bool.true_and]; exact hR
  | d + 1, f, hf, he => by
    refine ev_step (fun k => by rw [impl_isTriangulation.l1, if_pos (by omega)]) ?_
    refine Ev.bind (impl_isGood_ev h4 hn h0 h1 hf (by omega)) ?_
    rw [goodFs]
    cases hg : goodF t a f with
    | false => exact ev_neg (by simp) (by rw [Bool.false_and, Bool.false_and]; exact Ev.now false)
    | true =>
      refine ev_pos rfl ?_
      rw [Bool.true_and]
      exact Ev.congr (fun k => by rw [wrap_id (by omega) (by omega)]) (impl_l1_ev h4 hn h0 h1 hR d (f + 1) (by omega) (by omega))
theorem impl_l0_ev (h4 : ∀ r ∈ t, r.length = 4) (hn : t.length ≤ 8) : ∀ (d : Nat) (a : Int), 0 ≤ a → a + d = t.length → Ev (fun k => impl_isTriangulation.l0 k (t.length : Int) a t) (goodTs t a d)
  | 0, a, ha, he => by
    refine ev_step (fun k => by rw [impl_isTriangulation.l0, if_neg (by omega)]) ?_
    exact Ev.now true
  | d + 1, a, ha, he => by
    refine ev_step (fun k => by rw [impl_isTriangulation.l0, if_pos (by omega)]) ?_
    rw [goodTs]
    exact impl_l1_ev h4 hn ha (by omega) (impl_l0_ev h4 hn d (a + 1) (by omega) (by omega)) 4 0 (by omega) (by omega)
theorem all4_iff : t.all (fun r => decide (r.length = 4)) = true ↔ ∀ r ∈ t, r.length = 4 := by simp
theorem contains4 (h : Small t) : slices_ContainsFunc_SSimpl_Face_at_impl_isTriangulation_1.f t = some (!(t.all fun r => decide (r.length = 4))) := by
  unfold slices_ContainsFunc_SSimpl_Face_at_impl_isTriangulation_1.f slices_IndexFunc_SSimpl_Face_at_impl_isTriangulation_1.f
  rw [contO (p := fun r => !(decide (r.length = 4))) t (fun r _ => by
    show impl_isTriangulation_1.f r = _
    unfold impl_isTriangulation_1.f
    congr 1
    by_cases h : r.length = 4
    · simp [h]
    · have : ¬ ((r.length : Int) = 4) := by omega
      simp [h, this]), List.not_all_eq_any_not]
theorem impl_isTri_ev (h : Small t) : Ev (fun k => impl_isTriangulation.f k t) (isTri t) := by
  have hfalse : Ev (fun k => impl_isTriangulation.j0 k true t) false := ev_step (fun k => by rw [impl_isTriangulation.j0, if_pos rfl]) (Ev.now false)
  unfold isTri
  by_cases h8 : t.length ≤ 8
  · refine Ev.congr (fun k => by unfold impl_isTriangulation.f; rw [if_neg (by omega), contains4 h, yfy]) ?_
    rw [ygy h8, Bool.true_and]
    cases hall : t.all (fun r => decide (r.length = 4)) with
    | false => rw [Bool.false_and]; exact hfalse
    | true =>
      rw [Bool.true_and]
      refine ev_step (fun k => by rw [impl_isTriangulation.j0, if_neg (by simp)]) ?_
      exact impl_l0_ev (all4_iff.1 hall) h8 t.length 0 (by omega) (by omega)
  · refine Ev.congr (fun k => by unfold impl_isTriangulation.f; rw [if_pos (by omega)]) ?_
    rw [yhy h8, Bool.false_and]; exact hfalse
theorem spec_l2_ev (h4 : ∀ r ∈ t, r.length = 4) (hn : t.length ≤ 8) {a : Int} (h0 : 0 ≤ a) (h1 : a < t.length) {R : Bool} (hR : Ev (fun k => spec_IsTriangulation.l1 k (a + 1) t) R) :
    ∀ (d : Nat) (f : Int), 0 ≤ f → f + d = 4 → Ev (fun k => spec_IsTriangulation.l2 k a f t) (goodFs t a f d && R)
  | 0, f, hf, he => by
    refine ev_step (fun k => by rw [spec_IsTriangulation.l2, if_neg (by omega), wrap_id (by omega) (by omega)]) ?_
    rw [goodFs, Bool.true_and]; exact hR
  | d + 1, f, hf, he => by
    have hr := row4 h4 h0 h1
    have ih : Ev (fun k => spec_IsTriangulation.l2 k a (wrap64 (f + 1)) t) (goodFs t a (f + 1) d && R) := Ev.congr (fun k => by rw [wrap_id (by omega) (by omega)]) (spec_l2_ev h4 hn h0 h1 hR d (f + 1) (by omega) (by omega))
    refine ev_step (fun k => by rw [spec_IsTriangulation.l2, if_pos (by omega), if_pos h0, if_pos h1, if_pos hf, if_pos (by omega)]) ?_
    change Ev (fun k => if (fc t a f).f0 = -1 then spec_IsTriangulation.j3 k a f ((fc t a f).f1 == 0) t (fc t a f).f0 (fc t a f).f1 else spec_IsTriangulation.j3 k a f false t (fc t a f).f0 (fc t a f).f1) _
    rw [goodFs]
    have hstop : ∀ b, Ev (fun k => spec_IsTriangulation.j4 k a f true t (fc t a f).f0 (fc t a f).f1) (false && b) := fun b => by
      rw [Bool.false_and]; exact ev_step (fun k => by rw [spec_IsTriangulation.j4, if_pos rfl]) (Ev.now false)
    have hgo : Ev (fun k => spec_IsTriangulation.j3 k a f true t (fc t a f).f0 (fc t a f).f1) (goodFs t a (f + 1) d && R) := ev_step (fun k => by rw [spec_IsTriangulation.j3, if_pos rfl]) ih
    have hrest : (¬ ((fc t a f).f0 = -1 ∧ (fc t a f).f1 = 0)) → Ev (fun k => spec_IsTriangulation.j3 k a f false t (fc t a f).f0 (fc t a f).f1) (goodF t a f && goodFs t a (f + 1) d && R) := by
      intro hnb
      refine ev_step (fun k => by rw [spec_IsTriangulation.j3, spec_l07Tets.f, if_neg (by simp), yfy, l07In_eq, yfy, wrap_id (by omega) (by omega)]) ?_
      unfold goodF
      by_cases hi : 0 ≤ (fc t a f).f0 ∧ (fc t a f).f0 < (t.length : Int)
      · refine ev_pos (by simp; omega) ?_
        refine Ev.bind (ev_const (l06Valid_eq _)) ?_
        rw [if_neg (by omega)]
        by_cases hp : 0 ≤ (fc t a f).f1 ∧ (fc t a f).f1 ≤ 23
        · rw [if_pos ⟨hi.1, hi.2, hp.1, hp.2⟩]
          have e : (!(decide (0 ≤ (fc t a f).f1) && decide ((fc t a f).f1 ≤ 23))) = false := by simp [hp]
          rw [e]
          obtain ⟨hg0, hg1⟩ := permL_sm hp.1 hp.2 hf (by omega)
          have hr2 := row4 h4 hi.1 hi.2
          refine ev_step (fun k => by rw [spec_IsTriangulation.j4, if_neg (by simp)]) ?_
          refine Ev.bind (l06At_ev hp.1 hp.2 hf (by omega)) ?_
          refine Ev.bind (l06Back_ev hp.1 hp.2) ?_
          refine ev_pos hi.1 (ev_pos hi.2 (ev_pos hg0 (ev_pos (by rw [hr2]; omega) ?_)))
          change Ev (fun k => if (!((fc t (fc t a f).f0 (rd (permL (fc t a f).f1) f)).f0 == a) || !((fc t (fc t a f).f0 (rd (permL (fc t a f).f1) f)).f1 == invP (fc t a f).f1)) = true then _ else _) _
          generalize ((fc t (fc t a f).f0 (rd (permL (fc t a f).f1) f)).f0 == a) = b1
          generalize ((fc t (fc t a f).f0 (rd (permL (fc t a f).f1) f)).f1 == invP (fc t a f).f1) = b2
          cases b1 with
          | false => exact ev_pos rfl (by rw [Bool.false_and, Bool.false_and, Bool.false_and, Bool.false_and]; exact Ev.now false)
          | true =>
            cases b2 with
            | false => exact ev_pos rfl (by rw [Bool.true_and, Bool.false_and, Bool.false_and, Bool.false_and]; exact Ev.now false)
            | true =>
              refine ev_neg (by simp) ?_
              rw [Bool.true_and, Bool.true_and]
              by_cases ha : (fc t a f).f0 = a
              · refine ev_pos ha ?_
                by_cases hg : rd (permL (fc t a f).f1) f = f
                · refine ev_pos hg ?_
                  rw [ha, hg]
                  simp
                  exact Ev.now false
                · refine ev_neg hg ?_
                  have : (rd (permL (fc t a f).f1) f == f) = false := by simp [hg]
                  rw [this, Bool.and_false, Bool.not_false, Bool.true_and]
                  exact ih
              · refine ev_neg ha ?_
                have : ((fc t a f).f0 == a) = false := by simp [ha]
                rw [this, Bool.false_and, Bool.not_false, Bool.true_and]
                exact ih
        · rw [if_neg (by omega)]
          have e : (!(decide (0 ≤ (fc t a f).f1) && decide ((fc t a f).f1 ≤ 23))) = true := by
            rw [Bool.not_eq_true', Bool.and_eq_false_iff, decide_eq_false_iff_not, decide_eq_false_iff_not]; omega
          rw [e, Bool.false_and]
          exact hstop R
      · have hg : (if (fc t a f).f0 = -1 then ((fc t a f).f1 == 0) else if 0 ≤ (fc t a f).f0 ∧ (fc t a f).f0 < (t.length : Int) ∧ 0 ≤ (fc t a f).f1 ∧ (fc t a f).f1 ≤ 23 then
            ((fc t (fc t a f).f0 (rd (permL (fc t a f).f1) f)).f0 == a && (fc t (fc t a f).f0 (rd (permL (fc t a f).f1) f)).f1 == invP (fc t a f).f1) && !((fc t a f).f0 == a && rd (permL (fc t a f).f1) f == f) else false) = false := by
          by_cases hb : (fc t a f).f0 = -1
          · rw [if_pos hb]; simp; intro h; exact hnb ⟨hb, h⟩
          · rw [if_neg hb, if_neg (by omega)]
        rw [hg, Bool.false_and]
        refine ev_neg ?_ (hstop R)
        rw [Bool.and_eq_true, decide_eq_true_eq, decide_eq_true_eq]; omega
    by_cases hb : (fc t a f).f0 = -1
    · refine ev_pos hb ?_
      by_cases h0' : (fc t a f).f1 = 0
      · have e : goodF t a f = true := by unfold goodF; rw [if_pos hb]; simp [h0']
        rw [e, Bool.true_and]
        have e2 : ((fc t a f).f1 == 0) = true := by simp [h0']
        rw [e2]; exact hgo
      · have e2 : ((fc t a f).f1 == 0) = false := by simp [h0']
        rw [e2]; exact hrest (fun h => h0' h.2)
    · exact ev_neg hb (hrest (fun h => hb h.1))
theorem spec_l1_ev (h4 : ∀ r ∈ t, r.length = 4) (hn : t.length ≤ 8) : ∀ (d : Nat) (a : Int), 0 ≤ a → a + d = t.length → Ev (fun k => spec_IsTriangulation.l1 k a t) (goodTs t a d)
  | 0, a, ha, he => by
    refine ev_step (fun k => by rw [spec_IsTriangulation.l1, spec_l07Tets.f, yfy, if_neg (by omega)]) ?_
    exact Ev.now true
  | d + 1, a, ha, he => by
    refine ev_step (fun k => by rw [spec_IsTriangulation.l1, spec_l07Tets.f, yfy, if_pos (by omega)]) ?_
    rw [goodTs]
    exact spec_l2_ev h4 hn ha (by omega) (spec_l1_ev h4 hn d (a + 1) (by omega) (by omega)) 4 0 (by omega) (by omega)
theorem spec_l0_ev (h8 : t.length ≤ 8) (d : Nat) : ∀ n : Nat, n + d = t.length → (t.all (fun r => decide (r.length = 4)) = (t.drop n).all (fun r => decide (r.length = 4))) → Ev (fun k => spec_IsTriangulation.l0 k (n : Int) t) (t.all (fun r => decide (r.length = 4)) && goodTs t 0 t.length) := by
  induction d with
  | zero =>
    intro n hn ha
    refine ev_step (fun k => by rw [spec_IsTriangulation.l0, if_neg (by omega)]) ?_
    have hall : t.all (fun r => decide (r.length = 4)) = true := by rw [ha, List.drop_eq_nil_of_le (by omega)]; rfl
    rw [hall, Bool.true_and]
    exact spec_l1_ev (all4_iff.1 hall) h8 t.length 0 (by omega) (by omega)
  | succ d ih =>
    intro n hn ha
    have hlt : n < t.length := by omega
    refine ev_step (fun k => by rw [spec_IsTriangulation.l0, if_pos (by omega), if_pos (by omega), rd_LFace_lt t n hlt]) ?_
    rw [List.drop_eq_getElem_cons hlt, List.all_cons] at ha
    by_cases h : t[n].length = 4
    · refine ev_pos (by omega) ?_
      refine Ev.congr (fun k => by rw [wrap_succ (by omega)]) (ih (n + 1) (by omega) ?_)
      rw [ha, ygy h, Bool.true_and]
    · refine ev_neg (by omega) ?_
      rw [ha, yhy h, Bool.false_and, Bool.false_and]
      exact Ev.now false
theorem spec_isTri_ev (t : Tri) : Ev (fun k => spec_IsTriangulation.f k t) (isTri t) := by
  refine Ev.congr (fun k => by unfold spec_IsTriangulation.f spec_l07Tets.f; rw [yfy]) ?_
  unfold isTri
  by_cases h8 : t.length ≤ 8
  · refine ev_neg (by omega) ?_
    rw [ygy h8, Bool.true_and]
    exact spec_l0_ev h8 t.length 0 (by omega) (by rw [List.drop_zero])
  · refine ev_pos (by omega) ?_
    rw [yhy h8, Bool.false_and]
    exact Ev.now false
end
theorem isTri_good {t : Tri} (h : isTri t = true) : t.length ≤ 8 ∧ (∀ r ∈ t, r.length = 4) ∧ goodTs t 0 t.length = true := by
  unfold isTri at h
  rw [Bool.and_eq_true, Bool.and_eq_true, decide_eq_true_eq] at h
  exact ⟨h.1, all4_iff.1 h.2.1, h.2.2⟩
theorem goodFs_at (t : Tri) (a : Int) (d : Nat) : ∀ f, goodFs t a f d = true → ∀ g, f ≤ g → g < f + d → goodF t a g = true := by
  induction d with
  | zero => intro f _ g h1 h2; omega
  | succ d ih =>
    intro f h g h1 h2
    rw [goodFs, Bool.and_eq_true] at h
    by_cases e : g = f
    · rw [e]; exact h.1
    · exact ih (f + 1) h.2 g (by omega) (by omega)
theorem goodTs_at (t : Tri) (d : Nat) : ∀ a, goodTs t a d = true → ∀ b, a ≤ b → b < a + d → ∀ g, 0 ≤ g → g ≤ 3 → goodF t b g = true := by
  induction d with
  | zero => intro a _ b h1 h2; omega
  | succ d ih =>
    intro a h b h1 h2 g hg0 hg1
    rw [goodTs, Bool.and_eq_true] at h
    by_cases e : b = a
    · rw [e]; exact goodFs_at t a 4 0 h.1 g hg0 (by omega)
    · exact ih (a + 1) h.2 b (by omega) (by omega) g hg0 hg1
/-- A face of a valid triangulation: the boundary, or glued to a face that is glued back. -/
theorem face_good {t : Tri} (h : isTri t = true) {a f : Int} (h0 : 0 ≤ a) (h1 : a < t.length) (hf0 : 0 ≤ f) (hf1 : f ≤ 3) :
    ((fc t a f).f0 = -1 ∧ (fc t a f).f1 = 0) ∨
    ((0 ≤ (fc t a f).f0 ∧ (fc t a f).f0 < (t.length : Int) ∧ 0 ≤ (fc t a f).f1 ∧ (fc t a f).f1 ≤ 23) ∧
      (fc t (fc t a f).f0 (rd (permL (fc t a f).f1) f)).f0 = a ∧ (fc t (fc t a f).f0 (rd (permL (fc t a f).f1) f)).f1 = invP (fc t a f).f1 ∧ ¬ ((fc t a f).f0 = a ∧ rd (permL (fc t a f).f1) f = f)) := by
  have hg := goodTs_at t t.length 0 (isTri_good h).2.2 a h0 (by omega) f hf0 hf1
  unfold goodF at hg
  by_cases hb : (fc t a f).f0 = -1
  · rw [if_pos hb] at hg
    exact .inl ⟨hb, by simpa using hg⟩
  · rw [if_neg hb] at hg
    by_cases hi : 0 ≤ (fc t a f).f0 ∧ (fc t a f).f0 < (t.length : Int) ∧ 0 ≤ (fc t a f).f1 ∧ (fc t a f).f1 ≤ 23
    · rw [if_pos hi, Bool.and_eq_true, Bool.and_eq_true, Bool.not_eq_true'] at hg
      refine .inr ⟨hi, eq_of_beq hg.1.1, eq_of_beq hg.1.2, fun hc => ?_⟩
      have := hg.2
      rw [Bool.and_eq_false_iff] at this
      rcases this with h2 | h2
      · exact absurd hc.1 (by simpa using h2)
      · exact absurd hc.2 (by simpa using h2)
    · rw [if_neg hi] at hg; cases hg
theorem rowlen {t : Tri} (h : isTri t = true) {a : Int} (h0 : 0 ≤ a) (h1 : a < t.length) : (rd_LFace t a).length = 4 := row4 (isTri_good h).2.1 h0 h1
theorem order_ev {g : Int} (g0 : 0 ≤ g) (g1 : g ≤ 3) : Ev (fun k => spec_l13Order.f k g) (othL [g]) := by
  obtain ⟨m, rfl⟩ := fin4_of g0 g1
  have key : ∀ m : Fin 4, spec_l13Order.f 20 (m.val : Int) = some (othL [(m.val : Int)]) := by decide +kernel
  exact Ev.of (fun k => spec_l13Order.mono _ k) (key m)
theorem othL_fact : ∀ m : Fin 4, (othL [(m.val : Int)]).length = 3 ∧ ∀ i : Fin 3, 0 ≤ rd (othL [(m.val : Int)]) (i.val : Int) ∧ rd (othL [(m.val : Int)]) (i.val : Int) ≤ 3 := by decide +kernel
theorem othL_at {g i : Int} (g0 : 0 ≤ g) (g1 : g ≤ 3) (i0 : 0 ≤ i) (i1 : i < 3) : (othL [g]).length = 3 ∧ 0 ≤ rd (othL [g]) i ∧ rd (othL [g]) i ≤ 3 := by
  obtain ⟨m, rfl⟩ := fin4_of g0 g1
  obtain ⟨n, rfl⟩ := Int.eq_ofNat_of_zero_le i0
  exact ⟨(othL_fact m).1, (othL_fact m).2 ⟨n, by omega⟩⟩
/-- The images of the first face's vertices, in their order. -/
def imgs (p g : Int) : List Int := [rd (permL p) (rd (othL [g]) 0), rd (permL p) (rd (othL [g]) 1), rd (permL p) (rd (othL [g]) 2)]
def flipV (im : List Int) (j i : Int) (v : Int) : Int := if rd im i > rd im j then wrap64 (-v) else v
/-- The sign of an order of three. -/
def sv (im : List Int) : Int := flipV im 2 1 (flipV im 2 0 (flipV im 1 0 1))
def fsE (t : Tri) (a f : Int) : Int :=
  if (fc t a f).f0 < 0 then 1 else if (fc t a f).f0 > a ∨ ((fc t a f).f0 = a ∧ rd (permL (fc t a f).f1) f > f) then 1 else sv (imgs (invP (fc t a f).f1) (rd (permL (fc t a f).f1) f))
def fsRow (t : Tri) (a : Int) : List Int := [fsE t a 0, fsE t a 1, fsE t a 2, fsE t a 3]
section
variable {t : Tri}
theorem fs_l4_end {out : List (List Int)} {a f : Int} {im : List Int} {row : List Int} {j v : Int} {R : List (List Int)} (h : Ev (fun k => spec_l13FaceSigns.l3 k out a (row.set f.toNat v) f im (wrap64 (j + 1)) t) R) :
    Ev (fun k => spec_l13FaceSigns.l4 k out a (row.set f.toNat v) f im j j t) R :=
  ev_step (fun k => by rw [spec_l13FaceSigns.l4, if_neg (by omega)]) h
theorem fs_l4_step {out : List (List Int)} {a f : Int} {im : List Int} {row : List Int} (hf0 : 0 ≤ f) (hf1 : f < (row.length : Int)) (him : im.length = 3) {i j v : Int} (i0 : 0 ≤ i) (ij : i < j) (j1 : j ≤ 2) {R : List (List Int)} (h : Ev (fun k => spec_l13FaceSigns.l4 k out a (row.set f.toNat (flipV im j i v)) f im j (i + 1) t) R) :
    Ev (fun k => spec_l13FaceSigns.l4 k out a (row.set f.toNat v) f im j i t) R := by
  have hw : wrap64 (i + 1) = i + 1 := wrap_id (by omega) (by omega)
  have hrd : rd (row.set f.toNat v) f = v := by
    unfold rd
    have : f.toNat < row.length := by omega
    simp [List.getD_eq_getElem?_getD, this]
  refine ev_step (fun k => ?_) h
  rw [spec_l13FaceSigns.l4, if_pos ij, if_pos i0, if_pos (by omega), if_pos (by omega), if_pos (by omega)]
  unfold flipV
  by_cases c : rd im i > rd im j
  · rw [if_pos c, if_pos c, if_pos hf0, if_pos (by rw [List.length_set]; exact hf1), hrd, hw, List.set_set]
  · rw [if_neg c, if_neg c, hw]
theorem fs_l3 {out : List (List Int)} {a f : Int} {im : List Int} {row : List Int} (hf0 : 0 ≤ f) (hf1 : f ≤ 3) (hrl : row.length = 4) (him : im.length = 3) {R : List (List Int)} (hR : Ev (fun k => spec_l13FaceSigns.l1 k out a (row.set f.toNat (sv im)) (wrap64 (f + 1)) t) R) :
    Ev (fun k => spec_l13FaceSigns.l3 k out a (row.set f.toNat 1) f im 0 t) R := by
  have hfl : f < (row.length : Int) := by omega
  have w1 : wrap64 (0 + 1) = 1 := by decide +kernel
  have w2 : wrap64 (1 + 1) = 2 := by decide +kernel
  have w3 : wrap64 (2 + 1) = 3 := by decide +kernel
  have e3 : Ev (fun k => spec_l13FaceSigns.l3 k out a (row.set f.toNat (sv im)) f im 3 t) R := ev_step (fun k => by rw [spec_l13FaceSigns.l3, if_neg (by decide)]) hR
  have e2 : Ev (fun k => spec_l13FaceSigns.l3 k out a (row.set f.toNat (flipV im 1 0 1)) f im 2 t) R :=
    ev_step (fun k => by rw [spec_l13FaceSigns.l3, if_pos (by decide)]) (fs_l4_step hf0 hfl him (i := 0) (j := 2) (by decide) (by decide) (by decide) (fs_l4_step hf0 hfl him (i := 1) (j := 2) (by decide) (by decide) (by decide) (fs_l4_end (j := 2) (by rw [w3]; exact e3))))
  have e1 : Ev (fun k => spec_l13FaceSigns.l3 k out a (row.set f.toNat 1) f im 1 t) R :=
    ev_step (fun k => by rw [spec_l13FaceSigns.l3, if_pos (by decide)]) (fs_l4_step hf0 hfl him (i := 0) (j := 1) (by decide) (by decide) (by decide) (fs_l4_end (j := 1) (by rw [w2]; exact e2)))
  exact ev_step (fun k => by rw [spec_l13FaceSigns.l3, if_pos (by decide)]) (fs_l4_end (j := 0) (by rw [w1]; exact e1))
theorem fs_l2 {out : List (List Int)} {a f q g b : Int} {row : List Int} (q0 : 0 ≤ q) (q1 : q ≤ 23) (g0 : 0 ≤ g) (g1 : g ≤ 3) {R : List (List Int)} (hR : Ev (fun k => spec_l13FaceSigns.l3 k out a row f (imgs (invP q) g) 0 t) R) :
    ∀ (d : Nat) (i : Int), 0 ≤ i → i + (d : Int) = 3 → Ev (fun k => spec_l13FaceSigns.l2 k out a row f ((imgs (invP q) g).take i.toNat) (othL [g]) i t b q) R
  | 0, i, i0, hd => by
    obtain rfl : i = 3 := by omega
    exact ev_step (fun k => by rw [spec_l13FaceSigns.l2, if_neg (by decide)]; rfl) hR
  | d + 1, i, i0, hd => by
    have i3 : i < 3 := by push_cast at hd; omega
    obtain ⟨hl, o0, o1⟩ := othL_at g0 g1 i0 i3
    obtain ⟨v0, v1⟩ := invP_bd q0 q1
    have hw : wrap64 (i + 1) = i + 1 := wrap_id (by omega) (by omega)
    have ih := fs_l2 q0 q1 g0 g1 (b := b) hR d (i + 1) (by omega) (by push_cast at hd; omega)
    have ht : (imgs (invP q) g).take i.toNat ++ [rd (permL (invP q)) (rd (othL [g]) i)] = (imgs (invP q) g).take (i + 1).toNat := by
      rcases (show i = 0 ∨ i = 1 ∨ i = 2 by omega) with rfl | rfl | rfl <;> rfl
    refine ev_step (f := fun k => (spec_l06Back.f k q).bind fun t122 => (if 0 ≤ i then (if i < ((othL [g]).length : Int) then ((spec_l06At.f k t122 (rd (othL [g]) i)).bind fun t124 => (if ((imgs (invP q) g).take i.toNat).length < 17592186044416 then (spec_l13FaceSigns.l2 k out a row f ((imgs (invP q) g).take i.toNat ++ [t124]) (othL [g]) (wrap64 (i + 1)) t b q) else (none))) else (none)) else (none))) (fun k => by rw [spec_l13FaceSigns.l2, if_pos i3]) ?_
    refine Ev.bind (l06Back_ev q0 q1) (ev_pos i0 (ev_pos (by rw [hl]; exact i3) (Ev.bind (l06At_ev v0 v1 o0 o1) (ev_pos ?_ ?_))))
    · have : ((imgs (invP q) g).take i.toNat).length ≤ 3 := by rw [ymy]; exact Nat.min_le_right _ _
      omega
    · rw [ht, hw]; exact ih
end
section
variable {t : Tri}
theorem fs_l1 (h : isTri t = true) {out : List (List Int)} {a f : Int} (a0 : 0 ≤ a) (a1 : a < (t.length : Int)) (hf0 : 0 ≤ f) (hf1 : f ≤ 3) {row : List Int} (hrl : row.length = 4) (hr1 : row.set f.toNat 1 = row) {R : List (List Int)}
    (hR : Ev (fun k => spec_l13FaceSigns.l1 k out a (row.set f.toNat (fsE t a f)) (f + 1) t) R) : Ev (fun k => spec_l13FaceSigns.l1 k out a row f t) R := by
  have hw : wrap64 (f + 1) = f + 1 := wrap_id (by omega) (by omega)
  have hl := rowlen h a0 a1
  have hgood := face_good h a0 a1 hf0 hf1
  refine ev_step (f := _) (fun k => by rw [spec_l13FaceSigns.l1, if_pos (by omega), if_pos a0, if_pos a1, if_pos hf0, if_pos (by rw [hl]; omega)]) ?_
  unfold fsE at hR
  rcases hgood with ⟨e0, e1⟩ | ⟨⟨p0, p1, q0, q1⟩, _, _, _⟩
  · refine ev_pos (show (fc t a f).f0 < 0 by omega) ?_
    rw [if_pos (show (fc t a f).f0 < 0 by omega), hr1] at hR
    rw [hw]; exact hR
  · refine ev_neg (show ¬ (fc t a f).f0 < 0 by omega) ?_
    rw [if_neg (show ¬ (fc t a f).f0 < 0 by omega)] at hR
    obtain ⟨s0, s1⟩ := permL_sm q0 q1 hf0 hf1
    refine Ev.bind (l06At_ev q0 q1 hf0 hf1) ?_
    have hT : 1 = fsE t a f ∨ True := .inr trivial
    have jt : ∀ b g q : Int, Ev (fun k => spec_l13FaceSigns.l1 k out a row (f + 1) t) R → Ev (fun k => spec_l13FaceSigns.j2 k out a row f g true t b q) R := fun b g q hh => ev_step (fun k => by rw [spec_l13FaceSigns.j2, if_pos rfl, hw]) hh
    have jf : Ev (fun k => spec_l13FaceSigns.l1 k out a (row.set f.toNat (sv (imgs (invP (fc t a f).f1) (rd (permL (fc t a f).f1) f)))) (f + 1) t) R → Ev (fun k => spec_l13FaceSigns.j2 k out a row f (rd (permL (fc t a f).f1) f) false t (fc t a f).f0 (fc t a f).f1) R := fun hh => by
      refine ev_step (fun k => by rw [spec_l13FaceSigns.j2, if_neg (by decide)]) (Ev.bind (order_ev s0 s1) ?_)
      have e3 := fs_l3 (t := t) (out := out) (a := a) (f := f) (im := imgs (invP (fc t a f).f1) (rd (permL (fc t a f).f1) f)) (row := row) hf0 hf1 hrl rfl (by rw [hw]; exact hh)
      rw [hr1] at e3
      exact fs_l2 q0 q1 s0 s1 e3 3 0 (by omega) (by omega)
    by_cases c1 : (fc t a f).f0 > a
    · refine ev_pos c1 (jt _ _ _ ?_)
      rw [if_pos (.inl c1), hr1] at hR
      exact hR
    · refine ev_neg c1 ?_
      by_cases c2 : (fc t a f).f0 = a
      · refine ev_pos c2 ?_
        by_cases c3 : rd (permL (fc t a f).f1) f > f
        · rw [ygy c3]
          rw [if_pos (.inr ⟨c2, c3⟩), hr1] at hR
          exact jt _ _ _ hR
        · rw [yhy c3]
          rw [if_neg (show ¬ ((fc t a f).f0 > a ∨ (fc t a f).f0 = a ∧ rd (permL (fc t a f).f1) f > f) from fun x => x.elim c1 (fun y => c3 y.2))] at hR
          exact jf hR
      · refine ev_neg c2 ?_
        rw [if_neg (show ¬ ((fc t a f).f0 > a ∨ (fc t a f).f0 = a ∧ rd (permL (fc t a f).f1) f > f) from fun x => x.elim c1 (fun y => c2 y.1))] at hR
        exact jf hR
theorem fs_l0 (h : isTri t = true) : ∀ (d : Nat) (a : Int) (out : List (List Int)), 0 ≤ a → a + (d : Int) = (t.length : Int) → out.length = a.toNat → Ev (fun k => spec_l13FaceSigns.l0 k out a t) (out ++ (List.range d).map (fun j : Nat => fsRow t (a + (j : Int))))
  | 0, a, out, a0, hd, ho => by
    refine ev_step (f := fun _ => some out) (fun k => by rw [spec_l13FaceSigns.l0, spec_l07Tets.f, yfy, if_neg (by omega)]) ?_
    exact ev_some (by simp)
  | d + 1, a, out, a0, hd, ho => by
    have h8 := (isTri_good h).1
    have a1 : a < (t.length : Int) := by push_cast at hd; omega
    have hw : wrap64 (a + 1) = a + 1 := wrap_id (by omega) (by omega)
    have ih := fs_l0 h d (a + 1) (out ++ [fsRow t a]) (by omega) (by push_cast at hd; omega) (by rw [List.length_append]; simp; omega)
    have e : out ++ [fsRow t a] ++ (List.range d).map (fun j : Nat => fsRow t (a + 1 + (j : Int))) = out ++ (List.range (d + 1)).map (fun j : Nat => fsRow t (a + (j : Int))) := by
      rw [List.range_succ_eq_map, yjy, List.map_map, List.append_assoc]
      have e1 : fsRow t (a + ((0 : Nat) : Int)) = fsRow t a := by simp
      rw [e1]
      refine congrArg (fun l => out ++ fsRow t a :: l) ?_
      refine List.map_congr_left fun j _ => ?_
      show fsRow t (a + 1 + (j : Int)) = fsRow t (a + ((j + 1 : Nat) : Int))
      congr 1
      push_cast
      omega
    rw [e] at ih
    refine ev_step (fun k => by rw [spec_l13FaceSigns.l0, spec_l07Tets.f, yfy, if_pos a1]) ?_
    refine fs_l1 h a0 a1 (f := 0) (by decide) (by decide) rfl rfl ?_
    refine fs_l1 h a0 a1 (f := 1) (by decide) (by decide) rfl rfl ?_
    refine fs_l1 h a0 a1 (f := 2) (by decide) (by decide) rfl rfl ?_
    refine fs_l1 h a0 a1 (f := 3) (by decide) (by decide) rfl rfl ?_
    refine ev_step (fun k => by rw [spec_l13FaceSigns.l1, if_neg (by decide), if_pos (by omega), hw]) ?_
    exact ih
theorem spec_fs_ev : Ev (fun k => spec_l13FaceSigns.f k t) ((List.range t.length).map (fun j : Nat => fsRow t (j : Int))) ∨ isTri t = false := by
  cases h : isTri t with
  | false => exact .inr rfl
  | true =>
    have := fs_l0 h t.length 0 [] (by decide) (by omega) rfl
    refine .inl ?_
    have e : ([] : List (List Int)) ++ (List.range t.length).map (fun j : Nat => fsRow t (0 + (j : Int))) = (List.range t.length).map (fun j : Nat => fsRow t (j : Int)) := by
      rw [List.nil_append]
      exact List.map_congr_left fun j _ => by rw [Int.zero_add]
    rw [e] at this
    exact Ev.congr (fun k => by rw [spec_l13FaceSigns.f]) this
end
end Go.Proofs.Ytfnopcbicceeaaa.P
namespace Go.Proofs.Ytfnopcbicceeaaa.P
open Go.RowKit Go.Proofs.YtfnopcbicceeaaaW.PrintWords Go.Proofs.Ytfnopcbicceeaaa.Lib
set_option linter.unusedVariables false
set_option linter.unusedSimpArgs false
/- all faces, one by one: a face's step tells Q, and all steps keep it -/
section
variable {t : Tri} {σ : Type} {step : σ → Nat → Nat → SFace → σ} {I Q : σ → Prop}
theorem gluR_hit (hI : ∀ a j f x, IsFace t j f x → ¬ x.f0 < 0 → I a → I (step a j f x)) (hQ : ∀ a j f x, IsFace t j f x → ¬ x.f0 < 0 → I a → Q a → Q (step a j f x)) (j : Nat) (hj : j < t.length) :
    ∀ (d f : Nat) (a : σ), f + d = t[j].length → I a → I (gluR step j (t[j].drop f) f a) ∧ ((Q a ∨ ∃ f0 x0, f ≤ f0 ∧ IsFace t j f0 x0 ∧ ¬ x0.f0 < 0 ∧ ∀ a, I a → Q (step a j f0 x0)) → Q (gluR step j (t[j].drop f) f a))
  | 0, f, a, hf, hr => by
    rw [List.drop_eq_nil_of_le (by omega)]
    refine ⟨hr, fun h => ?_⟩
    rcases h with h | ⟨f0, x0, h1, ⟨h2, h3, _⟩, _⟩
    · exact h
    · omega
  | d + 1, f, a, hf, hr => by
    have hlt : f < t[j].length := by omega
    rw [List.drop_eq_getElem_cons hlt, gluR]
    by_cases hb : t[j][f].f0 < 0
    · rw [if_pos hb]
      obtain ⟨a1, a2⟩ := gluR_hit hI hQ j hj d (f + 1) a (by omega) hr
      refine ⟨a1, fun h => a2 ?_⟩
      rcases h with h | ⟨f0, x0, h1, h2, h3, h4⟩
      · exact .inl h
      · refine .inr ⟨f0, x0, ?_, h2, h3, h4⟩
        by_cases e : f0 = f
        · subst e
          obtain ⟨_, _, e2⟩ := h2
          rw [e2] at hb
          exact absurd hb h3
        · omega
    · rw [if_neg hb]
      have hF : IsFace t j f t[j][f] := ⟨hj, hlt, rfl⟩
      obtain ⟨a1, a2⟩ := gluR_hit hI hQ j hj d (f + 1) (step a j f t[j][f]) (by omega) (hI _ _ _ _ hF hb hr)
      refine ⟨a1, fun h => a2 ?_⟩
      rcases h with h | ⟨f0, x0, h1, h2, h3, h4⟩
      · exact .inl (hQ _ _ _ _ hF hb hr h)
      · by_cases e : f0 = f
        · subst e
          obtain ⟨_, _, e2⟩ := h2
          rw [e2]
          exact .inl (h4 a hr)
        · exact .inr ⟨f0, x0, by omega, h2, h3, h4⟩
theorem gluT_hit (hI : ∀ a j f x, IsFace t j f x → ¬ x.f0 < 0 → I a → I (step a j f x)) (hQ : ∀ a j f x, IsFace t j f x → ¬ x.f0 < 0 → I a → Q a → Q (step a j f x)) :
    ∀ (d j : Nat) (a : σ), j + d = t.length → I a → I (gluT step (t.drop j) j a) ∧ ((Q a ∨ ∃ j0 f0 x0, j ≤ j0 ∧ IsFace t j0 f0 x0 ∧ ¬ x0.f0 < 0 ∧ ∀ a, I a → Q (step a j0 f0 x0)) → Q (gluT step (t.drop j) j a))
  | 0, j, a, hj, hr => by
    rw [List.drop_eq_nil_of_le (by omega)]
    refine ⟨hr, fun h => ?_⟩
    rcases h with h | ⟨j0, f0, x0, h1, ⟨h2, _, _⟩, _⟩
    · exact h
    · omega
  | d + 1, j, a, hj, hr => by
    have hlt : j < t.length := by omega
    rw [List.drop_eq_getElem_cons hlt, gluT]
    have hg := gluR_hit hI hQ j hlt t[j].length 0 a (by omega) hr
    rw [List.drop_zero] at hg
    obtain ⟨a1, a2⟩ := gluT_hit hI hQ d (j + 1) _ (by omega) hg.1
    refine ⟨a1, fun h => a2 ?_⟩
    rcases h with h | ⟨j0, f0, x0, h1, h2, h3, h4⟩
    · exact .inl (hg.2 (.inl h))
    · by_cases e : j0 = j
      · subst e
        exact .inl (hg.2 (.inr ⟨f0, x0, Nat.zero_le _, h2, h3, h4⟩))
      · exact .inr ⟨j0, f0, x0, by omega, h2, h3, h4⟩
theorem gluT_all {a : σ} (hI : ∀ a j f x, IsFace t j f x → ¬ x.f0 < 0 → I a → I (step a j f x)) (ha : I a) : I (gluT step t 0 a) := by
  have := (gluT_hit (Q := fun _ => True) hI (fun _ _ _ _ _ _ _ _ => trivial) t.length 0 a (by omega) ha).1
  rwa [List.drop_zero] at this
theorem gluT_got {a : σ} (hI : ∀ a j f x, IsFace t j f x → ¬ x.f0 < 0 → I a → I (step a j f x)) (hQ : ∀ a j f x, IsFace t j f x → ¬ x.f0 < 0 → I a → Q a → Q (step a j f x)) (ha : I a) {j f : Nat} {x : SFace} (hF : IsFace t j f x) (hb : ¬ x.f0 < 0) (h : ∀ a, I a → Q (step a j f x)) : Q (gluT step t 0 a) := by
  have := (gluT_hit hI hQ t.length 0 a (by omega) ha).2 (.inr ⟨j, f, x, Nat.zero_le _, hF, hb, h⟩)
  rwa [List.drop_zero] at this
end
theorem fs_setG {l : List Int} {a b v : Int} (ha0 : 0 ≤ a) (ha1 : a < l.length) (hb : 0 ≤ b) : rd (l.set a.toNat v) b = if b = a then v else rd l b := by
  obtain ⟨m, rfl⟩ := Int.eq_ofNat_of_zero_le ha0
  obtain ⟨n, rfl⟩ := Int.eq_ofNat_of_zero_le hb
  have hm : m < l.length := by omega
  unfold rd
  simp only [Int.toNat_natCast, List.getD_eq_getElem?_getD, List.getElem?_set]
  by_cases c : n = m
  · subst c; simp [hm]
  · rw [if_neg (fun h => c h.symm), if_neg (fun h => c (by omega))]
theorem fs_back {p v : Int} (h0 : 0 ≤ p) (h1 : p ≤ 23) (v0 : 0 ≤ v) (v1 : v ≤ 3) : rd (permL (invP p)) (rd (permL p) v) = v ∧ invP (invP p) = p := by
  obtain ⟨m, rfl⟩ := fin_of h0 h1
  obtain ⟨n, rfl⟩ := fin4_of v0 v1
  have key : ∀ (m : Fin 24) (n : Fin 4), rd (permL (invP (m.val : Int))) (rd (permL (m.val : Int)) (n.val : Int)) = (n.val : Int) ∧ invP (invP (m.val : Int)) = (m.val : Int) := by decide +kernel
  exact key m n
/-- What the program does at a glued face. -/
def fsStep (out : List Int) (j f : Nat) (x : SFace) : List Int :=
  if 4 * x.f0 + rd (permL x.f1) (f : Int) > 4 * (j : Int) + (f : Int) then out.set (4 * x.f0 + rd (permL x.f1) (f : Int)).toNat (sv (imgs x.f1 (f : Int))) else out
def fsAll (t : Tri) : List Int := gluT fsStep t 0 (List.replicate (4 * t.length) 1)
section
variable {t : Tri}
theorem fs_fc {j f : Nat} {x : SFace} (hF : IsFace t j f x) : fc t (j : Int) (f : Int) = x := by
  obtain ⟨h1, h2, h3⟩ := hF
  show rd_Face (rd_LFace t (j : Int)) (f : Int) = x
  rw [rd_LFace_lt t j h1, rd_Face_lt _ f h2]; exact h3
/-- What is known of a glued face. -/
theorem fs_face (h : isTri t = true) {j f : Nat} {x : SFace} (hF : IsFace t j f x) (hb : ¬ x.f0 < 0) :
    f ≤ 3 ∧ 0 ≤ x.f0 ∧ x.f0 < (t.length : Int) ∧ 0 ≤ x.f1 ∧ x.f1 ≤ 23 ∧ 0 ≤ rd (permL x.f1) (f : Int) ∧ rd (permL x.f1) (f : Int) ≤ 3 ∧ (fc t x.f0 (rd (permL x.f1) (f : Int))).f0 = (j : Int) ∧ (fc t x.f0 (rd (permL x.f1) (f : Int))).f1 = invP x.f1 := by
  have hx := fs_fc hF
  obtain ⟨h1, h2, h3⟩ := hF
  have h4 : t[j].length = 4 := (isTri_good h).2.1 _ (List.getElem_mem _)
  have hf3 : f ≤ 3 := by omega
  have hg := face_good h (a := (j : Int)) (f := (f : Int)) (by omega) (by omega) (by omega) (by omega)
  rw [hx] at hg
  rcases hg with ⟨e, _⟩ | ⟨⟨p0, p1, q0, q1⟩, r0, r1, _⟩
  · omega
  · obtain ⟨s0, s1⟩ := permL_sm q0 q1 (f := (f : Int)) (by omega) (by omega)
    exact ⟨hf3, p0, p1, q0, q1, s0, s1, r0, r1⟩
/-- A step sets what the reference has there. -/
theorem fs_val (h : isTri t = true) {j f : Nat} {x : SFace} (hF : IsFace t j f x) (hb : ¬ x.f0 < 0) (hc : 4 * x.f0 + rd (permL x.f1) (f : Int) > 4 * (j : Int) + (f : Int)) :
    fsE t x.f0 (rd (permL x.f1) (f : Int)) = sv (imgs x.f1 (f : Int)) := by
  obtain ⟨a1, a2, a3, a4, a5, a6, a7, a8, a9⟩ := fs_face h hF hb
  obtain ⟨b1, b2⟩ := fs_back a4 a5 (v := (f : Int)) (by omega) (by omega)
  unfold fsE
  rw [a8, a9, b1, b2, if_neg (by omega), if_neg (by omega)]
def FsI (t : Tri) (out : List Int) : Prop := out.length = 4 * t.length ∧ ∀ b g : Int, 0 ≤ b → b < (t.length : Int) → 0 ≤ g → g ≤ 3 → rd out (4 * b + g) = 1 ∨ rd out (4 * b + g) = fsE t b g
theorem fs_at (h : isTri t = true) {out : List Int} {j f : Nat} {x : SFace} (hl : out.length = 4 * t.length) (hF : IsFace t j f x) (hb : ¬ x.f0 < 0) {b g : Int} (b0 : 0 ≤ b) (b1 : b < (t.length : Int)) (g0 : 0 ≤ g) (g1 : g ≤ 3) :
    rd (fsStep out j f x) (4 * b + g) = rd out (4 * b + g) ∨ rd (fsStep out j f x) (4 * b + g) = fsE t b g := by
  obtain ⟨a1, a2, a3, a4, a5, a6, a7, a8, a9⟩ := fs_face h hF hb
  unfold fsStep
  by_cases hc : 4 * x.f0 + rd (permL x.f1) (f : Int) > 4 * (j : Int) + (f : Int)
  · rw [if_pos hc, fs_setG (by omega) (by omega) (by omega)]
    by_cases e : 4 * b + g = 4 * x.f0 + rd (permL x.f1) (f : Int)
    · rw [if_pos e]
      refine .inr ?_
      have e1 : b = x.f0 := by omega
      have e2 : g = rd (permL x.f1) (f : Int) := by omega
      rw [e1, e2, fs_val h hF hb hc]
    · rw [if_neg e]; exact .inl rfl
  · rw [if_neg hc]; exact .inl rfl
theorem fsStep_len (out : List Int) (j f : Nat) (x : SFace) : (fsStep out j f x).length = out.length := by
  unfold fsStep
  split
  · rw [List.length_set]
  · rfl
theorem fsI_step (h : isTri t = true) (out : List Int) (j f : Nat) (x : SFace) (hF : IsFace t j f x) (hb : ¬ x.f0 < 0) (hI : FsI t out) : FsI t (fsStep out j f x) := by
  refine ⟨by rw [fsStep_len]; exact hI.1, fun b g b0 b1 g0 g1 => ?_⟩
  rcases fs_at h hI.1 hF hb b0 b1 g0 g1 with e | e
  · rw [e]; exact hI.2 b g b0 b1 g0 g1
  · exact .inr e
theorem fsI_zero (t : Tri) : FsI t (List.replicate (4 * t.length) 1) := by
  refine ⟨List.length_replicate, fun b g b0 b1 g0 g1 => .inl ?_⟩
  have : (4 * b + g).toNat < 4 * t.length := by omega
  unfold rd
  simp [List.getD_eq_getElem?_getD, List.getElem?_replicate, this]
theorem fsAll_I (h : isTri t = true) : FsI t (fsAll t) := gluT_all (I := FsI t) (fun a j f x hF hb hI => fsI_step h a j f x hF hb hI) (fsI_zero t)
theorem fsAll_at (h : isTri t = true) {b g : Int} (b0 : 0 ≤ b) (b1 : b < (t.length : Int)) (g0 : 0 ≤ g) (g1 : g ≤ 3) : rd (fsAll t) (4 * b + g) = fsE t b g := by
  have hI := fsAll_I h
  by_cases e1 : fsE t b g = 1
  · rcases hI.2 b g b0 b1 g0 g1 with e | e
    · rw [e, e1]
    · exact e
  · have hp : ¬ (fc t b g).f0 < 0 := fun hn => e1 (by unfold fsE; rw [if_pos hn])
    have hq : ¬ ((fc t b g).f0 > b ∨ ((fc t b g).f0 = b ∧ rd (permL (fc t b g).f1) g > g)) := fun hn => e1 (by unfold fsE; rw [if_neg hp, if_pos hn])
    rcases face_good h b0 b1 g0 g1 with ⟨e, _⟩ | ⟨⟨p0, p1, q0, q1⟩, r0, r1, r2⟩
    · omega
    · obtain ⟨s0, s1⟩ := permL_sm q0 q1 g0 g1
      obtain ⟨i0, i1⟩ := invP_bd q0 q1
      obtain ⟨k1, k2⟩ := fs_back q0 q1 g0 g1
      obtain ⟨a, ha⟩ := Int.eq_ofNat_of_zero_le p0
      obtain ⟨f, hf⟩ := Int.eq_ofNat_of_zero_le s0
      rw [ha, hf] at r0 r1
      have hal : a < t.length := by omega
      have h4 : t[a].length = 4 := (isTri_good h).2.1 _ (List.getElem_mem _)
      have hF : IsFace t a f (fc t (a : Int) (f : Int)) := ⟨hal, by omega, by
        show t[a][f] = rd_Face (rd_LFace t (a : Int)) (f : Int)
        rw [rd_LFace_lt t a hal, rd_Face_lt _ f (by omega)]⟩
      have hb : ¬ (fc t (a : Int) (f : Int)).f0 < 0 := by rw [r0]; omega
      have hg : rd (permL (fc t (a : Int) (f : Int)).f1) (f : Int) = g := by rw [r1, ← hf]; exact k1
      have hc : 4 * (fc t (a : Int) (f : Int)).f0 + rd (permL (fc t (a : Int) (f : Int)).f1) (f : Int) > 4 * (a : Int) + (f : Int) := by
        rw [hg, r0]
        have c1 : ¬ (fc t b g).f0 > b := fun x => hq (.inl x)
        have c2 : ¬ ((fc t b g).f0 = b ∧ rd (permL (fc t b g).f1) g > g) := fun x => hq (.inr x)
        rw [ha] at c1
        rw [ha, hf] at c2
        rw [ha, hf] at r2
        omega
      refine gluT_got (t := t) (step := fsStep) (I := FsI t) (Q := fun out => rd out (4 * b + g) = fsE t b g) (fun a j f x hF hb hI => fsI_step h a j f x hF hb hI) (fun o j f x hF hb hI hQ => ?_) (fsI_zero t) hF hb (fun o hI => ?_)
      · rcases fs_at h hI.1 hF hb b0 b1 g0 g1 with e | e
        · rw [e]; exact hQ
        · exact e
      · have hv := fs_val h hF hb hc
        unfold fsStep
        rw [if_pos hc, fs_setG (by rw [hg, r0]; omega) (by rw [hg, r0, hI.1]; push_cast; omega) (by omega), if_pos (by rw [hg, r0]), ← hv, hg, r0]
end
end Go.Proofs.Ytfnopcbicceeaaa.P
namespace Go.Proofs.Ytfnopcbicceeaaa.P
open Go.RowKit Go.Proofs.YtfnopcbicceeaaaW.PrintWords Go.Proofs.Ytfnopcbicceeaaa.Lib
set_option linter.unusedVariables false
theorem four_of {l : List Int} {i : Nat} (h : i + 4 ≤ l.length) : (l.drop i).take 4 = [rd l (i : Int), rd l ((i + 1 : Nat) : Int), rd l ((i + 2 : Nat) : Int), rd l ((i + 3 : Nat) : Int)] := by
  refine List.ext_getElem (by rw [ymy, yly]; simp; omega) fun m h1 h2 => ?_
  have hm : m < 4 := by simpa using h2
  have hrd : ∀ q, q < l.length → rd l ((q : Nat) : Int) = l.getD q 0 := fun q _ => rfl
  rw [List.getElem_take, List.getElem_drop]
  rcases (show m = 0 ∨ m = 1 ∨ m = 2 ∨ m = 3 by omega) with rfl | rfl | rfl | rfl
  all_goals
    simp only [List.getElem_cons_zero, List.getElem_cons_succ, Nat.add_zero]
    rw [hrd _ (by omega), List.getD_eq_getElem?_getD, List.getElem?_eq_getElem (by omega)]
    rfl
theorem fsAll_len {t : Tri} (h : isTri t = true) : (fsAll t).length = 4 * t.length := (fsAll_I h).1
theorem fs_parts {t : Tri} (h : isTri t = true) : (List.range t.length).map (fun j : Nat => ((fsAll t).drop (j * 4)).take 4) = (List.range t.length).map (fun j : Nat => fsRow t (j : Int)) := by
  refine List.map_congr_left fun j hj => ?_
  have hj := List.mem_range.1 hj
  rw [four_of (by rw [fsAll_len h]; omega)]
  have e : ∀ g : Nat, g ≤ 3 → rd (fsAll t) ((j * 4 + g : Nat) : Int) = fsE t (j : Int) (g : Int) := fun g hg => by
    have := fsAll_at h (b := (j : Int)) (g := (g : Int)) (by omega) (by omega) (by omega) (by omega)
    rw [← this]
    congr 1
    push_cast
    omega
  show [rd (fsAll t) ((j * 4 + 0 : Nat) : Int), rd (fsAll t) ((j * 4 + 1 : Nat) : Int), rd (fsAll t) ((j * 4 + 2 : Nat) : Int), rd (fsAll t) ((j * 4 + 3 : Nat) : Int)] = fsRow t (j : Int)
  rw [e 0 (by omega), e 1 (by omega), e 2 (by omega), e 3 (by omega)]
  rfl
theorem sgR_eq : ∀ (m : Fin 24) (n : Fin 4), sgR (fstgt (m.val : Int) (n.val : Int)) = sv (imgs (m.val : Int) (n.val : Int)) := by decide +kernel
theorem fSt_eq {t : Tri} (h : isTri t = true) (out : List Int) {j f : Nat} {x : SFace} (hF : IsFace t j f x) (hb : ¬ x.f0 < 0) : fSt out j f x = fsStep out j f x := by
  obtain ⟨a1, a2, a3, a4, a5, a6, a7, a8, a9⟩ := fs_face h hF hb
  obtain ⟨m, hm⟩ := fin_of a4 a5
  obtain ⟨n, hn⟩ := fin4_of (f := (f : Int)) (by omega) (by omega)
  unfold fSt fsStep
  have := sgR_eq m n
  rw [← hm, ← hn] at this
  rw [this]
/-- Steps that are the same at each glued face of a list. -/
theorem gluR_same {σ : Type} {s1 s2 : σ → Nat → Nat → SFace → σ} (j : Nat) : ∀ (r : List SFace) (f : Nat) (a : σ), (∀ (g : Nat) (hg : g < r.length) (a : σ), ¬ r[g].f0 < 0 → s1 a j (f + g) r[g] = s2 a j (f + g) r[g]) → gluR s1 j r f a = gluR s2 j r f a
  | [], _, _, _ => rfl
  | x :: xs, f, a, h => by
    rw [gluR, gluR]
    have h0 : (if x.f0 < 0 then a else s1 a j f x) = (if x.f0 < 0 then a else s2 a j f x) := by
      by_cases c : x.f0 < 0
      · rw [if_pos c, if_pos c]
      · rw [if_neg c, if_neg c]
        exact h 0 (by simp) a c
    rw [h0]
    refine gluR_same j xs (f + 1) _ fun g hg a hn => ?_
    have := h (g + 1) (by simpa using hg) a (by simpa using hn)
    rw [show f + 1 + g = f + (g + 1) by omega]
    simpa using this
theorem gluT_same {σ : Type} {s1 s2 : σ → Nat → Nat → SFace → σ} {t : List (List SFace)} (h : ∀ (a : σ) (j f : Nat) (x : SFace), IsFace t j f x → ¬ x.f0 < 0 → s1 a j f x = s2 a j f x) : ∀ (d j : Nat) (a : σ), j + d = t.length → gluT s1 (t.drop j) j a = gluT s2 (t.drop j) j a
  | 0, j, a, hj => by rw [List.drop_eq_nil_of_le (by omega)]; rfl
  | d + 1, j, a, hj => by
    have hlt : j < t.length := by omega
    rw [List.drop_eq_getElem_cons hlt, gluT, gluT, gluR_same (s1 := s1) (s2 := s2) j t[j] 0 a (fun g hg a hn => by rw [Nat.zero_add]; exact h a j g _ ⟨hlt, hg, rfl⟩ hn)]
    exact gluT_same h d (j + 1) _ (by omega)
theorem fSAll_eq {t : Tri} (h : isTri t = true) : fSAll t = fsAll t := by
  have := gluT_same (s1 := fSt) (s2 := fsStep) (t := t) (fun a j f x hF hb => fSt_eq h a hF hb) t.length 0 (List.replicate (4 * t.length) 1) (by omega)
  rw [List.drop_zero] at this
  exact this
end Go.Proofs.Ytfnopcbicceeaaa.P
namespace Go.Proofs.Ytfnopcbicceeaaa.P
open Go.RowKit Go.Proofs.YtfnopcbicceeaaaW.PrintWords Go.Proofs.YtfnopcbicceeaaaW.PrintLast Go.Proofs.YtfnopcbicceeaaaW.PrintMore
attribute [local go_sem] max2_int min2_int max_two min_two max_three min_three max_four min_four   -- for this text's walks alone
set_option linter.unusedVariables false
set_option linter.unusedSimpArgs false
/-! ### laws_toInt64S: function 25 -/
def laws_toInt64S.l0 : Nat → List Int → List Int → Int → Option (List Int)
  | 0, _, _, _ => none
  | k + 1, x0, x3, x4 => if x4 < (x0.length : Int) then (if 0 ≤ x4 then (if x4 < (x3.length : Int) then (laws_toInt64S.l0 k x0 (x3.set (x4 : Int).toNat (rd x0 x4)) (wrap64 (x4 + 1))) else (none)) else (none)) else (some x3)
def laws_toInt64S.f (k : Nat) (l0 : List Int) : Option (List Int) := if 0 ≤ (l0.length : Int) then (if ((l0.length : Int) : Int).toNat ≤ 35184372088832 then (laws_toInt64S.l0 k l0 (List.replicate ((l0.length : Int) : Int).toNat 0) 0) else (none)) else (none)
end Go.Proofs.Ytfnopcbicceeaaa.P
namespace Go.Proofs.Ytfnopcbicceeaaa.P
open Go.RowKit Go.Proofs.YtfnopcbicceeaaaW.PrintWords Go.Proofs.Ytfnopcbicceeaaa.Lib
set_option linter.unusedVariables false
theorem take_succ_rep {α : Type} (l : List α) (z : α) (n : Nat) (h : n < l.length) :
    (l.take n ++ List.replicate (l.length - n) z).set n l[n] = l.take (n + 1) ++ List.replicate (l.length - (n + 1)) z := by
  have e : l.length - n = (l.length - (n + 1)) + 1 := by omega
  rw [e, List.replicate_succ, List.set_append_right _ _ (by simp; omega)]
  have : n - (l.take n).length = 0 := by simp; omega
  rw [this, yby, List.take_succ_eq_append_getElem h, List.append_assoc]
  rfl
theorem toInt64S_ev (l : List Int) (h : l.length ≤ 4398046511104) : Ev (fun k => laws_toInt64S.f k l) l := by
  have hl : Ev (fun k => laws_toInt64S.l0 k l (List.replicate l.length 0) 0) l := by
    refine ev_loop0 (fun k (s : List Int × Int) => laws_toInt64S.l0 k l s.1 s.2) (fun s => ∃ n : Nat, n ≤ l.length ∧ s.2 = n ∧ s.1 = l.take n ++ List.replicate (l.length - n) 0) (fun s => l.length - s.2.toNat) (fun _ => l) ?_ (List.replicate l.length 0, 0) ⟨0, by omega, rfl, by simp⟩
    rintro ⟨a, i⟩ ⟨n, hn, rfl, rfl⟩
    dsimp only
    by_cases hlt : n < l.length
    · refine .inr ⟨(l.take (n + 1) ++ List.replicate (l.length - (n + 1)) 0, ((n + 1 : Nat) : Int)), ⟨n + 1, by omega, rfl, rfl⟩, by simp; omega, rfl, fun k => ?_⟩
      simp only [laws_toInt64S.l0]
      rw [if_pos (by omega), if_pos (by omega), if_pos (by simp; omega), wrap_succ (by omega), Int.toNat_natCast, rd_lt l n hlt, take_succ_rep l 0 n hlt]
    · obtain rfl : n = l.length := by omega
      refine .inl fun k => ?_
      simp only [laws_toInt64S.l0]
      rw [if_neg (by omega)]
      simp
  refine Ev.congr (fun k => ?_) hl
  unfold laws_toInt64S.f
  rw [if_pos (by omega), if_pos (by simp; omega), Int.toNat_natCast]
theorem eqInt64S_ev (l : List Int) (h : l.length ≤ 4398046511104) : Ev (fun k => laws_eqInt64S.f k l l) true := by
  have hl : Ev (fun k => laws_eqInt64S.l0 k l l 0) true := by
    refine ev_loop0 (fun k (s : Int) => laws_eqInt64S.l0 k l l s) (fun s => ∃ n : Nat, n ≤ l.length ∧ s = n) (fun s => l.length - s.toNat) (fun _ => true) ?_ 0 ⟨0, by omega, rfl⟩
    rintro i ⟨n, hn, rfl⟩
    by_cases hlt : n < l.length
    · refine .inr ⟨((n + 1 : Nat) : Int), ⟨n + 1, by omega, rfl⟩, by simp; omega, rfl, fun k => ?_⟩
      simp only [laws_eqInt64S.l0]
      rw [if_pos (by omega), if_pos (by omega), if_pos (by omega), if_pos trivial, wrap_succ (by omega)]
    · refine .inl fun k => ?_
      simp only [laws_eqInt64S.l0]
      rw [if_neg (by omega)]
  refine Ev.congr (fun k => ?_) hl
  unfold laws_eqInt64S.f
  rw [if_pos rfl]
theorem take_set_up (l : List Int) (a : Int) (n : Nat) (h : n < l.length) : (upFrom a n ++ l.drop n).set n (a + n) = upFrom a (n + 1) ++ l.drop (n + 1) := by
  rw [List.set_append_right _ _ (by rw [upFrom_length]; omega), upFrom_length, Nat.sub_self, List.drop_eq_getElem_cons h, yby, upFrom_snoc, List.append_assoc]
  rfl
theorem markInt64S_ev (l : List Int) (a : Int) (h : l.length ≤ 4398046511104) (h0 : 0 ≤ a) (h1 : a ≤ 4398046511104) : Ev (fun k => laws_markInt64S.f k l a) (a + l.length, upFrom a l.length) := by
  have hl : Ev (fun k => laws_markInt64S.l0 k l a 0) (a + l.length, upFrom a l.length) := by
    refine ev_loop0 (fun k (s : List Int × Int × Int) => laws_markInt64S.l0 k s.1 s.2.1 s.2.2) (fun s => ∃ n : Nat, n ≤ l.length ∧ s.2.2 = n ∧ s.2.1 = a + n ∧ s.1 = upFrom a n ++ l.drop n) (fun s => l.length - s.2.2.toNat) (fun _ => (a + l.length, upFrom a l.length)) ?_ (l, a, 0) ⟨0, by omega, rfl, by simp, by simp [upFrom]⟩
    rintro ⟨x, b, i⟩ ⟨n, hn, rfl, rfl, rfl⟩
    dsimp only
    have hlen : (upFrom a n ++ l.drop n).length = l.length := by simp [upFrom_length]; omega
    by_cases hlt : n < l.length
    · refine .inr ⟨(upFrom a (n + 1) ++ l.drop (n + 1), a + ((n + 1 : Nat) : Int), ((n + 1 : Nat) : Int)), ⟨n + 1, by omega, rfl, rfl, rfl⟩, by simp; omega, rfl, fun k => ?_⟩
      simp only [laws_markInt64S.l0]
      rw [if_pos (by rw [hlen]; omega), if_pos (by omega), wrap_succ (by omega), Int.toNat_natCast, take_set_up l a n hlt, wrap_id (by omega) (by omega)]
      congr 1; omega
    · obtain rfl : n = l.length := by omega
      refine .inl fun k => ?_
      simp only [laws_markInt64S.l0]
      rw [if_neg (by rw [hlen]; omega)]
      simp
  exact hl
theorem heldInt64S_ev (a : Int) (m : Nat) (h : m ≤ 4398046511104) (h0 : 0 ≤ a) (h1 : a ≤ 4398046511104) : Ev (fun k => laws_heldInt64S.f k (upFrom a m) a) (a + m) := by
  have hl : Ev (fun k => laws_heldInt64S.l0 k (upFrom a m) a 0) (a + m) := by
    refine ev_loop0 (fun k (s : Int × Int) => laws_heldInt64S.l0 k (upFrom a m) s.1 s.2) (fun s => ∃ n : Nat, n ≤ m ∧ s.2 = n ∧ s.1 = a + n) (fun s => m - s.2.toNat) (fun _ => a + m) ?_ (a, 0) ⟨0, by omega, rfl, by simp⟩
    rintro ⟨b, i⟩ ⟨n, hn, rfl, rfl⟩
    dsimp only
    by_cases hlt : n < m
    · refine .inr ⟨(a + ((n + 1 : Nat) : Int), ((n + 1 : Nat) : Int)), ⟨n + 1, by omega, rfl, rfl⟩, by simp; omega, rfl, fun k => ?_⟩
      simp only [laws_heldInt64S.l0]
      rw [if_pos (by rw [upFrom_length]; omega), if_pos (by omega), if_pos (by rw [rd_nat, upFrom_get a m n hlt]), wrap_succ (by omega), wrap_id (by omega) (by omega)]
      congr 1; omega
    · obtain rfl : n = m := by omega
      refine .inl fun k => ?_
      simp only [laws_heldInt64S.l0]
      rw [if_neg (by rw [upFrom_length]; omega)]
  exact hl
abbrev Rows := List (List Int)
/-- The marks, and their number. -/
def cntI : Rows → Nat
  | [] => 0
  | r :: rs => r.length + cntI rs
def mkI (a : Int) : Rows → Rows
  | [] => []
  | r :: rs => upFrom a r.length :: mkI (a + r.length) rs
def SmallI (t : Rows) : Prop := t.length ≤ 1048576 ∧ ∀ r ∈ t, r.length ≤ 1048576
theorem cntI_le (t : Rows) (h : ∀ r ∈ t, r.length ≤ 1048576) : cntI t ≤ 1048576 * t.length := by
  induction t with
  | nil => simp [cntI]
  | cons r rs ih =>
    have h1 := h r (List.mem_cons_self ..)
    have h2 := ih (fun x hx => h x (List.mem_cons_of_mem _ hx))
    simp only [cntI, List.length_cons]; omega
theorem rd_LInt_lt (t : Rows) (n : Nat) (h : n < t.length) : rd_LInt t (n : Int) = t[n] := by simp [rd_LInt, h]
theorem markGoI_ev : ∀ (suf : Rows) (pre : Rows) (a : Int), (∀ r ∈ suf, r.length ≤ 1048576) → 0 ≤ a → a + cntI suf ≤ 4398046511104 → Ev (fun k => laws_markInt64SS.go k suf.length (pre ++ suf) a pre.length) (a + cntI suf, pre ++ mkI a suf)
  | [], pre, a, _, h0, h1 => ev_const' fun k => by simp [laws_markInt64SS.go, cntI, mkI]
  | r :: rs, pre, a, hr, h0, h1 => by
    simp only [cntI] at h1
    have hm := markInt64S_ev r a (by have := hr r (List.mem_cons_self ..); omega) h0 (by omega)
    have ih := markGoI_ev rs (pre ++ [upFrom a r.length]) (a + r.length) (fun x hx => hr x (List.mem_cons_of_mem _ hx)) (by omega) (by omega)
    simp only [List.length_cons, laws_markInt64SS.go]
    have e0 : List.getD (pre ++ r :: rs) pre.length [] = r := by simp
    rw [e0]
    refine Ev.bind hm ?_
    dsimp only
    have e1 : (pre ++ r :: rs).set pre.length (upFrom a r.length) = pre ++ [upFrom a r.length] ++ rs := by
      rw [List.set_append_right _ _ (yoy _), Nat.sub_self, yby]; simp
    rw [e1]
    have e2 : pre.length + 1 = (pre ++ [upFrom a r.length]).length := by simp
    rw [e2]
    have e3 : (a + ((cntI (r :: rs) : Nat) : Int), pre ++ mkI a (r :: rs)) = (a + r.length + (cntI rs : Int), pre ++ [upFrom a r.length] ++ mkI (a + r.length) rs) := by
      simp only [cntI, mkI, List.append_assoc, List.singleton_append]; congr 1; omega
    rw [e3]
    exact ih
theorem markInt64SS_ev (t : Rows) (a : Int) (hs : SmallI t) (h0 : 0 ≤ a) (h1 : a ≤ 1048576) : Ev (fun k => laws_markInt64SS.f k t a) (a + cntI t, mkI a t) := by
  have := markGoI_ev t [] a hs.2 h0 (by have := cntI_le t hs.2; have := hs.1; omega)
  rw [List.nil_append, List.nil_append] at this
  exact this
theorem heldSSI_ev : ∀ (suf : Rows) (pre : Rows) (a : Int), (∀ r ∈ suf, r.length ≤ 1048576) → pre.length + suf.length ≤ 1048576 → 0 ≤ a → a + cntI suf ≤ 4398046511104 → Ev (fun k => laws_heldInt64SS.l0 k (pre ++ mkI a suf) a (pre.length : Int)) (a + cntI suf)
  | [], pre, a, _, hn, h0, h1 => by
    refine ev_step (f := fun _ => some a) (fun k => ?_) (ev_some (by simp [cntI]))
    rw [laws_heldInt64SS.l0, if_neg (by simp [mkI])]
  | r :: rs, pre, a, hr, hn, h0, h1 => by
    simp only [cntI, List.length_cons] at h1 hn
    have hm := heldInt64S_ev a r.length (by have := hr r (List.mem_cons_self ..); omega) h0 (by omega)
    have ih := heldSSI_ev rs (pre ++ [upFrom a r.length]) (a + r.length) (fun x hx => hr x (List.mem_cons_of_mem _ hx)) (by simp; omega) (by omega) (by omega)
    have e1 : pre ++ mkI a (r :: rs) = pre ++ [upFrom a r.length] ++ mkI (a + r.length) rs := by simp [mkI]
    have e4 : rd_LInt (pre ++ mkI a (r :: rs)) (pre.length : Int) = upFrom a r.length := by
      rw [rd_LInt_lt _ _ (by simp [mkI])]; simp [mkI]
    refine ev_step (fun k => by rw [laws_heldInt64SS.l0, if_pos (by simp [mkI]; omega), if_pos (by omega), e4]) (Ev.bind hm ?_)
    refine ev_neg (by omega) ?_
    have e2 : wrap64 ((pre.length : Int) + 1) = ((pre ++ [upFrom a r.length]).length : Int) := by rw [wrap_succ (by omega)]; simp
    have e3 : (a + ((cntI (r :: rs) : Nat) : Int)) = a + r.length + (cntI rs : Int) := by simp only [cntI]; omega
    rw [e1, e3]
    exact Ev.congr (fun k => by rw [e2]) ih
theorem heldInt64SS_ev (t : Rows) (a : Int) (hs : SmallI t) (h0 : 0 ≤ a) (h1 : a ≤ 1048576) : Ev (fun k => laws_heldInt64SS.f k (mkI a t) a) (a + cntI t) := by
  have := heldSSI_ev t [] a hs.2 (by have := hs.1; simp; omega) h0 (by have := cntI_le t hs.2; have := hs.1; omega)
  rw [List.nil_append] at this
  exact this
theorem eqInt64SS_ev (l : Rows) (h : SmallI l) : Ev (fun k => laws_eqInt64SS.f k l l) true := by
  have hl : Ev (fun k => laws_eqInt64SS.l0 k l l 0) true := by
    refine ev_loop (fun k (s : Int) => laws_eqInt64SS.l0 k l l s) (fun s => ∃ n : Nat, n ≤ l.length ∧ s = n) (fun s => l.length - s.toNat) (fun _ => true) ?_ 0 ⟨0, by omega, rfl⟩
    rintro i ⟨n, hn, rfl⟩
    by_cases hlt : n < l.length
    · obtain ⟨K, hK⟩ := eqInt64S_ev l[n] (by have := h.2 _ (List.getElem_mem hlt); omega)
      refine .inr ⟨((n + 1 : Nat) : Int), K, ⟨n + 1, by omega, rfl⟩, by simp; omega, rfl, fun k hk => ?_⟩
      have e : laws_eqInt64S.f k l[n] l[n] = some _ := hK k hk
      have h1 := h.1
      simp only [laws_eqInt64SS.l0]
      rw [if_pos (by omega), if_pos (by omega), if_pos (by omega), rd_LInt_lt l n hlt, e, yfy, if_pos rfl, wrap_succ (by omega)]
    · refine .inl ⟨0, fun k _ => ?_⟩
      simp only [laws_eqInt64SS.l0]
      rw [if_neg (by omega)]
  refine Ev.congr (fun k => ?_) hl
  unfold laws_eqInt64SS.f
  rw [if_pos rfl]
def fsOf (t : Tri) : Rows := if isTri t = true then (List.range t.length).map (fun j : Nat => fsRow t (j : Int)) else []
theorem fsOf_small (t : Tri) : SmallI (fsOf t) := by
  unfold fsOf
  cases h : isTri t with
  | false => rw [if_neg (by simp)]; exact ⟨by simp, fun r hr => by cases hr⟩
  | true =>
    rw [if_pos rfl]
    have h8 := (isTri_good h).1
    refine ⟨by simp; omega, fun r hr => ?_⟩
    obtain ⟨j, _, rfl⟩ := List.mem_map.1 hr
    show 4 ≤ 1048576
    omega
theorem spec_fsOf_ev (t : Tri) : Ev (fun k => spec_FaceSigns.f k t) (fsOf t) := by
  refine Ev.bind (spec_isTri_ev t) ?_
  unfold fsOf
  cases h : isTri t with
  | false => exact ev_neg (by simp) (Ev.now _)
  | true =>
    rcases spec_fs_ev (t := t) with h1 | h1
    · exact ev_pos rfl (Ev.bind h1 (Ev.now _))
    · rw [h] at h1; cases h1
theorem fs_ok {t : Tri} (h : isTri t = true) : fsOk t := by
  obtain ⟨h8, h4, _⟩ := isTri_good h
  refine ⟨h8, fun r hr => ⟨by rw [h4 r hr]; omega, fun x hx hb => ?_⟩⟩
  obtain ⟨j, hj, rfl⟩ := List.mem_iff_getElem.1 hr
  obtain ⟨f, hf, rfl⟩ := List.mem_iff_getElem.1 hx
  obtain ⟨a1, a2, a3, a4, a5, a6, a7, a8, a9⟩ := fs_face h (j := j) (f := f) ⟨hj, hf, rfl⟩ hb
  exact ⟨by omega, a4, a5⟩
theorem chOf_all (l : List Int) (n : Nat) : chOf l (List.finRange n) = (List.range n).map (fun j : Nat => (l.drop (j * 4)).take 4) := by
  refine List.ext_getElem (by simp [chOf]) fun m h1 h2 => ?_
  simp [chOf, chPart]
theorem impl_fsOf_ev {t : Tri} (hs : Small t) : Ev (fun k => impl_FaceSigns.f k t) (fsOf t) := by
  refine Ev.bind (impl_isTri_ev hs) ?_
  unfold fsOf
  cases h : isTri t with
  | false => exact ev_neg (by simp) (Ev.now _)
  | true =>
    obtain ⟨h8, h4, _⟩ := isTri_good h
    have e1 : impl_Triangulation_faceSigns.f t = some (fsAll t) := by rw [← fSAll_eq h]; exact if_pos (fs_ok h)
    have hl := fsAll_len h
    have e2 : impl_chunks.f (fsAll t) 4 = some ((List.range t.length).map (fun j : Nat => fsRow t (j : Int))) := by
      rw [← fs_parts h, ← chOf_all]
      have h3 : (fsAll t).length / 4 = t.length := by omega
      rw [← h3]
      exact if_pos ⟨rfl, by omega, by omega⟩
    refine ev_pos rfl ?_
    refine Ev.bind (a := fsAll t) (by rw [e1]; exact Ev.now _) ?_
    refine Ev.bind (a := (List.range t.length).map (fun j : Nat => fsRow t (j : Int))) (by rw [e2]; exact Ev.now _) (Ev.now _)
/-- n marked faces from a on. -/
def mkR (a : Int) : Nat → List SFace
  | 0 => []
  | n + 1 => ⟨a, a + 1⟩ :: mkR (a + 2) n
theorem mkR_length (a : Int) (n : Nat) : (mkR a n).length = n := by
  induction n generalizing a with
  | zero => rfl
  | succ n ih => simp [mkR, ih]
theorem mkR_snoc (a : Int) (n : Nat) : mkR a (n + 1) = mkR a n ++ [⟨a + 2 * n, a + 2 * n + 1⟩] := by
  induction n generalizing a with
  | zero => simp [mkR]
  | succ n ih =>
    rw [mkR, ih (a + 2)]
    have e : a + 2 + 2 * (n : Int) = a + 2 * ((n + 1 : Nat) : Int) := by omega
    rw [e]; rfl
theorem mk_set (l : List SFace) (a : Int) (n : Nat) (h : n < l.length) : (mkR a n ++ l.drop n).set n ⟨a + 2 * n, a + 2 * n + 1⟩ = mkR a (n + 1) ++ l.drop (n + 1) := by
  rw [List.set_append_right _ _ (by rw [mkR_length]; exact yoy _), mkR_length, Nat.sub_self, List.drop_eq_getElem_cons h, yby, mkR_snoc, List.append_assoc]
  rfl
theorem rd_Face_set (l : List SFace) (n : Nat) (v : SFace) (h : n < l.length) : rd_Face (l.set n v) (n : Int) = v := by
  rw [rd_Face_lt _ n (by rw [List.length_set]; exact h), List.getElem_set_self]
theorem markFaceS_ev (l : List SFace) (a : Int) (h : l.length ≤ 1099511627776) (h0 : 0 ≤ a) (h1 : a ≤ 9007199254740992) : Ev (fun k => laws_markFaceS.f k l a) (a + 2 * l.length, mkR a l.length) := by
  have hl : Ev (fun k => laws_markFaceS.l0 k l a 0) (a + 2 * l.length, mkR a l.length) := by
    refine ev_loop0 (fun k (s : List SFace × Int × Int) => laws_markFaceS.l0 k s.1 s.2.1 s.2.2) (fun s => ∃ n : Nat, n ≤ l.length ∧ s.2.2 = n ∧ s.2.1 = a + 2 * n ∧ s.1 = mkR a n ++ l.drop n) (fun s => l.length - s.2.2.toNat) (fun _ => (a + 2 * l.length, mkR a l.length)) ?_ (l, a, 0) ⟨0, by omega, rfl, by simp, by simp [mkR]⟩
    rintro ⟨x, b, i⟩ ⟨n, hn, rfl, rfl, rfl⟩
    dsimp only
    have hlen : (mkR a n ++ l.drop n).length = l.length := by simp [mkR_length]; omega
    by_cases hlt : n < l.length
    · refine .inr ⟨(mkR a (n + 1) ++ l.drop (n + 1), a + 2 * ((n + 1 : Nat) : Int), ((n + 1 : Nat) : Int)), ⟨n + 1, by omega, rfl, rfl, rfl⟩, by simp; omega, rfl, fun k => ?_⟩
      simp only [laws_markFaceS.l0]
      rw [if_pos (by rw [hlen]; omega), if_pos (by omega), yfy, Int.toNat_natCast, rd_Face_set _ n _ (by rw [hlen]; exact hlt), List.set_set, wrap_id (x := a + 2 * (n : Int) + 1) (by omega) (by omega), mk_set l a n hlt, wrap_succ (by omega), wrap_id (by omega) (by omega)]
      congr 1; omega
    · obtain rfl : n = l.length := by omega
      refine .inl fun k => ?_
      simp only [laws_markFaceS.l0]
      rw [if_neg (by rw [hlen]; omega)]
      simp
  exact hl
/-- The marks of a triangulation, and their number. -/
def cntF : Tri → Nat
  | [] => 0
  | r :: rs => 2 * r.length + cntF rs
def mkT (a : Int) : Tri → Tri
  | [] => []
  | r :: rs => mkR a r.length :: mkT (a + 2 * r.length) rs
theorem cntF_le (t : Tri) (h : ∀ r ∈ t, r.length ≤ 1048576) : cntF t ≤ 2097152 * t.length := by
  induction t with
  | nil => simp [cntF]
  | cons r rs ih =>
    have h1 := h r (List.mem_cons_self ..)
    have h2 := ih (fun x hx => h x (List.mem_cons_of_mem _ hx))
    simp only [cntF, List.length_cons]; omega
theorem markGo_ev : ∀ (suf : Tri) (pre : Tri) (a : Int), (∀ r ∈ suf, r.length ≤ 1048576) → 0 ≤ a → a + cntF suf ≤ 9007199254740992 → Ev (fun k => laws_markFaceSS.go k suf.length (pre ++ suf) a pre.length) (a + cntF suf, pre ++ mkT a suf)
  | [], pre, a, _, h0, h1 => ev_const' fun k => by simp [laws_markFaceSS.go, cntF, mkT]
  | r :: rs, pre, a, hr, h0, h1 => by
    simp only [cntF] at h1
    have hm := markFaceS_ev r a (by have := hr r (List.mem_cons_self ..); omega) h0 (by omega)
    have ih := markGo_ev rs (pre ++ [mkR a r.length]) (a + 2 * r.length) (fun x hx => hr x (List.mem_cons_of_mem _ hx)) (by omega) (by omega)
    simp only [List.length_cons, laws_markFaceSS.go]
    have e0 : List.getD (pre ++ r :: rs) pre.length [] = r := by simp
    rw [e0]
    refine Ev.bind hm ?_
    dsimp only
    have e1 : (pre ++ r :: rs).set pre.length (mkR a r.length) = pre ++ [mkR a r.length] ++ rs := by
      rw [List.set_append_right _ _ (yoy _), Nat.sub_self, yby]; simp
    rw [e1]
    have e2 : pre.length + 1 = (pre ++ [mkR a r.length]).length := by simp
    rw [e2]
    have e3 : (a + ((cntF (r :: rs) : Nat) : Int), pre ++ mkT a (r :: rs)) = (a + 2 * r.length + (cntF rs : Int), pre ++ [mkR a r.length] ++ mkT (a + 2 * r.length) rs) := by
      simp only [cntF, mkT, List.append_assoc, List.singleton_append]; congr 1; omega
    rw [e3]
    exact ih
theorem markTriangulation_ev (t : Tri) (a : Int) (hs : Small t) (h0 : 0 ≤ a) (h1 : a ≤ 1048576) : Ev (fun k => laws_markTriangulation.f k t a) (a + cntF t, mkT a t) := by
  have := markGo_ev t [] a hs.2 h0 (by have := cntF_le t hs.2; have := hs.1; omega)
  rw [List.nil_append, List.nil_append] at this
  exact this
end Go.Proofs.Ytfnopcbicceeaaa.P
namespace Go.Proofs.Ytfnopcbicceeaaa.Pure
open Go.RowKit Go.Proofs.Ytfnopcbicceeaaa.P Go.Proofs.Ytfnopcbicceeaaa.Lib Go.Proofs.YtfnopcbicceeaaaW.PrintWords
theorem FnExactFaceSigns (l : List (List SLawFace)) (h : Fits l) : ∃ k, laws_FnExactFaceSigns.f k l = some true := by
  refine Ev.rounds ?_
  obtain ⟨r, hr, hs⟩ := szTriangulation_ev l h
  refine Ev.bind hr ?_
  by_cases hn : r < 0
  · exact ev_pos hn (Ev.now true)
  have hsm := hs hn
  have hto := toTriangulation_ev l hsm
  have hS := cvT_small hsm
  have hi := impl_fsOf_ev hS
  have hL := fsOf_small (cvT l)
  have heq := eqInt64SS_ev _ hL
  have hh := heldInt64SS_ev _ 1 hL (by omega) (by omega)
  refine ev_neg hn ?_
  refine Ev.bind hto ?_
  refine Ev.bind (spec_fsOf_ev _) ?_
  refine Ev.bind hto ?_
  refine Ev.bind hi ?_
  refine Ev.bind heq (ev_pos rfl ?_)
  refine Ev.bind hto ?_
  refine Ev.bind (eqTriangulation_ev _ hS) (ev_pos rfl ?_)
  refine Ev.bind (markTriangulation_ev _ 1 hS (by omega) (by omega)) ?_
  refine ev_neg (by dsimp only; omega) ?_
  refine Ev.bind heq (ev_pos rfl ?_)
  refine Ev.bind (markInt64SS_ev _ 1 hL (by omega) (by omega)) ?_
  refine Ev.bind hh ?_
  refine ev_neg (by omega) (ev_pos rfl ?_)
  refine Ev.bind hto ?_
  refine Ev.bind hi ?_
  refine Ev.bind heq (ev_pos rfl ?_)
  refine Ev.bind hh ?_
  exact ev_neg (by omega) (ev_pos rfl (Ev.now true))
end Go.Proofs.Ytfnopcbicceeaaa.Pure
namespace Go.Proofs.Ytfnopcbicceeaaa.Lib
open Go.RowKit Go.Proofs.YtfnopcbicceeaaaW.PrintWords Go.Joins Go.Deep Go.WideShapes Go.ChangeShapes
set_option linter.unusedVariables false
/-- Whatever reads as data at type t reads as a value of the kind d. -/
def Opens (P : Program) (t : TypeId) {α : Type} (d : Kd α) : Prop := ∀ (H : Type) (enc : TypeId × Value → H) (w : World) (base : Nat) (spare : Nat → Bool) (held : Bool) (fuel : Nat) (cs : List Value) (x : DataW H × List MemPlace),
  DataW.trod enc P w base spare held fuel t cs = some x → ∃ y, d.K w y cs
theorem pick_list {α : Type} {R : Nat → α → Prop} : ∀ n, (∀ i, i < n → ∃ y, R i y) → ∃ ys : List α, ys.length = n ∧ ∀ j p, ys[j]? = some p → R j p
  | 0, _ => ⟨[], rfl, fun j p h => by simp at h⟩
  | n + 1, h => by
    obtain ⟨ys, hl, hr⟩ := pick_list n (fun i hi => h i (by omega))
    obtain ⟨y, hy⟩ := h n (by omega)
    refine ⟨ys ++ [y], by simp [hl], fun j p hj => ?_⟩
    by_cases hlt : j < n
    · rw [List.getElem?_append_left (by omega)] at hj
      exact hr j p hj
    · have hjn : j < (ys ++ [y]).length := (List.getElem?_eq_some_iff.1 hj).1
      have : j = n := by simp [hl] at hjn; omega
      subst this
      rw [List.getElem?_append_right (by omega), hl, Nat.sub_self] at hj
      injection hj with hj
      rw [← hj]
      exact hy
theorem opens_slice {P : Program} {t e : TypeId} {α : Type} {d : Kd α} (ht : P.underlying t = some (.slice e)) (hc : P.cellsOf e = d.sz) (h : Opens P e d) : Opens P t (Kd.slice e d) := by
  intro H enc w base spare held fuel cs x hx
  rcases open_slice ht hx with ⟨rfl, _⟩ | ⟨a, len, cap, m, n, D, Pl, rfl, hb, hl, hm, hmm, _, hi⟩
  · exact ⟨[], none, 0, rfl, yoy _, Kd.C_nil d w⟩
  · have each : ∀ i, i < len → ∃ y, ∃ cs', w.cells? base (a.add (i * d.sz)) d.sz = some cs' ∧ d.K w y cs' := by
      intro i hil
      have him : i < m := by rw [hmm]; split <;> omega
      obtain ⟨cs', h1, h2⟩ := hi i him
      obtain ⟨y, hy⟩ := h H enc w base spare held n cs' _ h2
      rw [hc] at h1
      exact ⟨y, cs', h1, hy⟩
    obtain ⟨ys, hlen, hys⟩ := pick_list len each
    refine ⟨ys, some a, cap, by rw [hlen], by omega, rfl, ?_, fun _ => ⟨a, rfl, fun j p hj => ?_⟩⟩
    · unfold maxLen at hm; omega
    · obtain ⟨cs', h1, h2⟩ := hys j p hj
      obtain ⟨_, h3, h4⟩ := World.cells?_some h1
      refine ⟨cs', h3, h2, fun i u hu => ?_⟩
      have hil : i < d.sz := by rw [← h3]; exact (List.getElem?_eq_some_iff.1 hu).1
      rw [← hu, ← h4 i hil, Go.Deep.add_add]
theorem opens_struct2 {P : Program} {t : TypeId} {f0 f1 : Field} {α : Type} (hs : P.underlying t = some (.struct #[f0, f1])) (hone : oneCellFields P #[f0, f1] = true) (hC : P.cellsOf t = 2)
    (h0 : P.underlying f0.type = some (.int .i64)) (h1 : P.underlying f1.type = some (.int .i64)) (d : Kd α) (mk : Int → Int → α) (hK : ∀ w a b, d.K w (mk a b) [.int .i64 a, .int .i64 b]) : Opens P t d := by
  intro H enc w base spare held fuel cs x h
  obtain ⟨y0, y1, n, hx, hl, g0, g1⟩ := trod_struct2 hs h
  obtain ⟨o0, k0⟩ := hone_of hone 0 f0 rfl
  obtain ⟨o1, k1⟩ := hone_of hone 1 f1 rfl
  rw [hC] at hl
  match cs, hl with
  | [c0, c1], _ =>
    rw [o0, k0] at g0
    rw [o1, k1] at g1
    obtain ⟨a, e0, _, _⟩ := DataW.trod_int h0 g0
    obtain ⟨b, e1, _, _⟩ := DataW.trod_int h1 g1
    simp at e0 e1
    subst e0 e1
    exact ⟨mk a b, hK w a b⟩
section
variable {H : Type} {enc : TypeId × Value → H} {P : Program} {w : World} {base : Nat} {spare : Nat → Bool} {held : Bool}
theorem array1 {α : Type} {cs : Array α} (h : cs.size = 1) : ∃ c0, cs = #[c0] := by
  obtain ⟨l⟩ := cs
  match l, h with
  | [c0], _ => exact ⟨c0, rfl⟩
/-- A struct that holds one slice, by value. -/
theorem open_agg1 {r : Reach} {b0 : Nat} {t e : TypeId} {f0 : Field} {α : Type} {d : Kd α} {v : Value} {D : DataW H} {p : List MemPlace} (hs : P.underlying t = some (.struct #[f0])) (hone : oneCellFields P #[f0] = true) (hC : P.cellsOf t = 1)
    (ho : Opens P f0.type (Kd.slice e d)) (hv : Value.okWide P w r b0 t v) (h : DataW.Trod enc P w base spare held t v D p) :
    ∃ (A : Option Addr) (c : Nat) (l : List α), v = .agg #[.slice A l.length c] ∧ l.length ≤ c ∧ d.C w A l.length l := by
  obtain ⟨cs, rfl, hsz⟩ := okWide_struct hs hv
  obtain ⟨c0, rfl⟩ := array1 (hsz.trans hC)
  obtain ⟨fuel, hf⟩ := h
  obtain ⟨y0, n, hx, _, h0⟩ := trod_struct1 hs hf
  obtain ⟨o0, k0⟩ := hone_of hone 0 f0 rfl
  have h0' : DataW.trod enc P w base spare held n f0.type [c0] = some y0 := by simpa [Value.cells, o0, k0] using h0
  obtain ⟨l, A, c, e1, hl, hCC⟩ := ho H enc w base spare held n _ _ h0'
  simp at e1
  subst e1
  exact ⟨A, c, l, rfl, hl, hCC⟩
end
theorem fits_of_C {e : Nat} {α : Type} {d : Kd α} {w : World} {A : Option Addr} {l : List (List α)} (h : (Kd.slice e d).C w A l.length l) : l.length ≤ 9223372036854775807 ∧ ∀ r ∈ l, r.length ≤ 9223372036854775807 := by
  refine ⟨h.2.1, fun r hr => ?_⟩
  obtain ⟨j, hj, rfl⟩ := List.mem_iff_getElem.1 hr
  obtain ⟨ad, _, hc⟩ := h.2.2 (by omega)
  obtain ⟨c, _, hK, _⟩ := hc j _ (List.getElem?_eq_getElem hj)
  obtain ⟨A', c', _, _, hC⟩ := hK
  exact hC.2.1
end Go.Proofs.Ytfnopcbicceeaaa.Lib
