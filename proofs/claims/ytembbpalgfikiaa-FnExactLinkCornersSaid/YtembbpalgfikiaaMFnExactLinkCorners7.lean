/- The statement FnExactLinkCornersSaid, proved: part 7 of 7 (texts of this session and of the kit's print, put together and cut to what is used by a program of it). -/
import Derived.Test.YtembbpalgfikiaaMFnExactLinkCorners6
import Derived.Deep.Slices
import Derived.ChangeSame
import Derived.ChangeArms
import Derived.WideShapes
import Derived.Lib.SmallJoins
import Derived.ChangeShapes
import Derived.Test.YtembbpalgfikiaaRows
import Derived.WalkKit
import Derived.ProofKit
import Derived.OpenShut
import Derived.ShutString
import Derived.ChangeOld
import Derived.Below
import Derived.SizedLaws
import Derived.Carry
namespace Go.Proofs.Ytembbpalgfikiaa.P
open Go.RowKit Go.Proofs.YtembbpalgfikiaaW.PrintWords Go.Proofs.YtembbpalgfikiaaW.PrintLast Go.Proofs.YtembbpalgfikiaaW.PrintMore
attribute [local go_sem] Qa Qb Qz JA QI QJ Qc Qd
set_option linter.unusedVariables false
set_option linter.unusedSimpArgs false
open Go.Proofs.Ytembbpalgfikiaa.Lib
def ZJ.f (k : Nat) (l0 : List (List (qN))) (a1 : Int) : Option Bool := (ZL.f k l0 1048576).bind fun t2 => if t2 < 0 then some true else (qX.f k l0).bind fun t5 => (Zp.f k t5 a1).bind fun bt3 => (qX.f k l0).bind fun t12 => (ZX.f k t12 a1).bind fun bt5 => (qG.f k bt5.1 bt3.1).bind fun t19 => if t19 = true then if bt5.2 = bt3.2 then (qX.f k l0).bind fun t22 => (ZY.f k t12 t22).bind fun t25 => if t25 = true then (ZP.f k t12 1).bind fun bt12 => if bt12.1 < 0 then some false else (qG.f k bt5.1 bt3.1).bind fun t31 => if t31 = true then if bt5.2 = bt3.2 then (qf.f k bt5.1 1).bind fun bt17 => (qI.f k bt17.2 1).bind fun t37 => if t37 < 0 then some false else if t37 = bt17.1 then (qX.f k l0).bind fun t41 => (ZX.f k t41 a1).bind fun bt22 => (qG.f k bt22.1 bt3.1).bind fun t48 => if t48 = true then if bt22.2 = bt3.2 then (qI.f k bt17.2 1).bind fun t51 => if t51 < 0 then some false else if t51 = bt17.1 then some true else some false else some false else some false else some false else some false else some false else some false else some false else some false
set_option maxHeartbeats 8000000 in
set_option maxRecDepth 100000 in
theorem ZJ.calls (k : Nat) (A0 : Option Addr) (c0 : Nat) (l0 : List (List (qN))) (a1 : Int) (w : World) (hr0 : Kd.C (Kd.slice 118 QD) w A0 l0.length l0) (hc0 : l0.length ≤ c0) (h : ZJ.f k l0 a1 = some true) :
 Calls Try.prog 4 #[.agg #[.slice A0 l0.length c0], .int .i64 a1] w fun e w' => e = .returned (.bool true) ∧ Below w.heap.size w w' := by
 have hu28 := Try.underlying28
 have hu35 := Try.underlying35
 have HR0 := zA.mk hr0
 have HC0 := zA.mk hc0
 clear hr0 hc0
 have HB := zA.mk (yry w.heap.size w)
 have HT := zA.mk (yqy w.heap.size)
 have H := h
 clear h
 unfold ZJ.f at H
 obtain ⟨t2, H10, H⟩ := ydy.mp H
 have H1 := zA.mk H10
 clear H10
 by_cases cC3 : t2 < 0
 next =>
  have dC3 : decide (t2 < 0) = true := ygy cC3
  clear cC3 H
  go_enter Try.func4, Try.ntmps4
  try go_wp2_with (first | ((with_reducible refine zq (N := 2) rfl ?_); refine zv ?hg (N := 2) ?hd (cs := #[.slice A0 l0.length c0]) (t := 28) ?hr ?_; (case hd => rfl); (case hg => rfl); (case hr => first | (go_simp; done) | (go_simp; rfl)); intro g2 hg w1 hbox hb; have HNg2 := zA.mk (by rw [hg]; exact HT.out : w.heap.size ≤ g2); have HXg2 := zA.mk (show g2 + 1 ≤ w1.heap.size from qT hbox); have nHB := zA.mk (zN HB.out hb); have nHT := zA.mk (ZQ HT.out hb); clear HB HT  ; have HB := nHB; have HT := nHT; clear nHB nHT  ; clear HT; have HT := HXg2; clear HXg2; have BKg2 := zA.mk hbox; clear hg hbox hb; have hczg2 : w1.cell? ⟨g2, 0, none⟩ = some (.slice A0 l0.length c0) := (zL BKg2.out 0).trans rfl; have hfzg2 := zM BKg2.out 0) | ((with_reducible refine zb (f := 16) rfl ?_); refine qH (some 18) rfl rfl Try.func16 (by kernel_rfl) rfl #[.agg #[.slice A0 l0.length c0], .int .i64 1048576] rfl (by (try simp only [yiy, yjy, yky]); first | done | rfl | (simp only [yly, ymy]; rfl)) ?_; (with_reducible refine (ZL.calls k _ _ l0 1048576 t2 _ ?side1 ?side2 H1.out).mono ?_); (case side1 => exact Kd.qK HR0.out HB.out); (case side2 => exact HC0.out); rintro e w2 ⟨rfl, hb⟩; refine ⟨_, rfl, ?_⟩; (try clear hczg2 hfzg2); have nBg2 := zA.mk (zP (g := g2) (o := .cells #[.slice A0 l0.length c0] 28 (0, 0)) BKg2.out hb); have nHB := zA.mk (zN HB.out hb); have nHT := zA.mk (ZQ HT.out hb); clear HB HT  BKg2; have BKg2 := nBg2; have HB := nHB; have HT := nHT; clear nHB nHT  nBg2; (try clear hb); (try clear hnd); have hczg2 : w2.cell? ⟨g2, 0, none⟩ = some (.slice A0 l0.length c0) := (zL BKg2.out 0).trans rfl; have hfzg2 := zM BKg2.out 0))
  go_ret
  exact ⟨by first | rfl | (simp <;> rfl), HB.out⟩
 rw [if_neg cC3] at H
 have dC3 : decide (t2 < 0) = false := yhy cC3
 clear cC3
 obtain ⟨t5, H40, H⟩ := ydy.mp H
 have H4 := zA.mk H40
 clear H40
 obtain ⟨⟨t8, t10⟩, H70, H⟩ := ydy.mp H
 have H7 := zA.mk H70
 clear H70
 obtain ⟨t12, H110, H⟩ := ydy.mp H
 have H11 := zA.mk H110
 clear H110
 obtain ⟨⟨t15, t17⟩, H140, H⟩ := ydy.mp H
 have H14 := zA.mk H140
 clear H140
 obtain ⟨t19, H180, H⟩ := ydy.mp H
 obtain rfl : t19 = true := by cases t19 with | true => rfl | false => exact absurd H (by simp)
 replace H := H
 have H18 := zA.mk H180
 clear H180
 rw [if_pos rfl] at H
 have cC20 : t17 = t10 := by by_cases c_ : t17 = t10; exact c_; rw [if_neg c_] at H; cases H
 rw [if_pos cC20] at H
 have dC20 : (t17 != t10) = false := by rw [cC20]; exact bne_self_eq_false _
 clear cC20
 obtain ⟨t22, H210, H⟩ := ydy.mp H
 have H21 := zA.mk H210
 clear H210
 obtain ⟨t25, H240, H⟩ := ydy.mp H
 obtain rfl : t25 = true := by cases t25 with | true => rfl | false => exact absurd H (by simp)
 replace H := H
 have H24 := zA.mk H240
 clear H240
 rw [if_pos rfl] at H
 obtain ⟨⟨m27, y28⟩, H260, H⟩ := ydy.mp H
 have H26 := zA.mk H260
 clear H260
 dsimp only at H
 have cC29 : ¬ (m27 < 0) := fun c_ => by rw [if_pos c_] at H; cases H
 rw [if_neg cC29] at H
 have dC29 : decide (m27 < 0) = false := yhy cC29
 clear cC29
 obtain ⟨t31, H300, H⟩ := ydy.mp H
 obtain rfl : t31 = true := by cases t31 with | true => rfl | false => exact absurd H (by simp)
 replace H := H
 have H30 := zA.mk H300
 clear H300
 rw [if_pos rfl] at H
 have cC32 : t17 = t10 := by by_cases c_ : t17 = t10; exact c_; rw [if_neg c_] at H; cases H
 rw [if_pos cC32] at H
 have dC32 : (t17 != t10) = false := by rw [cC32]; exact bne_self_eq_false _
 clear cC32
 obtain ⟨⟨m34, y35⟩, H330, H⟩ := ydy.mp H
 have H33 := zA.mk H330
 clear H330
 dsimp only at H
 obtain ⟨t37, H360, H⟩ := ydy.mp H
 have H36 := zA.mk H360
 clear H360
 have cC38 : ¬ (t37 < 0) := fun c_ => by rw [if_pos c_] at H; cases H
 rw [if_neg cC38] at H
 have dC38 : decide (t37 < 0) = false := yhy cC38
 clear cC38
 have cC39 : t37 = m34 := by by_cases c_ : t37 = m34; exact c_; rw [if_neg c_] at H; cases H
 rw [if_pos cC39] at H
 have dC39 : (t37 != m34) = false := by rw [cC39]; exact bne_self_eq_false _
 clear cC39
 obtain ⟨t41, H400, H⟩ := ydy.mp H
 have H40 := zA.mk H400
 clear H400
 obtain ⟨⟨t44, t46⟩, H430, H⟩ := ydy.mp H
 have H43 := zA.mk H430
 clear H430
 obtain ⟨t48, H470, H⟩ := ydy.mp H
 obtain rfl : t48 = true := by cases t48 with | true => rfl | false => exact absurd H (by simp)
 replace H := H
 have H47 := zA.mk H470
 clear H470
 rw [if_pos rfl] at H
 have cC49 : t46 = t10 := by by_cases c_ : t46 = t10; exact c_; rw [if_neg c_] at H; cases H
 rw [if_pos cC49] at H
 have dC49 : (t46 != t10) = false := by rw [cC49]; exact bne_self_eq_false _
 clear cC49
 obtain ⟨t51, H500, H⟩ := ydy.mp H
 have H50 := zA.mk H500
 clear H500
 have cC52 : ¬ (t51 < 0) := fun c_ => by rw [if_pos c_] at H; cases H
 rw [if_neg cC52] at H
 have dC52 : decide (t51 < 0) = false := yhy cC52
 clear cC52
 have cC53 : t51 = m34 := by by_cases c_ : t51 = m34; exact c_; rw [if_neg c_] at H; cases H
 rw [if_pos cC53] at H
 have dC53 : (t51 != m34) = false := by rw [cC53]; exact bne_self_eq_false _
 clear cC53
 clear H
 go_enter Try.func4, Try.ntmps4
 try go_wp2_with (first | ((with_reducible refine zq (N := 2) rfl ?_); refine zv ?hg (N := 2) ?hd (cs := #[.slice A0 l0.length c0]) (t := 28) ?hr ?_; (case hd => rfl); (case hg => rfl); (case hr => first | (go_simp; done) | (go_simp; rfl)); intro g2 hg w1 hbox hb; have HNg2 := zA.mk (by rw [hg]; exact HT.out : w.heap.size ≤ g2); have HXg2 := zA.mk (show g2 + 1 ≤ w1.heap.size from qT hbox); have nHB := zA.mk (zN HB.out hb); have nHT := zA.mk (ZQ HT.out hb); clear HB HT  ; have HB := nHB; have HT := nHT; clear nHB nHT  ; clear HT; have HT := HXg2; clear HXg2; have BKg2 := zA.mk hbox; clear hg hbox hb; have hczg2 : w1.cell? ⟨g2, 0, none⟩ = some (.slice A0 l0.length c0) := (zL BKg2.out 0).trans rfl; have hfzg2 := zM BKg2.out 0) | ((with_reducible refine zb (f := 16) rfl ?_); refine qH (some 18) rfl rfl Try.func16 (by kernel_rfl) rfl #[.agg #[.slice A0 l0.length c0], .int .i64 1048576] rfl (by (try simp only [yiy, yjy, yky]); first | done | rfl | (simp only [yly, ymy]; rfl)) ?_; (with_reducible refine (ZL.calls k _ _ l0 1048576 t2 _ ?side1 ?side2 H1.out).mono ?_); (case side1 => exact Kd.qK HR0.out HB.out); (case side2 => exact HC0.out); rintro e w2 ⟨rfl, hb⟩; refine ⟨_, rfl, ?_⟩; (try clear hczg2 hfzg2); have nBg2 := zA.mk (zP (g := g2) (o := .cells #[.slice A0 l0.length c0] 28 (0, 0)) BKg2.out hb); have nHB := zA.mk (zN HB.out hb); have nHT := zA.mk (ZQ HT.out hb); clear HB HT  BKg2; have BKg2 := nBg2; have HB := nHB; have HT := nHT; clear nHB nHT  nBg2; (try clear hb); (try clear hnd); have hczg2 : w2.cell? ⟨g2, 0, none⟩ = some (.slice A0 l0.length c0) := (zL BKg2.out 0).trans rfl; have hfzg2 := zM BKg2.out 0) | ((with_reducible refine zb (f := 18) rfl ?_); refine qH (some 23) rfl rfl Try.func18 (by kernel_rfl) rfl #[.agg #[.slice A0 l0.length c0]] rfl (by (try simp only [yiy, yjy, yky]); first | done | rfl | (simp only [yly, ymy]; rfl)) ?_; (with_reducible refine (qX.calls k _ _ l0 t5 _ ?side1 ?side2 H4.out).mono ?_); (case side1 => exact Kd.qK HR0.out HB.out); (case side2 => exact HC0.out); rintro e w3 ⟨vo6, rfl, ho0, hb⟩; refine ⟨_, rfl, ?_⟩; (try clear hczg2 hfzg2); obtain ⟨loo6, hio6, hno6⟩ := ObS.made ho0 hb HT.out (zO HB.out); have nBg2 := zA.mk (zP (g := g2) (o := .cells #[.slice A0 l0.length c0] 28 (0, 0)) BKg2.out hb); have nHB := zA.mk (zN HB.out hb); have nHT := zA.mk (ZQ HT.out hb); clear HB HT  BKg2; have BKg2 := nBg2; have HB := nHB; have HT := nHT; clear nHB nHT  nBg2; have HNo6 := zA.mk hno6.1; clear HT; have HT := zA.mk hno6.2.1; have HOo6 := zA.mk hno6.2.2; clear hno6 ho0; obtain ⟨Ao6, co6, eeo6⟩ := HOo6.out.slice; subst eeo6; (try clear hb); (try clear hnd); have hczg2 : w3.cell? ⟨g2, 0, none⟩ = some (.slice A0 l0.length c0) := (zL BKg2.out 0).trans rfl; have hfzg2 := zM BKg2.out 0) | ((with_reducible refine zb (f := 17) rfl ?_); refine qH (some 25) rfl rfl Try.func17 (by kernel_rfl) rfl #[.agg #[.slice Ao6 t5.length co6], .int .i64 a1] rfl (by (try simp only [yiy, yjy, yky]); first | done | rfl | (simp only [yly, ymy]; rfl)) ?_; (with_reducible refine (Zp.calls k _ _ t5 a1 t8 t10 _ ?side1 ?side2 H7.out).mono ?_); (case side1 => exact (ObS.reads HOo6.out).2.2); (case side2 => exact ObS.room HOo6.out); rintro e w4 ⟨vo9, rfl, ho0, hb⟩; refine ⟨_, rfl, ?_⟩; (try clear hczg2 hfzg2); obtain ⟨loo9, hio9, hno9⟩ := ObS.made ho0 hb HT.out (zO HB.out); have nOo6 := zA.mk (ObS.below HOo6.out hb); have nBg2 := zA.mk (zP (g := g2) (o := .cells #[.slice A0 l0.length c0] 28 (0, 0)) BKg2.out hb); have nHB := zA.mk (zN HB.out hb); have nHT := zA.mk (ZQ HT.out hb); clear HB HT HOo6 BKg2; have HOo6 := nOo6; have BKg2 := nBg2; have HB := nHB; have HT := nHT; clear nHB nHT nOo6 nBg2; have HNo9 := zA.mk hno9.1; clear HT; have HT := zA.mk hno9.2.1; have HOo9 := zA.mk hno9.2.2; clear hno9 ho0; obtain ⟨Ao9, co9, eeo9⟩ := HOo9.out.slice; subst eeo9; (try clear hb); (try clear hnd); have hczg2 : w4.cell? ⟨g2, 0, none⟩ = some (.slice A0 l0.length c0) := (zL BKg2.out 0).trans rfl; have hfzg2 := zM BKg2.out 0) | ((with_reducible refine zb (f := 18) rfl ?_); refine qH (some 29) rfl rfl Try.func18 (by kernel_rfl) rfl #[.agg #[.slice A0 l0.length c0]] rfl (by (try simp only [yiy, yjy, yky]); first | done | rfl | (simp only [yly, ymy]; rfl)) ?_; (with_reducible refine (qX.calls k _ _ l0 t12 _ ?side1 ?side2 H11.out).mono ?_); (case side1 => exact Kd.qK HR0.out HB.out); (case side2 => exact HC0.out); rintro e w5 ⟨vo13, rfl, ho0, hb⟩; refine ⟨_, rfl, ?_⟩; (try clear hczg2 hfzg2); obtain ⟨loo13, hio13, hno13⟩ := ObS.made ho0 hb HT.out (zO HB.out); have nOo6 := zA.mk (ObS.below HOo6.out hb); have nOo9 := zA.mk (ObS.below HOo9.out hb); have nBg2 := zA.mk (zP (g := g2) (o := .cells #[.slice A0 l0.length c0] 28 (0, 0)) BKg2.out hb); have nHB := zA.mk (zN HB.out hb); have nHT := zA.mk (ZQ HT.out hb); clear HB HT HOo6 HOo9 BKg2; have HOo6 := nOo6; have HOo9 := nOo9; have BKg2 := nBg2; have HB := nHB; have HT := nHT; clear nHB nHT nOo6 nOo9 nBg2; have HNo13 := zA.mk hno13.1; clear HT; have HT := zA.mk hno13.2.1; have HOo13 := zA.mk hno13.2.2; clear hno13 ho0; obtain ⟨Ao13, co13, eeo13⟩ := HOo13.out.slice; subst eeo13; (try clear hb); (try clear hnd); have hczg2 : w5.cell? ⟨g2, 0, none⟩ = some (.slice A0 l0.length c0) := (zL BKg2.out 0).trans rfl; have hfzg2 := zM BKg2.out 0) | ((with_reducible refine zq (N := 8) rfl ?_); refine zv ?hg (N := 8) ?hd (cs := #[.slice none 0 0]) (t := 35) ?hr ?_; (case hd => rfl); (case hg => rfl); (case hr => first | (go_simp; done) | (go_simp; rfl)); intro g8 hg w6 hbox hb; (try clear hczg2 hfzg2); have HNg8 := zA.mk (by rw [hg]; exact HT.out : hio13 ≤ g8); have HXg8 := zA.mk (show g8 + 1 ≤ w6.heap.size from qT hbox); have nOo6 := zA.mk (ObS.below HOo6.out hb); have nOo9 := zA.mk (ObS.below HOo9.out hb); have nOo13 := zA.mk (ObS.below HOo13.out hb); have nBg2 := zA.mk (zP (g := g2) (o := .cells #[.slice A0 l0.length c0] 28 (0, 0)) BKg2.out hb); have nHB := zA.mk (zN HB.out hb); have nHT := zA.mk (ZQ HT.out hb); clear HB HT HOo6 HOo9 HOo13 BKg2; have HOo6 := nOo6; have HOo9 := nOo9; have HOo13 := nOo13; have BKg2 := nBg2; have HB := nHB; have HT := nHT; clear nHB nHT nOo6 nOo9 nOo13 nBg2; clear HT; have HT := HXg8; clear HXg8; have BKg8 := zA.mk hbox; clear hg hbox hb; have hnbg8_g2 : g8 ≠ g2 := (by have := HNg2.out; have := HNo6.out; have := HNo9.out; have := HNo13.out; have := HNg8.out; omega); have hnbg2_g8 : g2 ≠ g8 := (by have := HNg2.out; have := HNo6.out; have := HNo9.out; have := HNo13.out; have := HNg8.out; omega); have hczg2 : w6.cell? ⟨g2, 0, none⟩ = some (.slice A0 l0.length c0) := (zL BKg2.out 0).trans rfl; have hfzg2 := zM BKg2.out 0; have hczg8 : w6.cell? ⟨g8, 0, none⟩ = some (.slice none 0 0) := (zL BKg8.out 0).trans rfl; have hfzg8 := zM BKg8.out 0) | ((with_reducible refine zb (f := 19) rfl ?_); refine qH (some 33) rfl rfl Try.func19 (by kernel_rfl) rfl #[.agg #[.slice Ao13 t12.length co13], .int .i64 a1] rfl (by (try simp only [yiy, yjy, yky]); first | done | rfl | (simp only [yly, ymy]; rfl)) ?_; (with_reducible refine (ZX.calls k _ _ t12 a1 t15 t17 _ ?side1 ?side2 H14.out).mono ?_); (case side1 => exact (ObS.reads (ObS.far (g := g8) (i := 0) HOo13.out (by have := HNg2.out; have := HNo6.out; have := HNo9.out; have := HNo13.out; have := HNg8.out; omega) _)).2.2); (case side2 => exact ObS.room HOo13.out); rintro e w7 ⟨vo16, rfl, ho0, hb⟩; refine ⟨_, rfl, ?_⟩; (try clear hczg2 hfzg2 hczg8 hfzg8); obtain ⟨loo16, hio16, hno16⟩ := ObS.made ho0 hb (zEX HT.out) (zO (zF HB.out (show w.heap.size ≤ g8 from (by have := HNg2.out; have := HNo6.out; have := HNo9.out; have := HNo13.out; have := HNg8.out; omega)))); have nOo6 := zA.mk (ObS.below (ObS.far (g := g8) (i := 0) HOo6.out (by have := HNg2.out; have := HNo6.out; have := HNo9.out; have := HNo13.out; have := HNg8.out; omega) _) hb); have nOo9 := zA.mk (ObS.below (ObS.far (g := g8) (i := 0) HOo9.out (by have := HNg2.out; have := HNo6.out; have := HNo9.out; have := HNo13.out; have := HNg8.out; omega) _) hb); have nOo13 := zA.mk (ObS.below (ObS.far (g := g8) (i := 0) HOo13.out (by have := HNg2.out; have := HNo6.out; have := HNo9.out; have := HNo13.out; have := HNg8.out; omega) _) hb); have nBg2 := zA.mk (zP (g := g2) (o := .cells #[.slice A0 l0.length c0] 28 (0, 0)) (qJ (p := ⟨g8, 0, none⟩) BKg2.out (show g2 ≠ g8 from (by have := HNg2.out; have := HNo6.out; have := HNo9.out; have := HNo13.out; have := HNg8.out; omega)) _) hb); have nBg8 := zA.mk (zP (g := g8) (o := .cells #[.slice Ao13 t12.length co13] 35 (0, 0)) (qa (cs := #[.slice none 0 0]) BKg8.out 0 _ rfl) hb); have nHB := zA.mk (zN (zF HB.out (show w.heap.size ≤ g8 from (by have := HNg2.out; have := HNo6.out; have := HNo9.out; have := HNo13.out; have := HNg8.out; omega))) hb); have nHT := zA.mk (ZQ (zEX HT.out) hb); clear HB HT HOo6 HOo9 HOo13 BKg2 BKg8; have HOo6 := nOo6; have HOo9 := nOo9; have HOo13 := nOo13; have BKg2 := nBg2; have BKg8 := nBg8; have HB := nHB; have HT := nHT; clear nHB nHT nOo6 nOo9 nOo13 nBg2 nBg8; have HNo16 := zA.mk hno16.1; clear HT; have HT := zA.mk hno16.2.1; have HOo16 := zA.mk hno16.2.2; clear hno16 ho0; obtain ⟨Ao16, co16, eeo16⟩ := HOo16.out.slice; subst eeo16; (try clear hb); (try clear hnd); have hczg2 : w7.cell? ⟨g2, 0, none⟩ = some (.slice A0 l0.length c0) := (zL BKg2.out 0).trans rfl; have hfzg2 := zM BKg2.out 0; have hczg8 : w7.cell? ⟨g8, 0, none⟩ = some (.slice Ao13 t12.length co13) := (zL BKg8.out 0).trans rfl; have hfzg8 := zM BKg8.out 0) | ((with_reducible refine zb (f := 20) rfl ?_); refine qH (some 38) rfl rfl Try.func20 (by kernel_rfl) rfl #[.slice Ao16 t15.length co16, .slice Ao9 t8.length co9] rfl (by (try simp only [yiy, yjy, yky]); first | done | rfl | (simp only [yly, ymy]; rfl)) ?_; (with_reducible refine (qG.calls k _ _ t15 _ _ t8 true _ ?side1 ?side2 ?side3 ?side4 H18.out).mono ?_); (case side1 => exact (ObS.reads HOo16.out).2.2); (case side2 => exact ObS.room HOo16.out); (case side3 => exact (ObS.reads HOo9.out).2.2); (case side4 => exact ObS.room HOo9.out); rintro e w8 ⟨rfl, ⟨nd, hnd⟩⟩; refine ⟨_, rfl, ?_⟩; have hb := QK hnd; (try clear hczg2 hfzg2 hczg8 hfzg8); have nOo6 := zA.mk (ObS.below HOo6.out hb); have nOo9 := zA.mk (ObS.below HOo9.out hb); have nOo13 := zA.mk (ObS.below HOo13.out hb); have nOo16 := zA.mk (ObS.below HOo16.out hb); have nBg2 := zA.mk (zP (g := g2) (o := .cells #[.slice A0 l0.length c0] 28 (0, 0)) BKg2.out hb); have nBg8 := zA.mk (zP (g := g8) (o := .cells #[.slice Ao13 t12.length co13] 35 (0, 0)) BKg8.out hb); have nHB := zA.mk (zN HB.out hb); have nHT := zA.mk (ZQ HT.out hb); clear HB HT HOo6 HOo9 HOo13 HOo16 BKg2 BKg8; have HOo6 := nOo6; have HOo9 := nOo9; have HOo13 := nOo13; have HOo16 := nOo16; have BKg2 := nBg2; have BKg8 := nBg8; have HB := nHB; have HT := nHT; clear nHB nHT nOo6 nOo9 nOo13 nOo16 nBg2 nBg8; (try clear hb); (try clear hnd); have hczg2 : w8.cell? ⟨g2, 0, none⟩ = some (.slice A0 l0.length c0) := (zL BKg2.out 0).trans rfl; have hfzg2 := zM BKg2.out 0; have hczg8 : w8.cell? ⟨g8, 0, none⟩ = some (.slice Ao13 t12.length co13) := (zL BKg8.out 0).trans rfl; have hfzg8 := zM BKg8.out 0))
 (try clear hczg2 hfzg2 hczg8 hfzg8)
 have nOo6 := zA.mk (ObS.drew HOo6.out)
 have nOo9 := zA.mk (ObS.drew HOo9.out)
 have nOo13 := zA.mk (ObS.drew HOo13.out)
 have nOo16 := zA.mk (ObS.drew HOo16.out)
 have nBg2 := zA.mk (zJ BKg2.out)
 have nBg8 := zA.mk (zJ BKg8.out)
 have nHB := zA.mk (zD HB.out)
 have nHT := zA.mk (zFK HT.out)
 clear HB HT HOo6 HOo9 HOo13 HOo16 BKg2 BKg8
 have HOo6 := nOo6
 have HOo9 := nOo9
 have HOo13 := nOo13
 have HOo16 := nOo16
 have BKg2 := nBg2
 have BKg8 := nBg8
 have HB := nHB
 have HT := nHT
 clear nHB nHT nOo6 nOo9 nOo13 nOo16 nBg2 nBg8
 refine Zy (n := 5) (S := fun w' => w'.cell? ⟨g8, 0, none⟩ = some (.slice Ao13 t12.length co13) ∧ w'.cell? ⟨g2, 0, none⟩ = some (.slice A0 l0.length c0)) (ds := []) #[false, false, false, false, false] (by kernel_rfl) rfl rfl ⟨(zL BKg8.out 0).trans rfl, (zL BKg2.out 0).trans rfl⟩ (fun hHeld => ?_)
 generalize hdr_ : World.drew _ = w9 at HOo6 HOo9 HOo13 HOo16 BKg2 BKg8 HB HT hHeld ⊢
 (try clear hdr_)
 refine qw (i := 0) (N := some 45) (v := ?_) (a' := ?_) #[true, false, false, false, false] rfl rfl (by kernel_rfl) (fun _ _ _ h => h) (Or.inl ⟨by rfl, ?_⟩) hHeld ?_ ?_
 rotate_left
 next =>
  rintro w' ⟨s0, s1⟩
  go_simp
  with_reducible rfl
 rotate_left
 next =>
  simp only [Act.put, yay, yby, ycy, zX, zY]
  rfl
 refine qw (i := 1) (N := some 46) (v := ?_) (a' := ?_) #[true, true, false, false, false] rfl rfl (by kernel_rfl) (fun _ _ _ h => h) (Or.inl ⟨by rfl, ?_⟩) hHeld ?_ ?_
 rotate_left
 next =>
  rintro w' ⟨s0, s1⟩
  go_simp
  with_reducible rfl
 rotate_left
 next =>
  simp only [Act.put, yay, yby, ycy, zX, zY]
  rfl
 refine zA0 (i := 2) (N := some 47) #[true, true, true, false, false] rfl rfl (by kernel_rfl) (by decide) (fun K hK => ?_)
 refine Qj Try.func18 (by kernel_rfl) rfl #[.agg #[.slice A0 l0.length c0]] (by rfl) rfl rfl (by (try simp only [yiy, yjy, yky]); first | done | rfl | (simp only [yly, ymy]; rfl)) ?_
 with_reducible refine (qX.calls k _ _ l0 t22 _ ?side1 ?side2 H21.out).mono ?_
 (case side1 => exact Kd.qK HR0.out HB.out)
 (case side2 => exact HC0.out)
 rintro e w10 ⟨vo23, rfl, ho0, hb⟩
 refine ⟨_, rfl, ?_⟩
 (try clear hczg2 hfzg2 hczg8 hfzg8)
 obtain ⟨loo23, hio23, hno23⟩ := ObS.made ho0 hb HT.out (zO HB.out)
 have nOo6 := zA.mk (ObS.below HOo6.out hb)
 have nOo9 := zA.mk (ObS.below HOo9.out hb)
 have nOo13 := zA.mk (ObS.below HOo13.out hb)
 have nOo16 := zA.mk (ObS.below HOo16.out hb)
 have nBg2 := zA.mk (zP (g := g2) (o := .cells #[.slice A0 l0.length c0] 28 (0, 0)) BKg2.out hb)
 have nBg8 := zA.mk (zP (g := g8) (o := .cells #[.slice Ao13 t12.length co13] 35 (0, 0)) BKg8.out hb)
 have nHB := zA.mk (zN HB.out hb)
 have nHT := zA.mk (ZQ HT.out hb)
 clear HB HT HOo6 HOo9 HOo13 HOo16 BKg2 BKg8
 have HOo6 := nOo6
 have HOo9 := nOo9
 have HOo13 := nOo13
 have HOo16 := nOo16
 have BKg2 := nBg2
 have BKg8 := nBg8
 have HB := nHB
 have HT := nHT
 clear nHB nHT nOo6 nOo9 nOo13 nOo16 nBg2 nBg8
 have HNo23 := zA.mk hno23.1
 clear HT
 have HT := zA.mk hno23.2.1
 have HOo23 := zA.mk hno23.2.2
 clear hno23 ho0
 obtain ⟨Ao23, co23, eeo23⟩ := HOo23.out.slice
 subst eeo23
 (try clear hb)
 (try clear hnd)
 refine hK.out _ _ ⟨(zL BKg8.out 0).trans rfl, (zL BKg2.out 0).trans rfl⟩ (fun hHeld => ?_)
 clear hK K
 refine QM (a' := ?_) ?_ ?_
 rotate_left
 next =>
  show Act.put _ (some 47) _ = _
  simp only [Act.put, yay, yby, ycy, zX, zY]
  rfl
 refine zA0 (i := 3) (N := some 48) #[true, true, true, true, false] rfl rfl (by kernel_rfl) (by decide) (fun K hK => ?_)
 refine Qj Try.func21 (by kernel_rfl) rfl #[.agg #[.slice Ao13 t12.length co13], .agg #[.slice Ao23 t22.length co23]] (by rfl) rfl rfl (by (try simp only [yiy, yjy, yky]); first | done | rfl | (simp only [yly, ymy]; rfl)) ?_
 with_reducible refine (ZY.calls k _ _ t12 _ _ t22 true _ ?side1 ?side2 ?side3 ?side4 H24.out).mono ?_
 (case side1 => exact (ObS.reads HOo13.out).2.2)
 (case side2 => exact ObS.room HOo13.out)
 (case side3 => exact (ObS.reads HOo23.out).2.2)
 (case side4 => exact ObS.room HOo23.out)
 rintro e w11 ⟨rfl, hb⟩
 refine ⟨_, rfl, ?_⟩
 (try clear hczg2 hfzg2 hczg8 hfzg8)
 have nOo6 := zA.mk (ObS.below HOo6.out hb)
 have nOo9 := zA.mk (ObS.below HOo9.out hb)
 have nOo13 := zA.mk (ObS.below HOo13.out hb)
 have nOo16 := zA.mk (ObS.below HOo16.out hb)
 have nOo23 := zA.mk (ObS.below HOo23.out hb)
 have nBg2 := zA.mk (zP (g := g2) (o := .cells #[.slice A0 l0.length c0] 28 (0, 0)) BKg2.out hb)
 have nBg8 := zA.mk (zP (g := g8) (o := .cells #[.slice Ao13 t12.length co13] 35 (0, 0)) BKg8.out hb)
 have nHB := zA.mk (zN HB.out hb)
 have nHT := zA.mk (ZQ HT.out hb)
 clear HB HT HOo6 HOo9 HOo13 HOo16 HOo23 BKg2 BKg8
 have HOo6 := nOo6
 have HOo9 := nOo9
 have HOo13 := nOo13
 have HOo16 := nOo16
 have HOo23 := nOo23
 have BKg2 := nBg2
 have BKg8 := nBg8
 have HB := nHB
 have HT := nHT
 clear nHB nHT nOo6 nOo9 nOo13 nOo16 nOo23 nBg2 nBg8
 (try clear hb)
 (try clear hnd)
 refine hK.out _ _ ⟨(zL BKg8.out 0).trans rfl, (zL BKg2.out 0).trans rfl⟩ (fun hHeld => ?_)
 clear hK K
 refine QM (a' := ?_) ?_ ?_
 rotate_left
 next =>
  show Act.put _ (some 48) _ = _
  simp only [Act.put, yay, yby, ycy, zX, zY]
  rfl
 refine zf (i := 4) (N := some 49) (v := ?_) (a' := ?_) #[true, true, true, true, true] rfl rfl (by kernel_rfl) (fun _ _ _ h => h) (Or.inl ⟨by rfl, ?_⟩) ?_ ?_
 rotate_left
 next =>
  intro w'
  go_simp
  with_reducible rfl
 rotate_left
 next =>
  simp only [Act.put, yay, yby, ycy, zX, zY]
  rfl
 refine Qu (by kernel_rfl) ?_
 have hczg2 : w11.cell? ⟨g2, 0, none⟩ = some (.slice A0 l0.length c0) := (zL BKg2.out 0).trans rfl
 have hfzg2 := zM BKg2.out 0
 have hczg8 : w11.cell? ⟨g8, 0, none⟩ = some (.slice Ao13 t12.length co13) := (zL BKg8.out 0).trans rfl
 have hfzg8 := zM BKg8.out 0
 try go_wp2_with (first | ((with_reducible refine zb (f := 22) rfl ?_); refine qH (some 52) rfl rfl Try.func22 (by kernel_rfl) rfl #[.agg #[.slice Ao13 t12.length co13], .int .i64 1] rfl (by (try simp only [yiy, yjy, yky]); first | done | rfl | (simp only [yly, ymy]; rfl)) ?_; (with_reducible refine (ZP.calls k (fun k_ => loo13 ≤ k_ ∧ k_ < hio13) (.slice Ao13 t12.length co13) t12 1 m27 y28 w _ HB.out (ObS.row HOo13.out) H26.out).mono ?_); rintro e w12 ⟨rfl, hy, hb, hk0⟩; refine ⟨_, rfl, ?_⟩; have hk := hk0; have nM := zA.mk (ObS.marked HOo13.out hy hk.1); (try clear hczg2 hfzg2 hczg8 hfzg8); have nOo6 := zA.mk (ObS.kept HOo6.out hk (by have := HNg2.out; have := HNo6.out; have := HNo9.out; have := HNo13.out; have := HNg8.out; have := HNo16.out; have := HNo23.out; omega)); have nOo9 := zA.mk (ObS.kept HOo9.out hk (by have := HNg2.out; have := HNo6.out; have := HNo9.out; have := HNo13.out; have := HNg8.out; have := HNo16.out; have := HNo23.out; omega)); have nOo16 := zA.mk (ObS.kept HOo16.out hk (by have := HNg2.out; have := HNo6.out; have := HNo9.out; have := HNo13.out; have := HNg8.out; have := HNo16.out; have := HNo23.out; omega)); have nOo23 := zA.mk (ObS.kept HOo23.out hk (by have := HNg2.out; have := HNo6.out; have := HNo9.out; have := HNo13.out; have := HNg8.out; have := HNo16.out; have := HNo23.out; omega)); have nBg2 := zA.mk (Zf (g := g2) (o := .cells #[.slice A0 l0.length c0] 28 (0, 0)) BKg2.out hk (fun h_ => by have h1_ := h_.1; have h2_ := h_.2; have := HNg2.out; have := HNo6.out; have := HNo9.out; have := HNo13.out; have := HNg8.out; have := HNo16.out; have := HNo23.out; omega)); have nBg8 := zA.mk (Zf (g := g8) (o := .cells #[.slice Ao13 t12.length co13] 35 (0, 0)) BKg8.out hk (fun h_ => by have h1_ := h_.1; have h2_ := h_.2; have := HNg2.out; have := HNo6.out; have := HNo9.out; have := HNo13.out; have := HNg8.out; have := HNo16.out; have := HNo23.out; omega)); have nHT := zA.mk (Nat.le_trans HT.out hk.1); clear HB HT HOo6 HOo9 HOo13 HOo16 HOo23 BKg2 BKg8; have HOo6 := nOo6; have HOo9 := nOo9; have HOo13 := nM; have HOo16 := nOo16; have HOo23 := nOo23; have BKg2 := nBg2; have BKg8 := nBg8; have HB := zA.mk hb; have HT := nHT; (try clear hy); clear hb hk0 hk nM nHT nOo6 nOo9 nOo16 nOo23 nBg2 nBg8; have hczg2 : w12.cell? ⟨g2, 0, none⟩ = some (.slice A0 l0.length c0) := (zL BKg2.out 0).trans rfl; have hfzg2 := zM BKg2.out 0; have hczg8 : w12.cell? ⟨g8, 0, none⟩ = some (.slice Ao13 t12.length co13) := (zL BKg8.out 0).trans rfl; have hfzg8 := zM BKg8.out 0))
 try go_wp2_with (first | (go_at_call 20; (with_reducible refine (qG.calls k _ _ t15 _ _ t8 true _ ?side1 ?side2 ?side3 ?side4 H30.out).mono ?_); (case side1 => exact (ObS.reads HOo16.out).2.2); (case side2 => exact ObS.room HOo16.out); (case side3 => exact (ObS.reads HOo9.out).2.2); (case side4 => exact ObS.room HOo9.out); rintro e w13 ⟨rfl, ⟨nd, hnd⟩⟩; have hb := QK hnd; (try clear hczg2 hfzg2 hczg8 hfzg8); have nOo6 := zA.mk (ObS.below HOo6.out hb); have nOo9 := zA.mk (ObS.below HOo9.out hb); have nOo13 := zA.mk (ObS.below HOo13.out hb); have nOo16 := zA.mk (ObS.below HOo16.out hb); have nOo23 := zA.mk (ObS.below HOo23.out hb); have nBg2 := zA.mk (zP (g := g2) (o := .cells #[.slice A0 l0.length c0] 28 (0, 0)) BKg2.out hb); have nBg8 := zA.mk (zP (g := g8) (o := .cells #[.slice Ao13 t12.length co13] 35 (0, 0)) BKg8.out hb); have nHB := zA.mk (zN HB.out hb); have nHT := zA.mk (ZQ HT.out hb); clear HB HT HOo6 HOo9 HOo13 HOo16 HOo23 BKg2 BKg8; have HOo6 := nOo6; have HOo9 := nOo9; have HOo13 := nOo13; have HOo16 := nOo16; have HOo23 := nOo23; have BKg2 := nBg2; have BKg8 := nBg8; have HB := nHB; have HT := nHT; clear nHB nHT nOo6 nOo9 nOo13 nOo16 nOo23 nBg2 nBg8; (try clear hb); (try clear hnd); have hczg2 : w13.cell? ⟨g2, 0, none⟩ = some (.slice A0 l0.length c0) := (zL BKg2.out 0).trans rfl; have hfzg2 := zM BKg2.out 0; have hczg8 : w13.cell? ⟨g8, 0, none⟩ = some (.slice Ao13 t12.length co13) := (zL BKg8.out 0).trans rfl; have hfzg8 := zM BKg8.out 0) | ((with_reducible refine zb (f := 23) rfl ?_); refine qH (some 68) rfl rfl Try.func23 (by kernel_rfl) rfl #[.slice Ao16 t15.length co16, .int .i64 1] rfl (by (try simp only [yiy, yjy, yky]); first | done | rfl | (simp only [yly, ymy]; rfl)) ?_; (with_reducible refine (qf.calls k (fun k_ => loo16 ≤ k_ ∧ k_ < hio16) (.slice Ao16 t15.length co16) t15 1 m34 y35 w _ HB.out (ObS.row HOo16.out) H33.out).mono ?_); rintro e w14 ⟨rfl, hy, hb, hk0⟩; refine ⟨_, rfl, ?_⟩; have hk := hk0; have nM := zA.mk (ObS.marked HOo16.out hy hk.1); (try clear hczg2 hfzg2 hczg8 hfzg8); have nOo6 := zA.mk (ObS.kept HOo6.out hk (by have := HNg2.out; have := HNo6.out; have := HNo9.out; have := HNo13.out; have := HNg8.out; have := HNo16.out; have := HNo23.out; omega)); have nOo9 := zA.mk (ObS.kept HOo9.out hk (by have := HNg2.out; have := HNo6.out; have := HNo9.out; have := HNo13.out; have := HNg8.out; have := HNo16.out; have := HNo23.out; omega)); have nOo13 := zA.mk (ObS.kept HOo13.out hk (by have := HNg2.out; have := HNo6.out; have := HNo9.out; have := HNo13.out; have := HNg8.out; have := HNo16.out; have := HNo23.out; omega)); have nOo23 := zA.mk (ObS.kept HOo23.out hk (by have := HNg2.out; have := HNo6.out; have := HNo9.out; have := HNo13.out; have := HNg8.out; have := HNo16.out; have := HNo23.out; omega)); have nBg2 := zA.mk (Zf (g := g2) (o := .cells #[.slice A0 l0.length c0] 28 (0, 0)) BKg2.out hk (fun h_ => by have h1_ := h_.1; have h2_ := h_.2; have := HNg2.out; have := HNo6.out; have := HNo9.out; have := HNo13.out; have := HNg8.out; have := HNo16.out; have := HNo23.out; omega)); have nBg8 := zA.mk (Zf (g := g8) (o := .cells #[.slice Ao13 t12.length co13] 35 (0, 0)) BKg8.out hk (fun h_ => by have h1_ := h_.1; have h2_ := h_.2; have := HNg2.out; have := HNo6.out; have := HNo9.out; have := HNo13.out; have := HNg8.out; have := HNo16.out; have := HNo23.out; omega)); have nHT := zA.mk (Nat.le_trans HT.out hk.1); clear HB HT HOo6 HOo9 HOo13 HOo16 HOo23 BKg2 BKg8; have HOo6 := nOo6; have HOo9 := nOo9; have HOo13 := nOo13; have HOo16 := nM; have HOo23 := nOo23; have BKg2 := nBg2; have BKg8 := nBg8; have HB := zA.mk hb; have HT := nHT; (try clear hy); clear hb hk0 hk nM nHT nOo6 nOo9 nOo13 nOo23 nBg2 nBg8; have hczg2 : w14.cell? ⟨g2, 0, none⟩ = some (.slice A0 l0.length c0) := (zL BKg2.out 0).trans rfl; have hfzg2 := zM BKg2.out 0; have hczg8 : w14.cell? ⟨g8, 0, none⟩ = some (.slice Ao13 t12.length co13) := (zL BKg8.out 0).trans rfl; have hfzg8 := zM BKg8.out 0) | ((with_reducible refine zb (f := 24) rfl ?_); refine qH (some 71) rfl rfl Try.func24 (by kernel_rfl) rfl #[.slice Ao16 y35.length co16, .int .i64 1] rfl (by (try simp only [yiy, yjy, yky]); first | done | (rw [show y35.length = t15.length from (ObS.reads HOo16.out).1.symm] <;> rfl) | rfl | (simp only [yly, ymy]; rfl)) ?_; (with_reducible refine (qI.calls k _ _ y35 1 t37 _ ?side1 ?side2 H36.out).mono ?_); (case side1 => exact (ObS.reads HOo16.out).2.2); (case side2 => exact ObS.room HOo16.out); rintro e w15 ⟨rfl, ⟨nd, hnd⟩⟩; refine ⟨_, rfl, ?_⟩; have hb := QK hnd; (try clear hczg2 hfzg2 hczg8 hfzg8); have nOo6 := zA.mk (ObS.below HOo6.out hb); have nOo9 := zA.mk (ObS.below HOo9.out hb); have nOo13 := zA.mk (ObS.below HOo13.out hb); have nOo16 := zA.mk (ObS.below HOo16.out hb); have nOo23 := zA.mk (ObS.below HOo23.out hb); have nBg2 := zA.mk (zP (g := g2) (o := .cells #[.slice A0 l0.length c0] 28 (0, 0)) BKg2.out hb); have nBg8 := zA.mk (zP (g := g8) (o := .cells #[.slice Ao13 t12.length co13] 35 (0, 0)) BKg8.out hb); have nHB := zA.mk (zN HB.out hb); have nHT := zA.mk (ZQ HT.out hb); clear HB HT HOo6 HOo9 HOo13 HOo16 HOo23 BKg2 BKg8; have HOo6 := nOo6; have HOo9 := nOo9; have HOo13 := nOo13; have HOo16 := nOo16; have HOo23 := nOo23; have BKg2 := nBg2; have BKg8 := nBg8; have HB := nHB; have HT := nHT; clear nHB nHT nOo6 nOo9 nOo13 nOo16 nOo23 nBg2 nBg8; (try clear hb); (try clear hnd); have hczg2 : w15.cell? ⟨g2, 0, none⟩ = some (.slice A0 l0.length c0) := (zL BKg2.out 0).trans rfl; have hfzg2 := zM BKg2.out 0; have hczg8 : w15.cell? ⟨g8, 0, none⟩ = some (.slice Ao13 t12.length co13) := (zL BKg8.out 0).trans rfl; have hfzg8 := zM BKg8.out 0) | ((with_reducible refine zb (f := 18) rfl ?_); refine qH (some 79) rfl rfl Try.func18 (by kernel_rfl) rfl #[.agg #[.slice A0 l0.length c0]] rfl (by (try simp only [yiy, yjy, yky]); first | done | rfl | (simp only [yly, ymy]; rfl)) ?_; (with_reducible refine (qX.calls k _ _ l0 t41 _ ?side1 ?side2 H40.out).mono ?_); (case side1 => exact Kd.qK HR0.out HB.out); (case side2 => exact HC0.out); rintro e w16 ⟨vo42, rfl, ho0, hb⟩; refine ⟨_, rfl, ?_⟩; (try clear hczg2 hfzg2 hczg8 hfzg8); obtain ⟨loo42, hio42, hno42⟩ := ObS.made ho0 hb HT.out (zO HB.out); have nOo6 := zA.mk (ObS.below HOo6.out hb); have nOo9 := zA.mk (ObS.below HOo9.out hb); have nOo13 := zA.mk (ObS.below HOo13.out hb); have nOo16 := zA.mk (ObS.below HOo16.out hb); have nOo23 := zA.mk (ObS.below HOo23.out hb); have nBg2 := zA.mk (zP (g := g2) (o := .cells #[.slice A0 l0.length c0] 28 (0, 0)) BKg2.out hb); have nBg8 := zA.mk (zP (g := g8) (o := .cells #[.slice Ao13 t12.length co13] 35 (0, 0)) BKg8.out hb); have nHB := zA.mk (zN HB.out hb); have nHT := zA.mk (ZQ HT.out hb); clear HB HT HOo6 HOo9 HOo13 HOo16 HOo23 BKg2 BKg8; have HOo6 := nOo6; have HOo9 := nOo9; have HOo13 := nOo13; have HOo16 := nOo16; have HOo23 := nOo23; have BKg2 := nBg2; have BKg8 := nBg8; have HB := nHB; have HT := nHT; clear nHB nHT nOo6 nOo9 nOo13 nOo16 nOo23 nBg2 nBg8; have HNo42 := zA.mk hno42.1; clear HT; have HT := zA.mk hno42.2.1; have HOo42 := zA.mk hno42.2.2; clear hno42 ho0; obtain ⟨Ao42, co42, eeo42⟩ := HOo42.out.slice; subst eeo42; (try clear hb); (try clear hnd); have hczg2 : w16.cell? ⟨g2, 0, none⟩ = some (.slice A0 l0.length c0) := (zL BKg2.out 0).trans rfl; have hfzg2 := zM BKg2.out 0; have hczg8 : w16.cell? ⟨g8, 0, none⟩ = some (.slice Ao13 t12.length co13) := (zL BKg8.out 0).trans rfl; have hfzg8 := zM BKg8.out 0) | ((with_reducible refine zb (f := 19) rfl ?_); refine qH (some 81) rfl rfl Try.func19 (by kernel_rfl) rfl #[.agg #[.slice Ao42 t41.length co42], .int .i64 a1] rfl (by (try simp only [yiy, yjy, yky]); first | done | rfl | (simp only [yly, ymy]; rfl)) ?_; (with_reducible refine (ZX.calls k _ _ t41 a1 t44 t46 _ ?side1 ?side2 H43.out).mono ?_); (case side1 => exact (ObS.reads HOo42.out).2.2); (case side2 => exact ObS.room HOo42.out); rintro e w17 ⟨vo45, rfl, ho0, hb⟩; refine ⟨_, rfl, ?_⟩; (try clear hczg2 hfzg2 hczg8 hfzg8); obtain ⟨loo45, hio45, hno45⟩ := ObS.made ho0 hb HT.out (zO HB.out); have nOo6 := zA.mk (ObS.below HOo6.out hb); have nOo9 := zA.mk (ObS.below HOo9.out hb); have nOo13 := zA.mk (ObS.below HOo13.out hb); have nOo16 := zA.mk (ObS.below HOo16.out hb); have nOo23 := zA.mk (ObS.below HOo23.out hb); have nOo42 := zA.mk (ObS.below HOo42.out hb); have nBg2 := zA.mk (zP (g := g2) (o := .cells #[.slice A0 l0.length c0] 28 (0, 0)) BKg2.out hb); have nBg8 := zA.mk (zP (g := g8) (o := .cells #[.slice Ao13 t12.length co13] 35 (0, 0)) BKg8.out hb); have nHB := zA.mk (zN HB.out hb); have nHT := zA.mk (ZQ HT.out hb); clear HB HT HOo6 HOo9 HOo13 HOo16 HOo23 HOo42 BKg2 BKg8; have HOo6 := nOo6; have HOo9 := nOo9; have HOo13 := nOo13; have HOo16 := nOo16; have HOo23 := nOo23; have HOo42 := nOo42; have BKg2 := nBg2; have BKg8 := nBg8; have HB := nHB; have HT := nHT; clear nHB nHT nOo6 nOo9 nOo13 nOo16 nOo23 nOo42 nBg2 nBg8; have HNo45 := zA.mk hno45.1; clear HT; have HT := zA.mk hno45.2.1; have HOo45 := zA.mk hno45.2.2; clear hno45 ho0; obtain ⟨Ao45, co45, eeo45⟩ := HOo45.out.slice; subst eeo45; (try clear hb); (try clear hnd); have hczg2 : w17.cell? ⟨g2, 0, none⟩ = some (.slice A0 l0.length c0) := (zL BKg2.out 0).trans rfl; have hfzg2 := zM BKg2.out 0; have hczg8 : w17.cell? ⟨g8, 0, none⟩ = some (.slice Ao13 t12.length co13) := (zL BKg8.out 0).trans rfl; have hfzg8 := zM BKg8.out 0) | ((with_reducible refine zb (f := 20) rfl ?_); refine qH (some 86) rfl rfl Try.func20 (by kernel_rfl) rfl #[.slice Ao45 t44.length co45, .slice Ao9 t8.length co9] rfl (by (try simp only [yiy, yjy, yky]); first | done | rfl | (simp only [yly, ymy]; rfl)) ?_; (with_reducible refine (qG.calls k _ _ t44 _ _ t8 true _ ?side1 ?side2 ?side3 ?side4 H47.out).mono ?_); (case side1 => exact (ObS.reads HOo45.out).2.2); (case side2 => exact ObS.room HOo45.out); (case side3 => exact (ObS.reads HOo9.out).2.2); (case side4 => exact ObS.room HOo9.out); rintro e w18 ⟨rfl, ⟨nd, hnd⟩⟩; refine ⟨_, rfl, ?_⟩; have hb := QK hnd; (try clear hczg2 hfzg2 hczg8 hfzg8); have nOo6 := zA.mk (ObS.below HOo6.out hb); have nOo9 := zA.mk (ObS.below HOo9.out hb); have nOo13 := zA.mk (ObS.below HOo13.out hb); have nOo16 := zA.mk (ObS.below HOo16.out hb); have nOo23 := zA.mk (ObS.below HOo23.out hb); have nOo42 := zA.mk (ObS.below HOo42.out hb); have nOo45 := zA.mk (ObS.below HOo45.out hb); have nBg2 := zA.mk (zP (g := g2) (o := .cells #[.slice A0 l0.length c0] 28 (0, 0)) BKg2.out hb); have nBg8 := zA.mk (zP (g := g8) (o := .cells #[.slice Ao13 t12.length co13] 35 (0, 0)) BKg8.out hb); have nHB := zA.mk (zN HB.out hb); have nHT := zA.mk (ZQ HT.out hb); clear HB HT HOo6 HOo9 HOo13 HOo16 HOo23 HOo42 HOo45 BKg2 BKg8; have HOo6 := nOo6; have HOo9 := nOo9; have HOo13 := nOo13; have HOo16 := nOo16; have HOo23 := nOo23; have HOo42 := nOo42; have HOo45 := nOo45; have BKg2 := nBg2; have BKg8 := nBg8; have HB := nHB; have HT := nHT; clear nHB nHT nOo6 nOo9 nOo13 nOo16 nOo23 nOo42 nOo45 nBg2 nBg8; (try clear hb); (try clear hnd); have hczg2 : w18.cell? ⟨g2, 0, none⟩ = some (.slice A0 l0.length c0) := (zL BKg2.out 0).trans rfl; have hfzg2 := zM BKg2.out 0; have hczg8 : w18.cell? ⟨g8, 0, none⟩ = some (.slice Ao13 t12.length co13) := (zL BKg8.out 0).trans rfl; have hfzg8 := zM BKg8.out 0) | ((with_reducible refine zb (f := 24) rfl ?_); refine qH (some 95) rfl rfl Try.func24 (by kernel_rfl) rfl #[.slice Ao16 y35.length co16, .int .i64 1] rfl (by (try simp only [yiy, yjy, yky]); first | done | (rw [show y35.length = t15.length from (ObS.reads HOo16.out).1.symm] <;> rfl) | rfl | (simp only [yly, ymy]; rfl)) ?_; (with_reducible refine (qI.calls k _ _ y35 1 t51 _ ?side1 ?side2 H50.out).mono ?_); (case side1 => exact (ObS.reads HOo16.out).2.2); (case side2 => exact ObS.room HOo16.out); rintro e w19 ⟨rfl, ⟨nd, hnd⟩⟩; refine ⟨_, rfl, ?_⟩; have hb := QK hnd; (try clear hczg2 hfzg2 hczg8 hfzg8); have nOo6 := zA.mk (ObS.below HOo6.out hb); have nOo9 := zA.mk (ObS.below HOo9.out hb); have nOo13 := zA.mk (ObS.below HOo13.out hb); have nOo16 := zA.mk (ObS.below HOo16.out hb); have nOo23 := zA.mk (ObS.below HOo23.out hb); have nOo42 := zA.mk (ObS.below HOo42.out hb); have nOo45 := zA.mk (ObS.below HOo45.out hb); have nBg2 := zA.mk (zP (g := g2) (o := .cells #[.slice A0 l0.length c0] 28 (0, 0)) BKg2.out hb); have nBg8 := zA.mk (zP (g := g8) (o := .cells #[.slice Ao13 t12.length co13] 35 (0, 0)) BKg8.out hb); have nHB := zA.mk (zN HB.out hb); have nHT := zA.mk (ZQ HT.out hb); clear HB HT HOo6 HOo9 HOo13 HOo16 HOo23 HOo42 HOo45 BKg2 BKg8; have HOo6 := nOo6; have HOo9 := nOo9; have HOo13 := nOo13; have HOo16 := nOo16; have HOo23 := nOo23; have HOo42 := nOo42; have HOo45 := nOo45; have BKg2 := nBg2; have BKg8 := nBg8; have HB := nHB; have HT := nHT; clear nHB nHT nOo6 nOo9 nOo13 nOo16 nOo23 nOo42 nOo45 nBg2 nBg8; (try clear hb); (try clear hnd); have hczg2 : w19.cell? ⟨g2, 0, none⟩ = some (.slice A0 l0.length c0) := (zL BKg2.out 0).trans rfl; have hfzg2 := zM BKg2.out 0; have hczg8 : w19.cell? ⟨g8, 0, none⟩ = some (.slice Ao13 t12.length co13) := (zL BKg8.out 0).trans rfl; have hfzg8 := zM BKg8.out 0))
 go_ret
 exact ⟨by first | rfl | (simp <;> rfl), HB.out⟩
end Go.Proofs.Ytembbpalgfikiaa.P
namespace Go.Proofs.Ytembbpalgfikiaa.P
open Go.RowKit Go.Proofs.YtembbpalgfikiaaW.PrintWords Go.Proofs.Ytembbpalgfikiaa.Lib
set_option linter.unusedVariables false
theorem zAF (a b c : Int) : qg.f a b c = some (decide (b ≤ a) && decide (a ≤ c)) := by
  unfold qg.f
  by_cases h : b ≤ a <;> simp [h]
theorem zFL (a b c : Int) : QF.f a b c = some (decide (b ≤ a) && decide (a ≤ c)) := by
  unfold QF.f
  by_cases h : b ≤ a <;> simp [h]
theorem zCt (a : Int) : ZT.f a = some (decide (0 ≤ a) && decide (a ≤ 23)) := by
  unfold ZT.f
  by_cases h : 0 ≤ a
  · rw [if_pos h]; simp [h]; omega
  · rw [if_neg h]; simp [h]
theorem zEY (a : Int) : Zm.f a = some (decide (0 ≤ a) && decide (a ≤ 23)) := by
  unfold Zm.f; rw [zAF]; rfl
theorem zFf {p : Int} (h0 : 0 ≤ p) (h1 : p ≤ 23) : ∃ m : Fin 24, p = (m.val : Int) := ⟨⟨p.toNat, by omega⟩, by simp; omega⟩
theorem zCR {p : Int} (h0 : 0 ≤ p) (h1 : p ≤ 23) : Ev (fun k => zW.f k p) (ZU p) := by
  obtain ⟨m, rfl⟩ := zFf h0 h1
  have key : ∀ m : Fin 24, zW.f 5 (m.val : Int) = some (ZU (m.val : Int)) := by decide +kernel
  exact Ev.of (fun k => zW.mono _ k) (key m)
theorem zEZ (p : Int) : (ZU p).length = 4 := rfl
theorem QV {p f : Int} (h0 : 0 ≤ p) (h1 : p ≤ 23) (hf0 : 0 ≤ f) (hf1 : f ≤ 3) : 0 ≤ rd (ZU p) f ∧ rd (ZU p) f ≤ 3 := by
  obtain ⟨a, b, c, d⟩ := zAr p h0 h1
  exact zBH a b c d f hf0 hf1
theorem zA5 {p f : Int} (h0 : 0 ≤ p) (h1 : p ≤ 23) (hf0 : 0 ≤ f) (hf1 : f ≤ 3) : Ev (fun k => qt.f k p f) (rd (ZU p) f) := by
  refine Ev.bind (zCR h0 h1) ?_
  exact qq hf0 (qq (by rw [zEZ]; omega) (Ev.now _))
theorem zDi {p : Int} (h0 : 0 ≤ p) (h1 : p ≤ 23) : Ev (fun k => qB.f k p) (zDh p) := by
  obtain ⟨m, rfl⟩ := zFf h0 h1
  have key : ∀ m : Fin 24, qB.f 40 (m.val : Int) = some (zDh (m.val : Int)) := by decide +kernel
  exact Ev.of (fun k => qB.mono _ k) (key m)
theorem zEa {q p f : Int} (h0 : 0 ≤ p) (h1 : p ≤ 23) (hf0 : 0 ≤ f) (hf1 : f ≤ 3) : qz.f q p f = some (rd (ZU p) f) := if_pos ⟨h0, h1, hf0, hf1⟩
theorem zDj {q p a : Int} (h0 : 0 ≤ p) (h1 : p ≤ 23) : qm.f q p a = some (a, zDh p) := by
  unfold qm.f QN.f
  rw [if_pos ⟨h0, h1⟩]; rfl
abbrev Tri := List (List zr)
def Small (t : Tri) : Prop := t.length ≤ 1048576 ∧ ∀ r ∈ t, r.length ≤ 1048576
def zDN (t : List (List qN)) : Prop := t.length ≤ 1048576 ∧ ∀ r ∈ t, r.length ≤ 1048576
def Fits (t : List (List qN)) : Prop := t.length ≤ 9223372036854775807 ∧ ∀ r ∈ t, r.length ≤ 9223372036854775807
theorem JC (t : List (List qN)) (n : Nat) (h : n < t.length) : ZG t (n : Int) = t[n] := by simp [ZG, h]
theorem JO (t : Tri) (n : Nat) (h : n < t.length) : zE t (n : Int) = t[n] := by simp [zE, h]
theorem zBt (t : List qN) (n : Nat) (h : n < t.length) : Zq t (n : Int) = t[n] := by simp [Zq, h]
theorem zBI (t : List zr) (n : Nat) (h : n < t.length) : zI t (n : Int) = t[n] := by simp [zI, h]
theorem zBJ (r : List qN) (a : Int) (h0 : 0 ≤ a) (h1 : a ≤ 1048576) (h : r.length ≤ 9223372036854775807) : QB.f r a = some (if a - r.length < 0 then -1 else a - r.length) := by
  unfold QB.f
  rw [qk (by omega) (by omega)]
  split <;> rfl
theorem zCu (t : List (List qN)) (h : Fits t) (hl : t.length ≤ 1048576) : ∃ r, Ev (fun k => qO.l0 k t (1048576 - t.length) 0) r ∧ (0 ≤ r → ∀ x ∈ t, x.length ≤ 1048576) := by
  have key : ∀ d n : Nat, ∀ a : Int, n + d = t.length → 0 ≤ a → a ≤ 1048576 → ∃ r, Ev (fun k => qO.l0 k t a (n : Int)) r ∧ (0 ≤ r → ∀ x ∈ t.drop n, x.length ≤ 1048576) := by
    intro d
    induction d with
    | zero =>
      intro n a hn h0 h1
      refine ⟨a, qV (f := fun _ => some a) (fun k => ?_) (Ev.now a), fun _ x hx => ?_⟩
      · simp only [qO.l0]; rw [if_neg (by omega)]
      · rw [List.drop_eq_nil_of_le (by omega)] at hx; cases hx
    | succ d ih =>
      intro n a hn h0 h1
      have hlt : n < t.length := by omega
      have hf := h.2 t[n] (List.getElem_mem hlt)
      by_cases hc : a - t[n].length < 0
      · refine ⟨-1, qV (f := fun _ => some (-1)) (fun k => ?_) (Ev.now (-1)), fun h => by omega⟩
        simp only [qO.l0]
        rw [if_pos (by omega), if_pos (by omega), JC t n hlt, zBJ _ a h0 h1 hf, yfy, if_pos hc]
        rfl
      · obtain ⟨r, hr, hr2⟩ := ih (n + 1) (a - t[n].length) (by omega) (by omega) (by omega)
        refine ⟨r, qV (fun k => ?_) hr, fun h x hx => ?_⟩
        · simp only [qO.l0]
          rw [if_pos (by omega), if_pos (by omega), JC t n hlt, zBJ _ a h0 h1 hf, yfy, if_neg hc, if_neg (by omega), qp (by omega)]
        · rw [yoy hlt] at hx
          rcases List.mem_cons.1 hx with rfl | hx
          · omega
          · exact hr2 h x hx
  obtain ⟨r, hr, hr2⟩ := key t.length 0 (1048576 - t.length) (by omega) (by omega) (by omega)
  exact ⟨r, hr, fun h => by have := hr2 h; rwa [List.drop_zero] at this⟩
theorem zA6 (t : List (List qN)) (h : Fits t) : ∃ r, Ev (fun k => ZL.f k t 1048576) r ∧ (¬ r < 0 → zDN t) := by
  by_cases hl : (1048576 - (t.length : Int)) < 0
  · refine ⟨-1, ?_, fun h => by omega⟩
    refine Ev.bind (a := -1) (zAn (fun k => ?_)) (qq (by omega) (Ev.now _))
    unfold qO.f
    have := h.1
    rw [qk (by omega) (by omega), if_pos hl]
  · obtain ⟨r, hr, hr2⟩ := zCu t h (by omega)
    have h2 : Ev (fun k => qO.f k t 1048576) r := by
      refine Ev.congr (fun k => ?_) hr
      unfold qO.f
      rw [qk (by omega) (by omega), if_neg hl]
    by_cases hn : r < 0
    · exact ⟨-1, Ev.bind h2 (qq hn (Ev.now _)), fun h => by omega⟩
    · exact ⟨r, Ev.bind h2 (Zn hn (Ev.now _)), fun _ => ⟨by omega, hr2 (by omega)⟩⟩
def cvF (x : qN) : zr := ⟨x.f0, x.f1⟩
def cvR (r : List qN) : List zr := r.map cvF
def cvT (t : List (List qN)) : Tri := t.map cvR
theorem zEb {t : List (List qN)} (h : zDN t) : Small (cvT t) := by
  refine ⟨by simp [cvT]; exact h.1, fun r hr => ?_⟩
  obtain ⟨s, hs, rfl⟩ := List.mem_map.1 hr
  simp [cvR]; exact h.2 s hs
theorem zAT {α β : Type} (f : α → β) (l : List α) (z : β) (n : Nat) (h : n < l.length) :
    ((l.take n).map f ++ List.replicate (l.length - n) z).set n (f l[n]) = (l.take (n + 1)).map f ++ List.replicate (l.length - (n + 1)) z := by
  have e : l.length - n = (l.length - (n + 1)) + 1 := by omega
  rw [e, List.replicate_succ, List.set_append_right _ _ (by simp; omega)]
  have : n - ((l.take n).map f).length = 0 := by simp; omega
  rw [this, yby, List.take_succ_eq_append_getElem h, List.map_append, List.append_assoc]
  rfl
theorem zDk (l : List qN) (h : l.length ≤ 1048576) : Ev (fun k => qY.f k l) (cvR l) := by
  have hl : Ev (fun k => qY.l0 k l (List.replicate l.length JU) 0) (cvR l) := by
    refine JL (fun k (s : List zr × Int) => qY.l0 k l s.1 s.2) (fun s => ∃ n : Nat, n ≤ l.length ∧ s.2 = n ∧ s.1 = (l.take n).map cvF ++ List.replicate (l.length - n) JU) (fun s => l.length - s.2.toNat) (fun _ => cvR l) ?_ (List.replicate l.length JU, 0) ⟨0, by omega, rfl, by simp⟩
    rintro ⟨a, i⟩ ⟨n, hn, rfl, rfl⟩
    dsimp only
    by_cases hlt : n < l.length
    · refine .inr ⟨((l.take (n + 1)).map cvF ++ List.replicate (l.length - (n + 1)) JU, ((n + 1 : Nat) : Int)), ⟨n + 1, by omega, rfl, rfl⟩, by simp; omega, rfl, fun k => ?_⟩
      simp only [qY.l0, Qt.f, yfy]
      rw [if_pos (by omega), if_pos (by omega), if_pos (by simp; omega), qp (by omega), yny, zBt l n hlt]
      have := zAT cvF l JU n hlt
      rw [← this]
      rfl
    · obtain rfl : n = l.length := by omega
      refine .inl fun k => ?_
      simp only [qY.l0]
      rw [if_neg (by omega)]
      simp [cvR]
  refine Ev.congr (fun k => ?_) hl
  unfold qY.f
  rw [if_pos (by omega), if_pos (by simp; omega), yny]
theorem zCv (l : List (List qN)) (h : zDN l) : Ev (fun k => qQ.f k l) (cvT l) := by
  have hl : Ev (fun k => qQ.l0 k l (List.replicate l.length []) 0) (cvT l) := by
    refine zBl (fun k (s : Tri × Int) => qQ.l0 k l s.1 s.2) (fun s => ∃ n : Nat, n ≤ l.length ∧ s.2 = n ∧ s.1 = (l.take n).map cvR ++ List.replicate (l.length - n) []) (fun s => l.length - s.2.toNat) (fun _ => cvT l) ?_ (List.replicate l.length [], 0) ⟨0, by omega, rfl, by simp⟩
    rintro ⟨a, i⟩ ⟨n, hn, rfl, rfl⟩
    dsimp only
    by_cases hlt : n < l.length
    · obtain ⟨K, hK⟩ := zDk l[n] (h.2 _ (List.getElem_mem hlt))
      refine .inr ⟨((l.take (n + 1)).map cvR ++ List.replicate (l.length - (n + 1)) [], ((n + 1 : Nat) : Int)), K, ⟨n + 1, by omega, rfl, rfl⟩, by simp; omega, rfl, fun k hk => ?_⟩
      have e : qY.f k l[n] = some _ := hK k hk
      have h1 := h.1
      simp only [qQ.l0]
      rw [if_pos (by omega), if_pos (by omega), JC l n hlt, e, yfy, if_pos (by simp; omega), qp (by omega), yny, zAT cvR l [] n hlt]
    · obtain rfl : n = l.length := by omega
      refine .inl ⟨0, fun k _ => ?_⟩
      simp only [qQ.l0]
      rw [if_neg (by omega)]
      simp [cvT]
  have h1 := h.1
  refine Ev.congr (fun k => ?_) hl
  unfold qQ.f
  rw [if_pos (by omega), if_pos (by simp; omega), yny]
theorem zA7 (l : List (List qN)) (h : zDN l) : Ev (fun k => qX.f k l) (cvT l) := Ev.bind (zCv l h) (Ev.now _)
theorem zDl (l : List zr) (h : l.length ≤ 1048576) : Ev (fun k => qD.f k l l) true := by
  have hl : Ev (fun k => qD.l0 k l l 0) true := by
    refine JL (fun k (s : Int) => qD.l0 k l l s) (fun s => ∃ n : Nat, n ≤ l.length ∧ s = n) (fun s => l.length - s.toNat) (fun _ => true) ?_ 0 ⟨0, by omega, rfl⟩
    rintro i ⟨n, hn, rfl⟩
    by_cases hlt : n < l.length
    · refine .inr ⟨((n + 1 : Nat) : Int), ⟨n + 1, by omega, rfl⟩, by simp; omega, rfl, fun k => ?_⟩
      simp only [qD.l0, QY.f]
      rw [if_pos (by omega), if_pos (by omega), if_pos (by omega), if_pos trivial, if_pos trivial, yfy, if_pos rfl, qp (by omega)]
    · refine .inl fun k => ?_
      simp only [qD.l0]
      rw [if_neg (by omega)]
  refine Ev.congr (fun k => ?_) hl
  unfold qD.f
  rw [if_pos rfl]
theorem zA8 (l : Tri) (h : Small l) : Ev (fun k => ZY.f k l l) true := by
  have hl : Ev (fun k => zu.l0 k l l 0) true := by
    refine zBl (fun k (s : Int) => zu.l0 k l l s) (fun s => ∃ n : Nat, n ≤ l.length ∧ s = n) (fun s => l.length - s.toNat) (fun _ => true) ?_ 0 ⟨0, by omega, rfl⟩
    rintro i ⟨n, hn, rfl⟩
    by_cases hlt : n < l.length
    · obtain ⟨K, hK⟩ := zDl l[n] (h.2 _ (List.getElem_mem hlt))
      refine .inr ⟨((n + 1 : Nat) : Int), K, ⟨n + 1, by omega, rfl⟩, by simp; omega, rfl, fun k hk => ?_⟩
      have e : qD.f k l[n] l[n] = some _ := hK k hk
      have h1 := h.1
      simp only [zu.l0]
      rw [if_pos (by omega), if_pos (by omega), if_pos (by omega), JO l n hlt, e, yfy, if_pos rfl, qp (by omega)]
    · refine .inl ⟨0, fun k _ => ?_⟩
      simp only [zu.l0]
      rw [if_neg (by omega)]
  have h2 : Ev (fun k => zu.f k l l) true := by
    refine Ev.congr (fun k => ?_) hl
    unfold zu.f
    rw [if_pos rfl]
  exact Ev.bind h2 (qq rfl (Ev.now _))
abbrev fc (t : Tri) (a f : Int) : zr := zI (zE t a) f
def zAW (t : Tri) (a f : Int) : Bool :=
  if (fc t a f).f0 = -1 then (fc t a f).f1 == 0
  else if 0 ≤ (fc t a f).f0 ∧ (fc t a f).f0 < (t.length : Int) ∧ 0 ≤ (fc t a f).f1 ∧ (fc t a f).f1 ≤ 23 then
    ((fc t (fc t a f).f0 (rd (ZU (fc t a f).f1) f)).f0 == a && (fc t (fc t a f).f0 (rd (ZU (fc t a f).f1) f)).f1 == zDh (fc t a f).f1) && !((fc t a f).f0 == a && rd (ZU (fc t a f).f1) f == f)
  else false
def JI (t : Tri) (a : Int) : Int → Nat → Bool
  | _, 0 => true
  | f, d + 1 => zAW t a f && JI t a (f + 1) d
def Jn (t : Tri) : Int → Nat → Bool
  | _, 0 => true
  | a, d + 1 => JI t a 0 4 && Jn t (a + 1) d
def Zt (t : Tri) : Bool := decide (t.length ≤ 8) && (t.all (fun r => decide (r.length = 4)) && Jn t 0 t.length)
section
variable {t : Tri}
theorem row4 (h4 : ∀ r ∈ t, r.length = 4) {a : Int} (h0 : 0 ≤ a) (h1 : a < t.length) : (zE t a).length = 4 := by
  obtain ⟨n, rfl⟩ := Int.eq_ofNat_of_zero_le h0
  rw [JO t n (by omega)]
  exact h4 _ (List.getElem_mem _)
theorem zB3 (h4 : ∀ r ∈ t, r.length = 4) (hn : t.length ≤ 8) {a f : Int} (h0 : 0 ≤ a) (h1 : a < t.length) (hf0 : 0 ≤ f) (hf1 : f ≤ 3) : Ev (fun k => zT.f k t a f) (zAW t a f) := by
  have hr := row4 h4 h0 h1
  refine Ev.congr (fun k => by unfold zT.f; rw [if_pos h0, if_pos h1, if_pos hf0, if_pos (by omega)]) ?_
  change Ev (fun k => if (fc t a f).f0 = -1 then some ((fc t a f).f1 == 0) else _) (zAW t a f)
  unfold zAW
  by_cases hb : (fc t a f).f0 = -1
  · rw [if_pos hb]; exact qq hb (Ev.now _)
  · refine Zn hb ?_
    rw [if_neg hb]
    have hix : qd.f t (fc t a f).f0 = some (decide (0 ≤ (fc t a f).f0) && decide ((fc t a f).f0 ≤ (t.length : Int) - 1)) := by
      unfold qd.f qe.f
      rw [yfy, qk (by omega) (by omega), zAF]; rfl
    have hfalse : Ev (fun k => zT.j0 k a f true t (fc t a f).f0 (fc t a f).f1) false := qV (fun k => by rw [zT.j0, if_pos rfl]) (Ev.now false)
    refine Ev.bind (Qe hix) ?_
    by_cases hi : 0 ≤ (fc t a f).f0 ∧ (fc t a f).f0 < (t.length : Int)
    · refine qq (by simp; omega) ?_
      refine Ev.bind (Qe (zEY _)) ?_
      by_cases hp : 0 ≤ (fc t a f).f1 ∧ (fc t a f).f1 ≤ 23
      · rw [if_pos ⟨hi.1, hi.2, hp.1, hp.2⟩]
        have e : (!(decide (0 ≤ (fc t a f).f1) && decide ((fc t a f).f1 ≤ 23))) = false := by simp [hp]
        rw [e]
        refine qV (fun k => by rw [zT.j0, if_neg (by simp), zEa hp.1 hp.2 hf0 hf1, yfy]) ?_
        obtain ⟨hg0, hg1⟩ := QV hp.1 hp.2 hf0 hf1
        have hr2 := row4 h4 hi.1 hi.2
        refine qq hi.1 (qq hi.2 (qq hg0 (qq (by rw [hr2]; omega) ?_)))
        refine Ev.bind (Qe (zDj hp.1 hp.2)) ?_
        change Ev (fun k => if ((fc t (fc t a f).f0 (rd (ZU (fc t a f).f1) f)).f0 == a && (fc t (fc t a f).f0 (rd (ZU (fc t a f).f1) f)).f1 == zDh (fc t a f).f1) = true then _ else _) _
        generalize ((fc t (fc t a f).f0 (rd (ZU (fc t a f).f1) f)).f0 == a && (fc t (fc t a f).f0 (rd (ZU (fc t a f).f1) f)).f1 == zDh (fc t a f).f1) = b
        cases b with
        | false => refine Zn (by simp) ?_; rw [Bool.false_and]; exact Ev.now false
        | true =>
          refine qq rfl ?_
          rw [Bool.true_and]
          by_cases ha : (fc t a f).f0 = a
          · refine qq ha (zCl ?_)
            rw [ha]; simp [bne]
          · refine Zn ha (zCl ?_)
            simp [ha]
      · rw [if_neg (by omega)]
        have e : (!(decide (0 ≤ (fc t a f).f1) && decide ((fc t a f).f1 ≤ 23))) = true := by
          rw [Bool.not_eq_true', Bool.and_eq_false_iff, decide_eq_false_iff_not, decide_eq_false_iff_not]; omega
        rw [e]
        exact hfalse
    · rw [if_neg (by omega)]
      refine Zn ?_ hfalse
      rw [Bool.and_eq_true, decide_eq_true_eq, decide_eq_true_eq]; omega
theorem zBK (h4 : ∀ r ∈ t, r.length = 4) (hn : t.length ≤ 8) {a : Int} (h0 : 0 ≤ a) (h1 : a < t.length) {R : Bool} (hR : Ev (fun k => zV.l0 k (t.length : Int) (a + 1) t) R) :
    ∀ (d : Nat) (f : Int), 0 ≤ f → f + d = 4 → Ev (fun k => zV.l1 k a (t.length : Int) a f t) (JI t a f d && R)
  | 0, f, hf, he => by
    refine qV (fun k => by rw [zV.l1, if_neg (by omega), qk (by omega) (by omega)]) ?_
    rw [JI, Bool.true_and]; exact hR
  | d + 1, f, hf, he => by
    refine qV (fun k => by rw [zV.l1, if_pos (by omega)]) ?_
    refine Ev.bind (zB3 h4 hn h0 h1 hf (by omega)) ?_
    rw [JI]
    cases hg : zAW t a f with
    | false => exact Zn (by simp) (by rw [Bool.false_and, Bool.false_and]; exact Ev.now false)
    | true =>
      refine qq rfl ?_
      rw [Bool.true_and]
      exact Ev.congr (fun k => by rw [qk (by omega) (by omega)]) (zBK h4 hn h0 h1 hR d (f + 1) (by omega) (by omega))
theorem zBL (h4 : ∀ r ∈ t, r.length = 4) (hn : t.length ≤ 8) : ∀ (d : Nat) (a : Int), 0 ≤ a → a + d = t.length → Ev (fun k => zV.l0 k (t.length : Int) a t) (Jn t a d)
  | 0, a, ha, he => by
    refine qV (fun k => by rw [zV.l0, if_neg (by omega)]) ?_
    exact Ev.now true
  | d + 1, a, ha, he => by
    refine qV (fun k => by rw [zV.l0, if_pos (by omega)]) ?_
    rw [Jn]
    exact zBK h4 hn ha (by omega) (zBL h4 hn d (a + 1) (by omega) (by omega)) 4 0 (by omega) (by omega)
theorem zBu : t.all (fun r => decide (r.length = 4)) = true ↔ ∀ r ∈ t, r.length = 4 := by simp
theorem zEc (h : Small t) : zh.f t = some (!(t.all fun r => decide (r.length = 4))) := by
  unfold zh.f qA.f
  rw [contO (p := fun r => !(decide (r.length = 4))) t (fun r _ => by
    show qc.f r = _
    unfold qc.f
    congr 1
    by_cases h : r.length = 4
    · simp [h]
    · have : ¬ ((r.length : Int) = 4) := by omega
      simp [h, this]), List.not_all_eq_any_not]
theorem zBv (h : Small t) : Ev (fun k => zV.f k t) (Zt t) := by
  have hfalse : Ev (fun k => zV.j0 k true t) false := qV (fun k => by rw [zV.j0, if_pos rfl]) (Ev.now false)
  unfold Zt
  by_cases h8 : t.length ≤ 8
  · refine Ev.congr (fun k => by unfold zV.f; rw [if_neg (by omega), zEc h, yfy]) ?_
    rw [ygy h8, Bool.true_and]
    cases hall : t.all (fun r => decide (r.length = 4)) with
    | false => rw [Bool.false_and]; exact hfalse
    | true =>
      rw [Bool.true_and]
      refine qV (fun k => by rw [zV.j0, if_neg (by simp)]) ?_
      exact zBL (zBu.1 hall) h8 t.length 0 (by omega) (by omega)
  · refine Ev.congr (fun k => by unfold zV.f; rw [if_pos (by omega)]) ?_
    rw [yhy h8, Bool.false_and]; exact hfalse
theorem zBM (h4 : ∀ r ∈ t, r.length = 4) (hn : t.length ≤ 8) {a : Int} (h0 : 0 ≤ a) (h1 : a < t.length) {R : Bool} (hR : Ev (fun k => zK.l1 k (a + 1) t) R) :
    ∀ (d : Nat) (f : Int), 0 ≤ f → f + d = 4 → Ev (fun k => zK.l2 k a f t) (JI t a f d && R)
  | 0, f, hf, he => by
    refine qV (fun k => by rw [zK.l2, if_neg (by omega), qk (by omega) (by omega)]) ?_
    rw [JI, Bool.true_and]; exact hR
  | d + 1, f, hf, he => by
    have hr := row4 h4 h0 h1
    have ih : Ev (fun k => zK.l2 k a (wrap64 (f + 1)) t) (JI t a (f + 1) d && R) := Ev.congr (fun k => by rw [qk (by omega) (by omega)]) (zBM h4 hn h0 h1 hR d (f + 1) (by omega) (by omega))
    refine qV (fun k => by rw [zK.l2, if_pos (by omega), if_pos h0, if_pos h1, if_pos hf, if_pos (by omega)]) ?_
    change Ev (fun k => if (fc t a f).f0 = -1 then zK.j3 k a f ((fc t a f).f1 == 0) t (fc t a f).f0 (fc t a f).f1 else zK.j3 k a f false t (fc t a f).f0 (fc t a f).f1) _
    rw [JI]
    have hstop : ∀ b, Ev (fun k => zK.j4 k a f true t (fc t a f).f0 (fc t a f).f1) (false && b) := fun b => by
      rw [Bool.false_and]; exact qV (fun k => by rw [zK.j4, if_pos rfl]) (Ev.now false)
    have hgo : Ev (fun k => zK.j3 k a f true t (fc t a f).f0 (fc t a f).f1) (JI t a (f + 1) d && R) := qV (fun k => by rw [zK.j3, if_pos rfl]) ih
    have hrest : (¬ ((fc t a f).f0 = -1 ∧ (fc t a f).f1 = 0)) → Ev (fun k => zK.j3 k a f false t (fc t a f).f0 (fc t a f).f1) (zAW t a f && JI t a (f + 1) d && R) := by
      intro hnb
      refine qV (fun k => by rw [zK.j3, qZ.f, if_neg (by simp), yfy, zFL, yfy, qk (by omega) (by omega)]) ?_
      unfold zAW
      by_cases hi : 0 ≤ (fc t a f).f0 ∧ (fc t a f).f0 < (t.length : Int)
      · refine qq (by simp; omega) ?_
        refine Ev.bind (Qe (zCt _)) ?_
        rw [if_neg (by omega)]
        by_cases hp : 0 ≤ (fc t a f).f1 ∧ (fc t a f).f1 ≤ 23
        · rw [if_pos ⟨hi.1, hi.2, hp.1, hp.2⟩]
          have e : (!(decide (0 ≤ (fc t a f).f1) && decide ((fc t a f).f1 ≤ 23))) = false := by simp [hp]
          rw [e]
          obtain ⟨hg0, hg1⟩ := QV hp.1 hp.2 hf (by omega)
          have hr2 := row4 h4 hi.1 hi.2
          refine qV (fun k => by rw [zK.j4, if_neg (by simp)]) ?_
          refine Ev.bind (zA5 hp.1 hp.2 hf (by omega)) ?_
          refine Ev.bind (zDi hp.1 hp.2) ?_
          refine qq hi.1 (qq hi.2 (qq hg0 (qq (by rw [hr2]; omega) ?_)))
          change Ev (fun k => if (!((fc t (fc t a f).f0 (rd (ZU (fc t a f).f1) f)).f0 == a) || !((fc t (fc t a f).f0 (rd (ZU (fc t a f).f1) f)).f1 == zDh (fc t a f).f1)) = true then _ else _) _
          generalize ((fc t (fc t a f).f0 (rd (ZU (fc t a f).f1) f)).f0 == a) = b1
          generalize ((fc t (fc t a f).f0 (rd (ZU (fc t a f).f1) f)).f1 == zDh (fc t a f).f1) = b2
          cases b1 with
          | false => exact qq rfl (by rw [Bool.false_and, Bool.false_and, Bool.false_and, Bool.false_and]; exact Ev.now false)
          | true =>
            cases b2 with
            | false => exact qq rfl (by rw [Bool.true_and, Bool.false_and, Bool.false_and, Bool.false_and]; exact Ev.now false)
            | true =>
              refine Zn (by simp) ?_
              rw [Bool.true_and, Bool.true_and]
              by_cases ha : (fc t a f).f0 = a
              · refine qq ha ?_
                by_cases hg : rd (ZU (fc t a f).f1) f = f
                · refine qq hg ?_
                  rw [ha, hg]
                  simp
                  exact Ev.now false
                · refine Zn hg ?_
                  have : (rd (ZU (fc t a f).f1) f == f) = false := by simp [hg]
                  rw [this, Bool.and_false, Bool.not_false, Bool.true_and]
                  exact ih
              · refine Zn ha ?_
                have : ((fc t a f).f0 == a) = false := by simp [ha]
                rw [this, Bool.false_and, Bool.not_false, Bool.true_and]
                exact ih
        · rw [if_neg (by omega)]
          have e : (!(decide (0 ≤ (fc t a f).f1) && decide ((fc t a f).f1 ≤ 23))) = true := by
            rw [Bool.not_eq_true', Bool.and_eq_false_iff, decide_eq_false_iff_not, decide_eq_false_iff_not]; omega
          rw [e, Bool.false_and]
          exact hstop R
      · have hg : (if (fc t a f).f0 = -1 then ((fc t a f).f1 == 0) else if 0 ≤ (fc t a f).f0 ∧ (fc t a f).f0 < (t.length : Int) ∧ 0 ≤ (fc t a f).f1 ∧ (fc t a f).f1 ≤ 23 then
            ((fc t (fc t a f).f0 (rd (ZU (fc t a f).f1) f)).f0 == a && (fc t (fc t a f).f0 (rd (ZU (fc t a f).f1) f)).f1 == zDh (fc t a f).f1) && !((fc t a f).f0 == a && rd (ZU (fc t a f).f1) f == f) else false) = false := by
          by_cases hb : (fc t a f).f0 = -1
          · rw [if_pos hb]; simp; intro h; exact hnb ⟨hb, h⟩
          · rw [if_neg hb, if_neg (by omega)]
        rw [hg, Bool.false_and]
        refine Zn ?_ (hstop R)
        rw [Bool.and_eq_true, decide_eq_true_eq, decide_eq_true_eq]; omega
    by_cases hb : (fc t a f).f0 = -1
    · refine qq hb ?_
      by_cases h0' : (fc t a f).f1 = 0
      · have e : zAW t a f = true := by unfold zAW; rw [if_pos hb]; simp [h0']
        rw [e, Bool.true_and]
        have e2 : ((fc t a f).f1 == 0) = true := by simp [h0']
        rw [e2]; exact hgo
      · have e2 : ((fc t a f).f1 == 0) = false := by simp [h0']
        rw [e2]; exact hrest (fun h => h0' h.2)
    · exact Zn hb (hrest (fun h => hb h.1))
theorem zBN (h4 : ∀ r ∈ t, r.length = 4) (hn : t.length ≤ 8) : ∀ (d : Nat) (a : Int), 0 ≤ a → a + d = t.length → Ev (fun k => zK.l1 k a t) (Jn t a d)
  | 0, a, ha, he => by
    refine qV (fun k => by rw [zK.l1, qZ.f, yfy, if_neg (by omega)]) ?_
    exact Ev.now true
  | d + 1, a, ha, he => by
    refine qV (fun k => by rw [zK.l1, qZ.f, yfy, if_pos (by omega)]) ?_
    rw [Jn]
    exact zBM h4 hn ha (by omega) (zBN h4 hn d (a + 1) (by omega) (by omega)) 4 0 (by omega) (by omega)
theorem zDm (h8 : t.length ≤ 8) (d : Nat) : ∀ n : Nat, n + d = t.length → (t.all (fun r => decide (r.length = 4)) = (t.drop n).all (fun r => decide (r.length = 4))) → Ev (fun k => zK.l0 k (n : Int) t) (t.all (fun r => decide (r.length = 4)) && Jn t 0 t.length) := by
  induction d with
  | zero =>
    intro n hn ha
    refine qV (fun k => by rw [zK.l0, if_neg (by omega)]) ?_
    have hall : t.all (fun r => decide (r.length = 4)) = true := by rw [ha, List.drop_eq_nil_of_le (by omega)]; rfl
    rw [hall, Bool.true_and]
    exact zBN (zBu.1 hall) h8 t.length 0 (by omega) (by omega)
  | succ d ih =>
    intro n hn ha
    have hlt : n < t.length := by omega
    refine qV (fun k => by rw [zK.l0, if_pos (by omega), if_pos (by omega), JO t n hlt]) ?_
    rw [yoy hlt, List.all_cons] at ha
    by_cases h : t[n].length = 4
    · refine qq (by omega) ?_
      refine Ev.congr (fun k => by rw [qp (by omega)]) (ih (n + 1) (by omega) ?_)
      rw [ha, ygy h, Bool.true_and]
    · refine Zn (by omega) ?_
      rw [ha, yhy h, Bool.false_and, Bool.false_and]
      exact Ev.now false
theorem zBw (t : Tri) : Ev (fun k => zK.f k t) (Zt t) := by
  refine Ev.congr (fun k => by unfold zK.f qZ.f; rw [yfy]) ?_
  unfold Zt
  by_cases h8 : t.length ≤ 8
  · refine Zn (by omega) ?_
    rw [ygy h8, Bool.true_and]
    exact zDm h8 t.length 0 (by omega) (by rw [List.drop_zero])
  · refine qq (by omega) ?_
    rw [yhy h8, Bool.false_and]
    exact Ev.now false
end
theorem ZD {t : Tri} (h : Zt t = true) : t.length ≤ 8 ∧ (∀ r ∈ t, r.length = 4) ∧ Jn t 0 t.length = true := by
  unfold Zt at h
  rw [Bool.and_eq_true, Bool.and_eq_true, decide_eq_true_eq] at h
  exact ⟨h.1, zBu.1 h.2.1, h.2.2⟩
theorem zEd (t : Tri) (a : Int) (d : Nat) : ∀ f, JI t a f d = true → ∀ g, f ≤ g → g < f + d → zAW t a g = true := by
  induction d with
  | zero => intro f _ g h1 h2; omega
  | succ d ih =>
    intro f h g h1 h2
    rw [JI, Bool.and_eq_true] at h
    by_cases e : g = f
    · rw [e]; exact h.1
    · exact ih (f + 1) h.2 g (by omega) (by omega)
theorem zEe (t : Tri) (d : Nat) : ∀ a, Jn t a d = true → ∀ b, a ≤ b → b < a + d → ∀ g, 0 ≤ g → g ≤ 3 → zAW t b g = true := by
  induction d with
  | zero => intro a _ b h1 h2; omega
  | succ d ih =>
    intro a h b h1 h2 g hg0 hg1
    rw [Jn, Bool.and_eq_true] at h
    by_cases e : b = a
    · rw [e]; exact zEd t a 4 0 h.1 g hg0 (by omega)
    · exact ih (a + 1) h.2 b (by omega) (by omega) g hg0 hg1
theorem zEf {t : Tri} (h : Zt t = true) {a f : Int} (h0 : 0 ≤ a) (h1 : a < t.length) (hf0 : 0 ≤ f) (hf1 : f ≤ 3) :
    ((fc t a f).f0 = -1 ∧ (fc t a f).f1 = 0) ∨
    ((0 ≤ (fc t a f).f0 ∧ (fc t a f).f0 < (t.length : Int) ∧ 0 ≤ (fc t a f).f1 ∧ (fc t a f).f1 ≤ 23) ∧
      (fc t (fc t a f).f0 (rd (ZU (fc t a f).f1) f)).f0 = a ∧ (fc t (fc t a f).f0 (rd (ZU (fc t a f).f1) f)).f1 = zDh (fc t a f).f1 ∧ ¬ ((fc t a f).f0 = a ∧ rd (ZU (fc t a f).f1) f = f)) := by
  have hg := zEe t t.length 0 (ZD h).2.2 a h0 (by omega) f hf0 hf1
  unfold zAW at hg
  by_cases hb : (fc t a f).f0 = -1
  · rw [if_pos hb] at hg
    exact .inl ⟨hb, by simpa using hg⟩
  · rw [if_neg hb] at hg
    by_cases hi : 0 ≤ (fc t a f).f0 ∧ (fc t a f).f0 < (t.length : Int) ∧ 0 ≤ (fc t a f).f1 ∧ (fc t a f).f1 ≤ 23
    · rw [if_pos hi, Bool.and_eq_true, Bool.and_eq_true, Bool.not_eq_true'] at hg
      refine .inr ⟨hi, eq_of_beq hg.1.1, eq_of_beq hg.1.2, fun hc => ?_⟩
      have := hg.2
      rw [Bool.and_eq_false_iff] at this
      rcases this with h2 | h2
      · exact absurd hc.1 (by simpa using h2)
      · exact absurd hc.2 (by simpa using h2)
    · rw [if_neg hi] at hg; cases hg
theorem rowlen {t : Tri} (h : Zt t = true) {a : Int} (h0 : 0 ≤ a) (h1 : a < t.length) : (zE t a).length = 4 := row4 (ZD h).2.1 h0 h1
end Go.Proofs.Ytembbpalgfikiaa.P
namespace Go.Proofs.Ytembbpalgfikiaa.Lib
open Go.RowKit Go.Proofs.YtembbpalgfikiaaW.PrintWords
set_option linter.unusedVariables false
def Low (s : List Int) : Prop := ∀ i : Nat, i < s.length → 0 ≤ s.getD i 0 ∧ s.getD i 0 ≤ i ∧ s.getD (s.getD i 0).toNat 0 = s.getD i 0
theorem zEg (n : Nat) : Low (qh 0 n) := by
  intro i hi
  rw [ZH] at hi
  have h := zBD 0 n i hi
  rw [Int.zero_add] at h
  rw [h]
  refine ⟨by omega, by omega, ?_⟩
  rw [yny, h]
theorem zCw {s : List Int} (h : Low s) {i k : Int} (hi0 : 0 ≤ i) (hi1 : i < s.length) (hk0 : 0 ≤ k) (hk1 : k < s.length) : Low (joi s i k) := by
  have a1 := h i.toNat (by omega)
  have a2 := h k.toNat (by omega)
  rw [← zEQ] at a1 a2
  intro n hn
  rw [QE] at hn
  have a3 := h n hn
  have gt : ∀ m : Nat, m < s.length → (joi s i k).getD m 0 = if s.getD m 0 = max (rd s i) (rd s k) then min (rd s i) (rd s k) else s.getD m 0 := fun m hm => zCn s i k m hm
  generalize rd s i = p at *
  generalize rd s k = q at *
  rw [gt n hn]
  generalize hx : s.getD n 0 = x at *
  have lm : ∀ y : Int, 0 ≤ y → y < s.length → s.getD y.toNat 0 = y → (joi s i k).getD y.toNat 0 = if y = max p q then min p q else y := fun y h0 h1 h2 => by rw [gt y.toNat (by omega), h2]
  by_cases e : x = max p q
  · rw [if_pos e]
    refine ⟨by omega, by omega, ?_⟩
    rcases Int.le_total p q with hpq | hpq
    · have e1 : min p q = p := by omega
      have e2 : max p q = q := by omega
      rw [e1, lm p (by omega) (by omega) a1.2.2, e1, e2]
      split
      · rfl
      · rfl
    · have e1 : min p q = q := by omega
      have e2 : max p q = p := by omega
      rw [e1, lm q (by omega) (by omega) a2.2.2, e1, e2]
      split
      · rfl
      · rfl
  · rw [if_neg e]
    refine ⟨a3.1, a3.2.1, ?_⟩
    rw [lm x a3.1 (by omega) a3.2.2, if_neg e]
def roots (m : List Int) : Nat → List Int
  | 0 => []
  | i + 1 => if m.getD i 0 = i then roots m i ++ [(i : Int)] else roots m i
theorem zAY (m : List Int) : ∀ (i : Nat) (x : Int), x ∈ roots m i → 0 ≤ x ∧ x < i ∧ m.getD x.toNat 0 = x
  | 0, x, h => by cases h
  | i + 1, x, h => by
    rw [roots] at h
    split at h
    · rename_i hc
      rcases List.mem_append.1 h with h | h
      · have := zAY m i x h; exact ⟨this.1, by omega, this.2.2⟩
      · have e : x = (i : Int) := by simpa using h
        subst e
        exact ⟨by omega, by omega, by rw [yny]; exact hc⟩
    · have := zAY m i x h; exact ⟨this.1, by omega, this.2.2⟩
theorem zAs (m : List Int) (j : Nat) (hj : m.getD j 0 = j) : ∀ i : Nat, j < i → (j : Int) ∈ roots m i ∧ (roots m i).idxOf (j : Int) = (roots m j).length
  | 0, h => by omega
  | i + 1, h => by
    rw [roots]
    by_cases e : j = i
    · subst e
      have hn : (j : Int) ∉ roots m j := fun hm => by have := zAY m j _ hm; omega
      rw [if_pos hj]
      refine ⟨by simp, ?_⟩
      rw [List.idxOf_append, if_neg hn]; simp
    · obtain ⟨h1, h2⟩ := zAs m j hj i (by omega)
      split
      · refine ⟨List.mem_append_left _ h1, ?_⟩
        rw [List.idxOf_append, if_pos h1, h2]
      · exact ⟨h1, h2⟩
theorem zAG (m : List Int) (i : Nat) : ∀ d : Nat, (roots m i).length ≤ (roots m (i + d)).length
  | 0 => yqy _
  | d + 1 => by
    have := zAG m i d
    rw [← Nat.add_assoc, roots]
    split
    · simp; omega
    · exact this
def zEh (m : List Int) (x : Int) : Int := ((roots m x.toNat).length : Int)
theorem zCS {m : List Int} (h : Low m) : ∀ (d i : Nat), i + d = m.length → Jh (roots m i) (m.drop i) = (m.drop i).map (zEh m)
  | 0, i, hi => by rw [List.drop_eq_nil_of_le (by omega)]; rfl
  | d + 1, i, hi => by
    have hlt : i < m.length := by omega
    have hg : m.getD i 0 = m[i] := by simp [hlt]
    obtain ⟨h0, h1, h2⟩ := h i hlt
    rw [hg] at h0 h1 h2
    rw [yoy hlt, Jh, yjy]
    have ih := zCS h d (i + 1) (by omega)
    rw [roots, hg] at ih
    by_cases e : m[i] = (i : Int)
    · have hn : m[i] ∉ roots m i := fun hm => by have := zAY m i _ hm; omega
      rw [if_neg hn]
      rw [if_pos e, ← e] at ih
      rw [ih]
      have er : zEh m m[i] = ((roots m i).length : Int) := by unfold zEh; rw [e, yny]
      rw [er]
    · obtain ⟨j, hj⟩ := Int.eq_ofNat_of_zero_le h0
      rw [hj, yny] at h2
      obtain ⟨k1, k2⟩ := zAs m j h2 i (by omega)
      rw [if_neg e] at ih
      rw [ih]
      have er : zEh m m[i] = ((roots m j).length : Int) := by unfold zEh; rw [hj, yny]
      rw [er, hj, if_pos k1, k2]
theorem zBx {m : List Int} (h : Low m) : zBm m = m.map (zEh m) := by
  have := zCS h m.length 0 (by omega)
  rw [List.drop_zero] at this
  exact this
def zDn (m : List Int) : Nat → Nat → List Int × Int → List Int × Int
  | _, 0, s => s
  | i, d + 1, s => zDn m (i + 1) d (if rd m (i : Int) = (i : Int) then (s.1.set i s.2, s.2 + 1) else s)
theorem zAt (m : List Int) : ∀ (d i : Nat) (s : List Int × Int), (zDn m i d s).1.length = s.1.length
  | 0, _, _ => rfl
  | d + 1, i, s => by
    rw [zDn, zAt m d (i + 1)]
    split <;> simp
theorem zBy (m : List Int) : ∀ (d i : Nat) (s : List Int × Int), i + d = m.length → s.1.length = m.length → s.2 = ((roots m i).length : Int) → (∀ j : Nat, j < i → m.getD j 0 = j → s.1.getD j 0 = ((roots m j).length : Int)) →
    (zDn m i d s).2 = ((roots m m.length).length : Int) ∧ ∀ j : Nat, j < m.length → m.getD j 0 = j → (zDn m i d s).1.getD j 0 = ((roots m j).length : Int)
  | 0, i, s, hi, hl, h2, h1 => by
    obtain rfl : i = m.length := by omega
    exact ⟨h2, h1⟩
  | d + 1, i, s, hi, hl, h2, h1 => by
    have hlt : i < m.length := by omega
    rw [zDn]
    by_cases e : m.getD i 0 = (i : Int)
    · rw [if_pos (by rw [zAm]; exact e)]
      refine zBy m d (i + 1) _ (by omega) (by simp [hl]) ?_ ?_
      · rw [roots, if_pos e]; simp [h2]
      · intro j hj hjm
        show (s.1.set i s.2).getD j 0 = _
        by_cases ej : j = i
        · subst ej
          simp [List.getD_eq_getElem?_getD, hl, hlt, h2]
        · have h3 := h1 j (by omega) hjm
          have e3 : (s.1.set i s.2).getD j 0 = s.1.getD j 0 := by
            simp only [List.getD_eq_getElem?_getD]
            rw [List.getElem?_set_ne (fun hh => ej hh.symm)]
          rw [e3, h3]
    · rw [if_neg (by rw [zAm]; exact e)]
      refine zBy m d (i + 1) s (by omega) hl ?_ ?_
      · rw [roots, if_neg e]; exact h2
      · intro j hj hjm
        by_cases ej : j = i
        · subst ej; exact absurd hjm e
        · exact h1 j (by omega) hjm
def QL (w : Nat) : Nat → List Int → List (List Int)
  | 0, _ => []
  | q + 1, xs => xs.take w :: QL w q (xs.drop w)
theorem Qn (w : Nat) : ∀ (q : Nat) (xs : List Int), (QL w q xs).length = q
  | 0, _ => rfl
  | q + 1, xs => by rw [QL, List.length_cons, Qn w q]
theorem zBO (w : Nat) : ∀ (q : Nat) (xs : List Int) (a : Nat), a < q → (QL w q xs)[a]? = some ((xs.drop (w * a)).take w)
  | 0, _, a, h => by omega
  | q + 1, xs, 0, h => by simp [QL]
  | q + 1, xs, a + 1, h => by
    rw [QL, List.getElem?_cons_succ, zBO w q _ a (by omega), List.drop_drop, Nat.mul_succ, Nat.add_comm (w * a)]
theorem zFM {m : List Int} (h : Low m) : m.map (rd (zDn m 0 m.length (List.replicate m.length 0, 0)).1) = zBm m ∧ (zDn m 0 m.length (List.replicate m.length 0, 0)).2 = ((roots m m.length).length : Int) := by
  obtain ⟨h1, h2⟩ := zBy m m.length 0 (List.replicate m.length 0, 0) (by omega) (by simp) rfl (fun j hj => by omega)
  refine ⟨?_, h1⟩
  rw [zBx h]
  apply List.map_congr_left
  intro x hx
  obtain ⟨i, hi, rfl⟩ := List.getElem_of_mem hx
  obtain ⟨q0, q1, q2⟩ := h i hi
  have hg : m.getD i 0 = m[i] := by simp [hi]
  rw [hg] at q0 q1 q2
  generalize m[i] = x at *
  obtain ⟨j, rfl⟩ := Int.eq_ofNat_of_zero_le q0
  rw [yny] at q2
  rw [zAm, h2 j (by omega) q2]
  unfold zEh
  rw [yny]
theorem zCx (xs : List Int) : ∀ x : Int, x ≤ xs.foldl mx x ∧ ∀ y ∈ xs, y ≤ xs.foldl mx x := by
  induction xs with
  | nil => intro x; exact ⟨Int.le_refl _, fun y hy => by cases hy⟩
  | cons z xs ih =>
    intro x
    obtain ⟨h1, h2⟩ := ih (mx x z)
    have h3 : x ≤ mx x z ∧ z ≤ mx x z := by unfold mx; split <;> omega
    rw [List.foldl_cons]
    refine ⟨by omega, fun y hy => ?_⟩
    rcases List.mem_cons.1 hy with rfl | hy
    · omega
    · exact h2 y hy
theorem zCT (xs : List Int) : ∀ x : Int, xs.foldl mx x = x ∨ xs.foldl mx x ∈ xs := by
  induction xs with
  | nil => intro x; exact .inl rfl
  | cons z xs ih =>
    intro x
    rw [List.foldl_cons]
    rcases ih (mx x z) with h | h
    · rw [h]
      unfold mx
      split
      · exact .inr (List.mem_cons_self ..)
      · exact .inl rfl
    · exact .inr (List.mem_cons_of_mem _ h)
theorem maxl {l : List Int} {M : Int} (h1 : ∀ y ∈ l, y ≤ M) (h2 : M ∈ l) : ∃ x xs, l = x :: xs ∧ xs.foldl mx x = M := by
  cases l with
  | nil => cases h2
  | cons x xs =>
    refine ⟨x, xs, rfl, ?_⟩
    obtain ⟨k1, k2⟩ := zCx xs x
    have k3 : xs.foldl mx x ≤ M := by
      rcases zCT xs x with h | h
      · rw [h]; exact h1 x (List.mem_cons_self ..)
      · exact h1 _ (List.mem_cons_of_mem _ h)
    have k4 : M ≤ xs.foldl mx x := by
      rcases List.mem_cons.1 h2 with h | h
      · rw [h]; exact k1
      · exact k2 M h
    omega
theorem zBP (m : List Int) : ∀ i : Nat, 0 < (roots m i).length → ∃ j : Nat, j < i ∧ m.getD j 0 = j ∧ (roots m j).length + 1 = (roots m i).length
  | 0, h => by simp [roots] at h
  | i + 1, h => by
    rw [roots] at h ⊢
    by_cases e : m.getD i 0 = (i : Int)
    · rw [if_pos e]
      exact ⟨i, by omega, e, by simp⟩
    · rw [if_neg e] at h ⊢
      obtain ⟨j, h1, h2, h3⟩ := zBP m i h
      exact ⟨j, by omega, h2, h3⟩
theorem zFN {m : List Int} (h : Low m) (hp : 0 < m.length) : ∃ x xs, zBm m = x :: xs ∧ xs.foldl mx x = ((roots m m.length).length : Int) - 1 := by
  have h00 := h 0 hp
  have e0 : m.getD 0 0 = ((0 : Nat) : Int) := by have := h00.1; have := h00.2.1; omega
  have hpos : 0 < (roots m m.length).length := by
    have := (zAs m 0 e0 m.length hp).1
    exact List.length_pos_of_mem this
  rw [zBx h]
  refine maxl ?_ ?_
  · intro y hy
    obtain ⟨x, hx, rfl⟩ := List.mem_map.1 hy
    obtain ⟨i, hi, rfl⟩ := List.getElem_of_mem hx
    obtain ⟨q0, q1, q2⟩ := h i hi
    have hg : m.getD i 0 = m[i] := by simp [hi]
    rw [hg] at q0 q1 q2
    generalize m[i] = x at *
    obtain ⟨j, rfl⟩ := Int.eq_ofNat_of_zero_le q0
    rw [yny] at q2
    have k := zAG m (j + 1) (m.length - (j + 1))
    rw [show j + 1 + (m.length - (j + 1)) = m.length by omega, roots, if_pos q2] at k
    unfold zEh
    rw [yny]
    simp at k
    omega
  · obtain ⟨j, h1, h2, h3⟩ := zBP m m.length hpos
    refine List.mem_map.2 ⟨(j : Int), ?_, ?_⟩
    · have : m.getD j 0 = m[j] := by simp [h1]
      rw [← h2, this]; exact List.getElem_mem _
    · unfold zEh
      rw [yny]; omega
end Go.Proofs.Ytembbpalgfikiaa.Lib
namespace Go.Proofs.Ytembbpalgfikiaa.P
open Go.RowKit Go.Proofs.YtembbpalgfikiaaW.PrintWords Go.Proofs.Ytembbpalgfikiaa.Lib
set_option linter.unusedVariables false
theorem zDO (n : Nat) (hn : n ≤ 1000000) : ∀ (d i : Nat) (xs : List Int), i + d = n → xs.length = i → Ev (fun k => zz.l0 k (n : Int) xs (i : Int)) (xs ++ qh (i : Int) d)
  | 0, i, xs, h, hl => by
    refine qV (fun k => by rw [zz.l0, if_neg (by omega)]) ?_
    rw [qh, List.append_nil]; exact Ev.now _
  | d + 1, i, xs, h, hl => by
    refine qV (fun k => by rw [zz.l0, if_pos (by omega), if_pos (by omega), qp (by omega)]) ?_
    have := zDO n hn d (i + 1) (xs ++ [(i : Int)]) (by omega) (by simp [hl])
    rw [List.append_assoc] at this
    exact this
theorem zBz (n : Nat) (hn : n ≤ 1000000) : Ev (fun k => zz.f k (n : Int)) (qh 0 n) := by
  have := zDO n hn n 0 [] (by omega) rfl
  exact this
theorem zCy (l : List Int) {i k : Int} (hl : l.length ≤ 1000000) (hi0 : 0 ≤ i) (hi1 : i < l.length) (hk0 : 0 ≤ k) (hk1 : k < l.length) : Ev (fun _ => qn.f l i k) (joi l i k) := Qe (if_pos ⟨hi0, hi1, hk0, hk1⟩)
def zEv (e : Int) : Int := rd [0, 0, 0, 1, 1, 2] e
def zDs (e : Int) : Int := rd [1, 2, 3, 2, 3, 3] e
theorem zFz {e : Int} (h0 : 0 ≤ e) (h1 : e < 6) : qj.f e = some (zEv e, zDs e) := by
  show (if 0 ≤ e then if e < 6 then (if e < 6 then some (zEv e, zDs e) else none) else none else none) = _
  rw [if_pos h0, if_pos h1, if_pos h1]
theorem zEi {e : Int} (h0 : 0 ≤ e) (h1 : e < 6) : sm (zEv e) ∧ sm (zDs e) ∧ zEv e ≠ zDs e := by
  rcases (show e = 0 ∨ e = 1 ∨ e = 2 ∨ e = 3 ∨ e = 4 ∨ e = 5 by omega) with rfl | rfl | rfl | rfl | rfl | rfl <;> (unfold sm; decide)
def eix (a b : Int) : Int := (zw.f 8 a b).getD 0
theorem zEj {a b : Int} (ha : sm a) (hb : sm b) (hne : a ≠ b) : Ev (fun k => zw.f k a b) (eix a b) ∧ 0 ≤ eix a b ∧ eix a b < 6 := by
  obtain ⟨ha0, ha1⟩ := ha
  obtain ⟨hb0, hb1⟩ := hb
  have key : zw.f 8 a b = some (eix a b) ∧ 0 ≤ eix a b ∧ eix a b < 6 := by
    rcases (show a = 0 ∨ a = 1 ∨ a = 2 ∨ a = 3 by omega) with rfl | rfl | rfl | rfl <;> rcases (show b = 0 ∨ b = 1 ∨ b = 2 ∨ b = 3 by omega) with rfl | rfl | rfl | rfl <;> first | exact absurd rfl hne | decide +kernel
  exact ⟨Ev.of (fun k => zw.mono _ _ k) key.1, key.2⟩
def JD (j b : Int) (p : List Int) : List Int → List Int → List Int
  | [], s => s
  | c :: cs, s => JD j b p cs (joi s (4 * j + c) (4 * b + rd p c))
theorem Jo (j b : Int) (p : List Int) : ∀ (L s : List Int), (JD j b p L s).length = s.length
  | [], _ => rfl
  | c :: cs, s => by rw [JD, Jo j b p cs, QE]
def Jd (j f b : Int) (p : List Int) : List Int → List Int → List Int
  | [], s => s
  | e :: es, s => Jd j f b p es (if zEv e = f ∨ zDs e = f then s else joi s (6 * j + e) (6 * b + eix (rd p (zEv e)) (rd p (zDs e))))
theorem Jp (j f b : Int) (p : List Int) : ∀ (L s : List Int), (Jd j f b p L s).length = s.length
  | [], _ => rfl
  | c :: cs, s => by
    rw [Jd, Jp j f b p cs]
    split
    · rfl
    · rw [QE]
structure Sk where
  v : List Int
  e : List Int
  f : List Int
def JT (s : Sk) (j f : Nat) (x : zr) : Sk :=
  ⟨JD j x.f0 (ZU x.f1) (zET [(f : Int)]) s.v, Jd j f x.f0 (ZU x.f1) (qh 0 6) s.e, joi s.f (4 * (j : Int) + f) (4 * x.f0 + rd (ZU x.f1) f)⟩
def Sk.ok (n : Nat) (s : Sk) : Prop := s.v.length = 4 * n ∧ s.e.length = 6 * n ∧ s.f.length = 4 * n
theorem zCU {n : Nat} {s : Sk} (h : s.ok n) (j f : Nat) (x : zr) : (JT s j f x).ok n := ⟨by rw [JT, Jo]; exact h.1, by rw [JT, Jp]; exact h.2.1, by rw [JT, QE]; exact h.2.2⟩
section
variable {t : Tri}
theorem zEk (h : Zt t = true) {j f : Nat} (hj : j < t.length) (hf : f < 4) : ∃ hf' : f < t[j].length, fc t (j : Int) (f : Int) = t[j][f] := by
  have h4 : t[j].length = 4 := (ZD h).2.1 _ (List.getElem_mem hj)
  exact ⟨by omega, by unfold fc; rw [JO t j hj, zBI _ f (by omega)]⟩
theorem zC0 (h : Zt t = true) {j f : Nat} {x : zr} (hF : zAR t j f x) (hb : ¬ x.f0 < 0) : j < t.length ∧ f ≤ 3 ∧ 0 ≤ x.f0 ∧ x.f0 < (t.length : Int) ∧ 0 ≤ x.f1 ∧ x.f1 ≤ 23 := by
  obtain ⟨h1, h2, h3⟩ := hF
  have h4 : t[j].length = 4 := (ZD h).2.1 _ (List.getElem_mem h1)
  obtain ⟨_, hfc⟩ := zEk h h1 (f := f) (by omega)
  have := zEf (a := (j : Int)) (f := (f : Int)) h (by omega) (by omega) (by omega) (by omega)
  rw [hfc, h3] at this
  rcases this with ⟨e, _⟩ | ⟨⟨g0, g1, g2, g3⟩, _⟩
  · omega
  · exact ⟨h1, by omega, g0, g1, g2, g3⟩
theorem zEl (h : Zt t = true) : zDg t := by
  obtain ⟨h8, h4, _⟩ := ZD h
  refine ⟨h8, fun r hr => by rw [h4 r hr]; omega, fun r hr x hx hb => ?_⟩
  obtain ⟨j, hj, rfl⟩ := List.getElem_of_mem hr
  obtain ⟨f, hf, rfl⟩ := List.getElem_of_mem hx
  have := zC0 h (j := j) (f := f) ⟨hj, hf, rfl⟩ hb
  exact ⟨this.2.2.2.1, this.2.2.2.2⟩
theorem zCV {σ τ : Type} {Rel : σ → τ → Prop} {s1 : σ → Nat → Nat → zr → σ} {s2 : τ → Nat → Nat → zr → τ} (h : ∀ a b j f x, zAR t j f x → ¬ x.f0 < 0 → Rel a b → Rel (s1 a j f x) (s2 b j f x)) (j : Nat) (hj : j < t.length) :
    ∀ (d f : Nat) (a : σ) (b : τ), f + d = t[j].length → Rel a b → Rel (zDr s1 j (t[j].drop f) f a) (zDr s2 j (t[j].drop f) f b)
  | 0, f, a, b, hf, hr => by rw [List.drop_eq_nil_of_le (by omega)]; exact hr
  | d + 1, f, a, b, hf, hr => by
    have hlt : f < t[j].length := by omega
    rw [yoy hlt, zDr, zDr]
    refine zCV h j hj d (f + 1) _ _ (by omega) ?_
    by_cases hb : t[j][f].f0 < 0
    · rw [if_pos hb, if_pos hb]; exact hr
    · rw [if_neg hb, if_neg hb]
      exact h _ _ _ _ _ ⟨hj, hlt, rfl⟩ hb hr
theorem zCW {σ τ : Type} {Rel : σ → τ → Prop} {s1 : σ → Nat → Nat → zr → σ} {s2 : τ → Nat → Nat → zr → τ} (h : ∀ a b j f x, zAR t j f x → ¬ x.f0 < 0 → Rel a b → Rel (s1 a j f x) (s2 b j f x)) :
    ∀ (d j : Nat) (a : σ) (b : τ), j + d = t.length → Rel a b → Rel (zBE s1 (t.drop j) j a) (zBE s2 (t.drop j) j b)
  | 0, j, a, b, hj, hr => by rw [List.drop_eq_nil_of_le (by omega)]; exact hr
  | d + 1, j, a, b, hj, hr => by
    have hlt : j < t.length := by omega
    rw [yoy hlt, zBE, zBE]
    refine zCW h d (j + 1) _ _ (by omega) ?_
    have := zCV h j hlt t[j].length 0 a b (by omega) hr
    rwa [List.drop_zero] at this
theorem zCX {σ τ : Type} {Rel : σ → τ → Prop} {s1 : σ → Nat → Nat → zr → σ} {s2 : τ → Nat → Nat → zr → τ} (h : ∀ a b j f x, zAR t j f x → ¬ x.f0 < 0 → Rel a b → Rel (s1 a j f x) (s2 b j f x)) (a : σ) (b : τ) (hr : Rel a b) : Rel (zBE s1 t 0 a) (zBE s2 t 0 b) := by
  have := zCW h t.length 0 a b (by omega) hr
  rwa [List.drop_zero] at this
variable {ρ : Type}
theorem zCz (h : Zt t = true) {r : (List (List Int)) × (List (List Int)) × (List (List Int)) × List Int} {j f b p : Int} (hj0 : 0 ≤ j) (hj1 : j < t.length) (hb0 : 0 ≤ b) (hb1 : b < t.length) (hp0 : 0 ≤ p) (hp1 : p ≤ 23) (E F : List Int) :
    ∀ (d : Nat) (c : Int) (V : List Int), 0 ≤ c → c + d = 4 → V.length = 4 * t.length → Ev (fun k => zQ.l3 k (t.length : Int) (JD j b (ZU p) ((qh c d).filter fun x => ![f].contains x) V) E F j f 0 t b p) r →
      Ev (fun k => zQ.l2 k (t.length : Int) V E F j f c t b p) r
  | 0, c, V, hc, he, hl, hr => by
    refine qV (fun k => by rw [zQ.l2, if_neg (by omega)]) ?_
    exact hr
  | d + 1, c, V, hc, he, hl, hr => by
    have h8 := (ZD h).1
    by_cases hcf : c = f
    · refine qV (fun k => by rw [zQ.l2, if_pos (by omega), if_pos hcf, qk (by omega) (by omega)]) ?_
      refine zCz h hj0 hj1 hb0 hb1 hp0 hp1 E F d (c + 1) V (by omega) (by omega) hl ?_
      have e1 : (![f].contains c) = false := by simp [hcf]
      rwa [qh, List.filter_cons, e1, if_neg (by simp)] at hr
    · have e1 : (![f].contains c) = true := by simp [hcf]
      have hd := QV hp0 hp1 hc (show c ≤ 3 by omega)
      refine qV (fun k => by rw [zQ.l2, if_pos (by omega), if_neg hcf]) ?_
      refine Ev.bind (zA5 hp0 hp1 hc (by omega)) ?_
      refine Ev.congr (fun k => by rw [qk (show -9223372036854775808 ≤ 4 * j by omega) (by omega), qk (show -9223372036854775808 ≤ 4 * b by omega) (by omega), qk (show -9223372036854775808 ≤ 4 * j + c by omega) (by omega), qk (show -9223372036854775808 ≤ 4 * b + rd (ZU p) c by omega) (by omega), qk (show -9223372036854775808 ≤ c + 1 by omega) (by omega)]) ?_
      refine Ev.bind (zCy V (by omega) (by omega) (by omega) (by omega) (by omega)) ?_
      refine zCz h hj0 hj1 hb0 hb1 hp0 hp1 E F d (c + 1) _ (by omega) (by omega) (by rw [QE]; exact hl) ?_
      rwa [qh, List.filter_cons, e1, if_pos rfl, JD] at hr
theorem zEm {p a b : Int} (hp0 : 0 ≤ p) (hp1 : p ≤ 23) (ha : sm a) (hb : sm b) (hne : a ≠ b) : rd (ZU p) a ≠ rd (ZU p) b := by
  obtain ⟨ha0, ha1⟩ := ha
  obtain ⟨hb0, hb1⟩ := hb
  obtain ⟨n, rfl⟩ := Int.eq_ofNat_of_zero_le hp0
  have key : ∀ m : Fin 24, zt (m.val : Int) 0 ≠ zt (m.val : Int) 1 ∧ zt (m.val : Int) 0 ≠ zt (m.val : Int) 2 ∧ zt (m.val : Int) 0 ≠ zt (m.val : Int) 3 ∧ zt (m.val : Int) 1 ≠ zt (m.val : Int) 2 ∧ zt (m.val : Int) 1 ≠ zt (m.val : Int) 3 ∧ zt (m.val : Int) 2 ≠ zt (m.val : Int) 3 := by decide
  obtain ⟨k1, k2, k3, k4, k5, k6⟩ := key ⟨n, by omega⟩
  dsimp only at k1 k2 k3 k4 k5 k6
  rcases (show a = 0 ∨ a = 1 ∨ a = 2 ∨ a = 3 by omega) with rfl | rfl | rfl | rfl <;> rcases (show b = 0 ∨ b = 1 ∨ b = 2 ∨ b = 3 by omega) with rfl | rfl | rfl | rfl <;> first | exact absurd rfl hne | assumption | exact Ne.symm (by assumption)
theorem zD0 (h : Zt t = true) {r : (List (List Int)) × (List (List Int)) × (List (List Int)) × List Int} {j f b p : Int} (hj0 : 0 ≤ j) (hj1 : j < t.length) (hf0 : 0 ≤ f) (hf1 : f ≤ 3) (hb0 : 0 ≤ b) (hb1 : b < t.length) (hp0 : 0 ≤ p) (hp1 : p ≤ 23) (V F : List Int) :
    ∀ (d : Nat) (e : Int) (E : List Int), 0 ≤ e → e + d = 6 → E.length = 6 * t.length → Ev (fun k => zQ.l1 k (t.length : Int) V (Jd j f b (ZU p) (qh e d) E) F j (f + 1) t) r →
      Ev (fun k => zQ.l3 k (t.length : Int) V E F j f e t b p) r
  | 0, e, E, hc, he, hl, hr => by
    refine qV (fun k => by rw [zQ.l3, if_neg (by omega), qk (by omega) (by omega)]) ?_
    exact hr
  | d + 1, e, E, hc, he, hl, hr => by
    have h8 := (ZD h).1
    obtain ⟨sa, sb, hab⟩ := zEi hc (show e < 6 by omega)
    rw [qh, Jd] at hr
    have hskip : (zEv e = f ∨ zDs e = f) → Ev (fun k => zQ.j4 k (t.length : Int) V E F j f e (zEv e) (zDs e) false t b p) r := fun hq => by
      rw [if_pos hq] at hr
      refine qV (fun k => by rw [zQ.j4, if_neg (by simp), qk (by omega) (by omega)]) ?_
      exact zD0 h hj0 hj1 hf0 hf1 hb0 hb1 hp0 hp1 V F d (e + 1) E (by omega) (by omega) hl hr
    refine qV (fun k => by rw [zQ.l3, if_pos (by omega), zFz hc (by omega), yfy]) ?_
    dsimp only
    by_cases ea : zEv e = f
    · exact qq ea (hskip (.inl ea))
    · refine Zn ea ?_
      by_cases eb : zDs e = f
      · have e9 : (zDs e != f) = false := by simp [eb]
        rw [e9]; exact hskip (.inr eb)
      · have e9 : (zDs e != f) = true := by simp [eb]
        rw [e9]
        rw [if_neg (fun hq => hq.elim ea eb)] at hr
        obtain ⟨k1, k2, k3⟩ := zEj (QV hp0 hp1 sa.1 sa.2) (QV hp0 hp1 sb.1 sb.2) (zEm hp0 hp1 sa sb hab)
        refine qV (fun k => by rw [zQ.j4, if_pos rfl]) ?_
        refine Ev.bind (zA5 hp0 hp1 sa.1 sa.2) (Ev.bind (zA5 hp0 hp1 sb.1 sb.2) (Ev.bind k1 ?_))
        refine Ev.congr (fun k => by rw [qk (show -9223372036854775808 ≤ 6 * j by omega) (by omega), qk (show -9223372036854775808 ≤ 6 * b by omega) (by omega), qk (show -9223372036854775808 ≤ 6 * j + e by omega) (by omega), qk (show -9223372036854775808 ≤ 6 * b + eix (rd (ZU p) (zEv e)) (rd (ZU p) (zDs e)) by omega) (by omega), qk (show -9223372036854775808 ≤ e + 1 by omega) (by omega)]) ?_
        refine Ev.bind (zCy E (by omega) (by omega) (by omega) (by omega) (by omega)) ?_
        exact zD0 h hj0 hj1 hf0 hf1 hb0 hb1 hp0 hp1 V F d (e + 1) _ (by omega) (by omega) (by rw [QE]; exact hl) hr
theorem zD1 (h : Zt t = true) {r : (List (List Int)) × (List (List Int)) × (List (List Int)) × List Int} (j : Nat) (hj : j < t.length) :
    ∀ (d f : Nat) (s : Sk), f + d = 4 → s.ok t.length → (∀ s' : Sk, s'.ok t.length → s' = zDr JT j (t[j].drop f) f s → Ev (fun k => zQ.l0 k (t.length : Int) s'.v s'.e s'.f ((j + 1 : Nat) : Int) t) r) →
      Ev (fun k => zQ.l1 k (t.length : Int) s.v s.e s.f (j : Int) (f : Int) t) r
  | 0, f, s, hf, hs, hr => by
    have h8 := (ZD h).1
    have h4 : t[j].length = 4 := (ZD h).2.1 _ (List.getElem_mem hj)
    refine qV (fun k => by rw [zQ.l1, if_neg (by omega), qp (by omega)]) ?_
    exact hr s hs (by rw [List.drop_eq_nil_of_le (by omega)]; rfl)
  | d + 1, f, s, hf, hs, hr => by
    have h8 := (ZD h).1
    obtain ⟨hlt, hfc⟩ := zEk h hj (f := f) (by omega)
    have hrl := rowlen h (a := (j : Int)) (by omega) (by omega)
    have e0 : (zI (zE t (j : Int)) (f : Int)) = t[j][f] := hfc
    rw [yoy hlt, zDr] at hr
    refine qV (fun k => by rw [zQ.l1, if_pos (by omega), if_pos (by omega), if_pos (by omega), if_pos (by omega), if_pos (by omega), e0]) ?_
    by_cases hb : t[j][f].f0 < 0
    · rw [if_pos hb] at hr
      refine qq hb (Ev.congr (fun k => by rw [qp (by omega)]) ?_)
      exact zD1 h j hj d (f + 1) s (by omega) hs hr
    · rw [if_neg hb] at hr
      refine Zn hb ?_
      obtain ⟨_, _, b0, b1, p0, p1⟩ := zC0 h (j := j) (f := f) (x := t[j][f]) ⟨hj, hlt, rfl⟩ hb
      generalize t[j][f] = x at *
      have hd := QV p0 p1 (show (0 : Int) ≤ (f : Int) by omega) (by omega)
      refine Ev.bind (zA5 p0 p1 (by omega) (by omega)) ?_
      refine Ev.congr (fun k => by rw [qk (show -9223372036854775808 ≤ 4 * (j : Int) by omega) (by omega), qk (show -9223372036854775808 ≤ 4 * x.f0 by omega) (by omega), qk (show -9223372036854775808 ≤ 4 * (j : Int) + (f : Int) by omega) (by omega), qk (show -9223372036854775808 ≤ 4 * x.f0 + rd (ZU x.f1) (f : Int) by omega) (by omega)]) ?_
      have hl1 := hs.1
      have hl2 := hs.2.1
      have hl3 := hs.2.2
      refine Ev.bind (zCy s.f (by omega) (by omega) (by omega) (by omega) (by omega)) ?_
      refine zCz h (by omega) (by omega) b0 b1 p0 p1 s.e _ 4 0 s.v (by omega) (by omega) hl1 ?_
      refine zD0 h (by omega) (by omega) (by omega) (by omega) b0 b1 p0 p1 _ _ 6 0 s.e (by omega) (by omega) hl2 ?_
      have e1 : ((f : Int) + 1) = ((f + 1 : Nat) : Int) := by omega
      rw [e1]
      exact zD1 h j hj d (f + 1) (JT s j f x) (by omega) (zCU hs _ _ _) hr
end
theorem zEn {m : List Int} {w : Nat} {x6 : List Int} {x7 : Int} (hm : ∀ x ∈ m, 0 ≤ x ∧ x < x6.length) (hL : m.length ≤ 1000000) (hw : w ≤ 1000) {r : List (List Int) × Int} {o : Nat} (ho : o + w ≤ m.length) (x8 : List (List Int)) (h8 : x8.length ≤ 1000000) :
    ∀ (d i : Nat) (acc : List Int), i + d = o + w → acc.length + d = w → Ev (fun k => ze.l1 k m (w : Int) x6 x7 (x8 ++ [acc ++ ((m.map (rd x6)).drop i).take d]) ((o + w : Nat) : Int)) r → Ev (fun k => ze.l2 k m (w : Int) x6 x7 x8 (o : Int) acc (i : Int)) r
  | 0, i, acc, hi, ha, hr => by
    refine qV (fun k => by rw [ze.l2, qk (show -9223372036854775808 ≤ (o : Int) + (w : Int) by omega) (by omega), if_neg (by omega), if_pos (by omega)]) ?_
    rw [List.take_zero, List.append_nil] at hr
    exact hr
  | d + 1, i, acc, hi, ha, hr => by
    have hlt : i < m.length := by omega
    have hb := hm m[i] (List.getElem_mem hlt)
    have hg := zFs m i hlt
    refine qV (fun k => by rw [ze.l2, qk (show -9223372036854775808 ≤ (o : Int) + (w : Int) by omega) (by omega), if_pos (by omega), if_pos (by omega), if_pos (by omega), hg, if_pos hb.1, if_pos hb.2, if_pos (by omega), qp (by omega)]) ?_
    refine zEn hm hL hw ho x8 h8 d (i + 1) _ (by omega) (by simp; omega) ?_
    have e : ((m.map (rd x6)).drop i).take (d + 1) = rd x6 m[i] :: ((m.map (rd x6)).drop (i + 1)).take d := by
      rw [yoy (by simpa using hlt), List.take_succ_cons, List.getElem_map]
    rw [e] at hr
    rw [List.append_assoc]
    exact hr
theorem zEo {m : List Int} {w : Nat} {x6 : List Int} {x7 : Int} (hm : ∀ x ∈ m, 0 ≤ x ∧ x < x6.length) (hL : m.length ≤ 1000000) (hw : w ≤ 1000) (hw0 : 0 < w) :
    ∀ (q o : Nat) (x8 : List (List Int)), o + w * q = m.length → x8.length + q ≤ 1000000 → Ev (fun k => ze.l1 k m (w : Int) x6 x7 x8 (o : Int)) (x8 ++ QL w q ((m.map (rd x6)).drop o), x7)
  | 0, o, x8, ho, h8 => by
    refine qV (fun k => by rw [ze.l1, if_neg (by omega)]) ?_
    rw [QL, List.append_nil]; exact Ev.now _
  | q + 1, o, x8, ho, h8 => by
    rw [Nat.mul_succ] at ho
    refine qV (fun k => by rw [ze.l1, if_pos (by omega)]) ?_
    refine zEn hm hL hw (by omega) x8 (by omega) w o [] (by omega) (by simp) ?_
    rw [List.nil_append]
    have := zEo (x7 := x7) hm hL hw hw0 q (o + w) (x8 ++ [((m.map (rd x6)).drop o).take w]) (by omega) (by simp; omega)
    rw [QL, List.drop_drop]
    rwa [List.append_assoc] at this
theorem zD2 {m : List Int} (w : Int) (hL : m.length ≤ 1000000) {r : List (List Int) × Int} : ∀ (d i : Nat) (s : List Int × Int), i + d = m.length → s.1.length = m.length → 0 ≤ s.2 → s.2 ≤ i →
    Ev (fun k => ze.l1 k m w (zDn m i d s).1 (zDn m i d s).2 [] 0) r → Ev (fun k => ze.l0 k m w s.1 s.2 [] (i : Int)) r
  | 0, i, s, hi, hs, h0, h1, hr => by
    refine qV (fun k => by rw [ze.l0, if_neg (by omega)]) ?_
    exact hr
  | d + 1, i, s, hi, hs, h0, h1, hr => by
    rw [zDn] at hr
    by_cases e : rd m (i : Int) = (i : Int)
    · rw [if_pos e] at hr
      refine qV (fun k => by rw [ze.l0, if_pos (by omega), if_pos (by omega), if_pos e, if_pos (by omega), qk (show -9223372036854775808 ≤ s.2 + 1 by omega) (by omega), qp (by omega), yny]) ?_
      exact zD2 w hL d (i + 1) (s.1.set i s.2, s.2 + 1) (by omega) (by simp [hs]) (by dsimp only; omega) (by dsimp only; omega) hr
    · rw [if_neg e] at hr
      refine qV (fun k => by rw [ze.l0, if_pos (by omega), if_pos (by omega), if_neg e, qp (by omega)]) ?_
      exact zD2 w hL d (i + 1) s (by omega) hs h0 (by omega) hr
theorem zG0 {m : List Int} (h : Low m) : ∀ x ∈ m, 0 ≤ x ∧ x < m.length := by
  intro x hx
  obtain ⟨i, hi, rfl⟩ := List.getElem_of_mem hx
  obtain ⟨q0, q1, _⟩ := h i hi
  have hg : m.getD i 0 = m[i] := by simp [hi]
  rw [hg] at q0 q1
  omega
theorem zD3 {m : List Int} (h : Low m) {w q : Nat} (hq : m.length = w * q) (hw0 : 0 < w) (hw : w ≤ 1000) (hL : m.length ≤ 1000000) : Ev (fun k => ze.f k m (w : Int)) (QL w q (zBm m), ((roots m m.length).length : Int)) := by
  obtain ⟨e1, e2⟩ := zFM h
  have hqb : q ≤ m.length := by rw [hq]; exact Nat.le_mul_of_pos_left q hw0
  refine qq (by omega) (qq (by omega) ?_)
  rw [yny]
  refine zD2 (w : Int) hL m.length 0 (List.replicate m.length 0, 0) (by omega) (by simp) (by dsimp only; omega) (by dsimp only; omega) ?_
  have hlen := zAt m m.length 0 (List.replicate m.length 0, 0)
  rw [List.length_replicate] at hlen
  have := zEo (x7 := (zDn m 0 m.length (List.replicate m.length 0, 0)).2) (x6 := (zDn m 0 m.length (List.replicate m.length 0, 0)).1) (fun x hx => by rw [hlen]; exact zG0 h x hx) hL hw hw0 q 0 [] (by omega) (by simp; omega)
  rw [List.nil_append, List.drop_zero, e1, e2] at this
  rw [e2]
  exact this
section
variable {t : Tri}
def Sk.low (s : Sk) : Prop := Low s.v ∧ Low s.e ∧ Low s.f
theorem zFg {j b p : Int} {n : Nat} (hj0 : 0 ≤ j) (hj1 : j < n) (hb0 : 0 ≤ b) (hb1 : b < n) (hp0 : 0 ≤ p) (hp1 : p ≤ 23) : ∀ (L s : List Int), (∀ c ∈ L, sm c) → Low s → s.length = 4 * n → Low (JD j b (ZU p) L s)
  | [], s, _, hs, _ => hs
  | c :: cs, s, hc, hs, hl => by
    rw [JD]
    obtain ⟨c0, c1⟩ := hc c (List.mem_cons_self ..)
    have hd := QV hp0 hp1 c0 c1
    exact zFg hj0 hj1 hb0 hb1 hp0 hp1 cs _ (fun x hx => hc x (List.mem_cons_of_mem _ hx)) (zCw hs (by omega) (by omega) (by omega) (by omega)) (by rw [QE]; exact hl)
theorem zFh {j f b p : Int} {n : Nat} (hj0 : 0 ≤ j) (hj1 : j < n) (hb0 : 0 ≤ b) (hb1 : b < n) (hp0 : 0 ≤ p) (hp1 : p ≤ 23) : ∀ (L s : List Int), (∀ e ∈ L, 0 ≤ e ∧ e < 6) → Low s → s.length = 6 * n → Low (Jd j f b (ZU p) L s)
  | [], s, _, hs, _ => hs
  | e :: es, s, he, hs, hl => by
    rw [Jd]
    obtain ⟨e0, e1⟩ := he e (List.mem_cons_self ..)
    obtain ⟨sa, sb, hab⟩ := zEi e0 e1
    obtain ⟨_, k2, k3⟩ := zEj (QV hp0 hp1 sa.1 sa.2) (QV hp0 hp1 sb.1 sb.2) (zEm hp0 hp1 sa sb hab)
    refine zFh hj0 hj1 hb0 hb1 hp0 hp1 es _ (fun x hx => he x (List.mem_cons_of_mem _ hx)) ?_ ?_
    · split
      · exact hs
      · exact zCw hs (by omega) (by omega) (by omega) (by omega)
    · split
      · exact hl
      · rw [QE]; exact hl
theorem zDo (h : Zt t = true) {s : Sk} (ho : s.ok t.length) (hl : s.low) {j f : Nat} {x : zr} (hF : zAR t j f x) (hb : ¬ x.f0 < 0) : (JT s j f x).low := by
  obtain ⟨h1, h2, b0, b1, p0, p1⟩ := zC0 h hF hb
  obtain ⟨o1, o2, o3⟩ := ho
  have hd := QV p0 p1 (show (0 : Int) ≤ (f : Int) by omega) (by omega)
  refine ⟨zFg (by omega) (by omega) b0 b1 p0 p1 _ _ (fun c hc => (zCr hc).1) hl.1 o1, zFh (by omega) (by omega) b0 b1 p0 p1 _ _ (fun e he => ?_) hl.2.1 o2, zCw hl.2.2 (by omega) (by omega) (by omega) (by omega)⟩
  have := (zFc 0 e 6).1 he
  omega
def sk0 (t : Tri) : Sk := ⟨qh 0 (4 * t.length), qh 0 (6 * t.length), qh 0 (4 * t.length)⟩
theorem zFi : (sk0 t).ok t.length := ⟨ZH _ _, ZH _ _, ZH _ _⟩
def Jj (t : Tri) : Sk := zBE JT t 0 (sk0 t)
theorem JP (h : Zt t = true) : (Jj t).ok t.length ∧ (Jj t).low := by
  have := zCX (t := t) (σ := Sk) (τ := Sk) (Rel := fun a _ => a.ok t.length ∧ a.low) (s1 := JT) (s2 := JT) (fun a b j f x hF hb hr => ⟨zCU hr.1 _ _ _, zDo h hr.1 hr.2 hF hb⟩) (sk0 t) (sk0 t) ⟨zFi, zEg _, zEg _, zEg _⟩
  exact this
def JQ (t : Tri) : List Int := zBm (Jj t).v
def zCY (t : Tri) : Int := ((roots (Jj t).v (Jj t).v.length).length : Int)
def countF (t : Tri) : (List (List Int)) × (List (List Int)) × (List (List Int)) × List Int :=
  (QL 4 t.length (JQ t), QL 6 t.length (zBm (Jj t).e), QL 4 t.length (zBm (Jj t).f), [zCY t, ((roots (Jj t).e (Jj t).e.length).length : Int), ((roots (Jj t).f (Jj t).f.length).length : Int), (t.length : Int)])
theorem zEp (h : Zt t = true) {r : (List (List Int)) × (List (List Int)) × (List (List Int)) × List Int} :
    ∀ (d j : Nat) (s : Sk), j + d = t.length → s.ok t.length → (∀ s' : Sk, s' = zBE JT (t.drop j) j s → Ev (fun k => zQ.l0 k (t.length : Int) s'.v s'.e s'.f (t.length : Int) t) r) →
      Ev (fun k => zQ.l0 k (t.length : Int) s.v s.e s.f (j : Int) t) r
  | 0, j, s, hj, hs, hr => by
    obtain rfl : j = t.length := by omega
    exact hr s (by rw [List.drop_length]; rfl)
  | d + 1, j, s, hj, hs, hr => by
    have hlt : j < t.length := by omega
    rw [yoy hlt, zBE] at hr
    refine qV (fun k => by rw [zQ.l0, if_pos (by omega)]) ?_
    refine zD1 h j hlt 4 0 s (by omega) hs (fun s' hs' he => ?_)
    rw [List.drop_zero] at he
    subst he
    exact zEp h d (j + 1) _ (by omega) hs' hr
theorem zC1 (h : Zt t = true) : Ev (fun k => zQ.f k t) (countF t) := by
  have h8 := (ZD h).1
  obtain ⟨⟨o1, o2, o3⟩, w1, w2, w3⟩ := JP h
  refine Ev.bind (Qe (by unfold qZ.f; rfl)) ?_
  have e4 : wrap64 (4 * (t.length : Int)) = ((4 * t.length : Nat) : Int) := by rw [qk (by omega) (by omega)]; push_cast; rfl
  have e6 : wrap64 (6 * (t.length : Int)) = ((6 * t.length : Nat) : Int) := by rw [qk (by omega) (by omega)]; push_cast; rfl
  refine Ev.congr (fun k => by rw [e4, e6]) ?_
  refine Ev.bind (zBz (4 * t.length) (by omega)) (Ev.bind (zBz (6 * t.length) (by omega)) (Ev.bind (zBz (4 * t.length) (by omega)) ?_))
  refine zEp h t.length 0 (sk0 t) (by omega) zFi (fun s' hs' => ?_)
  rw [List.drop_zero] at hs'
  subst hs'
  refine qV (fun k => by rw [zQ.l0, if_neg (by omega)]) ?_
  refine Ev.bind (Ev.now _) ?_
  refine Ev.bind (zD3 (m := (Jj t).v) (w := 4) (q := t.length) w1 o1 (by omega) (by omega) (by omega)) ?_
  refine qq (by simp) ?_
  refine Ev.bind (zD3 (m := (Jj t).e) (w := 6) (q := t.length) w2 o2 (by omega) (by omega) (by omega)) ?_
  refine qq (by simp) ?_
  refine Ev.bind (zD3 (m := (Jj t).f) (w := 4) (q := t.length) w3 o3 (by omega) (by omega) (by omega)) ?_
  refine qq (by simp) ?_
  exact Ev.now _
theorem zCZ {j b p : Int} {n : Nat} (hj0 : 0 ≤ j) (hj1 : j < n) (hb0 : 0 ≤ b) (hb1 : b < n) (hp0 : 0 ≤ p) (hp1 : p ≤ 23) : ∀ (L a s : List Int), (∀ c ∈ L, sm c) → Ker a s → a.length = 4 * n → (∀ x ∈ a, 0 ≤ x ∧ x < 4 * (n : Int)) →
    Ker (Qg j b (ZU p) L a) (JD j b (ZU p) L s) ∧ (∀ x ∈ Qg j b (ZU p) L a, 0 ≤ x ∧ x < 4 * (n : Int))
  | [], a, s, _, hk, _, hr => ⟨hk, hr⟩
  | c :: cs, a, s, hc, hk, hl, hr => by
    rw [Qg, JD]
    obtain ⟨c0, c1⟩ := hc c (List.mem_cons_self ..)
    have hd := QV hp0 hp1 c0 c1
    have i0 : 0 ≤ 4 * j + c := by omega
    have i1 : 4 * j + c < a.length := by omega
    have k0 : 0 ≤ 4 * b + rd (ZU p) c := by omega
    have k1 : 4 * b + rd (ZU p) c < a.length := by omega
    refine zCZ hj0 hj1 hb0 hb1 hp0 hp1 cs _ _ (fun x hx => hc x (List.mem_cons_of_mem _ hx)) (hk.zFt i0 i1 k0 k1) (by rw [JG]; exact hl) (fun x hx => ?_)
    unfold uni at hx
    obtain ⟨y, hy, rfl⟩ := List.mem_map.1 hx
    split
    · refine hr _ ?_
      obtain ⟨m, hm⟩ := Int.eq_ofNat_of_zero_le i0
      rw [hm, zFs a m (by omega)]
      exact List.getElem_mem _
    · exact hr y hy
theorem vc_ker (h : Zt t = true) : Ker (zAV t) (Jj t).v ∧ (zAV t).length = 4 * t.length ∧ (∀ x ∈ zAV t, 0 ≤ x ∧ x < 4 * (t.length : Int)) := by
  refine zCX (t := t) (σ := List Int) (τ := Sk) (Rel := fun a b => Ker a b.v ∧ a.length = 4 * t.length ∧ (∀ x ∈ a, 0 ≤ x ∧ x < 4 * (t.length : Int))) (s1 := zAS) (s2 := JT) (fun a b j f x hF hb hr => ?_) (qh 0 (4 * t.length)) (sk0 t) ⟨Ker.refl _, ZH _ _, fun x hx => by have := (zFc 0 x _).1 hx; push_cast at this; omega⟩
  obtain ⟨h1, h2, b0, b1, p0, p1⟩ := zC0 h hF hb
  obtain ⟨q1, q2⟩ := zCZ (n := t.length) (show (0 : Int) ≤ (j : Int) by omega) (by omega) b0 b1 p0 p1 (zET [(f : Int)]) a b.v (fun c hc => (zCr hc).1) hr.1 hr.2.1 hr.2.2
  exact ⟨q1, by unfold zAS; rw [Jm]; exact hr.2.1, q2⟩
theorem zBQ (h : Zt t = true) : zg.f t = some (JQ t) := by
  have h8 := (ZD h).1
  obtain ⟨hk, hl, hr⟩ := vc_ker h
  have h1 : zCp (zAV t) = true := by
    unfold zCp
    rw [Bool.and_eq_true, decide_eq_true_eq, List.all_eq_true]
    exact ⟨by omega, fun x hx => ygy (by have := hr x hx; omega)⟩
  unfold zg.f
  rw [if_pos ⟨zEl h, h1⟩, hk.zBm]
  rfl
theorem Jv (h : Zt t = true) : (JQ t).length = 4 * t.length := by
  unfold JQ; rw [zCo]; exact (JP h).1.1
theorem zAu (m : List Int) : ∀ i : Nat, (roots m i).length ≤ i
  | 0 => yqy _
  | i + 1 => by
    have := zAu m i
    rw [roots]
    split
    · simp; omega
    · omega
theorem zEq (h : Zt t = true) : 0 ≤ zCY t ∧ zCY t ≤ 32 := by
  have h8 := (ZD h).1
  have := zAu (Jj t).v (Jj t).v.length
  have := (JP h).1.1
  unfold zCY; omega
theorem zC2 (h : Zt t = true) : qv.f (JQ t) = some (zCY t) := by
  have hb := zEq h
  have hl := Jv h
  unfold qv.f
  by_cases h0 : t.length = 0
  · rw [if_pos (by omega)]
    have := (JP h).1.1
    have := zAu (Jj t).v (Jj t).v.length
    unfold zCY at hb ⊢
    congr 1; omega
  · rw [if_neg (by omega)]
    obtain ⟨x, xs, e1, e2⟩ := zFN (JP h).2.1 (by have := (JP h).1.1; omega)
    have e3 : JQ t = x :: xs := e1
    rw [e3]
    unfold Zb.f
    rw [yfy, e2]
    unfold zCY at hb ⊢
    rw [qk (by omega) (by omega)]
    congr 1; omega
end
def zAH (cls : List Int) (c : Int) : Nat → Nat → List (List Int)
  | 0, _ => []
  | d + 1, i => (if rd cls (i : Int) = c then [[((i / 4 : Nat) : Int), ((i % 4 : Nat) : Int)]] else []) ++ zAH cls c d (i + 1)
theorem zAv (cls : List Int) (c : Int) : ∀ d i : Nat, (zAH cls c d i).length ≤ d
  | 0, _ => yqy _
  | d + 1, i => by
    have := zAv cls c d (i + 1)
    rw [zAH, List.length_append]
    split <;> simp <;> omega
theorem zC3 (cls : List Int) (c : Int) : ∀ (d i : Nat) (x : List Int), x ∈ zAH cls c d i → ∃ k : Nat, i ≤ k ∧ k < i + d ∧ x = [((k / 4 : Nat) : Int), ((k % 4 : Nat) : Int)] ∧ rd cls (k : Int) = c
  | 0, i, x, h => by cases h
  | d + 1, i, x, h => by
    rw [zAH] at h
    rcases List.mem_append.1 h with h | h
    · split at h
      · rename_i e
        have : x = [((i / 4 : Nat) : Int), ((i % 4 : Nat) : Int)] := by simpa using h
        exact ⟨i, yqy _, by omega, this, e⟩
      · cases h
    · obtain ⟨k, h1, h2, h3⟩ := zC3 cls c d (i + 1) x h
      exact ⟨k, by omega, by omega, h3⟩
theorem zAI (cls : List Int) (c : Int) (n : Nat) (hn : n ≤ cls.length) (hL : cls.length ≤ 1000000) : ∀ (d i : Nat) (acc : List (List Int)), i + d = n → acc.length ≤ i → Ev (fun k => zd.l0 k c acc cls (n : Int) (i : Int)) (acc ++ zAH cls c d i)
  | 0, i, acc, hi, ha => by
    refine qV (fun k => by rw [zd.l0, if_neg (by omega)]) ?_
    rw [zAH, List.append_nil]; exact Ev.now _
  | d + 1, i, acc, hi, ha => by
    have e1 : wrap64 (Int.tdiv (i : Int) 4) = ((i / 4 : Nat) : Int) := by
      rw [Int.tdiv_eq_ediv_of_nonneg (by omega), qk (by omega) (by omega)]; rfl
    have e2 : Int.tmod (i : Int) 4 = ((i % 4 : Nat) : Int) := by
      rw [Int.tmod_eq_emod_of_nonneg (by omega)]; rfl
    rw [zAH]
    by_cases e : rd cls (i : Int) = c
    · refine qV (fun k => by rw [zd.l0, if_pos (by omega), if_pos (by omega), if_pos (by omega), if_pos e, if_pos (by omega), e1, e2, qp (by omega)]) ?_
      have := zAI cls c n hn hL d (i + 1) (acc ++ [[((i / 4 : Nat) : Int), ((i % 4 : Nat) : Int)]]) (by omega) (by simp; omega)
      rw [if_pos e, ← List.append_assoc]
      exact this
    · refine qV (fun k => by rw [zd.l0, if_pos (by omega), if_pos (by omega), if_pos (by omega), if_neg e, qp (by omega)]) ?_
      rw [if_neg e, List.nil_append]
      exact zAI cls c n hn hL d (i + 1) acc (by omega) (by omega)
section
variable {t : Tri}
theorem zDp (h : Zt t = true) (c : Int) : Ev (fun k => zd.f k t c) (zAH (JQ t) c (4 * t.length) 0) := by
  have h8 := (ZD h).1
  have hl := Jv h
  refine Ev.bind (Qe (zBQ h)) ?_
  have := zAI (JQ t) c (JQ t).length (yqy _) (by omega) (JQ t).length 0 [] (by omega) (by simp)
  rw [List.nil_append] at this
  rw [← hl]
  exact this
def zA9 (t : Tri) (c : Int) : Int := if Zt t = true then (if 0 ≤ c ∧ c ≤ zCY t - 1 then 0 else 2) else 1
theorem zFO (hs : Small t) (c : Int) : Ev (fun k => Zc.f k t c) (zA9 t c) := by
  refine Ev.bind (zBv hs) ?_
  unfold zA9
  cases h : Zt t with
  | false => exact Zn (by simp) (Ev.now _)
  | true =>
    have hb := zEq h
    refine qq rfl (Ev.bind (Qe (zBQ h)) (Ev.bind (Qe (zC2 h)) (Ev.bind (Qe (zAF _ _ _)) ?_)))
    rw [qk (by omega) (by omega), if_pos rfl]
    by_cases hc : 0 ≤ c ∧ c ≤ zCY t - 1
    · rw [if_pos hc]
      exact qq (by rw [ygy hc.1, ygy hc.2]; rfl) (Ev.now _)
    · rw [if_neg hc]
      refine Zn ?_ (Ev.now _)
      rw [Bool.and_eq_true, decide_eq_true_eq, decide_eq_true_eq]
      exact hc
theorem zG1 (h : Zt t = true) {a x : Nat} (ha : a < t.length) (hx : x < 4) : rd (qi (QL 4 t.length (JQ t)) (a : Int)) (x : Int) = rd (JQ t) ((4 * a + x : Nat) : Int) ∧ (qi (QL 4 t.length (JQ t)) (a : Int)).length = 4 := by
  have hl := Jv h
  have hg := zBO 4 t.length (JQ t) a ha
  have e : qi (QL 4 t.length (JQ t)) (a : Int) = ((JQ t).drop (4 * a)).take 4 := by
    simp [qi, List.getD_eq_getElem?_getD, hg]
  rw [e]
  refine ⟨?_, by rw [ymy, yly]; omega⟩
  rw [zAm, zAm]
  simp only [List.getD_eq_getElem?_getD]
  rw [List.getElem?_take, if_pos hx, List.getElem?_drop]
end
theorem zDP (cls : List Int) (c : Int) : ∀ (d i k : Nat), i ≤ k → k < i + d → rd cls (k : Int) = c → 0 < (zAH cls c d i).length
  | 0, i, k, h1, h2, _ => by omega
  | d + 1, i, k, h1, h2, h3 => by
    rw [zAH, List.length_append]
    by_cases e : i = k
    · subst e
      rw [if_pos h3]; simp; omega
    · have := zDP cls c d (i + 1) k (by omega) (by omega) h3
      omega
theorem zC4 (m : List Int) : ∀ (i c : Nat), c < (roots m i).length → ∃ j : Nat, j < i ∧ m.getD j 0 = j ∧ (roots m j).length = c
  | 0, c, h => by simp [roots] at h
  | i + 1, c, h => by
    rw [roots] at h
    by_cases e : m.getD i 0 = (i : Int)
    · rw [if_pos e, List.length_append, List.length_singleton] at h
      by_cases hc : c < (roots m i).length
      · obtain ⟨j, h1, h2⟩ := zC4 m i c hc
        exact ⟨j, by omega, h2⟩
      · exact ⟨i, by omega, e, by omega⟩
    · rw [if_neg e] at h
      obtain ⟨j, h1, h2⟩ := zC4 m i c h
      exact ⟨j, by omega, h2⟩
section
variable {t : Tri}
theorem zDQ (h : Zt t = true) {k : Nat} (hk : k < 4 * t.length) : ∃ j : Nat, (Jj t).v.getD k 0 = (j : Int) ∧ j ≤ k ∧ (Jj t).v.getD j 0 = (j : Int) ∧ rd (JQ t) (k : Int) = ((roots (Jj t).v j).length : Int) := by
  obtain ⟨⟨o1, _⟩, hw, _⟩ := JP h
  obtain ⟨q0, q1, q2⟩ := hw k (by omega)
  obtain ⟨j, hj⟩ := Int.eq_ofNat_of_zero_le q0
  rw [hj] at q1 q2
  rw [yny] at q2
  refine ⟨j, hj, by omega, q2, ?_⟩
  have hlt : k < (Jj t).v.length := by omega
  have e : rd (JQ t) (k : Int) = zEh (Jj t).v ((Jj t).v.getD k 0) := by
    unfold JQ
    rw [zBx hw, zAm]
    simp [List.getD_eq_getElem?_getD, hlt]
  rw [e, hj]
  unfold zEh
  rw [yny]
theorem zG2 (h : Zt t = true) {k : Nat} (hk : k < 4 * t.length) : 0 ≤ rd (JQ t) (k : Int) ∧ rd (JQ t) (k : Int) ≤ zCY t - 1 := by
  have o1 := (JP h).1.1
  obtain ⟨j, h1, h2, h3, h4⟩ := zDQ h hk
  have k1 := zAG (Jj t).v (j + 1) ((Jj t).v.length - (j + 1))
  rw [show j + 1 + ((Jj t).v.length - (j + 1)) = (Jj t).v.length by omega, roots, if_pos h3, List.length_append, List.length_singleton] at k1
  unfold zCY
  omega
theorem zFP (h : Zt t = true) {c : Int} (h0 : 0 ≤ c) (h1 : c ≤ zCY t - 1) : ∃ k : Nat, k < 4 * t.length ∧ rd (JQ t) (k : Int) = c := by
  have o1 := (JP h).1.1
  obtain ⟨n, rfl⟩ := Int.eq_ofNat_of_zero_le h0
  unfold zCY at h1
  obtain ⟨j, h2, h3, h4⟩ := zC4 (Jj t).v (Jj t).v.length n (by omega)
  refine ⟨j, by omega, ?_⟩
  obtain ⟨i, k1, k2, k3, k4⟩ := zDQ h (k := j) (by omega)
  have e : i = j := by
    have : ((i : Nat) : Int) = (j : Int) := k1.symm.trans h3
    omega
  subst e
  rw [k4, h4]
theorem zEr (h : Zt t = true) (c : Int) : (zAH (JQ t) c (4 * t.length) 0).length = 0 ↔ ¬ (0 ≤ c ∧ c ≤ zCY t - 1) := by
  constructor
  · rintro h0 ⟨h1, h2⟩
    obtain ⟨k, h3, h4⟩ := zFP h h1 h2
    have := zDP (JQ t) c (4 * t.length) 0 k (by omega) (by omega) h4
    omega
  · intro hn
    cases hc : zAH (JQ t) c (4 * t.length) 0 with
    | nil => rfl
    | cons x xs =>
      exfalso
      obtain ⟨k, _, h2, _, h4⟩ := zC3 (JQ t) c (4 * t.length) 0 x (by rw [hc]; exact List.mem_cons_self ..)
      have := zG2 h (k := k) (by omega)
      rw [h4] at this
      exact hn this
end
end Go.Proofs.Ytembbpalgfikiaa.P
namespace Go.Proofs.Ytembbpalgfikiaa.P
open Go.RowKit Go.Proofs.YtembbpalgfikiaaW.PrintWords Go.Proofs.YtembbpalgfikiaaW.PrintLast Go.Proofs.YtembbpalgfikiaaW.PrintMore
attribute [local go_sem] Qa Qb Qz JA QI QJ Qc Qd
set_option linter.unusedVariables false
set_option linter.unusedSimpArgs false
def ZZ.l0 : Nat → List Int → List Int → Int → Option (List Int)
  | 0, _, _, _ => none
  | k + 1, x0, x3, x4 => if x4 < (x0.length : Int) then (if 0 ≤ x4 then (if x4 < (x3.length : Int) then (ZZ.l0 k x0 (x3.set (x4 : Int).toNat (rd x0 x4)) (wrap64 (x4 + 1))) else (none)) else (none)) else (some x3)
def ZZ.f (k : Nat) (l0 : List Int) : Option (List Int) := if 0 ≤ (l0.length : Int) then (if ((l0.length : Int) : Int).toNat ≤ 35184372088832 then (ZZ.l0 k l0 (List.replicate ((l0.length : Int) : Int).toNat 0) 0) else (none)) else (none)
end Go.Proofs.Ytembbpalgfikiaa.P
namespace Go.Proofs.Ytembbpalgfikiaa.P
open Go.RowKit Go.Proofs.YtembbpalgfikiaaW.PrintWords Go.Proofs.Ytembbpalgfikiaa.Lib
set_option linter.unusedVariables false
theorem zC5 {α : Type} (l : List α) (z : α) (n : Nat) (h : n < l.length) :
    (l.take n ++ List.replicate (l.length - n) z).set n l[n] = l.take (n + 1) ++ List.replicate (l.length - (n + 1)) z := by
  have e : l.length - n = (l.length - (n + 1)) + 1 := by omega
  rw [e, List.replicate_succ, List.set_append_right _ _ (by simp; omega)]
  have : n - (l.take n).length = 0 := by simp; omega
  rw [this, yby, List.take_succ_eq_append_getElem h, List.append_assoc]
  rfl
theorem zG3 (l : List Int) (h : l.length ≤ 4398046511104) : Ev (fun k => ZZ.f k l) l := by
  have hl : Ev (fun k => ZZ.l0 k l (List.replicate l.length 0) 0) l := by
    refine JL (fun k (s : List Int × Int) => ZZ.l0 k l s.1 s.2) (fun s => ∃ n : Nat, n ≤ l.length ∧ s.2 = n ∧ s.1 = l.take n ++ List.replicate (l.length - n) 0) (fun s => l.length - s.2.toNat) (fun _ => l) ?_ (List.replicate l.length 0, 0) ⟨0, by omega, rfl, by simp⟩
    rintro ⟨a, i⟩ ⟨n, hn, rfl, rfl⟩
    dsimp only
    by_cases hlt : n < l.length
    · refine .inr ⟨(l.take (n + 1) ++ List.replicate (l.length - (n + 1)) 0, ((n + 1 : Nat) : Int)), ⟨n + 1, by omega, rfl, rfl⟩, by simp; omega, rfl, fun k => ?_⟩
      simp only [ZZ.l0]
      rw [if_pos (by omega), if_pos (by omega), if_pos (by simp; omega), qp (by omega), yny, zFs l n hlt, zC5 l 0 n hlt]
    · obtain rfl : n = l.length := by omega
      refine .inl fun k => ?_
      simp only [ZZ.l0]
      rw [if_neg (by omega)]
      simp
  refine Ev.congr (fun k => ?_) hl
  unfold ZZ.f
  rw [if_pos (by omega), if_pos (by simp; omega), yny]
theorem zD4 (l : List Int) (h : l.length ≤ 4398046511104) : Ev (fun k => qL.f k l l) true := by
  have hl : Ev (fun k => qL.l0 k l l 0) true := by
    refine JL (fun k (s : Int) => qL.l0 k l l s) (fun s => ∃ n : Nat, n ≤ l.length ∧ s = n) (fun s => l.length - s.toNat) (fun _ => true) ?_ 0 ⟨0, by omega, rfl⟩
    rintro i ⟨n, hn, rfl⟩
    by_cases hlt : n < l.length
    · refine .inr ⟨((n + 1 : Nat) : Int), ⟨n + 1, by omega, rfl⟩, by simp; omega, rfl, fun k => ?_⟩
      simp only [qL.l0]
      rw [if_pos (by omega), if_pos (by omega), if_pos (by omega), if_pos trivial, qp (by omega)]
    · refine .inl fun k => ?_
      simp only [qL.l0]
      rw [if_neg (by omega)]
  refine Ev.congr (fun k => ?_) hl
  unfold qL.f
  rw [if_pos rfl]
theorem zD5 (l : List Int) (a : Int) (n : Nat) (h : n < l.length) : (qh a n ++ l.drop n).set n (a + n) = qh a (n + 1) ++ l.drop (n + 1) := by
  rw [List.set_append_right _ _ (by rw [ZH]; omega), ZH, Nat.sub_self, yoy h, yby, zCm, List.append_assoc]
  rfl
theorem zC6 (l : List Int) (a : Int) (h : l.length ≤ 4398046511104) (h0 : 0 ≤ a) (h1 : a ≤ 4398046511104) : Ev (fun k => qS.f k l a) (a + l.length, qh a l.length) := by
  have hl : Ev (fun k => qS.l0 k l a 0) (a + l.length, qh a l.length) := by
    refine JL (fun k (s : List Int × Int × Int) => qS.l0 k s.1 s.2.1 s.2.2) (fun s => ∃ n : Nat, n ≤ l.length ∧ s.2.2 = n ∧ s.2.1 = a + n ∧ s.1 = qh a n ++ l.drop n) (fun s => l.length - s.2.2.toNat) (fun _ => (a + l.length, qh a l.length)) ?_ (l, a, 0) ⟨0, by omega, rfl, by simp, by simp [qh]⟩
    rintro ⟨x, b, i⟩ ⟨n, hn, rfl, rfl, rfl⟩
    dsimp only
    have hlen : (qh a n ++ l.drop n).length = l.length := by simp [ZH]; omega
    by_cases hlt : n < l.length
    · refine .inr ⟨(qh a (n + 1) ++ l.drop (n + 1), a + ((n + 1 : Nat) : Int), ((n + 1 : Nat) : Int)), ⟨n + 1, by omega, rfl, rfl, rfl⟩, by simp; omega, rfl, fun k => ?_⟩
      simp only [qS.l0]
      rw [if_pos (by rw [hlen]; omega), if_pos (by omega), qp (by omega), yny, zD5 l a n hlt, qk (by omega) (by omega)]
      congr 1; omega
    · obtain rfl : n = l.length := by omega
      refine .inl fun k => ?_
      simp only [qS.l0]
      rw [if_neg (by rw [hlen]; omega)]
      simp
  exact hl
theorem zC7 (a : Int) (m : Nat) (h : m ≤ 4398046511104) (h0 : 0 ≤ a) (h1 : a ≤ 4398046511104) : Ev (fun k => qR.f k (qh a m) a) (a + m) := by
  have hl : Ev (fun k => qR.l0 k (qh a m) a 0) (a + m) := by
    refine JL (fun k (s : Int × Int) => qR.l0 k (qh a m) s.1 s.2) (fun s => ∃ n : Nat, n ≤ m ∧ s.2 = n ∧ s.1 = a + n) (fun s => m - s.2.toNat) (fun _ => a + m) ?_ (a, 0) ⟨0, by omega, rfl, by simp⟩
    rintro ⟨b, i⟩ ⟨n, hn, rfl, rfl⟩
    dsimp only
    by_cases hlt : n < m
    · refine .inr ⟨(a + ((n + 1 : Nat) : Int), ((n + 1 : Nat) : Int)), ⟨n + 1, by omega, rfl, rfl⟩, by simp; omega, rfl, fun k => ?_⟩
      simp only [qR.l0]
      rw [if_pos (by rw [ZH]; omega), if_pos (by omega), if_pos (by rw [zAm, zBD a m n hlt]), qp (by omega), qk (by omega) (by omega)]
      congr 1; omega
    · obtain rfl : n = m := by omega
      refine .inl fun k => ?_
      simp only [qR.l0]
      rw [if_neg (by rw [ZH]; omega)]
  exact hl
abbrev Rows := List (List Int)
def zBR : Rows → Nat
  | [] => 0
  | r :: rs => r.length + zBR rs
def mkI (a : Int) : Rows → Rows
  | [] => []
  | r :: rs => qh a r.length :: mkI (a + r.length) rs
def zDR (t : Rows) : Prop := t.length ≤ 1048576 ∧ ∀ r ∈ t, r.length ≤ 1048576
theorem zEs (t : Rows) (h : ∀ r ∈ t, r.length ≤ 1048576) : zBR t ≤ 1048576 * t.length := by
  induction t with
  | nil => simp [zBR]
  | cons r rs ih =>
    have h1 := h r (List.mem_cons_self ..)
    have h2 := ih (fun x hx => h x (List.mem_cons_of_mem _ hx))
    simp only [zBR, List.length_cons]; omega
theorem zBS (t : Rows) (n : Nat) (h : n < t.length) : qi t (n : Int) = t[n] := by simp [qi, h]
theorem zBT : ∀ (suf : Rows) (pre : Rows) (a : Int), (∀ r ∈ suf, r.length ≤ 1048576) → 0 ≤ a → a + zBR suf ≤ 4398046511104 → Ev (fun k => qf.go k suf.length (pre ++ suf) a pre.length) (a + zBR suf, pre ++ mkI a suf)
  | [], pre, a, _, h0, h1 => zAn fun k => by simp [qf.go, zBR, mkI]
  | r :: rs, pre, a, hr, h0, h1 => by
    simp only [zBR] at h1
    have hm := zC6 r a (by have := hr r (List.mem_cons_self ..); omega) h0 (by omega)
    have ih := zBT rs (pre ++ [qh a r.length]) (a + r.length) (fun x hx => hr x (List.mem_cons_of_mem _ hx)) (by omega) (by omega)
    simp only [List.length_cons, qf.go]
    have e0 : List.getD (pre ++ r :: rs) pre.length [] = r := by simp
    rw [e0]
    refine Ev.bind hm ?_
    dsimp only
    have e1 : (pre ++ r :: rs).set pre.length (qh a r.length) = pre ++ [qh a r.length] ++ rs := by
      rw [List.set_append_right _ _ (yqy _), Nat.sub_self, yby]; simp
    rw [e1]
    have e2 : pre.length + 1 = (pre ++ [qh a r.length]).length := by simp
    rw [e2]
    have e3 : (a + ((zBR (r :: rs) : Nat) : Int), pre ++ mkI a (r :: rs)) = (a + r.length + (zBR rs : Int), pre ++ [qh a r.length] ++ mkI (a + r.length) rs) := by
      simp only [zBR, mkI, List.append_assoc, List.singleton_append]; congr 1; omega
    rw [e3]
    exact ih
theorem zB4 (t : Rows) (a : Int) (hs : zDR t) (h0 : 0 ≤ a) (h1 : a ≤ 1048576) : Ev (fun k => qf.f k t a) (a + zBR t, mkI a t) := by
  have := zBT t [] a hs.2 h0 (by have := zEs t hs.2; have := hs.1; omega)
  rw [List.nil_append, List.nil_append] at this
  exact this
theorem zBU : ∀ (suf : Rows) (pre : Rows) (a : Int), (∀ r ∈ suf, r.length ≤ 1048576) → pre.length + suf.length ≤ 1048576 → 0 ≤ a → a + zBR suf ≤ 4398046511104 → Ev (fun k => qI.l0 k (pre ++ mkI a suf) a (pre.length : Int)) (a + zBR suf)
  | [], pre, a, _, hn, h0, h1 => by
    refine qV (f := fun _ => some a) (fun k => ?_) (zCl (by simp [zBR]))
    rw [qI.l0, if_neg (by simp [mkI])]
  | r :: rs, pre, a, hr, hn, h0, h1 => by
    simp only [zBR, List.length_cons] at h1 hn
    have hm := zC7 a r.length (by have := hr r (List.mem_cons_self ..); omega) h0 (by omega)
    have ih := zBU rs (pre ++ [qh a r.length]) (a + r.length) (fun x hx => hr x (List.mem_cons_of_mem _ hx)) (by simp; omega) (by omega) (by omega)
    have e1 : pre ++ mkI a (r :: rs) = pre ++ [qh a r.length] ++ mkI (a + r.length) rs := by simp [mkI]
    have e4 : qi (pre ++ mkI a (r :: rs)) (pre.length : Int) = qh a r.length := by
      rw [zBS _ _ (by simp [mkI])]; simp [mkI]
    refine qV (fun k => by rw [qI.l0, if_pos (by simp [mkI]; omega), if_pos (by omega), e4]) (Ev.bind hm ?_)
    refine Zn (by omega) ?_
    have e2 : wrap64 ((pre.length : Int) + 1) = ((pre ++ [qh a r.length]).length : Int) := by rw [qp (by omega)]; simp
    have e3 : (a + ((zBR (r :: rs) : Nat) : Int)) = a + r.length + (zBR rs : Int) := by simp only [zBR]; omega
    rw [e1, e3]
    exact Ev.congr (fun k => by rw [e2]) ih
theorem zB5 (t : Rows) (a : Int) (hs : zDR t) (h0 : 0 ≤ a) (h1 : a ≤ 1048576) : Ev (fun k => qI.f k (mkI a t) a) (a + zBR t) := by
  have := zBU t [] a hs.2 (by have := hs.1; simp; omega) h0 (by have := zEs t hs.2; have := hs.1; omega)
  rw [List.nil_append] at this
  exact this
theorem zCa (l : Rows) (h : zDR l) : Ev (fun k => qG.f k l l) true := by
  have hl : Ev (fun k => qG.l0 k l l 0) true := by
    refine zBl (fun k (s : Int) => qG.l0 k l l s) (fun s => ∃ n : Nat, n ≤ l.length ∧ s = n) (fun s => l.length - s.toNat) (fun _ => true) ?_ 0 ⟨0, by omega, rfl⟩
    rintro i ⟨n, hn, rfl⟩
    by_cases hlt : n < l.length
    · obtain ⟨K, hK⟩ := zD4 l[n] (by have := h.2 _ (List.getElem_mem hlt); omega)
      refine .inr ⟨((n + 1 : Nat) : Int), K, ⟨n + 1, by omega, rfl⟩, by simp; omega, rfl, fun k hk => ?_⟩
      have e : qL.f k l[n] l[n] = some _ := hK k hk
      have h1 := h.1
      simp only [qG.l0]
      rw [if_pos (by omega), if_pos (by omega), if_pos (by omega), zBS l n hlt, e, yfy, if_pos rfl, qp (by omega)]
    · refine .inl ⟨0, fun k _ => ?_⟩
      simp only [qG.l0]
      rw [if_neg (by omega)]
  refine Ev.congr (fun k => ?_) hl
  unfold qG.f
  rw [if_pos rfl]
theorem zDS (cls : List Int) (c : Int) (e : Nat) : ∀ (d i : Nat), zAH cls c (d + e) i = zAH cls c d i ++ zAH cls c e (i + d)
  | 0, i => by rw [Nat.zero_add, zAH, Nat.add_zero]; rfl
  | d + 1, i => by
    have h := zDS cls c e d (i + 1)
    rw [Nat.succ_add, zAH, zAH, h, List.append_assoc]
    congr 3
    omega
section
variable {t : Tri}
theorem Je (h : Zt t = true) (c : Int) (B C : List (List Int)) {r : List (List Int)} {a : Nat} (ha : a < t.length) : ∀ (d x : Nat) (acc : List (List Int)), x + d = 4 → acc.length ≤ 4 * a + x →
    (∀ acc' : List (List Int), acc'.length ≤ 4 * (a + 1) → acc' = acc ++ zAH (JQ t) c d (4 * a + x) → Ev (fun k => zi.l0 k c acc' ((a + 1 : Nat) : Int) (QL 4 t.length (JQ t)) B C) r) →
    Ev (fun k => zi.l1 k c acc (a : Int) (x : Int) (QL 4 t.length (JQ t)) B C) r
  | 0, x, acc, hx, hv, hr => by
    have h8 := (ZD h).1
    refine qV (fun k => by rw [zi.l1, if_neg (by omega), qp (by omega)]) ?_
    exact hr acc (by omega) (by rw [zAH, List.append_nil])
  | d + 1, x, acc, hx, hv, hr => by
    have h8 := (ZD h).1
    obtain ⟨e1, e2⟩ := zG1 h ha (x := x) (by omega)
    have hcl := Qn 4 t.length (JQ t)
    rw [zAH] at hr
    have ed : (4 * a + x) / 4 = a := by omega
    have em : (4 * a + x) % 4 = x := by omega
    rw [ed, em] at hr
    clear ed em
    by_cases e : rd (JQ t) ((4 * a + x : Nat) : Int) = c
    · rw [if_pos e] at hr
      refine qV (fun k => by rw [zi.l1, if_pos (by omega), if_pos (by omega), if_pos (by omega), if_pos (by omega), if_pos (by omega), e1, if_pos e, if_pos (by omega), qp (by omega)]) ?_
      refine Je h c B C ha d (x + 1) _ (by omega) (by simp; omega) (fun acc' h1 h2 => hr acc' h1 ?_)
      rw [h2, List.append_assoc]; rfl
    · rw [if_neg e, List.nil_append] at hr
      refine qV (fun k => by rw [zi.l1, if_pos (by omega), if_pos (by omega), if_pos (by omega), if_pos (by omega), if_pos (by omega), e1, if_neg e, qp (by omega)]) ?_
      exact Je h c B C ha d (x + 1) acc (by omega) (by omega) hr
theorem zAU (h : Zt t = true) (c : Int) (B C : List (List Int)) : ∀ (d a : Nat) (acc : List (List Int)), a + d = t.length → acc.length ≤ 4 * a → Ev (fun k => zi.l0 k c acc (a : Int) (QL 4 t.length (JQ t)) B C) (acc ++ zAH (JQ t) c (4 * d) (4 * a))
  | 0, a, acc, ha, hv => by
    have hcl := Qn 4 t.length (JQ t)
    refine qV (fun k => by rw [zi.l0, if_neg (by omega)]) ?_
    rw [zAH, List.append_nil]; exact Ev.now _
  | d + 1, a, acc, ha, hv => by
    have hcl := Qn 4 t.length (JQ t)
    refine qV (fun k => by rw [zi.l0, if_pos (by omega)]) ?_
    refine Je h c B C (by omega) 4 0 acc (by omega) (by omega) (fun acc' h1 h2 => ?_)
    have := zAU h c B C d (a + 1) acc' (by omega) h1
    have e4 : 4 * (d + 1) = 4 + 4 * d := by omega
    rw [e4, zDS, ← List.append_assoc]
    rw [h2] at this ⊢
    exact this
theorem zCb (h : Zt t = true) (c : Int) : Ev (fun k => zi.f k t c) (zAH (JQ t) c (4 * t.length) 0) := by
  refine Ev.bind (zC1 h) ?_
  have := zAU h c (QL 6 t.length (zBm (Jj t).e)) (QL 4 t.length (zBm (Jj t).f)) t.length 0 [] (by omega) (by simp)
  rw [List.nil_append] at this
  exact this
def zC8 (t : Tri) (c : Int) : List (List Int) × Int := if zA9 t c = 0 then (zAH (JQ t) c (4 * t.length) 0, 0) else ([], zA9 t c)
theorem zBV {c : Int} (h : zA9 t c = 0) : Zt t = true ∧ 0 ≤ c ∧ c ≤ zCY t - 1 := by
  unfold zA9 at h
  cases ht : Zt t with
  | false => rw [ht] at h; simp at h
  | true =>
    rw [ht, if_pos rfl] at h
    by_cases hc : 0 ≤ c ∧ c ≤ zCY t - 1
    · exact ⟨rfl, hc⟩
    · rw [if_neg hc] at h; simp at h
theorem zC9 (t : Tri) (c : Int) : Ev (fun k => Zp.f k t c) (zC8 t c) := by
  refine Ev.bind (zBw t) ?_
  by_cases ht : Zt t = true
  · have hn := zEr ht c
    refine qq ht (Ev.bind (zCb ht c) ?_)
    by_cases hc : 0 ≤ c ∧ c ≤ zCY t - 1
    · have hv : zA9 t c = 0 := by unfold zA9; rw [if_pos ht, if_pos hc]
      have hp : ¬ (zAH (JQ t) c (4 * t.length) 0).length = 0 := fun e => hn.1 e hc
      unfold zC8
      rw [if_pos hv]
      exact Zn (fun e => hp (by omega)) (Ev.now _)
    · have hv : zA9 t c = 2 := by unfold zA9; rw [if_pos ht, if_neg hc]
      have hp := hn.2 hc
      unfold zC8
      rw [hv, if_neg (show ¬ (2 : Int) = 0 by decide)]
      exact qq (by omega) (Ev.now _)
  · have hv : zA9 t c = 1 := by unfold zA9; rw [if_neg ht]
    unfold zC8
    rw [hv, if_neg (show ¬ (1 : Int) = 0 by decide)]
    exact Zn ht (Ev.now _)
theorem zCA (hs : Small t) (c : Int) : Ev (fun k => ZX.f k t c) (zC8 t c) := by
  refine Ev.bind (zFO hs c) ?_
  unfold zC8
  by_cases h0 : zA9 t c = 0
  · rw [if_pos h0]
    exact qq h0 (Ev.bind (zDp (zBV h0).1 c) (Ev.now _))
  · rw [if_neg h0]
    exact Zn h0 (Ev.now _)
theorem zD6 (t : Tri) (c : Int) : zDR (zC8 t c).1 := by
  unfold zC8
  by_cases h0 : zA9 t c = 0
  · rw [if_pos h0]
    have h8 := (ZD (zBV h0).1).1
    refine ⟨by have := zAv (JQ t) c (4 * t.length) 0; dsimp only; omega, fun r hr => ?_⟩
    obtain ⟨k, _, _, e, _⟩ := zC3 _ _ _ _ _ hr
    rw [e]; simp
  · rw [if_neg h0]
    exact ⟨by simp, fun r hr => by cases hr⟩
end
def mkR (a : Int) : Nat → List zr
  | 0 => []
  | n + 1 => ⟨a, a + 1⟩ :: mkR (a + 2) n
theorem zAJ (a : Int) (n : Nat) : (mkR a n).length = n := by
  induction n generalizing a with
  | zero => rfl
  | succ n ih => simp [mkR, ih]
theorem zFQ (a : Int) (n : Nat) : mkR a (n + 1) = mkR a n ++ [⟨a + 2 * n, a + 2 * n + 1⟩] := by
  induction n generalizing a with
  | zero => simp [mkR]
  | succ n ih =>
    rw [mkR, ih (a + 2)]
    have e : a + 2 + 2 * (n : Int) = a + 2 * ((n + 1 : Nat) : Int) := by omega
    rw [e]; rfl
theorem mk_set (l : List zr) (a : Int) (n : Nat) (h : n < l.length) : (mkR a n ++ l.drop n).set n ⟨a + 2 * n, a + 2 * n + 1⟩ = mkR a (n + 1) ++ l.drop (n + 1) := by
  rw [List.set_append_right _ _ (by rw [zAJ]; exact yqy _), zAJ, Nat.sub_self, yoy h, yby, zFQ, List.append_assoc]
  rfl
theorem zD7 (l : List zr) (n : Nat) (v : zr) (h : n < l.length) : zI (l.set n v) (n : Int) = v := by
  rw [zBI _ n (by rw [List.length_set]; exact h), List.getElem_set_self]
theorem zCc (l : List zr) (a : Int) (h : l.length ≤ 1099511627776) (h0 : 0 ≤ a) (h1 : a ≤ 4398046511104) : Ev (fun k => qU.f k l a) (a + 2 * l.length, mkR a l.length) := by
  have hl : Ev (fun k => qU.l0 k l a 0) (a + 2 * l.length, mkR a l.length) := by
    refine JL (fun k (s : List zr × Int × Int) => qU.l0 k s.1 s.2.1 s.2.2) (fun s => ∃ n : Nat, n ≤ l.length ∧ s.2.2 = n ∧ s.2.1 = a + 2 * n ∧ s.1 = mkR a n ++ l.drop n) (fun s => l.length - s.2.2.toNat) (fun _ => (a + 2 * l.length, mkR a l.length)) ?_ (l, a, 0) ⟨0, by omega, rfl, by simp, by simp [mkR]⟩
    rintro ⟨x, b, i⟩ ⟨n, hn, rfl, rfl, rfl⟩
    dsimp only
    have hlen : (mkR a n ++ l.drop n).length = l.length := by simp [zAJ]; omega
    by_cases hlt : n < l.length
    · refine .inr ⟨(mkR a (n + 1) ++ l.drop (n + 1), a + 2 * ((n + 1 : Nat) : Int), ((n + 1 : Nat) : Int)), ⟨n + 1, by omega, rfl, rfl, rfl⟩, by simp; omega, rfl, fun k => ?_⟩
      simp only [qU.l0]
      rw [if_pos (by rw [hlen]; omega), if_pos (by omega), yfy, yny, zD7 _ n _ (by rw [hlen]; exact hlt), List.set_set, qk (x := a + 2 * (n : Int) + 1) (by omega) (by omega), mk_set l a n hlt, qp (by omega), qk (by omega) (by omega)]
      congr 1; omega
    · obtain rfl : n = l.length := by omega
      refine .inl fun k => ?_
      simp only [qU.l0]
      rw [if_neg (by rw [hlen]; omega)]
      simp
  exact hl
def zDt : Tri → Nat
  | [] => 0
  | r :: rs => 2 * r.length + zDt rs
def mkT (a : Int) : Tri → Tri
  | [] => []
  | r :: rs => mkR a r.length :: mkT (a + 2 * r.length) rs
theorem zG4 (t : Tri) (h : ∀ r ∈ t, r.length ≤ 1048576) : zDt t ≤ 2097152 * t.length := by
  induction t with
  | nil => simp [zDt]
  | cons r rs ih =>
    have h1 := h r (List.mem_cons_self ..)
    have h2 := ih (fun x hx => h x (List.mem_cons_of_mem _ hx))
    simp only [zDt, List.length_cons]; omega
theorem zCd : ∀ (suf : Tri) (pre : Tri) (a : Int), (∀ r ∈ suf, r.length ≤ 1048576) → 0 ≤ a → a + zDt suf ≤ 4398046511104 → Ev (fun k => ql.go k suf.length (pre ++ suf) a pre.length) (a + zDt suf, pre ++ mkT a suf)
  | [], pre, a, _, h0, h1 => zAn fun k => by simp [ql.go, zDt, mkT]
  | r :: rs, pre, a, hr, h0, h1 => by
    simp only [zDt] at h1
    have hm := zCc r a (by have := hr r (List.mem_cons_self ..); omega) h0 (by omega)
    have ih := zCd rs (pre ++ [mkR a r.length]) (a + 2 * r.length) (fun x hx => hr x (List.mem_cons_of_mem _ hx)) (by omega) (by omega)
    simp only [List.length_cons, ql.go]
    have e0 : List.getD (pre ++ r :: rs) pre.length [] = r := by simp
    rw [e0]
    refine Ev.bind hm ?_
    dsimp only
    have e1 : (pre ++ r :: rs).set pre.length (mkR a r.length) = pre ++ [mkR a r.length] ++ rs := by
      rw [List.set_append_right _ _ (yqy _), Nat.sub_self, yby]; simp
    rw [e1]
    have e2 : pre.length + 1 = (pre ++ [mkR a r.length]).length := by simp
    rw [e2]
    have e3 : (a + ((zDt (r :: rs) : Nat) : Int), pre ++ mkT a (r :: rs)) = (a + 2 * r.length + (zDt rs : Int), pre ++ [mkR a r.length] ++ mkT (a + 2 * r.length) rs) := by
      simp only [zDt, mkT, List.append_assoc, List.singleton_append]; congr 1; omega
    rw [e3]
    exact ih
theorem Jk (t : Tri) (a : Int) (hs : Small t) (h0 : 0 ≤ a) (h1 : a ≤ 1048576) : Ev (fun k => ZP.f k t a) (a + zDt t, mkT a t) := by
  have := zCd t [] a hs.2 h0 (by have := zG4 t hs.2; have := hs.1; omega)
  rw [List.nil_append, List.nil_append] at this
  exact this
end Go.Proofs.Ytembbpalgfikiaa.P
namespace Go.Proofs.Ytembbpalgfikiaa.Pure
open Go.RowKit Go.Proofs.Ytembbpalgfikiaa.P Go.Proofs.Ytembbpalgfikiaa.Lib Go.Proofs.YtembbpalgfikiaaW.PrintWords
set_option linter.unusedVariables false
theorem zAA (l : List (List qN)) (c : Int) (h : Fits l) (_ : (Lit.int .i64 c).wf = true) : ∃ k, ZJ.f k l c = some true := by
  refine Ev.rounds ?_
  obtain ⟨r, hr, hs⟩ := zA6 l h
  refine Ev.bind hr ?_
  by_cases hn : r < 0
  · exact qq hn (Ev.now true)
  have hsm := hs hn
  have hto := zA7 l hsm
  have hS := zEb hsm
  have hsp := zC9 (cvT l) c
  have him := zCA hS c
  have hL := zD6 (cvT l) c
  generalize zC8 (cvT l) c = o at *
  have heq := zCa o.1 hL
  have hh := zB5 o.1 1 hL (by omega) (by omega)
  refine Zn hn ?_
  refine Ev.bind hto ?_
  refine Ev.bind hsp ?_
  refine Ev.bind hto ?_
  refine Ev.bind him ?_
  refine Ev.bind heq (qq rfl (qq rfl ?_))
  refine Ev.bind hto ?_
  refine Ev.bind (zA8 _ hS) (qq rfl ?_)
  refine Ev.bind (Jk _ 1 hS (by omega) (by omega)) ?_
  refine Zn (by dsimp only; omega) ?_
  refine Ev.bind heq (qq rfl (qq rfl ?_))
  refine Ev.bind (zB4 _ 1 hL (by omega) (by omega)) ?_
  refine Ev.bind hh ?_
  refine Zn (by omega) (qq rfl ?_)
  refine Ev.bind hto ?_
  refine Ev.bind him ?_
  refine Ev.bind heq (qq rfl (qq rfl ?_))
  refine Ev.bind hh ?_
  exact Zn (by omega) (qq rfl (Ev.now true))
end Go.Proofs.Ytembbpalgfikiaa.Pure
namespace Go.Proofs.Ytembbpalgfikiaa.Lib
open Go.RowKit Go.Proofs.YtembbpalgfikiaaW.PrintWords Go.Joins Go.Deep Go.WideShapes Go.ChangeShapes
set_option linter.unusedVariables false
def zFR (P : Program) (t : TypeId) {α : Type} (d : Kd α) : Prop := ∀ (H : Type) (enc : TypeId × Value → H) (w : World) (base : Nat) (spare : Nat → Bool) (held : Bool) (fuel : Nat) (cs : List Value) (x : DataW H × List MemPlace),
  DataW.trod enc P w base spare held fuel t cs = some x → ∃ y, d.K w y cs
theorem zCe {α : Type} {R : Nat → α → Prop} : ∀ n, (∀ i, i < n → ∃ y, R i y) → ∃ ys : List α, ys.length = n ∧ ∀ j p, ys[j]? = some p → R j p
  | 0, _ => ⟨[], rfl, fun j p h => by simp at h⟩
  | n + 1, h => by
    obtain ⟨ys, hl, hr⟩ := zCe n (fun i hi => h i (by omega))
    obtain ⟨y, hy⟩ := h n (by omega)
    refine ⟨ys ++ [y], by simp [hl], fun j p hj => ?_⟩
    by_cases hlt : j < n
    · rw [List.getElem?_append_left (by omega)] at hj
      exact hr j p hj
    · have hjn : j < (ys ++ [y]).length := (List.getElem?_eq_some_iff.1 hj).1
      have : j = n := by simp [hl] at hjn; omega
      subst this
      rw [List.getElem?_append_right (by omega), hl, Nat.sub_self] at hj
      injection hj with hj
      rw [← hj]
      exact hy
theorem zAw {P : Program} {t e : TypeId} {α : Type} {d : Kd α} (ht : P.underlying t = some (.slice e)) (hc : P.cellsOf e = d.sz) (h : zFR P e d) : zFR P t (Kd.slice e d) := by
  intro H enc w base spare held fuel cs x hx
  rcases open_slice ht hx with ⟨rfl, _⟩ | ⟨a, len, cap, m, n, D, Pl, rfl, hb, hl, hm, hmm, _, hi⟩
  · exact ⟨[], none, 0, rfl, yqy _, Kd.C_nil d w⟩
  · have each : ∀ i, i < len → ∃ y, ∃ cs', w.cells? base (a.add (i * d.sz)) d.sz = some cs' ∧ d.K w y cs' := by
      intro i hil
      have him : i < m := by rw [hmm]; split <;> omega
      obtain ⟨cs', h1, h2⟩ := hi i him
      obtain ⟨y, hy⟩ := h H enc w base spare held n cs' _ h2
      rw [hc] at h1
      exact ⟨y, cs', h1, hy⟩
    obtain ⟨ys, hlen, hys⟩ := zCe len each
    refine ⟨ys, some a, cap, by rw [hlen], by omega, rfl, ?_, fun _ => ⟨a, rfl, fun j p hj => ?_⟩⟩
    · unfold maxLen at hm; omega
    · obtain ⟨cs', h1, h2⟩ := hys j p hj
      obtain ⟨_, h3, h4⟩ := World.cells?_some h1
      refine ⟨cs', h3, h2, fun i u hu => ?_⟩
      have hil : i < d.sz := by rw [← h3]; exact (List.getElem?_eq_some_iff.1 hu).1
      rw [← hu, ← h4 i hil, Go.Deep.add_add]
theorem zCB {P : Program} {t : TypeId} {f0 f1 : Field} {α : Type} (hs : P.underlying t = some (.struct #[f0, f1])) (hone : oneCellFields P #[f0, f1] = true) (hC : P.cellsOf t = 2)
    (h0 : P.underlying f0.type = some (.int .i64)) (h1 : P.underlying f1.type = some (.int .i64)) (d : Kd α) (mk : Int → Int → α) (hK : ∀ w a b, d.K w (mk a b) [.int .i64 a, .int .i64 b]) : zFR P t d := by
  intro H enc w base spare held fuel cs x h
  obtain ⟨y0, y1, n, hx, hl, g0, g1⟩ := trod_struct2 hs h
  obtain ⟨o0, k0⟩ := hone_of hone 0 f0 rfl
  obtain ⟨o1, k1⟩ := hone_of hone 1 f1 rfl
  rw [hC] at hl
  match cs, hl with
  | [c0, c1], _ =>
    rw [o0, k0] at g0
    rw [o1, k1] at g1
    obtain ⟨a, e0, _, _⟩ := DataW.trod_int h0 g0
    obtain ⟨b, e1, _, _⟩ := DataW.trod_int h1 g1
    simp at e0 e1
    subst e0 e1
    exact ⟨mk a b, hK w a b⟩
section
variable {H : Type} {enc : TypeId × Value → H} {P : Program} {w : World} {base : Nat} {spare : Nat → Bool} {held : Bool}
theorem array1 {α : Type} {cs : Array α} (h : cs.size = 1) : ∃ c0, cs = #[c0] := by
  obtain ⟨l⟩ := cs
  match l, h with
  | [c0], _ => exact ⟨c0, rfl⟩
theorem zEt {r : Reach} {b0 : Nat} {t e : TypeId} {f0 : Field} {α : Type} {d : Kd α} {v : Value} {D : DataW H} {p : List MemPlace} (hs : P.underlying t = some (.struct #[f0])) (hone : oneCellFields P #[f0] = true) (hC : P.cellsOf t = 1)
    (ho : zFR P f0.type (Kd.slice e d)) (hv : Value.okWide P w r b0 t v) (h : DataW.Trod enc P w base spare held t v D p) :
    ∃ (A : Option Addr) (c : Nat) (l : List α), v = .agg #[.slice A l.length c] ∧ l.length ≤ c ∧ d.C w A l.length l := by
  obtain ⟨cs, rfl, hsz⟩ := okWide_struct hs hv
  obtain ⟨c0, rfl⟩ := array1 (hsz.trans hC)
  obtain ⟨fuel, hf⟩ := h
  obtain ⟨y0, n, hx, _, h0⟩ := trod_struct1 hs hf
  obtain ⟨o0, k0⟩ := hone_of hone 0 f0 rfl
  have h0' : DataW.trod enc P w base spare held n f0.type [c0] = some y0 := by simpa [Value.cells, o0, k0] using h0
  obtain ⟨l, A, c, e1, hl, hCC⟩ := ho H enc w base spare held n _ _ h0'
  simp at e1
  subst e1
  exact ⟨A, c, l, rfl, hl, hCC⟩
end
theorem zEu {e : Nat} {α : Type} {d : Kd α} {w : World} {A : Option Addr} {l : List (List α)} (h : (Kd.slice e d).C w A l.length l) : l.length ≤ 9223372036854775807 ∧ ∀ r ∈ l, r.length ≤ 9223372036854775807 := by
  refine ⟨h.2.1, fun r hr => ?_⟩
  obtain ⟨j, hj, rfl⟩ := List.mem_iff_getElem.1 hr
  obtain ⟨ad, _, hc⟩ := h.2.2 (by omega)
  obtain ⟨c, _, hK, _⟩ := hc j _ (List.getElem?_eq_getElem hj)
  obtain ⟨A', c', _, _, hC⟩ := hK
  exact hC.2.1
end Go.Proofs.Ytembbpalgfikiaa.Lib
namespace Go.Proofs.Ytembbpalgfikiaa.fnExactLinkCorners
open Go.ChangeShapes Go.WideShapes Go.ChangeAt Go.RowKit Go.Proofs.Ytembbpalgfikiaa.Lib Go.Proofs.YtembbpalgfikiaaW.PrintWords Go.Proofs.Ytembbpalgfikiaa.P
open Go.ChangeMaps (open_string shut_string)
set_option linter.unusedVariables false
theorem own : ownKnob Try.prog.godebug = none := by kernel_rfl
theorem laidOut : laidOutB Try.prog = true := by kernel_rfl
set_option maxRecDepth 100000 in
theorem lifted (os : Os) (started : os.Started) (H : Type) (enc : TypeId × Value → H) :
    ReturnsInHanded {} Try.checked os 4 .any (Rows.fnExactLinkCornersSpec.pre6 enc Try.prog Try.f4 Rows.fnExactLinkCornersRow.domain false) (Rows.fnExactLinkCornersSpec.post enc Try.prog Try.f4 false true false false) := by
  refine returnsInHanded_of_change_sized (C := Try.checked) own started (by kernel_rfl) Try.func4
    (ChangeSpec.witness6 (enc := enc) (C := Try.checked) false ⟨#[], #[.agg #[.slice none 0 0], .int .i64 0], []⟩ 8 (by kernel_rfl) (by kernel_rfl) (by kernel_rfl) (by kernel_rfl)) ?_
  intro W base args ds gs before hval0 hW hcnd hsz0 _
  have hval : ∀ (j : Nat) t v, Try.f4.params[j]? = some t → args[j]? = some v → Value.okWide Try.prog W .any base t v := hval0
  have hW' := hW
  obtain ⟨p, q, hA0, hV, rfl, hfz, hnd⟩ := hW
  have hA : DataW.TrodAll enc Try.prog W 0 (fun _ => true) true Try.f4.params.toList args.toList ds p := hA0
  rw [Try.params4] at hA hval
  obtain ⟨v0, vs0, d0, ds0, p0, q0, hargs, rfl, rfl, h0, r0⟩ := trodAll_cons hA
  obtain ⟨v1, vs1, d1, ds1, p1, q1, rfl, rfl, rfl, h1, r1⟩ := trodAll_cons r0
  obtain ⟨rfl, rfl, rfl⟩ := trodAll_nil r1
  obtain rfl : args = #[v0, v1] := by cases args; simp_all
  obtain ⟨rfl, rfl⟩ := trodVars_none hV
  have k0 := h0
  have lt0 : ∀ x ∈ p0, x.block < W.heap.size := by obtain ⟨m, hm⟩ := k0; exact DataW.trod_lt m _ _ _ hm
  obtain ⟨A0, c0, l0, rfl, hl0, hC0⟩ := zEt Try.underlying28 (by kernel_rfl) (by kernel_rfl) (zAw Try.underlying26 (by kernel_rfl) (zAw Try.underlying85 (by kernel_rfl) (zCB Try.underlying118 (by kernel_rfl) (by kernel_rfl) Try.underlying2 Try.underlying2 QD (fun a b => (⟨a, b⟩ : qN)) (fun w a b => zCk w ⟨a, b⟩)))) (hval 0 28 v0 rfl rfl) h0
  obtain ⟨a1, rfl, rfl, rfl, w1⟩ := open_int Try.underlying2 (hval 1 2 v1 rfl rfl) h1
  obtain ⟨k, hk⟩ := Pure.zAA l0 a1 (zEu hC0) w1
  refine (ZJ.calls k _ _ l0 a1 W hC0 hl0 hk).mono fun e W' ⟨he, bel⟩ => ?_
  subst he
  exact ⟨_, rfl, _, _, _, [], _, [], hW', trodAll_mk1 (shut_bool Try.underlying4 _), (trodAll_cons_mk (Below.trod laidOut (by kernel_rfl) (of_decide_eq_true (by kernel_rfl)) k0 bel lt0) (trodAll_cons_mk (shut_int Try.underlying2 w1) trodAll_mk0)), rfl, bel.frame _, fun h => by cases h⟩
theorem over : Rows.fnExactLinkCornersRow.holds Try.pinned (OpenSpec.ofChange Rows.fnExactLinkCornersSpec) :=
  OpenClaim.holds_of_wide 4 Try.f4 rfl rfl rfl rfl rfl rfl rfl ⟨rfl, rfl, rfl, rfl, rfl⟩ rfl rfl rfl rfl rfl (by kernel_rfl) Try.func4 (by kernel_rfl)
    (of_decide_eq_true (by kernel_rfl)) (by unfold Func.isWrapper; first | (rw [if_pos (by decide +kernel)]; kernel_rfl) | (rw [if_neg (by decide +kernel)]; exact ⟨rfl, rfl⟩))
    (fun os started H enc _ => lifted os started H enc)
theorem proved : Rows.FnExactLinkCornersSaid := over
#print axioms proved
end Go.Proofs.Ytembbpalgfikiaa.fnExactLinkCorners
namespace Go.Proofs.Ytembbpalgfikiaa
theorem fnExactLinkCorners_holds : Rows.FnExactLinkCornersSaid := fnExactLinkCorners.proved
end Go.Proofs.Ytembbpalgfikiaa
