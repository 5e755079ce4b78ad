/- The statement FnExactSumOfVectorsSaid, proved: part 7 of 7 (texts of this session and of the kit's print, put together and cut to what is used by a program of it). -/
import Derived.Test.YthjpdljdodalaaaMFnExactSumOfVectors6
import Derived.Deep.Slices
import Derived.ChangeSame
import Derived.ChangeArms
import Derived.WideShapes
import Derived.Lib.SmallJoins
import Derived.ChangeShapes
import Derived.Test.YthjpdljdodalaaaRows
import Derived.WalkKit
import Derived.ProofKit
import Derived.OpenShut
import Derived.ShutString
import Derived.ChangeOld
import Derived.Below
import Derived.SizedLaws
import Derived.Carry
namespace Go.Proofs.Ythjpdljdodalaaa.P
open Go.RowKit Go.Proofs.YthjpdljdodalaaaW.PrintWords Go.Proofs.YthjpdljdodalaaaW.PrintLast Go.Proofs.YthjpdljdodalaaaW.PrintMore
attribute [local go_sem] QG QH QZ Qa Zq Zr QI QJ
set_option linter.unusedVariables false
set_option linter.unusedSimpArgs false
open Go.Proofs.Ythjpdljdodalaaa.Lib
def ZQ.f (k : Nat) (l0 : List (List (qV))) (l1 : List Int) (l2 : List Int) : Option Bool := if (l1.length : Int) > 1048576 then some true else if (l2.length : Int) > 1048576 then some true else (ZY.f k l0 1048576).bind fun t4 => if t4 < 0 then some true else (qh.f k l0).bind fun t7 => (zz.f k l1).bind fun t10 => (zz.f k l2).bind fun t13 => (Zt.f k t7 t10 t13).bind fun bt7 => (qh.f k l0).bind fun t20 => (zz.f k l1).bind fun t23 => (zz.f k l2).bind fun t26 => (Zc.f k t20 t23 t26).bind fun bt11 => (qQ.f k bt11.1 bt7.1).bind fun t33 => if t33 = true then if bt11.2 = bt7.2 then (qh.f k l0).bind fun t36 => (Zg.f k t20 t36).bind fun t39 => if t39 = true then (zz.f k l1).bind fun t41 => (qQ.f k t23 t41).bind fun t44 => if t44 = true then (zz.f k l2).bind fun t46 => (qQ.f k t26 t46).bind fun t49 => if t49 = true then (Zb.f k t20 1).bind fun bt24 => (qO.f k t23 bt24.1).bind fun bt25 => (qO.f k t26 bt25.1).bind fun bt26 => if bt26.1 < 0 then some false else (qQ.f k bt11.1 bt7.1).bind fun t61 => if t61 = true then if bt11.2 = bt7.2 then (qO.f k bt11.1 1).bind fun bt31 => (qX.f k bt31.2 1).bind fun t67 => if t67 < 0 then some false else if t67 = bt31.1 then (qh.f k l0).bind fun t71 => (zz.f k l1).bind fun t74 => (zz.f k l2).bind fun t77 => (Zc.f k t71 t74 t77).bind fun bt38 => (qQ.f k bt38.1 bt7.1).bind fun t84 => if t84 = true then if bt38.2 = bt7.2 then (qX.f k bt31.2 1).bind fun t87 => if t87 < 0 then some false else if t87 = bt31.1 then some true else some false else some false else some false else some false else some false else some false else some false else some false else some false else some false else some false
set_option maxHeartbeats 8000000 in
set_option maxRecDepth 100000 in
theorem ZQ.calls (k : Nat) (A0 : Option Addr) (c0 : Nat) (l0 : List (List (qV))) (A1 : Option Addr) (c1 : Nat) (l1 : List Int) (A2 : Option Addr) (c2 : Nat) (l2 : List Int) (w : World) (hr0 : Kd.C (Kd.slice 136 QK) w A0 l0.length l0) (hc0 : l0.length ≤ c0) (hr1 : Kd.C (Kd.int .i64) w A1 l1.length l1) (hc1 : l1.length ≤ c1) (hr2 : Kd.C (Kd.int .i64) w A2 l2.length l2) (hc2 : l2.length ≤ c2) (h : ZQ.f k l0 l1 l2 = some true) :
 Calls Try.prog 11 #[.agg #[.slice A0 l0.length c0], .slice A1 l1.length c1, .slice A2 l2.length c2] w fun e w' => e = .returned (.bool true) ∧ Below w.heap.size w w' := by
 have hu24 := Try.underlying24
 have hu30 := Try.underlying30
 have HR0 := zA.mk hr0
 have HC0 := zA.mk hc0
 have HR1 := zA.mk hr1
 have HC1 := zA.mk hc1
 have HR2 := zA.mk hr2
 have HC2 := zA.mk hc2
 clear hr0 hc0 hr1 hc1 hr2 hc2
 have HB := zA.mk (yry w.heap.size w)
 have HT := zA.mk (yqy w.heap.size)
 have H := h
 clear h
 unfold ZQ.f at H
 by_cases cC1 : (l1.length : Int) > 1048576
 next =>
  have dC1 : decide ((l1.length : Int) > 1048576) = true := ygy cC1; have e0C1 : decide (1048576 < (l1.length : Int)) = true := ygy (by omega); have e1C1 : decide (1048576 < l1.length) = true := ygy (by omega)
  clear cC1 H
  go_enter Try.func11, Try.ntmps11
  try go_wp2_with (first | ((with_reducible refine zj (N := 3) rfl ?_); refine zi ?hg (N := 3) ?hd (cs := #[.slice A0 l0.length c0]) (t := 24) ?hr ?_; (case hd => rfl); (case hg => rfl); (case hr => first | (go_simp; done) | (go_simp; rfl)); intro g3 hg w1 hbox hb; have HNg3 := zA.mk (by rw [hg]; exact HT.out : w.heap.size ≤ g3); have HXg3 := zA.mk (show g3 + 1 ≤ w1.heap.size from qi hbox); have nHB := zA.mk (zN HB.out hb); have nHT := zA.mk (qt HT.out hb); clear HB HT  ; have HB := nHB; have HT := nHT; clear nHB nHT  ; clear HT; have HT := HXg3; clear HXg3; have BKg3 := zA.mk hbox; clear hg hbox hb; have hczg3 : w1.cell? ⟨g3, 0, none⟩ = some (.slice A0 l0.length c0) := (zL BKg3.out 0).trans rfl; have hfzg3 := zM BKg3.out 0))
  go_ret
  exact ⟨by first | rfl | (simp <;> rfl), HB.out⟩
 rw [if_neg cC1] at H
 have dC1 : decide ((l1.length : Int) > 1048576) = false := yhy cC1; have e0C1 : decide (1048576 < (l1.length : Int)) = false := yhy (by omega); have e1C1 : decide (1048576 < l1.length) = false := yhy (by omega)
 clear cC1
 by_cases cC2 : (l2.length : Int) > 1048576
 next =>
  have dC2 : decide ((l2.length : Int) > 1048576) = true := ygy cC2; have e0C2 : decide (1048576 < (l2.length : Int)) = true := ygy (by omega); have e1C2 : decide (1048576 < l2.length) = true := ygy (by omega)
  clear cC2 H
  go_enter Try.func11, Try.ntmps11
  try go_wp2_with (first | ((with_reducible refine zj (N := 3) rfl ?_); refine zi ?hg (N := 3) ?hd (cs := #[.slice A0 l0.length c0]) (t := 24) ?hr ?_; (case hd => rfl); (case hg => rfl); (case hr => first | (go_simp; done) | (go_simp; rfl)); intro g3 hg w1 hbox hb; have HNg3 := zA.mk (by rw [hg]; exact HT.out : w.heap.size ≤ g3); have HXg3 := zA.mk (show g3 + 1 ≤ w1.heap.size from qi hbox); have nHB := zA.mk (zN HB.out hb); have nHT := zA.mk (qt HT.out hb); clear HB HT  ; have HB := nHB; have HT := nHT; clear nHB nHT  ; clear HT; have HT := HXg3; clear HXg3; have BKg3 := zA.mk hbox; clear hg hbox hb; have hczg3 : w1.cell? ⟨g3, 0, none⟩ = some (.slice A0 l0.length c0) := (zL BKg3.out 0).trans rfl; have hfzg3 := zM BKg3.out 0))
  go_ret
  exact ⟨by first | rfl | (simp <;> rfl), HB.out⟩
 rw [if_neg cC2] at H
 have dC2 : decide ((l2.length : Int) > 1048576) = false := yhy cC2; have e0C2 : decide (1048576 < (l2.length : Int)) = false := yhy (by omega); have e1C2 : decide (1048576 < l2.length) = false := yhy (by omega)
 clear cC2
 obtain ⟨t4, H30, H⟩ := ydy.mp H
 have H3 := zA.mk H30
 clear H30
 by_cases cC5 : t4 < 0
 next =>
  have dC5 : decide (t4 < 0) = true := ygy cC5
  clear cC5 H
  go_enter Try.func11, Try.ntmps11
  try go_wp2_with (first | ((with_reducible refine zj (N := 3) rfl ?_); refine zi ?hg (N := 3) ?hd (cs := #[.slice A0 l0.length c0]) (t := 24) ?hr ?_; (case hd => rfl); (case hg => rfl); (case hr => first | (go_simp; done) | (go_simp; rfl)); intro g3 hg w1 hbox hb; have HNg3 := zA.mk (by rw [hg]; exact HT.out : w.heap.size ≤ g3); have HXg3 := zA.mk (show g3 + 1 ≤ w1.heap.size from qi hbox); have nHB := zA.mk (zN HB.out hb); have nHT := zA.mk (qt HT.out hb); clear HB HT  ; have HB := nHB; have HT := nHT; clear nHB nHT  ; clear HT; have HT := HXg3; clear HXg3; have BKg3 := zA.mk hbox; clear hg hbox hb; have hczg3 : w1.cell? ⟨g3, 0, none⟩ = some (.slice A0 l0.length c0) := (zL BKg3.out 0).trans rfl; have hfzg3 := zM BKg3.out 0) | ((with_reducible refine zQ (f := 15) rfl ?_); refine zt (some 28) rfl rfl Try.func15 (by kernel_rfl) rfl #[.agg #[.slice A0 l0.length c0], .int .i64 1048576] rfl (by (try simp only [yiy, yjy, yky]); first | done | rfl | (simp only [yly, ymy]; rfl)) ?_; (with_reducible refine (ZY.calls k _ _ l0 1048576 t4 _ ?side1 ?side2 H3.out).mono ?_); (case side1 => exact Kd.za HR0.out HB.out); (case side2 => exact HC0.out); rintro e w2 ⟨rfl, hb⟩; refine ⟨_, rfl, ?_⟩; (try clear hczg3 hfzg3); have nBg3 := zA.mk (zP (g := g3) (o := .cells #[.slice A0 l0.length c0] 24 (0, 0)) BKg3.out hb); have nHB := zA.mk (zN HB.out hb); have nHT := zA.mk (qt HT.out hb); clear HB HT  BKg3; have BKg3 := nBg3; have HB := nHB; have HT := nHT; clear nHB nHT  nBg3; (try clear hb); (try clear hnd); have hczg3 : w2.cell? ⟨g3, 0, none⟩ = some (.slice A0 l0.length c0) := (zL BKg3.out 0).trans rfl; have hfzg3 := zM BKg3.out 0))
  go_ret
  exact ⟨by first | rfl | (simp <;> rfl), HB.out⟩
 rw [if_neg cC5] at H
 have dC5 : decide (t4 < 0) = false := yhy cC5
 clear cC5
 obtain ⟨t7, H60, H⟩ := ydy.mp H
 have H6 := zA.mk H60
 clear H60
 obtain ⟨t10, H90, H⟩ := ydy.mp H
 have H9 := zA.mk H90
 clear H90
 obtain ⟨t13, H120, H⟩ := ydy.mp H
 have H12 := zA.mk H120
 clear H120
 obtain ⟨⟨t16, t18⟩, H150, H⟩ := ydy.mp H
 have H15 := zA.mk H150
 clear H150
 obtain ⟨t20, H190, H⟩ := ydy.mp H
 have H19 := zA.mk H190
 clear H190
 obtain ⟨t23, H220, H⟩ := ydy.mp H
 have H22 := zA.mk H220
 clear H220
 obtain ⟨t26, H250, H⟩ := ydy.mp H
 have H25 := zA.mk H250
 clear H250
 obtain ⟨⟨t29, t31⟩, H280, H⟩ := ydy.mp H
 have H28 := zA.mk H280
 clear H280
 obtain ⟨t33, H320, H⟩ := ydy.mp H
 obtain rfl : t33 = true := by cases t33 with | true => rfl | false => exact absurd H (by simp)
 replace H := H
 have H32 := zA.mk H320
 clear H320
 rw [if_pos rfl] at H
 have cC34 : t31 = t18 := by by_cases c_ : t31 = t18; exact c_; rw [if_neg c_] at H; cases H
 rw [if_pos cC34] at H
 have dC34 : (t31 != t18) = false := by rw [cC34]; exact bne_self_eq_false _
 clear cC34
 obtain ⟨t36, H350, H⟩ := ydy.mp H
 have H35 := zA.mk H350
 clear H350
 obtain ⟨t39, H380, H⟩ := ydy.mp H
 obtain rfl : t39 = true := by cases t39 with | true => rfl | false => exact absurd H (by simp)
 replace H := H
 have H38 := zA.mk H380
 clear H380
 rw [if_pos rfl] at H
 obtain ⟨t41, H400, H⟩ := ydy.mp H
 have H40 := zA.mk H400
 clear H400
 obtain ⟨t44, H430, H⟩ := ydy.mp H
 obtain rfl : t44 = true := by cases t44 with | true => rfl | false => exact absurd H (by simp)
 replace H := H
 have H43 := zA.mk H430
 clear H430
 rw [if_pos rfl] at H
 obtain ⟨t46, H450, H⟩ := ydy.mp H
 have H45 := zA.mk H450
 clear H450
 obtain ⟨t49, H480, H⟩ := ydy.mp H
 obtain rfl : t49 = true := by cases t49 with | true => rfl | false => exact absurd H (by simp)
 replace H := H
 have H48 := zA.mk H480
 clear H480
 rw [if_pos rfl] at H
 obtain ⟨⟨m51, y52⟩, H500, H⟩ := ydy.mp H
 have H50 := zA.mk H500
 clear H500
 dsimp only at H
 obtain ⟨⟨m54, y55⟩, H530, H⟩ := ydy.mp H
 have H53 := zA.mk H530
 clear H530
 dsimp only at H
 obtain ⟨⟨m57, y58⟩, H560, H⟩ := ydy.mp H
 have H56 := zA.mk H560
 clear H560
 dsimp only at H
 have cC59 : ¬ (m57 < 0) := fun c_ => by rw [if_pos c_] at H; cases H
 rw [if_neg cC59] at H
 have dC59 : decide (m57 < 0) = false := yhy cC59
 clear cC59
 obtain ⟨t61, H600, H⟩ := ydy.mp H
 obtain rfl : t61 = true := by cases t61 with | true => rfl | false => exact absurd H (by simp)
 replace H := H
 have H60 := zA.mk H600
 clear H600
 rw [if_pos rfl] at H
 have cC62 : t31 = t18 := by by_cases c_ : t31 = t18; exact c_; rw [if_neg c_] at H; cases H
 rw [if_pos cC62] at H
 have dC62 : (t31 != t18) = false := by rw [cC62]; exact bne_self_eq_false _
 clear cC62
 obtain ⟨⟨m64, y65⟩, H630, H⟩ := ydy.mp H
 have H63 := zA.mk H630
 clear H630
 dsimp only at H
 obtain ⟨t67, H660, H⟩ := ydy.mp H
 have H66 := zA.mk H660
 clear H660
 have cC68 : ¬ (t67 < 0) := fun c_ => by rw [if_pos c_] at H; cases H
 rw [if_neg cC68] at H
 have dC68 : decide (t67 < 0) = false := yhy cC68
 clear cC68
 have cC69 : t67 = m64 := by by_cases c_ : t67 = m64; exact c_; rw [if_neg c_] at H; cases H
 rw [if_pos cC69] at H
 have dC69 : (t67 != m64) = false := by rw [cC69]; exact bne_self_eq_false _
 clear cC69
 obtain ⟨t71, H700, H⟩ := ydy.mp H
 have H70 := zA.mk H700
 clear H700
 obtain ⟨t74, H730, H⟩ := ydy.mp H
 have H73 := zA.mk H730
 clear H730
 obtain ⟨t77, H760, H⟩ := ydy.mp H
 have H76 := zA.mk H760
 clear H760
 obtain ⟨⟨t80, t82⟩, H790, H⟩ := ydy.mp H
 have H79 := zA.mk H790
 clear H790
 obtain ⟨t84, H830, H⟩ := ydy.mp H
 obtain rfl : t84 = true := by cases t84 with | true => rfl | false => exact absurd H (by simp)
 replace H := H
 have H83 := zA.mk H830
 clear H830
 rw [if_pos rfl] at H
 have cC85 : t82 = t18 := by by_cases c_ : t82 = t18; exact c_; rw [if_neg c_] at H; cases H
 rw [if_pos cC85] at H
 have dC85 : (t82 != t18) = false := by rw [cC85]; exact bne_self_eq_false _
 clear cC85
 obtain ⟨t87, H860, H⟩ := ydy.mp H
 have H86 := zA.mk H860
 clear H860
 have cC88 : ¬ (t87 < 0) := fun c_ => by rw [if_pos c_] at H; cases H
 rw [if_neg cC88] at H
 have dC88 : decide (t87 < 0) = false := yhy cC88
 clear cC88
 have cC89 : t87 = m64 := by by_cases c_ : t87 = m64; exact c_; rw [if_neg c_] at H; cases H
 rw [if_pos cC89] at H
 have dC89 : (t87 != m64) = false := by rw [cC89]; exact bne_self_eq_false _
 clear cC89
 clear H
 go_enter Try.func11, Try.ntmps11
 try go_wp2_with (first | ((with_reducible refine zj (N := 3) rfl ?_); refine zi ?hg (N := 3) ?hd (cs := #[.slice A0 l0.length c0]) (t := 24) ?hr ?_; (case hd => rfl); (case hg => rfl); (case hr => first | (go_simp; done) | (go_simp; rfl)); intro g3 hg w1 hbox hb; have HNg3 := zA.mk (by rw [hg]; exact HT.out : w.heap.size ≤ g3); have HXg3 := zA.mk (show g3 + 1 ≤ w1.heap.size from qi hbox); have nHB := zA.mk (zN HB.out hb); have nHT := zA.mk (qt HT.out hb); clear HB HT  ; have HB := nHB; have HT := nHT; clear nHB nHT  ; clear HT; have HT := HXg3; clear HXg3; have BKg3 := zA.mk hbox; clear hg hbox hb; have hczg3 : w1.cell? ⟨g3, 0, none⟩ = some (.slice A0 l0.length c0) := (zL BKg3.out 0).trans rfl; have hfzg3 := zM BKg3.out 0) | ((with_reducible refine zQ (f := 15) rfl ?_); refine zt (some 28) rfl rfl Try.func15 (by kernel_rfl) rfl #[.agg #[.slice A0 l0.length c0], .int .i64 1048576] rfl (by (try simp only [yiy, yjy, yky]); first | done | rfl | (simp only [yly, ymy]; rfl)) ?_; (with_reducible refine (ZY.calls k _ _ l0 1048576 t4 _ ?side1 ?side2 H3.out).mono ?_); (case side1 => exact Kd.za HR0.out HB.out); (case side2 => exact HC0.out); rintro e w2 ⟨rfl, hb⟩; refine ⟨_, rfl, ?_⟩; (try clear hczg3 hfzg3); have nBg3 := zA.mk (zP (g := g3) (o := .cells #[.slice A0 l0.length c0] 24 (0, 0)) BKg3.out hb); have nHB := zA.mk (zN HB.out hb); have nHT := zA.mk (qt HT.out hb); clear HB HT  BKg3; have BKg3 := nBg3; have HB := nHB; have HT := nHT; clear nHB nHT  nBg3; (try clear hb); (try clear hnd); have hczg3 : w2.cell? ⟨g3, 0, none⟩ = some (.slice A0 l0.length c0) := (zL BKg3.out 0).trans rfl; have hfzg3 := zM BKg3.out 0) | ((with_reducible refine zQ (f := 17) rfl ?_); refine zt (some 33) rfl rfl Try.func17 (by kernel_rfl) rfl #[.agg #[.slice A0 l0.length c0]] rfl (by (try simp only [yiy, yjy, yky]); first | done | rfl | (simp only [yly, ymy]; rfl)) ?_; (with_reducible refine (qh.calls k _ _ l0 t7 _ ?side1 ?side2 H6.out).mono ?_); (case side1 => exact Kd.za HR0.out HB.out); (case side2 => exact HC0.out); rintro e w3 ⟨vo8, rfl, ho0, hb⟩; refine ⟨_, rfl, ?_⟩; (try clear hczg3 hfzg3); obtain ⟨loo8, hio8, hno8⟩ := ObS.made ho0 hb HT.out (zO HB.out); have nBg3 := zA.mk (zP (g := g3) (o := .cells #[.slice A0 l0.length c0] 24 (0, 0)) BKg3.out hb); have nHB := zA.mk (zN HB.out hb); have nHT := zA.mk (qt HT.out hb); clear HB HT  BKg3; have BKg3 := nBg3; have HB := nHB; have HT := nHT; clear nHB nHT  nBg3; have HNo8 := zA.mk hno8.1; clear HT; have HT := zA.mk hno8.2.1; have HOo8 := zA.mk hno8.2.2; clear hno8 ho0; obtain ⟨Ao8, co8, eeo8⟩ := HOo8.out.slice; subst eeo8; (try clear hb); (try clear hnd); have hczg3 : w3.cell? ⟨g3, 0, none⟩ = some (.slice A0 l0.length c0) := (zL BKg3.out 0).trans rfl; have hfzg3 := zM BKg3.out 0) | ((with_reducible refine zQ (f := 18) rfl ?_); refine zt (some 35) rfl rfl Try.func18 (by kernel_rfl) rfl #[.slice A1 l1.length c1] rfl (by (try simp only [yiy, yjy, yky]); first | done | rfl | (simp only [yly, ymy]; rfl)) ?_; (with_reducible refine (zz.calls k _ _ l1 t10 _ ?side1 ?side2 H9.out).mono ?_); (case side1 => exact Kd.za HR1.out HB.out); (case side2 => exact HC1.out); rintro e w4 ⟨vo11, rfl, ho0, hb⟩; refine ⟨_, rfl, ?_⟩; (try clear hczg3 hfzg3); obtain ⟨loo11, hio11, hno11⟩ := ObR.made ho0 hb HT.out (zO HB.out); have nOo8 := zA.mk (ObS.below HOo8.out hb); have nBg3 := zA.mk (zP (g := g3) (o := .cells #[.slice A0 l0.length c0] 24 (0, 0)) BKg3.out hb); have nHB := zA.mk (zN HB.out hb); have nHT := zA.mk (qt HT.out hb); clear HB HT HOo8 BKg3; have HOo8 := nOo8; have BKg3 := nBg3; have HB := nHB; have HT := nHT; clear nHB nHT nOo8 nBg3; have HNo11 := zA.mk hno11.1; clear HT; have HT := zA.mk hno11.2.1; have HOo11 := zA.mk hno11.2.2; clear hno11 ho0; obtain ⟨Ao11, co11, eeo11⟩ := HOo11.out.slice; subst eeo11; (try clear hb); (try clear hnd); have hczg3 : w4.cell? ⟨g3, 0, none⟩ = some (.slice A0 l0.length c0) := (zL BKg3.out 0).trans rfl; have hfzg3 := zM BKg3.out 0) | ((with_reducible refine zQ (f := 18) rfl ?_); refine zt (some 37) rfl rfl Try.func18 (by kernel_rfl) rfl #[.slice A2 l2.length c2] rfl (by (try simp only [yiy, yjy, yky]); first | done | rfl | (simp only [yly, ymy]; rfl)) ?_; (with_reducible refine (zz.calls k _ _ l2 t13 _ ?side1 ?side2 H12.out).mono ?_); (case side1 => exact Kd.za HR2.out HB.out); (case side2 => exact HC2.out); rintro e w5 ⟨vo14, rfl, ho0, hb⟩; refine ⟨_, rfl, ?_⟩; (try clear hczg3 hfzg3); obtain ⟨loo14, hio14, hno14⟩ := ObR.made ho0 hb HT.out (zO HB.out); have nOo8 := zA.mk (ObS.below HOo8.out hb); have nOo11 := zA.mk (ObR.below HOo11.out hb); have nBg3 := zA.mk (zP (g := g3) (o := .cells #[.slice A0 l0.length c0] 24 (0, 0)) BKg3.out hb); have nHB := zA.mk (zN HB.out hb); have nHT := zA.mk (qt HT.out hb); clear HB HT HOo8 HOo11 BKg3; have HOo8 := nOo8; have HOo11 := nOo11; have BKg3 := nBg3; have HB := nHB; have HT := nHT; clear nHB nHT nOo8 nOo11 nBg3; have HNo14 := zA.mk hno14.1; clear HT; have HT := zA.mk hno14.2.1; have HOo14 := zA.mk hno14.2.2; clear hno14 ho0; obtain ⟨Ao14, co14, eeo14⟩ := HOo14.out.slice; subst eeo14; (try clear hb); (try clear hnd); have hczg3 : w5.cell? ⟨g3, 0, none⟩ = some (.slice A0 l0.length c0) := (zL BKg3.out 0).trans rfl; have hfzg3 := zM BKg3.out 0) | ((with_reducible refine zQ (f := 42) rfl ?_); refine zt (some 38) rfl rfl Try.func42 (by kernel_rfl) rfl #[.agg #[.slice Ao8 t7.length co8], .slice Ao11 t10.length co11, .slice Ao14 t13.length co14] rfl (by (try simp only [yiy, yjy, yky]); first | done | rfl | (simp only [yly, ymy]; rfl)) ?_; (with_reducible refine (Zt.calls k _ _ t7 _ _ t10 _ _ t13 t16 t18 _ ?side1 ?side2 ?side3 ?side4 ?side5 ?side6 H15.out).mono ?_); (case side1 => exact (ObS.reads HOo8.out).2.2); (case side2 => exact ObS.room HOo8.out); (case side3 => exact (ObR.reads HOo11.out).2.2); (case side4 => exact ObR.room HOo11.out); (case side5 => exact (ObR.reads HOo14.out).2.2); (case side6 => exact ObR.room HOo14.out); rintro e w6 ⟨vo17, rfl, ho0, hb⟩; refine ⟨_, rfl, ?_⟩; (try clear hczg3 hfzg3); obtain ⟨loo17, hio17, hno17⟩ := ObR.made ho0 hb HT.out (zO HB.out); have nOo8 := zA.mk (ObS.below HOo8.out hb); have nOo11 := zA.mk (ObR.below HOo11.out hb); have nOo14 := zA.mk (ObR.below HOo14.out hb); have nBg3 := zA.mk (zP (g := g3) (o := .cells #[.slice A0 l0.length c0] 24 (0, 0)) BKg3.out hb); have nHB := zA.mk (zN HB.out hb); have nHT := zA.mk (qt HT.out hb); clear HB HT HOo8 HOo11 HOo14 BKg3; have HOo8 := nOo8; have HOo11 := nOo11; have HOo14 := nOo14; have BKg3 := nBg3; have HB := nHB; have HT := nHT; clear nHB nHT nOo8 nOo11 nOo14 nBg3; have HNo17 := zA.mk hno17.1; clear HT; have HT := zA.mk hno17.2.1; have HOo17 := zA.mk hno17.2.2; clear hno17 ho0; obtain ⟨Ao17, co17, eeo17⟩ := HOo17.out.slice; subst eeo17; (try clear hb); (try clear hnd); have hczg3 : w6.cell? ⟨g3, 0, none⟩ = some (.slice A0 l0.length c0) := (zL BKg3.out 0).trans rfl; have hfzg3 := zM BKg3.out 0) | ((with_reducible refine zQ (f := 17) rfl ?_); refine zt (some 42) rfl rfl Try.func17 (by kernel_rfl) rfl #[.agg #[.slice A0 l0.length c0]] rfl (by (try simp only [yiy, yjy, yky]); first | done | rfl | (simp only [yly, ymy]; rfl)) ?_; (with_reducible refine (qh.calls k _ _ l0 t20 _ ?side1 ?side2 H19.out).mono ?_); (case side1 => exact Kd.za HR0.out HB.out); (case side2 => exact HC0.out); rintro e w7 ⟨vo21, rfl, ho0, hb⟩; refine ⟨_, rfl, ?_⟩; (try clear hczg3 hfzg3); obtain ⟨loo21, hio21, hno21⟩ := ObS.made ho0 hb HT.out (zO HB.out); have nOo8 := zA.mk (ObS.below HOo8.out hb); have nOo11 := zA.mk (ObR.below HOo11.out hb); have nOo14 := zA.mk (ObR.below HOo14.out hb); have nOo17 := zA.mk (ObR.below HOo17.out hb); have nBg3 := zA.mk (zP (g := g3) (o := .cells #[.slice A0 l0.length c0] 24 (0, 0)) BKg3.out hb); have nHB := zA.mk (zN HB.out hb); have nHT := zA.mk (qt HT.out hb); clear HB HT HOo8 HOo11 HOo14 HOo17 BKg3; have HOo8 := nOo8; have HOo11 := nOo11; have HOo14 := nOo14; have HOo17 := nOo17; have BKg3 := nBg3; have HB := nHB; have HT := nHT; clear nHB nHT nOo8 nOo11 nOo14 nOo17 nBg3; have HNo21 := zA.mk hno21.1; clear HT; have HT := zA.mk hno21.2.1; have HOo21 := zA.mk hno21.2.2; clear hno21 ho0; obtain ⟨Ao21, co21, eeo21⟩ := HOo21.out.slice; subst eeo21; (try clear hb); (try clear hnd); have hczg3 : w7.cell? ⟨g3, 0, none⟩ = some (.slice A0 l0.length c0) := (zL BKg3.out 0).trans rfl; have hfzg3 := zM BKg3.out 0) | ((with_reducible refine zj (N := 10) rfl ?_); refine zi ?hg (N := 10) ?hd (cs := #[.slice none 0 0]) (t := 30) ?hr ?_; (case hd => rfl); (case hg => rfl); (case hr => first | (go_simp; done) | (go_simp; rfl)); intro g10 hg w8 hbox hb; (try clear hczg3 hfzg3); have HNg10 := zA.mk (by rw [hg]; exact HT.out : hio21 ≤ g10); have HXg10 := zA.mk (show g10 + 1 ≤ w8.heap.size from qi hbox); have nOo8 := zA.mk (ObS.below HOo8.out hb); have nOo11 := zA.mk (ObR.below HOo11.out hb); have nOo14 := zA.mk (ObR.below HOo14.out hb); have nOo17 := zA.mk (ObR.below HOo17.out hb); have nOo21 := zA.mk (ObS.below HOo21.out hb); have nBg3 := zA.mk (zP (g := g3) (o := .cells #[.slice A0 l0.length c0] 24 (0, 0)) BKg3.out hb); have nHB := zA.mk (zN HB.out hb); have nHT := zA.mk (qt HT.out hb); clear HB HT HOo8 HOo11 HOo14 HOo17 HOo21 BKg3; have HOo8 := nOo8; have HOo11 := nOo11; have HOo14 := nOo14; have HOo17 := nOo17; have HOo21 := nOo21; have BKg3 := nBg3; have HB := nHB; have HT := nHT; clear nHB nHT nOo8 nOo11 nOo14 nOo17 nOo21 nBg3; clear HT; have HT := HXg10; clear HXg10; have BKg10 := zA.mk hbox; clear hg hbox hb; have hnbg10_g3 : g10 ≠ g3 := (by have := HNg3.out; have := HNo8.out; have := HNo11.out; have := HNo14.out; have := HNo17.out; have := HNo21.out; have := HNg10.out; omega); have hnbg3_g10 : g3 ≠ g10 := (by have := HNg3.out; have := HNo8.out; have := HNo11.out; have := HNo14.out; have := HNo17.out; have := HNo21.out; have := HNg10.out; omega); have hczg3 : w8.cell? ⟨g3, 0, none⟩ = some (.slice A0 l0.length c0) := (zL BKg3.out 0).trans rfl; have hfzg3 := zM BKg3.out 0; have hczg10 : w8.cell? ⟨g10, 0, none⟩ = some (.slice none 0 0) := (zL BKg10.out 0).trans rfl; have hfzg10 := zM BKg10.out 0) | ((with_reducible refine zQ (f := 18) rfl ?_); refine zt (some 44) rfl rfl Try.func18 (by kernel_rfl) rfl #[.slice A1 l1.length c1] rfl (by (try simp only [yiy, yjy, yky]); first | done | rfl | (simp only [yly, ymy]; rfl)) ?_; (with_reducible refine (zz.calls k _ _ l1 t23 _ ?side1 ?side2 H22.out).mono ?_); (case side1 => exact Kd.za HR1.out (zF HB.out (show w.heap.size ≤ g10 from (by have := HNg3.out; have := HNo8.out; have := HNo11.out; have := HNo14.out; have := HNo17.out; have := HNo21.out; have := HNg10.out; omega)))); (case side2 => exact HC1.out); rintro e w9 ⟨vo24, rfl, ho0, hb⟩; refine ⟨_, rfl, ?_⟩; (try clear hczg3 hfzg3 hczg10 hfzg10); obtain ⟨loo24, hio24, hno24⟩ := ObR.made ho0 hb (zEq HT.out) (zO (zF HB.out (show w.heap.size ≤ g10 from (by have := HNg3.out; have := HNo8.out; have := HNo11.out; have := HNo14.out; have := HNo17.out; have := HNo21.out; have := HNg10.out; omega)))); have nOo8 := zA.mk (ObS.below (ObS.far (g := g10) (i := 0) HOo8.out (by have := HNg3.out; have := HNo8.out; have := HNo11.out; have := HNo14.out; have := HNo17.out; have := HNo21.out; have := HNg10.out; omega) _) hb); have nOo11 := zA.mk (ObR.below (ObR.far (g := g10) (i := 0) HOo11.out (by have := HNg3.out; have := HNo8.out; have := HNo11.out; have := HNo14.out; have := HNo17.out; have := HNo21.out; have := HNg10.out; omega) _) hb); have nOo14 := zA.mk (ObR.below (ObR.far (g := g10) (i := 0) HOo14.out (by have := HNg3.out; have := HNo8.out; have := HNo11.out; have := HNo14.out; have := HNo17.out; have := HNo21.out; have := HNg10.out; omega) _) hb); have nOo17 := zA.mk (ObR.below (ObR.far (g := g10) (i := 0) HOo17.out (by have := HNg3.out; have := HNo8.out; have := HNo11.out; have := HNo14.out; have := HNo17.out; have := HNo21.out; have := HNg10.out; omega) _) hb); have nOo21 := zA.mk (ObS.below (ObS.far (g := g10) (i := 0) HOo21.out (by have := HNg3.out; have := HNo8.out; have := HNo11.out; have := HNo14.out; have := HNo17.out; have := HNo21.out; have := HNg10.out; omega) _) hb); have nBg3 := zA.mk (zP (g := g3) (o := .cells #[.slice A0 l0.length c0] 24 (0, 0)) (qZ (p := ⟨g10, 0, none⟩) BKg3.out (show g3 ≠ g10 from (by have := HNg3.out; have := HNo8.out; have := HNo11.out; have := HNo14.out; have := HNo17.out; have := HNo21.out; have := HNg10.out; omega)) _) hb); have nBg10 := zA.mk (zP (g := g10) (o := .cells #[.slice Ao21 t20.length co21] 30 (0, 0)) (qg (cs := #[.slice none 0 0]) BKg10.out 0 _ rfl) hb); have nHB := zA.mk (zN (zF HB.out (show w.heap.size ≤ g10 from (by have := HNg3.out; have := HNo8.out; have := HNo11.out; have := HNo14.out; have := HNo17.out; have := HNo21.out; have := HNg10.out; omega))) hb); have nHT := zA.mk (qt (zEq HT.out) hb); clear HB HT HOo8 HOo11 HOo14 HOo17 HOo21 BKg3 BKg10; have HOo8 := nOo8; have HOo11 := nOo11; have HOo14 := nOo14; have HOo17 := nOo17; have HOo21 := nOo21; have BKg3 := nBg3; have BKg10 := nBg10; have HB := nHB; have HT := nHT; clear nHB nHT nOo8 nOo11 nOo14 nOo17 nOo21 nBg3 nBg10; have HNo24 := zA.mk hno24.1; clear HT; have HT := zA.mk hno24.2.1; have HOo24 := zA.mk hno24.2.2; clear hno24 ho0; obtain ⟨Ao24, co24, eeo24⟩ := HOo24.out.slice; subst eeo24; (try clear hb); (try clear hnd); have hczg3 : w9.cell? ⟨g3, 0, none⟩ = some (.slice A0 l0.length c0) := (zL BKg3.out 0).trans rfl; have hfzg3 := zM BKg3.out 0; have hczg10 : w9.cell? ⟨g10, 0, none⟩ = some (.slice Ao21 t20.length co21) := (zL BKg10.out 0).trans rfl; have hfzg10 := zM BKg10.out 0) | ((with_reducible refine zQ (f := 18) rfl ?_); refine zt (some 46) rfl rfl Try.func18 (by kernel_rfl) rfl #[.slice A2 l2.length c2] rfl (by (try simp only [yiy, yjy, yky]); first | done | rfl | (simp only [yly, ymy]; rfl)) ?_; (with_reducible refine (zz.calls k _ _ l2 t26 _ ?side1 ?side2 H25.out).mono ?_); (case side1 => exact Kd.za HR2.out HB.out); (case side2 => exact HC2.out); rintro e w10 ⟨vo27, rfl, ho0, hb⟩; refine ⟨_, rfl, ?_⟩; (try clear hczg3 hfzg3 hczg10 hfzg10); obtain ⟨loo27, hio27, hno27⟩ := ObR.made ho0 hb HT.out (zO HB.out); have nOo8 := zA.mk (ObS.below HOo8.out hb); have nOo11 := zA.mk (ObR.below HOo11.out hb); have nOo14 := zA.mk (ObR.below HOo14.out hb); have nOo17 := zA.mk (ObR.below HOo17.out hb); have nOo21 := zA.mk (ObS.below HOo21.out hb); have nOo24 := zA.mk (ObR.below HOo24.out hb); have nBg3 := zA.mk (zP (g := g3) (o := .cells #[.slice A0 l0.length c0] 24 (0, 0)) BKg3.out hb); have nBg10 := zA.mk (zP (g := g10) (o := .cells #[.slice Ao21 t20.length co21] 30 (0, 0)) BKg10.out hb); have nHB := zA.mk (zN HB.out hb); have nHT := zA.mk (qt HT.out hb); clear HB HT HOo8 HOo11 HOo14 HOo17 HOo21 HOo24 BKg3 BKg10; have HOo8 := nOo8; have HOo11 := nOo11; have HOo14 := nOo14; have HOo17 := nOo17; have HOo21 := nOo21; have HOo24 := nOo24; have BKg3 := nBg3; have BKg10 := nBg10; have HB := nHB; have HT := nHT; clear nHB nHT nOo8 nOo11 nOo14 nOo17 nOo21 nOo24 nBg3 nBg10; have HNo27 := zA.mk hno27.1; clear HT; have HT := zA.mk hno27.2.1; have HOo27 := zA.mk hno27.2.2; clear hno27 ho0; obtain ⟨Ao27, co27, eeo27⟩ := HOo27.out.slice; subst eeo27; (try clear hb); (try clear hnd); have hczg3 : w10.cell? ⟨g3, 0, none⟩ = some (.slice A0 l0.length c0) := (zL BKg3.out 0).trans rfl; have hfzg3 := zM BKg3.out 0; have hczg10 : w10.cell? ⟨g10, 0, none⟩ = some (.slice Ao21 t20.length co21) := (zL BKg10.out 0).trans rfl; have hfzg10 := zM BKg10.out 0) | ((with_reducible refine zQ (f := 43) rfl ?_); refine zt (some 51) rfl rfl Try.func43 (by kernel_rfl) rfl #[.agg #[.slice Ao21 t20.length co21], .slice Ao24 t23.length co24, .slice Ao27 t26.length co27] rfl (by (try simp only [yiy, yjy, yky]); first | done | rfl | (simp only [yly, ymy]; rfl)) ?_; (with_reducible refine (Zc.calls k _ _ t20 _ _ t23 _ _ t26 t29 t31 _ ?side1 ?side2 ?side3 ?side4 ?side5 ?side6 H28.out).mono ?_); (case side1 => exact (ObS.reads HOo21.out).2.2); (case side2 => exact ObS.room HOo21.out); (case side3 => exact (ObR.reads HOo24.out).2.2); (case side4 => exact ObR.room HOo24.out); (case side5 => exact (ObR.reads HOo27.out).2.2); (case side6 => exact ObR.room HOo27.out); rintro e w11 ⟨vo30, rfl, ho0, hb⟩; refine ⟨_, rfl, ?_⟩; (try clear hczg3 hfzg3 hczg10 hfzg10); obtain ⟨loo30, hio30, hno30⟩ := ObR.made ho0 hb HT.out (zO HB.out); have nOo8 := zA.mk (ObS.below HOo8.out hb); have nOo11 := zA.mk (ObR.below HOo11.out hb); have nOo14 := zA.mk (ObR.below HOo14.out hb); have nOo17 := zA.mk (ObR.below HOo17.out hb); have nOo21 := zA.mk (ObS.below HOo21.out hb); have nOo24 := zA.mk (ObR.below HOo24.out hb); have nOo27 := zA.mk (ObR.below HOo27.out hb); have nBg3 := zA.mk (zP (g := g3) (o := .cells #[.slice A0 l0.length c0] 24 (0, 0)) BKg3.out hb); have nBg10 := zA.mk (zP (g := g10) (o := .cells #[.slice Ao21 t20.length co21] 30 (0, 0)) BKg10.out hb); have nHB := zA.mk (zN HB.out hb); have nHT := zA.mk (qt HT.out hb); clear HB HT HOo8 HOo11 HOo14 HOo17 HOo21 HOo24 HOo27 BKg3 BKg10; have HOo8 := nOo8; have HOo11 := nOo11; have HOo14 := nOo14; have HOo17 := nOo17; have HOo21 := nOo21; have HOo24 := nOo24; have HOo27 := nOo27; have BKg3 := nBg3; have BKg10 := nBg10; have HB := nHB; have HT := nHT; clear nHB nHT nOo8 nOo11 nOo14 nOo17 nOo21 nOo24 nOo27 nBg3 nBg10; have HNo30 := zA.mk hno30.1; clear HT; have HT := zA.mk hno30.2.1; have HOo30 := zA.mk hno30.2.2; clear hno30 ho0; obtain ⟨Ao30, co30, eeo30⟩ := HOo30.out.slice; subst eeo30; (try clear hb); (try clear hnd); have hczg3 : w11.cell? ⟨g3, 0, none⟩ = some (.slice A0 l0.length c0) := (zL BKg3.out 0).trans rfl; have hfzg3 := zM BKg3.out 0; have hczg10 : w11.cell? ⟨g10, 0, none⟩ = some (.slice Ao21 t20.length co21) := (zL BKg10.out 0).trans rfl; have hfzg10 := zM BKg10.out 0) | ((with_reducible refine zQ (f := 21) rfl ?_); refine zt (some 56) rfl rfl Try.func21 (by kernel_rfl) rfl #[.slice Ao30 t29.length co30, .slice Ao17 t16.length co17] rfl (by (try simp only [yiy, yjy, yky]); first | done | rfl | (simp only [yly, ymy]; rfl)) ?_; (with_reducible refine (qQ.calls k _ _ t29 _ _ t16 true _ ?side1 ?side2 ?side3 ?side4 H32.out).mono ?_); (case side1 => exact (ObR.reads HOo30.out).2.2); (case side2 => exact ObR.room HOo30.out); (case side3 => exact (ObR.reads HOo17.out).2.2); (case side4 => exact ObR.room HOo17.out); rintro e w12 ⟨rfl, ⟨nd, hnd⟩⟩; refine ⟨_, rfl, ?_⟩; have hb := Zn hnd; (try clear hczg3 hfzg3 hczg10 hfzg10); have nOo8 := zA.mk (ObS.below HOo8.out hb); have nOo11 := zA.mk (ObR.below HOo11.out hb); have nOo14 := zA.mk (ObR.below HOo14.out hb); have nOo17 := zA.mk (ObR.below HOo17.out hb); have nOo21 := zA.mk (ObS.below HOo21.out hb); have nOo24 := zA.mk (ObR.below HOo24.out hb); have nOo27 := zA.mk (ObR.below HOo27.out hb); have nOo30 := zA.mk (ObR.below HOo30.out hb); have nBg3 := zA.mk (zP (g := g3) (o := .cells #[.slice A0 l0.length c0] 24 (0, 0)) BKg3.out hb); have nBg10 := zA.mk (zP (g := g10) (o := .cells #[.slice Ao21 t20.length co21] 30 (0, 0)) BKg10.out hb); have nHB := zA.mk (zN HB.out hb); have nHT := zA.mk (qt HT.out hb); clear HB HT HOo8 HOo11 HOo14 HOo17 HOo21 HOo24 HOo27 HOo30 BKg3 BKg10; have HOo8 := nOo8; have HOo11 := nOo11; have HOo14 := nOo14; have HOo17 := nOo17; have HOo21 := nOo21; have HOo24 := nOo24; have HOo27 := nOo27; have HOo30 := nOo30; have BKg3 := nBg3; have BKg10 := nBg10; have HB := nHB; have HT := nHT; clear nHB nHT nOo8 nOo11 nOo14 nOo17 nOo21 nOo24 nOo27 nOo30 nBg3 nBg10; (try clear hb); (try clear hnd); have hczg3 : w12.cell? ⟨g3, 0, none⟩ = some (.slice A0 l0.length c0) := (zL BKg3.out 0).trans rfl; have hfzg3 := zM BKg3.out 0; have hczg10 : w12.cell? ⟨g10, 0, none⟩ = some (.slice Ao21 t20.length co21) := (zL BKg10.out 0).trans rfl; have hfzg10 := zM BKg10.out 0))
 (try clear hczg3 hfzg3 hczg10 hfzg10)
 have nOo8 := zA.mk (ObS.drew HOo8.out)
 have nOo11 := zA.mk (ObR.drew HOo11.out)
 have nOo14 := zA.mk (ObR.drew HOo14.out)
 have nOo17 := zA.mk (ObR.drew HOo17.out)
 have nOo21 := zA.mk (ObS.drew HOo21.out)
 have nOo24 := zA.mk (ObR.drew HOo24.out)
 have nOo27 := zA.mk (ObR.drew HOo27.out)
 have nOo30 := zA.mk (ObR.drew HOo30.out)
 have nBg3 := zA.mk (zJ BKg3.out)
 have nBg10 := zA.mk (zJ BKg10.out)
 have nHB := zA.mk (zD HB.out)
 have nHT := zA.mk (zFY HT.out)
 clear HB HT HOo8 HOo11 HOo14 HOo17 HOo21 HOo24 HOo27 HOo30 BKg3 BKg10
 have HOo8 := nOo8
 have HOo11 := nOo11
 have HOo14 := nOo14
 have HOo17 := nOo17
 have HOo21 := nOo21
 have HOo24 := nOo24
 have HOo27 := nOo27
 have HOo30 := nOo30
 have BKg3 := nBg3
 have BKg10 := nBg10
 have HB := nHB
 have HT := nHT
 clear nHB nHT nOo8 nOo11 nOo14 nOo17 nOo21 nOo24 nOo27 nOo30 nBg3 nBg10
 refine QD (n := 5) (S := fun w' => w'.cell? ⟨g10, 0, none⟩ = some (.slice Ao21 t20.length co21) ∧ w'.cell? ⟨g3, 0, none⟩ = some (.slice A0 l0.length c0)) (ds := []) #[false, false, false, false, false] (by kernel_rfl) rfl rfl ⟨(zL BKg10.out 0).trans rfl, (zL BKg3.out 0).trans rfl⟩ (fun hHeld => ?_)
 generalize hdr_ : World.drew _ = w13 at HOo8 HOo11 HOo14 HOo17 HOo21 HOo24 HOo27 HOo30 BKg3 BKg10 HB HT hHeld ⊢
 (try clear hdr_)
 refine qz (i := 0) (N := some 63) (v := ?_) (a' := ?_) #[true, false, false, false, false] rfl rfl (by kernel_rfl) (fun _ _ _ h => h) (Or.inl ⟨by rfl, ?_⟩) hHeld ?_ ?_
 rotate_left
 next =>
  rintro w' ⟨s0, s1⟩
  go_simp
  with_reducible rfl
 rotate_left
 next =>
  simp only [Act.put, yay, yby, ycy, zV, zW]
  rfl
 refine qz (i := 1) (N := some 64) (v := ?_) (a' := ?_) #[true, true, false, false, false] rfl rfl (by kernel_rfl) (fun _ _ _ h => h) (Or.inl ⟨by rfl, ?_⟩) hHeld ?_ ?_
 rotate_left
 next =>
  rintro w' ⟨s0, s1⟩
  go_simp
  with_reducible rfl
 rotate_left
 next =>
  simp only [Act.put, yay, yby, ycy, zV, zW]
  rfl
 refine zAj (i := 2) (N := some 65) #[true, true, true, false, false] rfl rfl (by kernel_rfl) (by decide) (fun K hK => ?_)
 refine Jc Try.func17 (by kernel_rfl) rfl #[.agg #[.slice A0 l0.length c0]] (by rfl) rfl rfl (by (try simp only [yiy, yjy, yky]); first | done | rfl | (simp only [yly, ymy]; rfl)) ?_
 with_reducible refine (qh.calls k _ _ l0 t36 _ ?side1 ?side2 H35.out).mono ?_
 (case side1 => exact Kd.za HR0.out HB.out)
 (case side2 => exact HC0.out)
 rintro e w14 ⟨vo37, rfl, ho0, hb⟩
 refine ⟨_, rfl, ?_⟩
 (try clear hczg3 hfzg3 hczg10 hfzg10)
 obtain ⟨loo37, hio37, hno37⟩ := ObS.made ho0 hb HT.out (zO HB.out)
 have nOo8 := zA.mk (ObS.below HOo8.out hb)
 have nOo11 := zA.mk (ObR.below HOo11.out hb)
 have nOo14 := zA.mk (ObR.below HOo14.out hb)
 have nOo17 := zA.mk (ObR.below HOo17.out hb)
 have nOo21 := zA.mk (ObS.below HOo21.out hb)
 have nOo24 := zA.mk (ObR.below HOo24.out hb)
 have nOo27 := zA.mk (ObR.below HOo27.out hb)
 have nOo30 := zA.mk (ObR.below HOo30.out hb)
 have nBg3 := zA.mk (zP (g := g3) (o := .cells #[.slice A0 l0.length c0] 24 (0, 0)) BKg3.out hb)
 have nBg10 := zA.mk (zP (g := g10) (o := .cells #[.slice Ao21 t20.length co21] 30 (0, 0)) BKg10.out hb)
 have nHB := zA.mk (zN HB.out hb)
 have nHT := zA.mk (qt HT.out hb)
 clear HB HT HOo8 HOo11 HOo14 HOo17 HOo21 HOo24 HOo27 HOo30 BKg3 BKg10
 have HOo8 := nOo8
 have HOo11 := nOo11
 have HOo14 := nOo14
 have HOo17 := nOo17
 have HOo21 := nOo21
 have HOo24 := nOo24
 have HOo27 := nOo27
 have HOo30 := nOo30
 have BKg3 := nBg3
 have BKg10 := nBg10
 have HB := nHB
 have HT := nHT
 clear nHB nHT nOo8 nOo11 nOo14 nOo17 nOo21 nOo24 nOo27 nOo30 nBg3 nBg10
 have HNo37 := zA.mk hno37.1
 clear HT
 have HT := zA.mk hno37.2.1
 have HOo37 := zA.mk hno37.2.2
 clear hno37 ho0
 obtain ⟨Ao37, co37, eeo37⟩ := HOo37.out.slice
 subst eeo37
 (try clear hb)
 (try clear hnd)
 refine hK.out _ _ ⟨(zL BKg10.out 0).trans rfl, (zL BKg3.out 0).trans rfl⟩ (fun hHeld => ?_)
 clear hK K
 refine QY (a' := ?_) ?_ ?_
 rotate_left
 next =>
  show Act.put _ (some 65) _ = _
  simp only [Act.put, yay, yby, ycy, zV, zW]
  rfl
 refine zAj (i := 3) (N := some 66) #[true, true, true, true, false] rfl rfl (by kernel_rfl) (by decide) (fun K hK => ?_)
 refine Jc Try.func20 (by kernel_rfl) rfl #[.agg #[.slice Ao21 t20.length co21], .agg #[.slice Ao37 t36.length co37]] (by rfl) rfl rfl (by (try simp only [yiy, yjy, yky]); first | done | rfl | (simp only [yly, ymy]; rfl)) ?_
 with_reducible refine (Zg.calls k _ _ t20 _ _ t36 true _ ?side1 ?side2 ?side3 ?side4 H38.out).mono ?_
 (case side1 => exact (ObS.reads HOo21.out).2.2)
 (case side2 => exact ObS.room HOo21.out)
 (case side3 => exact (ObS.reads HOo37.out).2.2)
 (case side4 => exact ObS.room HOo37.out)
 rintro e w15 ⟨rfl, hb⟩
 refine ⟨_, rfl, ?_⟩
 (try clear hczg3 hfzg3 hczg10 hfzg10)
 have nOo8 := zA.mk (ObS.below HOo8.out hb)
 have nOo11 := zA.mk (ObR.below HOo11.out hb)
 have nOo14 := zA.mk (ObR.below HOo14.out hb)
 have nOo17 := zA.mk (ObR.below HOo17.out hb)
 have nOo21 := zA.mk (ObS.below HOo21.out hb)
 have nOo24 := zA.mk (ObR.below HOo24.out hb)
 have nOo27 := zA.mk (ObR.below HOo27.out hb)
 have nOo30 := zA.mk (ObR.below HOo30.out hb)
 have nOo37 := zA.mk (ObS.below HOo37.out hb)
 have nBg3 := zA.mk (zP (g := g3) (o := .cells #[.slice A0 l0.length c0] 24 (0, 0)) BKg3.out hb)
 have nBg10 := zA.mk (zP (g := g10) (o := .cells #[.slice Ao21 t20.length co21] 30 (0, 0)) BKg10.out hb)
 have nHB := zA.mk (zN HB.out hb)
 have nHT := zA.mk (qt HT.out hb)
 clear HB HT HOo8 HOo11 HOo14 HOo17 HOo21 HOo24 HOo27 HOo30 HOo37 BKg3 BKg10
 have HOo8 := nOo8
 have HOo11 := nOo11
 have HOo14 := nOo14
 have HOo17 := nOo17
 have HOo21 := nOo21
 have HOo24 := nOo24
 have HOo27 := nOo27
 have HOo30 := nOo30
 have HOo37 := nOo37
 have BKg3 := nBg3
 have BKg10 := nBg10
 have HB := nHB
 have HT := nHT
 clear nHB nHT nOo8 nOo11 nOo14 nOo17 nOo21 nOo24 nOo27 nOo30 nOo37 nBg3 nBg10
 (try clear hb)
 (try clear hnd)
 refine hK.out _ _ ⟨(zL BKg10.out 0).trans rfl, (zL BKg3.out 0).trans rfl⟩ (fun hHeld => ?_)
 clear hK K
 refine QY (a' := ?_) ?_ ?_
 rotate_left
 next =>
  show Act.put _ (some 66) _ = _
  simp only [Act.put, yay, yby, ycy, zV, zW]
  rfl
 refine zg (i := 4) (N := some 67) (v := ?_) (a' := ?_) #[true, true, true, true, true] rfl rfl (by kernel_rfl) (fun _ _ _ h => h) (Or.inl ⟨by rfl, ?_⟩) ?_ ?_
 rotate_left
 next =>
  intro w'
  go_simp
  with_reducible rfl
 rotate_left
 next =>
  simp only [Act.put, yay, yby, ycy, zV, zW]
  rfl
 refine Qt (by kernel_rfl) ?_
 have hczg3 : w15.cell? ⟨g3, 0, none⟩ = some (.slice A0 l0.length c0) := (zL BKg3.out 0).trans rfl
 have hfzg3 := zM BKg3.out 0
 have hczg10 : w15.cell? ⟨g10, 0, none⟩ = some (.slice Ao21 t20.length co21) := (zL BKg10.out 0).trans rfl
 have hfzg10 := zM BKg10.out 0
 try go_wp2_with (first | ((with_reducible refine zQ (f := 18) rfl ?_); refine zt (some 70) rfl rfl Try.func18 (by kernel_rfl) rfl #[.slice A1 l1.length c1] rfl (by (try simp only [yiy, yjy, yky]); first | done | rfl | (simp only [yly, ymy]; rfl)) ?_; (with_reducible refine (zz.calls k _ _ l1 t41 _ ?side1 ?side2 H40.out).mono ?_); (case side1 => exact Kd.za HR1.out HB.out); (case side2 => exact HC1.out); rintro e w16 ⟨vo42, rfl, ho0, hb⟩; refine ⟨_, rfl, ?_⟩; (try clear hczg3 hfzg3 hczg10 hfzg10); obtain ⟨loo42, hio42, hno42⟩ := ObR.made ho0 hb HT.out (zO HB.out); have nOo8 := zA.mk (ObS.below HOo8.out hb); have nOo11 := zA.mk (ObR.below HOo11.out hb); have nOo14 := zA.mk (ObR.below HOo14.out hb); have nOo17 := zA.mk (ObR.below HOo17.out hb); have nOo21 := zA.mk (ObS.below HOo21.out hb); have nOo24 := zA.mk (ObR.below HOo24.out hb); have nOo27 := zA.mk (ObR.below HOo27.out hb); have nOo30 := zA.mk (ObR.below HOo30.out hb); have nOo37 := zA.mk (ObS.below HOo37.out hb); have nBg3 := zA.mk (zP (g := g3) (o := .cells #[.slice A0 l0.length c0] 24 (0, 0)) BKg3.out hb); have nBg10 := zA.mk (zP (g := g10) (o := .cells #[.slice Ao21 t20.length co21] 30 (0, 0)) BKg10.out hb); have nHB := zA.mk (zN HB.out hb); have nHT := zA.mk (qt HT.out hb); clear HB HT HOo8 HOo11 HOo14 HOo17 HOo21 HOo24 HOo27 HOo30 HOo37 BKg3 BKg10; have HOo8 := nOo8; have HOo11 := nOo11; have HOo14 := nOo14; have HOo17 := nOo17; have HOo21 := nOo21; have HOo24 := nOo24; have HOo27 := nOo27; have HOo30 := nOo30; have HOo37 := nOo37; have BKg3 := nBg3; have BKg10 := nBg10; have HB := nHB; have HT := nHT; clear nHB nHT nOo8 nOo11 nOo14 nOo17 nOo21 nOo24 nOo27 nOo30 nOo37 nBg3 nBg10; have HNo42 := zA.mk hno42.1; clear HT; have HT := zA.mk hno42.2.1; have HOo42 := zA.mk hno42.2.2; clear hno42 ho0; obtain ⟨Ao42, co42, eeo42⟩ := HOo42.out.slice; subst eeo42; (try clear hb); (try clear hnd); have hczg3 : w16.cell? ⟨g3, 0, none⟩ = some (.slice A0 l0.length c0) := (zL BKg3.out 0).trans rfl; have hfzg3 := zM BKg3.out 0; have hczg10 : w16.cell? ⟨g10, 0, none⟩ = some (.slice Ao21 t20.length co21) := (zL BKg10.out 0).trans rfl; have hfzg10 := zM BKg10.out 0) | ((with_reducible refine zQ (f := 21) rfl ?_); refine zt (some 71) rfl rfl Try.func21 (by kernel_rfl) rfl #[.slice Ao24 t23.length co24, .slice Ao42 t41.length co42] rfl (by (try simp only [yiy, yjy, yky]); first | done | rfl | (simp only [yly, ymy]; rfl)) ?_; (with_reducible refine (qQ.calls k _ _ t23 _ _ t41 true _ ?side1 ?side2 ?side3 ?side4 H43.out).mono ?_); (case side1 => exact (ObR.reads HOo24.out).2.2); (case side2 => exact ObR.room HOo24.out); (case side3 => exact (ObR.reads HOo42.out).2.2); (case side4 => exact ObR.room HOo42.out); rintro e w17 ⟨rfl, ⟨nd, hnd⟩⟩; refine ⟨_, rfl, ?_⟩; have hb := Zn hnd; (try clear hczg3 hfzg3 hczg10 hfzg10); have nOo8 := zA.mk (ObS.below HOo8.out hb); have nOo11 := zA.mk (ObR.below HOo11.out hb); have nOo14 := zA.mk (ObR.below HOo14.out hb); have nOo17 := zA.mk (ObR.below HOo17.out hb); have nOo21 := zA.mk (ObS.below HOo21.out hb); have nOo24 := zA.mk (ObR.below HOo24.out hb); have nOo27 := zA.mk (ObR.below HOo27.out hb); have nOo30 := zA.mk (ObR.below HOo30.out hb); have nOo37 := zA.mk (ObS.below HOo37.out hb); have nOo42 := zA.mk (ObR.below HOo42.out hb); have nBg3 := zA.mk (zP (g := g3) (o := .cells #[.slice A0 l0.length c0] 24 (0, 0)) BKg3.out hb); have nBg10 := zA.mk (zP (g := g10) (o := .cells #[.slice Ao21 t20.length co21] 30 (0, 0)) BKg10.out hb); have nHB := zA.mk (zN HB.out hb); have nHT := zA.mk (qt HT.out hb); clear HB HT HOo8 HOo11 HOo14 HOo17 HOo21 HOo24 HOo27 HOo30 HOo37 HOo42 BKg3 BKg10; have HOo8 := nOo8; have HOo11 := nOo11; have HOo14 := nOo14; have HOo17 := nOo17; have HOo21 := nOo21; have HOo24 := nOo24; have HOo27 := nOo27; have HOo30 := nOo30; have HOo37 := nOo37; have HOo42 := nOo42; have BKg3 := nBg3; have BKg10 := nBg10; have HB := nHB; have HT := nHT; clear nHB nHT nOo8 nOo11 nOo14 nOo17 nOo21 nOo24 nOo27 nOo30 nOo37 nOo42 nBg3 nBg10; (try clear hb); (try clear hnd); have hczg3 : w17.cell? ⟨g3, 0, none⟩ = some (.slice A0 l0.length c0) := (zL BKg3.out 0).trans rfl; have hfzg3 := zM BKg3.out 0; have hczg10 : w17.cell? ⟨g10, 0, none⟩ = some (.slice Ao21 t20.length co21) := (zL BKg10.out 0).trans rfl; have hfzg10 := zM BKg10.out 0) | ((with_reducible refine zQ (f := 18) rfl ?_); refine zt (some 75) rfl rfl Try.func18 (by kernel_rfl) rfl #[.slice A2 l2.length c2] rfl (by (try simp only [yiy, yjy, yky]); first | done | rfl | (simp only [yly, ymy]; rfl)) ?_; (with_reducible refine (zz.calls k _ _ l2 t46 _ ?side1 ?side2 H45.out).mono ?_); (case side1 => exact Kd.za HR2.out HB.out); (case side2 => exact HC2.out); rintro e w18 ⟨vo47, rfl, ho0, hb⟩; refine ⟨_, rfl, ?_⟩; (try clear hczg3 hfzg3 hczg10 hfzg10); obtain ⟨loo47, hio47, hno47⟩ := ObR.made ho0 hb HT.out (zO HB.out); have nOo8 := zA.mk (ObS.below HOo8.out hb); have nOo11 := zA.mk (ObR.below HOo11.out hb); have nOo14 := zA.mk (ObR.below HOo14.out hb); have nOo17 := zA.mk (ObR.below HOo17.out hb); have nOo21 := zA.mk (ObS.below HOo21.out hb); have nOo24 := zA.mk (ObR.below HOo24.out hb); have nOo27 := zA.mk (ObR.below HOo27.out hb); have nOo30 := zA.mk (ObR.below HOo30.out hb); have nOo37 := zA.mk (ObS.below HOo37.out hb); have nOo42 := zA.mk (ObR.below HOo42.out hb); have nBg3 := zA.mk (zP (g := g3) (o := .cells #[.slice A0 l0.length c0] 24 (0, 0)) BKg3.out hb); have nBg10 := zA.mk (zP (g := g10) (o := .cells #[.slice Ao21 t20.length co21] 30 (0, 0)) BKg10.out hb); have nHB := zA.mk (zN HB.out hb); have nHT := zA.mk (qt HT.out hb); clear HB HT HOo8 HOo11 HOo14 HOo17 HOo21 HOo24 HOo27 HOo30 HOo37 HOo42 BKg3 BKg10; have HOo8 := nOo8; have HOo11 := nOo11; have HOo14 := nOo14; have HOo17 := nOo17; have HOo21 := nOo21; have HOo24 := nOo24; have HOo27 := nOo27; have HOo30 := nOo30; have HOo37 := nOo37; have HOo42 := nOo42; have BKg3 := nBg3; have BKg10 := nBg10; have HB := nHB; have HT := nHT; clear nHB nHT nOo8 nOo11 nOo14 nOo17 nOo21 nOo24 nOo27 nOo30 nOo37 nOo42 nBg3 nBg10; have HNo47 := zA.mk hno47.1; clear HT; have HT := zA.mk hno47.2.1; have HOo47 := zA.mk hno47.2.2; clear hno47 ho0; obtain ⟨Ao47, co47, eeo47⟩ := HOo47.out.slice; subst eeo47; (try clear hb); (try clear hnd); have hczg3 : w18.cell? ⟨g3, 0, none⟩ = some (.slice A0 l0.length c0) := (zL BKg3.out 0).trans rfl; have hfzg3 := zM BKg3.out 0; have hczg10 : w18.cell? ⟨g10, 0, none⟩ = some (.slice Ao21 t20.length co21) := (zL BKg10.out 0).trans rfl; have hfzg10 := zM BKg10.out 0) | ((with_reducible refine zQ (f := 21) rfl ?_); refine zt (some 76) rfl rfl Try.func21 (by kernel_rfl) rfl #[.slice Ao27 t26.length co27, .slice Ao47 t46.length co47] rfl (by (try simp only [yiy, yjy, yky]); first | done | rfl | (simp only [yly, ymy]; rfl)) ?_; (with_reducible refine (qQ.calls k _ _ t26 _ _ t46 true _ ?side1 ?side2 ?side3 ?side4 H48.out).mono ?_); (case side1 => exact (ObR.reads HOo27.out).2.2); (case side2 => exact ObR.room HOo27.out); (case side3 => exact (ObR.reads HOo47.out).2.2); (case side4 => exact ObR.room HOo47.out); rintro e w19 ⟨rfl, ⟨nd, hnd⟩⟩; refine ⟨_, rfl, ?_⟩; have hb := Zn hnd; (try clear hczg3 hfzg3 hczg10 hfzg10); have nOo8 := zA.mk (ObS.below HOo8.out hb); have nOo11 := zA.mk (ObR.below HOo11.out hb); have nOo14 := zA.mk (ObR.below HOo14.out hb); have nOo17 := zA.mk (ObR.below HOo17.out hb); have nOo21 := zA.mk (ObS.below HOo21.out hb); have nOo24 := zA.mk (ObR.below HOo24.out hb); have nOo27 := zA.mk (ObR.below HOo27.out hb); have nOo30 := zA.mk (ObR.below HOo30.out hb); have nOo37 := zA.mk (ObS.below HOo37.out hb); have nOo42 := zA.mk (ObR.below HOo42.out hb); have nOo47 := zA.mk (ObR.below HOo47.out hb); have nBg3 := zA.mk (zP (g := g3) (o := .cells #[.slice A0 l0.length c0] 24 (0, 0)) BKg3.out hb); have nBg10 := zA.mk (zP (g := g10) (o := .cells #[.slice Ao21 t20.length co21] 30 (0, 0)) BKg10.out hb); have nHB := zA.mk (zN HB.out hb); have nHT := zA.mk (qt HT.out hb); clear HB HT HOo8 HOo11 HOo14 HOo17 HOo21 HOo24 HOo27 HOo30 HOo37 HOo42 HOo47 BKg3 BKg10; have HOo8 := nOo8; have HOo11 := nOo11; have HOo14 := nOo14; have HOo17 := nOo17; have HOo21 := nOo21; have HOo24 := nOo24; have HOo27 := nOo27; have HOo30 := nOo30; have HOo37 := nOo37; have HOo42 := nOo42; have HOo47 := nOo47; have BKg3 := nBg3; have BKg10 := nBg10; have HB := nHB; have HT := nHT; clear nHB nHT nOo8 nOo11 nOo14 nOo17 nOo21 nOo24 nOo27 nOo30 nOo37 nOo42 nOo47 nBg3 nBg10; (try clear hb); (try clear hnd); have hczg3 : w19.cell? ⟨g3, 0, none⟩ = some (.slice A0 l0.length c0) := (zL BKg3.out 0).trans rfl; have hfzg3 := zM BKg3.out 0; have hczg10 : w19.cell? ⟨g10, 0, none⟩ = some (.slice Ao21 t20.length co21) := (zL BKg10.out 0).trans rfl; have hfzg10 := zM BKg10.out 0) | ((with_reducible refine zQ (f := 25) rfl ?_); refine zt (some 80) rfl rfl Try.func25 (by kernel_rfl) rfl #[.agg #[.slice Ao21 t20.length co21], .int .i64 1] rfl (by (try simp only [yiy, yjy, yky]); first | done | rfl | (simp only [yly, ymy]; rfl)) ?_; (with_reducible refine (Zb.calls k (fun k_ => loo21 ≤ k_ ∧ k_ < hio21) (.slice Ao21 t20.length co21) t20 1 m51 y52 w _ HB.out (ObS.row HOo21.out) H50.out).mono ?_); rintro e w20 ⟨rfl, hy, hb, hk0⟩; refine ⟨_, rfl, ?_⟩; have hk := hk0; have nM := zA.mk (ObS.marked HOo21.out hy hk.1); (try clear hczg3 hfzg3 hczg10 hfzg10); have nOo8 := zA.mk (ObS.kept HOo8.out hk (by have := HNg3.out; have := HNo8.out; have := HNo11.out; have := HNo14.out; have := HNo17.out; have := HNo21.out; have := HNg10.out; have := HNo24.out; have := HNo27.out; have := HNo30.out; have := HNo37.out; have := HNo42.out; have := HNo47.out; omega)); have nOo11 := zA.mk (ObR.kept HOo11.out hk (by have := HNg3.out; have := HNo8.out; have := HNo11.out; have := HNo14.out; have := HNo17.out; have := HNo21.out; have := HNg10.out; have := HNo24.out; have := HNo27.out; have := HNo30.out; have := HNo37.out; have := HNo42.out; have := HNo47.out; omega)); have nOo14 := zA.mk (ObR.kept HOo14.out hk (by have := HNg3.out; have := HNo8.out; have := HNo11.out; have := HNo14.out; have := HNo17.out; have := HNo21.out; have := HNg10.out; have := HNo24.out; have := HNo27.out; have := HNo30.out; have := HNo37.out; have := HNo42.out; have := HNo47.out; omega)); have nOo17 := zA.mk (ObR.kept HOo17.out hk (by have := HNg3.out; have := HNo8.out; have := HNo11.out; have := HNo14.out; have := HNo17.out; have := HNo21.out; have := HNg10.out; have := HNo24.out; have := HNo27.out; have := HNo30.out; have := HNo37.out; have := HNo42.out; have := HNo47.out; omega)); have nOo24 := zA.mk (ObR.kept HOo24.out hk (by have := HNg3.out; have := HNo8.out; have := HNo11.out; have := HNo14.out; have := HNo17.out; have := HNo21.out; have := HNg10.out; have := HNo24.out; have := HNo27.out; have := HNo30.out; have := HNo37.out; have := HNo42.out; have := HNo47.out; omega)); have nOo27 := zA.mk (ObR.kept HOo27.out hk (by have := HNg3.out; have := HNo8.out; have := HNo11.out; have := HNo14.out; have := HNo17.out; have := HNo21.out; have := HNg10.out; have := HNo24.out; have := HNo27.out; have := HNo30.out; have := HNo37.out; have := HNo42.out; have := HNo47.out; omega)); have nOo30 := zA.mk (ObR.kept HOo30.out hk (by have := HNg3.out; have := HNo8.out; have := HNo11.out; have := HNo14.out; have := HNo17.out; have := HNo21.out; have := HNg10.out; have := HNo24.out; have := HNo27.out; have := HNo30.out; have := HNo37.out; have := HNo42.out; have := HNo47.out; omega)); have nOo37 := zA.mk (ObS.kept HOo37.out hk (by have := HNg3.out; have := HNo8.out; have := HNo11.out; have := HNo14.out; have := HNo17.out; have := HNo21.out; have := HNg10.out; have := HNo24.out; have := HNo27.out; have := HNo30.out; have := HNo37.out; have := HNo42.out; have := HNo47.out; omega)); have nOo42 := zA.mk (ObR.kept HOo42.out hk (by have := HNg3.out; have := HNo8.out; have := HNo11.out; have := HNo14.out; have := HNo17.out; have := HNo21.out; have := HNg10.out; have := HNo24.out; have := HNo27.out; have := HNo30.out; have := HNo37.out; have := HNo42.out; have := HNo47.out; omega)); have nOo47 := zA.mk (ObR.kept HOo47.out hk (by have := HNg3.out; have := HNo8.out; have := HNo11.out; have := HNo14.out; have := HNo17.out; have := HNo21.out; have := HNg10.out; have := HNo24.out; have := HNo27.out; have := HNo30.out; have := HNo37.out; have := HNo42.out; have := HNo47.out; omega)); have nBg3 := zA.mk (JC (g := g3) (o := .cells #[.slice A0 l0.length c0] 24 (0, 0)) BKg3.out hk (fun h_ => by have h1_ := h_.1; have h2_ := h_.2; have := HNg3.out; have := HNo8.out; have := HNo11.out; have := HNo14.out; have := HNo17.out; have := HNo21.out; have := HNg10.out; have := HNo24.out; have := HNo27.out; have := HNo30.out; have := HNo37.out; have := HNo42.out; have := HNo47.out; omega)); have nBg10 := zA.mk (JC (g := g10) (o := .cells #[.slice Ao21 t20.length co21] 30 (0, 0)) BKg10.out hk (fun h_ => by have h1_ := h_.1; have h2_ := h_.2; have := HNg3.out; have := HNo8.out; have := HNo11.out; have := HNo14.out; have := HNo17.out; have := HNo21.out; have := HNg10.out; have := HNo24.out; have := HNo27.out; have := HNo30.out; have := HNo37.out; have := HNo42.out; have := HNo47.out; omega)); have nHT := zA.mk (Nat.le_trans HT.out hk.1); clear HB HT HOo8 HOo11 HOo14 HOo17 HOo21 HOo24 HOo27 HOo30 HOo37 HOo42 HOo47 BKg3 BKg10; have HOo8 := nOo8; have HOo11 := nOo11; have HOo14 := nOo14; have HOo17 := nOo17; have HOo21 := nM; have HOo24 := nOo24; have HOo27 := nOo27; have HOo30 := nOo30; have HOo37 := nOo37; have HOo42 := nOo42; have HOo47 := nOo47; have BKg3 := nBg3; have BKg10 := nBg10; have HB := zA.mk hb; have HT := nHT; (try clear hy); clear hb hk0 hk nM nHT nOo8 nOo11 nOo14 nOo17 nOo24 nOo27 nOo30 nOo37 nOo42 nOo47 nBg3 nBg10; have hczg3 : w20.cell? ⟨g3, 0, none⟩ = some (.slice A0 l0.length c0) := (zL BKg3.out 0).trans rfl; have hfzg3 := zM BKg3.out 0; have hczg10 : w20.cell? ⟨g10, 0, none⟩ = some (.slice Ao21 t20.length co21) := (zL BKg10.out 0).trans rfl; have hfzg10 := zM BKg10.out 0) | ((with_reducible refine zQ (f := 34) rfl ?_); refine zt (some 83) rfl rfl Try.func34 (by kernel_rfl) rfl #[.slice Ao24 t23.length co24, .int .i64 m51] rfl (by (try simp only [yiy, yjy, yky]); first | done | rfl | (simp only [yly, ymy]; rfl)) ?_; (with_reducible refine (qO.calls k (fun k_ => some k_ = (.slice Ao24 t23.length co24 : Value).ownBlock) (.slice Ao24 t23.length co24) t23 m51 m54 y55 w _ HB.out (Kd.Qu rfl (ObR.row HOo24.out)) H53.out).mono ?_); rintro e w21 ⟨rfl, hy, hb, hk0⟩; refine ⟨_, rfl, ?_⟩; have hk := ObR.range HOo24.out hk0; have nM := zA.mk (ObR.marked HOo24.out rfl hy hk.1); (try clear hczg3 hfzg3 hczg10 hfzg10); have nOo8 := zA.mk (ObS.kept HOo8.out hk (by have := HNg3.out; have := HNo8.out; have := HNo11.out; have := HNo14.out; have := HNo17.out; have := HNo21.out; have := HNg10.out; have := HNo24.out; have := HNo27.out; have := HNo30.out; have := HNo37.out; have := HNo42.out; have := HNo47.out; omega)); have nOo11 := zA.mk (ObR.kept HOo11.out hk (by have := HNg3.out; have := HNo8.out; have := HNo11.out; have := HNo14.out; have := HNo17.out; have := HNo21.out; have := HNg10.out; have := HNo24.out; have := HNo27.out; have := HNo30.out; have := HNo37.out; have := HNo42.out; have := HNo47.out; omega)); have nOo14 := zA.mk (ObR.kept HOo14.out hk (by have := HNg3.out; have := HNo8.out; have := HNo11.out; have := HNo14.out; have := HNo17.out; have := HNo21.out; have := HNg10.out; have := HNo24.out; have := HNo27.out; have := HNo30.out; have := HNo37.out; have := HNo42.out; have := HNo47.out; omega)); have nOo17 := zA.mk (ObR.kept HOo17.out hk (by have := HNg3.out; have := HNo8.out; have := HNo11.out; have := HNo14.out; have := HNo17.out; have := HNo21.out; have := HNg10.out; have := HNo24.out; have := HNo27.out; have := HNo30.out; have := HNo37.out; have := HNo42.out; have := HNo47.out; omega)); have nOo21 := zA.mk (ObS.kept HOo21.out hk (by have := HNg3.out; have := HNo8.out; have := HNo11.out; have := HNo14.out; have := HNo17.out; have := HNo21.out; have := HNg10.out; have := HNo24.out; have := HNo27.out; have := HNo30.out; have := HNo37.out; have := HNo42.out; have := HNo47.out; omega)); have nOo27 := zA.mk (ObR.kept HOo27.out hk (by have := HNg3.out; have := HNo8.out; have := HNo11.out; have := HNo14.out; have := HNo17.out; have := HNo21.out; have := HNg10.out; have := HNo24.out; have := HNo27.out; have := HNo30.out; have := HNo37.out; have := HNo42.out; have := HNo47.out; omega)); have nOo30 := zA.mk (ObR.kept HOo30.out hk (by have := HNg3.out; have := HNo8.out; have := HNo11.out; have := HNo14.out; have := HNo17.out; have := HNo21.out; have := HNg10.out; have := HNo24.out; have := HNo27.out; have := HNo30.out; have := HNo37.out; have := HNo42.out; have := HNo47.out; omega)); have nOo37 := zA.mk (ObS.kept HOo37.out hk (by have := HNg3.out; have := HNo8.out; have := HNo11.out; have := HNo14.out; have := HNo17.out; have := HNo21.out; have := HNg10.out; have := HNo24.out; have := HNo27.out; have := HNo30.out; have := HNo37.out; have := HNo42.out; have := HNo47.out; omega)); have nOo42 := zA.mk (ObR.kept HOo42.out hk (by have := HNg3.out; have := HNo8.out; have := HNo11.out; have := HNo14.out; have := HNo17.out; have := HNo21.out; have := HNg10.out; have := HNo24.out; have := HNo27.out; have := HNo30.out; have := HNo37.out; have := HNo42.out; have := HNo47.out; omega)); have nOo47 := zA.mk (ObR.kept HOo47.out hk (by have := HNg3.out; have := HNo8.out; have := HNo11.out; have := HNo14.out; have := HNo17.out; have := HNo21.out; have := HNg10.out; have := HNo24.out; have := HNo27.out; have := HNo30.out; have := HNo37.out; have := HNo42.out; have := HNo47.out; omega)); have nBg3 := zA.mk (JC (g := g3) (o := .cells #[.slice A0 l0.length c0] 24 (0, 0)) BKg3.out hk (fun h_ => by have h1_ := h_.1; have h2_ := h_.2; have := HNg3.out; have := HNo8.out; have := HNo11.out; have := HNo14.out; have := HNo17.out; have := HNo21.out; have := HNg10.out; have := HNo24.out; have := HNo27.out; have := HNo30.out; have := HNo37.out; have := HNo42.out; have := HNo47.out; omega)); have nBg10 := zA.mk (JC (g := g10) (o := .cells #[.slice Ao21 t20.length co21] 30 (0, 0)) BKg10.out hk (fun h_ => by have h1_ := h_.1; have h2_ := h_.2; have := HNg3.out; have := HNo8.out; have := HNo11.out; have := HNo14.out; have := HNo17.out; have := HNo21.out; have := HNg10.out; have := HNo24.out; have := HNo27.out; have := HNo30.out; have := HNo37.out; have := HNo42.out; have := HNo47.out; omega)); have nHT := zA.mk (Nat.le_trans HT.out hk.1); clear HB HT HOo8 HOo11 HOo14 HOo17 HOo21 HOo24 HOo27 HOo30 HOo37 HOo42 HOo47 BKg3 BKg10; have HOo8 := nOo8; have HOo11 := nOo11; have HOo14 := nOo14; have HOo17 := nOo17; have HOo21 := nOo21; have HOo24 := nM; have HOo27 := nOo27; have HOo30 := nOo30; have HOo37 := nOo37; have HOo42 := nOo42; have HOo47 := nOo47; have BKg3 := nBg3; have BKg10 := nBg10; have HB := zA.mk hb; have HT := nHT; (try clear hy); clear hb hk0 hk nM nHT nOo8 nOo11 nOo14 nOo17 nOo21 nOo27 nOo30 nOo37 nOo42 nOo47 nBg3 nBg10; have hczg3 : w21.cell? ⟨g3, 0, none⟩ = some (.slice A0 l0.length c0) := (zL BKg3.out 0).trans rfl; have hfzg3 := zM BKg3.out 0; have hczg10 : w21.cell? ⟨g10, 0, none⟩ = some (.slice Ao21 t20.length co21) := (zL BKg10.out 0).trans rfl; have hfzg10 := zM BKg10.out 0) | ((with_reducible refine zQ (f := 34) rfl ?_); refine zt (some 86) rfl rfl Try.func34 (by kernel_rfl) rfl #[.slice Ao27 t26.length co27, .int .i64 m54] rfl (by (try simp only [yiy, yjy, yky]); first | done | rfl | (simp only [yly, ymy]; rfl)) ?_; (with_reducible refine (qO.calls k (fun k_ => some k_ = (.slice Ao27 t26.length co27 : Value).ownBlock) (.slice Ao27 t26.length co27) t26 m54 m57 y58 w _ HB.out (Kd.Qu rfl (ObR.row HOo27.out)) H56.out).mono ?_); rintro e w22 ⟨rfl, hy, hb, hk0⟩; refine ⟨_, rfl, ?_⟩; have hk := ObR.range HOo27.out hk0; have nM := zA.mk (ObR.marked HOo27.out rfl hy hk.1); (try clear hczg3 hfzg3 hczg10 hfzg10); have nOo8 := zA.mk (ObS.kept HOo8.out hk (by have := HNg3.out; have := HNo8.out; have := HNo11.out; have := HNo14.out; have := HNo17.out; have := HNo21.out; have := HNg10.out; have := HNo24.out; have := HNo27.out; have := HNo30.out; have := HNo37.out; have := HNo42.out; have := HNo47.out; omega)); have nOo11 := zA.mk (ObR.kept HOo11.out hk (by have := HNg3.out; have := HNo8.out; have := HNo11.out; have := HNo14.out; have := HNo17.out; have := HNo21.out; have := HNg10.out; have := HNo24.out; have := HNo27.out; have := HNo30.out; have := HNo37.out; have := HNo42.out; have := HNo47.out; omega)); have nOo14 := zA.mk (ObR.kept HOo14.out hk (by have := HNg3.out; have := HNo8.out; have := HNo11.out; have := HNo14.out; have := HNo17.out; have := HNo21.out; have := HNg10.out; have := HNo24.out; have := HNo27.out; have := HNo30.out; have := HNo37.out; have := HNo42.out; have := HNo47.out; omega)); have nOo17 := zA.mk (ObR.kept HOo17.out hk (by have := HNg3.out; have := HNo8.out; have := HNo11.out; have := HNo14.out; have := HNo17.out; have := HNo21.out; have := HNg10.out; have := HNo24.out; have := HNo27.out; have := HNo30.out; have := HNo37.out; have := HNo42.out; have := HNo47.out; omega)); have nOo21 := zA.mk (ObS.kept HOo21.out hk (by have := HNg3.out; have := HNo8.out; have := HNo11.out; have := HNo14.out; have := HNo17.out; have := HNo21.out; have := HNg10.out; have := HNo24.out; have := HNo27.out; have := HNo30.out; have := HNo37.out; have := HNo42.out; have := HNo47.out; omega)); have nOo24 := zA.mk (ObR.kept HOo24.out hk (by have := HNg3.out; have := HNo8.out; have := HNo11.out; have := HNo14.out; have := HNo17.out; have := HNo21.out; have := HNg10.out; have := HNo24.out; have := HNo27.out; have := HNo30.out; have := HNo37.out; have := HNo42.out; have := HNo47.out; omega)); have nOo30 := zA.mk (ObR.kept HOo30.out hk (by have := HNg3.out; have := HNo8.out; have := HNo11.out; have := HNo14.out; have := HNo17.out; have := HNo21.out; have := HNg10.out; have := HNo24.out; have := HNo27.out; have := HNo30.out; have := HNo37.out; have := HNo42.out; have := HNo47.out; omega)); have nOo37 := zA.mk (ObS.kept HOo37.out hk (by have := HNg3.out; have := HNo8.out; have := HNo11.out; have := HNo14.out; have := HNo17.out; have := HNo21.out; have := HNg10.out; have := HNo24.out; have := HNo27.out; have := HNo30.out; have := HNo37.out; have := HNo42.out; have := HNo47.out; omega)); have nOo42 := zA.mk (ObR.kept HOo42.out hk (by have := HNg3.out; have := HNo8.out; have := HNo11.out; have := HNo14.out; have := HNo17.out; have := HNo21.out; have := HNg10.out; have := HNo24.out; have := HNo27.out; have := HNo30.out; have := HNo37.out; have := HNo42.out; have := HNo47.out; omega)); have nOo47 := zA.mk (ObR.kept HOo47.out hk (by have := HNg3.out; have := HNo8.out; have := HNo11.out; have := HNo14.out; have := HNo17.out; have := HNo21.out; have := HNg10.out; have := HNo24.out; have := HNo27.out; have := HNo30.out; have := HNo37.out; have := HNo42.out; have := HNo47.out; omega)); have nBg3 := zA.mk (JC (g := g3) (o := .cells #[.slice A0 l0.length c0] 24 (0, 0)) BKg3.out hk (fun h_ => by have h1_ := h_.1; have h2_ := h_.2; have := HNg3.out; have := HNo8.out; have := HNo11.out; have := HNo14.out; have := HNo17.out; have := HNo21.out; have := HNg10.out; have := HNo24.out; have := HNo27.out; have := HNo30.out; have := HNo37.out; have := HNo42.out; have := HNo47.out; omega)); have nBg10 := zA.mk (JC (g := g10) (o := .cells #[.slice Ao21 t20.length co21] 30 (0, 0)) BKg10.out hk (fun h_ => by have h1_ := h_.1; have h2_ := h_.2; have := HNg3.out; have := HNo8.out; have := HNo11.out; have := HNo14.out; have := HNo17.out; have := HNo21.out; have := HNg10.out; have := HNo24.out; have := HNo27.out; have := HNo30.out; have := HNo37.out; have := HNo42.out; have := HNo47.out; omega)); have nHT := zA.mk (Nat.le_trans HT.out hk.1); clear HB HT HOo8 HOo11 HOo14 HOo17 HOo21 HOo24 HOo27 HOo30 HOo37 HOo42 HOo47 BKg3 BKg10; have HOo8 := nOo8; have HOo11 := nOo11; have HOo14 := nOo14; have HOo17 := nOo17; have HOo21 := nOo21; have HOo24 := nOo24; have HOo27 := nM; have HOo30 := nOo30; have HOo37 := nOo37; have HOo42 := nOo42; have HOo47 := nOo47; have BKg3 := nBg3; have BKg10 := nBg10; have HB := zA.mk hb; have HT := nHT; (try clear hy); clear hb hk0 hk nM nHT nOo8 nOo11 nOo14 nOo17 nOo21 nOo24 nOo30 nOo37 nOo42 nOo47 nBg3 nBg10; have hczg3 : w22.cell? ⟨g3, 0, none⟩ = some (.slice A0 l0.length c0) := (zL BKg3.out 0).trans rfl; have hfzg3 := zM BKg3.out 0; have hczg10 : w22.cell? ⟨g10, 0, none⟩ = some (.slice Ao21 t20.length co21) := (zL BKg10.out 0).trans rfl; have hfzg10 := zM BKg10.out 0))
 try go_wp2_with (first | (go_at_call 21; (with_reducible refine (qQ.calls k _ _ t29 _ _ t16 true _ ?side1 ?side2 ?side3 ?side4 H60.out).mono ?_); (case side1 => exact (ObR.reads HOo30.out).2.2); (case side2 => exact ObR.room HOo30.out); (case side3 => exact (ObR.reads HOo17.out).2.2); (case side4 => exact ObR.room HOo17.out); rintro e w23 ⟨rfl, ⟨nd, hnd⟩⟩; have hb := Zn hnd; (try clear hczg3 hfzg3 hczg10 hfzg10); have nOo8 := zA.mk (ObS.below HOo8.out hb); have nOo11 := zA.mk (ObR.below HOo11.out hb); have nOo14 := zA.mk (ObR.below HOo14.out hb); have nOo17 := zA.mk (ObR.below HOo17.out hb); have nOo21 := zA.mk (ObS.below HOo21.out hb); have nOo24 := zA.mk (ObR.below HOo24.out hb); have nOo27 := zA.mk (ObR.below HOo27.out hb); have nOo30 := zA.mk (ObR.below HOo30.out hb); have nOo37 := zA.mk (ObS.below HOo37.out hb); have nOo42 := zA.mk (ObR.below HOo42.out hb); have nOo47 := zA.mk (ObR.below HOo47.out hb); have nBg3 := zA.mk (zP (g := g3) (o := .cells #[.slice A0 l0.length c0] 24 (0, 0)) BKg3.out hb); have nBg10 := zA.mk (zP (g := g10) (o := .cells #[.slice Ao21 t20.length co21] 30 (0, 0)) BKg10.out hb); have nHB := zA.mk (zN HB.out hb); have nHT := zA.mk (qt HT.out hb); clear HB HT HOo8 HOo11 HOo14 HOo17 HOo21 HOo24 HOo27 HOo30 HOo37 HOo42 HOo47 BKg3 BKg10; have HOo8 := nOo8; have HOo11 := nOo11; have HOo14 := nOo14; have HOo17 := nOo17; have HOo21 := nOo21; have HOo24 := nOo24; have HOo27 := nOo27; have HOo30 := nOo30; have HOo37 := nOo37; have HOo42 := nOo42; have HOo47 := nOo47; have BKg3 := nBg3; have BKg10 := nBg10; have HB := nHB; have HT := nHT; clear nHB nHT nOo8 nOo11 nOo14 nOo17 nOo21 nOo24 nOo27 nOo30 nOo37 nOo42 nOo47 nBg3 nBg10; (try clear hb); (try clear hnd); have hczg3 : w23.cell? ⟨g3, 0, none⟩ = some (.slice A0 l0.length c0) := (zL BKg3.out 0).trans rfl; have hfzg3 := zM BKg3.out 0; have hczg10 : w23.cell? ⟨g10, 0, none⟩ = some (.slice Ao21 t20.length co21) := (zL BKg10.out 0).trans rfl; have hfzg10 := zM BKg10.out 0) | ((with_reducible refine zQ (f := 34) rfl ?_); refine zt (some 102) rfl rfl Try.func34 (by kernel_rfl) rfl #[.slice Ao30 t29.length co30, .int .i64 1] rfl (by (try simp only [yiy, yjy, yky]); first | done | rfl | (simp only [yly, ymy]; rfl)) ?_; (with_reducible refine (qO.calls k (fun k_ => some k_ = (.slice Ao30 t29.length co30 : Value).ownBlock) (.slice Ao30 t29.length co30) t29 1 m64 y65 w _ HB.out (Kd.Qu rfl (ObR.row HOo30.out)) H63.out).mono ?_); rintro e w24 ⟨rfl, hy, hb, hk0⟩; refine ⟨_, rfl, ?_⟩; have hk := ObR.range HOo30.out hk0; have nM := zA.mk (ObR.marked HOo30.out rfl hy hk.1); (try clear hczg3 hfzg3 hczg10 hfzg10); have nOo8 := zA.mk (ObS.kept HOo8.out hk (by have := HNg3.out; have := HNo8.out; have := HNo11.out; have := HNo14.out; have := HNo17.out; have := HNo21.out; have := HNg10.out; have := HNo24.out; have := HNo27.out; have := HNo30.out; have := HNo37.out; have := HNo42.out; have := HNo47.out; omega)); have nOo11 := zA.mk (ObR.kept HOo11.out hk (by have := HNg3.out; have := HNo8.out; have := HNo11.out; have := HNo14.out; have := HNo17.out; have := HNo21.out; have := HNg10.out; have := HNo24.out; have := HNo27.out; have := HNo30.out; have := HNo37.out; have := HNo42.out; have := HNo47.out; omega)); have nOo14 := zA.mk (ObR.kept HOo14.out hk (by have := HNg3.out; have := HNo8.out; have := HNo11.out; have := HNo14.out; have := HNo17.out; have := HNo21.out; have := HNg10.out; have := HNo24.out; have := HNo27.out; have := HNo30.out; have := HNo37.out; have := HNo42.out; have := HNo47.out; omega)); have nOo17 := zA.mk (ObR.kept HOo17.out hk (by have := HNg3.out; have := HNo8.out; have := HNo11.out; have := HNo14.out; have := HNo17.out; have := HNo21.out; have := HNg10.out; have := HNo24.out; have := HNo27.out; have := HNo30.out; have := HNo37.out; have := HNo42.out; have := HNo47.out; omega)); have nOo21 := zA.mk (ObS.kept HOo21.out hk (by have := HNg3.out; have := HNo8.out; have := HNo11.out; have := HNo14.out; have := HNo17.out; have := HNo21.out; have := HNg10.out; have := HNo24.out; have := HNo27.out; have := HNo30.out; have := HNo37.out; have := HNo42.out; have := HNo47.out; omega)); have nOo24 := zA.mk (ObR.kept HOo24.out hk (by have := HNg3.out; have := HNo8.out; have := HNo11.out; have := HNo14.out; have := HNo17.out; have := HNo21.out; have := HNg10.out; have := HNo24.out; have := HNo27.out; have := HNo30.out; have := HNo37.out; have := HNo42.out; have := HNo47.out; omega)); have nOo27 := zA.mk (ObR.kept HOo27.out hk (by have := HNg3.out; have := HNo8.out; have := HNo11.out; have := HNo14.out; have := HNo17.out; have := HNo21.out; have := HNg10.out; have := HNo24.out; have := HNo27.out; have := HNo30.out; have := HNo37.out; have := HNo42.out; have := HNo47.out; omega)); have nOo37 := zA.mk (ObS.kept HOo37.out hk (by have := HNg3.out; have := HNo8.out; have := HNo11.out; have := HNo14.out; have := HNo17.out; have := HNo21.out; have := HNg10.out; have := HNo24.out; have := HNo27.out; have := HNo30.out; have := HNo37.out; have := HNo42.out; have := HNo47.out; omega)); have nOo42 := zA.mk (ObR.kept HOo42.out hk (by have := HNg3.out; have := HNo8.out; have := HNo11.out; have := HNo14.out; have := HNo17.out; have := HNo21.out; have := HNg10.out; have := HNo24.out; have := HNo27.out; have := HNo30.out; have := HNo37.out; have := HNo42.out; have := HNo47.out; omega)); have nOo47 := zA.mk (ObR.kept HOo47.out hk (by have := HNg3.out; have := HNo8.out; have := HNo11.out; have := HNo14.out; have := HNo17.out; have := HNo21.out; have := HNg10.out; have := HNo24.out; have := HNo27.out; have := HNo30.out; have := HNo37.out; have := HNo42.out; have := HNo47.out; omega)); have nBg3 := zA.mk (JC (g := g3) (o := .cells #[.slice A0 l0.length c0] 24 (0, 0)) BKg3.out hk (fun h_ => by have h1_ := h_.1; have h2_ := h_.2; have := HNg3.out; have := HNo8.out; have := HNo11.out; have := HNo14.out; have := HNo17.out; have := HNo21.out; have := HNg10.out; have := HNo24.out; have := HNo27.out; have := HNo30.out; have := HNo37.out; have := HNo42.out; have := HNo47.out; omega)); have nBg10 := zA.mk (JC (g := g10) (o := .cells #[.slice Ao21 t20.length co21] 30 (0, 0)) BKg10.out hk (fun h_ => by have h1_ := h_.1; have h2_ := h_.2; have := HNg3.out; have := HNo8.out; have := HNo11.out; have := HNo14.out; have := HNo17.out; have := HNo21.out; have := HNg10.out; have := HNo24.out; have := HNo27.out; have := HNo30.out; have := HNo37.out; have := HNo42.out; have := HNo47.out; omega)); have nHT := zA.mk (Nat.le_trans HT.out hk.1); clear HB HT HOo8 HOo11 HOo14 HOo17 HOo21 HOo24 HOo27 HOo30 HOo37 HOo42 HOo47 BKg3 BKg10; have HOo8 := nOo8; have HOo11 := nOo11; have HOo14 := nOo14; have HOo17 := nOo17; have HOo21 := nOo21; have HOo24 := nOo24; have HOo27 := nOo27; have HOo30 := nM; have HOo37 := nOo37; have HOo42 := nOo42; have HOo47 := nOo47; have BKg3 := nBg3; have BKg10 := nBg10; have HB := zA.mk hb; have HT := nHT; (try clear hy); clear hb hk0 hk nM nHT nOo8 nOo11 nOo14 nOo17 nOo21 nOo24 nOo27 nOo37 nOo42 nOo47 nBg3 nBg10; have hczg3 : w24.cell? ⟨g3, 0, none⟩ = some (.slice A0 l0.length c0) := (zL BKg3.out 0).trans rfl; have hfzg3 := zM BKg3.out 0; have hczg10 : w24.cell? ⟨g10, 0, none⟩ = some (.slice Ao21 t20.length co21) := (zL BKg10.out 0).trans rfl; have hfzg10 := zM BKg10.out 0) | ((with_reducible refine zQ (f := 35) rfl ?_); refine zt (some 105) rfl rfl Try.func35 (by kernel_rfl) rfl #[.slice Ao30 y65.length co30, .int .i64 1] rfl (by (try simp only [yiy, yjy, yky]); first | done | (rw [show y65.length = t29.length from (ObR.reads HOo30.out).1.symm] <;> rfl) | rfl | (simp only [yly, ymy]; rfl)) ?_; (with_reducible refine (qX.calls k _ _ y65 1 t67 _ ?side1 ?side2 H66.out).mono ?_); (case side1 => exact (ObR.reads HOo30.out).2.2); (case side2 => exact ObR.room HOo30.out); rintro e w25 ⟨rfl, ⟨nd, hnd⟩⟩; refine ⟨_, rfl, ?_⟩; have hb := Zn hnd; (try clear hczg3 hfzg3 hczg10 hfzg10); have nOo8 := zA.mk (ObS.below HOo8.out hb); have nOo11 := zA.mk (ObR.below HOo11.out hb); have nOo14 := zA.mk (ObR.below HOo14.out hb); have nOo17 := zA.mk (ObR.below HOo17.out hb); have nOo21 := zA.mk (ObS.below HOo21.out hb); have nOo24 := zA.mk (ObR.below HOo24.out hb); have nOo27 := zA.mk (ObR.below HOo27.out hb); have nOo30 := zA.mk (ObR.below HOo30.out hb); have nOo37 := zA.mk (ObS.below HOo37.out hb); have nOo42 := zA.mk (ObR.below HOo42.out hb); have nOo47 := zA.mk (ObR.below HOo47.out hb); have nBg3 := zA.mk (zP (g := g3) (o := .cells #[.slice A0 l0.length c0] 24 (0, 0)) BKg3.out hb); have nBg10 := zA.mk (zP (g := g10) (o := .cells #[.slice Ao21 t20.length co21] 30 (0, 0)) BKg10.out hb); have nHB := zA.mk (zN HB.out hb); have nHT := zA.mk (qt HT.out hb); clear HB HT HOo8 HOo11 HOo14 HOo17 HOo21 HOo24 HOo27 HOo30 HOo37 HOo42 HOo47 BKg3 BKg10; have HOo8 := nOo8; have HOo11 := nOo11; have HOo14 := nOo14; have HOo17 := nOo17; have HOo21 := nOo21; have HOo24 := nOo24; have HOo27 := nOo27; have HOo30 := nOo30; have HOo37 := nOo37; have HOo42 := nOo42; have HOo47 := nOo47; have BKg3 := nBg3; have BKg10 := nBg10; have HB := nHB; have HT := nHT; clear nHB nHT nOo8 nOo11 nOo14 nOo17 nOo21 nOo24 nOo27 nOo30 nOo37 nOo42 nOo47 nBg3 nBg10; (try clear hb); (try clear hnd); have hczg3 : w25.cell? ⟨g3, 0, none⟩ = some (.slice A0 l0.length c0) := (zL BKg3.out 0).trans rfl; have hfzg3 := zM BKg3.out 0; have hczg10 : w25.cell? ⟨g10, 0, none⟩ = some (.slice Ao21 t20.length co21) := (zL BKg10.out 0).trans rfl; have hfzg10 := zM BKg10.out 0) | ((with_reducible refine zQ (f := 17) rfl ?_); refine zt (some 113) rfl rfl Try.func17 (by kernel_rfl) rfl #[.agg #[.slice A0 l0.length c0]] rfl (by (try simp only [yiy, yjy, yky]); first | done | rfl | (simp only [yly, ymy]; rfl)) ?_; (with_reducible refine (qh.calls k _ _ l0 t71 _ ?side1 ?side2 H70.out).mono ?_); (case side1 => exact Kd.za HR0.out HB.out); (case side2 => exact HC0.out); rintro e w26 ⟨vo72, rfl, ho0, hb⟩; refine ⟨_, rfl, ?_⟩; (try clear hczg3 hfzg3 hczg10 hfzg10); obtain ⟨loo72, hio72, hno72⟩ := ObS.made ho0 hb HT.out (zO HB.out); have nOo8 := zA.mk (ObS.below HOo8.out hb); have nOo11 := zA.mk (ObR.below HOo11.out hb); have nOo14 := zA.mk (ObR.below HOo14.out hb); have nOo17 := zA.mk (ObR.below HOo17.out hb); have nOo21 := zA.mk (ObS.below HOo21.out hb); have nOo24 := zA.mk (ObR.below HOo24.out hb); have nOo27 := zA.mk (ObR.below HOo27.out hb); have nOo30 := zA.mk (ObR.below HOo30.out hb); have nOo37 := zA.mk (ObS.below HOo37.out hb); have nOo42 := zA.mk (ObR.below HOo42.out hb); have nOo47 := zA.mk (ObR.below HOo47.out hb); have nBg3 := zA.mk (zP (g := g3) (o := .cells #[.slice A0 l0.length c0] 24 (0, 0)) BKg3.out hb); have nBg10 := zA.mk (zP (g := g10) (o := .cells #[.slice Ao21 t20.length co21] 30 (0, 0)) BKg10.out hb); have nHB := zA.mk (zN HB.out hb); have nHT := zA.mk (qt HT.out hb); clear HB HT HOo8 HOo11 HOo14 HOo17 HOo21 HOo24 HOo27 HOo30 HOo37 HOo42 HOo47 BKg3 BKg10; have HOo8 := nOo8; have HOo11 := nOo11; have HOo14 := nOo14; have HOo17 := nOo17; have HOo21 := nOo21; have HOo24 := nOo24; have HOo27 := nOo27; have HOo30 := nOo30; have HOo37 := nOo37; have HOo42 := nOo42; have HOo47 := nOo47; have BKg3 := nBg3; have BKg10 := nBg10; have HB := nHB; have HT := nHT; clear nHB nHT nOo8 nOo11 nOo14 nOo17 nOo21 nOo24 nOo27 nOo30 nOo37 nOo42 nOo47 nBg3 nBg10; have HNo72 := zA.mk hno72.1; clear HT; have HT := zA.mk hno72.2.1; have HOo72 := zA.mk hno72.2.2; clear hno72 ho0; obtain ⟨Ao72, co72, eeo72⟩ := HOo72.out.slice; subst eeo72; (try clear hb); (try clear hnd); have hczg3 : w26.cell? ⟨g3, 0, none⟩ = some (.slice A0 l0.length c0) := (zL BKg3.out 0).trans rfl; have hfzg3 := zM BKg3.out 0; have hczg10 : w26.cell? ⟨g10, 0, none⟩ = some (.slice Ao21 t20.length co21) := (zL BKg10.out 0).trans rfl; have hfzg10 := zM BKg10.out 0) | ((with_reducible refine zQ (f := 18) rfl ?_); refine zt (some 115) rfl rfl Try.func18 (by kernel_rfl) rfl #[.slice A1 l1.length c1] rfl (by (try simp only [yiy, yjy, yky]); first | done | rfl | (simp only [yly, ymy]; rfl)) ?_; (with_reducible refine (zz.calls k _ _ l1 t74 _ ?side1 ?side2 H73.out).mono ?_); (case side1 => exact Kd.za HR1.out HB.out); (case side2 => exact HC1.out); rintro e w27 ⟨vo75, rfl, ho0, hb⟩; refine ⟨_, rfl, ?_⟩; (try clear hczg3 hfzg3 hczg10 hfzg10); obtain ⟨loo75, hio75, hno75⟩ := ObR.made ho0 hb HT.out (zO HB.out); have nOo8 := zA.mk (ObS.below HOo8.out hb); have nOo11 := zA.mk (ObR.below HOo11.out hb); have nOo14 := zA.mk (ObR.below HOo14.out hb); have nOo17 := zA.mk (ObR.below HOo17.out hb); have nOo21 := zA.mk (ObS.below HOo21.out hb); have nOo24 := zA.mk (ObR.below HOo24.out hb); have nOo27 := zA.mk (ObR.below HOo27.out hb); have nOo30 := zA.mk (ObR.below HOo30.out hb); have nOo37 := zA.mk (ObS.below HOo37.out hb); have nOo42 := zA.mk (ObR.below HOo42.out hb); have nOo47 := zA.mk (ObR.below HOo47.out hb); have nOo72 := zA.mk (ObS.below HOo72.out hb); have nBg3 := zA.mk (zP (g := g3) (o := .cells #[.slice A0 l0.length c0] 24 (0, 0)) BKg3.out hb); have nBg10 := zA.mk (zP (g := g10) (o := .cells #[.slice Ao21 t20.length co21] 30 (0, 0)) BKg10.out hb); have nHB := zA.mk (zN HB.out hb); have nHT := zA.mk (qt HT.out hb); clear HB HT HOo8 HOo11 HOo14 HOo17 HOo21 HOo24 HOo27 HOo30 HOo37 HOo42 HOo47 HOo72 BKg3 BKg10; have HOo8 := nOo8; have HOo11 := nOo11; have HOo14 := nOo14; have HOo17 := nOo17; have HOo21 := nOo21; have HOo24 := nOo24; have HOo27 := nOo27; have HOo30 := nOo30; have HOo37 := nOo37; have HOo42 := nOo42; have HOo47 := nOo47; have HOo72 := nOo72; have BKg3 := nBg3; have BKg10 := nBg10; have HB := nHB; have HT := nHT; clear nHB nHT nOo8 nOo11 nOo14 nOo17 nOo21 nOo24 nOo27 nOo30 nOo37 nOo42 nOo47 nOo72 nBg3 nBg10; have HNo75 := zA.mk hno75.1; clear HT; have HT := zA.mk hno75.2.1; have HOo75 := zA.mk hno75.2.2; clear hno75 ho0; obtain ⟨Ao75, co75, eeo75⟩ := HOo75.out.slice; subst eeo75; (try clear hb); (try clear hnd); have hczg3 : w27.cell? ⟨g3, 0, none⟩ = some (.slice A0 l0.length c0) := (zL BKg3.out 0).trans rfl; have hfzg3 := zM BKg3.out 0; have hczg10 : w27.cell? ⟨g10, 0, none⟩ = some (.slice Ao21 t20.length co21) := (zL BKg10.out 0).trans rfl; have hfzg10 := zM BKg10.out 0) | ((with_reducible refine zQ (f := 18) rfl ?_); refine zt (some 117) rfl rfl Try.func18 (by kernel_rfl) rfl #[.slice A2 l2.length c2] rfl (by (try simp only [yiy, yjy, yky]); first | done | rfl | (simp only [yly, ymy]; rfl)) ?_; (with_reducible refine (zz.calls k _ _ l2 t77 _ ?side1 ?side2 H76.out).mono ?_); (case side1 => exact Kd.za HR2.out HB.out); (case side2 => exact HC2.out); rintro e w28 ⟨vo78, rfl, ho0, hb⟩; refine ⟨_, rfl, ?_⟩; (try clear hczg3 hfzg3 hczg10 hfzg10); obtain ⟨loo78, hio78, hno78⟩ := ObR.made ho0 hb HT.out (zO HB.out); have nOo8 := zA.mk (ObS.below HOo8.out hb); have nOo11 := zA.mk (ObR.below HOo11.out hb); have nOo14 := zA.mk (ObR.below HOo14.out hb); have nOo17 := zA.mk (ObR.below HOo17.out hb); have nOo21 := zA.mk (ObS.below HOo21.out hb); have nOo24 := zA.mk (ObR.below HOo24.out hb); have nOo27 := zA.mk (ObR.below HOo27.out hb); have nOo30 := zA.mk (ObR.below HOo30.out hb); have nOo37 := zA.mk (ObS.below HOo37.out hb); have nOo42 := zA.mk (ObR.below HOo42.out hb); have nOo47 := zA.mk (ObR.below HOo47.out hb); have nOo72 := zA.mk (ObS.below HOo72.out hb); have nOo75 := zA.mk (ObR.below HOo75.out hb); have nBg3 := zA.mk (zP (g := g3) (o := .cells #[.slice A0 l0.length c0] 24 (0, 0)) BKg3.out hb); have nBg10 := zA.mk (zP (g := g10) (o := .cells #[.slice Ao21 t20.length co21] 30 (0, 0)) BKg10.out hb); have nHB := zA.mk (zN HB.out hb); have nHT := zA.mk (qt HT.out hb); clear HB HT HOo8 HOo11 HOo14 HOo17 HOo21 HOo24 HOo27 HOo30 HOo37 HOo42 HOo47 HOo72 HOo75 BKg3 BKg10; have HOo8 := nOo8; have HOo11 := nOo11; have HOo14 := nOo14; have HOo17 := nOo17; have HOo21 := nOo21; have HOo24 := nOo24; have HOo27 := nOo27; have HOo30 := nOo30; have HOo37 := nOo37; have HOo42 := nOo42; have HOo47 := nOo47; have HOo72 := nOo72; have HOo75 := nOo75; have BKg3 := nBg3; have BKg10 := nBg10; have HB := nHB; have HT := nHT; clear nHB nHT nOo8 nOo11 nOo14 nOo17 nOo21 nOo24 nOo27 nOo30 nOo37 nOo42 nOo47 nOo72 nOo75 nBg3 nBg10; have HNo78 := zA.mk hno78.1; clear HT; have HT := zA.mk hno78.2.1; have HOo78 := zA.mk hno78.2.2; clear hno78 ho0; obtain ⟨Ao78, co78, eeo78⟩ := HOo78.out.slice; subst eeo78; (try clear hb); (try clear hnd); have hczg3 : w28.cell? ⟨g3, 0, none⟩ = some (.slice A0 l0.length c0) := (zL BKg3.out 0).trans rfl; have hfzg3 := zM BKg3.out 0; have hczg10 : w28.cell? ⟨g10, 0, none⟩ = some (.slice Ao21 t20.length co21) := (zL BKg10.out 0).trans rfl; have hfzg10 := zM BKg10.out 0) | ((with_reducible refine zQ (f := 43) rfl ?_); refine zt (some 118) rfl rfl Try.func43 (by kernel_rfl) rfl #[.agg #[.slice Ao72 t71.length co72], .slice Ao75 t74.length co75, .slice Ao78 t77.length co78] rfl (by (try simp only [yiy, yjy, yky]); first | done | rfl | (simp only [yly, ymy]; rfl)) ?_; (with_reducible refine (Zc.calls k _ _ t71 _ _ t74 _ _ t77 t80 t82 _ ?side1 ?side2 ?side3 ?side4 ?side5 ?side6 H79.out).mono ?_); (case side1 => exact (ObS.reads HOo72.out).2.2); (case side2 => exact ObS.room HOo72.out); (case side3 => exact (ObR.reads HOo75.out).2.2); (case side4 => exact ObR.room HOo75.out); (case side5 => exact (ObR.reads HOo78.out).2.2); (case side6 => exact ObR.room HOo78.out); rintro e w29 ⟨vo81, rfl, ho0, hb⟩; refine ⟨_, rfl, ?_⟩; (try clear hczg3 hfzg3 hczg10 hfzg10); obtain ⟨loo81, hio81, hno81⟩ := ObR.made ho0 hb HT.out (zO HB.out); have nOo8 := zA.mk (ObS.below HOo8.out hb); have nOo11 := zA.mk (ObR.below HOo11.out hb); have nOo14 := zA.mk (ObR.below HOo14.out hb); have nOo17 := zA.mk (ObR.below HOo17.out hb); have nOo21 := zA.mk (ObS.below HOo21.out hb); have nOo24 := zA.mk (ObR.below HOo24.out hb); have nOo27 := zA.mk (ObR.below HOo27.out hb); have nOo30 := zA.mk (ObR.below HOo30.out hb); have nOo37 := zA.mk (ObS.below HOo37.out hb); have nOo42 := zA.mk (ObR.below HOo42.out hb); have nOo47 := zA.mk (ObR.below HOo47.out hb); have nOo72 := zA.mk (ObS.below HOo72.out hb); have nOo75 := zA.mk (ObR.below HOo75.out hb); have nOo78 := zA.mk (ObR.below HOo78.out hb); have nBg3 := zA.mk (zP (g := g3) (o := .cells #[.slice A0 l0.length c0] 24 (0, 0)) BKg3.out hb); have nBg10 := zA.mk (zP (g := g10) (o := .cells #[.slice Ao21 t20.length co21] 30 (0, 0)) BKg10.out hb); have nHB := zA.mk (zN HB.out hb); have nHT := zA.mk (qt HT.out hb); clear HB HT HOo8 HOo11 HOo14 HOo17 HOo21 HOo24 HOo27 HOo30 HOo37 HOo42 HOo47 HOo72 HOo75 HOo78 BKg3 BKg10; have HOo8 := nOo8; have HOo11 := nOo11; have HOo14 := nOo14; have HOo17 := nOo17; have HOo21 := nOo21; have HOo24 := nOo24; have HOo27 := nOo27; have HOo30 := nOo30; have HOo37 := nOo37; have HOo42 := nOo42; have HOo47 := nOo47; have HOo72 := nOo72; have HOo75 := nOo75; have HOo78 := nOo78; have BKg3 := nBg3; have BKg10 := nBg10; have HB := nHB; have HT := nHT; clear nHB nHT nOo8 nOo11 nOo14 nOo17 nOo21 nOo24 nOo27 nOo30 nOo37 nOo42 nOo47 nOo72 nOo75 nOo78 nBg3 nBg10; have HNo81 := zA.mk hno81.1; clear HT; have HT := zA.mk hno81.2.1; have HOo81 := zA.mk hno81.2.2; clear hno81 ho0; obtain ⟨Ao81, co81, eeo81⟩ := HOo81.out.slice; subst eeo81; (try clear hb); (try clear hnd); have hczg3 : w29.cell? ⟨g3, 0, none⟩ = some (.slice A0 l0.length c0) := (zL BKg3.out 0).trans rfl; have hfzg3 := zM BKg3.out 0; have hczg10 : w29.cell? ⟨g10, 0, none⟩ = some (.slice Ao21 t20.length co21) := (zL BKg10.out 0).trans rfl; have hfzg10 := zM BKg10.out 0) | ((with_reducible refine zQ (f := 21) rfl ?_); refine zt (some 123) rfl rfl Try.func21 (by kernel_rfl) rfl #[.slice Ao81 t80.length co81, .slice Ao17 t16.length co17] rfl (by (try simp only [yiy, yjy, yky]); first | done | rfl | (simp only [yly, ymy]; rfl)) ?_; (with_reducible refine (qQ.calls k _ _ t80 _ _ t16 true _ ?side1 ?side2 ?side3 ?side4 H83.out).mono ?_); (case side1 => exact (ObR.reads HOo81.out).2.2); (case side2 => exact ObR.room HOo81.out); (case side3 => exact (ObR.reads HOo17.out).2.2); (case side4 => exact ObR.room HOo17.out); rintro e w30 ⟨rfl, ⟨nd, hnd⟩⟩; refine ⟨_, rfl, ?_⟩; have hb := Zn hnd; (try clear hczg3 hfzg3 hczg10 hfzg10); have nOo8 := zA.mk (ObS.below HOo8.out hb); have nOo11 := zA.mk (ObR.below HOo11.out hb); have nOo14 := zA.mk (ObR.below HOo14.out hb); have nOo17 := zA.mk (ObR.below HOo17.out hb); have nOo21 := zA.mk (ObS.below HOo21.out hb); have nOo24 := zA.mk (ObR.below HOo24.out hb); have nOo27 := zA.mk (ObR.below HOo27.out hb); have nOo30 := zA.mk (ObR.below HOo30.out hb); have nOo37 := zA.mk (ObS.below HOo37.out hb); have nOo42 := zA.mk (ObR.below HOo42.out hb); have nOo47 := zA.mk (ObR.below HOo47.out hb); have nOo72 := zA.mk (ObS.below HOo72.out hb); have nOo75 := zA.mk (ObR.below HOo75.out hb); have nOo78 := zA.mk (ObR.below HOo78.out hb); have nOo81 := zA.mk (ObR.below HOo81.out hb); have nBg3 := zA.mk (zP (g := g3) (o := .cells #[.slice A0 l0.length c0] 24 (0, 0)) BKg3.out hb); have nBg10 := zA.mk (zP (g := g10) (o := .cells #[.slice Ao21 t20.length co21] 30 (0, 0)) BKg10.out hb); have nHB := zA.mk (zN HB.out hb); have nHT := zA.mk (qt HT.out hb); clear HB HT HOo8 HOo11 HOo14 HOo17 HOo21 HOo24 HOo27 HOo30 HOo37 HOo42 HOo47 HOo72 HOo75 HOo78 HOo81 BKg3 BKg10; have HOo8 := nOo8; have HOo11 := nOo11; have HOo14 := nOo14; have HOo17 := nOo17; have HOo21 := nOo21; have HOo24 := nOo24; have HOo27 := nOo27; have HOo30 := nOo30; have HOo37 := nOo37; have HOo42 := nOo42; have HOo47 := nOo47; have HOo72 := nOo72; have HOo75 := nOo75; have HOo78 := nOo78; have HOo81 := nOo81; have BKg3 := nBg3; have BKg10 := nBg10; have HB := nHB; have HT := nHT; clear nHB nHT nOo8 nOo11 nOo14 nOo17 nOo21 nOo24 nOo27 nOo30 nOo37 nOo42 nOo47 nOo72 nOo75 nOo78 nOo81 nBg3 nBg10; (try clear hb); (try clear hnd); have hczg3 : w30.cell? ⟨g3, 0, none⟩ = some (.slice A0 l0.length c0) := (zL BKg3.out 0).trans rfl; have hfzg3 := zM BKg3.out 0; have hczg10 : w30.cell? ⟨g10, 0, none⟩ = some (.slice Ao21 t20.length co21) := (zL BKg10.out 0).trans rfl; have hfzg10 := zM BKg10.out 0) | ((with_reducible refine zQ (f := 35) rfl ?_); refine zt (some 132) rfl rfl Try.func35 (by kernel_rfl) rfl #[.slice Ao30 y65.length co30, .int .i64 1] rfl (by (try simp only [yiy, yjy, yky]); first | done | (rw [show y65.length = t29.length from (ObR.reads HOo30.out).1.symm] <;> rfl) | rfl | (simp only [yly, ymy]; rfl)) ?_; (with_reducible refine (qX.calls k _ _ y65 1 t87 _ ?side1 ?side2 H86.out).mono ?_); (case side1 => exact (ObR.reads HOo30.out).2.2); (case side2 => exact ObR.room HOo30.out); rintro e w31 ⟨rfl, ⟨nd, hnd⟩⟩; refine ⟨_, rfl, ?_⟩; have hb := Zn hnd; (try clear hczg3 hfzg3 hczg10 hfzg10); have nOo8 := zA.mk (ObS.below HOo8.out hb); have nOo11 := zA.mk (ObR.below HOo11.out hb); have nOo14 := zA.mk (ObR.below HOo14.out hb); have nOo17 := zA.mk (ObR.below HOo17.out hb); have nOo21 := zA.mk (ObS.below HOo21.out hb); have nOo24 := zA.mk (ObR.below HOo24.out hb); have nOo27 := zA.mk (ObR.below HOo27.out hb); have nOo30 := zA.mk (ObR.below HOo30.out hb); have nOo37 := zA.mk (ObS.below HOo37.out hb); have nOo42 := zA.mk (ObR.below HOo42.out hb); have nOo47 := zA.mk (ObR.below HOo47.out hb); have nOo72 := zA.mk (ObS.below HOo72.out hb); have nOo75 := zA.mk (ObR.below HOo75.out hb); have nOo78 := zA.mk (ObR.below HOo78.out hb); have nOo81 := zA.mk (ObR.below HOo81.out hb); have nBg3 := zA.mk (zP (g := g3) (o := .cells #[.slice A0 l0.length c0] 24 (0, 0)) BKg3.out hb); have nBg10 := zA.mk (zP (g := g10) (o := .cells #[.slice Ao21 t20.length co21] 30 (0, 0)) BKg10.out hb); have nHB := zA.mk (zN HB.out hb); have nHT := zA.mk (qt HT.out hb); clear HB HT HOo8 HOo11 HOo14 HOo17 HOo21 HOo24 HOo27 HOo30 HOo37 HOo42 HOo47 HOo72 HOo75 HOo78 HOo81 BKg3 BKg10; have HOo8 := nOo8; have HOo11 := nOo11; have HOo14 := nOo14; have HOo17 := nOo17; have HOo21 := nOo21; have HOo24 := nOo24; have HOo27 := nOo27; have HOo30 := nOo30; have HOo37 := nOo37; have HOo42 := nOo42; have HOo47 := nOo47; have HOo72 := nOo72; have HOo75 := nOo75; have HOo78 := nOo78; have HOo81 := nOo81; have BKg3 := nBg3; have BKg10 := nBg10; have HB := nHB; have HT := nHT; clear nHB nHT nOo8 nOo11 nOo14 nOo17 nOo21 nOo24 nOo27 nOo30 nOo37 nOo42 nOo47 nOo72 nOo75 nOo78 nOo81 nBg3 nBg10; (try clear hb); (try clear hnd); have hczg3 : w31.cell? ⟨g3, 0, none⟩ = some (.slice A0 l0.length c0) := (zL BKg3.out 0).trans rfl; have hfzg3 := zM BKg3.out 0; have hczg10 : w31.cell? ⟨g10, 0, none⟩ = some (.slice Ao21 t20.length co21) := (zL BKg10.out 0).trans rfl; have hfzg10 := zM BKg10.out 0))
 go_ret
 exact ⟨by first | rfl | (simp <;> rfl), HB.out⟩
end Go.Proofs.Ythjpdljdodalaaa.P
namespace Go.Proofs.Ythjpdljdodalaaa.Lib
set_option linter.unusedVariables false
open Go.RowKit Go.Proofs.YthjpdljdodalaaaW.PrintWords
theorem zDP {σ ρ : Type} (L : Nat → σ → Option ρ) (I : σ → Prop) (m : σ → Nat) (g : σ → ρ)
    (h : ∀ s, I s → (∃ K, ∀ k, K ≤ k → L (k + 1) s = some (g s)) ∨ (∃ s' K, I s' ∧ m s' < m s ∧ g s' = g s ∧ ∀ k, K ≤ k → L (k + 1) s = L k s')) :
    ∀ s, I s → Ev (fun k => L k s) (g s) := by
  have key : ∀ (n : Nat) (s : σ), m s < n → I s → Ev (fun k => L k s) (g s) := by
    intro n
    induction n with
    | zero => intro s hs; omega
    | succ n ih =>
      intro s hs hi
      rcases h s hi with ⟨K, hK⟩ | ⟨s', K, hi', hm, hg, hK⟩
      · refine ⟨K + 1, fun k hk => ?_⟩
        obtain ⟨j, rfl⟩ : ∃ j, k = j + 1 := ⟨k - 1, by omega⟩
        exact hK j (by omega)
      · obtain ⟨K', hK'⟩ := ih s' (by omega) hi'
        refine ⟨max K K' + 1, fun k hk => ?_⟩
        obtain ⟨j, rfl⟩ : ∃ j, k = j + 1 := ⟨k - 1, by omega⟩
        show L (j + 1) s = some (g s)
        rw [hK j (by omega), ← hg]
        exact hK' j (by omega)
  intro s hi
  exact key (m s + 1) s (by omega) hi
theorem Qq {σ ρ : Type} (L : Nat → σ → Option ρ) (I : σ → Prop) (m : σ → Nat) (g : σ → ρ)
    (h : ∀ s, I s → (∀ k, L (k + 1) s = some (g s)) ∨ (∃ s', I s' ∧ m s' < m s ∧ g s' = g s ∧ ∀ k, L (k + 1) s = L k s')) :
    ∀ s, I s → Ev (fun k => L k s) (g s) :=
  zDP L I m g fun s hi => by
    rcases h s hi with h1 | ⟨s', h1, h2, h3, h4⟩
    · exact .inl ⟨0, fun k _ => h1 k⟩
    · exact .inr ⟨s', 0, h1, h2, h3, fun k _ => h4 k⟩
theorem qx {x : Int} (h0 : -9223372036854775808 ≤ x) (h1 : x ≤ 9223372036854775807) : wrap64 x = x := by
  unfold wrap64; omega
theorem ZJ {n : Nat} (h : n ≤ 4611686018427387904) : wrap64 ((n : Int) + 1) = ((n + 1 : Nat) : Int) := by
  rw [qx (by omega) (by omega)]; rfl
theorem rd_nat (xs : List Int) (n : Nat) : rd xs (n : Int) = xs.getD n 0 := by simp [rd]
theorem zAW (xs : List Int) (n : Nat) (h : n < xs.length) : rd xs (n : Int) = xs[n] := by simp [rd, h]
theorem ZK {α : Type} {c : Prop} [Decidable c] {f g : Nat → Option α} {r : α} (h : ¬ c) (k : Ev g r) : Ev (fun n => if c then f n else g n) r := Ev.congr (fun _ => if_neg h) k
theorem qk {α : Type} {c : Prop} [Decidable c] {f g : Nat → Option α} {r : α} (h : c) (k : Ev f r) : Ev (fun n => if c then f n else g n) r := Ev.congr (fun _ => if_pos h) k
theorem JG {α : Type} {r r' : α} (h : r = r') : Ev (fun _ => some r) r' := h ▸ Ev.now r
theorem Qr {α : Type} {o : Option α} {r : α} (h : o = some r) : Ev (fun _ => o) r := ⟨0, fun _ _ => h⟩
theorem zCz {α : Type} {g : Nat → Option α} {r : α} (h : ∀ k, g k = some r) : Ev g r := ⟨0, fun k _ => h k⟩
theorem qo {α : Type} {g f : Nat → Option α} {r : α} (h : ∀ k, g (k + 1) = f k) (k : Ev f r) : Ev g r := Ev.step h k
theorem zDn {α : Type} {f : α → Option Bool} {p : α → Bool} : ∀ (i : Nat) (l : List α), (∀ x ∈ l, f x = some (p x)) → ∃ r, zCw f i l = some r ∧ decide (0 ≤ r) = l.any p
  | i, [], _ => ⟨-1, rfl, rfl⟩
  | i, x :: xs, h => by
    rw [zAJ, h x (List.mem_cons_self ..), yfy]
    cases hp : p x with
    | true => exact ⟨i, by rw [if_pos rfl], by simp [hp]⟩
    | false =>
      obtain ⟨r, h1, h2⟩ := zDn (i + 1) xs (fun y hy => h y (List.mem_cons_of_mem _ hy))
      exact ⟨r, by rw [if_neg (by simp)]; exact h1, by rw [h2]; simp [hp]⟩
theorem zG9 {α : Type} {f : α → Option Bool} {p : α → Bool} (l : List α) (h : ∀ x ∈ l, f x = some (p x)) : (zCw f 0 l).bind (fun i => some (decide (0 ≤ i))) = some (l.any p) := by
  obtain ⟨r, h1, h2⟩ := zDn 0 l h
  rw [h1, yfy, h2]
def Zu (a : Int) : Nat → List Int
  | 0 => []
  | n + 1 => a :: Zu (a + 1) n
theorem QT (a : Int) (n : Nat) : (Zu a n).length = n := by
  induction n generalizing a with
  | zero => rfl
  | succ n ih => simp [Zu, ih]
theorem zEB (a : Int) (n i : Nat) (h : i < n) : (Zu a n).getD i 0 = a + i := by
  induction n generalizing a i with
  | zero => omega
  | succ n ih =>
    cases i with
    | zero => simp [Zu]
    | succ i => simp only [Zu, List.getD_cons_succ]; rw [ih (a + 1) i (by omega)]; omega
theorem zDQ (a : Int) (n : Nat) : Zu a (n + 1) = Zu a n ++ [a + n] := by
  induction n generalizing a with
  | zero => simp [Zu]
  | succ n ih => rw [Zu, ih (a + 1)]; simp [Zu]; omega
end Go.Proofs.Ythjpdljdodalaaa.Lib
namespace Go.Proofs.Ythjpdljdodalaaa.P
open Go.RowKit Go.Proofs.YthjpdljdodalaaaW.PrintWords Go.Proofs.Ythjpdljdodalaaa.Lib
set_option linter.unusedVariables false
theorem zAX (a b c : Int) : ZI.f a b c = some (decide (b ≤ a) && decide (a ≤ c)) := by
  unfold ZI.f
  by_cases h : b ≤ a <;> simp [h]
theorem zFZ (a b c : Int) : QM.f a b c = some (decide (b ≤ a) && decide (a ≤ c)) := by
  unfold QM.f
  by_cases h : b ≤ a <;> simp [h]
theorem zDR (a : Int) : Zd.f a = some (decide (0 ≤ a) && decide (a ≤ 23)) := by
  unfold Zd.f
  by_cases h : 0 ≤ a
  · rw [if_pos h]; simp [h]; omega
  · rw [if_neg h]; simp [h]
theorem zEr (a : Int) : Zx.f a = some (decide (0 ≤ a) && decide (a ≤ 23)) := by
  unfold Zx.f; rw [zAX]; rfl
theorem zFs {p : Int} (h0 : 0 ≤ p) (h1 : p ≤ 23) : ∃ m : Fin 24, p = (m.val : Int) := ⟨⟨p.toNat, by omega⟩, by simp; omega⟩
theorem zD0 {p : Int} (h0 : 0 ≤ p) (h1 : p ≤ 23) : Ev (fun k => zX.f k p) (ZO p) := by
  obtain ⟨m, rfl⟩ := zFs h0 h1
  have key : ∀ m : Fin 24, zX.f 5 (m.val : Int) = some (ZO (m.val : Int)) := by decide +kernel
  exact Ev.of (fun k => zX.mono _ k) (key m)
theorem zEs (p : Int) : (ZO p).length = 4 := rfl
theorem zAK {p f : Int} (h0 : 0 ≤ p) (h1 : p ≤ 23) (hf0 : 0 ≤ f) (hf1 : f ≤ 3) : 0 ≤ rd (ZO p) f ∧ rd (ZO p) f ≤ 3 := by
  obtain ⟨a, b, c, d⟩ := zBC p h0 h1
  exact zBk a b c d f hf0 hf1
theorem zAy {p f : Int} (h0 : 0 ≤ p) (h1 : p ≤ 23) (hf0 : 0 ≤ f) (hf1 : f ≤ 3) : Ev (fun k => ZE.f k p f) (rd (ZO p) f) := by
  refine Ev.bind (zD0 h0 h1) ?_
  exact qk hf0 (qk (by rw [zEs]; omega) (Ev.now _))
theorem zEC {p : Int} (h0 : 0 ≤ p) (h1 : p ≤ 23) : Ev (fun k => qH.f k p) (zE9 p) := by
  obtain ⟨m, rfl⟩ := zFs h0 h1
  have key : ∀ m : Fin 24, qH.f 40 (m.val : Int) = some (zE9 (m.val : Int)) := by decide +kernel
  exact Ev.of (fun k => qH.mono _ k) (key m)
theorem zEt {q p f : Int} (h0 : 0 ≤ p) (h1 : p ≤ 23) (hf0 : 0 ≤ f) (hf1 : f ≤ 3) : ZM.f q p f = some (rd (ZO p) f) := if_pos ⟨h0, h1, hf0, hf1⟩
theorem zED {q p a : Int} (h0 : 0 ≤ p) (h1 : p ≤ 23) : ZA.f q p a = some (a, zE9 p) := by
  unfold ZA.f QQ.f
  rw [if_pos ⟨h0, h1⟩]; rfl
abbrev Tri := List (List zu)
def Small (t : Tri) : Prop := t.length ≤ 1048576 ∧ ∀ r ∈ t, r.length ≤ 1048576
def zDo (t : List (List qV)) : Prop := t.length ≤ 1048576 ∧ ∀ r ∈ t, r.length ≤ 1048576
def Fits (t : List (List qV)) : Prop := t.length ≤ 9223372036854775807 ∧ ∀ r ∈ t, r.length ≤ 9223372036854775807
theorem JH (t : List (List qV)) (n : Nat) (h : n < t.length) : ZS t (n : Int) = t[n] := by simp [ZS, h]
theorem Qy (t : Tri) (n : Nat) (h : n < t.length) : zE t (n : Int) = t[n] := by simp [zE, h]
theorem zCO (t : List qV) (n : Nat) (h : n < t.length) : Zz t (n : Int) = t[n] := by simp [Zz, h]
theorem zAY (t : List zu) (n : Nat) (h : n < t.length) : zG t (n : Int) = t[n] := by simp [zG, h]
theorem zBm (r : List qV) (a : Int) (h0 : 0 ≤ a) (h1 : a ≤ 1048576) (h : r.length ≤ 9223372036854775807) : QF.f r a = some (if a - r.length < 0 then -1 else a - r.length) := by
  unfold QF.f
  rw [qx (by omega) (by omega)]
  split <;> rfl
theorem zDS (t : List (List qV)) (h : Fits t) (hl : t.length ≤ 1048576) : ∃ r, Ev (fun k => qW.l0 k t (1048576 - t.length) 0) r ∧ (0 ≤ r → ∀ x ∈ t, x.length ≤ 1048576) := by
  have key : ∀ d n : Nat, ∀ a : Int, n + d = t.length → 0 ≤ a → a ≤ 1048576 → ∃ r, Ev (fun k => qW.l0 k t a (n : Int)) r ∧ (0 ≤ r → ∀ x ∈ t.drop n, x.length ≤ 1048576) := by
    intro d
    induction d with
    | zero =>
      intro n a hn h0 h1
      refine ⟨a, qo (f := fun _ => some a) (fun k => ?_) (Ev.now a), fun _ x hx => ?_⟩
      · simp only [qW.l0]; rw [if_neg (by omega)]
      · rw [List.drop_eq_nil_of_le (by omega)] at hx; cases hx
    | succ d ih =>
      intro n a hn h0 h1
      have hlt : n < t.length := by omega
      have hf := h.2 t[n] (List.getElem_mem hlt)
      by_cases hc : a - t[n].length < 0
      · refine ⟨-1, qo (f := fun _ => some (-1)) (fun k => ?_) (Ev.now (-1)), fun h => by omega⟩
        simp only [qW.l0]
        rw [if_pos (by omega), if_pos (by omega), JH t n hlt, zBm _ a h0 h1 hf, yfy, if_pos hc]
        rfl
      · obtain ⟨r, hr, hr2⟩ := ih (n + 1) (a - t[n].length) (by omega) (by omega) (by omega)
        refine ⟨r, qo (fun k => ?_) hr, fun h x hx => ?_⟩
        · simp only [qW.l0]
          rw [if_pos (by omega), if_pos (by omega), JH t n hlt, zBm _ a h0 h1 hf, yfy, if_neg hc, if_neg (by omega), ZJ (by omega)]
        · rw [yoy hlt] at hx
          rcases List.mem_cons.1 hx with rfl | hx
          · omega
          · exact hr2 h x hx
  obtain ⟨r, hr, hr2⟩ := key t.length 0 (1048576 - t.length) (by omega) (by omega) (by omega)
  exact ⟨r, hr, fun h => by have := hr2 h; rwa [List.drop_zero] at this⟩
theorem zAL (t : List (List qV)) (h : Fits t) : ∃ r, Ev (fun k => ZY.f k t 1048576) r ∧ (¬ r < 0 → zDo t) := by
  by_cases hl : (1048576 - (t.length : Int)) < 0
  · refine ⟨-1, ?_, fun h => by omega⟩
    refine Ev.bind (a := -1) (zCz (fun k => ?_)) (qk (by omega) (Ev.now _))
    unfold qW.f
    have := h.1
    rw [qx (by omega) (by omega), if_pos hl]
  · obtain ⟨r, hr, hr2⟩ := zDS t h (by omega)
    have h2 : Ev (fun k => qW.f k t 1048576) r := by
      refine Ev.congr (fun k => ?_) hr
      unfold qW.f
      rw [qx (by omega) (by omega), if_neg hl]
    by_cases hn : r < 0
    · exact ⟨-1, Ev.bind h2 (qk hn (Ev.now _)), fun h => by omega⟩
    · exact ⟨r, Ev.bind h2 (ZK hn (Ev.now _)), fun _ => ⟨by omega, hr2 (by omega)⟩⟩
def cvF (x : qV) : zu := ⟨x.f0, x.f1⟩
def cvR (r : List qV) : List zu := r.map cvF
def cvT (t : List (List qV)) : Tri := t.map cvR
theorem zEu {t : List (List qV)} (h : zDo t) : Small (cvT t) := by
  refine ⟨by simp [cvT]; exact h.1, fun r hr => ?_⟩
  obtain ⟨s, hs, rfl⟩ := List.mem_map.1 hr
  simp [cvR]; exact h.2 s hs
theorem zAm {α β : Type} (f : α → β) (l : List α) (z : β) (n : Nat) (h : n < l.length) :
    ((l.take n).map f ++ List.replicate (l.length - n) z).set n (f l[n]) = (l.take (n + 1)).map f ++ List.replicate (l.length - (n + 1)) z := by
  have e : l.length - n = (l.length - (n + 1)) + 1 := by omega
  rw [e, List.replicate_succ, List.set_append_right _ _ (by simp; omega)]
  have : n - ((l.take n).map f).length = 0 := by simp; omega
  rw [this, yby, List.take_succ_eq_append_getElem h, List.map_append, List.append_assoc]
  rfl
theorem zEE (l : List qV) (h : l.length ≤ 1048576) : Ev (fun k => qj.f k l) (cvR l) := by
  have hl : Ev (fun k => qj.l0 k l (List.replicate l.length Jd) 0) (cvR l) := by
    refine Qq (fun k (s : List zu × Int) => qj.l0 k l s.1 s.2) (fun s => ∃ n : Nat, n ≤ l.length ∧ s.2 = n ∧ s.1 = (l.take n).map cvF ++ List.replicate (l.length - n) Jd) (fun s => l.length - s.2.toNat) (fun _ => cvR l) ?_ (List.replicate l.length Jd, 0) ⟨0, by omega, rfl, by simp⟩
    rintro ⟨a, i⟩ ⟨n, hn, rfl, rfl⟩
    dsimp only
    by_cases hlt : n < l.length
    · refine .inr ⟨((l.take (n + 1)).map cvF ++ List.replicate (l.length - (n + 1)) Jd, ((n + 1 : Nat) : Int)), ⟨n + 1, by omega, rfl, rfl⟩, by simp; omega, rfl, fun k => ?_⟩
      simp only [qj.l0, Qx.f, yfy]
      rw [if_pos (by omega), if_pos (by omega), if_pos (by simp; omega), ZJ (by omega), yny, zCO l n hlt]
      have := zAm cvF l Jd n hlt
      rw [← this]
      rfl
    · obtain rfl : n = l.length := by omega
      refine .inl fun k => ?_
      simp only [qj.l0]
      rw [if_neg (by omega)]
      simp [cvR]
  refine Ev.congr (fun k => ?_) hl
  unfold qj.f
  rw [if_pos (by omega), if_pos (by simp; omega), yny]
theorem zDT (l : List (List qV)) (h : zDo l) : Ev (fun k => qY.f k l) (cvT l) := by
  have hl : Ev (fun k => qY.l0 k l (List.replicate l.length []) 0) (cvT l) := by
    refine zDP (fun k (s : Tri × Int) => qY.l0 k l s.1 s.2) (fun s => ∃ n : Nat, n ≤ l.length ∧ s.2 = n ∧ s.1 = (l.take n).map cvR ++ List.replicate (l.length - n) []) (fun s => l.length - s.2.toNat) (fun _ => cvT l) ?_ (List.replicate l.length [], 0) ⟨0, by omega, rfl, by simp⟩
    rintro ⟨a, i⟩ ⟨n, hn, rfl, rfl⟩
    dsimp only
    by_cases hlt : n < l.length
    · obtain ⟨K, hK⟩ := zEE l[n] (h.2 _ (List.getElem_mem hlt))
      refine .inr ⟨((l.take (n + 1)).map cvR ++ List.replicate (l.length - (n + 1)) [], ((n + 1 : Nat) : Int)), K, ⟨n + 1, by omega, rfl, rfl⟩, by simp; omega, rfl, fun k hk => ?_⟩
      have e : qj.f k l[n] = some _ := hK k hk
      have h1 := h.1
      simp only [qY.l0]
      rw [if_pos (by omega), if_pos (by omega), JH l n hlt, e, yfy, if_pos (by simp; omega), ZJ (by omega), yny, zAm cvR l [] n hlt]
    · obtain rfl : n = l.length := by omega
      refine .inl ⟨0, fun k _ => ?_⟩
      simp only [qY.l0]
      rw [if_neg (by omega)]
      simp [cvT]
  have h1 := h.1
  refine Ev.congr (fun k => ?_) hl
  unfold qY.f
  rw [if_pos (by omega), if_pos (by simp; omega), yny]
theorem zAM (l : List (List qV)) (h : zDo l) : Ev (fun k => qh.f k l) (cvT l) := Ev.bind (zDT l h) (Ev.now _)
theorem zEF (l : List zu) (h : l.length ≤ 1048576) : Ev (fun k => qJ.f k l l) true := by
  have hl : Ev (fun k => qJ.l0 k l l 0) true := by
    refine Qq (fun k (s : Int) => qJ.l0 k l l s) (fun s => ∃ n : Nat, n ≤ l.length ∧ s = n) (fun s => l.length - s.toNat) (fun _ => true) ?_ 0 ⟨0, by omega, rfl⟩
    rintro i ⟨n, hn, rfl⟩
    by_cases hlt : n < l.length
    · refine .inr ⟨((n + 1 : Nat) : Int), ⟨n + 1, by omega, rfl⟩, by simp; omega, rfl, fun k => ?_⟩
      simp only [qJ.l0, Qc.f]
      rw [if_pos (by omega), if_pos (by omega), if_pos (by omega), if_pos trivial, if_pos trivial, yfy, if_pos rfl, ZJ (by omega)]
    · refine .inl fun k => ?_
      simp only [qJ.l0]
      rw [if_neg (by omega)]
  refine Ev.congr (fun k => ?_) hl
  unfold qJ.f
  rw [if_pos rfl]
theorem zAN (l : Tri) (h : Small l) : Ev (fun k => Zg.f k l l) true := by
  have hl : Ev (fun k => qE.l0 k l l 0) true := by
    refine zDP (fun k (s : Int) => qE.l0 k l l s) (fun s => ∃ n : Nat, n ≤ l.length ∧ s = n) (fun s => l.length - s.toNat) (fun _ => true) ?_ 0 ⟨0, by omega, rfl⟩
    rintro i ⟨n, hn, rfl⟩
    by_cases hlt : n < l.length
    · obtain ⟨K, hK⟩ := zEF l[n] (h.2 _ (List.getElem_mem hlt))
      refine .inr ⟨((n + 1 : Nat) : Int), K, ⟨n + 1, by omega, rfl⟩, by simp; omega, rfl, fun k hk => ?_⟩
      have e : qJ.f k l[n] l[n] = some _ := hK k hk
      have h1 := h.1
      simp only [qE.l0]
      rw [if_pos (by omega), if_pos (by omega), if_pos (by omega), Qy l n hlt, e, yfy, if_pos rfl, ZJ (by omega)]
    · refine .inl ⟨0, fun k _ => ?_⟩
      simp only [qE.l0]
      rw [if_neg (by omega)]
  have h2 : Ev (fun k => qE.f k l l) true := by
    refine Ev.congr (fun k => ?_) hl
    unfold qE.f
    rw [if_pos rfl]
  exact Ev.bind h2 (qk rfl (Ev.now _))
abbrev fc (t : Tri) (a f : Int) : zu := zG (zE t a) f
def zAv (t : Tri) (a f : Int) : Bool :=
  if (fc t a f).f0 = -1 then (fc t a f).f1 == 0
  else if 0 ≤ (fc t a f).f0 ∧ (fc t a f).f0 < (t.length : Int) ∧ 0 ≤ (fc t a f).f1 ∧ (fc t a f).f1 ≤ 23 then
    ((fc t (fc t a f).f0 (rd (ZO (fc t a f).f1) f)).f0 == a && (fc t (fc t a f).f0 (rd (ZO (fc t a f).f1) f)).f1 == zE9 (fc t a f).f1) && !((fc t a f).f0 == a && rd (ZO (fc t a f).f1) f == f)
  else false
def JN (t : Tri) (a : Int) : Int → Nat → Bool
  | _, 0 => true
  | f, d + 1 => zAv t a f && JN t a (f + 1) d
def Jw (t : Tri) : Int → Nat → Bool
  | _, 0 => true
  | a, d + 1 => JN t a 0 4 && Jw t (a + 1) d
def QU (t : Tri) : Bool := decide (t.length ≤ 8) && (t.all (fun r => decide (r.length = 4)) && Jw t 0 t.length)
section
variable {t : Tri}
theorem zGJ (h4 : ∀ r ∈ t, r.length = 4) {a : Int} (h0 : 0 ≤ a) (h1 : a < t.length) : (zE t a).length = 4 := by
  obtain ⟨n, rfl⟩ := Int.eq_ofNat_of_zero_le h0
  rw [Qy t n (by omega)]
  exact h4 _ (List.getElem_mem _)
theorem zBU (h4 : ∀ r ∈ t, r.length = 4) (hn : t.length ≤ 8) {a f : Int} (h0 : 0 ≤ a) (h1 : a < t.length) (hf0 : 0 ≤ f) (hf1 : f ≤ 3) : Ev (fun k => zT.f k t a f) (zAv t a f) := by
  have hr := zGJ h4 h0 h1
  refine Ev.congr (fun k => by unfold zT.f; rw [if_pos h0, if_pos h1, if_pos hf0, if_pos (by omega)]) ?_
  change Ev (fun k => if (fc t a f).f0 = -1 then some ((fc t a f).f1 == 0) else _) (zAv t a f)
  unfold zAv
  by_cases hb : (fc t a f).f0 = -1
  · rw [if_pos hb]; exact qk hb (Ev.now _)
  · refine ZK hb ?_
    rw [if_neg hb]
    have hix : qn.f t (fc t a f).f0 = some (decide (0 ≤ (fc t a f).f0) && decide ((fc t a f).f0 ≤ (t.length : Int) - 1)) := by
      unfold qn.f qp.f
      rw [yfy, qx (by omega) (by omega), zAX]; rfl
    have hfalse : Ev (fun k => zT.j0 k a f true t (fc t a f).f0 (fc t a f).f1) false := qo (fun k => by rw [zT.j0, if_pos rfl]) (Ev.now false)
    refine Ev.bind (Qr hix) ?_
    by_cases hi : 0 ≤ (fc t a f).f0 ∧ (fc t a f).f0 < (t.length : Int)
    · refine qk (by simp; omega) ?_
      refine Ev.bind (Qr (zEr _)) ?_
      by_cases hp : 0 ≤ (fc t a f).f1 ∧ (fc t a f).f1 ≤ 23
      · rw [if_pos ⟨hi.1, hi.2, hp.1, hp.2⟩]
        have e : (!(decide (0 ≤ (fc t a f).f1) && decide ((fc t a f).f1 ≤ 23))) = false := by simp [hp]
        rw [e]
        refine qo (fun k => by rw [zT.j0, if_neg (by simp), zEt hp.1 hp.2 hf0 hf1, yfy]) ?_
        obtain ⟨hg0, hg1⟩ := zAK hp.1 hp.2 hf0 hf1
        have hr2 := zGJ h4 hi.1 hi.2
        refine qk hi.1 (qk hi.2 (qk hg0 (qk (by rw [hr2]; omega) ?_)))
        refine Ev.bind (Qr (zED hp.1 hp.2)) ?_
        change Ev (fun k => if ((fc t (fc t a f).f0 (rd (ZO (fc t a f).f1) f)).f0 == a && (fc t (fc t a f).f0 (rd (ZO (fc t a f).f1) f)).f1 == zE9 (fc t a f).f1) = true then _ else _) _
        generalize ((fc t (fc t a f).f0 (rd (ZO (fc t a f).f1) f)).f0 == a && (fc t (fc t a f).f0 (rd (ZO (fc t a f).f1) f)).f1 == zE9 (fc t a f).f1) = b
        cases b with
        | false => refine ZK (by simp) ?_; rw [Bool.false_and]; exact Ev.now false
        | true =>
          refine qk rfl ?_
          rw [Bool.true_and]
          by_cases ha : (fc t a f).f0 = a
          · refine qk ha (JG ?_)
            rw [ha]; simp [bne]
          · refine ZK ha (JG ?_)
            simp [ha]
      · rw [if_neg (by omega)]
        have e : (!(decide (0 ≤ (fc t a f).f1) && decide ((fc t a f).f1 ≤ 23))) = true := by
          rw [Bool.not_eq_true', Bool.and_eq_false_iff, decide_eq_false_iff_not, decide_eq_false_iff_not]; omega
        rw [e]
        exact hfalse
    · rw [if_neg (by omega)]
      refine ZK ?_ hfalse
      rw [Bool.and_eq_true, decide_eq_true_eq, decide_eq_true_eq]; omega
theorem zBn (h4 : ∀ r ∈ t, r.length = 4) (hn : t.length ≤ 8) {a : Int} (h0 : 0 ≤ a) (h1 : a < t.length) {R : Bool} (hR : Ev (fun k => zU.l0 k (t.length : Int) (a + 1) t) R) :
    ∀ (d : Nat) (f : Int), 0 ≤ f → f + d = 4 → Ev (fun k => zU.l1 k a (t.length : Int) a f t) (JN t a f d && R)
  | 0, f, hf, he => by
    refine qo (fun k => by rw [zU.l1, if_neg (by omega), qx (by omega) (by omega)]) ?_
    rw [JN, Bool.true_and]; exact hR
  | d + 1, f, hf, he => by
    refine qo (fun k => by rw [zU.l1, if_pos (by omega)]) ?_
    refine Ev.bind (zBU h4 hn h0 h1 hf (by omega)) ?_
    rw [JN]
    cases hg : zAv t a f with
    | false => exact ZK (by simp) (by rw [Bool.false_and, Bool.false_and]; exact Ev.now false)
    | true =>
      refine qk rfl ?_
      rw [Bool.true_and]
      exact Ev.congr (fun k => by rw [qx (by omega) (by omega)]) (zBn h4 hn h0 h1 hR d (f + 1) (by omega) (by omega))
theorem zBo (h4 : ∀ r ∈ t, r.length = 4) (hn : t.length ≤ 8) : ∀ (d : Nat) (a : Int), 0 ≤ a → a + d = t.length → Ev (fun k => zU.l0 k (t.length : Int) a t) (Jw t a d)
  | 0, a, ha, he => by
    refine qo (fun k => by rw [zU.l0, if_neg (by omega)]) ?_
    exact Ev.now true
  | d + 1, a, ha, he => by
    refine qo (fun k => by rw [zU.l0, if_pos (by omega)]) ?_
    rw [Jw]
    exact zBn h4 hn ha (by omega) (zBo h4 hn d (a + 1) (by omega) (by omega)) 4 0 (by omega) (by omega)
theorem zCP : t.all (fun r => decide (r.length = 4)) = true ↔ ∀ r ∈ t, r.length = 4 := by simp
theorem zEv (h : Small t) : zl.f t = some (!(t.all fun r => decide (r.length = 4))) := by
  unfold zl.f qG.f
  rw [zG9 (p := fun r => !(decide (r.length = 4))) t (fun r _ => by
    show qm.f r = _
    unfold qm.f
    congr 1
    by_cases h : r.length = 4
    · simp [h]
    · have : ¬ ((r.length : Int) = 4) := by omega
      simp [h, this]), List.not_all_eq_any_not]
theorem zCQ (h : Small t) : Ev (fun k => zU.f k t) (QU t) := by
  have hfalse : Ev (fun k => zU.j0 k true t) false := qo (fun k => by rw [zU.j0, if_pos rfl]) (Ev.now false)
  unfold QU
  by_cases h8 : t.length ≤ 8
  · refine Ev.congr (fun k => by unfold zU.f; rw [if_neg (by omega), zEv h, yfy]) ?_
    rw [ygy h8, Bool.true_and]
    cases hall : t.all (fun r => decide (r.length = 4)) with
    | false => rw [Bool.false_and]; exact hfalse
    | true =>
      rw [Bool.true_and]
      refine qo (fun k => by rw [zU.j0, if_neg (by simp)]) ?_
      exact zBo (zCP.1 hall) h8 t.length 0 (by omega) (by omega)
  · refine Ev.congr (fun k => by unfold zU.f; rw [if_pos (by omega)]) ?_
    rw [yhy h8, Bool.false_and]; exact hfalse
theorem zBp (h4 : ∀ r ∈ t, r.length = 4) (hn : t.length ≤ 8) {a : Int} (h0 : 0 ≤ a) (h1 : a < t.length) {R : Bool} (hR : Ev (fun k => zK.l1 k (a + 1) t) R) :
    ∀ (d : Nat) (f : Int), 0 ≤ f → f + d = 4 → Ev (fun k => zK.l2 k a f t) (JN t a f d && R)
  | 0, f, hf, he => by
    refine qo (fun k => by rw [zK.l2, if_neg (by omega), qx (by omega) (by omega)]) ?_
    rw [JN, Bool.true_and]; exact hR
  | d + 1, f, hf, he => by
    have hr := zGJ h4 h0 h1
    have ih : Ev (fun k => zK.l2 k a (wrap64 (f + 1)) t) (JN t a (f + 1) d && R) := Ev.congr (fun k => by rw [qx (by omega) (by omega)]) (zBp h4 hn h0 h1 hR d (f + 1) (by omega) (by omega))
    refine qo (fun k => by rw [zK.l2, if_pos (by omega), if_pos h0, if_pos h1, if_pos hf, if_pos (by omega)]) ?_
    change Ev (fun k => if (fc t a f).f0 = -1 then zK.j3 k a f ((fc t a f).f1 == 0) t (fc t a f).f0 (fc t a f).f1 else zK.j3 k a f false t (fc t a f).f0 (fc t a f).f1) _
    rw [JN]
    have hstop : ∀ b, Ev (fun k => zK.j4 k a f true t (fc t a f).f0 (fc t a f).f1) (false && b) := fun b => by
      rw [Bool.false_and]; exact qo (fun k => by rw [zK.j4, if_pos rfl]) (Ev.now false)
    have hgo : Ev (fun k => zK.j3 k a f true t (fc t a f).f0 (fc t a f).f1) (JN t a (f + 1) d && R) := qo (fun k => by rw [zK.j3, if_pos rfl]) ih
    have hrest : (¬ ((fc t a f).f0 = -1 ∧ (fc t a f).f1 = 0)) → Ev (fun k => zK.j3 k a f false t (fc t a f).f0 (fc t a f).f1) (zAv t a f && JN t a (f + 1) d && R) := by
      intro hnb
      refine qo (fun k => by rw [zK.j3, zy.f, if_neg (by simp), yfy, zFZ, yfy, qx (by omega) (by omega)]) ?_
      unfold zAv
      by_cases hi : 0 ≤ (fc t a f).f0 ∧ (fc t a f).f0 < (t.length : Int)
      · refine qk (by simp; omega) ?_
        refine Ev.bind (Qr (zDR _)) ?_
        rw [if_neg (by omega)]
        by_cases hp : 0 ≤ (fc t a f).f1 ∧ (fc t a f).f1 ≤ 23
        · rw [if_pos ⟨hi.1, hi.2, hp.1, hp.2⟩]
          have e : (!(decide (0 ≤ (fc t a f).f1) && decide ((fc t a f).f1 ≤ 23))) = false := by simp [hp]
          rw [e]
          obtain ⟨hg0, hg1⟩ := zAK hp.1 hp.2 hf (by omega)
          have hr2 := zGJ h4 hi.1 hi.2
          refine qo (fun k => by rw [zK.j4, if_neg (by simp)]) ?_
          refine Ev.bind (zAy hp.1 hp.2 hf (by omega)) ?_
          refine Ev.bind (zEC hp.1 hp.2) ?_
          refine qk hi.1 (qk hi.2 (qk hg0 (qk (by rw [hr2]; omega) ?_)))
          change Ev (fun k => if (!((fc t (fc t a f).f0 (rd (ZO (fc t a f).f1) f)).f0 == a) || !((fc t (fc t a f).f0 (rd (ZO (fc t a f).f1) f)).f1 == zE9 (fc t a f).f1)) = true then _ else _) _
          generalize ((fc t (fc t a f).f0 (rd (ZO (fc t a f).f1) f)).f0 == a) = b1
          generalize ((fc t (fc t a f).f0 (rd (ZO (fc t a f).f1) f)).f1 == zE9 (fc t a f).f1) = b2
          cases b1 with
          | false => exact qk rfl (by rw [Bool.false_and, Bool.false_and, Bool.false_and, Bool.false_and]; exact Ev.now false)
          | true =>
            cases b2 with
            | false => exact qk rfl (by rw [Bool.true_and, Bool.false_and, Bool.false_and, Bool.false_and]; exact Ev.now false)
            | true =>
              refine ZK (by simp) ?_
              rw [Bool.true_and, Bool.true_and]
              by_cases ha : (fc t a f).f0 = a
              · refine qk ha ?_
                by_cases hg : rd (ZO (fc t a f).f1) f = f
                · refine qk hg ?_
                  rw [ha, hg]
                  simp
                  exact Ev.now false
                · refine ZK hg ?_
                  have : (rd (ZO (fc t a f).f1) f == f) = false := by simp [hg]
                  rw [this, Bool.and_false, Bool.not_false, Bool.true_and]
                  exact ih
              · refine ZK ha ?_
                have : ((fc t a f).f0 == a) = false := by simp [ha]
                rw [this, Bool.false_and, Bool.not_false, Bool.true_and]
                exact ih
        · rw [if_neg (by omega)]
          have e : (!(decide (0 ≤ (fc t a f).f1) && decide ((fc t a f).f1 ≤ 23))) = true := by
            rw [Bool.not_eq_true', Bool.and_eq_false_iff, decide_eq_false_iff_not, decide_eq_false_iff_not]; omega
          rw [e, Bool.false_and]
          exact hstop R
      · have hg : (if (fc t a f).f0 = -1 then ((fc t a f).f1 == 0) else if 0 ≤ (fc t a f).f0 ∧ (fc t a f).f0 < (t.length : Int) ∧ 0 ≤ (fc t a f).f1 ∧ (fc t a f).f1 ≤ 23 then
            ((fc t (fc t a f).f0 (rd (ZO (fc t a f).f1) f)).f0 == a && (fc t (fc t a f).f0 (rd (ZO (fc t a f).f1) f)).f1 == zE9 (fc t a f).f1) && !((fc t a f).f0 == a && rd (ZO (fc t a f).f1) f == f) else false) = false := by
          by_cases hb : (fc t a f).f0 = -1
          · rw [if_pos hb]; simp; intro h; exact hnb ⟨hb, h⟩
          · rw [if_neg hb, if_neg (by omega)]
        rw [hg, Bool.false_and]
        refine ZK ?_ (hstop R)
        rw [Bool.and_eq_true, decide_eq_true_eq, decide_eq_true_eq]; omega
    by_cases hb : (fc t a f).f0 = -1
    · refine qk hb ?_
      by_cases h0' : (fc t a f).f1 = 0
      · have e : zAv t a f = true := by unfold zAv; rw [if_pos hb]; simp [h0']
        rw [e, Bool.true_and]
        have e2 : ((fc t a f).f1 == 0) = true := by simp [h0']
        rw [e2]; exact hgo
      · have e2 : ((fc t a f).f1 == 0) = false := by simp [h0']
        rw [e2]; exact hrest (fun h => h0' h.2)
    · exact ZK hb (hrest (fun h => hb h.1))
theorem zBq (h4 : ∀ r ∈ t, r.length = 4) (hn : t.length ≤ 8) : ∀ (d : Nat) (a : Int), 0 ≤ a → a + d = t.length → Ev (fun k => zK.l1 k a t) (Jw t a d)
  | 0, a, ha, he => by
    refine qo (fun k => by rw [zK.l1, zy.f, yfy, if_neg (by omega)]) ?_
    exact Ev.now true
  | d + 1, a, ha, he => by
    refine qo (fun k => by rw [zK.l1, zy.f, yfy, if_pos (by omega)]) ?_
    rw [Jw]
    exact zBp h4 hn ha (by omega) (zBq h4 hn d (a + 1) (by omega) (by omega)) 4 0 (by omega) (by omega)
theorem zEG (h8 : t.length ≤ 8) (d : Nat) : ∀ n : Nat, n + d = t.length → (t.all (fun r => decide (r.length = 4)) = (t.drop n).all (fun r => decide (r.length = 4))) → Ev (fun k => zK.l0 k (n : Int) t) (t.all (fun r => decide (r.length = 4)) && Jw t 0 t.length) := by
  induction d with
  | zero =>
    intro n hn ha
    refine qo (fun k => by rw [zK.l0, if_neg (by omega)]) ?_
    have hall : t.all (fun r => decide (r.length = 4)) = true := by rw [ha, List.drop_eq_nil_of_le (by omega)]; rfl
    rw [hall, Bool.true_and]
    exact zBq (zCP.1 hall) h8 t.length 0 (by omega) (by omega)
  | succ d ih =>
    intro n hn ha
    have hlt : n < t.length := by omega
    refine qo (fun k => by rw [zK.l0, if_pos (by omega), if_pos (by omega), Qy t n hlt]) ?_
    rw [yoy hlt, List.all_cons] at ha
    by_cases h : t[n].length = 4
    · refine qk (by omega) ?_
      refine Ev.congr (fun k => by rw [ZJ (by omega)]) (ih (n + 1) (by omega) ?_)
      rw [ha, ygy h, Bool.true_and]
    · refine ZK (by omega) ?_
      rw [ha, yhy h, Bool.false_and, Bool.false_and]
      exact Ev.now false
theorem zCR (t : Tri) : Ev (fun k => zK.f k t) (QU t) := by
  refine Ev.congr (fun k => by unfold zK.f zy.f; rw [yfy]) ?_
  unfold QU
  by_cases h8 : t.length ≤ 8
  · refine ZK (by omega) ?_
    rw [ygy h8, Bool.true_and]
    exact zEG h8 t.length 0 (by omega) (by rw [List.drop_zero])
  · refine qk (by omega) ?_
    rw [yhy h8, Bool.false_and]
    exact Ev.now false
end
theorem Zk {t : Tri} (h : QU t = true) : t.length ≤ 8 ∧ (∀ r ∈ t, r.length = 4) ∧ Jw t 0 t.length = true := by
  unfold QU at h
  rw [Bool.and_eq_true, Bool.and_eq_true, decide_eq_true_eq] at h
  exact ⟨h.1, zCP.1 h.2.1, h.2.2⟩
theorem zEw (t : Tri) (a : Int) (d : Nat) : ∀ f, JN t a f d = true → ∀ g, f ≤ g → g < f + d → zAv t a g = true := by
  induction d with
  | zero => intro f _ g h1 h2; omega
  | succ d ih =>
    intro f h g h1 h2
    rw [JN, Bool.and_eq_true] at h
    by_cases e : g = f
    · rw [e]; exact h.1
    · exact ih (f + 1) h.2 g (by omega) (by omega)
theorem zEx (t : Tri) (d : Nat) : ∀ a, Jw t a d = true → ∀ b, a ≤ b → b < a + d → ∀ g, 0 ≤ g → g ≤ 3 → zAv t b g = true := by
  induction d with
  | zero => intro a _ b h1 h2; omega
  | succ d ih =>
    intro a h b h1 h2 g hg0 hg1
    rw [Jw, Bool.and_eq_true] at h
    by_cases e : b = a
    · rw [e]; exact zEw t a 4 0 h.1 g hg0 (by omega)
    · exact ih (a + 1) h.2 b (by omega) (by omega) g hg0 hg1
theorem zAO {t : Tri} (h : QU t = true) {a f : Int} (h0 : 0 ≤ a) (h1 : a < t.length) (hf0 : 0 ≤ f) (hf1 : f ≤ 3) :
    ((fc t a f).f0 = -1 ∧ (fc t a f).f1 = 0) ∨
    ((0 ≤ (fc t a f).f0 ∧ (fc t a f).f0 < (t.length : Int) ∧ 0 ≤ (fc t a f).f1 ∧ (fc t a f).f1 ≤ 23) ∧
      (fc t (fc t a f).f0 (rd (ZO (fc t a f).f1) f)).f0 = a ∧ (fc t (fc t a f).f0 (rd (ZO (fc t a f).f1) f)).f1 = zE9 (fc t a f).f1 ∧ ¬ ((fc t a f).f0 = a ∧ rd (ZO (fc t a f).f1) f = f)) := by
  have hg := zEx t t.length 0 (Zk h).2.2 a h0 (by omega) f hf0 hf1
  unfold zAv at hg
  by_cases hb : (fc t a f).f0 = -1
  · rw [if_pos hb] at hg
    exact .inl ⟨hb, by simpa using hg⟩
  · rw [if_neg hb] at hg
    by_cases hi : 0 ≤ (fc t a f).f0 ∧ (fc t a f).f0 < (t.length : Int) ∧ 0 ≤ (fc t a f).f1 ∧ (fc t a f).f1 ≤ 23
    · rw [if_pos hi, Bool.and_eq_true, Bool.and_eq_true, Bool.not_eq_true'] at hg
      refine .inr ⟨hi, eq_of_beq hg.1.1, eq_of_beq hg.1.2, fun hc => ?_⟩
      have := hg.2
      rw [Bool.and_eq_false_iff] at this
      rcases this with h2 | h2
      · exact absurd hc.1 (by simpa using h2)
      · exact absurd hc.2 (by simpa using h2)
    · rw [if_neg hi] at hg; cases hg
def zEy (cols : Nat) (j f b : Int) (p : List Int) : List (List Int) := (zE5 [f]).map fun c => zDB cols j f b p c
theorem zBr (cols : Nat) (j f b : Int) (p : List Int) : ∀ (L : List Int) (A : List (List Int)), Ql cols j f b p L (A.flatten, (A.length : Int)) = ((A ++ L.map fun c => zDB cols j f b p c).flatten, ((A ++ L.map fun c => zDB cols j f b p c).length : Int))
 | [], A => by simp [Ql]
 | c :: cs, A => by
  have h := zBr cols j f b p cs (A ++ [zDB cols j f b p c])
  have e1 : (A ++ [zDB cols j f b p c]).flatten = A.flatten ++ zDB cols j f b p c := by simp
  have e2 : ((A ++ [zDB cols j f b p c]).length : Int) = (A.length : Int) + 1 := by simp
  rw [e1, e2] at h
  rw [Ql, h]
  simp
def zEz (cols : Nat) (A : List (List Int)) (j f : Nat) (x : zu) : List (List Int) :=
 if 4 * x.f0 + rd (ZO x.f1) (f : Int) < 4 * (j : Int) + (f : Int) then A else A ++ zEy cols j f x.f0 (ZO x.f1)
theorem zDp {σ τ : Type} {Rel : σ → τ → Prop} {s1 : σ → Nat → Nat → zu → σ} {s2 : τ → Nat → Nat → zu → τ} (h : ∀ a b j f x, Rel a b → Rel (s1 a j f x) (s2 b j f x)) (j : Nat) : ∀ (r : List zu) (f : Nat) (a : σ) (b : τ), Rel a b → Rel (zE6 s1 j r f a) (zE6 s2 j r f b)
 | [], _, _, _, hr => hr
 | x :: xs, f, a, b, hr => by
  rw [zE6, zE6]
  refine zDp h j xs (f + 1) _ _ ?_
  split
  next =>
   exact hr
  next =>
   exact h _ _ _ _ _ hr
theorem zDq {σ τ : Type} {Rel : σ → τ → Prop} {s1 : σ → Nat → Nat → zu → σ} {s2 : τ → Nat → Nat → zu → τ} (h : ∀ a b j f x, Rel a b → Rel (s1 a j f x) (s2 b j f x)) : ∀ (l : List (List zu)) (j : Nat) (a : σ) (b : τ), Rel a b → Rel (zCL s1 l j a) (zCL s2 l j b)
 | [], _, _, _, hr => hr
 | r :: rs, j, a, b, hr => by
  rw [zCL, zCL]
  exact zDq h rs (j + 1) _ _ (zDp h j r 0 a b hr)
def Jf (t : Tri) : List (List Int) := zCL (zEz (7 * t.length)) t 0 []
theorem zFa (t : Tri) : zBS t = ((Jf t).flatten, ((Jf t).length : Int)) := by
 refine zDq (Rel := fun (a : List Int × Int) (b : List (List Int)) => a = (b.flatten, (b.length : Int))) (fun a b j f x hr => ?_) t 0 ([], 0) [] (by simp)
 rw [hr]
 unfold zAI zEz
 split
 next =>
  rfl
 next =>
  exact zBr _ _ _ _ _ _ _
def zAw (t : Tri) (a f : Int) : Prop := (fc t a f).f0 > a ∨ ((fc t a f).f0 = a ∧ rd (ZO (fc t a f).f1) f > f)
instance (t : Tri) (a f : Int) : Decidable (zAw t a f) := by unfold zAw; infer_instance
def Qn (t : Tri) (a : Int) : Int → Nat → List (List Int)
 | _, 0 => []
 | f, d + 1 => (if zAw t a f then [[a, f]] else []) ++ Qn t a (f + 1) d
def Qh (t : Tri) : Int → Nat → List (List Int)
 | _, 0 => []
 | a, d + 1 => Qn t a 0 4 ++ Qh t (a + 1) d
def zCS (t : Tri) (p : List Int) : List (List Int) := zEy (7 * t.length) (rd p 0) (rd p 1) (fc t (rd p 0) (rd p 1)).f0 (ZO (fc t (rd p 0) (rd p 1)).f1)
theorem zGA {t : Tri} (h : QU t = true) {a f : Int} (h0 : 0 ≤ a) (h1 : a < t.length) (hf0 : 0 ≤ f) (hf1 : f ≤ 3) (hb : ¬ (fc t a f).f0 < 0) : zAw t a f ↔ ¬ (4 * (fc t a f).f0 + rd (ZO (fc t a f).f1) f < 4 * a + f) := by
 rcases zAO h h0 h1 hf0 hf1 with ⟨e, _⟩ | ⟨⟨g0, g1, g2, g3⟩, _, _, hn⟩
 next =>
  omega
 next =>
  obtain ⟨k0, k1⟩ := zAK g2 g3 hf0 hf1
  unfold zAw
  generalize (fc t a f).f0 = b at *
  generalize rd (ZO (fc t a f).f1) f = g at *
  by_cases e : b = a
  rotate_left
  next =>
   constructor <;> intro hh <;> omega
  have : ¬ g = f := fun hc => hn ⟨e, hc⟩
  constructor <;> intro hh <;> omega
theorem zBs {t : Tri} (h : QU t = true) (j : Nat) (hj : j < t.length) : ∀ (d f : Nat) (A : List (List Int)), f + d = 4 → zE6 (zEz (7 * t.length)) j (t[j].drop f) f A = A ++ (Qn t j f d).flatMap (zCS t)
 | 0, f, A, hf => by
  have h4 : t[j].length = 4 := (Zk h).2.1 _ (List.getElem_mem hj)
  rw [List.drop_eq_nil_of_le (by omega), zE6, Qn]; simp
 | d + 1, f, A, hf => by
  have h4 : t[j].length = 4 := (Zk h).2.1 _ (List.getElem_mem hj)
  have hlt : f < t[j].length := by omega
  have hfc : fc t (j : Int) (f : Int) = t[j][f] := by unfold fc; rw [Qy t j hj, zAY _ f hlt]
  rw [yoy hlt, zE6, zBs h j hj d (f + 1) _ (by omega), Qn]
  have e1 : ((f : Int) + 1) = ((f + 1 : Nat) : Int) := by omega
  rw [e1, List.flatMap_append, ← List.append_assoc]
  congr 1
  have hff := zGA (a := (j : Int)) (f := (f : Int)) h (by omega) (by omega) (by omega) (by omega)
  by_cases hb : t[j][f].f0 < 0
  next =>
   rw [if_pos hb, if_neg (fun hc => by unfold zAw at hc; rw [hfc] at hc; omega)]; simp
  next =>
   rw [if_neg hb]
   have hff2 := hff (by rw [hfc]; exact hb)
   rw [hfc] at hff2
   unfold zEz
   by_cases hc : 4 * t[j][f].f0 + rd (ZO t[j][f].f1) (f : Int) < 4 * (j : Int) + (f : Int)
   next =>
    rw [if_pos hc, if_neg (fun hq => (hff2.1 hq) hc)]; simp
   next =>
    rw [if_neg hc, if_pos (hff2.2 hc)]
    have e2 : zCS t [(j : Int), (f : Int)] = zEy (7 * t.length) (j : Int) (f : Int) t[j][f].f0 (ZO t[j][f].f1) := by
     show zEy (7 * t.length) (j : Int) (f : Int) (fc t (j : Int) (f : Int)).f0 (ZO (fc t (j : Int) (f : Int)).f1) = _
     rw [hfc]
    simp [e2]
theorem zBt {t : Tri} (h : QU t = true) : ∀ (d j : Nat) (A : List (List Int)), j + d = t.length → zCL (zEz (7 * t.length)) (t.drop j) j A = A ++ (Qh t j d).flatMap (zCS t)
 | 0, j, A, hj => by rw [List.drop_eq_nil_of_le (by omega), zCL, Qh]; simp
 | d + 1, j, A, hj => by
  have hlt : j < t.length := by omega
  have e1 : ((j : Int) + 1) = ((j + 1 : Nat) : Int) := by omega
  have h2 := zBs h j hlt 4 0 A (by omega)
  rw [List.drop_zero] at h2
  rw [yoy hlt, zCL, h2, zBt h d (j + 1) _ (by omega), Qh, List.flatMap_append, List.append_assoc, e1]
  rfl
theorem zA3 {t : Tri} (h : QU t = true) : Jf t = (Qh t 0 t.length).flatMap (zCS t) := by
 have := zBt h t.length 0 [] (by omega)
 rw [List.drop_zero, List.nil_append] at this
 exact this
theorem zFb {t : Tri} (h : QU t = true) : zGI t := by
 obtain ⟨h8, h4, _⟩ := Zk h
 refine ⟨h8, fun r hr => by rw [h4 r hr]; omega, fun r hr x hx hb => ?_⟩
 obtain ⟨j, hj, rfl⟩ := List.getElem_of_mem hr
 obtain ⟨f, hf, rfl⟩ := List.getElem_of_mem hx
 have h4' := h4 _ (List.getElem_mem hj)
 have hfc : fc t (j : Int) (f : Int) = t[j][f] := by unfold fc; rw [Qy t j hj, zAY _ f hf]
 have := zAO (a := (j : Int)) (f := (f : Int)) h (by omega) (by omega) (by omega) (by omega)
 rw [hfc] at this
 rcases this with ⟨e, _⟩ | ⟨⟨g0, g1, g2, g3⟩, _⟩
 next =>
  omega
 next =>
  exact ⟨g1, g2, g3⟩
theorem zEH {t : Tri} (h : QU t = true) : qD.f t = some (((Jf t).length : Int), 7 * (t.length : Int), (Jf t).flatten) := by
 unfold qD.f
 rw [if_pos (zFb h), zFa]
theorem zBE {t : Tri} (h : QU t = true) : ∀ r ∈ Jf t, r.length = 7 * t.length := by
 intro r hr
 rw [zA3 h] at hr
 obtain ⟨p, _, hp⟩ := List.mem_flatMap.1 hr
 obtain ⟨c, _, rfl⟩ := List.mem_map.1 hp
 exact zDM _ _ _ _ _ _
theorem zBu (t : Tri) (a : Int) : ∀ (d : Nat) (f : Int), (Qn t a f d).length ≤ d
 | 0, _ => by simp [Qn]
 | d + 1, f => by
  have := zBu t a d (f + 1)
  rw [Qn, List.length_append]
  split <;> simp <;> omega
theorem zAZ (t : Tri) : ∀ (d : Nat) (a : Int), (Qh t a d).length ≤ 4 * d
 | 0, _ => by simp [Qh]
 | d + 1, a => by
  have := zAZ t d (a + 1)
  have := zBu t a 4 0
  rw [Qh, List.length_append]
  omega
def zF0 (t : Tri) (p : List Int) : Prop := ∃ a f : Int, p = [a, f] ∧ 0 ≤ a ∧ a < t.length ∧ 0 ≤ f ∧ f ≤ 3 ∧ ¬ (fc t a f).f0 < 0
theorem zD1 (t : Tri) {a : Int} (h0 : 0 ≤ a) (h1 : a < t.length) : ∀ (d : Nat) (f : Int), 0 ≤ f → f + d = 4 → ∀ p ∈ Qn t a f d, zF0 t p
 | 0, _, _, _, p, hp => by simp [Qn] at hp
 | d + 1, f, hf, he, p, hp => by
  rw [Qn, List.mem_append] at hp
  rcases hp with hp | hp
  next =>
   by_cases hc : zAw t a f
   rotate_left
   next =>
    rw [if_neg hc] at hp; simp at hp
   rw [if_pos hc] at hp
   have : p = [a, f] := by simpa using hp
   exact ⟨a, f, this, h0, h1, hf, by omega, by unfold zAw at hc; omega⟩
  next =>
   exact zD1 t h0 h1 d (f + 1) (by omega) (by omega) p hp
theorem zD2 (t : Tri) : ∀ (d : Nat) (a : Int), 0 ≤ a → a + d = t.length → ∀ p ∈ Qh t a d, zF0 t p
 | 0, _, _, _, p, hp => by simp [Qh] at hp
 | d + 1, a, ha, he, p, hp => by
  rw [Qh, List.mem_append] at hp
  rcases hp with hp | hp
  next =>
   exact zD1 t ha (by omega) 4 0 (by omega) (by omega) p hp
  next =>
   exact zD2 t d (a + 1) (by omega) (by omega) p hp
section
variable {t : Tri}
theorem zA4 (h : QU t = true) {a : Int} (h0 : 0 ≤ a) (h1 : a < t.length) {R : List (List Int)} {D : Nat} (hR : ∀ acc : List (List Int), acc.length + D ≤ 100 → Ev (fun k => zq.l0 k acc (a + 1) t) (acc ++ R)) :
 ∀ (d : Nat) (f : Int) (acc : List (List Int)), 0 ≤ f → f + d = 4 → acc.length + d + D ≤ 100 → Ev (fun k => zq.l1 k acc a f t) (acc ++ Qn t a f d ++ R)
 | 0, f, acc, hf, he, hl => by
  have h8 := (Zk h).1
  refine qo (fun k => by rw [zq.l1, if_neg (by omega), qx (by omega) (by omega)]) ?_
  rw [Qn, List.append_nil]; exact hR acc (by omega)
 | d + 1, f, acc, hf, he, hl => by
  obtain ⟨h8, h4, _⟩ := Zk h
  have hr := zGJ h4 h0 h1
  refine qo (fun k => by rw [zq.l1, if_pos (by omega), if_pos h0, if_pos h1, if_pos hf, if_pos (by omega)]) ?_
  rw [Qn]
  have hyes : zAw t a f → Ev (fun k => if acc.length < 5864062014805 then zq.l1 k (acc ++ [[a, f]]) a (wrap64 (f + 1)) t else none) (acc ++ ((if zAw t a f then [[a, f]] else []) ++ Qn t a (f + 1) d) ++ R) := fun hc => by
   rw [if_pos hc]
   refine qk (by omega) (Ev.congr (fun k => by rw [qx (by omega) (by omega)]) ?_)
   have := zA4 h h0 h1 hR d (f + 1) (acc ++ [[a, f]]) (by omega) (by omega) (by simp; omega)
   rwa [List.append_assoc acc] at this
  have hno : ¬ zAw t a f → Ev (fun k => zq.l1 k acc a (wrap64 (f + 1)) t) (acc ++ ((if zAw t a f then [[a, f]] else []) ++ Qn t a (f + 1) d) ++ R) := fun hc => by
   rw [if_neg hc, List.nil_append]
   exact Ev.congr (fun k => by rw [qx (by omega) (by omega)]) (zA4 h h0 h1 hR d (f + 1) acc (by omega) (by omega) (by omega))
  change Ev (fun k => if (fc t a f).f0 > a then _ else if (fc t a f).f0 = a then (ZE.f k (fc t a f).f1 f).bind _ else _) _
  by_cases c1 : (fc t a f).f0 > a
  next =>
   exact qk c1 (hyes (.inl c1))
  next =>
   refine ZK c1 ?_
   by_cases c2 : (fc t a f).f0 = a
   rotate_left
   next =>
    exact ZK c2 (hno (fun hc => by rcases hc with hc | hc; exact c1 hc; exact c2 hc.1))
   have hp : 0 ≤ (fc t a f).f1 ∧ (fc t a f).f1 ≤ 23 := by
    rcases zAO h h0 h1 hf (by omega) with ⟨e, _⟩ | ⟨⟨_, _, g2, g3⟩, _⟩
    next =>
     omega
    next =>
     exact ⟨g2, g3⟩
   refine qk c2 (Ev.bind (zAy hp.1 hp.2 hf (by omega)) ?_)
   by_cases c3 : rd (ZO (fc t a f).f1) f > f
   next =>
    exact qk c3 (hyes (.inr ⟨c2, c3⟩))
   next =>
    exact ZK c3 (hno (fun hc => by rcases hc with hc | hc; exact c1 hc; exact c3 hc.2))
theorem zBF (h : QU t = true) : ∀ (d : Nat) (a : Int) (acc : List (List Int)), 0 ≤ a → a + d = t.length → acc.length + 4 * d ≤ 100 → Ev (fun k => zq.l0 k acc a t) (acc ++ Qh t a d)
 | 0, a, acc, ha, he, hl => by
  refine qo (fun k => by rw [zq.l0, zy.f, yfy, if_neg (by omega)]) ?_
  rw [Qh, List.append_nil]; exact Ev.now _
 | d + 1, a, acc, ha, he, hl => by
  refine qo (fun k => by rw [zq.l0, zy.f, yfy, if_pos (by omega)]) ?_
  have := zA4 h ha (by omega) (R := Qh t (a + 1) d) (D := 4 * d) (fun acc2 hl2 => zBF h d (a + 1) acc2 (by omega) (by omega) hl2) 4 0 acc (by omega) (by omega) (by omega)
  rwa [List.append_assoc] at this
theorem zCT (h : QU t = true) : Ev (fun k => zq.f k t) (Qh t 0 t.length) := by
 have h8 := (Zk h).1
 have := zBF h t.length 0 [] (by omega) (by omega) (by simp; omega)
 rwa [List.nil_append] at this
theorem zBv {a b : Int} (ha : sm a) (hb : sm b) (hne : b ≠ a) : qI.f a b = some (qd b a) := by
 obtain ⟨ha0, ha1⟩ := ha
 obtain ⟨hb0, hb1⟩ := hb
 rcases (show a = 0 ∨ a = 1 ∨ a = 2 ∨ a = 3 by omega) with rfl | rfl | rfl | rfl <;> rcases (show b = 0 ∨ b = 1 ∨ b = 2 ∨ b = 3 by omega) with rfl | rfl | rfl | rfl <;> first | exact absurd rfl hne | decide +kernel
theorem qd_bd {a b : Int} (ha : sm a) (hb : sm b) (hne : a ≠ b) : 0 ≤ qd a b ∧ qd a b ≤ 2 := (zDL ha hb hne).2
theorem zBw (h : QU t = true) {P : List (List Int)} {i : Int} {a f : Int} (h0 : 0 ≤ a) (h1 : a < t.length) (hf0 : 0 ≤ f) (hf1 : f ≤ 3) (hb : ¬ (fc t a f).f0 < 0) {R : List (List Int)} {D : Nat} (hi : 0 ≤ i) (hi2 : i ≤ 1000)
 (hR : ∀ acc : List (List Int), acc.length + D ≤ 1000 → Ev (fun k => zm.l0 k acc P (i + 1) t) (acc ++ R)) :
 ∀ (d : Nat) (c : Int) (acc : List (List Int)), 0 ≤ c → c + d = 4 → acc.length + d + D ≤ 1000 → Ev (fun k => zm.l1 k acc P i a f c t) (acc ++ ((Zu c d).filter fun x => ![f].contains x).map (fun x => zDB (7 * t.length) a f (fc t a f).f0 (ZO (fc t a f).f1) x) ++ R)
 | 0, c, acc, hc, he, hl => by
  refine qo (fun k => by rw [zm.l1, if_neg (by omega), qx (by omega) (by omega)]) ?_
  rw [Zu]; simp only [List.filter_nil, yky, List.append_nil]; exact hR acc (by omega)
 | d + 1, c, acc, hc, he, hl => by
  obtain ⟨h8, h4, _⟩ := Zk h
  have ih := fun (acc2 : List (List Int)) (hl2 : acc2.length + d + D ≤ 1000) => zBw h h0 h1 hf0 hf1 hb hi hi2 hR d (c + 1) acc2 (by omega) (by omega) hl2
  by_cases hcf : c = f
  next =>
   refine qo (fun k => by rw [zm.l1, if_pos (by omega), if_pos hcf, qx (by omega) (by omega)]) ?_
   have e1 : (![f].contains c) = false := by simp [hcf]
   rw [Zu, List.filter_cons, e1, if_neg (by simp)]
   exact ih acc (by omega)
  next =>
   have e1 : (![f].contains c) = true := by simp [hcf]
   have hsc : sm c := ⟨hc, by omega⟩
   have hsf : sm f := ⟨hf0, hf1⟩
   obtain ⟨g0, g1, g2, g3⟩ : 0 ≤ (fc t a f).f0 ∧ (fc t a f).f0 < (t.length : Int) ∧ 0 ≤ (fc t a f).f1 ∧ (fc t a f).f1 ≤ 23 := by
    rcases zAO h h0 h1 hf0 hf1 with ⟨e, _⟩ | ⟨e, _⟩
    next =>
     omega
    next =>
     exact e
   have hd := zAK g2 g3 hc (show c ≤ 3 by omega)
   have hx := zAK g2 g3 hf0 hf1
   have hne := zCt g2 g3 hsc hsf hcf
   obtain ⟨q0, q1⟩ := qd_bd hsc hsf hcf
   obtain ⟨r0, r1⟩ := qd_bd hd hx hne
   have hmr : zDB (7 * t.length) a f (fc t a f).f0 (ZO (fc t a f).f1) c = zAV (zAV (zAH (zAH (List.replicate (7 * t.length) 0) (7 * a + c)) (7 * a + 4 + qd c f)) (7 * (fc t a f).f0 + rd (ZO (fc t a f).f1) c)) (7 * (fc t a f).f0 + 4 + qd (rd (ZO (fc t a f).f1) c) (rd (ZO (fc t a f).f1) f)) := rfl
   have hcorner : Ev (fun k => qf.f k t a f c) ((fc t a f).f0, rd (ZO (fc t a f).f1) f, rd (ZO (fc t a f).f1) c) := by
    have hr := zGJ h4 h0 h1
    refine Ev.congr (fun k => by unfold qf.f; rw [if_pos h0, if_pos h1, if_pos hf0, if_pos (by omega)]) ?_
    exact Ev.bind (zAy g2 g3 hf0 hf1) (Ev.bind (zAy g2 g3 hc (by omega)) (Ev.now _))
   have hbt1 := zBv hsf hsc hcf
   have hbt2 := zBv (show sm (rd (ZO (fc t a f).f1) f) from hx) (show sm (rd (ZO (fc t a f).f1) c) from hd) hne
   have hlt : (7 * (t.length : Int)) = ((7 * t.length : Nat) : Int) := by omega
   rw [Zu, List.filter_cons, e1, if_pos rfl, yjy, hmr]
   generalize (fc t a f).f0 = b at *
   generalize rd (ZO (fc t a f).f1) c = dd at *
   generalize rd (ZO (fc t a f).f1) f = x at *
   generalize qd c f = q at *
   generalize qd dd x = q2 at *
   obtain ⟨d0, d1⟩ := hd
   have w1 : wrap64 (7 * a) = 7 * a := qx (by omega) (by omega)
   have w2 : wrap64 (7 * a + c) = 7 * a + c := qx (by omega) (by omega)
   have w3 : wrap64 (7 * a + 4) = 7 * a + 4 := qx (by omega) (by omega)
   have w4 : wrap64 (7 * a + 4 + q) = 7 * a + 4 + q := qx (by omega) (by omega)
   have w5 : wrap64 (7 * b) = 7 * b := qx (by omega) (by omega)
   have w6 : wrap64 (7 * b + dd) = 7 * b + dd := qx (by omega) (by omega)
   have w7 : wrap64 (7 * b + 4) = 7 * b + 4 := qx (by omega) (by omega)
   have w8 : wrap64 (7 * b + 4 + q2) = 7 * b + 4 + q2 := qx (by omega) (by omega)
   have w9 : wrap64 (7 * (t.length : Int)) = 7 * (t.length : Int) := qx (by omega) (by omega)
   have w10 : wrap64 (c + 1) = c + 1 := qx (by omega) (by omega)
   have hln : (List.replicate (7 * t.length) (0 : Int)).length = 7 * t.length := List.length_replicate
   refine qo (fun k => by rw [zm.l1, if_pos (by omega), if_neg hcf, zy.f, yfy, w9, if_pos (by omega), if_pos (by omega), yfy, hlt, yny]) ?_
   refine Ev.bind hcorner ?_
   dsimp only
   refine Ev.congr (fun k => by rw [w1, w2, if_pos (by omega), if_pos (by rw [hln]; omega), yfy, hbt1, yfy, w3, w4, if_pos (by omega), if_pos (by rw [hln]; omega), yfy, w5, w6, if_pos (by omega), if_pos (by rw [hln]; omega), yfy, hbt2, yfy, w7, w8, if_pos (by omega), if_pos (by rw [hln]; omega), if_pos (by omega), w10]) ?_
   have := ih (acc ++ [zAV (zAV (zAH (zAH (List.replicate (7 * t.length) 0) (7 * a + c)) (7 * a + 4 + q)) (7 * b + dd)) (7 * b + 4 + q2)]) (by simp; omega)
   rw [List.append_assoc acc] at this
   exact this
theorem zBx (h : QU t = true) {P : List (List Int)} (hP : ∀ p ∈ P, zF0 t p) (hPl : P.length ≤ 100) : ∀ (d i : Nat) (acc : List (List Int)), i + d = P.length → acc.length + 4 * d ≤ 1000 → Ev (fun k => zm.l0 k acc P (i : Int) t) (acc ++ (P.drop i).flatMap (zCS t))
 | 0, i, acc, he, hl => by
  refine qo (fun k => by rw [zm.l0, if_neg (by omega)]) ?_
  rw [List.drop_eq_nil_of_le (by omega)]; simp only [List.flatMap_nil, List.append_nil]; exact Ev.now _
 | d + 1, i, acc, he, hl => by
  have hlt : i < P.length := by omega
  obtain ⟨a, f, hp, h0, h1, hf0, hf1, hb⟩ := hP P[i] (List.getElem_mem hlt)
  have ex : ze P (i : Int) = [a, f] := by simp [ze, hlt, hp]
  refine qo (fun k => by rw [zm.l0, if_pos (by omega), if_pos (by omega), ex, if_pos (by simp), if_pos (by simp)]) ?_
  have := zBw h (P := P) (i := (i : Int)) h0 h1 hf0 hf1 hb (R := (P.drop (i + 1)).flatMap (zCS t)) (D := 4 * d) (by omega) (by omega) (fun acc2 hl2 => zBx h hP hPl d (i + 1) acc2 (by omega) hl2) 4 0 acc (by omega) (by omega) (by omega)
  rw [List.append_assoc] at this
  rw [yoy hlt, hp, List.flatMap_cons]
  exact this
theorem zD3 (h : QU t = true) : Ev (fun k => zm.f k t) (Jf t) := by
 have h8 := (Zk h).1
 have hl := zAZ t t.length 0
 refine Ev.bind (zCT h) ?_
 have := zBx h (zD2 t t.length 0 (by omega) (by omega)) (by omega) (Qh t 0 t.length).length 0 [] (by omega) (by simp; omega)
 rw [List.nil_append, List.drop_zero, ← zA3 h] at this
 exact this
theorem zBy (h : QU t = true) : (Jf t).length ≤ 1000 := by
 have h8 := (Zk h).1
 have hl := zAZ t t.length 0
 rw [zA3 h, List.length_flatMap]
 have : ∀ P : List (List Int), ((P.map fun p => (zCS t p).length).sum) ≤ 4 * P.length := by
  intro P
  induction P with
  | nil => simp
  | cons p ps ih =>
   simp only [yjy, List.sum_cons, List.length_cons]
   have h1 : (zCS t p).length ≤ 4 := by unfold zCS zEy; rw [List.length_map]; exact zDj _
   omega
 have := this (Qh t 0 t.length)
 omega
end
def JA (t : Tri) : Int := if QU t then (if (t.length : Int) > 6 then 3 else 0) else 1
def inR (x : Int) : Bool := decide (0 ≤ x) && decide (x ≤ 1000)
theorem Js {t : Tri} (h : JA t = 0) : QU t = true ∧ t.length ≤ 6 := by
  unfold JA at h
  cases ht : QU t with
  | false => rw [ht] at h; simp at h
  | true =>
    rw [ht, if_pos rfl] at h
    refine ⟨rfl, ?_⟩
    by_cases hl : (t.length : Int) > 6
    · rw [if_pos hl] at h; simp at h
    · omega
theorem zAP (t : Tri) : Ev (fun k => ZP.f k t) (JA t) := by
  refine Ev.bind (zCR t) ?_
  unfold JA
  cases QU t with
  | false => exact ZK (by simp) (Ev.now _)
  | true =>
    refine qk rfl (Ev.bind (Qr (by unfold zy.f; rfl)) ?_)
    rw [if_pos rfl]
    by_cases hl : (t.length : Int) > 6
    · exact qk hl (JG (if_pos hl).symm)
    · exact ZK hl (JG (if_neg hl).symm)
theorem zCU {t : Tri} (hs : Small t) : Ev (fun k => ZV.f k t) (JA t) := by
  refine Ev.bind (zCQ hs) ?_
  unfold JA
  cases QU t with
  | false => exact ZK (by simp) (Ev.now _)
  | true =>
    refine qk rfl ?_
    rw [if_pos rfl]
    by_cases hl : (t.length : Int) > 6
    · exact qk hl (JG (if_pos hl).symm)
    · exact ZK hl (JG (if_neg hl).symm)
theorem zFc (a b c : Int) : Qd.f a b c = some (decide (b ≤ a) && decide (a ≤ c)) := by
  unfold Qd.f
  by_cases h : b ≤ a <;> simp [h]
theorem zCV {α : Type} (l : List α) (z : α) (n : Nat) (h : n < l.length) :
    (l.take n ++ List.replicate (l.length - n) z).set n l[n] = l.take (n + 1) ++ List.replicate (l.length - (n + 1)) z := by
  have e : l.length - n = (l.length - (n + 1)) + 1 := by omega
  rw [e, List.replicate_succ, List.set_append_right _ _ (by simp; omega)]
  have : n - (l.take n).length = 0 := by simp; omega
  rw [this, yby, List.take_succ_eq_append_getElem h, List.append_assoc]
  rfl
theorem zBG (l : List Int) (h : l.length ≤ 4398046511104) : Ev (fun k => zz.f k l) l := by
  have hl : Ev (fun k => zz.l0 k l (List.replicate l.length 0) 0) l := by
    refine Qq (fun k (s : List Int × Int) => zz.l0 k l s.1 s.2) (fun s => ∃ n : Nat, n ≤ l.length ∧ s.2 = n ∧ s.1 = l.take n ++ List.replicate (l.length - n) 0) (fun s => l.length - s.2.toNat) (fun _ => l) ?_ (List.replicate l.length 0, 0) ⟨0, by omega, rfl, by simp⟩
    rintro ⟨a, i⟩ ⟨n, hn, rfl, rfl⟩
    dsimp only
    by_cases hlt : n < l.length
    · refine .inr ⟨(l.take (n + 1) ++ List.replicate (l.length - (n + 1)) 0, ((n + 1 : Nat) : Int)), ⟨n + 1, by omega, rfl, rfl⟩, by simp; omega, rfl, fun k => ?_⟩
      simp only [zz.l0]
      rw [if_pos (by omega), if_pos (by omega), if_pos (by simp; omega), ZJ (by omega), yny, zAW l n hlt, zCV l 0 n hlt]
    · obtain rfl : n = l.length := by omega
      refine .inl fun k => ?_
      simp only [zz.l0]
      rw [if_neg (by omega)]
      simp
  refine Ev.congr (fun k => ?_) hl
  unfold zz.f
  rw [if_pos (by omega), if_pos (by simp; omega), yny]
theorem zA5 (l : List Int) (h : l.length ≤ 4398046511104) : Ev (fun k => qQ.f k l l) true := by
  have hl : Ev (fun k => qQ.l0 k l l 0) true := by
    refine Qq (fun k (s : Int) => qQ.l0 k l l s) (fun s => ∃ n : Nat, n ≤ l.length ∧ s = n) (fun s => l.length - s.toNat) (fun _ => true) ?_ 0 ⟨0, by omega, rfl⟩
    rintro i ⟨n, hn, rfl⟩
    by_cases hlt : n < l.length
    · refine .inr ⟨((n + 1 : Nat) : Int), ⟨n + 1, by omega, rfl⟩, by simp; omega, rfl, fun k => ?_⟩
      simp only [qQ.l0]
      rw [if_pos (by omega), if_pos (by omega), if_pos (by omega), if_pos trivial, ZJ (by omega)]
    · refine .inl fun k => ?_
      simp only [qQ.l0]
      rw [if_neg (by omega)]
  refine Ev.congr (fun k => ?_) hl
  unfold qQ.f
  rw [if_pos rfl]
theorem zDU (l : List Int) (a : Int) (n : Nat) (h : n < l.length) : (Zu a n ++ l.drop n).set n (a + n) = Zu a (n + 1) ++ l.drop (n + 1) := by
  rw [List.set_append_right _ _ (by rw [QT]; omega), QT, Nat.sub_self, yoy h, yby, zDQ, List.append_assoc]
  rfl
theorem JV (l : List Int) (a : Int) (h : l.length ≤ 4398046511104) (h0 : 0 ≤ a) (h1 : a ≤ 4398046511104) : Ev (fun k => qO.f k l a) (a + l.length, Zu a l.length) := by
  have hl : Ev (fun k => qO.l0 k l a 0) (a + l.length, Zu a l.length) := by
    refine Qq (fun k (s : List Int × Int × Int) => qO.l0 k s.1 s.2.1 s.2.2) (fun s => ∃ n : Nat, n ≤ l.length ∧ s.2.2 = n ∧ s.2.1 = a + n ∧ s.1 = Zu a n ++ l.drop n) (fun s => l.length - s.2.2.toNat) (fun _ => (a + l.length, Zu a l.length)) ?_ (l, a, 0) ⟨0, by omega, rfl, by simp, by simp [Zu]⟩
    rintro ⟨x, b, i⟩ ⟨n, hn, rfl, rfl, rfl⟩
    dsimp only
    have hlen : (Zu a n ++ l.drop n).length = l.length := by simp [QT]; omega
    by_cases hlt : n < l.length
    · refine .inr ⟨(Zu a (n + 1) ++ l.drop (n + 1), a + ((n + 1 : Nat) : Int), ((n + 1 : Nat) : Int)), ⟨n + 1, by omega, rfl, rfl, rfl⟩, by simp; omega, rfl, fun k => ?_⟩
      simp only [qO.l0]
      rw [if_pos (by rw [hlen]; omega), if_pos (by omega), ZJ (by omega), yny, zDU l a n hlt, qx (by omega) (by omega)]
      congr 1; omega
    · obtain rfl : n = l.length := by omega
      refine .inl fun k => ?_
      simp only [qO.l0]
      rw [if_neg (by rw [hlen]; omega)]
      simp
  exact hl
theorem zCW (a : Int) (m : Nat) (h : m ≤ 4398046511104) (h0 : 0 ≤ a) (h1 : a ≤ 4398046511104) : Ev (fun k => qX.f k (Zu a m) a) (a + m) := by
  have hl : Ev (fun k => qX.l0 k (Zu a m) a 0) (a + m) := by
    refine Qq (fun k (s : Int × Int) => qX.l0 k (Zu a m) s.1 s.2) (fun s => ∃ n : Nat, n ≤ m ∧ s.2 = n ∧ s.1 = a + n) (fun s => m - s.2.toNat) (fun _ => a + m) ?_ (a, 0) ⟨0, by omega, rfl, by simp⟩
    rintro ⟨b, i⟩ ⟨n, hn, rfl, rfl⟩
    dsimp only
    by_cases hlt : n < m
    · refine .inr ⟨(a + ((n + 1 : Nat) : Int), ((n + 1 : Nat) : Int)), ⟨n + 1, by omega, rfl, rfl⟩, by simp; omega, rfl, fun k => ?_⟩
      simp only [qX.l0]
      rw [if_pos (by rw [QT]; omega), if_pos (by omega), if_pos (by rw [rd_nat, zEB a m n hlt]), ZJ (by omega), qx (by omega) (by omega)]
      congr 1; omega
    · obtain rfl : n = m := by omega
      refine .inl fun k => ?_
      simp only [qX.l0]
      rw [if_neg (by rw [QT]; omega)]
  exact hl
def Qm (R : List (List Int)) (v : List Int) : Bool := R.all fun r => decide (zCN r v 0 = 0)
def Qz (t : Tri) (v : List Int) : Bool := if (v.length : Int) = 7 * (t.length : Int) then (if v.all inR = true then Qm (Jf t) v else false) else false
def Jy (t : Tri) (v : List Int) : Bool := if JA t = 0 then Qz t v else false
theorem zEI {t : Tri} {v : List Int} (hv : v.length ≤ 4398046511104) {R : Bool} (hR : Ev (fun k => (zm.f k t).bind fun t106 => zd.l1 k v t106 0) R) (d : Nat) : ∀ n : Nat, n + d = v.length → Ev (fun k => zd.l0 k v (n : Int) t) (if (v.drop n).all inR = true then R else false) := by
  induction d with
  | zero =>
    intro n hn
    refine qo (fun k => by rw [zd.l0, if_neg (by omega)]) ?_
    rw [List.drop_eq_nil_of_le (by omega), if_pos (by rfl)]; exact hR
  | succ d ih =>
    intro n hn
    have hlt : n < v.length := by omega
    refine qo (fun k => by rw [zd.l0, if_pos (by omega), if_pos (by omega), zAW v n hlt, zFc, yfy, ZJ (by omega)]) ?_
    rw [yoy hlt, List.all_cons]
    change Ev (fun k => if inR v[n] = true then _ else _) _
    cases h : inR v[n] with
    | false => exact ZK (by simp) (by rw [Bool.false_and, if_neg (by simp)]; exact Ev.now _)
    | true => exact qk rfl (by rw [Bool.true_and]; exact ih (n + 1) (by omega))
theorem zBH (r v : List Int) (hl : r.length ≤ v.length) (hr : r.length ≤ 1000000) : ∀ (d n : Nat) (s : Int), n + d = r.length → Ev (fun k => ZH.l0 k r v s (n : Int)) (zCN (r.drop n) (v.drop n) s)
  | 0, n, s, hn => by
    refine qo (fun k => by rw [ZH.l0, if_neg (by omega)]) ?_
    rw [List.drop_eq_nil_of_le (by omega)]
    cases v.drop n <;> exact Ev.now _
  | d + 1, n, s, hn => by
    have hlt : n < r.length := by omega
    have hlv : n < v.length := by omega
    refine qo (fun k => by rw [ZH.l0, if_pos (by omega), if_pos (by omega), if_pos (by omega), zAW r n hlt, zAW v n hlv, ZJ (by omega)]) ?_
    rw [yoy hlt, yoy hlv, zCN]
    exact zBH r v hl hr d (n + 1) _ (by omega)
theorem zDV (r v : List Int) (hl : r.length ≤ v.length) (hr : r.length ≤ 1000000) : Ev (fun k => ZH.f k r v) (zCN r v 0) := by
  have := zBH r v hl hr r.length 0 0 (by omega)
  rwa [List.drop_zero, List.drop_zero] at this
theorem zBz (R : List (List Int)) (v : List Int) (hR : ∀ r ∈ R, r.length ≤ v.length ∧ r.length ≤ 1000000) (hl : R.length ≤ 1000000) : ∀ (d n : Nat), n + d = R.length → Ev (fun k => zd.l1 k v R (n : Int)) (Qm (R.drop n) v)
  | 0, n, hn => by
    refine qo (fun k => by rw [zd.l1, if_neg (by omega)]) ?_
    rw [List.drop_eq_nil_of_le (by omega)]; exact Ev.now _
  | d + 1, n, hn => by
    have hlt : n < R.length := by omega
    have ex : ze R (n : Int) = R[n] := by simp [ze, hlt]
    have h1 := hR R[n] (List.getElem_mem hlt)
    refine qo (fun k => by rw [zd.l1, if_pos (by omega), if_pos (by omega), ex, ZJ (by omega)]) ?_
    refine Ev.bind (zDV _ v h1.1 h1.2) ?_
    unfold Qm
    rw [yoy hlt, List.all_cons]
    by_cases hz : zCN R[n] v 0 = 0
    · rw [ygy hz, Bool.true_and]
      exact qk hz (zBz R v hR hl d (n + 1) (by omega))
    · rw [yhy hz, Bool.false_and]
      exact ZK hz (Ev.now _)
theorem Jz (t : Tri) (v : List Int) (hv : v.length ≤ 4398046511104) : Ev (fun k => zd.f k t v) (Jy t v) := by
  have hfalse : Ev (fun k => zd.j0 k v true t) false := qo (fun k => by rw [zd.j0, if_pos rfl]) (Ev.now false)
  refine Ev.bind (zAP t) ?_
  unfold Jy
  by_cases hc : JA t = 0
  · obtain ⟨ht, h6⟩ := Js hc
    rw [if_pos hc]
    unfold Qz
    refine qk hc (Ev.bind (Qr (by unfold zy.f; rfl)) ?_)
    refine Ev.congr (fun k => by rw [qx (by omega) (by omega)]) (f := fun k => zd.j0 k v ((v.length : Int) != (7 * (t.length : Int))) t) ?_
    by_cases hl : (v.length : Int) = 7 * (t.length : Int)
    · rw [if_pos hl]
      have e : ((v.length : Int) != (7 * (t.length : Int))) = false := by simp [hl]
      rw [e]
      refine qo (fun k => by rw [zd.j0, if_neg (by simp)]) ?_
      have hrows : Ev (fun k => (zm.f k t).bind fun t106 => zd.l1 k v t106 0) (Qm (Jf t) v) := by
        refine Ev.bind (zD3 ht) ?_
        have := zBz (Jf t) v (fun r hr => by have := zBE ht r hr; omega) (by have := zBy ht; omega) (Jf t).length 0 (by omega)
        rwa [List.drop_zero] at this
      have := zEI hv hrows v.length 0 (by omega)
      rwa [List.drop_zero] at this
    · rw [if_neg hl]
      have e : ((v.length : Int) != (7 * (t.length : Int))) = true := by simp [hl]
      rw [e]
      exact hfalse
  · rw [if_neg hc]
    exact ZK hc hfalse
theorem zD4 (cols : Nat) (A r B : List Int) (k : Nat) (hA : A.length = k * cols) (hr : r.length = cols) : rowAt cols (A ++ (r ++ B)) k = r := by
  unfold rowAt
  have h3 : (k + 1) * cols = A.length + r.length := by rw [Nat.succ_mul]; omega
  rw [h3, ← hA, ← List.append_assoc, List.take_append_of_le_length (by simp), List.take_of_length_le (by simp), List.drop_append_of_le_length (yqy _), List.drop_length, List.nil_append]
theorem zC0 (cols : Nat) (v : List Int) : ∀ (R : List (List Int)) (A : List Int) (k : Nat), A.length = k * cols → (∀ r ∈ R, r.length = cols) → Jn cols (A ++ R.flatten) v R.length k = Qm R v
  | [], _, _, _, _ => rfl
  | r :: R, A, k, hA, hR => by
    have hr := hR r (List.mem_cons_self ..)
    rw [List.length_cons, Jn, List.flatten_cons, zD4 cols A r _ k hA hr]
    have ih := zC0 cols v R (A ++ r) (k + 1) (by rw [List.length_append, hA, hr, Nat.succ_mul]) (fun x hx => hR x (List.mem_cons_of_mem _ hx))
    rw [List.append_assoc] at ih
    rw [ih]
    unfold Qm
    rw [List.all_cons]
    by_cases hz : zCN r v 0 = 0
    · rw [if_pos hz, ygy hz, Bool.true_and]
    · rw [if_neg hz, yhy hz, Bool.false_and]
theorem zBI (cols : Nat) : ∀ (R : List (List Int)), (∀ r ∈ R, r.length = cols) → R.flatten.length = R.length * cols
  | [], _ => by simp
  | r :: R, h => by
    rw [List.flatten_cons, List.length_append, zBI cols R (fun x hx => h x (List.mem_cons_of_mem _ hx)), h r (List.mem_cons_self ..), List.length_cons, Nat.succ_mul]; omega
theorem zBV {t : Tri} (h : QU t = true) (v : List Int) (hv : (v.length : Int) = 7 * (t.length : Int)) : Zj.f ((Jf t).length : Int) (7 * (t.length : Int)) (Jf t).flatten v = some (Qm (Jf t) v) := by
  have h8 := (Zk h).1
  have hs := zBy h
  have hf := zBI (7 * t.length) (Jf t) (zBE h)
  have e7 : (7 * (t.length : Int)).toNat = 7 * t.length := by omega
  unfold Zj.f
  rw [if_pos ?_, e7, yny]
  · have := zC0 (7 * t.length) v (Jf t) [] 0 (by simp) (zBE h)
    rw [List.nil_append] at this
    rw [this]
  · refine ⟨by omega, by omega, by omega, by omega, ?_, by omega⟩
    rw [hf]; push_cast; rfl
theorem zF1 (v : List Int) : zf.f v = some (!(v.all inR)) := by
  unfold zf.f qF.f
  rw [zG9 (p := fun y => !(inR y)) v (fun y _ => by
    show qP.f y = _
    unfold qP.f
    rw [zAX]; rfl), List.not_all_eq_any_not]
theorem zCX {t : Tri} (h : QU t = true) (v : List Int) : qa.f t v = some (Qz t v) := by
  have h8 := (Zk h).1
  unfold qa.f Qz
  rw [qx (by omega) (by omega)]
  by_cases hl : (v.length : Int) = 7 * (t.length : Int)
  · rw [if_pos hl, if_pos hl, zF1, yfy]
    cases ha : v.all inR with
    | false => rfl
    | true => rw [if_neg (by simp), zEH h, yfy, zBV h v hl, yfy, if_pos rfl]
  · rw [if_neg hl, if_neg hl]
end Go.Proofs.Ythjpdljdodalaaa.P
namespace Go.Proofs.Ythjpdljdodalaaa.P
open Go.RowKit Go.Proofs.YthjpdljdodalaaaW.PrintWords Go.Proofs.YthjpdljdodalaaaW.PrintLast Go.Proofs.YthjpdljdodalaaaW.PrintMore
attribute [local go_sem] QG QH QZ Qa Zq Zr QI QJ
set_option linter.unusedVariables false
set_option linter.unusedSimpArgs false
def Ze.l0 : Nat → List Int → List Int → Int → Option (List Int)
  | 0, _, _, _ => none
  | k + 1, x0, x3, x4 => if x4 < (x0.length : Int) then (if 0 ≤ x4 then (if (rd x0 x4) = 0 then (Ze.l0 k x0 x3 (wrap64 (x4 + 1))) else (if x3.length < 17592186044416 then (Ze.l0 k x0 (x3 ++ [x4]) (wrap64 (x4 + 1))) else (none))) else (none)) else (some x3)
def Ze.f (k : Nat) (l0 : List Int) : Option (List Int) := Ze.l0 k l0 (([] : List Int)) 0
end Go.Proofs.Ythjpdljdodalaaa.P
namespace Go.Proofs.Ythjpdljdodalaaa.P
open Go.RowKit Go.Proofs.YthjpdljdodalaaaW.PrintWords Go.Proofs.Ythjpdljdodalaaa.Lib
set_option linter.unusedVariables false
def zDr : Nat → List Int → List Int
  | _, [] => []
  | i, x :: xs => if x = 0 then zDr (i + 1) xs else (i : Int) :: zDr (i + 1) xs
theorem zD5 (l : List Int) (n : Nat) (h : n < l.length) : zDr n (l.drop n) = if l[n] = 0 then zDr (n + 1) (l.drop (n + 1)) else (n : Int) :: zDr (n + 1) (l.drop (n + 1)) := by
  rw [yoy h]; rfl
theorem zEJ (l : List Int) (h : l.length ≤ 4398046511104) : Ev (fun k => Ze.f k l) (zDr 0 l) := by
  refine Qq (fun k (s : List Int × Int) => Ze.l0 k l s.1 s.2) (fun s => ∃ n : Nat, n ≤ l.length ∧ s.2 = n ∧ s.1.length ≤ n) (fun s => l.length - s.2.toNat) (fun s => s.1 ++ zDr s.2.toNat (l.drop s.2.toNat)) ?_ ([], 0) ⟨0, by omega, rfl, by simp⟩
  rintro ⟨a, i⟩ ⟨n, hn, rfl, ha⟩
  dsimp only at ha ⊢
  by_cases hlt : n < l.length
  · right
    rw [yny, zD5 l n hlt]
    by_cases hx : l[n] = 0
    · refine ⟨(a, ((n + 1 : Nat) : Int)), ⟨n + 1, by omega, rfl, by dsimp only; omega⟩, by dsimp only; omega, by dsimp only; rw [yny, if_pos hx], fun k => ?_⟩
      simp only [Ze.l0]
      rw [if_pos (by omega), if_pos (by omega), zAW l n hlt, if_pos hx, ZJ (by omega)]
    · refine ⟨(a ++ [(n : Int)], ((n + 1 : Nat) : Int)), ⟨n + 1, by omega, rfl, by simp; omega⟩, by dsimp only; omega, by dsimp only; rw [yny, if_neg hx]; simp, fun k => ?_⟩
      simp only [Ze.l0]
      rw [if_pos (by omega), if_pos (by omega), zAW l n hlt, if_neg hx, if_pos (by omega), ZJ (by omega)]
  · obtain rfl : n = l.length := by omega
    refine .inl fun k => ?_
    simp only [Ze.l0]
    rw [if_neg (by omega)]
    simp [zDr]
theorem zAa (l : List Int) (h : l.length ≤ 4398046511104) : Ev (fun k => qN.f k l) (zDr 0 l) := by
  refine Qq (fun k (s : List Int × Int) => qN.l0 k s.1 l (l.length : Int) s.2) (fun s => ∃ n : Nat, n ≤ l.length ∧ s.2 = n ∧ s.1.length ≤ n) (fun s => l.length - s.2.toNat) (fun s => s.1 ++ zDr s.2.toNat (l.drop s.2.toNat)) ?_ ([], 0) ⟨0, by omega, rfl, by simp⟩
  rintro ⟨a, i⟩ ⟨n, hn, rfl, ha⟩
  dsimp only at ha ⊢
  by_cases hlt : n < l.length
  · right
    rw [yny, zD5 l n hlt]
    by_cases hx : l[n] = 0
    · refine ⟨(a, ((n + 1 : Nat) : Int)), ⟨n + 1, by omega, rfl, by dsimp only; omega⟩, by dsimp only; omega, by dsimp only; rw [yny, if_pos hx], fun k => ?_⟩
      simp only [qN.l0]
      rw [if_pos (by omega), if_pos (by omega), if_pos (by omega), zAW l n hlt, if_pos hx, ZJ (by omega)]
    · refine ⟨(a ++ [(n : Int)], ((n + 1 : Nat) : Int)), ⟨n + 1, by omega, rfl, by simp; omega⟩, by dsimp only; omega, by dsimp only; rw [yny, if_neg hx]; simp, fun k => ?_⟩
      simp only [qN.l0]
      rw [if_pos (by omega), if_pos (by omega), if_pos (by omega), zAW l n hlt, if_neg hx, if_pos (by omega), ZJ (by omega)]
  · obtain rfl : n = l.length := by omega
    refine .inl fun k => ?_
    simp only [qN.l0]
    rw [if_neg (by omega)]
    simp [zDr]
def nzc : List Int → Nat
  | [] => 0
  | x :: xs => if x = 0 then nzc xs else nzc xs + 1
theorem zFd (l : List Int) : ∀ i, (zDr i l).length = nzc l := by
  induction l with
  | nil => intro i; rfl
  | cons x xs ih => intro i; unfold zDr nzc; split <;> simp [ih]
def zGB (v : List Int) (i : Nat) : Bool := decide (nzc (Qw 7 4 3 v i) ≤ 1)
def zGC (v : List Int) : Nat → Nat → Bool
  | 0, _ => true
  | d + 1, n => zGB v n && zGC v d (n + 1)
def zGD (v : List Int) : Bool := zGC v (v.length / 7) 0
def zGE (v : List Int) : Nat → Bool
  | 0 => true
  | n + 1 => zGE v n && zGB v n
theorem zDs (v : List Int) : ∀ d n, zGC v d n = true ↔ ∀ i, n ≤ i → i < n + d → zGB v i = true
  | 0, n => by simp [zGC]; intro i h1 h2; omega
  | d + 1, n => by
    rw [zGC, Bool.and_eq_true, zDs v d (n + 1)]
    constructor
    · rintro ⟨h0, h1⟩ i hi hd
      rcases Nat.eq_or_lt_of_le hi with rfl | h
      · exact h0
      · exact h1 i h (by omega)
    · intro h
      exact ⟨h n (yqy _) (by omega), fun i hi hd => h i (by omega) (by omega)⟩
theorem zDt (v : List Int) : ∀ n, zGE v n = true ↔ ∀ i, i < n → zGB v i = true
  | 0 => by simp [zGE]
  | n + 1 => by
    rw [zGE, Bool.and_eq_true, zDt v n]
    constructor
    · rintro ⟨h0, h1⟩ i hi
      rcases Nat.lt_succ_iff_lt_or_eq.1 hi with h | rfl
      · exact h0 i h
      · exact h1
    · intro h
      exact ⟨fun i hi => h i (by omega), h n (by omega)⟩
theorem zGF (v : List Int) (n : Nat) : zGE v n = zGC v n 0 := by
  rw [Bool.eq_iff_iff, zDt, zDs]
  constructor
  · intro h i _ hi; exact h i (by omega)
  · intro h i hi; exact h i (by omega) (by omega)
theorem zAn {v : List Int} {n : Nat} (h : n * 7 + 7 ≤ v.length) : Qw 7 4 3 v n = [v[n * 7 + 4], v[n * 7 + 5], v[n * 7 + 6]] := by
  unfold Qw
  rw [yoy (by omega), List.take_succ_cons, yoy (by omega), List.take_succ_cons, yoy (by omega), List.take_succ_cons, List.take_zero]
theorem zF2 (v : List Int) : ∀ n, n * 7 ≤ v.length → Ev (fun k => zDk (fun i => zG7 (qN.f k) 7 4 3 v i) n) (zGE v n)
  | 0, _ => Ev.now true
  | n + 1, h => by
    refine Ev.bind (zF2 v n (by omega)) ?_
    have h3 : (Qw 7 4 3 v n).length = 3 := by rw [zAn (by omega)]; rfl
    have hs := zAa (Qw 7 4 3 v n) (by omega)
    obtain ⟨K, hK⟩ := hs
    refine ⟨K, fun k hk => ?_⟩
    have h9 : qN.f k (Qw 7 4 3 v n) = some (zDr 0 (Qw 7 4 3 v n)) := hK k hk
    dsimp only
    unfold zG7
    rw [h9]
    simp [zGE, zGB, zFd]
theorem zAo (v : List Int) (h7 : v.length % 7 = 0) (hl : v.length ≤ 7000000000) : Ev (fun k => qU.f k v) (zGD v) := by
  refine Ev.congr (fun k => by unfold qU.f; rw [if_pos ⟨h7, hl⟩]) ?_
  unfold zGD
  rw [← zGF]
  exact zF2 v _ (by omega)
def nz1 (x : Int) : Int := if x = 0 then 0 else 1
theorem zGG (x : Int) : 0 ≤ nz1 x ∧ nz1 x ≤ 1 := by unfold nz1; split <;> omega
theorem JW (v : List Int) (n q : Nat) (hq4 : 4 ≤ q) (hq : q ≤ 6) (h : n * 7 + 7 ≤ v.length) (hb : v.length ≤ 7000000000) (hp : ∀ x ∈ v, 0 ≤ x) (c : Int) (hc0 : 0 ≤ c) (hc : c ≤ 10) {R : Bool} (hlt : n * 7 + q < v.length)
    (hR : Ev (fun k => qB.l1 k v ((n * 7 : Nat) : Int) (c + nz1 v[n * 7 + q]) ((q + 1 : Nat) : Int)) R) : Ev (fun k => qB.l1 k v ((n * 7 : Nat) : Int) c (q : Int)) R := by
  have e1 : wrap64 (((n * 7 : Nat) : Int) + (q : Int)) = ((n * 7 + q : Nat) : Int) := by rw [qx (by omega) (by omega)]; omega
  have e2 : wrap64 ((q : Int) + 1) = ((q + 1 : Nat) : Int) := ZJ (by omega)
  have hv := hp v[n * 7 + q] (List.getElem_mem hlt)
  refine qo (fun k => by rw [qB.l1, if_pos (by omega), e1, if_pos (by omega), if_pos (by omega), zAW v _ hlt, e2]) ?_
  by_cases hz : v[n * 7 + q] > 0
  · refine qk hz ?_
    have e3 : wrap64 (c + 1) = c + nz1 v[n * 7 + q] := by rw [qx (by omega) (by omega)]; unfold nz1; rw [if_neg (by omega)]
    rw [e3]; exact hR
  · refine ZK hz ?_
    have e3 : c = c + nz1 v[n * 7 + q] := by unfold nz1; rw [if_pos (by omega)]; omega
    rw [e3]; exact hR
theorem zDW (v : List Int) (n : Nat) (h : n * 7 + 7 ≤ v.length) (hb : v.length ≤ 7000000000) (hp : ∀ x ∈ v, 0 ≤ x) {R : Bool} (hR : Ev (fun k => qB.l0 k v (((n + 1) * 7 : Nat) : Int)) R) : Ev (fun k => qB.l1 k v ((n * 7 : Nat) : Int) 0 4) (zGB v n && R) := by
  have b4 := zGG (v[n * 7 + 4])
  have b5 := zGG (v[n * 7 + 5])
  have b6 := zGG (v[n * 7 + 6])
  refine JW v n 4 (by omega) (by omega) h hb hp 0 (by omega) (by omega) (by omega) ?_
  refine JW v n 5 (by omega) (by omega) h hb hp _ (by omega) (by omega) (by omega) ?_
  refine JW v n 6 (by omega) (by omega) h hb hp _ (by omega) (by omega) (by omega) ?_
  have e1 : wrap64 (((n * 7 : Nat) : Int) + 7) = (((n + 1) * 7 : Nat) : Int) := by rw [qx (by omega) (by omega)]; omega
  refine qo (fun k => by rw [qB.l1, if_neg (by omega), e1]) ?_
  have hn : (0 + nz1 v[n * 7 + 4] + nz1 v[n * 7 + 5] + nz1 v[n * 7 + 6] : Int) = (nzc (Qw 7 4 3 v n) : Int) := by
    rw [zAn h]
    unfold nzc nzc nzc nzc nz1
    repeat' split
    all_goals simp
  rw [hn]
  unfold zGB
  by_cases hz : nzc (Qw 7 4 3 v n) ≤ 1
  · rw [ygy hz, Bool.true_and]
    exact ZK (by omega) hR
  · rw [yhy hz, Bool.false_and]
    exact qk (by omega) (Ev.now _)
theorem zBJ (v : List Int) (hb : v.length ≤ 7000000000) (hp : ∀ x ∈ v, 0 ≤ x) (N : Nat) (hN : v.length = N * 7) : ∀ d n, n + d = N → Ev (fun k => qB.l0 k v ((n * 7 : Nat) : Int)) (zGC v d n)
  | 0, n, hn => by
    have e1 : wrap64 (((n * 7 : Nat) : Int) + 7) = ((n * 7 + 7 : Nat) : Int) := by rw [qx (by omega) (by omega)]; omega
    refine qo (fun k => by rw [qB.l0, e1, if_neg (by omega)]) ?_
    exact Ev.now _
  | d + 1, n, hn => by
    have e1 : wrap64 (((n * 7 : Nat) : Int) + 7) = ((n * 7 + 7 : Nat) : Int) := by rw [qx (by omega) (by omega)]; omega
    refine qo (fun k => by rw [qB.l0, e1, if_pos (by omega)]) ?_
    exact zDW v n (by omega) hb hp (zBJ v hb hp N hN d (n + 1) (by omega))
theorem zAp (v : List Int) (h7 : v.length % 7 = 0) (hl : v.length ≤ 7000000000) (hp : ∀ x ∈ v, 0 ≤ x) : Ev (fun k => qB.f k v) (zGD v) := by
  have := zBJ v hl hp (v.length / 7) (by omega) (v.length / 7) 0 (by omega)
  unfold zGD
  exact this
theorem Qs {t : Tri} {v : List Int} (h : Qz t v = true) : (v.length : Int) = 7 * (t.length : Int) ∧ (∀ x ∈ v, 0 ≤ x ∧ x ≤ 1000) ∧ Qm (Jf t) v = true := by
  unfold Qz at h
  by_cases hl : (v.length : Int) = 7 * (t.length : Int)
  · rw [if_pos hl] at h
    by_cases ha : v.all inR = true
    · rw [if_pos ha] at h
      refine ⟨hl, fun x hx => ?_, h⟩
      have := List.all_eq_true.1 ha x hx
      unfold inR at this
      simp at this
      exact this
    · rw [if_neg ha] at h; cases h
  · rw [if_neg hl] at h; cases h
def adm0 (t : Tri) (v : List Int) : Bool := if Qz t v = true then zGD v else false
def adm (t : Tri) (v : List Int) : Bool := if Jy t v = true then zGD v else false
theorem Jp {t : Tri} (h : JA t = 0) (v : List Int) : Jy t v = Qz t v := by unfold Jy; rw [if_pos h]
theorem zFt {t : Tri} (h : JA t = 0) (v : List Int) : adm t v = adm0 t v := by unfold adm adm0; rw [Jp h]
theorem zBK {t : Tri} {v : List Int} (h : Jy t v = true) : JA t = 0 := by
  unfold Jy at h
  by_cases hc : JA t = 0
  · exact hc
  · rw [if_neg hc] at h; cases h
theorem zAq {t : Tri} (hc : JA t = 0) (v : List Int) : Ev (fun k => zo.f k t v) (adm0 t v) := by
  obtain ⟨ht, h6⟩ := Js hc
  refine Ev.bind (Qr (zCX ht v)) ?_
  unfold adm0
  by_cases hn : Qz t v = true
  · obtain ⟨hl, hr, _⟩ := Qs hn
    refine qk hn (Ev.bind (zAo v (by omega) (by omega)) ?_)
    rw [if_pos hn]; exact Ev.now _
  · rw [if_neg hn]; exact ZK hn (Ev.now _)
theorem zBL (t : Tri) (v : List Int) (hv : v.length ≤ 4398046511104) : Ev (fun k => qc.f k t v) (adm t v) := by
  refine Ev.bind (Jz t v hv) ?_
  unfold adm
  by_cases hn : Jy t v = true
  · have hc := zBK hn
    obtain ⟨ht, h6⟩ := Js hc
    rw [Jp hc] at hn
    obtain ⟨hl, hr, _⟩ := Qs hn
    rw [Jp hc]
    refine qk hn (Ev.bind (zAp v (by omega) (by omega) (fun x hx => (hr x hx).1)) ?_)
    rw [if_pos hn]; exact Ev.now _
  · rw [if_neg hn]; exact ZK hn (Ev.now _)
def QR (u v : List Int) : List Int := List.zipWith (· + ·) u v
def JE (u : List Int) : Prop := ∀ x ∈ u, 0 ≤ x ∧ x ≤ 1000
theorem Qi {u v : List Int} (h : u.length = v.length) : (QR u v).length = u.length := by unfold QR; rw [List.length_zipWith]; omega
theorem Jq : ∀ {u v : List Int}, JE u → JE v → ∀ x ∈ QR u v, 0 ≤ x ∧ x ≤ 2000
  | [], _, _, _ => by simp [QR]
  | _ :: _, [], _, _ => by simp [QR]
  | a :: u, b :: v, hu, hv => by
    intro x hx
    rcases List.mem_cons.1 hx with rfl | hx
    · have h1 := hu a (List.mem_cons_self ..)
      have h2 := hv b (List.mem_cons_self ..)
      show 0 ≤ a + b ∧ a + b ≤ 2000
      omega
    · exact Jq (u := u) (v := v) (fun y hy => hu y (List.mem_cons_of_mem _ hy)) (fun y hy => hv y (List.mem_cons_of_mem _ hy)) x hx
theorem zAr (u v : List Int) (hl : u.length = v.length) (hb : u.length ≤ 7000000000) (hu : JE u) (hv : JE v) : ∀ (d n : Nat) (acc : List Int), n + d = u.length → acc.length = n → Ev (fun k => zx.l0 k u v 1 acc (n : Int)) (acc ++ QR (u.drop n) (v.drop n))
  | 0, n, acc, hn, ha => by
    refine qo (fun k => by rw [zx.l0, if_neg (by omega)]) ?_
    rw [List.drop_eq_nil_of_le (by omega)]
    exact JG (by simp [QR])
  | d + 1, n, acc, hn, ha => by
    have hlt : n < u.length := by omega
    have hlv : n < v.length := by omega
    have h1 := hu u[n] (List.getElem_mem hlt)
    have h2 := hv v[n] (List.getElem_mem hlv)
    have e : wrap64 (u[n] + wrap64 (1 * v[n])) = u[n] + v[n] := by rw [Int.one_mul, qx (x := v[n]) (by omega) (by omega), qx (by omega) (by omega)]
    refine qo (fun k => by rw [zx.l0, if_pos (by omega), if_pos (by omega), if_pos (by omega), if_pos (by omega), zAW u n hlt, zAW v n hlv, e, ZJ (by omega)]) ?_
    have := zAr u v hl hb hu hv d (n + 1) (acc ++ [u[n] + v[n]]) (by omega) (by simp; omega)
    rw [yoy hlt, yoy hlv]
    rw [List.append_assoc] at this
    exact this
theorem zAs (u v : List Int) (hl : u.length = v.length) (hb : u.length ≤ 7000000000) (hu : JE u) (hv : JE v) : Ev (fun k => zx.f k u v 1) (QR u v) := by
  have := zAr u v hl hb hu hv u.length 0 [] (by omega) rfl
  rwa [List.drop_zero, List.drop_zero, List.nil_append] at this
theorem zAt (u v : List Int) (hl : u.length = v.length) (hb : u.length ≤ 7000000000) (hu : JE u) (hv : JE v) : ∀ (d n : Nat) (acc : List Int), n + d = u.length → acc.length = n → Ev (fun k => qu.l0 k (acc ++ u.drop n) v (v.length : Int) (n : Int)) (acc ++ QR (u.drop n) (v.drop n))
  | 0, n, acc, hn, ha => by
    refine qo (fun k => by rw [qu.l0, if_neg (by omega)]) ?_
    rw [List.drop_eq_nil_of_le (by omega)]
    exact JG (by simp [QR])
  | d + 1, n, acc, hn, ha => by
    have hlt : n < u.length := by omega
    have hlv : n < v.length := by omega
    have h1 := hu u[n] (List.getElem_mem hlt)
    have h2 := hv v[n] (List.getElem_mem hlv)
    have e : wrap64 (u[n] + v[n]) = u[n] + v[n] := qx (by omega) (by omega)
    have hL : (acc ++ u.drop n).length = u.length := by rw [List.length_append, yly]; omega
    have hr : rd (acc ++ u.drop n) (n : Int) = u[n] := by
      rw [zAW _ n (by omega)]
      rw [List.getElem_append_right (by omega)]
      simp [ha]
    have hset : (acc ++ u.drop n).set n (u[n] + v[n]) = (acc ++ [u[n] + v[n]]) ++ u.drop (n + 1) := by
      rw [List.set_append_right _ _ (by omega), ha, Nat.sub_self, yoy hlt, yby, List.append_assoc]; rfl
    refine qo (fun k => by rw [qu.l0, if_pos (by omega), if_pos (by omega), if_pos (by omega), if_pos (by omega), hr, zAW v n hlv, e, yny, hset, ZJ (by omega)]) ?_
    have := zAt u v hl hb hu hv d (n + 1) (acc ++ [u[n] + v[n]]) (by omega) (by simp; omega)
    rw [yoy hlt, yoy hlv]
    have e2 : acc ++ QR (u[n] :: u.drop (n + 1)) (v[n] :: v.drop (n + 1)) = acc ++ [u[n] + v[n]] ++ QR (u.drop (n + 1)) (v.drop (n + 1)) := by rw [List.append_assoc]; rfl
    rw [e2]
    exact this
theorem zAu (u v : List Int) (hl : u.length = v.length) (hb : u.length ≤ 7000000000) (hu : JE u) (hv : JE v) : Ev (fun k => qu.f k u v) (QR u v) := by
  refine Ev.bind (Qr (show qv.f u = some u from by unfold qv.f; rw [if_pos (by omega)])) ?_
  have := zAt u v hl hb hu hv u.length 0 [] (by omega) rfl
  rwa [List.drop_zero, List.drop_zero, List.nil_append, List.nil_append] at this
def Jb (t : Tri) (u v : List Int) : Bool := if adm t u = true then (if adm t v = true then zGD (QR u v) else false) else false
theorem zAz {t : Tri} {v : List Int} (h : adm t v = true) : JA t = 0 ∧ Qz t v = true := by
  unfold adm at h
  by_cases hn : Jy t v = true
  · have hc := zBK hn
    rw [Jp hc] at hn
    exact ⟨hc, hn⟩
  · rw [if_neg hn] at h; cases h
theorem zCY {t : Tri} {u v : List Int} (hu : adm t u = true) (hv : adm t v = true) : JA t = 0 ∧ u.length = v.length ∧ u.length % 7 = 0 ∧ u.length ≤ 42 ∧ JE u ∧ JE v := by
  obtain ⟨hc, h1⟩ := zAz hu
  obtain ⟨_, h2⟩ := zAz hv
  obtain ⟨ht, h6⟩ := Js hc
  obtain ⟨a1, a2, _⟩ := Qs h1
  obtain ⟨b1, b2, _⟩ := Qs h2
  exact ⟨hc, by omega, by omega, by omega, a2, b2⟩
theorem zBW (t : Tri) (u v : List Int) (hu : u.length ≤ 4398046511104) (hv : v.length ≤ 4398046511104) : Ev (fun k => ZD.f k t u v) (Jb t u v) := by
  refine Ev.bind (zBL t u hu) ?_
  unfold Jb
  by_cases h1 : adm t u = true
  · refine qk h1 (Ev.bind (zBL t v hv) ?_)
    rw [if_pos h1]
    by_cases h2 : adm t v = true
    · obtain ⟨hc, hl, h7, hb, su, sv⟩ := zCY h1 h2
      have hp := Qi hl
      refine qk h2 (Ev.bind (zAs u v hl (by omega) su sv) ?_)
      rw [if_pos h2]
      exact Ev.bind (zAp _ (by omega) (by omega) (fun x hx => (Jq su sv x hx).1)) (Ev.now _)
    · rw [if_neg h2]; exact ZK h2 (Ev.now _)
  · rw [if_neg h1]; exact ZK h1 (Ev.now _)
theorem zBM {t : Tri} (hc : JA t = 0) (u v : List Int) : Ev (fun k => qL.f k t u v) (Jb t u v) := by
  refine Ev.bind (zAq hc u) ?_
  unfold Jb
  rw [← zFt hc]
  by_cases h1 : adm t u = true
  · refine qk h1 (Ev.bind (zAq hc v) ?_)
    rw [if_pos h1, ← zFt hc]
    by_cases h2 : adm t v = true
    · obtain ⟨_, hl, h7, hb, su, sv⟩ := zCY h1 h2
      have hp := Qi hl
      refine qk h2 (Ev.bind (zAu u v hl (by omega) su sv) ?_)
      rw [if_pos h2]
      exact Ev.bind (zAo _ (by omega) (by omega)) (Ev.now _)
    · rw [if_neg h2]; exact ZK h2 (Ev.now _)
  · rw [if_neg h1]; exact ZK h1 (Ev.now _)
def zDC : List Int → List Int → Int
  | x :: xs, y :: ys => x * y + zDC xs ys
  | _, _ => 0
theorem zF3 : ∀ (r v : List Int) (s : Int), -9223372036854775808 ≤ s → s ≤ 9223372036854775807 → zCN r v s = wrap64 (s + zDC r v)
  | [], v, s, h0, h1 => by
    have : zCN [] v s = s := by cases v <;> rfl
    rw [this]; unfold zDC; unfold wrap64; omega
  | x :: xs, [], s, h0, h1 => by
    show s = _
    unfold zDC; unfold wrap64; omega
  | x :: xs, y :: ys, s, h0, h1 => by
    rw [zCN, zDC, zF3 xs ys _ (by unfold wrap64; omega) (by unfold wrap64; omega)]
    generalize x * y = p
    generalize zDC xs ys = d
    unfold wrap64; omega
theorem zD6 : ∀ (r u v : List Int), u.length = v.length → zDC r (QR u v) = zDC r u + zDC r v
  | [], u, v, _ => by simp [zDC]
  | x :: xs, [], [], _ => by simp [zDC, QR]
  | x :: xs, [], _ :: _, h => by simp at h
  | x :: xs, _ :: _, [], h => by simp at h
  | x :: xs, a :: u, b :: v, h => by
    have ih := zD6 xs u v (by simpa using h)
    show x * (a + b) + zDC xs (QR u v) = (x * a + zDC xs u) + (x * b + zDC xs v)
    rw [ih, Int.mul_add]; omega
theorem zF4 (r u v : List Int) (hl : u.length = v.length) (hu : zCN r u 0 = 0) (hv : zCN r v 0 = 0) : zCN r (QR u v) 0 = 0 := by
  rw [zF3 _ _ _ (by omega) (by omega)] at hu hv ⊢
  rw [zD6 r u v hl]
  generalize zDC r u = a at *
  generalize zDC r v = b at *
  unfold wrap64 at *; omega
theorem zDX {R : List (List Int)} {u v : List Int} (hl : u.length = v.length) (hu : Qm R u = true) (hv : Qm R v = true) : Qm R (QR u v) = true := by
  unfold Qm at *
  rw [List.all_eq_true] at *
  intro r hr
  have h1 := of_decide_eq_true (hu r hr)
  have h2 := of_decide_eq_true (hv r hr)
  exact ygy (zF4 r u v hl h1 h2)
def zBX (v : List Int) : Bool := v.all fun x => decide (x ≤ 1000)
theorem zF5 {t : Tri} {u v : List Int} (h : Jb t u v = true) : Jy t (QR u v) = zBX (QR u v) := by
  unfold Jb at h
  by_cases h1 : adm t u = true
  case neg => rw [if_neg h1] at h; cases h
  rw [if_pos h1] at h
  by_cases h2 : adm t v = true
  case neg => rw [if_neg h2] at h; cases h
  obtain ⟨hc, hl, h7, hb, su, sv⟩ := zCY h1 h2
  obtain ⟨a1, a2, a3⟩ := Qs (zAz h1).2
  obtain ⟨b1, b2, b3⟩ := Qs (zAz h2).2
  have hp := Qi hl
  rw [Jp hc]
  unfold Qz
  rw [if_pos (by omega), zDX hl a3 b3]
  have e : (QR u v).all inR = zBX (QR u v) := by
    unfold zBX
    rw [Bool.eq_iff_iff, List.all_eq_true, List.all_eq_true]
    constructor
    · intro h x hx
      have := h x hx
      unfold inR at this; simp at this
      exact ygy this.2
    · intro h x hx
      have h9 := of_decide_eq_true (h x hx)
      have h8 := (Jq su sv x hx).1
      unfold inR
      simp [h8, h9]
  rw [e]
  cases zBX (QR u v) <;> rfl
theorem zF6 (v : List Int) : zZ.f v = some (!(zBX v)) := by
  unfold zZ.f qR.f zBX
  rw [zG9 (p := fun y => !(decide (y ≤ 1000))) v (fun y _ => by
    show qw.f y = _
    unfold qw.f
    by_cases hy : y ≤ 1000
    · simp [hy]
    · simp [hy]; omega), List.not_all_eq_any_not]
def zGH (t : Tri) (u v : List Int) : List Int × Int := if JA t = 0 then (if Jb t u v = true then (if zBX (QR u v) = true then (QR u v, 0) else ([], 3)) else ([], 5)) else ([], JA t)
theorem zAb {t : Tri} {u v : List Int} (h : Jb t u v = true) : JA t = 0 ∧ u.length = v.length ∧ u.length % 7 = 0 ∧ u.length ≤ 42 ∧ JE u ∧ JE v := by
  unfold Jb at h
  by_cases h1 : adm t u = true
  case neg => rw [if_neg h1] at h; cases h
  rw [if_pos h1] at h
  by_cases h2 : adm t v = true
  case neg => rw [if_neg h2] at h; cases h
  exact zCY h1 h2
theorem zDY (t : Tri) (u v : List Int) (hu : u.length ≤ 4398046511104) (hv : v.length ≤ 4398046511104) : Ev (fun k => Zt.f k t u v) (zGH t u v) := by
  refine Ev.bind (zAP t) ?_
  unfold zGH
  by_cases hc : JA t = 0
  · rw [if_pos hc]
    refine qk hc (Ev.bind (zBW t u v hu hv) ?_)
    by_cases h1 : Jb t u v = true
    · obtain ⟨_, hl, h7, hb, su, sv⟩ := zAb h1
      have hp := Qi hl
      rw [if_pos h1]
      refine qk h1 (Ev.bind (zAs u v hl (by omega) su sv) (Ev.bind (Jz t _ (by omega)) ?_))
      rw [zF5 h1]
      by_cases h2 : zBX (QR u v) = true
      · exact qk h2 (JG (if_pos h2).symm)
      · exact ZK h2 (JG (if_neg h2).symm)
    · rw [if_neg h1]; exact ZK h1 (Ev.now _)
  · rw [if_neg hc]; exact ZK hc (Ev.now _)
theorem zDZ {t : Tri} (hs : Small t) (u v : List Int) : Ev (fun k => Zc.f k t u v) (zGH t u v) := by
  refine Ev.bind (zCU hs) ?_
  unfold zGH
  by_cases hc : JA t = 0
  · rw [if_pos hc]
    refine qk hc (Ev.bind (zBM hc u v) ?_)
    by_cases h1 : Jb t u v = true
    · obtain ⟨_, hl, h7, hb, su, sv⟩ := zAb h1
      rw [if_pos h1]
      refine qk h1 (Ev.bind (zAu u v hl (by omega) su sv) (Ev.bind (Qr (zF6 _)) ?_))
      cases h2 : zBX (QR u v) with
      | true => exact ZK (by simp) (Ev.now _)
      | false => exact qk rfl (Ev.now _)
    · rw [if_neg h1]; exact ZK h1 (Ev.now _)
  · rw [if_neg hc]; exact ZK hc (Ev.now _)
theorem zEK (t : Tri) (u v : List Int) : (zGH t u v).1.length ≤ 42 := by
  unfold zGH
  by_cases hc : JA t = 0
  · rw [if_pos hc]
    by_cases h1 : Jb t u v = true
    · rw [if_pos h1]
      obtain ⟨_, hl, h7, hb, su, sv⟩ := zAb h1
      have hp := Qi hl
      by_cases h2 : zBX (QR u v) = true
      · rw [if_pos h2]; show (QR u v).length ≤ 42; omega
      · rw [if_neg h2]; exact Nat.zero_le _
    · rw [if_neg h1]; exact Nat.zero_le _
  · rw [if_neg hc]; exact Nat.zero_le _
def mkR (a : Int) : Nat → List zu
  | 0 => []
  | n + 1 => ⟨a, a + 1⟩ :: mkR (a + 2) n
theorem zAc (a : Int) (n : Nat) : (mkR a n).length = n := by
  induction n generalizing a with
  | zero => rfl
  | succ n ih => simp [mkR, ih]
theorem zFe (a : Int) (n : Nat) : mkR a (n + 1) = mkR a n ++ [⟨a + 2 * n, a + 2 * n + 1⟩] := by
  induction n generalizing a with
  | zero => simp [mkR]
  | succ n ih =>
    rw [mkR, ih (a + 2)]
    have e : a + 2 + 2 * (n : Int) = a + 2 * ((n + 1 : Nat) : Int) := by omega
    rw [e]; rfl
theorem mk_set (l : List zu) (a : Int) (n : Nat) (h : n < l.length) : (mkR a n ++ l.drop n).set n ⟨a + 2 * n, a + 2 * n + 1⟩ = mkR a (n + 1) ++ l.drop (n + 1) := by
  rw [List.set_append_right _ _ (by rw [zAc]; exact yqy _), zAc, Nat.sub_self, yoy h, yby, zFe, List.append_assoc]
  rfl
theorem zDa (l : List zu) (n : Nat) (v : zu) (h : n < l.length) : zG (l.set n v) (n : Int) = v := by
  rw [zAY _ n (by rw [List.length_set]; exact h), List.getElem_set_self]
theorem zD7 (l : List zu) (a : Int) (h : l.length ≤ 1099511627776) (h0 : 0 ≤ a) (h1 : a ≤ 4398046511104) : Ev (fun k => qe.f k l a) (a + 2 * l.length, mkR a l.length) := by
  have hl : Ev (fun k => qe.l0 k l a 0) (a + 2 * l.length, mkR a l.length) := by
    refine Qq (fun k (s : List zu × Int × Int) => qe.l0 k s.1 s.2.1 s.2.2) (fun s => ∃ n : Nat, n ≤ l.length ∧ s.2.2 = n ∧ s.2.1 = a + 2 * n ∧ s.1 = mkR a n ++ l.drop n) (fun s => l.length - s.2.2.toNat) (fun _ => (a + 2 * l.length, mkR a l.length)) ?_ (l, a, 0) ⟨0, by omega, rfl, by simp, by simp [mkR]⟩
    rintro ⟨x, b, i⟩ ⟨n, hn, rfl, rfl, rfl⟩
    dsimp only
    have hlen : (mkR a n ++ l.drop n).length = l.length := by simp [zAc]; omega
    by_cases hlt : n < l.length
    · refine .inr ⟨(mkR a (n + 1) ++ l.drop (n + 1), a + 2 * ((n + 1 : Nat) : Int), ((n + 1 : Nat) : Int)), ⟨n + 1, by omega, rfl, rfl, rfl⟩, by simp; omega, rfl, fun k => ?_⟩
      simp only [qe.l0]
      rw [if_pos (by rw [hlen]; omega), if_pos (by omega), yfy, yny, zDa _ n _ (by rw [hlen]; exact hlt), List.set_set, qx (x := a + 2 * (n : Int) + 1) (by omega) (by omega), mk_set l a n hlt, ZJ (by omega), qx (by omega) (by omega)]
      congr 1; omega
    · obtain rfl : n = l.length := by omega
      refine .inl fun k => ?_
      simp only [qe.l0]
      rw [if_neg (by rw [hlen]; omega)]
      simp
  exact hl
def zEN : Tri → Nat
  | [] => 0
  | r :: rs => 2 * r.length + zEN rs
def mkT (a : Int) : Tri → Tri
  | [] => []
  | r :: rs => mkR a r.length :: mkT (a + 2 * r.length) rs
theorem zF7 (t : Tri) (h : ∀ r ∈ t, r.length ≤ 1048576) : zEN t ≤ 2097152 * t.length := by
  induction t with
  | nil => simp [zEN]
  | cons r rs ih =>
    have h1 := h r (List.mem_cons_self ..)
    have h2 := ih (fun x hx => h x (List.mem_cons_of_mem _ hx))
    simp only [zEN, List.length_cons]; omega
theorem zD8 : ∀ (suf : Tri) (pre : Tri) (a : Int), (∀ r ∈ suf, r.length ≤ 1048576) → 0 ≤ a → a + zEN suf ≤ 4398046511104 → Ev (fun k => qy.go k suf.length (pre ++ suf) a pre.length) (a + zEN suf, pre ++ mkT a suf)
  | [], pre, a, _, h0, h1 => zCz fun k => by simp [qy.go, zEN, mkT]
  | r :: rs, pre, a, hr, h0, h1 => by
    simp only [zEN] at h1
    have hm := zD7 r a (by have := hr r (List.mem_cons_self ..); omega) h0 (by omega)
    have ih := zD8 rs (pre ++ [mkR a r.length]) (a + 2 * r.length) (fun x hx => hr x (List.mem_cons_of_mem _ hx)) (by omega) (by omega)
    simp only [List.length_cons, qy.go]
    have e0 : List.getD (pre ++ r :: rs) pre.length [] = r := by simp
    rw [e0]
    refine Ev.bind hm ?_
    dsimp only
    have e1 : (pre ++ r :: rs).set pre.length (mkR a r.length) = pre ++ [mkR a r.length] ++ rs := by
      rw [List.set_append_right _ _ (yqy _), Nat.sub_self, yby]; simp
    rw [e1]
    have e2 : pre.length + 1 = (pre ++ [mkR a r.length]).length := by simp
    rw [e2]
    have e3 : (a + ((zEN (r :: rs) : Nat) : Int), pre ++ mkT a (r :: rs)) = (a + 2 * r.length + (zEN rs : Int), pre ++ [mkR a r.length] ++ mkT (a + 2 * r.length) rs) := by
      simp only [zEN, mkT, List.append_assoc, List.singleton_append]; congr 1; omega
    rw [e3]
    exact ih
theorem Ju (t : Tri) (a : Int) (hs : Small t) (h0 : 0 ≤ a) (h1 : a ≤ 1048576) : Ev (fun k => Zb.f k t a) (a + zEN t, mkT a t) := by
  have := zD8 t [] a hs.2 h0 (by have := zF7 t hs.2; have := hs.1; omega)
  rw [List.nil_append, List.nil_append] at this
  exact this
end Go.Proofs.Ythjpdljdodalaaa.P
namespace Go.Proofs.Ythjpdljdodalaaa.Pure
open Go.RowKit Go.Proofs.Ythjpdljdodalaaa.P Go.Proofs.Ythjpdljdodalaaa.Lib Go.Proofs.YthjpdljdodalaaaW.PrintWords
theorem zA6 (l : List (List qV)) (x y : List Int) (h : Fits l) (hx : x.length ≤ 9223372036854775807) (hy : y.length ≤ 9223372036854775807) : ∃ k, ZQ.f k l x y = some true := by
  refine Ev.rounds ?_
  by_cases hx1 : (x.length : Int) > 1048576
  · exact qk hx1 (Ev.now true)
  refine ZK hx1 ?_
  by_cases hy1 : (y.length : Int) > 1048576
  · exact qk hy1 (Ev.now true)
  refine ZK hy1 ?_
  obtain ⟨r, hr, hs⟩ := zAL l h
  refine Ev.bind hr ?_
  by_cases hn : r < 0
  · exact qk hn (Ev.now true)
  have hsm := hs hn
  have hto := zAM l hsm
  have htx := zBG x (by omega)
  have hty := zBG y (by omega)
  have hS := zEu hsm
  have hcnt := zF7 (cvT l) hS.2
  have hc1 := hS.1
  have ho := zEK (cvT l) x y
  have hsp := zDY (cvT l) x y (by omega) (by omega)
  have him := zDZ hS x y
  generalize zGH (cvT l) x y = o at *
  have heq := zA5 o.1 (by omega)
  have hh := zCW 1 o.1.length (by omega) (by omega) (by omega)
  have hex := zA5 x (by omega)
  have hey := zA5 y (by omega)
  refine ZK hn ?_
  refine Ev.bind hto ?_
  refine Ev.bind htx ?_
  refine Ev.bind hty ?_
  refine Ev.bind hsp ?_
  refine Ev.bind hto ?_
  refine Ev.bind htx ?_
  refine Ev.bind hty ?_
  refine Ev.bind him ?_
  refine Ev.bind heq (qk rfl (qk rfl ?_))
  refine Ev.bind hto ?_
  refine Ev.bind (zAN _ hS) (qk rfl ?_)
  refine Ev.bind htx ?_
  refine Ev.bind hex (qk rfl ?_)
  refine Ev.bind hty ?_
  refine Ev.bind hey (qk rfl ?_)
  refine Ev.bind (Ju _ 1 hS (by omega) (by omega)) ?_
  refine Ev.bind (JV x _ (by omega) (by dsimp only; omega) (by dsimp only; omega)) ?_
  refine Ev.bind (JV y _ (by omega) (by dsimp only; omega) (by dsimp only; omega)) ?_
  refine ZK (by dsimp only; omega) ?_
  refine Ev.bind heq (qk rfl (qk rfl ?_))
  refine Ev.bind (JV _ 1 (by omega) (by omega) (by omega)) ?_
  refine Ev.bind hh ?_
  refine ZK (by omega) (qk rfl ?_)
  refine Ev.bind hto ?_
  refine Ev.bind htx ?_
  refine Ev.bind hty ?_
  refine Ev.bind him ?_
  refine Ev.bind heq (qk rfl (qk rfl ?_))
  refine Ev.bind hh ?_
  exact ZK (by omega) (qk rfl (Ev.now true))
end Go.Proofs.Ythjpdljdodalaaa.Pure
namespace Go.Proofs.Ythjpdljdodalaaa.Lib
open Go.RowKit Go.Proofs.YthjpdljdodalaaaW.PrintWords Go.Joins Go.Deep Go.WideShapes Go.ChangeShapes
set_option linter.unusedVariables false
def zEL (P : Program) (t : TypeId) {α : Type} (d : Kd α) : Prop := ∀ (H : Type) (enc : TypeId × Value → H) (w : World) (base : Nat) (spare : Nat → Bool) (held : Bool) (fuel : Nat) (cs : List Value) (x : DataW H × List MemPlace),
  DataW.trod enc P w base spare held fuel t cs = some x → ∃ y, d.K w y cs
theorem zD9 {P : Program} {t : TypeId} {k : IntKind} (ht : P.underlying t = some (.int k)) : zEL P t (Kd.int k) := by
  intro H enc w base spare held fuel cs x h
  obtain ⟨n, rfl, _, _⟩ := DataW.trod_int ht h
  exact ⟨n, rfl⟩
theorem zDA {α : Type} {R : Nat → α → Prop} : ∀ n, (∀ i, i < n → ∃ y, R i y) → ∃ ys : List α, ys.length = n ∧ ∀ j p, ys[j]? = some p → R j p
  | 0, _ => ⟨[], rfl, fun j p h => by simp at h⟩
  | n + 1, h => by
    obtain ⟨ys, hl, hr⟩ := zDA n (fun i hi => h i (by omega))
    obtain ⟨y, hy⟩ := h n (by omega)
    refine ⟨ys ++ [y], by simp [hl], fun j p hj => ?_⟩
    by_cases hlt : j < n
    · rw [List.getElem?_append_left (by omega)] at hj
      exact hr j p hj
    · have hjn : j < (ys ++ [y]).length := (List.getElem?_eq_some_iff.1 hj).1
      have : j = n := by simp [hl] at hjn; omega
      subst this
      rw [List.getElem?_append_right (by omega), hl, Nat.sub_self] at hj
      injection hj with hj
      rw [← hj]
      exact hy
theorem JX {P : Program} {t e : TypeId} {α : Type} {d : Kd α} (ht : P.underlying t = some (.slice e)) (hc : P.cellsOf e = d.sz) (h : zEL P e d) : zEL P t (Kd.slice e d) := by
  intro H enc w base spare held fuel cs x hx
  rcases open_slice ht hx with ⟨rfl, _⟩ | ⟨a, len, cap, m, n, D, Pl, rfl, hb, hl, hm, hmm, _, hi⟩
  · exact ⟨[], none, 0, rfl, yqy _, Kd.C_nil d w⟩
  · have each : ∀ i, i < len → ∃ y, ∃ cs', w.cells? base (a.add (i * d.sz)) d.sz = some cs' ∧ d.K w y cs' := by
      intro i hil
      have him : i < m := by rw [hmm]; split <;> omega
      obtain ⟨cs', h1, h2⟩ := hi i him
      obtain ⟨y, hy⟩ := h H enc w base spare held n cs' _ h2
      rw [hc] at h1
      exact ⟨y, cs', h1, hy⟩
    obtain ⟨ys, hlen, hys⟩ := zDA len each
    refine ⟨ys, some a, cap, by rw [hlen], by omega, rfl, ?_, fun _ => ⟨a, rfl, fun j p hj => ?_⟩⟩
    · unfold maxLen at hm; omega
    · obtain ⟨cs', h1, h2⟩ := hys j p hj
      obtain ⟨_, h3, h4⟩ := World.cells?_some h1
      refine ⟨cs', h3, h2, fun i u hu => ?_⟩
      have hil : i < d.sz := by rw [← h3]; exact (List.getElem?_eq_some_iff.1 hu).1
      rw [← hu, ← h4 i hil, Go.Deep.add_add]
theorem zCZ {P : Program} {t : TypeId} {f0 f1 : Field} {α : Type} (hs : P.underlying t = some (.struct #[f0, f1])) (hone : oneCellFields P #[f0, f1] = true) (hC : P.cellsOf t = 2)
    (h0 : P.underlying f0.type = some (.int .i64)) (h1 : P.underlying f1.type = some (.int .i64)) (d : Kd α) (mk : Int → Int → α) (hK : ∀ w a b, d.K w (mk a b) [.int .i64 a, .int .i64 b]) : zEL P t d := by
  intro H enc w base spare held fuel cs x h
  obtain ⟨y0, y1, n, hx, hl, g0, g1⟩ := trod_struct2 hs h
  obtain ⟨o0, k0⟩ := hone_of hone 0 f0 rfl
  obtain ⟨o1, k1⟩ := hone_of hone 1 f1 rfl
  rw [hC] at hl
  match cs, hl with
  | [c0, c1], _ =>
    rw [o0, k0] at g0
    rw [o1, k1] at g1
    obtain ⟨a, e0, _, _⟩ := DataW.trod_int h0 g0
    obtain ⟨b, e1, _, _⟩ := DataW.trod_int h1 g1
    simp at e0 e1
    subst e0 e1
    exact ⟨mk a b, hK w a b⟩
section
variable {H : Type} {enc : TypeId × Value → H} {P : Program} {w : World} {base : Nat} {spare : Nat → Bool} {held : Bool}
theorem array1 {α : Type} {cs : Array α} (h : cs.size = 1) : ∃ c0, cs = #[c0] := by
  obtain ⟨l⟩ := cs
  match l, h with
  | [c0], _ => exact ⟨c0, rfl⟩
theorem zDu {r : Reach} {b0 : Nat} {t e : TypeId} {α : Type} {d : Kd α} {v : Value} {D : DataW H} {p : List MemPlace} (hu : P.underlying t = some (.slice e)) (ho : zEL P t (Kd.slice e d)) (hv : Value.okWide P w r b0 t v) (h : DataW.Trod enc P w base spare held t v D p) :
    ∃ (A : Option Addr) (c : Nat) (l : List α), v = .slice A l.length c ∧ l.length ≤ c ∧ d.C w A l.length l := by
  obtain ⟨a0, len, cap, rfl⟩ := okWide_slice hu hv
  obtain ⟨fuel, hf⟩ := h
  obtain ⟨l, A, c, e1, hl, hC⟩ := ho H enc w base spare held fuel _ _ hf
  simp [Value.cells] at e1
  obtain ⟨rfl, rfl, rfl⟩ := e1
  exact ⟨_, _, l, rfl, hl, hC⟩
theorem zF8 {r : Reach} {b0 : Nat} {t e : TypeId} {f0 : Field} {α : Type} {d : Kd α} {v : Value} {D : DataW H} {p : List MemPlace} (hs : P.underlying t = some (.struct #[f0])) (hone : oneCellFields P #[f0] = true) (hC : P.cellsOf t = 1)
    (ho : zEL P f0.type (Kd.slice e d)) (hv : Value.okWide P w r b0 t v) (h : DataW.Trod enc P w base spare held t v D p) :
    ∃ (A : Option Addr) (c : Nat) (l : List α), v = .agg #[.slice A l.length c] ∧ l.length ≤ c ∧ d.C w A l.length l := by
  obtain ⟨cs, rfl, hsz⟩ := okWide_struct hs hv
  obtain ⟨c0, rfl⟩ := array1 (hsz.trans hC)
  obtain ⟨fuel, hf⟩ := h
  obtain ⟨y0, n, hx, _, h0⟩ := trod_struct1 hs hf
  obtain ⟨o0, k0⟩ := hone_of hone 0 f0 rfl
  have h0' : DataW.trod enc P w base spare held n f0.type [c0] = some y0 := by simpa [Value.cells, o0, k0] using h0
  obtain ⟨l, A, c, e1, hl, hCC⟩ := ho H enc w base spare held n _ _ h0'
  simp at e1
  subst e1
  exact ⟨A, c, l, rfl, hl, hCC⟩
end
theorem zF9 {e : Nat} {α : Type} {d : Kd α} {w : World} {A : Option Addr} {l : List (List α)} (h : (Kd.slice e d).C w A l.length l) : l.length ≤ 9223372036854775807 ∧ ∀ r ∈ l, r.length ≤ 9223372036854775807 := by
  refine ⟨h.2.1, fun r hr => ?_⟩
  obtain ⟨j, hj, rfl⟩ := List.mem_iff_getElem.1 hr
  obtain ⟨ad, _, hc⟩ := h.2.2 (by omega)
  obtain ⟨c, _, hK, _⟩ := hc j _ (List.getElem?_eq_getElem hj)
  obtain ⟨A', c', _, _, hC⟩ := hK
  exact hC.2.1
end Go.Proofs.Ythjpdljdodalaaa.Lib
namespace Go.Proofs.Ythjpdljdodalaaa.fnExactSumOfVectors
open Go.ChangeShapes Go.WideShapes Go.ChangeAt Go.RowKit Go.Proofs.Ythjpdljdodalaaa.Lib Go.Proofs.YthjpdljdodalaaaW.PrintWords Go.Proofs.Ythjpdljdodalaaa.P
open Go.ChangeMaps (open_string shut_string)
set_option linter.unusedVariables false
theorem own : ownKnob Try.prog.godebug = none := by kernel_rfl
theorem laidOut : laidOutB Try.prog = true := by kernel_rfl
set_option maxRecDepth 100000 in
theorem lifted (os : Os) (started : os.Started) (H : Type) (enc : TypeId × Value → H) :
    ReturnsInHanded {} Try.checked os 11 .any (Rows.fnExactSumOfVectorsSpec.pre6 enc Try.prog Try.f11 Rows.fnExactSumOfVectorsRow.domain false) (Rows.fnExactSumOfVectorsSpec.post enc Try.prog Try.f11 false true false false) := by
  refine returnsInHanded_of_change_sized (C := Try.checked) own started (by kernel_rfl) Try.func11
    (ChangeSpec.witness6 (enc := enc) (C := Try.checked) false ⟨#[], #[.agg #[.slice none 0 0], .slice none 0 0, .slice none 0 0], []⟩ 8 (by kernel_rfl) (by kernel_rfl) (by kernel_rfl) (by kernel_rfl)) ?_
  intro W base args ds gs before hval0 hW hcnd hsz0 _
  have hval : ∀ (j : Nat) t v, Try.f11.params[j]? = some t → args[j]? = some v → Value.okWide Try.prog W .any base t v := hval0
  have hW' := hW
  obtain ⟨p, q, hA0, hV, rfl, hfz, hnd⟩ := hW
  have hA : DataW.TrodAll enc Try.prog W 0 (fun _ => true) true Try.f11.params.toList args.toList ds p := hA0
  rw [Try.params11] at hA hval
  obtain ⟨v0, vs0, d0, ds0, p0, q0, hargs, rfl, rfl, h0, r0⟩ := trodAll_cons hA
  obtain ⟨v1, vs1, d1, ds1, p1, q1, rfl, rfl, rfl, h1, r1⟩ := trodAll_cons r0
  obtain ⟨v2, vs2, d2, ds2, p2, q2, rfl, rfl, rfl, h2, r2⟩ := trodAll_cons r1
  obtain ⟨rfl, rfl, rfl⟩ := trodAll_nil r2
  obtain rfl : args = #[v0, v1, v2] := by cases args; simp_all
  obtain ⟨rfl, rfl⟩ := trodVars_none hV
  have k0 := h0
  have lt0 : ∀ x ∈ p0, x.block < W.heap.size := by obtain ⟨m, hm⟩ := k0; exact DataW.trod_lt m _ _ _ hm
  obtain ⟨A0, c0, l0, rfl, hl0, hC0⟩ := zF8 Try.underlying24 (by kernel_rfl) (by kernel_rfl) (JX Try.underlying22 (by kernel_rfl) (JX Try.underlying103 (by kernel_rfl) (zCZ Try.underlying136 (by kernel_rfl) (by kernel_rfl) Try.underlying2 Try.underlying2 QK (fun a b => (⟨a, b⟩ : qV)) (fun w a b => zDJ w ⟨a, b⟩)))) (hval 0 24 v0 rfl rfl) h0
  have k1 := h1
  have lt1 : ∀ x ∈ p1, x.block < W.heap.size := by obtain ⟨m, hm⟩ := k1; exact DataW.trod_lt m _ _ _ hm
  obtain ⟨A1, c1, l1, rfl, hl1, hC1⟩ := zDu Try.underlying25 (JX Try.underlying25 (by kernel_rfl) (zD9 Try.underlying2)) (hval 1 25 v1 rfl rfl) h1
  have k2 := h2
  have lt2 : ∀ x ∈ p2, x.block < W.heap.size := by obtain ⟨m, hm⟩ := k2; exact DataW.trod_lt m _ _ _ hm
  obtain ⟨A2, c2, l2, rfl, hl2, hC2⟩ := zDu Try.underlying25 (JX Try.underlying25 (by kernel_rfl) (zD9 Try.underlying2)) (hval 2 25 v2 rfl rfl) h2
  obtain ⟨k, hk⟩ := Pure.zA6 l0 l1 l2 (zF9 hC0) hC1.2.1 hC2.2.1
  refine (ZQ.calls k _ _ l0 _ _ l1 _ _ l2 W hC0 hl0 hC1 hl1 hC2 hl2 hk).mono fun e W' ⟨he, bel⟩ => ?_
  subst he
  exact ⟨_, rfl, _, _, _, [], _, [], hW', trodAll_mk1 (shut_bool Try.underlying4 _), (trodAll_cons_mk (Below.trod laidOut (by kernel_rfl) (of_decide_eq_true (by kernel_rfl)) k0 bel lt0) (trodAll_cons_mk (Below.trod laidOut (by kernel_rfl) (of_decide_eq_true (by kernel_rfl)) k1 bel lt1) (trodAll_cons_mk (Below.trod laidOut (by kernel_rfl) (of_decide_eq_true (by kernel_rfl)) k2 bel lt2) trodAll_mk0))), rfl, bel.frame _, fun h => by cases h⟩
theorem over : Rows.fnExactSumOfVectorsRow.holds Try.pinned (OpenSpec.ofChange Rows.fnExactSumOfVectorsSpec) :=
  OpenClaim.holds_of_wide 11 Try.f11 rfl rfl rfl rfl rfl rfl rfl ⟨rfl, rfl, rfl, rfl, rfl⟩ rfl rfl rfl rfl rfl (by kernel_rfl) Try.func11 (by kernel_rfl)
    (of_decide_eq_true (by kernel_rfl)) (by unfold Func.isWrapper; first | (rw [if_pos (by decide +kernel)]; kernel_rfl) | (rw [if_neg (by decide +kernel)]; exact ⟨rfl, rfl⟩))
    (fun os started H enc _ => lifted os started H enc)
theorem proved : Rows.FnExactSumOfVectorsSaid := over
#print axioms proved
end Go.Proofs.Ythjpdljdodalaaa.fnExactSumOfVectors
namespace Go.Proofs.Ythjpdljdodalaaa
theorem fnExactSumOfVectors_holds : Rows.FnExactSumOfVectorsSaid := fnExactSumOfVectors.proved
end Go.Proofs.Ythjpdljdodalaaa
