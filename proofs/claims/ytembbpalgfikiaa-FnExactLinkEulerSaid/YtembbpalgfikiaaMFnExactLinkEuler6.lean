/- The statement FnExactLinkEulerSaid, proved: part 6 of 8 (texts of this session and of the kit's print, put together and cut to what is used by a program of it). -/
import Derived.Test.YtembbpalgfikiaaMFnExactLinkEuler5
namespace Go.Proofs.Ytembbpalgfikiaa.P
open Go.RowKit Go.Proofs.YtembbpalgfikiaaW.PrintWords Go.Proofs.YtembbpalgfikiaaW.PrintLast Go.Proofs.YtembbpalgfikiaaW.PrintMore
attribute [local go_sem] JH JI Ju Jv Ql Qm JJ JK
set_option linter.unusedVariables false
set_option linter.unusedSimpArgs false
mutual
def zm.l0 : Nat → Int → List (List Int) → Int → List (List Int) → List (List Int) → List (List Int) → Option ((List (List Int)))
 | 0, _, _, _, _, _, _ => none
 | k + 1, x1, x7, x8, x115000, x115001, x115002 => if x8 < (x115000.length : Int) then (zm.l1 k x1 x7 x8 0 x115000 x115001 x115002) else (some x7)
def zm.l1 : Nat → Int → List (List Int) → Int → Int → List (List Int) → List (List Int) → List (List Int) → Option ((List (List Int)))
 | 0, _, _, _, _, _, _, _ => none
 | k + 1, x1, x7, x8, x9, x115000, x115001, x115002 => if x9 < 4 then (if 0 ≤ x8 then (if x8 < (x115000.length : Int) then (if 0 ≤ x9 then (if x9 < ((qf x115000 x8).length : Int) then (if (rd (qf x115000 x8) x9) = x1 then (if x7.length < 5864062014805 then (zm.l1 k x1 (x7 ++ [(([x8, x9] : List Int))]) x8 (wrap64 (x9 + 1)) x115000 x115001 x115002) else (none)) else (zm.l1 k x1 x7 x8 (wrap64 (x9 + 1)) x115000 x115001 x115002)) else (none)) else (none)) else (none)) else (none)) else (zm.l0 k x1 x7 (wrap64 (x8 + 1)) x115000 x115001 x115002)
end
def zm.f (k : Nat) (l0_0 : List (List (zw))) (a1 : Int) : Option ((List (List Int))) := (zQ.f k l0_0).bind fun bt102 => (zm.l0 k a1 (([] : List (List Int))) 0 bt102.1 bt102.2.1 bt102.2.2.1)
set_option maxHeartbeats 8000000 in
set_option maxRecDepth 100000 in
theorem zm.calls (k : Nat) (A0_0 : Option Addr) (c0_0 : Nat) (l0_0 : List (List (zw))) (a1 : Int) (r : List (List Int)) (w : World) (hr0_0 : Kd.C (Kd.slice 75 ZV) w A0_0 l0_0.length l0_0) (hc0_0 : l0_0.length ≤ c0_0) (h : zm.f k l0_0 a1 = some r) :
 Calls Try.prog 48 #[.agg #[.slice A0_0 l0_0.length c0_0], .int .i64 a1] w fun e w' => ∃ v0_ : Value, e = .returned (v0_) ∧ Kd.S (Kd.slice 2 (Kd.int .i64)) 22 w' w.heap.size (fun _ => True) v0_ r ∧ Below w.heap.size w w' := by
 have hu35 := Try.underlying35
 have hu88 := Try.underlying88
 have HR0_0 := zA.mk hr0_0
 have HC0_0 := zA.mk hc0_0
 clear hr0_0 hc0_0
 have HB := zA.mk (ysy w.heap.size w)
 have H : ((zQ.f k l0_0).bind fun bt102 => (zm.l0 k a1 (([] : List (List Int))) 0 bt102.1 bt102.2.1 bt102.2.2.1)) = some r := h
 clear h
 replace H := ydy.mp H
 obtain ⟨⟨t102, t105, t108, t111⟩, A30, H⟩ := H
 replace H : (zm.l0 k a1 (([] : List (List Int))) 0 t102 t105 t108) = some r := H
 have A3 := zA.mk A30
 clear A30
 obtain ⟨y115, hy115⟩ : ∃ y_ : List (List Int), y_ = (([] : List (List Int))) := ⟨_, rfl⟩
 replace H : (zm.l0 k a1 y115 0 t102 t105 t108) = some r := by first | (rw [hy115]; with_reducible exact H) | (have H2_ := (yfy _ _).symm.trans H; rw [hy115]; with_reducible exact H2_) | (have H2_ := (yfy _ _).symm.trans H; with_reducible exact H2_) | with_reducible exact H | (rw [hy115]; exact H) | exact H
 have Ny115 := zA.mk hy115
 clear hy115
 have H' := zA.mk H
 clear H
 go_enter Try.func48, Try.ntmps48
 go_wp2_with (first | ((with_reducible refine zu (N := 2) rfl ?_); refine zy ?hg (N := 2) ?hd (cs := #[.slice A0_0 l0_0.length c0_0]) (t := 35) ?hr ?_; (case hd => rfl); (case hg => rfl); (case hr => first | (go_simp; done) | (go_simp; rfl)); intro gb101 hg w4 hbox hb; have n0_ := zA.mk (zM (by repeat (first | (with_reducible first | exact HB.out | apply zC | apply zB | apply zD) | exact HB.out)) hb); have n1_ := zA.mk (hbox); have n2_ := zA.mk ((by rw [hg]; exact (zP (by repeat (first | (with_reducible first | exact HB.out | apply zC | apply zB | apply zD) | exact HB.out))) : w.heap.size ≤ gb101)); have n3_ := zA.mk ((by rw [hg]; exact (zP (by repeat (first | (with_reducible first | exact HB.out | apply zC | apply zB | apply zD) | exact HB.out))) : w.heap.size ≤ gb101)); clear HB; have HB := n0_; have BK101 := n1_; have GW101 := n2_; have GE101 := n3_; clear n0_ n1_ n2_ n3_; clear hb hbox hg; have hcz5_0 : w4.cell? ⟨gb101, 0, none⟩ = some (.slice A0_0 l0_0.length c0_0) := (zL BK101.out 0).trans rfl; have hfz5_0 := zN BK101.out 0) | ((with_reducible refine zZ (f := 84) rfl ?_); refine qQ (some 12) rfl rfl Try.func84 (by kernel_rfl) rfl #[.agg #[.slice A0_0 l0_0.length c0_0]] rfl (by (try simp only [yiy, yjy, yky]); first | done | rfl | (simp only [yly, ymy]; rfl)) ?_; (with_reducible refine (zQ.calls k _ _ l0_0 t102 t105 t108 t111 _ ?side1 ?side2 A3.out).mono ?_); (case side1 => repeat (first | exact (Kd.qI HR0_0.out HB.out) | (with_reducible refine Kd.qD ?_ _) | (with_reducible refine Kd.qE ?_ _) | (with_reducible refine Kd.qN ?_))); (case side2 => exact HC0_0.out); rintro e w6 ⟨v103, v106, v109, v112, rfl, ho0, ho1, ho2, ho3, hb⟩; refine ⟨_, rfl, ?_⟩; have n0_ := zA.mk (Kd.QC ho0 (zP (by repeat (first | (with_reducible first | exact HB.out | apply zC | apply zB | apply zD | refine zF ?_ GE101.out) | exact HB.out)))); have n1_ := zA.mk (Kd.QC ho1 (zP (by repeat (first | (with_reducible first | exact HB.out | apply zC | apply zB | apply zD | refine zF ?_ GE101.out) | exact HB.out)))); have n2_ := zA.mk (Kd.QC ho2 (zP (by repeat (first | (with_reducible first | exact HB.out | apply zC | apply zB | apply zD | refine zF ?_ GE101.out) | exact HB.out)))); have n3_ := zA.mk (Kd.qp ho3 (zP (by repeat (first | (with_reducible first | exact HB.out | apply zC | apply zB | apply zD | refine zF ?_ GE101.out) | exact HB.out)))); have n4_ := zA.mk (zO (g := gb101) (o := .cells #[.slice A0_0 l0_0.length c0_0] 35 (0, 0)) (by (with_reducible repeat (first | refine zH ?_ _ | refine zJ ?_ | refine zG ?_ _)); exact BK101.out) hb); have n5_ := zA.mk (zM (by repeat (first | (with_reducible first | exact HB.out | apply zC | apply zB | apply zD | refine zF ?_ GE101.out) | exact HB.out)) hb); clear BK101; clear HB; have HO104 := n0_; have HO107 := n1_; have HO110 := n2_; have HO113 := n3_; have BK101 := n4_; have HB := n5_; clear n0_ n1_ n2_ n3_ n4_ n5_; (try clear hb); (try clear hb2); (try clear hk); (try clear hi); (try clear ho0); (try clear ho1); (try clear ho2); (try clear ho3)) | ((with_reducible refine zu (N := 5) rfl ?_); refine zy ?hg (N := 5) ?hd (cs := #[.slice none 0 0, .slice none 0 0, .slice none 0 0]) (t := 88) ?hr ?_; (case hd => rfl); (case hg => rfl); (case hr => first | (go_simp; done) | (go_simp; rfl)); intro gb114 hg w7 hbox hb; have n0_ := zA.mk (Kd.QR (by (with_reducible repeat (first | apply Kd.zj | apply Kd.zk | apply Kd.zz)); exact HO104.out) hb); have n1_ := zA.mk (Kd.QR (by (with_reducible repeat (first | apply Kd.zj | apply Kd.zk | apply Kd.zz)); exact HO107.out) hb); have n2_ := zA.mk (Kd.QR (by (with_reducible repeat (first | apply Kd.zj | apply Kd.zk | apply Kd.zz)); exact HO110.out) hb); have n3_ := zA.mk (Kd.qK (by (with_reducible repeat (first | apply Kd.zR | apply Kd.zS | apply Kd.zV)); exact HO113.out) hb); have n4_ := zA.mk (zO (g := gb101) (o := .cells #[.slice A0_0 l0_0.length c0_0] 35 (0, 0)) (by (with_reducible repeat (first | refine zH ?_ _ | refine zJ ?_ | refine zG ?_ _)); exact BK101.out) hb); have n5_ := zA.mk (zM (by repeat (first | (with_reducible first | exact HB.out | apply zC | apply zB | apply zD | refine zF ?_ GE101.out) | exact HB.out)) hb); have n6_ := zA.mk (hbox); have n7_ := zA.mk ((by rw [hg]; exact (zP (by repeat (first | (with_reducible first | exact HB.out | apply zC | apply zB | apply zD | refine zF ?_ GE101.out) | exact HB.out))) : w.heap.size ≤ gb114)); have n8_ := zA.mk ((by rw [hg]; exact (zP (by repeat (first | (with_reducible first | exact HB.out | apply zC | apply zB | apply zD | refine zF ?_ GE101.out) | exact HB.out))) : w.heap.size ≤ gb114)); have n9_ := zA.mk ((by rw [hg]; exact Nat.ne_of_lt (qP (g := gb101) (o := .cells #[.slice A0_0 l0_0.length c0_0] 35 (0, 0)) (by (with_reducible repeat (first | refine zH ?_ _ | refine zJ ?_ | refine zG ?_ _)); exact BK101.out)) : gb101 ≠ gb114)); have n10_ := zA.mk ((by rw [hg]; exact Nat.ne_of_gt (qP (g := gb101) (o := .cells #[.slice A0_0 l0_0.length c0_0] 35 (0, 0)) (by (with_reducible repeat (first | refine zH ?_ _ | refine zJ ?_ | refine zG ?_ _)); exact BK101.out)) : gb114 ≠ gb101)); clear HO104; clear HO107; clear HO110; clear HO113; clear BK101; clear HB; have HO104 := n0_; have HO107 := n1_; have HO110 := n2_; have HO113 := n3_; have BK101 := n4_; have HB := n5_; have BK114 := n6_; have GW114 := n7_; have GE114 := n8_; have NB101_114 := n9_; have NB114_101 := n10_; clear n0_ n1_ n2_ n3_ n4_ n5_ n6_ n7_ n8_ n9_ n10_; clear hb hbox hg; obtain ⟨Ao8, co8, eo8⟩ := Kd.QW HO104.out; subst eo8; have hnb9 := NB114_101.out; have hnc9 := NB101_114.out; have hcz10_0 : w7.cell? ⟨gb114, 0, none⟩ = some (.slice none 0 0) := (zL BK114.out 0).trans rfl; have hcz10_1 : w7.cell? ⟨gb114, 1, none⟩ = some (.slice none 0 0) := (zL BK114.out 1).trans rfl; have hcz10_2 : w7.cell? ⟨gb114, 2, none⟩ = some (.slice none 0 0) := (zL BK114.out 2).trans rfl; have hfz10_0 := zN BK114.out 0; have hfz10_1 := zN BK114.out 1; have hfz10_2 := zN BK114.out 2; obtain ⟨Ao11, co11, eo11⟩ := Kd.QW HO107.out; subst eo11; obtain ⟨Ao12, co12, eo12⟩ := Kd.QW HO110.out; subst eo12) | ((with_reducible refine zu (N := 15) rfl ?_); refine Kd.S_lit (Kd.slice 2 (Kd.int .i64)) _ 22 ?hg (N := 15) ?hd (xs := ([] : List (List Int))) (inner := []) (ok := fun _ => True) (okp := fun _ => True) ?hr ?hp (fun _ hk => hk) trivial (ysy _ _) (yry _) (by simp) ?_; (case hd => rfl); (case hg => rfl); (case hr => first | (go_simp; done) | (go_simp; rfl)); (case hp => exact (Zz.none _ _)); intro v116 w13 ho14 hb hg_ hnew_; clear hg_ hnew_; (first | rw [← Ny115.out] at ho14 | (simp only [Int.reduceToNat] at ho14; rw [← Ny115.out] at ho14)); have n0_ := zA.mk (Kd.Zl (by (with_reducible repeat (first | apply Kd.zj | apply Kd.zk | apply Kd.zz)); exact (Kd.qo (Kd.Zx (p := ⟨gb114, 2, none⟩) (Kd.Zx (p := ⟨gb114, 1, none⟩) (Kd.Zx (p := ⟨gb114, 0, none⟩) (Kd.Zp HO104.out BK114.out (by decide)) (fun _ hk => hk.2) (.slice Ao8 t102.length co8)) (fun _ hk => hk.2) (.slice Ao11 t105.length co11)) (fun _ hk => hk.2) (.slice Ao12 t108.length co12)) (fun _ h_ => h_.1))) (Kd.zAc ho14) hb); have n1_ := zA.mk (Kd.Zl (by (with_reducible repeat (first | apply Kd.zj | apply Kd.zk | apply Kd.zz)); exact (Kd.qo (Kd.Zx (p := ⟨gb114, 2, none⟩) (Kd.Zx (p := ⟨gb114, 1, none⟩) (Kd.Zx (p := ⟨gb114, 0, none⟩) (Kd.Zp HO107.out BK114.out (by decide)) (fun _ hk => hk.2) (.slice Ao8 t102.length co8)) (fun _ hk => hk.2) (.slice Ao11 t105.length co11)) (fun _ hk => hk.2) (.slice Ao12 t108.length co12)) (fun _ h_ => h_.1))) (Kd.zAc ho14) hb); have n2_ := zA.mk (Kd.Zl (by (with_reducible repeat (first | apply Kd.zj | apply Kd.zk | apply Kd.zz)); exact (Kd.qo (Kd.Zx (p := ⟨gb114, 2, none⟩) (Kd.Zx (p := ⟨gb114, 1, none⟩) (Kd.Zx (p := ⟨gb114, 0, none⟩) (Kd.Zp HO110.out BK114.out (by decide)) (fun _ hk => hk.2) (.slice Ao8 t102.length co8)) (fun _ hk => hk.2) (.slice Ao11 t105.length co11)) (fun _ hk => hk.2) (.slice Ao12 t108.length co12)) (fun _ h_ => h_.1))) (Kd.zAc ho14) hb); have n3_ := zA.mk (Kd.qK (by (with_reducible repeat (first | apply Kd.zR | apply Kd.zS | apply Kd.zV)); exact (Kd.zt (Kd.ZG (p := ⟨gb114, 2, none⟩) (Kd.ZG (p := ⟨gb114, 1, none⟩) (Kd.ZG (p := ⟨gb114, 0, none⟩) (Kd.ZN HO113.out BK114.out (by decide)) (fun _ hk => hk.2) (.slice Ao8 t102.length co8)) (fun _ hk => hk.2) (.slice Ao11 t105.length co11)) (fun _ hk => hk.2) (.slice Ao12 t108.length co12)) (fun _ h_ => h_.1))) hb); have n4_ := zA.mk (Kd.QC (Kd.QK (Kd.QK (Kd.QK (Kd.QK ho14 (Kd.zF5 (by (with_reducible repeat (first | apply Kd.zj | apply Kd.zk | apply Kd.zz)); exact (Kd.qo (Kd.Zx (p := ⟨gb114, 2, none⟩) (Kd.Zx (p := ⟨gb114, 1, none⟩) (Kd.Zx (p := ⟨gb114, 0, none⟩) (Kd.Zp HO104.out BK114.out (by decide)) (fun _ hk => hk.2) (.slice Ao8 t102.length co8)) (fun _ hk => hk.2) (.slice Ao11 t105.length co11)) (fun _ hk => hk.2) (.slice Ao12 t108.length co12)) (fun _ h_ => h_.1))))) (Kd.zF5 (by (with_reducible repeat (first | apply Kd.zj | apply Kd.zk | apply Kd.zz)); exact (Kd.qo (Kd.Zx (p := ⟨gb114, 2, none⟩) (Kd.Zx (p := ⟨gb114, 1, none⟩) (Kd.Zx (p := ⟨gb114, 0, none⟩) (Kd.Zp HO107.out BK114.out (by decide)) (fun _ hk => hk.2) (.slice Ao8 t102.length co8)) (fun _ hk => hk.2) (.slice Ao11 t105.length co11)) (fun _ hk => hk.2) (.slice Ao12 t108.length co12)) (fun _ h_ => h_.1))))) (Kd.zF5 (by (with_reducible repeat (first | apply Kd.zj | apply Kd.zk | apply Kd.zz)); exact (Kd.qo (Kd.Zx (p := ⟨gb114, 2, none⟩) (Kd.Zx (p := ⟨gb114, 1, none⟩) (Kd.Zx (p := ⟨gb114, 0, none⟩) (Kd.Zp HO110.out BK114.out (by decide)) (fun _ hk => hk.2) (.slice Ao8 t102.length co8)) (fun _ hk => hk.2) (.slice Ao11 t105.length co11)) (fun _ hk => hk.2) (.slice Ao12 t108.length co12)) (fun _ h_ => h_.1))))) (Kd.Qy (by (with_reducible repeat (first | apply Kd.zR | apply Kd.zS | apply Kd.zV)); exact (Kd.zt (Kd.ZG (p := ⟨gb114, 2, none⟩) (Kd.ZG (p := ⟨gb114, 1, none⟩) (Kd.ZG (p := ⟨gb114, 0, none⟩) (Kd.ZN HO113.out BK114.out (by decide)) (fun _ hk => hk.2) (.slice Ao8 t102.length co8)) (fun _ hk => hk.2) (.slice Ao11 t105.length co11)) (fun _ hk => hk.2) (.slice Ao12 t108.length co12)) (fun _ h_ => h_.1))))) (zP (by repeat (first | (with_reducible first | exact HB.out | apply zC | apply zB | apply zD | refine zF ?_ GE101.out | refine zF ?_ GE114.out) | exact HB.out)))); have n5_ := zA.mk (zO (g := gb101) (o := .cells #[.slice A0_0 l0_0.length c0_0] 35 (0, 0)) (by (with_reducible repeat (first | refine zH ?_ _ | refine zJ ?_ | refine zG ?_ _)); refine qM ?_ NB101_114.out _; (with_reducible repeat (first | refine zH ?_ _ | refine zJ ?_ | refine zG ?_ _)); refine qM ?_ NB101_114.out _; (with_reducible repeat (first | refine zH ?_ _ | refine zJ ?_ | refine zG ?_ _)); refine qM ?_ NB101_114.out _; (with_reducible repeat (first | refine zH ?_ _ | refine zJ ?_ | refine zG ?_ _)); exact BK101.out) hb); have n6_ := zA.mk (zO (g := gb114) (o := .cells #[.slice Ao8 t102.length co8, .slice Ao11 t105.length co11, .slice Ao12 t108.length co12] 88 (0, 0)) (by (with_reducible repeat (first | refine zH ?_ _ | refine zJ ?_ | refine zG ?_ _)); refine qZ (cs := #[.slice Ao8 t102.length co8, .slice Ao11 t105.length co11, .slice none 0 0]) ?_ 2 _ rfl; (with_reducible repeat (first | refine zH ?_ _ | refine zJ ?_ | refine zG ?_ _)); refine qZ (cs := #[.slice Ao8 t102.length co8, .slice none 0 0, .slice none 0 0]) ?_ 1 _ rfl; (with_reducible repeat (first | refine zH ?_ _ | refine zJ ?_ | refine zG ?_ _)); refine qZ (cs := #[.slice none 0 0, .slice none 0 0, .slice none 0 0]) ?_ 0 _ rfl; (with_reducible repeat (first | refine zH ?_ _ | refine zJ ?_ | refine zG ?_ _)); exact BK114.out) hb); have n7_ := zA.mk (zM (by repeat (first | (with_reducible first | exact HB.out | apply zC | apply zB | apply zD | refine zF ?_ GE101.out | refine zF ?_ GE114.out) | exact HB.out)) hb); clear HO104; clear HO107; clear HO110; clear HO113; clear BK101; clear BK114; clear HB; have HO104 := n0_; have HO107 := n1_; have HO110 := n2_; have HO113 := n3_; have HO117 := n4_; have BK101 := n5_; have BK114 := n6_; have HB := n7_; clear n0_ n1_ n2_ n3_ n4_ n5_ n6_ n7_; clear hb ho14))
 go_loopg [7, 8] k (fun kq v7 v8 w' => ∃ (x7_1 : List (List Int)) (x8_1 : Int), v8 = .int .i64 x8_1 ∧ zA (zm.l0 kq a1 x7_1 x8_1 t102 t105 t108 = some r) ∧ zA (kq ≤ k) ∧ zA (Kd.S (Kd.slice 2 (Kd.int .i64)) 22 w' w.heap.size (fun k_ => some k_ ≠ ((.slice Ao8 t102.length co8) : Value).ownBlock ∧ some k_ ≠ ((.slice Ao11 t105.length co11) : Value).ownBlock ∧ some k_ ≠ ((.slice Ao12 t108.length co12) : Value).ownBlock) v7 x7_1) ∧ zA (Kd.S (Kd.slice 2 (Kd.int .i64)) 22 w' w.heap.size (fun k_ => some k_ ≠ (v7 : Value).ownBlock ∧ some k_ ≠ ((.slice Ao11 t105.length co11) : Value).ownBlock ∧ some k_ ≠ ((.slice Ao12 t108.length co12) : Value).ownBlock) (.slice Ao8 t102.length co8) t102) ∧ zA (Kd.S (Kd.slice 2 (Kd.int .i64)) 22 w' w.heap.size (fun k_ => some k_ ≠ (v7 : Value).ownBlock ∧ some k_ ≠ ((.slice Ao8 t102.length co8) : Value).ownBlock ∧ some k_ ≠ ((.slice Ao12 t108.length co12) : Value).ownBlock) (.slice Ao11 t105.length co11) t105) ∧ zA (Kd.S (Kd.slice 2 (Kd.int .i64)) 22 w' w.heap.size (fun k_ => some k_ ≠ (v7 : Value).ownBlock ∧ some k_ ≠ ((.slice Ao8 t102.length co8) : Value).ownBlock ∧ some k_ ≠ ((.slice Ao11 t105.length co11) : Value).ownBlock) (.slice Ao12 t108.length co12) t108) ∧ zA (w'.heap[gb101]? = some (.cells #[(.slice A0_0 l0_0.length c0_0)] 35 (0, 0))) ∧ zA (w'.heap[gb114]? = some (.cells #[(.slice Ao8 t102.length co8), (.slice Ao11 t105.length co11), (.slice Ao12 t108.length co12)] 88 (0, 0))) ∧ zA (Below w.heap.size w w'))
 case atStart => exact ⟨(y115), (0), (by first | rfl | (simp; done) | (simp [*]; done)), H', ⟨yry _⟩, ⟨by (with_reducible repeat (first | apply Kd.zj | apply Kd.zk | apply Kd.zz)); exact Kd.qo HO117.out (fun _ hk => ⟨hk.1.1.1.2, ⟨hk.1.1.2, hk.1.2⟩⟩)⟩, ⟨by (with_reducible repeat (first | apply Kd.zj | apply Kd.zk | apply Kd.zz)); exact Kd.qo HO104.out (fun _ hk => ⟨hk.2, ⟨hk.1.1, hk.1.2.1⟩⟩)⟩, ⟨by (with_reducible repeat (first | apply Kd.zj | apply Kd.zk | apply Kd.zz)); exact Kd.qo HO107.out (fun _ hk => ⟨hk.2, ⟨hk.1.1, hk.1.2.1⟩⟩)⟩, ⟨by (with_reducible repeat (first | apply Kd.zj | apply Kd.zk | apply Kd.zz)); exact Kd.qo HO110.out (fun _ hk => ⟨hk.2, ⟨hk.1.1, hk.1.2.1⟩⟩)⟩, ⟨by (with_reducible repeat (first | refine zH ?_ _ | refine zJ ?_ | refine zG ?_ _)); exact BK101.out⟩, ⟨by (with_reducible repeat (first | refine zH ?_ _ | refine zJ ?_ | refine zG ?_ _)); exact BK114.out⟩, ⟨by repeat (first | (with_reducible first | exact HB.out | apply zC | apply zB | apply zD | refine zF ?_ GE101.out | refine zF ?_ GE114.out) | exact HB.out)⟩⟩
 case round =>
  clear H'
  try clear p2
  try clear c4
  try clear c8
  try clear c9
  try clear hcz10_0
  try clear hcz10_1
  try clear hcz10_2
  try clear hcz5_0
  try clear hfz10_0
  try clear hfz10_1
  try clear hfz10_2
  try clear hfz5_0
  obtain ⟨x7_1, x8_1, rfl, HA, HK1, HO_7, HO_115000, HO_115001, HO_115002, BK101, BK114, HB⟩ := hrel
  cases gk with
  | zero => exact absurd HA.out (by simp [zm.l0])
  | succ k1 =>
   have H := HA.out
   clear HA
   simp only [zm.l0] at H
   by_cases c15 : x8_1 < (t102.length : Int)
   rotate_left
   next =>
    rw [if_neg c15] at H
    have c15b0 : decide (x8_1 < (t102.length : Int)) = false := yhy c15
    clear c15
    obtain rfl := yey H
    have hnb33 := NB114_101.out
    have hnc33 := NB101_114.out
    have hcz34_0 : wr.cell? ⟨gb114, 0, none⟩ = some (.slice Ao8 t102.length co8) := (zL BK114.out 0).trans rfl
    have hcz34_1 : wr.cell? ⟨gb114, 1, none⟩ = some (.slice Ao11 t105.length co11) := (zL BK114.out 1).trans rfl
    have hcz34_2 : wr.cell? ⟨gb114, 2, none⟩ = some (.slice Ao12 t108.length co12) := (zL BK114.out 2).trans rfl
    have hfz34_0 := zN BK114.out 0
    have hfz34_1 := zN BK114.out 1
    have hfz34_2 := zN BK114.out 2
    go_wp2
    go_ret
    exact ⟨_, by first | rfl | (simp [zW, zX] <;> rfl) | (simp [*, zW, zX] <;> rfl), by (with_reducible repeat (first | apply Kd.zj | apply Kd.zk | apply Kd.zz)); exact Kd.qo HO_7.out (fun _ hk => trivial), by repeat (first | (with_reducible first | exact HB.out | apply zC | apply zB | apply zD | refine zF ?_ GE101.out | refine zF ?_ GE114.out) | exact HB.out)⟩
   rw [if_pos c15] at H
   have c15b0 : decide (x8_1 < (t102.length : Int)) = true := ygy c15
   clear c15
   have H' := zA.mk H
   clear H
   have hnb16 := NB114_101.out
   have hnc16 := NB101_114.out
   have hcz17_0 : wr.cell? ⟨gb114, 0, none⟩ = some (.slice Ao8 t102.length co8) := (zL BK114.out 0).trans rfl
   have hcz17_1 : wr.cell? ⟨gb114, 1, none⟩ = some (.slice Ao11 t105.length co11) := (zL BK114.out 1).trans rfl
   have hcz17_2 : wr.cell? ⟨gb114, 2, none⟩ = some (.slice Ao12 t108.length co12) := (zL BK114.out 2).trans rfl
   have hfz17_0 := zN BK114.out 0
   have hfz17_1 := zN BK114.out 1
   have hfz17_2 := zN BK114.out 2
   go_wp2
   go_loopg [7, 9] k1 (fun kq v7 v9 w' => ∃ (x7_2 : List (List Int)) (x9_2 : Int), v9 = .int .i64 x9_2 ∧ zA (zm.l1 kq a1 x7_2 x8_1 x9_2 t102 t105 t108 = some r) ∧ zA (kq ≤ k1) ∧ zA (Kd.S (Kd.slice 2 (Kd.int .i64)) 22 w' w.heap.size (fun k_ => some k_ ≠ ((.slice Ao8 t102.length co8) : Value).ownBlock ∧ some k_ ≠ ((.slice Ao11 t105.length co11) : Value).ownBlock ∧ some k_ ≠ ((.slice Ao12 t108.length co12) : Value).ownBlock) v7 x7_2) ∧ zA (Kd.S (Kd.slice 2 (Kd.int .i64)) 22 w' w.heap.size (fun k_ => some k_ ≠ (v7 : Value).ownBlock ∧ some k_ ≠ ((.slice Ao11 t105.length co11) : Value).ownBlock ∧ some k_ ≠ ((.slice Ao12 t108.length co12) : Value).ownBlock) (.slice Ao8 t102.length co8) t102) ∧ zA (Kd.S (Kd.slice 2 (Kd.int .i64)) 22 w' w.heap.size (fun k_ => some k_ ≠ (v7 : Value).ownBlock ∧ some k_ ≠ ((.slice Ao8 t102.length co8) : Value).ownBlock ∧ some k_ ≠ ((.slice Ao12 t108.length co12) : Value).ownBlock) (.slice Ao11 t105.length co11) t105) ∧ zA (Kd.S (Kd.slice 2 (Kd.int .i64)) 22 w' w.heap.size (fun k_ => some k_ ≠ (v7 : Value).ownBlock ∧ some k_ ≠ ((.slice Ao8 t102.length co8) : Value).ownBlock ∧ some k_ ≠ ((.slice Ao11 t105.length co11) : Value).ownBlock) (.slice Ao12 t108.length co12) t108) ∧ zA (w'.heap[gb101]? = some (.cells #[(.slice A0_0 l0_0.length c0_0)] 35 (0, 0))) ∧ zA (w'.heap[gb114]? = some (.cells #[(.slice Ao8 t102.length co8), (.slice Ao11 t105.length co11), (.slice Ao12 t108.length co12)] 88 (0, 0))) ∧ zA (Below w.heap.size w w'))
   case atStart => exact ⟨(x7_1), (0), (by first | rfl | (simp; done) | (simp [*]; done)), H', ⟨yry _⟩, ⟨by (with_reducible repeat (first | apply Kd.zj | apply Kd.zk | apply Kd.zz)); exact HO_7.out⟩, ⟨by (with_reducible repeat (first | apply Kd.zj | apply Kd.zk | apply Kd.zz)); exact HO_115000.out⟩, ⟨by (with_reducible repeat (first | apply Kd.zj | apply Kd.zk | apply Kd.zz)); exact HO_115001.out⟩, ⟨by (with_reducible repeat (first | apply Kd.zj | apply Kd.zk | apply Kd.zz)); exact HO_115002.out⟩, ⟨by (with_reducible repeat (first | refine zH ?_ _ | refine zJ ?_ | refine zG ?_ _)); exact BK101.out⟩, ⟨by (with_reducible repeat (first | refine zH ?_ _ | refine zJ ?_ | refine zG ?_ _)); exact BK114.out⟩, ⟨by repeat (first | (with_reducible first | exact HB.out | apply zC | apply zB | apply zD | refine zF ?_ GE101.out | refine zF ?_ GE114.out) | exact HB.out)⟩⟩
   case round =>
    clear H'
    try clear c1
    try clear p2
    try clear c4
    try clear c8
    try clear c9
    try clear c15
    try clear c15b0
    try clear c16
    try clear hcz10_0
    try clear hcz10_1
    try clear hcz10_2
    try clear hcz17_0
    try clear hcz17_1
    try clear hcz17_2
    try clear hcz5_0
    try clear hfz10_0
    try clear hfz10_1
    try clear hfz10_2
    try clear hfz17_0
    try clear hfz17_1
    try clear hfz17_2
    try clear hfz5_0
    try clear p2
    obtain ⟨x7_2, x9_2, rfl, HA, HK2, HO_7, HO_115000, HO_115001, HO_115002, BK101, BK114, HB⟩ := hrel
    cases gk with
    | zero => exact absurd HA.out (by simp [zm.l1])
    | succ k2 =>
     have H := HA.out
     clear HA
     simp only [zm.l1] at H
     by_cases c18 : x9_2 < 4
     rotate_left
     next =>
      rw [if_neg c18] at H
      have c18b0 : decide (x9_2 < 4) = false := yhy c18
      clear c18
      have H' := zA.mk H
      clear H
      go_wp2
      go_roundg k2
      case measure => have := HK1.out; have := HK2.out; omega
      case rel => exact ⟨(x7_2), (wrap64 (x8_1 + 1)), (by first | rfl | (simp; done) | (simp [*]; done)), H', ⟨by have := HK1.out; have := HK2.out; omega⟩, ⟨by (with_reducible repeat (first | apply Kd.zj | apply Kd.zk | apply Kd.zz)); exact HO_7.out⟩, ⟨by (with_reducible repeat (first | apply Kd.zj | apply Kd.zk | apply Kd.zz)); exact HO_115000.out⟩, ⟨by (with_reducible repeat (first | apply Kd.zj | apply Kd.zk | apply Kd.zz)); exact HO_115001.out⟩, ⟨by (with_reducible repeat (first | apply Kd.zj | apply Kd.zk | apply Kd.zz)); exact HO_115002.out⟩, ⟨by (with_reducible repeat (first | refine zH ?_ _ | refine zJ ?_ | refine zG ?_ _)); exact BK101.out⟩, ⟨by (with_reducible repeat (first | refine zH ?_ _ | refine zJ ?_ | refine zG ?_ _)); exact BK114.out⟩, ⟨by repeat (first | (with_reducible first | exact HB.out | apply zC | apply zB | apply zD | refine zF ?_ GE101.out | refine zF ?_ GE114.out) | exact HB.out)⟩⟩
     rw [if_pos c18] at H
     have c18b0 : decide (x9_2 < 4) = true := ygy c18
     clear c18
     by_cases c19 : 0 ≤ x8_1
     rotate_left
     next =>
      rw [if_neg c19] at H
      exact absurd H (by simp)
     rw [if_pos c19] at H
     have c19b0 : decide (0 ≤ x8_1) = true := ygy c19
     clear c19
     by_cases c20 : x8_1 < (t102.length : Int)
     rotate_left
     next =>
      rw [if_neg c20] at H
      exact absurd H (by simp)
     rw [if_pos c20] at H
     have c20b0 : decide (x8_1 < (t102.length : Int)) = true := ygy c20
     clear c20
     by_cases c21 : 0 ≤ x9_2
     rotate_left
     next =>
      rw [if_neg c21] at H
      exact absurd H (by simp)
     rw [if_pos c21] at H
     have c21b0 : decide (0 ≤ x9_2) = true := ygy c21
     clear c21
     by_cases c22 : x9_2 < ((qf t102 x8_1).length : Int)
     rotate_left
     next =>
      rw [if_neg c22] at H
      exact absurd H (by simp)
     rw [if_pos c22] at H
     have c22b0 : decide (x9_2 < ((qf t102 x8_1).length : Int)) = true := ygy c22
     clear c22
     by_cases c23 : (rd (qf t102 x8_1) x9_2) = a1
     rotate_left
     next =>
      rw [if_neg c23] at H
      have c23b0 : ((rd (qf t102 x8_1) x9_2) == a1) = false := beq_eq_false_iff_ne.mpr c23
      have c23b1 : ((rd (qf t102 x8_1) x9_2) != a1) = true := bne_iff_ne.mpr c23
      have H' := zA.mk H
      clear H
      have hnb31 := NB114_101.out
      have hnc31 := NB101_114.out
      have hcz32_0 : wr.cell? ⟨gb114, 0, none⟩ = some (.slice Ao8 t102.length co8) := (zL BK114.out 0).trans rfl
      have hcz32_1 : wr.cell? ⟨gb114, 1, none⟩ = some (.slice Ao11 t105.length co11) := (zL BK114.out 1).trans rfl
      have hcz32_2 : wr.cell? ⟨gb114, 2, none⟩ = some (.slice Ao12 t108.length co12) := (zL BK114.out 2).trans rfl
      have hfz32_0 := zN BK114.out 0
      have hfz32_1 := zN BK114.out 1
      have hfz32_2 := zN BK114.out 2
      have p118 : 0 ≤ (x8_1 : Int) := of_decide_eq_true (by first | (with_reducible assumption) | assumption)
      have q118 : x8_1 < (t102.length : Int) := of_decide_eq_true (by first | (with_reducible assumption) | assumption)
      obtain ⟨ad118, A118_0, c118_0, e118, hx118_0, hl118_0, hi118_0⟩ := zCU (Kd.ZO HO_115000.out).2.2 x8_1 p118 q118
      cases e118
      obtain ⟨ce118, hce118, hMe118, hcc118⟩ := Kd.S_get HO_115000.out [] x8_1 p118 (by first | exact q118 | exact of_decide_eq_true (by first | (with_reducible assumption) | assumption) | (have e_ := (Kd.ZO HO_115000.out).1; omega))
      obtain ⟨ve118_0, rfl, ge118_0⟩ := hMe118
      have hv118_0 := hcc118 0 _ rfl
      rw [Nat.add_zero, show ((Kd.slice 2 (Kd.int .i64))).sz = 1 from rfl, Nat.mul_one] at hv118_0
      replace hv118_0 := yey (hv118_0.symm.trans hx118_0)
      rw [hv118_0] at ge118_0
      have HL118_0 := zA.mk (show Kd.R (Kd.int .i64) 2 _ _ _ _ (qf t102 x8_1) from ge118_0)
      clear hv118_0 ge118_0
      clear hcc118 hce118
      have HR118_0 := zA.mk hi118_0
      have HC118_0 := zA.mk hl118_0
      clear hi118_0 hl118_0
      replace p118 := eq_true p118
      replace q118 := eq_true q118
      have p119 : 0 ≤ (x9_2 : Int) := of_decide_eq_true (by first | (with_reducible assumption) | assumption)
      have q119 : x9_2 < ((qf t102 x8_1).length : Int) := of_decide_eq_true (by first | (with_reducible assumption) | assumption)
      obtain ⟨ad119, e119, hx119_0⟩ := Kd.qz (by repeat (first | (with_reducible exact HR118_0.out) | (with_reducible refine Kd.qD ?_ _) | (with_reducible refine Kd.qE ?_ _) | (with_reducible refine Kd.qN ?_) | exact HR118_0.out)) x9_2 p119 q119
      cases e119
      replace p119 := eq_true p119
      replace q119 := eq_true q119
      go_wp2
      go_roundg k2
      case measure => have := HK1.out; have := HK2.out; omega
      case rel => exact ⟨(x7_2), (wrap64 (x9_2 + 1)), (by first | rfl | (simp; done) | (simp [*]; done)), H', ⟨by have := HK1.out; have := HK2.out; omega⟩, ⟨by (with_reducible repeat (first | apply Kd.zj | apply Kd.zk | apply Kd.zz)); exact HO_7.out⟩, ⟨by (with_reducible repeat (first | apply Kd.zj | apply Kd.zk | apply Kd.zz)); exact HO_115000.out⟩, ⟨by (with_reducible repeat (first | apply Kd.zj | apply Kd.zk | apply Kd.zz)); exact HO_115001.out⟩, ⟨by (with_reducible repeat (first | apply Kd.zj | apply Kd.zk | apply Kd.zz)); exact HO_115002.out⟩, ⟨by (with_reducible repeat (first | refine zH ?_ _ | refine zJ ?_ | refine zG ?_ _)); exact BK101.out⟩, ⟨by (with_reducible repeat (first | refine zH ?_ _ | refine zJ ?_ | refine zG ?_ _)); exact BK114.out⟩, ⟨by repeat (first | (with_reducible first | exact HB.out | apply zC | apply zB | apply zD | refine zF ?_ GE101.out | refine zF ?_ GE114.out) | exact HB.out)⟩⟩
     rw [if_pos c23] at H
     have c23b0 : ((rd (qf t102 x8_1) x9_2) == a1) = true := beq_iff_eq.mpr c23
     have c23b1 : ((rd (qf t102 x8_1) x9_2) != a1) = false := bne_eq_false_iff_eq.mpr c23
     clear c23
     obtain ⟨y120, hy120⟩ : ∃ y_ : List Int, y_ = (([x8_1, x9_2] : List Int)) := ⟨_, rfl⟩
     replace H : (if x7_2.length < 5864062014805 then (zm.l1 k2 a1 (x7_2 ++ [y120]) x8_1 (wrap64 (x9_2 + 1)) t102 t105 t108) else (none)) = some r := by first | (rw [hy120]; with_reducible exact H) | (have H2_ := (yfy _ _).symm.trans H; rw [hy120]; with_reducible exact H2_) | (have H2_ := (yfy _ _).symm.trans H; with_reducible exact H2_) | with_reducible exact H | (rw [hy120]; exact H) | exact H
     have Ny120 := zA.mk hy120
     clear hy120
     by_cases c24 : x7_2.length < 5864062014805
     rotate_left
     next =>
      rw [if_neg c24] at H
      exact absurd H (by simp)
     rw [if_pos c24] at H
     have LMc24 := zA.mk c24
     clear c24
     obtain ⟨y123, hy123⟩ : ∃ y_ : List (List Int), y_ = (x7_2 ++ [y120]) := ⟨_, rfl⟩
     replace H : (zm.l1 k2 a1 y123 x8_1 (wrap64 (x9_2 + 1)) t102 t105 t108) = some r := by first | (rw [hy123]; with_reducible exact H) | (have H2_ := (yfy _ _).symm.trans H; rw [hy123]; with_reducible exact H2_) | (have H2_ := (yfy _ _).symm.trans H; with_reducible exact H2_) | with_reducible exact H | (rw [hy123]; exact H) | exact H
     have Ny123 := zA.mk hy123
     clear hy123
     have H' := zA.mk H
     clear H
     have hnb25 := NB114_101.out
     have hnc25 := NB101_114.out
     have hcz26_0 : wr.cell? ⟨gb114, 0, none⟩ = some (.slice Ao8 t102.length co8) := (zL BK114.out 0).trans rfl
     have hcz26_1 : wr.cell? ⟨gb114, 1, none⟩ = some (.slice Ao11 t105.length co11) := (zL BK114.out 1).trans rfl
     have hcz26_2 : wr.cell? ⟨gb114, 2, none⟩ = some (.slice Ao12 t108.length co12) := (zL BK114.out 2).trans rfl
     have hfz26_0 := zN BK114.out 0
     have hfz26_1 := zN BK114.out 1
     have hfz26_2 := zN BK114.out 2
     have p118 : 0 ≤ (x8_1 : Int) := of_decide_eq_true (by first | (with_reducible assumption) | assumption)
     have q118 : x8_1 < (t102.length : Int) := of_decide_eq_true (by first | (with_reducible assumption) | assumption)
     obtain ⟨ad118, A118_0, c118_0, e118, hx118_0, hl118_0, hi118_0⟩ := zCU (Kd.ZO HO_115000.out).2.2 x8_1 p118 q118
     cases e118
     obtain ⟨ce118, hce118, hMe118, hcc118⟩ := Kd.S_get HO_115000.out [] x8_1 p118 (by first | exact q118 | exact of_decide_eq_true (by first | (with_reducible assumption) | assumption) | (have e_ := (Kd.ZO HO_115000.out).1; omega))
     obtain ⟨ve118_0, rfl, ge118_0⟩ := hMe118
     have hv118_0 := hcc118 0 _ rfl
     rw [Nat.add_zero, show ((Kd.slice 2 (Kd.int .i64))).sz = 1 from rfl, Nat.mul_one] at hv118_0
     replace hv118_0 := yey (hv118_0.symm.trans hx118_0)
     rw [hv118_0] at ge118_0
     have HL118_0 := zA.mk (show Kd.R (Kd.int .i64) 2 _ _ _ _ (qf t102 x8_1) from ge118_0)
     clear hv118_0 ge118_0
     clear hcc118 hce118
     have HR118_0 := zA.mk hi118_0
     have HC118_0 := zA.mk hl118_0
     clear hi118_0 hl118_0
     replace p118 := eq_true p118
     replace q118 := eq_true q118
     have p119 : 0 ≤ (x9_2 : Int) := of_decide_eq_true (by first | (with_reducible assumption) | assumption)
     have q119 : x9_2 < ((qf t102 x8_1).length : Int) := of_decide_eq_true (by first | (with_reducible assumption) | assumption)
     obtain ⟨ad119, e119, hx119_0⟩ := Kd.qz (by repeat (first | (with_reducible exact HR118_0.out) | (with_reducible refine Kd.qD ?_ _) | (with_reducible refine Kd.qE ?_ _) | (with_reducible refine Kd.qN ?_) | exact HR118_0.out)) x9_2 p119 q119
     cases e119
     replace p119 := eq_true p119
     replace q119 := eq_true q119
     go_wp2_with (first | ((with_reducible refine zu (N := 40) rfl ?_); refine Kd.zBP (Kd.int .i64) _ 2 ?hg (N := 40) ?hd (xs := ([x8_1, x9_2] : List Int)) (inner := [.int .i64 x8_1, .int .i64 x9_2]) (ok := fun _ => True) (okp := fun _ => True) ?hr ?hp (fun _ hk => hk) trivial (ysy _ _) (yry _) (by simp) ?_; (case hd => rfl); (case hg => rfl); (case hr => first | (go_simp; done) | (go_simp; rfl)); (case hp => exact (Zz.one (show Kd.M (Kd.int .i64) _ _ _ x8_1 [.int .i64 x8_1] from rfl) (Zz.one (show Kd.M (Kd.int .i64) _ _ _ x9_2 [.int .i64 x9_2] from rfl) (Zz.none _ _)))); intro v121 w27 ho28 hb hg_ hnew_; clear hg_ hnew_; (first | rw [← Ny120.out] at ho28 | (simp only [Int.reduceToNat] at ho28; rw [← Ny120.out] at ho28)); have n0_ := zA.mk (Kd.Zl (by (with_reducible repeat (first | apply Kd.zj | apply Kd.zk | apply Kd.zz)); exact HO_7.out) (Kd.Zi ho28) hb); have n1_ := zA.mk (Kd.Zl (by (with_reducible repeat (first | apply Kd.zj | apply Kd.zk | apply Kd.zz)); exact HO_115000.out) (Kd.Zi ho28) hb); have n2_ := zA.mk (Kd.Zl (by (with_reducible repeat (first | apply Kd.zj | apply Kd.zk | apply Kd.zz)); exact HO_115001.out) (Kd.Zi ho28) hb); have n3_ := zA.mk (Kd.Zl (by (with_reducible repeat (first | apply Kd.zj | apply Kd.zk | apply Kd.zz)); exact HO_115002.out) (Kd.Zi ho28) hb); have n4_ := zA.mk (Kd.ZW (by (with_reducible repeat (first | apply Kd.zR | apply Kd.zS | apply Kd.zV)); exact HL118_0.out) (Kd.Zi ho28) hb); have n5_ := zA.mk (Kd.qp (Kd.Qq ho28 (Kd.Qy (by (with_reducible repeat (first | apply Kd.zR | apply Kd.zS | apply Kd.zV)); exact HL118_0.out))) (zP (by repeat (first | (with_reducible first | exact HB.out | apply zC | apply zB | apply zD | refine zF ?_ GE101.out | refine zF ?_ GE114.out) | exact HB.out)))); have n6_ := zA.mk (zO (g := gb101) (o := .cells #[.slice A0_0 l0_0.length c0_0] 35 (0, 0)) (by (with_reducible repeat (first | refine zH ?_ _ | refine zJ ?_ | refine zG ?_ _)); exact BK101.out) hb); have n7_ := zA.mk (zO (g := gb114) (o := .cells #[.slice (some ad118) t102.length co8, .slice Ao11 t105.length co11, .slice Ao12 t108.length co12] 88 (0, 0)) (by (with_reducible repeat (first | refine zH ?_ _ | refine zJ ?_ | refine zG ?_ _)); exact BK114.out) hb); have n8_ := zA.mk (Kd.qI (by repeat (first | (with_reducible exact HR118_0.out) | (with_reducible refine Kd.qD ?_ _) | (with_reducible refine Kd.qE ?_ _) | (with_reducible refine Kd.qN ?_) | exact HR118_0.out)) hb); have n9_ := zA.mk (zM (by repeat (first | (with_reducible first | exact HB.out | apply zC | apply zB | apply zD | refine zF ?_ GE101.out | refine zF ?_ GE114.out) | exact HB.out)) hb); clear HO_7; clear HO_115000; clear HO_115001; clear HO_115002; clear HL118_0; clear BK101; clear BK114; clear HR118_0; clear HB; have HO_7 := n0_; have HO_115000 := n1_; have HO_115001 := n2_; have HO_115002 := n3_; have HL118_0 := n4_; have HO122 := n5_; have BK101 := n6_; have BK114 := n7_; have HR118_0 := n8_; have HB := n9_; clear n0_ n1_ n2_ n3_ n4_ n5_ n6_ n7_ n8_ n9_; clear hb ho28; obtain ⟨Ao30, co30, eo30⟩ := Kd.qy HO122.out; subst eo30) | ((with_reducible refine ZM (b := .append) (xs := #[.tmp 37, .tmp 41]) rfl ?_); at_builtin; refine Kd.zCS (Kd.slice 2 (Kd.int .i64)) (w0 := w) w.heap.size rfl (.tmp 37) (.tmp 41) 30 22 (.slice none 0 0) 24 rfl Try.underlying30 zFY rfl (by decide) (by omega) u7 x7_2 y120 [.slice Ao30 y120.length co30] (fun k_ => some k_ ≠ (.slice (some ad118) t102.length co8 : Value).ownBlock ∧ some k_ ≠ (.slice Ao11 t105.length co11 : Value).ownBlock ∧ some k_ ≠ (.slice Ao12 t108.length co12 : Value).ownBlock) (fun k_ => some k_ = (.slice Ao30 y120.length co30 : Value).ownBlock) rfl rfl ?aP (fun k_ hk_ => ((Kd.zt (ok' := fun k_ => ((fun k_ => some k_ ≠ (.slice (some ad118) t102.length co8 : Value).ownBlock ∧ some k_ ≠ (.slice Ao11 t105.length co11 : Value).ownBlock ∧ some k_ ≠ (.slice Ao12 t108.length co12 : Value).ownBlock)) k_ ∧ some k_ ≠ (u7 : Value).ownBlock) (Kd.QE (Kd.QE (Kd.QE (Kd.QE (HO122.out) (Kd.QS HO_115000.out) (by decide)) (Kd.QS HO_115001.out) (by decide)) (Kd.QS HO_115002.out) (by decide)) (Kd.QS HO_7.out) (by decide)) (fun k_ hk => ⟨⟨hk.1.1.1.2, ⟨hk.1.1.2, hk.1.2⟩⟩, hk.2⟩))).1 k_ hk_.symm) ?aF ?aO ?aB ?aS ?aL ?_; (case aP => exact Kd.zGI (Kd.zt (Kd.Qo rfl (Kd.zt (ok' := fun k_ => ((fun k_ => some k_ ≠ (.slice (some ad118) t102.length co8 : Value).ownBlock ∧ some k_ ≠ (.slice Ao11 t105.length co11 : Value).ownBlock ∧ some k_ ≠ (.slice Ao12 t108.length co12 : Value).ownBlock)) k_ ∧ some k_ ≠ (u7 : Value).ownBlock) (Kd.QE (Kd.QE (Kd.QE (Kd.QE (HO122.out) (Kd.QS HO_115000.out) (by decide)) (Kd.QS HO_115001.out) (by decide)) (Kd.QS HO_115002.out) (by decide)) (Kd.QS HO_7.out) (by decide)) (fun k_ hk => ⟨⟨hk.1.1.1.2, ⟨hk.1.1.2, hk.1.2⟩⟩, hk.2⟩))) (fun _ h_ => h_))); (case aB => exact (by repeat (first | (with_reducible first | exact HB.out | apply zC | apply zB | apply zD | refine zF ?_ GE101.out | refine zF ?_ GE114.out) | exact HB.out))); (case aF => exact (fun k_ hk => ⟨Kd.Qr (Kd.zF5 (by (with_reducible repeat (first | apply Kd.zj | apply Kd.zk | apply Kd.zz)); exact HO_115000.out)) k_ hk, Kd.Qr (Kd.zF5 (by (with_reducible repeat (first | apply Kd.zj | apply Kd.zk | apply Kd.zz)); exact HO_115001.out)) k_ hk, Kd.Qr (Kd.zF5 (by (with_reducible repeat (first | apply Kd.zj | apply Kd.zk | apply Kd.zz)); exact HO_115002.out)) k_ hk⟩)); (case aO => exact (by (with_reducible repeat (first | apply Kd.zj | apply Kd.zk | apply Kd.zz)); exact Kd.qo HO_7.out (fun k_ hk => ⟨⟨hk.1.1, ⟨hk.1.2.1, hk.1.2.2⟩⟩, fun e_ => hk.2 e_⟩))); (case aS => exact (zP (by repeat (first | (with_reducible first | exact HB.out | apply zC | apply zB | apply zD | refine zF ?_ GE101.out | refine zF ?_ GE114.out) | exact HB.out)))); (case aL => have := LMc24.out; omega); intro v124 w29 ho hb hg hat; rw [← Ny123.out] at ho; have n0_ := zA.mk (Kd.Qz (ok := (fun k_ => some k_ ≠ (.slice Ao11 t105.length co11 : Value).ownBlock ∧ some k_ ≠ (.slice Ao12 t108.length co12 : Value).ownBlock ∧ some k_ ≠ (.slice Ao30 y120.length co30 : Value).ownBlock)) (by (with_reducible repeat (first | apply Kd.zj | apply Kd.zk | apply Kd.zz)); exact Kd.qo HO_115000.out (fun _ hk => ⟨⟨hk.1.2.1, ⟨hk.1.2.2, hk.2⟩⟩, hk.1.1⟩)) hg hat); have n1_ := zA.mk (Kd.Qz (ok := (fun k_ => some k_ ≠ (.slice (some ad118) t102.length co8 : Value).ownBlock ∧ some k_ ≠ (.slice Ao12 t108.length co12 : Value).ownBlock ∧ some k_ ≠ (.slice Ao30 y120.length co30 : Value).ownBlock)) (by (with_reducible repeat (first | apply Kd.zj | apply Kd.zk | apply Kd.zz)); exact Kd.qo HO_115001.out (fun _ hk => ⟨⟨hk.1.2.1, ⟨hk.1.2.2, hk.2⟩⟩, hk.1.1⟩)) hg hat); have n2_ := zA.mk (Kd.Qz (ok := (fun k_ => some k_ ≠ (.slice (some ad118) t102.length co8 : Value).ownBlock ∧ some k_ ≠ (.slice Ao11 t105.length co11 : Value).ownBlock ∧ some k_ ≠ (.slice Ao30 y120.length co30 : Value).ownBlock)) (by (with_reducible repeat (first | apply Kd.zj | apply Kd.zk | apply Kd.zz)); exact Kd.qo HO_115002.out (fun _ hk => ⟨⟨hk.1.2.1, ⟨hk.1.2.2, hk.2⟩⟩, hk.1.1⟩)) hg hat); have n3_ := zA.mk (qm (g := gb101) (o := .cells #[.slice A0_0 l0_0.length c0_0] 35 (0, 0)) (by (with_reducible repeat (first | refine zH ?_ _ | refine zJ ?_ | refine zG ?_ _)); exact BK101.out) hg (Kd.S_ne HO_7.out BK101.out (by decide))); have n4_ := zA.mk (qm (g := gb114) (o := .cells #[.slice (some ad118) t102.length co8, .slice Ao11 t105.length co11, .slice Ao12 t108.length co12] 88 (0, 0)) (by (with_reducible repeat (first | refine zH ?_ _ | refine zJ ?_ | refine zG ?_ _)); exact BK114.out) hg (Kd.S_ne HO_7.out BK114.out (by decide))); have n5_ := zA.mk (Kd.qt (ok := (fun k_ => some k_ ≠ (.slice (some ad118) t102.length co8 : Value).ownBlock ∧ some k_ ≠ (.slice Ao11 t105.length co11 : Value).ownBlock ∧ some k_ ≠ (.slice Ao12 t108.length co12 : Value).ownBlock ∧ some k_ ≠ (.slice Ao30 y120.length co30 : Value).ownBlock)) (by (with_reducible repeat (first | apply Kd.zR | apply Kd.zS | apply Kd.zV)); exact Kd.zt HL118_0.out (fun _ hk => ⟨⟨hk.1.2, ⟨hk.1.1.2.1, ⟨hk.1.1.2.2, hk.2⟩⟩⟩, hk.1.1.1⟩)) hg hat); have n6_ := zA.mk (hb); have n7_ := zA.mk (ho); clear HO_115000; clear HO_115001; clear HO_115002; clear BK101; clear BK114; clear HL118_0; clear HB; clear HO_7; clear HO122; have HO_115000 := n0_; have HO_115001 := n1_; have HO_115002 := n2_; have BK101 := n3_; have BK114 := n4_; have HL118_0 := n5_; have HB := n6_; have HO125 := n7_; clear n0_ n1_ n2_ n3_ n4_ n5_ n6_ n7_; clear ho hb hg hat))
     go_roundg k2
     case measure => have := HK1.out; have := HK2.out; omega
     case rel => exact ⟨(y123), (wrap64 (x9_2 + 1)), (by first | rfl | (simp; done) | (simp [*]; done)), H', ⟨by have := HK1.out; have := HK2.out; omega⟩, ⟨by (with_reducible repeat (first | apply Kd.zj | apply Kd.zk | apply Kd.zz)); exact HO125.out⟩, ⟨by (with_reducible repeat (first | apply Kd.zj | apply Kd.zk | apply Kd.zz)); exact Kd.qo HO_115000.out (fun _ hk => ⟨hk.2, ⟨hk.1.1, hk.1.2.1⟩⟩)⟩, ⟨by (with_reducible repeat (first | apply Kd.zj | apply Kd.zk | apply Kd.zz)); exact Kd.qo HO_115001.out (fun _ hk => ⟨hk.2, ⟨hk.1.1, hk.1.2.1⟩⟩)⟩, ⟨by (with_reducible repeat (first | apply Kd.zj | apply Kd.zk | apply Kd.zz)); exact Kd.qo HO_115002.out (fun _ hk => ⟨hk.2, ⟨hk.1.1, hk.1.2.1⟩⟩)⟩, ⟨by (with_reducible repeat (first | refine zH ?_ _ | refine zJ ?_ | refine zG ?_ _)); exact BK101.out⟩, ⟨by (with_reducible repeat (first | refine zH ?_ _ | refine zJ ?_ | refine zG ?_ _)); exact BK114.out⟩, ⟨by repeat (first | (with_reducible first | exact HB.out | apply zC | apply zB | apply zD | refine zF ?_ GE101.out | refine zF ?_ GE114.out) | exact HB.out)⟩⟩
def ZZ.f (k : Nat) (l0_0 : List (List (zw))) (a1 : Int) : Option ((List (List Int)) × Int) := (zK.f k l0_0).bind fun t102 => (if t102 = true then ((zm.f k l0_0 a1).bind fun t103 => (if (t103.length : Int) = 0 then (some (([] : List (List Int)), 2)) else (some (t103, 0)))) else (some (([] : List (List Int)), 1)))
set_option maxHeartbeats 8000000 in
set_option maxRecDepth 100000 in
theorem ZZ.calls (k : Nat) (A0_0 : Option Addr) (c0_0 : Nat) (l0_0 : List (List (zw))) (a1 : Int) (r1 : List (List Int)) (r2 : Int) (w : World) (hr0_0 : Kd.C (Kd.slice 75 ZV) w A0_0 l0_0.length l0_0) (hc0_0 : l0_0.length ≤ c0_0) (h : ZZ.f k l0_0 a1 = some (r1, r2)) :
    Calls Try.prog 17 #[.agg #[.slice A0_0 l0_0.length c0_0], .int .i64 a1] w fun e w' => ∃ v0_ : Value, e = .returned (.tuple #[v0_, .int .i64 r2]) ∧ Kd.S (Kd.slice 2 (Kd.int .i64)) 22 w' w.heap.size (fun _ => True) v0_ r1 ∧ Below w.heap.size w w' := by
  have hu35 := Try.underlying35
  have HR0_0 := zA.mk hr0_0
  have HC0_0 := zA.mk hc0_0
  clear hr0_0 hc0_0
  have HB := zA.mk (ysy w.heap.size w)
  have H : ((zK.f k l0_0).bind fun t102 => (if t102 = true then ((zm.f k l0_0 a1).bind fun t103 => (if (t103.length : Int) = 0 then (some (([] : List (List Int)), 2)) else (some (t103, 0)))) else (some (([] : List (List Int)), 1)))) = some (r1, r2) := h
  clear h
  replace H := ydy.mp H
  obtain ⟨t102, A30, H⟩ := H
  replace H : (if t102 = true then ((zm.f k l0_0 a1).bind fun t103 => (if (t103.length : Int) = 0 then (some (([] : List (List Int)), 2)) else (some (t103, 0)))) else (some (([] : List (List Int)), 1))) = some (r1, r2) := H
  have A3 := zA.mk A30
  clear A30
  by_cases c4 : t102 = true
  · subst c4
    have H1 : ((zm.f k l0_0 a1).bind fun t103 => (if (t103.length : Int) = 0 then (some (([] : List (List Int)), 2)) else (some (t103, 0)))) = some (r1, r2) := by rw [if_pos rfl] at H; exact H
    clear H
    have H := H1
    clear H1
    replace H := ydy.mp H
    obtain ⟨t103, A50, H⟩ := H
    replace H : (if (t103.length : Int) = 0 then (some (([] : List (List Int)), 2)) else (some (t103, 0))) = some (r1, r2) := H
    have A5 := zA.mk A50
    clear A50
    by_cases c6 : (t103.length : Int) = 0
    · rw [if_pos c6] at H
      have c6b0 : ((t103.length : Int) == 0) = true := beq_iff_eq.mpr c6
      have c6b1 : ((t103.length : Int) != 0) = false := bne_eq_false_iff_eq.mpr c6
      clear c6
      simp only [Option.some.injEq, Prod.mk.injEq] at H
      obtain ⟨rfl, rfl⟩ := H
      go_enter Try.func17, Try.ntmps17
      go_wp2_with (first | ((with_reducible refine zu (N := 2) rfl ?_); refine zy ?hg (N := 2) ?hd (cs := #[.slice A0_0 l0_0.length c0_0]) (t := 35) ?hr ?_; (case hd => rfl); (case hg => rfl); (case hr => first | (go_simp; done) | (go_simp; rfl)); intro gb101 hg w7 hbox hb; have n0_ := zA.mk (zM (by repeat (first | (with_reducible first | exact HB.out | apply zC | apply zB | apply zD) | exact HB.out)) hb); have n1_ := zA.mk (hbox); have n2_ := zA.mk ((by rw [hg]; exact (zP (by repeat (first | (with_reducible first | exact HB.out | apply zC | apply zB | apply zD) | exact HB.out))) : w.heap.size ≤ gb101)); have n3_ := zA.mk ((by rw [hg]; exact (zP (by repeat (first | (with_reducible first | exact HB.out | apply zC | apply zB | apply zD) | exact HB.out))) : w.heap.size ≤ gb101)); clear HB; have HB := n0_; have BK101 := n1_; have GW101 := n2_; have GE101 := n3_; clear n0_ n1_ n2_ n3_; clear hb hbox hg; have hcz8_0 : w7.cell? ⟨gb101, 0, none⟩ = some (.slice A0_0 l0_0.length c0_0) := (zL BK101.out 0).trans rfl; have hfz8_0 := zN BK101.out 0) | ((with_reducible refine zZ (f := 47) rfl ?_); refine qQ (some 8) rfl rfl Try.func47 (by kernel_rfl) rfl #[.agg #[.slice A0_0 l0_0.length c0_0]] rfl (by (try simp only [yiy, yjy, yky]); first | done | rfl | (simp only [yly, ymy]; rfl)) ?_; (with_reducible refine (zK.calls k _ _ l0_0 true _ ?side1 ?side2 A3.out).mono ?_); (case side1 => repeat (first | exact (Kd.qI HR0_0.out HB.out) | (with_reducible refine Kd.qD ?_ _) | (with_reducible refine Kd.qE ?_ _) | (with_reducible refine Kd.qN ?_))); (case side2 => exact HC0_0.out); rintro e w9 ⟨rfl, hb⟩; refine ⟨_, rfl, ?_⟩; have n0_ := zA.mk (zO (g := gb101) (o := .cells #[.slice A0_0 l0_0.length c0_0] 35 (0, 0)) (by (with_reducible repeat (first | refine zH ?_ _ | refine zJ ?_ | refine zG ?_ _)); exact BK101.out) hb); have n1_ := zA.mk (zM (by repeat (first | (with_reducible first | exact HB.out | apply zC | apply zB | apply zD | refine zF ?_ GE101.out) | exact HB.out)) hb); clear BK101; clear HB; have BK101 := n0_; have HB := n1_; clear n0_ n1_; (try clear hb); (try clear hb2); (try clear hk); (try clear hi); have hcz10_0 : w9.cell? ⟨gb101, 0, none⟩ = some (.slice A0_0 l0_0.length c0_0) := (zL BK101.out 0).trans rfl; have hfz10_0 := zN BK101.out 0) | ((with_reducible refine zZ (f := 48) rfl ?_); refine qQ (some 12) rfl rfl Try.func48 (by kernel_rfl) rfl #[.agg #[.slice A0_0 l0_0.length c0_0], .int .i64 a1] rfl (by (try simp only [yiy, yjy, yky]); first | done | rfl | (simp only [yly, ymy]; rfl)) ?_; (with_reducible refine (zm.calls k _ _ l0_0 a1 t103 _ ?side1 ?side2 A5.out).mono ?_); (case side1 => repeat (first | exact (Kd.qI HR0_0.out HB.out) | (with_reducible refine Kd.qD ?_ _) | (with_reducible refine Kd.qE ?_ _) | (with_reducible refine Kd.qN ?_))); (case side2 => exact HC0_0.out); rintro e w11 ⟨v104, rfl, ho0, hb⟩; refine ⟨_, rfl, ?_⟩; have n0_ := zA.mk (Kd.QC ho0 (zP (by repeat (first | (with_reducible first | exact HB.out | apply zC | apply zB | apply zD | refine zF ?_ GE101.out) | exact HB.out)))); have n1_ := zA.mk (zO (g := gb101) (o := .cells #[.slice A0_0 l0_0.length c0_0] 35 (0, 0)) (by (with_reducible repeat (first | refine zH ?_ _ | refine zJ ?_ | refine zG ?_ _)); exact BK101.out) hb); have n2_ := zA.mk (zM (by repeat (first | (with_reducible first | exact HB.out | apply zC | apply zB | apply zD | refine zF ?_ GE101.out) | exact HB.out)) hb); clear BK101; clear HB; have HO105 := n0_; have BK101 := n1_; have HB := n2_; clear n0_ n1_ n2_; (try clear hb); (try clear hb2); (try clear hk); (try clear hi); (try clear ho0); obtain ⟨Ao12, co12, eo12⟩ := Kd.QW HO105.out; subst eo12))
      go_ret2
      exact ⟨_, by first | rfl | (simp [zW, zX] <;> rfl) | (simp [*, zW, zX] <;> rfl), by first | exact Kd.zGR _ _ _ _ _ | exact Kd.zGV _ _ _ _ _ | exact Kd.zGY _ _ _ _ _ | exact Kd.zGL _ _ _ _ _ | exact Kd.zCN _ _ _ _ _, by repeat (first | (with_reducible first | exact HB.out | apply zC | apply zB | apply zD | refine zF ?_ GE101.out) | exact HB.out)⟩
    · rw [if_neg c6] at H
      have c6b0 : ((t103.length : Int) == 0) = false := beq_eq_false_iff_ne.mpr c6
      have c6b1 : ((t103.length : Int) != 0) = true := bne_iff_ne.mpr c6
      have c6b2 : ¬ (t103 = []) := fun h_ => c6 (by rw [h_]; rfl)
      simp only [Option.some.injEq, Prod.mk.injEq] at H
      obtain ⟨rfl, rfl⟩ := H
      go_enter Try.func17, Try.ntmps17
      go_wp2_with (first | ((with_reducible refine zu (N := 2) rfl ?_); refine zy ?hg (N := 2) ?hd (cs := #[.slice A0_0 l0_0.length c0_0]) (t := 35) ?hr ?_; (case hd => rfl); (case hg => rfl); (case hr => first | (go_simp; done) | (go_simp; rfl)); intro gb101 hg w13 hbox hb; have n0_ := zA.mk (zM (by repeat (first | (with_reducible first | exact HB.out | apply zC | apply zB | apply zD) | exact HB.out)) hb); have n1_ := zA.mk (hbox); have n2_ := zA.mk ((by rw [hg]; exact (zP (by repeat (first | (with_reducible first | exact HB.out | apply zC | apply zB | apply zD) | exact HB.out))) : w.heap.size ≤ gb101)); have n3_ := zA.mk ((by rw [hg]; exact (zP (by repeat (first | (with_reducible first | exact HB.out | apply zC | apply zB | apply zD) | exact HB.out))) : w.heap.size ≤ gb101)); clear HB; have HB := n0_; have BK101 := n1_; have GW101 := n2_; have GE101 := n3_; clear n0_ n1_ n2_ n3_; clear hb hbox hg; have hcz14_0 : w13.cell? ⟨gb101, 0, none⟩ = some (.slice A0_0 l0_0.length c0_0) := (zL BK101.out 0).trans rfl; have hfz14_0 := zN BK101.out 0) | ((with_reducible refine zZ (f := 47) rfl ?_); refine qQ (some 8) rfl rfl Try.func47 (by kernel_rfl) rfl #[.agg #[.slice A0_0 l0_0.length c0_0]] rfl (by (try simp only [yiy, yjy, yky]); first | done | rfl | (simp only [yly, ymy]; rfl)) ?_; (with_reducible refine (zK.calls k _ _ l0_0 true _ ?side1 ?side2 A3.out).mono ?_); (case side1 => repeat (first | exact (Kd.qI HR0_0.out HB.out) | (with_reducible refine Kd.qD ?_ _) | (with_reducible refine Kd.qE ?_ _) | (with_reducible refine Kd.qN ?_))); (case side2 => exact HC0_0.out); rintro e w15 ⟨rfl, hb⟩; refine ⟨_, rfl, ?_⟩; have n0_ := zA.mk (zO (g := gb101) (o := .cells #[.slice A0_0 l0_0.length c0_0] 35 (0, 0)) (by (with_reducible repeat (first | refine zH ?_ _ | refine zJ ?_ | refine zG ?_ _)); exact BK101.out) hb); have n1_ := zA.mk (zM (by repeat (first | (with_reducible first | exact HB.out | apply zC | apply zB | apply zD | refine zF ?_ GE101.out) | exact HB.out)) hb); clear BK101; clear HB; have BK101 := n0_; have HB := n1_; clear n0_ n1_; (try clear hb); (try clear hb2); (try clear hk); (try clear hi); have hcz16_0 : w15.cell? ⟨gb101, 0, none⟩ = some (.slice A0_0 l0_0.length c0_0) := (zL BK101.out 0).trans rfl; have hfz16_0 := zN BK101.out 0) | ((with_reducible refine zZ (f := 48) rfl ?_); refine qQ (some 12) rfl rfl Try.func48 (by kernel_rfl) rfl #[.agg #[.slice A0_0 l0_0.length c0_0], .int .i64 a1] rfl (by (try simp only [yiy, yjy, yky]); first | done | rfl | (simp only [yly, ymy]; rfl)) ?_; (with_reducible refine (zm.calls k _ _ l0_0 a1 t103 _ ?side1 ?side2 A5.out).mono ?_); (case side1 => repeat (first | exact (Kd.qI HR0_0.out HB.out) | (with_reducible refine Kd.qD ?_ _) | (with_reducible refine Kd.qE ?_ _) | (with_reducible refine Kd.qN ?_))); (case side2 => exact HC0_0.out); rintro e w17 ⟨v104, rfl, ho0, hb⟩; refine ⟨_, rfl, ?_⟩; have n0_ := zA.mk (Kd.QC ho0 (zP (by repeat (first | (with_reducible first | exact HB.out | apply zC | apply zB | apply zD | refine zF ?_ GE101.out) | exact HB.out)))); have n1_ := zA.mk (zO (g := gb101) (o := .cells #[.slice A0_0 l0_0.length c0_0] 35 (0, 0)) (by (with_reducible repeat (first | refine zH ?_ _ | refine zJ ?_ | refine zG ?_ _)); exact BK101.out) hb); have n2_ := zA.mk (zM (by repeat (first | (with_reducible first | exact HB.out | apply zC | apply zB | apply zD | refine zF ?_ GE101.out) | exact HB.out)) hb); clear BK101; clear HB; have HO105 := n0_; have BK101 := n1_; have HB := n2_; clear n0_ n1_ n2_; (try clear hb); (try clear hb2); (try clear hk); (try clear hi); (try clear ho0); obtain ⟨Ao18, co18, eo18⟩ := Kd.QW HO105.out; subst eo18))
      go_ret2
      exact ⟨_, by first | rfl | (simp [zW, zX] <;> rfl) | (simp [*, zW, zX] <;> rfl), by (with_reducible repeat (first | apply Kd.zj | apply Kd.zk | apply Kd.zz)); exact HO105.out, by repeat (first | (with_reducible first | exact HB.out | apply zC | apply zB | apply zD | refine zF ?_ GE101.out) | exact HB.out)⟩
  · replace c4 := Bool.eq_false_iff.mpr c4
    subst c4
    have H1 : (some (([] : List (List Int)), 1)) = some (r1, r2) := by rw [if_neg (show ¬ (false = true) by decide)] at H; exact H
    clear H
    have H := H1
    clear H1
    simp only [Option.some.injEq, Prod.mk.injEq] at H
    obtain ⟨rfl, rfl⟩ := H
    go_enter Try.func17, Try.ntmps17
    go_wp2_with (first | ((with_reducible refine zu (N := 2) rfl ?_); refine zy ?hg (N := 2) ?hd (cs := #[.slice A0_0 l0_0.length c0_0]) (t := 35) ?hr ?_; (case hd => rfl); (case hg => rfl); (case hr => first | (go_simp; done) | (go_simp; rfl)); intro gb101 hg w19 hbox hb; have n0_ := zA.mk (zM (by repeat (first | (with_reducible first | exact HB.out | apply zC | apply zB | apply zD) | exact HB.out)) hb); have n1_ := zA.mk (hbox); have n2_ := zA.mk ((by rw [hg]; exact (zP (by repeat (first | (with_reducible first | exact HB.out | apply zC | apply zB | apply zD) | exact HB.out))) : w.heap.size ≤ gb101)); have n3_ := zA.mk ((by rw [hg]; exact (zP (by repeat (first | (with_reducible first | exact HB.out | apply zC | apply zB | apply zD) | exact HB.out))) : w.heap.size ≤ gb101)); clear HB; have HB := n0_; have BK101 := n1_; have GW101 := n2_; have GE101 := n3_; clear n0_ n1_ n2_ n3_; clear hb hbox hg; have hcz20_0 : w19.cell? ⟨gb101, 0, none⟩ = some (.slice A0_0 l0_0.length c0_0) := (zL BK101.out 0).trans rfl; have hfz20_0 := zN BK101.out 0) | ((with_reducible refine zZ (f := 47) rfl ?_); refine qQ (some 8) rfl rfl Try.func47 (by kernel_rfl) rfl #[.agg #[.slice A0_0 l0_0.length c0_0]] rfl (by (try simp only [yiy, yjy, yky]); first | done | rfl | (simp only [yly, ymy]; rfl)) ?_; (with_reducible refine (zK.calls k _ _ l0_0 false _ ?side1 ?side2 A3.out).mono ?_); (case side1 => repeat (first | exact (Kd.qI HR0_0.out HB.out) | (with_reducible refine Kd.qD ?_ _) | (with_reducible refine Kd.qE ?_ _) | (with_reducible refine Kd.qN ?_))); (case side2 => exact HC0_0.out); rintro e w21 ⟨rfl, hb⟩; refine ⟨_, rfl, ?_⟩; have n0_ := zA.mk (zO (g := gb101) (o := .cells #[.slice A0_0 l0_0.length c0_0] 35 (0, 0)) (by (with_reducible repeat (first | refine zH ?_ _ | refine zJ ?_ | refine zG ?_ _)); exact BK101.out) hb); have n1_ := zA.mk (zM (by repeat (first | (with_reducible first | exact HB.out | apply zC | apply zB | apply zD | refine zF ?_ GE101.out) | exact HB.out)) hb); clear BK101; clear HB; have BK101 := n0_; have HB := n1_; clear n0_ n1_; (try clear hb); (try clear hb2); (try clear hk); (try clear hi)))
    go_ret2
    exact ⟨_, by first | rfl | (simp [zW, zX] <;> rfl) | (simp [*, zW, zX] <;> rfl), by first | exact Kd.zGR _ _ _ _ _ | exact Kd.zGV _ _ _ _ _ | exact Kd.zGY _ _ _ _ _ | exact Kd.zGL _ _ _ _ _ | exact Kd.zCN _ _ _ _ _, by repeat (first | (with_reducible first | exact HB.out | apply zC | apply zB | apply zD | refine zF ?_ GE101.out) | exact HB.out)⟩
mutual
def ze.l0 : Nat → List Int → List Int → Int → Int → Option (Int)
  | 0, _, _, _, _ => none
  | k + 1, x0, x1, x5, x6 => if x6 < (x1.length : Int) then (ze.l1 k x0 x1 x5 x6 true 0) else (some x5)
def ze.l1 : Nat → List Int → List Int → Int → Int → Bool → Int → Option (Int)
  | 0, _, _, _, _, _, _ => none
  | k + 1, x0, x1, x5, x6, x7, x8 => if x8 < x6 then (if x7 = true then (if 0 ≤ x8 then (if x8 < (x1.length : Int) then (if 0 ≤ (rd x1 x8) then (if (rd x1 x8) < (x0.length : Int) then (if 0 ≤ x6 then (if x6 < (x1.length : Int) then (if 0 ≤ (rd x1 x6) then (if (rd x1 x6) < (x0.length : Int) then (ze.l1 k x0 x1 x5 x6 ((rd x0 (rd x1 x8)) != (rd x0 (rd x1 x6))) (wrap64 (x8 + 1))) else (none)) else (none)) else (none)) else (none)) else (none)) else (none)) else (none)) else (none)) else (ze.l1 k x0 x1 x5 x6 false (wrap64 (x8 + 1)))) else (if x7 = true then (ze.l0 k x0 x1 (wrap64 (x5 + 1)) (wrap64 (x6 + 1))) else (ze.l0 k x0 x1 x5 (wrap64 (x6 + 1))))
end
def ze.f (k : Nat) (l0 : List Int) (l1 : List Int) : Option (Int) := ze.l0 k l0 l1 0 0
set_option maxHeartbeats 8000000 in
set_option maxRecDepth 100000 in
theorem ze.calls (k : Nat) (A0 : Option Addr) (c0 : Nat) (l0 : List Int) (A1 : Option Addr) (c1 : Nat) (l1 : List Int) (r : Int) (w : World) (hr0 : Kd.C (Kd.int .i64) w A0 l0.length l0) (hc0 : l0.length ≤ c0) (hr1 : Kd.C (Kd.int .i64) w A1 l1.length l1) (hc1 : l1.length ≤ c1) (h : ze.f k l0 l1 = some r) :
    Calls Try.prog 93 #[.slice A0 l0.length c0, .slice A1 l1.length c1] w fun e w' => e = .returned (.int .i64 r) ∧ zx w w' := by
  have HR0 := zA.mk hr0
  have HC0 := zA.mk hc0
  clear hr0 hc0
  have HR1 := zA.mk hr1
  have HC1 := zA.mk hc1
  clear hr1 hc1
  have H : (ze.l0 k l0 l1 0 0) = some r := h
  clear h
  have H' := zA.mk H
  clear H
  go_enter Try.func93, Try.ntmps93
  go_wp2
  repeat (go_quiet (fail); try go_wp2)
  go_loopg [5, 6] k (fun kq v5 v6 w' => ∃ (x5_1 : Int) (x6_1 : Int), v5 = .int .i64 x5_1 ∧ v6 = .int .i64 x6_1 ∧ zA (ze.l0 kq l0 l1 x5_1 x6_1 = some r) ∧ zA (kq ≤ k) ∧ zx w w')
  case atStart => exact ⟨(0), (0), (by first | rfl | (simp; done) | (simp [*]; done)), (by first | rfl | (simp; done) | (simp [*]; done)), H', ⟨yry _⟩, by repeat (first | exact zx.refl _ | apply zx.step)⟩
  case round =>
    clear H'
    try clear c1
    try clear p2
    obtain ⟨x5_1, x6_1, rfl, rfl, HA, HK1, ⟨m1, rfl⟩⟩ := hrel
    cases gk with
    | zero => exact absurd HA.out (by simp [ze.l0])
    | succ k1 =>
      have H := HA.out
      clear HA
      simp only [ze.l0] at H
      by_cases c3 : x6_1 < (l1.length : Int)
      · rw [if_pos c3] at H
        have c3b0 : decide (x6_1 < (l1.length : Int)) = true := ygy c3
        clear c3
        have H' := zA.mk H
        clear H
        go_wp2
        repeat (go_quiet (fail); try go_wp2)
        go_loopg [7, 8] k1 (fun kq v7 v8 w' => ∃ (x7_2 : Bool) (x8_2 : Int), v7 = .bool x7_2 ∧ v8 = .int .i64 x8_2 ∧ zA (ze.l1 kq l0 l1 x5_1 x6_1 x7_2 x8_2 = some r) ∧ zA (kq ≤ k1) ∧ zx w w')
        case atStart => exact ⟨(true), (0), (by first | rfl | (simp; done) | (simp [*]; done)), (by first | rfl | (simp; done) | (simp [*]; done)), H', ⟨yry _⟩, by repeat (first | exact zx.refl _ | apply zx.step)⟩
        case round =>
          clear H'
          try clear c1
          try clear p2
          try clear c3
          try clear c3b0
          try clear p2
          obtain ⟨x7_2, x8_2, rfl, rfl, HA, HK2, ⟨m2, rfl⟩⟩ := hrel
          cases gk with
          | zero => exact absurd HA.out (by simp [ze.l1])
          | succ k2 =>
            have H := HA.out
            clear HA
            simp only [ze.l1] at H
            by_cases c4 : x8_2 < x6_1
            · rw [if_pos c4] at H
              have c4b0 : decide (x8_2 < x6_1) = true := ygy c4
              clear c4
              by_cases c5 : x7_2 = true
              · subst c5
                have H1 : (if 0 ≤ x8_2 then (if x8_2 < (l1.length : Int) then (if 0 ≤ (rd l1 x8_2) then (if (rd l1 x8_2) < (l0.length : Int) then (if 0 ≤ x6_1 then (if x6_1 < (l1.length : Int) then (if 0 ≤ (rd l1 x6_1) then (if (rd l1 x6_1) < (l0.length : Int) then (ze.l1 k2 l0 l1 x5_1 x6_1 ((rd l0 (rd l1 x8_2)) != (rd l0 (rd l1 x6_1))) (wrap64 (x8_2 + 1))) else (none)) else (none)) else (none)) else (none)) else (none)) else (none)) else (none)) else (none)) = some r := by rw [if_pos rfl] at H; exact H
                clear H
                have H := H1
                clear H1
                by_cases c6 : 0 ≤ x8_2
                · rw [if_pos c6] at H
                  have c6b0 : decide (0 ≤ x8_2) = true := ygy c6
                  clear c6
                  by_cases c7 : x8_2 < (l1.length : Int)
                  · rw [if_pos c7] at H
                    have c7b0 : decide (x8_2 < (l1.length : Int)) = true := ygy c7
                    clear c7
                    by_cases c8 : 0 ≤ (rd l1 x8_2)
                    · rw [if_pos c8] at H
                      have c8b0 : decide (0 ≤ (rd l1 x8_2)) = true := ygy c8
                      clear c8
                      by_cases c9 : (rd l1 x8_2) < (l0.length : Int)
                      · rw [if_pos c9] at H
                        have c9b0 : decide ((rd l1 x8_2) < (l0.length : Int)) = true := ygy c9
                        clear c9
                        by_cases c10 : 0 ≤ x6_1
                        · rw [if_pos c10] at H
                          have c10b0 : decide (0 ≤ x6_1) = true := ygy c10
                          clear c10
                          by_cases c11 : x6_1 < (l1.length : Int)
                          · rw [if_pos c11] at H
                            have c11b0 : decide (x6_1 < (l1.length : Int)) = true := ygy c11
                            clear c11
                            by_cases c12 : 0 ≤ (rd l1 x6_1)
                            · rw [if_pos c12] at H
                              have c12b0 : decide (0 ≤ (rd l1 x6_1)) = true := ygy c12
                              clear c12
                              by_cases c13 : (rd l1 x6_1) < (l0.length : Int)
                              · rw [if_pos c13] at H
                                have c13b0 : decide ((rd l1 x6_1) < (l0.length : Int)) = true := ygy c13
                                clear c13
                                have H' := zA.mk H
                                clear H
                                have p101 : 0 ≤ (x8_2 : Int) := of_decide_eq_true (by first | (with_reducible assumption) | assumption)
                                have q101 : x8_2 < (l1.length : Int) := of_decide_eq_true (by first | (with_reducible assumption) | assumption)
                                obtain ⟨ad101, e101, hx101_0⟩ := Kd.qz HR1.out x8_2 p101 q101
                                cases e101
                                replace p101 := eq_true p101
                                replace q101 := eq_true q101
                                have p102 : 0 ≤ ((rd l1 x8_2) : Int) := of_decide_eq_true (by first | (with_reducible assumption) | assumption)
                                have q102 : (rd l1 x8_2) < (l0.length : Int) := of_decide_eq_true (by first | (with_reducible assumption) | assumption)
                                obtain ⟨ad102, e102, hx102_0⟩ := Kd.qz HR0.out (rd l1 x8_2) p102 q102
                                cases e102
                                replace p102 := eq_true p102
                                replace q102 := eq_true q102
                                have p103 : 0 ≤ (x6_1 : Int) := of_decide_eq_true (by first | (with_reducible assumption) | assumption)
                                have q103 : x6_1 < (l1.length : Int) := of_decide_eq_true (by first | (with_reducible assumption) | assumption)
                                obtain ⟨ad103, e103, hx103_0⟩ := Kd.qz HR1.out x6_1 p103 q103
                                obtain rfl : ad101 = ad103 := (by injection e103)
                                replace p103 := eq_true p103
                                replace q103 := eq_true q103
                                have p104 : 0 ≤ ((rd l1 x6_1) : Int) := of_decide_eq_true (by first | (with_reducible assumption) | assumption)
                                have q104 : (rd l1 x6_1) < (l0.length : Int) := of_decide_eq_true (by first | (with_reducible assumption) | assumption)
                                obtain ⟨ad104, e104, hx104_0⟩ := Kd.qz HR0.out (rd l1 x6_1) p104 q104
                                obtain rfl : ad102 = ad104 := (by injection e104)
                                replace p104 := eq_true p104
                                replace q104 := eq_true q104
                                go_wp2
                                repeat (go_quiet (fail); try go_wp2)
                                go_roundg k2
                                case measure => have := HK1.out; have := HK2.out; omega
                                case rel => exact ⟨(((rd l0 (rd l1 x8_2)) != (rd l0 (rd l1 x6_1)))), (wrap64 (x8_2 + 1)), (by first | rfl | (simp; done) | (simp [*]; done)), (by first | rfl | (simp; done) | (simp [*]; done)), H', ⟨by have := HK1.out; have := HK2.out; omega⟩, by repeat (first | exact zx.refl _ | apply zx.step)⟩
                              · rw [if_neg c13] at H
                                exact absurd H (by simp)
                            · rw [if_neg c12] at H
                              exact absurd H (by simp)
                          · rw [if_neg c11] at H
                            exact absurd H (by simp)
                        · rw [if_neg c10] at H
                          exact absurd H (by simp)
                      · rw [if_neg c9] at H
                        exact absurd H (by simp)
                    · rw [if_neg c8] at H
                      exact absurd H (by simp)
                  · rw [if_neg c7] at H
                    exact absurd H (by simp)
                · rw [if_neg c6] at H
                  exact absurd H (by simp)
              · replace c5 := Bool.eq_false_iff.mpr c5
                subst c5
                have H1 : (ze.l1 k2 l0 l1 x5_1 x6_1 false (wrap64 (x8_2 + 1))) = some r := by rw [if_neg (show ¬ (false = true) by decide)] at H; exact H
                clear H
                have H := H1
                clear H1
                have H' := zA.mk H
                clear H
                go_wp2
                repeat (go_quiet (fail); try go_wp2)
                go_roundg k2
                case measure => have := HK1.out; have := HK2.out; omega
                case rel => exact ⟨(false), (wrap64 (x8_2 + 1)), (by first | rfl | (simp; done) | (simp [*]; done)), (by first | rfl | (simp; done) | (simp [*]; done)), H', ⟨by have := HK1.out; have := HK2.out; omega⟩, by repeat (first | exact zx.refl _ | apply zx.step)⟩
            · rw [if_neg c4] at H
              have c4b0 : decide (x8_2 < x6_1) = false := yhy c4
              clear c4
              by_cases c14 : x7_2 = true
              · subst c14
                have H1 : (ze.l0 k2 l0 l1 (wrap64 (x5_1 + 1)) (wrap64 (x6_1 + 1))) = some r := by rw [if_pos rfl] at H; exact H
                clear H
                have H := H1
                clear H1
                have H' := zA.mk H
                clear H
                go_wp2
                repeat (go_quiet (fail); try go_wp2)
                go_roundg k2
                case measure => have := HK1.out; have := HK2.out; omega
                case rel => exact ⟨(wrap64 (x5_1 + 1)), (wrap64 (x6_1 + 1)), (by first | rfl | (simp; done) | (simp [*]; done)), (by first | rfl | (simp; done) | (simp [*]; done)), H', ⟨by have := HK1.out; have := HK2.out; omega⟩, by repeat (first | exact zx.refl _ | apply zx.step)⟩
              · replace c14 := Bool.eq_false_iff.mpr c14
                subst c14
                have H1 : (ze.l0 k2 l0 l1 x5_1 (wrap64 (x6_1 + 1))) = some r := by rw [if_neg (show ¬ (false = true) by decide)] at H; exact H
                clear H
                have H := H1
                clear H1
                have H' := zA.mk H
                clear H
                go_wp2
                repeat (go_quiet (fail); try go_wp2)
                go_roundg k2
                case measure => have := HK1.out; have := HK2.out; omega
                case rel => exact ⟨(x5_1), (wrap64 (x6_1 + 1)), (by first | rfl | (simp; done) | (simp [*]; done)), (by first | rfl | (simp; done) | (simp [*]; done)), H', ⟨by have := HK1.out; have := HK2.out; omega⟩, by repeat (first | exact zx.refl _ | apply zx.step)⟩
      · rw [if_neg c3] at H
        have c3b0 : decide (x6_1 < (l1.length : Int)) = false := yhy c3
        clear c3
        obtain rfl := yey H
        go_wp2
        repeat (go_quiet (fail); try go_wp2)
        go_ret
        exact ⟨by first | rfl | (simp; done) | (simp [*]; done), by repeat (first | exact zx.refl _ | apply zx.step)⟩
structure zBe where
 p : List Int
 s : List Int
 u : List Int
 n : Int
def zBn (b v f to_ pm : Int) : Nat → List Int → List Int
 | 0, x => x
 | w + 1, x => if (w : Int) = v then zBn b v f to_ pm w x else (if (w : Int) = f then zBn b v f to_ pm w x else Lib.joi (zBn b v f to_ pm w x) (b + (w : Int)) (to_ + rd (qR pm) (w : Int)))
def zEu (b v f : Int) (x : zw) (q : zBe) : zBe := if x.f0 < 0 then ⟨q.p, q.s, q.u ++ [b + f], q.n + 1⟩ else ⟨zBn b v f (16 * x.f0 + 4 * rd (qR x.f1) v) x.f1 4 q.p, Lib.joi q.s (b + f) (16 * x.f0 + 4 * rd (qR x.f1) v + rd (qR x.f1) f), q.u ++ [b + f], q.n⟩
def Qn (t : List (List zw)) (a v : Int) : Nat → zBe → zBe
 | 0, q => q
 | f + 1, q => if (f : Int) = v then Qn t a v f q else zEu (16 * a + 4 * v) v (f : Int) (zI (zE t a) (f : Int)) (Qn t a v f q)
def zB0 (t : List (List zw)) (cs : List (List Int)) : Nat → zBe → zBe
 | 0, q => q
 | i + 1, q => Qn t (rd (qf cs (i : Int)) 0) (rd (qf cs (i : Int)) 1) 4 (zB0 t cs i q)
def zDp (t : List (List zw)) : zBe := ⟨Lib.ZA 0 (16 * t.length), Lib.ZA 0 (16 * t.length), [], 0⟩
def zFh (n : Nat) (x : zw) : Bool := decide (x.f0 < 0) || (decide (0 ≤ x.f0) && (decide (x.f0 < (n : Int)) && (decide (0 ≤ x.f1) && decide (x.f1 ≤ 23))))
def zFi (n : Nat) (c : List Int) : Bool := decide (c.length = 2) && ((decide (0 ≤ rd c 0) && decide (rd c 0 < (n : Int))) && (decide (0 ≤ rd c 1) && decide (rd c 1 ≤ 3)))
def zEv (t : List (List zw)) (cs : List (List Int)) : Bool := (decide (t.length ≤ 8) && decide (cs.length ≤ 32)) && (t.all (fun r => decide (r.length = 4) && r.all (zFh t.length)) && cs.all (zFi t.length))
theorem zHL {t : List (List zw)} {cs : List (List Int)} (h : zEv t cs = true) : t.length ≤ 8 ∧ cs.length ≤ 32 ∧ (∀ r ∈ t, r.length = 4) ∧ (∀ r ∈ t, ∀ x ∈ r, ¬ x.f0 < 0 → 0 ≤ x.f0 ∧ x.f0 < (t.length : Int) ∧ 0 ≤ x.f1 ∧ x.f1 ≤ 23) ∧ (∀ c ∈ cs, c.length = 2 ∧ 0 ≤ rd c 0 ∧ rd c 0 < (t.length : Int) ∧ 0 ≤ rd c 1 ∧ rd c 1 ≤ 3) := by
 unfold zEv at h
 simp only [Bool.and_eq_true, decide_eq_true_eq, List.all_eq_true] at h
 obtain ⟨⟨h1, h2⟩, h3, h4⟩ := h
 refine ⟨h1, h2, fun r hr => (h3 r hr).1, fun r hr x hx hb => ?_, fun c hc => ?_⟩
 next =>
  have := (h3 r hr).2 x hx
  unfold zFh at this
  simp only [Bool.or_eq_true, Bool.and_eq_true, decide_eq_true_eq] at this
  rcases this with a | ⟨a, b, c, d⟩
  next =>
   exact absurd a hb
  next =>
   exact ⟨a, b, c, d⟩
 next =>
  have := h4 c hc
  unfold zFi at this
  simp only [Bool.and_eq_true, decide_eq_true_eq] at this
  exact ⟨this.1, this.2.1.1, this.2.1.2, this.2.2.1, this.2.2.2⟩
def zHM (k : Nat) : Bool := decide (∀ (m : Fin 24) (f : Fin 4), qY.f k (m.val : Int) (f.val : Int) = some (rd (qR (m.val : Int)) (f.val : Int)))
theorem zHN {k : Nat} (h : zHM k = true) {p f : Int} (h0 : 0 ≤ p) (h1 : p ≤ 23) (h2 : 0 ≤ f) (h3 : f ≤ 3) : qY.f k p f = some (rd (qR p) f) := by
 unfold zHM at h
 rw [decide_eq_true_eq] at h
 obtain ⟨m, rfl⟩ : ∃ m : Fin 24, p = (m.val : Int) := ⟨⟨p.toNat, by omega⟩, by simp; omega⟩
 obtain ⟨n, rfl⟩ : ∃ m : Fin 4, f = (m.val : Int) := ⟨⟨f.toNat, by omega⟩, by simp; omega⟩
 exact h m n
structure zER (N M : Nat) (q : zBe) : Prop where
 lp : q.p.length = N
 ls : q.s.length = N
 u : ∀ v ∈ q.u, 0 ≤ v ∧ v < (N : Int)
 lu : q.u.length ≤ M
 n0 : 0 ≤ q.n
 n1 : q.n ≤ (M : Int)
theorem Jd (b v f to_ pm : Int) : ∀ (w : Nat) (x : List Int), (zBn b v f to_ pm w x).length = x.length
 | 0, x => rfl
 | w + 1, x => by
  have := Jd b v f to_ pm w x
  unfold zBn
  split
  next =>
   exact this
  next =>
   split
   next =>
    exact this
   next =>
    rw [Lib.Zh]; exact this
theorem zGc {N M : Nat} {q : zBe} (h : zER N M q) {b v f : Int} (x : zw) (h0 : 0 ≤ b + f) (h1 : b + f < (N : Int)) : zER N (M + 1) (zEu b v f x q) := by
 have hu : ∀ u ∈ q.u ++ [b + f], 0 ≤ u ∧ u < (N : Int) := fun u hu => by
  rcases List.mem_append.1 hu with hu | hu
  next =>
   exact h.u u hu
  next =>
   rw [List.mem_singleton.1 hu]; exact ⟨h0, h1⟩
 have hl : (q.u ++ [b + f]).length ≤ M + 1 := by rw [List.length_append]; have := h.lu; simp; omega
 have a := h.n0
 have c := h.n1
 unfold zEu
 split
 next =>
  exact ⟨h.lp, h.ls, hu, hl, by dsimp only; omega, by dsimp only; omega⟩
 next =>
  exact ⟨by dsimp only; rw [Jd]; exact h.lp, by dsimp only; rw [Lib.Zh]; exact h.ls, hu, hl, a, by dsimp only; omega⟩
theorem Je {N M : Nat} {t : List (List zw)} {a v : Int} (h0 : 0 ≤ a) (h1 : 16 * a + 16 ≤ (N : Int)) (h2 : 0 ≤ v) (h3 : v ≤ 3) {q : zBe} (h : zER N M q) : ∀ f : Nat, f ≤ 4 → zER N (M + f) (Qn t a v f q)
 | 0, _ => h
 | f + 1, hf => by
  have ih := Je (t := t) h0 h1 h2 h3 h f (by omega)
  unfold Qn
  split
  next =>
   exact ⟨ih.lp, ih.ls, ih.u, by have := ih.lu; omega, ih.n0, by have := ih.n1; omega⟩
  next =>
   exact zGc ih _ (by omega) (by omega)
theorem zAe {t : List (List zw)} {cs : List (List Int)} (hc : ∀ c ∈ cs, c.length = 2 ∧ 0 ≤ rd c 0 ∧ rd c 0 < (t.length : Int) ∧ 0 ≤ rd c 1 ∧ rd c 1 ≤ 3) {q : zBe} (h : zER (16 * t.length) 0 q) : ∀ i : Nat, i ≤ cs.length → zER (16 * t.length) (4 * i) (zB0 t cs i q)
 | 0, _ => h
 | i + 1, hi => by
  have ih := zAe hc h i (by omega)
  have e : qf cs (i : Int) = cs[i] := by simp [qf, show i < cs.length by omega]
  have h2 := hc cs[i] (yoy _)
  unfold zB0
  rw [e]
  exact Je h2.2.1 (by have := h2.2.2.1; omega) h2.2.2.2.1 h2.2.2.2.2 ih 4 (by omega)
theorem zAA (t : List (List zw)) : zER (16 * t.length) 0 (zDp t) := ⟨Lib.qL _ _, Lib.qL _ _, fun v hv => absurd hv (List.not_mem_nil), yry _, Int.le_refl _, Int.le_refl _⟩
theorem zGv {n : Nat} {a v f x pv pf : Int} (a0 : 0 ≤ a) (a1 : a < (n : Int)) (v0 : 0 ≤ v) (v1 : v ≤ 3) (f0 : 0 ≤ f) (f1 : f < 4) (x0 : 0 ≤ x) (x1 : x < (n : Int)) (p0 : 0 ≤ pv) (p1 : pv ≤ 3) (q0 : 0 ≤ pf) (q1 : pf ≤ 3) : 0 ≤ 16 * a + 4 * v + f ∧ 16 * a + 4 * v + f < ((16 * n : Nat) : Int) ∧ 0 ≤ 16 * x + 4 * pv + pf ∧ 16 * x + 4 * pv + pf < ((16 * n : Nat) : Int) := by
 refine ⟨by omega, by omega, by omega, by omega⟩
theorem num_wr {n : Nat} {x pv : Int} (hn : n ≤ 8) (x0 : 0 ≤ x) (x1 : x < (n : Int)) (p0 : 0 ≤ pv) (p1 : pv ≤ 3) : wrap64 (wrap64 (16 * x) + wrap64 (4 * pv)) = 16 * x + 4 * pv := by
 rw [Lib.qh (show -9223372036854775808 ≤ 16 * x by omega) (by omega), Lib.qh (show -9223372036854775808 ≤ 4 * pv by omega) (by omega), Lib.qh (by omega) (by omega)]
def ZK.f (k : Nat) (t : List (List zw)) (cs : List (List Int)) : Option (Int × Int × Int × Int) := if zEv t cs = true then ((if zHM k = true then (zv.f k (16 * (t.length : Int))) else none).bind fun u => if u = Lib.ZA 0 (16 * t.length) then ((ze.f k (zB0 t cs cs.length (zDp t)).p (zB0 t cs cs.length (zDp t)).u).bind fun p => (ze.f k (zB0 t cs cs.length (zDp t)).s (zB0 t cs cs.length (zDp t)).u).bind fun s => some (p, s, (cs.length : Int), (zB0 t cs cs.length (zDp t)).n)) else none) else none
structure zAS (w W : World) (m m2 : Nat) (A0 : Option Addr) (n c0 : Nat) (vP vS vU : Value) (q : zBe) : Prop where
 bT : W.heap[w.heap.size]? = some (.cells #[.slice A0 n c0] 35 (0, 0))
 rP : Kd.R (Kd.int .i64) 2 W w.heap.size (fun k => w.heap.size < k ∧ k < m) vP q.p
 rS : Kd.R (Kd.int .i64) 2 W w.heap.size (fun k => m ≤ k ∧ k < m2) vS q.s
 rU : Kd.R (Kd.int .i64) 2 W w.heap.size (fun k => m2 ≤ k) vU q.u
 below : Below w.heap.size w W
 mm : w.heap.size < m ∧ m ≤ m2 ∧ m2 ≤ W.heap.size
section
variable {w W W1 : World} {m m2 : Nat} {A0 : Option Addr} {n c0 : Nat} {vP vS vU vU1 : Value} {q : zBe}
theorem zAS.stays (h : zAS w W m m2 A0 n c0 vP vS vU q) (hb : Below W.heap.size W W1) : zAS w W1 m m2 A0 n c0 vP vS vU q := ⟨zO h.bT hb, Kd.qK h.rP hb, Kd.qK h.rS hb, Kd.qK h.rU hb, zM h.below hb, h.mm.1, h.mm.2.1, Nat.le_trans h.mm.2.2 hb.size⟩
theorem zAS.drew (h : zAS w W m m2 A0 n c0 vP vS vU q) : zAS w W.drew m m2 A0 n c0 vP vS vU q := ⟨h.bT, Kd.zV h.rP, Kd.zV h.rS, Kd.zV h.rU, zD h.below, h.mm⟩
theorem zAS.drewN (h : zAS w W m m2 A0 n c0 vP vS vU q) (d : Nat) : zAS w (W.drewN d) m m2 A0 n c0 vP vS vU q := h.stays (zB (ysy _ _) _)
theorem zAS.alloc (h : zAS w W m m2 A0 n c0 vP vS vU q) (o : Obj) : zAS w (W.alloc o) m m2 A0 n c0 vP vS vU q := h.stays (zC (ysy _ _) o)
theorem zAS.joinP (h : zAS w W m m2 A0 n c0 vP vS vU q) {p : List Int} (h1 : Kd.R (Kd.int .i64) 2 W1 w.heap.size (fun k => w.heap.size < k ∧ k < m) vP p) (h2 : Below w.heap.size w W1) (h3 : Kept W W1 (fun k => w.heap.size < k ∧ k < m)) : zAS w W1 m m2 A0 n c0 vP vS vU ⟨p, q.s, q.u, q.n⟩ :=
 ⟨ZE h.bT h3 (by omega), h1, Kd.Js h.rS h3 (fun k hk e => by omega), Kd.Js h.rU h3 (fun k hk e => by have := h.mm.2.1; omega), h2, h.mm.1, h.mm.2.1, Nat.le_trans h.mm.2.2 h3.1⟩
theorem zAS.joinS (h : zAS w W m m2 A0 n c0 vP vS vU q) {s : List Int} (h1 : Kd.R (Kd.int .i64) 2 W1 w.heap.size (fun k => m ≤ k ∧ k < m2) vS s) (h2 : Below w.heap.size w W1) (h3 : Kept W W1 (fun k => m ≤ k ∧ k < m2)) : zAS w W1 m m2 A0 n c0 vP vS vU ⟨q.p, s, q.u, q.n⟩ :=
 ⟨ZE h.bT h3 (by have := h.mm.1; omega), Kd.Js h.rP h3 (fun k hk e => by omega), h1, Kd.Js h.rU h3 (fun k hk e => by omega), h2, h.mm.1, h.mm.2.1, Nat.le_trans h.mm.2.2 h3.1⟩
theorem zAS.app (h : zAS w W m m2 A0 n c0 vP vS vU q) {u : List Int} (ho : Kd.R (Kd.int .i64) 2 W1 w.heap.size (fun k => m2 ≤ k) vU1 u) (hb : Below w.heap.size w W1) (hg : W.grownBy W1 vU.ownBlock) : zAS w W1 m m2 A0 n c0 vP vS vU1 ⟨q.p, q.s, u, q.n⟩ :=
 ⟨qm h.bT hg (Kd.zBw h.rU h.bT (by decide)), Kd.zDc h.rP hg (fun k hk e => by have := h.rU.1 k e.symm; have := h.mm.2.1; omega), Kd.zDc h.rS hg (fun k hk e => by have := h.rU.1 k e.symm; omega), ho, hb, h.mm.1, h.mm.2.1, Nat.le_trans h.mm.2.2 hg.size⟩
theorem zAS.more (h : zAS w W m m2 A0 n c0 vP vS vU q) (x : Int) : zAS w W m m2 A0 n c0 vP vS vU ⟨q.p, q.s, q.u, x⟩ := ⟨h.bT, h.rP, h.rS, h.rU, h.below, h.mm⟩
theorem zAS.cell (h : zAS w W m m2 A0 n c0 vP vS vU q) : W.cell? ⟨w.heap.size, 0, none⟩ = some (.slice A0 n c0) := (zL h.bT 0).trans rfl
end
set_option maxHeartbeats 8000000 in
set_option maxRecDepth 100000 in
theorem ZK.calls (k : Nat) (A0_0 : Option Addr) (c0_0 : Nat) (l0_0 : List (List zw)) (A1 : Option Addr) (c1 : Nat) (l1 : List (List Int)) (r1 r2 r3 r4 : Int) (w : World) (hr0_0 : Kd.C (Kd.slice 75 ZV) w A0_0 l0_0.length l0_0) (hc0_0 : l0_0.length ≤ c0_0) (hr1 : Kd.C (Kd.slice 2 (Kd.int .i64)) w A1 l1.length l1) (hc1 : l1.length ≤ c1) (h : ZK.f k l0_0 l1 = some (r1, r2, r3, r4)) :
 Calls Try.prog 54 #[.agg #[.slice A0_0 l0_0.length c0_0], .slice A1 l1.length c1] w fun e w' => e = .returned (.tuple #[.int .i64 r1, .int .i64 r2, .int .i64 r3, .int .i64 r4]) ∧ Below w.heap.size w w' := by
 unfold ZK.f at h
 by_cases hok : zEv l0_0 l1 = true
 case neg => rw [if_neg hok] at h; cases h
 rw [if_pos hok] at h
 obtain ⟨u, hu, h⟩ := ydy.mp h
 by_cases hat : zHM k = true
 case neg => rw [if_neg hat] at hu; cases hu
 rw [if_pos hat] at hu
 by_cases hup : u = Lib.ZA 0 (16 * l0_0.length)
 case neg => rw [if_neg hup] at h; cases h
 rw [if_pos hup] at h
 subst hup
 obtain ⟨p, hp, h⟩ := ydy.mp h
 obtain ⟨s, hs, h⟩ := ydy.mp h
 simp only [Option.some.injEq, Prod.mk.injEq] at h
 obtain ⟨rfl, rfl, rfl, hrn⟩ := h
 obtain ⟨hl8, hl32, h4, hf, hc⟩ := zHL hok
 have HR := zA.mk hr0_0
 have HC := zA.mk hc0_0
 have HR1 := zA.mk hr1
 have HP := zA.mk hp
 have HS := zA.mk hs
 have HN := zA.mk hrn
 have H4 := zA.mk h4
 have HF := zA.mk hf
 have HCS := zA.mk hc
 have HFR := zA.mk hu
 have HAT := zA.mk hat
 clear hr0_0 hc0_0 hr1 hc1 hp hs hrn h4 hf hc hok hu hat
 have B0 := zA.mk (Zq (W := w) rfl (.cells #[.slice A0_0 l0_0.length c0_0] 35))
 have HB := zA.mk (zC (ysy w.heap.size w) (.cells #[.slice A0_0 l0_0.length c0_0] 35))
 go_enter Try.func54, Try.ntmps54
 go_wp2_with fail
 generalize World.alloc w _ = w1 at B0 HB ⊢
 refine (qX.calls A0_0 c0_0 l0_0 (l0_0.length : Int) w1 (Kd.qI HR.out HB.out) HC.out rfl).mono ?_
 rintro e w2 ⟨rfl, hb⟩
 have B02 := zA.mk (zO B0.out hb)
 have HB2 := zA.mk (zM HB.out hb)
 clear B0 HB hb
 go_wp2_with fail
 refine (zv.calls k (16 * (l0_0.length : Int)) _ w2 HFR.out).mono ?_
 rintro e w3 ⟨vP, rfl, ho, hb⟩
 have HO := zA.mk (Kd.qp (Kd.zt (Kd.Zm ho) (ok' := fun k => w.heap.size < k ∧ k < w3.heap.size) (fun k hk => ⟨by have := qP B02.out; omega, hk.2.2.1⟩)) HB2.out.size)
 have B0 := zA.mk (zO B02.out hb)
 have HB := zA.mk (zM HB2.out hb)
 clear B02 HB2 ho hb
 have hT : w3.cell? ⟨w.heap.size, 0, none⟩ = some (.slice A0_0 l0_0.length c0_0) := (zL B0.out 0).trans rfl
 go_wp2_with fail
 refine (qX.calls A0_0 c0_0 l0_0 (l0_0.length : Int) w3 (Kd.qI HR.out HB.out) HC.out rfl).mono ?_
 rintro e w4 ⟨rfl, hb⟩
 have B02 := zA.mk (zO B0.out hb)
 have HB2 := zA.mk (zM HB.out hb)
 have HO2 := zA.mk (Kd.qK HO.out hb)
 have HM := zA.mk (show w.heap.size < w3.heap.size ∧ w3.heap.size ≤ w4.heap.size from ⟨qP B0.out, hb.size⟩)
 clear B0 HB HO hb hT
 go_wp2_with fail
 refine (zv.calls k (16 * (l0_0.length : Int)) _ w4 HFR.out).mono ?_
 rintro e w5 ⟨vS, rfl, ho, hb⟩
 generalize w3.heap.size = m at *
 have HO3 := zA.mk (Kd.qp (Kd.zt (Kd.Zm ho) (ok' := fun k => m ≤ k ∧ k < w5.heap.size) (fun k hk => ⟨by have := HM.out.2; omega, hk.2.2.1⟩)) HB2.out.size)
 have B0 := zA.mk (zO B02.out hb)
 have HO := zA.mk (Kd.qK HO2.out hb)
 have HB := zA.mk (zM HB2.out hb)
 have HMM := zA.mk (show w.heap.size < m ∧ m ≤ w5.heap.size from ⟨HM.out.1, Nat.le_trans HM.out.2 hb.size⟩)
 clear B02 HB2 HO2 HM ho hb
 go_wp2_with (first | ((with_reducible refine zu (N := 28) rfl ?_); refine Kd.zBP (Kd.int .i64) _ 2 ?hg (N := 28) ?hd (xs := ([] : List Int)) (inner := []) (ok := fun _ => True) (okp := fun _ => True) ?hr ?hp (fun _ hk => hk) trivial (ysy _ _) (yry _) (by simp) ?_; (case hd => rfl); (case hg => rfl); (case hr => first | (go_simp; done) | (go_simp; rfl)); (case hp => exact (Zz.none _ _)); intro vU w6 ho hb hg_ hnew_; clear hg_ hnew_; have HI : zA (zAS w w6 m w5.heap.size A0_0 l0_0.length c0_0 vP vS vU (zDp l0_0)) := ⟨⟨zO B0.out hb, Kd.qK HO.out hb, Kd.qK HO3.out hb, Kd.qp (Kd.zt (Kd.Zm ho) (ok' := fun k => w5.heap.size ≤ k) (fun k hk => hk.2.1)) HB.out.size, zM HB.out hb, HMM.out.1, HMM.out.2, hb.size⟩⟩; clear ho hb B0 HO HO3 HB HMM))
 generalize w5.heap.size = m2 at HI
 go_loopg [10, 11, 12] l1.length (fun gg v10 v11 v12 w' => ∃ i : Nat, i ≤ l1.length ∧ l1.length - i ≤ gg ∧ v11 = .int .i64 (zB0 l0_0 l1 i (zDp l0_0)).n ∧ v12 = .int .i64 i ∧ zA (zAS w w' m m2 A0_0 l0_0.length c0_0 vP vS v10 (zB0 l0_0 l1 i (zDp l0_0))))
 case atStart => exact ⟨0, Nat.zero_le _, by omega, rfl, rfl, HI⟩
 case round =>
  clear HI
  obtain ⟨i, hi, hg, rfl, rfl, HI⟩ := hrel
  have HL := zA.mk (zAe HCS.out (zAA l0_0) i hi)
  by_cases hlt : i < l1.length
  rotate_left
  next =>
   obtain rfl : i = l1.length := by omega
   rw [HN.out]
   generalize zB0 l0_0 l1 l1.length (zDp l0_0) = q at *
   obtain ⟨AP, cP, eP⟩ := Kd.qy HI.out.rP
   obtain ⟨AS, cS, eS⟩ := Kd.qy HI.out.rS
   obtain ⟨AU, cU, eU⟩ := Kd.qy HI.out.rU
   subst eP
   subst eS
   subst eU
   go_wp2_with fail
   refine (ze.calls k AP cP q.p AU cU q.u p wr (Kd.zo HI.out.rP).2.2 (Kd.zo HI.out.rP).2.1 (Kd.zo HI.out.rU).2.2 (Kd.zo HI.out.rU).2.1 HP.out).mono ?_
   rintro e w8 ⟨rfl, hd⟩
   have HI2 := zA.mk (HI.out.stays (zx.below hd))
   clear hd HI
   go_wp2_with fail
   refine (ze.calls k AS cS q.s AU cU q.u s w8 (Kd.zo HI2.out.rS).2.2 (Kd.zo HI2.out.rS).2.1 (Kd.zo HI2.out.rU).2.2 (Kd.zo HI2.out.rU).2.1 HS.out).mono ?_
   rintro e w9 ⟨rfl, hd⟩
   have HB := zA.mk (HI2.out.stays (zx.below hd)).below
   clear hd HI2
   go_wp2
   refine bodyPost_ret (zD5 (rs := [.tmp 4, .tmp 5, .tmp 6, .tmp 7]) rfl (by simp) (.tmp (.tmp (.tmp (.tmp .nil))))) rfl ?_
   exact ⟨rfl, HB.out⟩
  have hltz : (i : Int) < (l1.length : Int) := by omega
  obtain ⟨ad1, A3, c3, e4, hy, hl3, hi3⟩ := zCU HR1.out (i : Int) (by omega) hltz
  subst e4
  rw [yny] at hy
  have ex : qf l1 (i : Int) = l1[i] := by simp [qf, hlt]
  have hcc := HCS.out l1[i] (yoy hlt)
  have HNX := zA.mk (show zB0 l0_0 l1 (i + 1) (zDp l0_0) = Qn l0_0 (rd (qf l1 (i : Int)) 0) (rd (qf l1 (i : Int)) 1) 4 (zB0 l0_0 l1 i (zDp l0_0)) from rfl)
  rw [← ex] at hcc
  obtain ⟨hc2, ha0, ha1, hv0, hv1⟩ := hcc
  obtain ⟨ada, ea, hya⟩ := Kd.qz hi3 0 (by omega) (by omega)
  obtain ⟨adv, ev, hyv⟩ := Kd.qz hi3 1 (by omega) (by omega)
  subst ea
  obtain rfl : ada = adv := by injection ev
  clear ev hl3 hi3 ex
  rw [hc2] at hy
  replace hy := (HI.out.below.cell (yqy w _ hy)).trans hy
  replace hya := (HI.out.below.cell (yqy w _ hya)).trans hya
  replace hyv := (HI.out.below.cell (yqy w _ hyv)).trans hyv
  replace hya : wr.cell? ada = some (.int .i64 (rd (qf l1 (i : Int)) 0)) := hya
  replace hyv : wr.cell? ⟨ada.block, ada.off + 1, none⟩ = some (.int .i64 (rd (qf l1 (i : Int)) 1)) := hyv
  generalize rd (qf l1 (i : Int)) 0 = a at *
  generalize rd (qf l1 (i : Int)) 1 = v at *
  clear hc2
  generalize zB0 l0_0 l1 i (zDp l0_0) = q at *
  have hn0 := HL.out.n0
  have hn1 := HL.out.n1
  go_wp2
  go_quiet (fail)
  try go_wp2
  clear hy hya hyv
  have HI0 := HI
  go_loopg [10, 11, 15] 4 (fun gg v10 v11 v15 w' => ∃ f : Nat, f ≤ 4 ∧ 4 - f ≤ gg ∧ v11 = .int .i64 (Qn l0_0 a v f q).n ∧ v15 = .int .i64 f ∧ zA (zAS w w' m m2 A0_0 l0_0.length c0_0 vP vS v10 (Qn l0_0 a v f q)))
  case atStart => exact ⟨0, by omega, by omega, rfl, rfl, ⟨HI0.out.drewN _⟩⟩
  case round =>
   clear HI HI0
   obtain ⟨f, hf4, hgf, rfl, rfl, HI⟩ := hrel
   have HLF := zA.mk (Je (t := l0_0) ha0 (by omega) hv0 hv1 HL.out f hf4)
   by_cases hlf : f < 4
   rotate_left
   next =>
    obtain rfl : f = 4 := by omega
    go_wp2
    go_roundg (l1.length - (i + 1))
    case measure => omega
    case rel => exact ⟨i + 1, by omega, yry _, by rw [HNX.out], by go_num, ⟨by rw [HNX.out]; exact HI.out⟩⟩
   have HNF := zA.mk (show Qn l0_0 a v (f + 1) q = if (f : Int) = v then Qn l0_0 a v f q else zEu (16 * a + 4 * v) v (f : Int) (zI (zE l0_0 a) (f : Int)) (Qn l0_0 a v f q) from rfl)
   generalize Qn l0_0 a v f q = q1 at *
   have hlfz : (f : Int) < 4 := by omega
   by_cases e : (f : Int) = v
   next =>
    have HNF2 := zA.mk (HNF.out.trans (if_pos e))
    have eb : ((f : Int) == v) = true := by rw [e]; exact beq_self_eq_true _
    clear HNF
    go_wp2
    go_roundg (4 - (f + 1))
    case measure => omega
    case rel => exact ⟨f + 1, by omega, by omega, by rw [HNF2.out], by go_num, ⟨by rw [HNF2.out]; exact HI.out⟩⟩
   next =>
    have HNF2 := zA.mk (HNF.out.trans (if_neg e))
    have eb : ((f : Int) == v) = false := by simpa using e
    have HE := zA.mk e
    clear HNF e
    obtain ⟨ay, A4, c4, e4, hz, hl4, hi4⟩ := ZS HR.out a ha0 ha1
    subst e4
    have hrl : (zE l0_0 a).length = 4 := by
     obtain ⟨d, rfl⟩ := Int.eq_ofNat_of_zero_le ha0
     have hd : d < l0_0.length := by omega
     have e : zE l0_0 (d : Int) = l0_0[d] := by simp [zE, hd]
     rw [e]; exact H4.out _ (yoy _)
    have HFB := zA.mk (show ¬ (zI (zE l0_0 a) (f : Int)).f0 < 0 → 0 ≤ (zI (zE l0_0 a) (f : Int)).f0 ∧ (zI (zE l0_0 a) (f : Int)).f0 < (l0_0.length : Int) ∧ 0 ≤ (zI (zE l0_0 a) (f : Int)).f1 ∧ (zI (zE l0_0 a) (f : Int)).f1 ≤ 23 from by
     obtain ⟨d, rfl⟩ := Int.eq_ofNat_of_zero_le ha0
     have hd : d < l0_0.length := by omega
     have e : zE l0_0 (d : Int) = l0_0[d] := by simp [zE, hd]
     rw [e] at hrl ⊢
     have hlf' : f < l0_0[d].length := by omega
     have e2 : zI l0_0[d] (f : Int) = l0_0[d][f] := by simp [zI, hlf']
     rw [e2]
     exact fun hq => HF.out l0_0[d] (yoy hd) l0_0[d][f] (yoy hlf') (by omega))
    obtain ⟨az, e5, hz0, hz1⟩ := QD hi4 (f : Int) (by omega) (by omega)
    subst e5
    rw [hrl] at hz
    have hrl4 := eq_true (show (f : Int) < 4 by omega)
    rw [yny] at hz0 hz1
    clear hl4 hi4 hrl
    generalize zI (zE l0_0 a) (f : Int) = x at *
    obtain ⟨f0, f1⟩ := x
    have p1 := eq_true ha0
    have p2 := eq_true ha1
    have hul := HLF.out.lu
    by_cases hb : f0 < 0
    next =>
     have HNF := zA.mk (HNF2.out.trans (show zEu (16 * a + 4 * v) v (f : Int) ⟨f0, f1⟩ q1 = ⟨q1.p, q1.s, q1.u ++ [16 * a + 4 * v + (f : Int)], q1.n + 1⟩ from if_pos hb))
     have hn2 := HLF.out.n0
     have hn3 := HLF.out.n1
     clear HFB HNF2
     go_wp2_with (first | ((with_reducible refine ZM (b := .append) (xs := #[.tmp 59, .tmp 63]) rfl ?_); at_builtin; refine Kd.Qi (Kd.int .i64) (w0 := w) w.heap.size rfl (.tmp 59) (.tmp 63) 22 2 (.int .i64 0) 8 rfl Try.underlying22 Jo rfl (by decide) (by omega) u10 q1.u (16 * a + 4 * v + (f : Int)) [.int .i64 (16 * a + 4 * v + (f : Int))] (fun k => m2 ≤ k) (fun _ => False) rfl rfl ?aP (fun _ hk => hk.elim) ?aF ?aO ?aB ?aS ?aL ?_; (case aP => exact rfl); (case aB => exact HI.out.below); (case aF => exact fun k hk => Nat.le_trans HI.out.mm.2.2 hk); (case aO => exact HI.out.rU); (case aS => exact HI.out.below.size); (case aL => omega); intro vU2 w7 ho hb hg_ hat_; clear hat_; have HI2 := zA.mk (HI.out.app ho hb hg_); have hT := HI2.out.cell; clear ho hb hg_ HI; replace hz := (HI2.out.below.cell (yqy w _ hz)).trans hz; replace hz0 := (HI2.out.below.cell (yqy w _ hz0)).trans hz0; replace hz1 := (HI2.out.below.cell (yqy w _ hz1)).trans hz1))
     go_roundg (4 - (f + 1))
     case measure => omega
     case rel => exact ⟨f + 1, by omega, by omega, by rw [HNF.out], by go_num, ⟨by rw [HNF.out]; exact (HI2.out.alloc _).more _⟩⟩
    next =>
     have HNF := zA.mk (HNF2.out.trans (show zEu (16 * a + 4 * v) v (f : Int) ⟨f0, f1⟩ q1 = ⟨zBn (16 * a + 4 * v) v (f : Int) (16 * f0 + 4 * rd (qR f1) v) f1 4 q1.p, Lib.joi q1.s (16 * a + 4 * v + (f : Int)) (16 * f0 + 4 * rd (qR f1) v + rd (qR f1) (f : Int)), q1.u ++ [16 * a + 4 * v + (f : Int)], q1.n⟩ from if_neg hb))
     obtain ⟨hf0, hf1, hp0, hp1⟩ := HFB.out hb
     have HPM := zA.mk (show ∀ i : Int, 0 ≤ i → i < 4 → 0 ≤ rd (qR f1) i ∧ rd (qR f1) i ≤ 3 from fun i h0 h1 => by obtain ⟨a, b, c, d⟩ := Jz f1 hp0 hp1; exact zA8 a b c d i h0 (by omega))
     have HAJ := zA.mk (show ∀ i : Int, 0 ≤ i → i < 4 → qY.f k f1 i = some (rd (qR f1) i) from fun i h0 h1 => zHN HAT.out hp0 hp1 h0 (by omega))
     have HAV := zA.mk (HAJ.out v hv0 (by omega))
     have HAF := zA.mk (HAJ.out (f : Int) (by omega) hlfz)
     obtain ⟨hpv0, hpv1⟩ := HPM.out v hv0 (by omega)
     obtain ⟨hpf0, hpf1⟩ := HPM.out (f : Int) (by omega) hlfz
     clear HNF2 HFB hp0 hp1
     go_wp2_with (first | ((with_reducible refine ZM (b := .append) (xs := #[.tmp 59, .tmp 63]) rfl ?_); at_builtin; refine Kd.Qi (Kd.int .i64) (w0 := w) w.heap.size rfl (.tmp 59) (.tmp 63) 22 2 (.int .i64 0) 8 rfl Try.underlying22 Jo rfl (by decide) (by omega) u10 q1.u (16 * a + 4 * v + (f : Int)) [.int .i64 (16 * a + 4 * v + (f : Int))] (fun k => m2 ≤ k) (fun _ => False) rfl rfl ?aP (fun _ hk => hk.elim) ?aF ?aO ?aB ?aS ?aL ?_; (case aP => exact rfl); (case aB => exact HI.out.below); (case aF => exact fun k hk => Nat.le_trans HI.out.mm.2.2 hk); (case aO => exact HI.out.rU); (case aS => exact HI.out.below.size); (case aL => omega); intro vU2 w7 ho hb hg_ hat_; clear hat_; have HI2 := zA.mk (HI.out.app ho hb hg_); have hT := HI2.out.cell; clear ho hb hg_ HI; replace hz := (HI2.out.below.cell (yqy w _ hz)).trans hz; replace hz0 := (HI2.out.below.cell (yqy w _ hz0)).trans hz0; replace hz1 := (HI2.out.below.cell (yqy w _ hz1)).trans hz1))
     have BF := zA.mk (Zq (W := w7) rfl (.cells #[.int .i64 f0, .int .i64 f1] 75))
     have HI := zA.mk (HI2.out.alloc (.cells #[.int .i64 f0, .int .i64 f1] 75))
     have HGF := zA.mk (show m2 ≤ w7.heap.size from HI2.out.mm.2.2)
     clear HI2 hz hz0 hz1 hT hb
     generalize World.alloc w7 _ = w9 at HI BF ⊢
     generalize w7.heap.size = gf at BF HGF ⊢
     generalize rd (qR f1) v = pv at *
     generalize rd (qR f1) (f : Int) = pf at *
     refine QG (n := 10) (S := fun w' => w'.cell? ⟨gf, 0, none⟩ = some (.int .i64 f0) ∧ w'.cell? ⟨gf, 1, none⟩ = some (.int .i64 f1)) (ds := []) #[false, false, false, false, false, false, false, false, false, false] (by kernel_rfl) rfl rfl ⟨(zL BF.out 0).trans rfl, (zL BF.out 1).trans rfl⟩ (fun hHeld => ?_)
     have HI2 := zA.mk HI.out.drew
     have BF2 := zA.mk (zJ BF.out)
     clear HI BF
     have HI := HI2
     have BF := BF2
     clear HI2 BF2
     generalize w9.drew = w10 at HI BF hHeld ⊢
     refine zp (i := 0) (N := some 78) (v := ?_) (a' := ?_) #[true, false, false, false, false, false, false, false, false, false] rfl rfl (by kernel_rfl) (fun _ _ _ h => h) (Or.inl ⟨by rfl, ?_⟩) ?_ ?_
     rotate_left
     next =>
      intro w'
      go_simp
      with_reducible rfl
     rotate_left
     next =>
      simp only [Act.put, yay, yby, ycy, za, zb]
      rfl
     refine ZR (i := 1) (N := some 79) (v := ?_) (a' := ?_) #[true, true, false, false, false, false, false, false, false, false] rfl rfl (by kernel_rfl) (fun _ _ _ h => h) (Or.inl ⟨by rfl, ?_⟩) hHeld ?_ ?_
     rotate_left
     next =>
      rintro w' ⟨s0, s1⟩
      go_simp
      with_reducible rfl
     rotate_left
     next =>
      simp only [Act.put, yay, yby, ycy, za, zb]
      rfl
     refine zp (i := 2) (N := some 80) (v := ?_) (a' := ?_) #[true, true, true, false, false, false, false, false, false, false] rfl rfl (by kernel_rfl) (fun _ _ _ h => h) (Or.inl ⟨by rfl, ?_⟩) ?_ ?_
     rotate_left
     next =>
      intro w'
      go_simp
      with_reducible rfl
     rotate_left
     next =>
      simp only [Act.put, yay, yby, ycy, za, zb]
      rfl
     refine zp (i := 3) (N := some 81) (v := ?_) (a' := ?_) #[true, true, true, true, false, false, false, false, false, false] rfl rfl (by kernel_rfl) (fun _ _ _ h => h) (Or.inl ⟨by rfl, ?_⟩) ?_ ?_
     rotate_left
     next =>
      intro w'
      go_simp
      with_reducible rfl
     rotate_left
     next =>
      simp only [Act.put, yay, yby, ycy, za, zb]
      rfl
     refine ZR (i := 4) (N := some 82) (v := ?_) (a' := ?_) #[true, true, true, true, true, false, false, false, false, false] rfl rfl (by kernel_rfl) (fun _ _ _ h => h) (Or.inl ⟨by rfl, ?_⟩) hHeld ?_ ?_
     rotate_left
     next =>
      rintro w' ⟨s0, s1⟩
      go_simp
      with_reducible rfl
     rotate_left
     next =>
      simp only [Act.put, yay, yby, ycy, za, zb]
      rfl
     refine zp (i := 5) (N := some 83) (v := ?_) (a' := ?_) #[true, true, true, true, true, true, false, false, false, false] rfl rfl (by kernel_rfl) (fun _ _ _ h => h) (Or.inl ⟨by rfl, ?_⟩) ?_ ?_
     rotate_left
     next =>
      intro w'
      go_simp
      with_reducible rfl
     rotate_left
     next =>
      simp only [Act.put, yay, yby, ycy, za, zb]
      rfl
     refine zAH (i := 6) (N := some 84) #[true, true, true, true, true, true, true, false, false, false] rfl rfl (by kernel_rfl) (by decide) (fun K hK => ?_)
     refine QQ Try.func82 (by kernel_rfl) rfl #[.int .i64 f1, .int .i64 v] (by rfl) rfl rfl (by (try simp only [yiy, yjy, yky]); first | done | rfl) ?_
     refine (qY.calls k f1 v pv _ HAV.out).mono ?_
     rintro e w8 ⟨rfl, hb⟩
     refine ⟨_, rfl, ?_⟩
     have HI2 := zA.mk (HI.out.stays hb)
     have BF2 := zA.mk (zO BF.out hb)
     clear HI BF
     have HI := HI2
     have BF := BF2
     clear HI2 BF2
     clear hb
     refine hK.out _ _ ⟨(zL BF.out 0).trans rfl, (zL BF.out 1).trans rfl⟩ (fun hHeld => ?_)
     clear hK K
     refine QH (a' := ?_) ?_ ?_
     rotate_left
     next =>
      show Act.put _ (some 84) _ = _
      simp only [Act.put, yay, yby, ycy, za, zb]
      rfl
     refine zp (i := 7) (N := some 85) (v := ?_) (a' := ?_) #[true, true, true, true, true, true, true, true, false, false] rfl rfl (by kernel_rfl) (fun _ _ _ h => h) (Or.inl ⟨by rfl, ?_⟩) ?_ ?_
     rotate_left
     next =>
      intro w'
      go_simp
      with_reducible rfl
     rotate_left
     next =>
      simp only [Act.put, yay, yby, ycy, za, zb]
      rfl
     refine zp (i := 8) (N := some 86) (v := ?_) (a' := ?_) #[true, true, true, true, true, true, true, true, true, false] rfl rfl (by kernel_rfl) (fun _ _ _ h => h) (Or.inl ⟨by rfl, ?_⟩) ?_ ?_
     rotate_left
     next =>
      intro w'
      go_simp
      with_reducible rfl
     rotate_left
     next =>
      simp only [Act.put, yay, yby, ycy, za, zb]
      rfl
     refine zp (i := 9) (N := some 18) (v := ?_) (a' := ?_) #[true, true, true, true, true, true, true, true, true, true] rfl rfl (by kernel_rfl) (fun _ _ _ h => h) (Or.inl ⟨by rfl, ?_⟩) ?_ ?_
     rotate_left
     next =>
      intro w'
      go_simp
      with_reducible rfl
     rotate_left
     next =>
      simp only [Act.put, yay, yby, ycy, za, zb]
      rfl
     refine JE (by kernel_rfl) ?_
     clear hHeld
     rw [num_wr hl8 hf0 hf1 hpv0 hpv1]
     have hb1 := (zL BF.out 1).trans (show _ = some (Value.int .i64 f1) from rfl)
     go_wp2_with fail
     refine (qY.calls k f1 (f : Int) pf _ HAF.out).mono ?_
     rintro e w11 ⟨rfl, hb⟩
     have HI2 := zA.mk (HI.out.stays hb)
     have BF2 := zA.mk (zO BF.out hb)
     clear HI BF
     have HI := HI2
     have BF := BF2
     clear HI2 BF2
     clear hb hb1
     go_wp2_with fail
     refine (qj.calls (fun k => m ≤ k ∧ k < m2) vS q1.s (16 * a + 4 * v + (f : Int)) (16 * f0 + 4 * pv + pf) _ w w11 HI.out.below HI.out.rS (if_pos (by rw [HLF.out.ls]; exact zGv ha0 ha1 hv0 hv1 (Int.natCast_nonneg f) hlfz hf0 hf1 hpv0 hpv1 hpf0 hpf1))).mono ?_
     rintro e w12 ⟨rfl, h1, h2, h3⟩
     have HI2 := zA.mk (HI.out.joinS h1 h2 h3)
     have BF2 := zA.mk (ZE BF.out h3 (fun e => Nat.lt_irrefl _ (Nat.lt_of_lt_of_le e.2 HGF.out)))
     clear HI BF
     have HI := HI2
     have BF := BF2
     clear HI2 BF2
     clear h1 h2 h3 HAV HAF
     go_wp2
     go_loopg [19] 4 (fun gg v19 w' => ∃ j : Nat, j ≤ 4 ∧ 4 - j ≤ gg ∧ v19 = .int .i64 j ∧ zA (zAS w w' m m2 (some ay) l0_0.length c0_0 vP vS vU2 ⟨zBn (16 * a + 4 * v) v (f : Int) (16 * f0 + 4 * pv) f1 j q1.p, Lib.joi q1.s (16 * a + 4 * v + (f : Int)) (16 * f0 + 4 * pv + pf), q1.u ++ [16 * a + 4 * v + (f : Int)], q1.n⟩) ∧ zA (w'.heap[gf]? = some (.cells #[.int .i64 f0, .int .i64 f1] 75 (0, 0))))
     case atStart => exact ⟨0, by omega, by omega, rfl, HI, BF⟩
     case round =>
      clear HI BF
      obtain ⟨j, hj4, hgj, rfl, HI, BF⟩ := hrel
      by_cases hlj : j < 4
      rotate_left
      next =>
       obtain rfl : j = 4 := by omega
       go_wp2
       go_roundg (4 - (f + 1))
       case measure => omega
       case rel => exact ⟨f + 1, by omega, by omega, by rw [HNF.out], by go_num, ⟨by rw [HNF.out]; exact HI.out⟩⟩
      have hljz : (j : Int) < 4 := by omega
      have HW := zA.mk (show zBn (16 * a + 4 * v) v (f : Int) (16 * f0 + 4 * pv) f1 (j + 1) q1.p = if (j : Int) = v then zBn (16 * a + 4 * v) v (f : Int) (16 * f0 + 4 * pv) f1 j q1.p else (if (j : Int) = (f : Int) then zBn (16 * a + 4 * v) v (f : Int) (16 * f0 + 4 * pv) f1 j q1.p else Lib.joi (zBn (16 * a + 4 * v) v (f : Int) (16 * f0 + 4 * pv) f1 j q1.p) (16 * a + 4 * v + (j : Int)) (16 * f0 + 4 * pv + rd (qR f1) (j : Int))) from rfl)
      have HWL := zA.mk (Jd (16 * a + 4 * v) v (f : Int) (16 * f0 + 4 * pv) f1 j q1.p)
      generalize zBn (16 * a + 4 * v) v (f : Int) (16 * f0 + 4 * pv) f1 j q1.p = wj at *
      by_cases e1 : (j : Int) = v
      next =>
       have HW2 := zA.mk (HW.out.trans (if_pos e1))
       have b1 : ((j : Int) != v) = false := by rw [e1]; simp
       clear HW
       go_wp2
       go_roundg (4 - (j + 1))
       case measure => omega
       case rel => exact ⟨j + 1, by omega, by omega, by go_num, ⟨by rw [HW2.out]; exact HI.out⟩, BF⟩
      next =>
       have b1 : ((j : Int) != v) = true := by simpa using e1
       by_cases e2 : (j : Int) = (f : Int)
       next =>
        have HW2 := zA.mk (HW.out.trans ((if_neg e1).trans (if_pos e2)))
        have b2 : ((j : Int) != (f : Int)) = false := by rw [e2]; simp
        clear HW e1 e2
        go_wp2
        go_roundg (4 - (j + 1))
        case measure => omega
        case rel => exact ⟨j + 1, by omega, by omega, by go_num, ⟨by rw [HW2.out]; exact HI.out⟩, BF⟩
       next =>
        have HW2 := zA.mk (HW.out.trans ((if_neg e1).trans (if_neg e2)))
        have b2 : ((j : Int) != (f : Int)) = true := by simpa using e2
        have HAF := zA.mk (HAJ.out (j : Int) (by omega) hljz)
        obtain ⟨hpj0, hpj1⟩ := HPM.out (j : Int) (by omega) hljz
        generalize rd (qR f1) (j : Int) = pj at *
        have hb1 := (zL BF.out 1).trans (show _ = some (Value.int .i64 f1) from rfl)
        clear HW e1 e2
        go_wp2_with fail
        refine (qY.calls k f1 (j : Int) pj _ HAF.out).mono ?_
        rintro e w11 ⟨rfl, hb⟩
        have HI2 := zA.mk (HI.out.stays hb)
        have BF2 := zA.mk (zO BF.out hb)
        clear HI BF
        have HI := HI2
        have BF := BF2
        clear HI2 BF2
        clear hb hb1
        go_wp2_with fail
        refine (qj.calls (fun k => w.heap.size < k ∧ k < m) vP wj (16 * a + 4 * v + (j : Int)) (16 * f0 + 4 * pv + pj) _ w w11 HI.out.below HI.out.rP (if_pos (by rw [HWL.out, HLF.out.lp]; exact zGv ha0 ha1 hv0 hv1 (Int.natCast_nonneg j) hljz hf0 hf1 hpv0 hpv1 hpj0 hpj1))).mono ?_
        rintro e w12 ⟨rfl, h1, h2, h3⟩
        have HI2 := zA.mk (HI.out.joinP h1 h2 h3)
        have BF2 := zA.mk (ZE BF.out h3 (fun e => Nat.lt_irrefl _ (Nat.lt_of_lt_of_le e.2 (Nat.le_trans HI.out.mm.2.1 HGF.out))))
        clear HI BF
        have HI := HI2
        have BF := BF2
        clear HI2 BF2
        clear h1 h2 h3 HAF
        go_wp2
        go_roundg (4 - (j + 1))
        case measure => omega
        case rel => exact ⟨j + 1, by omega, by omega, by go_num, ⟨by rw [HW2.out]; exact HI.out⟩, BF⟩
def Zc.f (k : Nat) (l0_0 : List (List (zw))) (a1 : Int) : Option (Int × Int) := (ZZ.f k l0_0 a1).bind fun bt102 => (if bt102.2 = 0 then ((ZK.f k l0_0 bt102.1).bind fun bt106 => (some (wrap64 ((wrap64 (bt106.1 - bt106.2.1)) + bt106.2.2.1), 0))) else (some (0, bt102.2)))
set_option maxHeartbeats 8000000 in
set_option maxRecDepth 100000 in
theorem Zc.calls (k : Nat) (A0_0 : Option Addr) (c0_0 : Nat) (l0_0 : List (List (zw))) (a1 : Int) (r1 : Int) (r2 : Int) (w : World) (hr0_0 : Kd.C (Kd.slice 75 ZV) w A0_0 l0_0.length l0_0) (hc0_0 : l0_0.length ≤ c0_0) (h : Zc.f k l0_0 a1 = some (r1, r2)) :
    Calls Try.prog 27 #[.agg #[.slice A0_0 l0_0.length c0_0], .int .i64 a1] w fun e w' => e = .returned (.tuple #[.int .i64 r1, .int .i64 r2]) ∧ Below w.heap.size w w' := by
  have hu35 := Try.underlying35
  have HR0_0 := zA.mk hr0_0
  have HC0_0 := zA.mk hc0_0
  clear hr0_0 hc0_0
  have HB := zA.mk (ysy w.heap.size w)
  have H : ((ZZ.f k l0_0 a1).bind fun bt102 => (if bt102.2 = 0 then ((ZK.f k l0_0 bt102.1).bind fun bt106 => (some (wrap64 ((wrap64 (bt106.1 - bt106.2.1)) + bt106.2.2.1), 0))) else (some (0, bt102.2)))) = some (r1, r2) := h
  clear h
  replace H := ydy.mp H
  obtain ⟨⟨t102, t105⟩, A30, H⟩ := H
  replace H : (if t105 = 0 then ((ZK.f k l0_0 t102).bind fun bt106 => (some (wrap64 ((wrap64 (bt106.1 - bt106.2.1)) + bt106.2.2.1), 0))) else (some (0, t105))) = some (r1, r2) := H
  have A3 := zA.mk A30
  clear A30
  by_cases c4 : t105 = 0
  · rw [if_pos c4] at H
    have c4b0 : (t105 == 0) = true := beq_iff_eq.mpr c4
    have c4b1 : (t105 != 0) = false := bne_eq_false_iff_eq.mpr c4
    clear c4
    replace H := ydy.mp H
    obtain ⟨⟨t106, t107, t108, t109⟩, A50, H⟩ := H
    replace H : (some (wrap64 ((wrap64 (t106 - t107)) + t108), 0)) = some (r1, r2) := H
    have A5 := zA.mk A50
    clear A50
    simp only [Option.some.injEq, Prod.mk.injEq] at H
    obtain ⟨rfl, rfl⟩ := H
    go_enter Try.func27, Try.ntmps27
    go_wp2_with (first | ((with_reducible refine zu (N := 2) rfl ?_); refine zy ?hg (N := 2) ?hd (cs := #[.slice A0_0 l0_0.length c0_0]) (t := 35) ?hr ?_; (case hd => rfl); (case hg => rfl); (case hr => first | (go_simp; done) | (go_simp; rfl)); intro gb101 hg w6 hbox hb; have n0_ := zA.mk (zM (by repeat (first | (with_reducible first | exact HB.out | apply zC | apply zB | apply zD) | exact HB.out)) hb); have n1_ := zA.mk (hbox); have n2_ := zA.mk ((by rw [hg]; exact (zP (by repeat (first | (with_reducible first | exact HB.out | apply zC | apply zB | apply zD) | exact HB.out))) : w.heap.size ≤ gb101)); have n3_ := zA.mk ((by rw [hg]; exact (zP (by repeat (first | (with_reducible first | exact HB.out | apply zC | apply zB | apply zD) | exact HB.out))) : w.heap.size ≤ gb101)); clear HB; have HB := n0_; have BK101 := n1_; have GW101 := n2_; have GE101 := n3_; clear n0_ n1_ n2_ n3_; clear hb hbox hg; have hcz7_0 : w6.cell? ⟨gb101, 0, none⟩ = some (.slice A0_0 l0_0.length c0_0) := (zL BK101.out 0).trans rfl; have hfz7_0 := zN BK101.out 0) | ((with_reducible refine zZ (f := 17) rfl ?_); refine qQ (some 15) rfl rfl Try.func17 (by kernel_rfl) rfl #[.agg #[.slice A0_0 l0_0.length c0_0], .int .i64 a1] rfl (by (try simp only [yiy, yjy, yky]); first | done | rfl | (simp only [yly, ymy]; rfl)) ?_; (with_reducible refine (ZZ.calls k _ _ l0_0 a1 t102 t105 _ ?side1 ?side2 A3.out).mono ?_); (case side1 => repeat (first | exact (Kd.qI HR0_0.out HB.out) | (with_reducible refine Kd.qD ?_ _) | (with_reducible refine Kd.qE ?_ _) | (with_reducible refine Kd.qN ?_))); (case side2 => exact HC0_0.out); rintro e w8 ⟨v103, rfl, ho0, hb⟩; refine ⟨_, rfl, ?_⟩; have n0_ := zA.mk (Kd.QC ho0 (zP (by repeat (first | (with_reducible first | exact HB.out | apply zC | apply zB | apply zD | refine zF ?_ GE101.out) | exact HB.out)))); have n1_ := zA.mk (zO (g := gb101) (o := .cells #[.slice A0_0 l0_0.length c0_0] 35 (0, 0)) (by (with_reducible repeat (first | refine zH ?_ _ | refine zJ ?_ | refine zG ?_ _)); exact BK101.out) hb); have n2_ := zA.mk (zM (by repeat (first | (with_reducible first | exact HB.out | apply zC | apply zB | apply zD | refine zF ?_ GE101.out) | exact HB.out)) hb); clear BK101; clear HB; have HO104 := n0_; have BK101 := n1_; have HB := n2_; clear n0_ n1_ n2_; (try clear hb); (try clear hb2); (try clear hk); (try clear hi); (try clear ho0); have hcz9_0 : w8.cell? ⟨gb101, 0, none⟩ = some (.slice A0_0 l0_0.length c0_0) := (zL BK101.out 0).trans rfl; have hfz9_0 := zN BK101.out 0; obtain ⟨Ao10, co10, eo10⟩ := Kd.QW HO104.out; subst eo10) | ((with_reducible refine zZ (f := 54) rfl ?_); refine qQ (some 24) rfl rfl Try.func54 (by kernel_rfl) rfl #[.agg #[.slice A0_0 l0_0.length c0_0], .slice Ao10 t102.length co10] rfl (by (try simp only [yiy, yjy, yky]); first | done | rfl | (simp only [yly, ymy]; rfl)) ?_; (with_reducible refine (ZK.calls k _ _ l0_0 _ _ t102 t106 t107 t108 t109 _ ?side1 ?side2 ?side3 ?side4 A5.out).mono ?_); (case side1 => repeat (first | exact (Kd.qI HR0_0.out HB.out) | (with_reducible refine Kd.qD ?_ _) | (with_reducible refine Kd.qE ?_ _) | (with_reducible refine Kd.qN ?_))); (case side2 => exact HC0_0.out); (case side3 => repeat (first | exact (Kd.ZO HO104.out).2.2 | (with_reducible refine Kd.qD ?_ _) | (with_reducible refine Kd.qE ?_ _) | (with_reducible refine Kd.qN ?_))); (case side4 => exact (Kd.ZO HO104.out).2.1); rintro e w11 ⟨rfl, hb⟩; refine ⟨_, rfl, ?_⟩; have n0_ := zA.mk (Kd.QR (by (with_reducible repeat (first | apply Kd.zj | apply Kd.zk | apply Kd.zz)); exact HO104.out) hb); have n1_ := zA.mk (zO (g := gb101) (o := .cells #[.slice A0_0 l0_0.length c0_0] 35 (0, 0)) (by (with_reducible repeat (first | refine zH ?_ _ | refine zJ ?_ | refine zG ?_ _)); exact BK101.out) hb); have n2_ := zA.mk (zM (by repeat (first | (with_reducible first | exact HB.out | apply zC | apply zB | apply zD | refine zF ?_ GE101.out) | exact HB.out)) hb); clear HO104; clear BK101; clear HB; have HO104 := n0_; have BK101 := n1_; have HB := n2_; clear n0_ n1_ n2_; (try clear hb); (try clear hb2); (try clear hk); (try clear hi)))
    go_ret2
    exact ⟨by first | rfl | (simp [zW, zX] <;> rfl) | (simp [*, zW, zX] <;> rfl), by repeat (first | (with_reducible first | exact HB.out | apply zC | apply zB | apply zD | refine zF ?_ GE101.out) | exact HB.out)⟩
  · rw [if_neg c4] at H
    have c4b0 : (t105 == 0) = false := beq_eq_false_iff_ne.mpr c4
    have c4b1 : (t105 != 0) = true := bne_iff_ne.mpr c4
    simp only [Option.some.injEq, Prod.mk.injEq] at H
    obtain ⟨rfl, rfl⟩ := H
    go_enter Try.func27, Try.ntmps27
    go_wp2_with (first | ((with_reducible refine zu (N := 2) rfl ?_); refine zy ?hg (N := 2) ?hd (cs := #[.slice A0_0 l0_0.length c0_0]) (t := 35) ?hr ?_; (case hd => rfl); (case hg => rfl); (case hr => first | (go_simp; done) | (go_simp; rfl)); intro gb101 hg w12 hbox hb; have n0_ := zA.mk (zM (by repeat (first | (with_reducible first | exact HB.out | apply zC | apply zB | apply zD) | exact HB.out)) hb); have n1_ := zA.mk (hbox); have n2_ := zA.mk ((by rw [hg]; exact (zP (by repeat (first | (with_reducible first | exact HB.out | apply zC | apply zB | apply zD) | exact HB.out))) : w.heap.size ≤ gb101)); have n3_ := zA.mk ((by rw [hg]; exact (zP (by repeat (first | (with_reducible first | exact HB.out | apply zC | apply zB | apply zD) | exact HB.out))) : w.heap.size ≤ gb101)); clear HB; have HB := n0_; have BK101 := n1_; have GW101 := n2_; have GE101 := n3_; clear n0_ n1_ n2_ n3_; clear hb hbox hg; have hcz13_0 : w12.cell? ⟨gb101, 0, none⟩ = some (.slice A0_0 l0_0.length c0_0) := (zL BK101.out 0).trans rfl; have hfz13_0 := zN BK101.out 0) | ((with_reducible refine zZ (f := 17) rfl ?_); refine qQ (some 15) rfl rfl Try.func17 (by kernel_rfl) rfl #[.agg #[.slice A0_0 l0_0.length c0_0], .int .i64 a1] rfl (by (try simp only [yiy, yjy, yky]); first | done | rfl | (simp only [yly, ymy]; rfl)) ?_; (with_reducible refine (ZZ.calls k _ _ l0_0 a1 t102 t105 _ ?side1 ?side2 A3.out).mono ?_); (case side1 => repeat (first | exact (Kd.qI HR0_0.out HB.out) | (with_reducible refine Kd.qD ?_ _) | (with_reducible refine Kd.qE ?_ _) | (with_reducible refine Kd.qN ?_))); (case side2 => exact HC0_0.out); rintro e w14 ⟨v103, rfl, ho0, hb⟩; refine ⟨_, rfl, ?_⟩; have n0_ := zA.mk (Kd.QC ho0 (zP (by repeat (first | (with_reducible first | exact HB.out | apply zC | apply zB | apply zD | refine zF ?_ GE101.out) | exact HB.out)))); have n1_ := zA.mk (zO (g := gb101) (o := .cells #[.slice A0_0 l0_0.length c0_0] 35 (0, 0)) (by (with_reducible repeat (first | refine zH ?_ _ | refine zJ ?_ | refine zG ?_ _)); exact BK101.out) hb); have n2_ := zA.mk (zM (by repeat (first | (with_reducible first | exact HB.out | apply zC | apply zB | apply zD | refine zF ?_ GE101.out) | exact HB.out)) hb); clear BK101; clear HB; have HO104 := n0_; have BK101 := n1_; have HB := n2_; clear n0_ n1_ n2_; (try clear hb); (try clear hb2); (try clear hk); (try clear hi); (try clear ho0)))
    go_ret2
    exact ⟨by first | rfl | (simp [zW, zX] <;> rfl) | (simp [*, zW, zX] <;> rfl), by repeat (first | (with_reducible first | exact HB.out | apply zC | apply zB | apply zD | refine zF ?_ GE101.out) | exact HB.out)⟩
def zh.j0 : Nat → Bool → List (List (qO)) → List (List (zw)) → Option (Bool)
 | 0, _, _, _ => none
 | k + 1, x38, x102000, x112000 => if x38 = true then (some false) else ((qC.f k x102000).bind fun t114 => ((qk.f k x112000 t114).bind fun t117 => (if t117 = true then (some true) else (some false))))
def zh.f (k : Nat) (l0_0 : List (List (qO))) (a1 : Int) : Option (Bool) := (qw.f k l0_0 1048576).bind fun t102 => (if t102 < 0 then (some true) else ((qC.f k l0_0).bind fun t103 => ((Zc.f k t103 a1).bind fun bt106 => ((qC.f k l0_0).bind fun t108 => ((ZF.f k t108 a1).bind fun bt112 => (if bt112.1 = bt106.1 then (zh.j0 k (bt112.2 != bt106.2) l0_0 t108) else (zh.j0 k true l0_0 t108)))))))
set_option maxHeartbeats 8000000 in
set_option maxRecDepth 100000 in
theorem zh.calls (k : Nat) (A0_0 : Option Addr) (c0_0 : Nat) (l0_0 : List (List (qO))) (a1 : Int) (r : Bool) (w : World) (hr0_0 : Kd.C (Kd.slice 118 QM) w A0_0 l0_0.length l0_0) (hc0_0 : l0_0.length ≤ c0_0) (h : zh.f k l0_0 a1 = some r) :
 Calls Try.prog 6 #[.agg #[.slice A0_0 l0_0.length c0_0], .int .i64 a1] w fun e w' => e = .returned (.bool r) ∧ Below w.heap.size w w' := by
 have hu28 := Try.underlying28
 have hu35 := Try.underlying35
 have HR0_0 := zA.mk hr0_0
 have HC0_0 := zA.mk hc0_0
 clear hr0_0 hc0_0
 have HB := zA.mk (ysy w.heap.size w)
 have H : ((qw.f k l0_0 1048576).bind fun t102 => (if t102 < 0 then (some true) else ((qC.f k l0_0).bind fun t103 => ((Zc.f k t103 a1).bind fun bt106 => ((qC.f k l0_0).bind fun t108 => ((ZF.f k t108 a1).bind fun bt112 => (if bt112.1 = bt106.1 then (zh.j0 k (bt112.2 != bt106.2) l0_0 t108) else (zh.j0 k true l0_0 t108)))))))) = some r := h
 clear h
 replace H := ydy.mp H
 obtain ⟨t102, A30, H⟩ := H
 replace H : (if t102 < 0 then (some true) else ((qC.f k l0_0).bind fun t103 => ((Zc.f k t103 a1).bind fun bt106 => ((qC.f k l0_0).bind fun t108 => ((ZF.f k t108 a1).bind fun bt112 => (if bt112.1 = bt106.1 then (zh.j0 k (bt112.2 != bt106.2) l0_0 t108) else (zh.j0 k true l0_0 t108))))))) = some r := H
 have A3 := zA.mk A30
 clear A30
 by_cases c4 : t102 < 0
 next =>
  rw [if_pos c4] at H
  have c4b0 : decide (t102 < 0) = true := ygy c4
  clear c4
  obtain rfl := yey H
  go_enter Try.func6, Try.ntmps6
  go_wp2_with (first | ((with_reducible refine zu (N := 2) rfl ?_); refine zy ?hg (N := 2) ?hd (cs := #[.slice A0_0 l0_0.length c0_0]) (t := 28) ?hr ?_; (case hd => rfl); (case hg => rfl); (case hr => first | (go_simp; done) | (go_simp; rfl)); intro gb101 hg w5 hbox hb; have n0_ := zA.mk (zM (by repeat (first | (with_reducible first | exact HB.out | apply zC | apply zB | apply zD) | exact HB.out)) hb); have n1_ := zA.mk (hbox); have n2_ := zA.mk ((by rw [hg]; exact (zP (by repeat (first | (with_reducible first | exact HB.out | apply zC | apply zB | apply zD) | exact HB.out))) : w.heap.size ≤ gb101)); have n3_ := zA.mk ((by rw [hg]; exact (zP (by repeat (first | (with_reducible first | exact HB.out | apply zC | apply zB | apply zD) | exact HB.out))) : w.heap.size ≤ gb101)); clear HB; have HB := n0_; have BK101 := n1_; have GW101 := n2_; have GE101 := n3_; clear n0_ n1_ n2_ n3_; clear hb hbox hg; have hcz6_0 : w5.cell? ⟨gb101, 0, none⟩ = some (.slice A0_0 l0_0.length c0_0) := (zL BK101.out 0).trans rfl; have hfz6_0 := zN BK101.out 0) | ((with_reducible refine zZ (f := 16) rfl ?_); refine qQ (some 13) rfl rfl Try.func16 (by kernel_rfl) rfl #[.agg #[.slice A0_0 l0_0.length c0_0], .int .i64 1048576] rfl (by (try simp only [yiy, yjy, yky]); first | done | rfl | (simp only [yly, ymy]; rfl)) ?_; (with_reducible refine (qw.calls k _ _ l0_0 1048576 t102 _ ?side1 ?side2 A3.out).mono ?_); (case side1 => repeat (first | exact (Kd.qI HR0_0.out HB.out) | (with_reducible refine Kd.qD ?_ _) | (with_reducible refine Kd.qE ?_ _) | (with_reducible refine Kd.qN ?_))); (case side2 => exact HC0_0.out); rintro e w7 ⟨rfl, hb⟩; refine ⟨_, rfl, ?_⟩; have n0_ := zA.mk (zO (g := gb101) (o := .cells #[.slice A0_0 l0_0.length c0_0] 28 (0, 0)) (by (with_reducible repeat (first | refine zH ?_ _ | refine zJ ?_ | refine zG ?_ _)); exact BK101.out) hb); have n1_ := zA.mk (zM (by repeat (first | (with_reducible first | exact HB.out | apply zC | apply zB | apply zD | refine zF ?_ GE101.out) | exact HB.out)) hb); clear BK101; clear HB; have BK101 := n0_; have HB := n1_; clear n0_ n1_; (try clear hb); (try clear hb2); (try clear hk); (try clear hi)))
  go_ret
  exact ⟨by first | rfl | (simp [zW, zX] <;> rfl) | (simp [*, zW, zX] <;> rfl), by repeat (first | (with_reducible first | exact HB.out | apply zC | apply zB | apply zD | refine zF ?_ GE101.out) | exact HB.out)⟩
 next =>
  rw [if_neg c4] at H
  have c4b0 : decide (t102 < 0) = false := yhy c4
  clear c4
  replace H := ydy.mp H
  obtain ⟨t103, A80, H⟩ := H
  replace H : ((Zc.f k t103 a1).bind fun bt106 => ((qC.f k l0_0).bind fun t108 => ((ZF.f k t108 a1).bind fun bt112 => (if bt112.1 = bt106.1 then (zh.j0 k (bt112.2 != bt106.2) l0_0 t108) else (zh.j0 k true l0_0 t108))))) = some r := H
  have A8 := zA.mk A80
  clear A80
  replace H := ydy.mp H
  obtain ⟨⟨t106, t107⟩, A90, H⟩ := H
  replace H : ((qC.f k l0_0).bind fun t108 => ((ZF.f k t108 a1).bind fun bt112 => (if bt112.1 = t106 then (zh.j0 k (bt112.2 != t107) l0_0 t108) else (zh.j0 k true l0_0 t108)))) = some r := H
  have A9 := zA.mk A90
  clear A90
  replace H := ydy.mp H
  obtain ⟨t108, A100, H⟩ := H
  replace H : ((ZF.f k t108 a1).bind fun bt112 => (if bt112.1 = t106 then (zh.j0 k (bt112.2 != t107) l0_0 t108) else (zh.j0 k true l0_0 t108))) = some r := H
  have A10 := zA.mk A100
  clear A100
  replace H := ydy.mp H
  obtain ⟨⟨t112, t113⟩, A110, H⟩ := H
  replace H : (if t112 = t106 then (zh.j0 k (t113 != t107) l0_0 t108) else (zh.j0 k true l0_0 t108)) = some r := H
  have A11 := zA.mk A110
  clear A110
  have HC12 := zA.mk H
  clear H
  go_enter Try.func6, Try.ntmps6
  go_upto_region 8 with (first | ((with_reducible refine zu (N := 2) rfl ?_); refine zy ?hg (N := 2) ?hd (cs := #[.slice A0_0 l0_0.length c0_0]) (t := 28) ?hr ?_; (case hd => rfl); (case hg => rfl); (case hr => first | (go_simp; done) | (go_simp; rfl)); intro gb101 hg w13 hbox hb; have n0_ := zA.mk (zM (by repeat (first | (with_reducible first | exact HB.out | apply zC | apply zB | apply zD) | exact HB.out)) hb); have n1_ := zA.mk (hbox); have n2_ := zA.mk ((by rw [hg]; exact (zP (by repeat (first | (with_reducible first | exact HB.out | apply zC | apply zB | apply zD) | exact HB.out))) : w.heap.size ≤ gb101)); have n3_ := zA.mk ((by rw [hg]; exact (zP (by repeat (first | (with_reducible first | exact HB.out | apply zC | apply zB | apply zD) | exact HB.out))) : w.heap.size ≤ gb101)); clear HB; have HB := n0_; have BK101 := n1_; have GW101 := n2_; have GE101 := n3_; clear n0_ n1_ n2_ n3_; clear hb hbox hg; have hcz14_0 : w13.cell? ⟨gb101, 0, none⟩ = some (.slice A0_0 l0_0.length c0_0) := (zL BK101.out 0).trans rfl; have hfz14_0 := zN BK101.out 0) | ((with_reducible refine zZ (f := 16) rfl ?_); refine qQ (some 13) rfl rfl Try.func16 (by kernel_rfl) rfl #[.agg #[.slice A0_0 l0_0.length c0_0], .int .i64 1048576] rfl (by (try simp only [yiy, yjy, yky]); first | done | rfl | (simp only [yly, ymy]; rfl)) ?_; (with_reducible refine (qw.calls k _ _ l0_0 1048576 t102 _ ?side1 ?side2 A3.out).mono ?_); (case side1 => repeat (first | exact (Kd.qI HR0_0.out HB.out) | (with_reducible refine Kd.qD ?_ _) | (with_reducible refine Kd.qE ?_ _) | (with_reducible refine Kd.qN ?_))); (case side2 => exact HC0_0.out); rintro e w15 ⟨rfl, hb⟩; refine ⟨_, rfl, ?_⟩; have n0_ := zA.mk (zO (g := gb101) (o := .cells #[.slice A0_0 l0_0.length c0_0] 28 (0, 0)) (by (with_reducible repeat (first | refine zH ?_ _ | refine zJ ?_ | refine zG ?_ _)); exact BK101.out) hb); have n1_ := zA.mk (zM (by repeat (first | (with_reducible first | exact HB.out | apply zC | apply zB | apply zD | refine zF ?_ GE101.out) | exact HB.out)) hb); clear BK101; clear HB; have BK101 := n0_; have HB := n1_; clear n0_ n1_; (try clear hb); (try clear hb2); (try clear hk); (try clear hi); have hcz16_0 : w15.cell? ⟨gb101, 0, none⟩ = some (.slice A0_0 l0_0.length c0_0) := (zL BK101.out 0).trans rfl; have hfz16_0 := zN BK101.out 0) | ((with_reducible refine zZ (f := 18) rfl ?_); refine qQ (some 18) rfl rfl Try.func18 (by kernel_rfl) rfl #[.agg #[.slice A0_0 l0_0.length c0_0]] rfl (by (try simp only [yiy, yjy, yky]); first | done | rfl | (simp only [yly, ymy]; rfl)) ?_; (with_reducible refine (qC.calls k _ _ l0_0 t103 _ ?side1 ?side2 A8.out).mono ?_); (case side1 => repeat (first | exact (Kd.qI HR0_0.out HB.out) | (with_reducible refine Kd.qD ?_ _) | (with_reducible refine Kd.qE ?_ _) | (with_reducible refine Kd.qN ?_))); (case side2 => exact HC0_0.out); rintro e w17 ⟨v104, rfl, ho0, hb⟩; refine ⟨_, rfl, ?_⟩; have n0_ := zA.mk (Kd.QC ho0 (zP (by repeat (first | (with_reducible first | exact HB.out | apply zC | apply zB | apply zD | refine zF ?_ GE101.out) | exact HB.out)))); have n1_ := zA.mk (zO (g := gb101) (o := .cells #[.slice A0_0 l0_0.length c0_0] 28 (0, 0)) (by (with_reducible repeat (first | refine zH ?_ _ | refine zJ ?_ | refine zG ?_ _)); exact BK101.out) hb); have n2_ := zA.mk (zM (by repeat (first | (with_reducible first | exact HB.out | apply zC | apply zB | apply zD | refine zF ?_ GE101.out) | exact HB.out)) hb); clear BK101; clear HB; have HO105 := n0_; have BK101 := n1_; have HB := n2_; clear n0_ n1_ n2_; (try clear hb); (try clear hb2); (try clear hk); (try clear hi); (try clear ho0); obtain ⟨Ao18, co18, eo18⟩ := Kd.QW HO105.out; subst eo18) | ((with_reducible refine zZ (f := 27) rfl ?_); refine qQ (some 20) rfl rfl Try.func27 (by kernel_rfl) rfl #[.agg #[.slice Ao18 t103.length co18], .int .i64 a1] rfl (by (try simp only [yiy, yjy, yky]); first | done | rfl | (simp only [yly, ymy]; rfl)) ?_; (with_reducible refine (Zc.calls k _ _ t103 a1 t106 t107 _ ?side1 ?side2 A9.out).mono ?_); (case side1 => repeat (first | exact (Kd.ZO HO105.out).2.2 | (with_reducible refine Kd.qD ?_ _) | (with_reducible refine Kd.qE ?_ _) | (with_reducible refine Kd.qN ?_))); (case side2 => exact (Kd.ZO HO105.out).2.1); rintro e w19 ⟨rfl, hb⟩; refine ⟨_, rfl, ?_⟩; have n0_ := zA.mk (Kd.QR (by (with_reducible repeat (first | apply Kd.zj | apply Kd.zk | apply Kd.zz)); exact HO105.out) hb); have n1_ := zA.mk (zO (g := gb101) (o := .cells #[.slice A0_0 l0_0.length c0_0] 28 (0, 0)) (by (with_reducible repeat (first | refine zH ?_ _ | refine zJ ?_ | refine zG ?_ _)); exact BK101.out) hb); have n2_ := zA.mk (zM (by repeat (first | (with_reducible first | exact HB.out | apply zC | apply zB | apply zD | refine zF ?_ GE101.out) | exact HB.out)) hb); clear HO105; clear BK101; clear HB; have HO105 := n0_; have BK101 := n1_; have HB := n2_; clear n0_ n1_ n2_; (try clear hb); (try clear hb2); (try clear hk); (try clear hi); have hcz20_0 : w19.cell? ⟨gb101, 0, none⟩ = some (.slice A0_0 l0_0.length c0_0) := (zL BK101.out 0).trans rfl; have hfz20_0 := zN BK101.out 0) | ((with_reducible refine zZ (f := 18) rfl ?_); refine qQ (some 24) rfl rfl Try.func18 (by kernel_rfl) rfl #[.agg #[.slice A0_0 l0_0.length c0_0]] rfl (by (try simp only [yiy, yjy, yky]); first | done | rfl | (simp only [yly, ymy]; rfl)) ?_; (with_reducible refine (qC.calls k _ _ l0_0 t108 _ ?side1 ?side2 A10.out).mono ?_); (case side1 => repeat (first | exact (Kd.qI HR0_0.out HB.out) | (with_reducible refine Kd.qD ?_ _) | (with_reducible refine Kd.qE ?_ _) | (with_reducible refine Kd.qN ?_))); (case side2 => exact HC0_0.out); rintro e w21 ⟨v109, rfl, ho0, hb⟩; refine ⟨_, rfl, ?_⟩; have n0_ := zA.mk (Kd.Zl (by (with_reducible repeat (first | apply Kd.zj | apply Kd.zk | apply Kd.zz)); exact HO105.out) (Kd.zAc ho0) hb); have n1_ := zA.mk (Kd.QC (Kd.QK ho0 (Kd.zF5 (by (with_reducible repeat (first | apply Kd.zj | apply Kd.zk | apply Kd.zz)); exact HO105.out))) (zP (by repeat (first | (with_reducible first | exact HB.out | apply zC | apply zB | apply zD | refine zF ?_ GE101.out) | exact HB.out)))); have n2_ := zA.mk (zO (g := gb101) (o := .cells #[.slice A0_0 l0_0.length c0_0] 28 (0, 0)) (by (with_reducible repeat (first | refine zH ?_ _ | refine zJ ?_ | refine zG ?_ _)); exact BK101.out) hb); have n3_ := zA.mk (zM (by repeat (first | (with_reducible first | exact HB.out | apply zC | apply zB | apply zD | refine zF ?_ GE101.out) | exact HB.out)) hb); clear HO105; clear BK101; clear HB; have HO105 := n0_; have HO110 := n1_; have BK101 := n2_; have HB := n3_; clear n0_ n1_ n2_ n3_; (try clear hb); (try clear hb2); (try clear hk); (try clear hi); (try clear ho0)) | ((with_reducible refine zu (N := 8) rfl ?_); refine zy ?hg (N := 8) ?hd (cs := #[.slice none 0 0]) (t := 35) ?hr ?_; (case hd => rfl); (case hg => rfl); (case hr => first | (go_simp; done) | (go_simp; rfl)); intro gb111 hg w22 hbox hb; have n0_ := zA.mk (Kd.QR (by (with_reducible repeat (first | apply Kd.zj | apply Kd.zk | apply Kd.zz)); exact HO105.out) hb); have n1_ := zA.mk (Kd.QR (by (with_reducible repeat (first | apply Kd.zj | apply Kd.zk | apply Kd.zz)); exact HO110.out) hb); have n2_ := zA.mk (zO (g := gb101) (o := .cells #[.slice A0_0 l0_0.length c0_0] 28 (0, 0)) (by (with_reducible repeat (first | refine zH ?_ _ | refine zJ ?_ | refine zG ?_ _)); exact BK101.out) hb); have n3_ := zA.mk (zM (by repeat (first | (with_reducible first | exact HB.out | apply zC | apply zB | apply zD | refine zF ?_ GE101.out) | exact HB.out)) hb); have n4_ := zA.mk (hbox); have n5_ := zA.mk ((by rw [hg]; exact (zP (by repeat (first | (with_reducible first | exact HB.out | apply zC | apply zB | apply zD | refine zF ?_ GE101.out) | exact HB.out))) : w.heap.size ≤ gb111)); have n6_ := zA.mk ((by rw [hg]; exact (zP (by repeat (first | (with_reducible first | exact HB.out | apply zC | apply zB | apply zD | refine zF ?_ GE101.out) | exact HB.out))) : w.heap.size ≤ gb111)); have n7_ := zA.mk ((by rw [hg]; exact Nat.ne_of_lt (qP (g := gb101) (o := .cells #[.slice A0_0 l0_0.length c0_0] 28 (0, 0)) (by (with_reducible repeat (first | refine zH ?_ _ | refine zJ ?_ | refine zG ?_ _)); exact BK101.out)) : gb101 ≠ gb111)); have n8_ := zA.mk ((by rw [hg]; exact Nat.ne_of_gt (qP (g := gb101) (o := .cells #[.slice A0_0 l0_0.length c0_0] 28 (0, 0)) (by (with_reducible repeat (first | refine zH ?_ _ | refine zJ ?_ | refine zG ?_ _)); exact BK101.out)) : gb111 ≠ gb101)); clear HO105; clear HO110; clear BK101; clear HB; have HO105 := n0_; have HO110 := n1_; have BK101 := n2_; have HB := n3_; have BK111 := n4_; have GW111 := n5_; have GE111 := n6_; have NB101_111 := n7_; have NB111_101 := n8_; clear n0_ n1_ n2_ n3_ n4_ n5_ n6_ n7_ n8_; clear hb hbox hg; obtain ⟨Ao23, co23, eo23⟩ := Kd.QW HO110.out; subst eo23; have hnb24 := NB111_101.out; have hnc24 := NB101_111.out; have hcz25_0 : w22.cell? ⟨gb111, 0, none⟩ = some (.slice none 0 0) := (zL BK111.out 0).trans rfl; have hfz25_0 := zN BK111.out 0) | ((with_reducible refine zZ (f := 28) rfl ?_); refine qQ (some 28) rfl rfl Try.func28 (by kernel_rfl) rfl #[.agg #[.slice Ao23 t108.length co23], .int .i64 a1] rfl (by (try simp only [yiy, yjy, yky]); first | done | rfl | (simp only [yly, ymy]; rfl)) ?_; (with_reducible refine (ZF.calls k _ _ t108 a1 t112 t113 _ ?side1 ?side2 A11.out).mono ?_); (case side1 => refine (Kd.ZO (e := 76) (base := w.heap.size) (ok := fun k_ => (True ∧ some k_ ≠ (.slice Ao18 t103.length co18 : Value).ownBlock)) (n := t108.length) (c := co23) ?_).2.2; exact (by (with_reducible repeat (first | apply Kd.zj | apply Kd.zk | apply Kd.zz)); exact (Kd.qo (Kd.Zx (p := ⟨gb111, 0, none⟩) (Kd.Zp HO110.out BK111.out (by decide)) (fun _ hk => hk.2) (.slice Ao23 t108.length co23)) (fun _ h_ => h_.1)))); (case side2 => exact (Kd.ZO HO110.out).2.1); rintro e w26 ⟨rfl, hb⟩; refine ⟨_, rfl, ?_⟩; have n0_ := zA.mk (Kd.QR (by (with_reducible repeat (first | apply Kd.zj | apply Kd.zk | apply Kd.zz)); exact (Kd.qo (Kd.Zx (p := ⟨gb111, 0, none⟩) (Kd.Zp HO105.out BK111.out (by decide)) (fun _ hk => hk.2) (.slice Ao23 t108.length co23)) (fun _ h_ => h_.1))) hb); have n1_ := zA.mk (Kd.QR (by (with_reducible repeat (first | apply Kd.zj | apply Kd.zk | apply Kd.zz)); exact (Kd.qo (Kd.Zx (p := ⟨gb111, 0, none⟩) (Kd.Zp HO110.out BK111.out (by decide)) (fun _ hk => hk.2) (.slice Ao23 t108.length co23)) (fun _ h_ => h_.1))) hb); have n2_ := zA.mk (zO (g := gb101) (o := .cells #[.slice A0_0 l0_0.length c0_0] 28 (0, 0)) (by (with_reducible repeat (first | refine zH ?_ _ | refine zJ ?_ | refine zG ?_ _)); refine qM ?_ NB101_111.out _; (with_reducible repeat (first | refine zH ?_ _ | refine zJ ?_ | refine zG ?_ _)); exact BK101.out) hb); have n3_ := zA.mk (zO (g := gb111) (o := .cells #[.slice Ao23 t108.length co23] 35 (0, 0)) (by (with_reducible repeat (first | refine zH ?_ _ | refine zJ ?_ | refine zG ?_ _)); refine qZ (cs := #[.slice none 0 0]) ?_ 0 _ rfl; (with_reducible repeat (first | refine zH ?_ _ | refine zJ ?_ | refine zG ?_ _)); exact BK111.out) hb); have n4_ := zA.mk (zM (by repeat (first | (with_reducible first | exact HB.out | apply zC | apply zB | apply zD | refine zF ?_ GE101.out | refine zF ?_ GE111.out) | exact HB.out)) hb); clear HO105; clear HO110; clear BK101; clear BK111; clear HB; have HO105 := n0_; have HO110 := n1_; have BK101 := n2_; have BK111 := n3_; have HB := n4_; clear n0_ n1_ n2_ n3_ n4_; (try clear hb); (try clear hb2); (try clear hk); (try clear hi)))
  (try simp only [Act.put, yay, yby, ycy])
  go_cut [38] (fun v38 wc => ∃ (kq : Nat) (x38_11 : Bool), v38 = .bool x38_11 ∧ zA (zh.j0 kq x38_11 l0_0 t108 = some r) ∧ zA (kq ≤ k) ∧ zA (Kd.S (Kd.slice 75 ZV) 76 wc w.heap.size (fun _ => True) (.slice Ao23 t108.length co23) t108) ∧ zA (wc.heap[gb101]? = some (.cells #[(.slice A0_0 l0_0.length c0_0)] 28 (0, 0))) ∧ zA (wc.heap[gb111]? = some (.cells #[(.slice Ao23 t108.length co23)] 35 (0, 0))) ∧ zA (Below w.heap.size w wc))
  case first =>
   have H := HC12.out
   clear HC12
   by_cases c27 : t112 = t106
   rotate_left
   next =>
    rw [if_neg c27] at H
    have c27b0 : (t112 == t106) = false := beq_eq_false_iff_ne.mpr c27
    have c27b1 : (t112 != t106) = true := bne_iff_ne.mpr c27
    (first | rw [c27b0] | (simp only [za, zb]; rw [c27b0]) | skip)
    have H' := zA.mk H
    clear H
    go_wp2
    go_meet
    case rel => exact ⟨_, (true), (by first | rfl | (simp; done) | (simp [*]; done)), H', ⟨by first | omega | exact yry _⟩, ⟨by (with_reducible repeat (first | apply Kd.zj | apply Kd.zk | apply Kd.zz)); exact Kd.qo HO110.out (fun _ hk => trivial)⟩, ⟨by (with_reducible repeat (first | refine zH ?_ _ | refine zJ ?_ | refine zG ?_ _)); exact BK101.out⟩, ⟨by (with_reducible repeat (first | refine zH ?_ _ | refine zJ ?_ | refine zG ?_ _)); exact BK111.out⟩, ⟨by repeat (first | (with_reducible first | exact HB.out | apply zC | apply zB | apply zD | refine zF ?_ GE101.out | refine zF ?_ GE111.out) | exact HB.out)⟩⟩
   rw [if_pos c27] at H
   have c27b0 : (t112 == t106) = true := beq_iff_eq.mpr c27
   have c27b1 : (t112 != t106) = false := bne_eq_false_iff_eq.mpr c27
   clear c27
   (first | rw [c27b0] | (simp only [za, zb]; rw [c27b0]) | skip)
   have H' := zA.mk H
   clear H
   go_wp2
   go_meet
   case rel => exact ⟨_, ((t113 != t107)), (by first | rfl | (simp; done) | (simp [*]; done)), H', ⟨by first | omega | exact yry _⟩, ⟨by (with_reducible repeat (first | apply Kd.zj | apply Kd.zk | apply Kd.zz)); exact Kd.qo HO110.out (fun _ hk => trivial)⟩, ⟨by (with_reducible repeat (first | refine zH ?_ _ | refine zJ ?_ | refine zG ?_ _)); exact BK101.out⟩, ⟨by (with_reducible repeat (first | refine zH ?_ _ | refine zJ ?_ | refine zG ?_ _)); exact BK111.out⟩, ⟨by repeat (first | (with_reducible first | exact HB.out | apply zC | apply zB | apply zD | refine zF ?_ GE101.out | refine zF ?_ GE111.out) | exact HB.out)⟩⟩
  case rest =>
   clear HC12
   try clear c1
   try clear c2
   try clear p2
   try clear c4
   try clear c4b0
   try clear c6
   try clear c16
   try clear c18
   try clear c24
   try clear c27
   try clear c27b0
   try clear c27b1
   try clear hcz14_0
   try clear hcz16_0
   try clear hcz20_0
   try clear hcz25_0
   try clear hcz6_0
   try clear hfz14_0
   try clear hfz16_0
   try clear hfz20_0
   try clear hfz25_0
   try clear hfz6_0
   obtain ⟨kq, x38_11, rfl, HA, HJ11, HO_112000, BK101, BK111, HB⟩ := hcut
   cases kq with
   | zero => exact absurd HA.out (by simp [zh.j0])
   | succ kj11 =>
    have H := HA.out
    clear HA
    simp only [zh.j0] at H
    by_cases c28 : x38_11 = true
    next =>
     subst c28
     have H1 : (some false) = some r := by rw [if_pos rfl] at H; exact H
     clear H
     have H := H1
     clear H1
     obtain rfl := yey H
     go_wp2
     go_ret
     exact ⟨by first | rfl | (simp [zW, zX] <;> rfl) | (simp [*, zW, zX] <;> rfl), by repeat (first | (with_reducible first | exact HB.out | apply zC | apply zB | apply zD | refine zF ?_ GE101.out | refine zF ?_ GE111.out) | exact HB.out)⟩
    next =>
     replace c28 := Bool.eq_false_iff.mpr c28
     subst c28
     have H1 : ((qC.f kj11 l0_0).bind fun t114 => ((qk.f kj11 t108 t114).bind fun t117 => (if t117 = true then (some true) else (some false)))) = some r := by rw [if_neg (show ¬ (false = true) by decide)] at H; exact H
     clear H
     have H := H1
     clear H1
     replace H := ydy.mp H
     obtain ⟨t114, A290, H⟩ := H
     replace H : ((qk.f kj11 t108 t114).bind fun t117 => (if t117 = true then (some true) else (some false))) = some r := H
     have A29 := zA.mk A290
     clear A290
     replace H := ydy.mp H
     obtain ⟨t117, A300, H⟩ := H
     replace H : (if t117 = true then (some true) else (some false)) = some r := H
     have A30 := zA.mk A300
     clear A300
     by_cases c31 : t117 = true
     next =>
      subst c31
      have H1 : (some true) = some r := by rw [if_pos rfl] at H; exact H
      clear H
      have H := H1
      clear H1
      obtain rfl := yey H
      try go_wp2
      have n0_ := zA.mk (Kd.zz HO_112000.out)
      have n1_ := zA.mk (zJ BK101.out)
      have n2_ := zA.mk (zJ BK111.out)
      have n3_ := zA.mk (zD HB.out)
      clear HO_112000
      clear BK101
      clear BK111
      clear HB
      have HO_112000 := n0_
      have BK101 := n1_
      have BK111 := n2_
      have HB := n3_
      clear n0_ n1_ n2_ n3_
      refine QG (n := 5) (S := fun w' => w'.cell? ⟨gb111, 0, none⟩ = some (.slice Ao23 t108.length co23) ∧ w'.cell? ⟨gb101, 0, none⟩ = some (.slice A0_0 l0_0.length c0_0)) (ds := []) #[false, false, false, false, false] (by kernel_rfl) rfl rfl ⟨(zL BK111.out 0).trans rfl, (zL BK101.out 0).trans rfl⟩ (fun hHeld => ?_)
      generalize wc.drew = w32 at HO_112000 BK101 BK111 HB hHeld ⊢
      refine ZR (i := 0) (N := some 39) (v := ?_) (a' := ?_) #[true, false, false, false, false] rfl rfl (by kernel_rfl) (fun _ _ _ h => h) (Or.inl ⟨by rfl, ?_⟩) hHeld ?_ ?_
      rotate_left
      next =>
       rintro w' ⟨s0, s1⟩
       go_simp
       with_reducible rfl
      rotate_left
      next =>
       simp only [Act.put, yay, yby, ycy, za, zb]
       rfl
      refine ZR (i := 1) (N := some 40) (v := ?_) (a' := ?_) #[true, true, false, false, false] rfl rfl (by kernel_rfl) (fun _ _ _ h => h) (Or.inl ⟨by rfl, ?_⟩) hHeld ?_ ?_
      rotate_left
      next =>
       rintro w' ⟨s0, s1⟩
       go_simp
       with_reducible rfl
      rotate_left
      next =>
       simp only [Act.put, yay, yby, ycy, za, zb]
       rfl
      refine zAH (i := 2) (N := some 41) #[true, true, true, false, false] rfl rfl (by kernel_rfl) (by decide) (fun K hK => ?_)
      refine QQ Try.func18 (by kernel_rfl) rfl #[.agg #[.slice A0_0 l0_0.length c0_0]] (by rfl) rfl rfl (by (try simp only [yiy, yjy, yky]); first | done | rfl | (simp only [yly, ymy]; rfl)) ?_
      with_reducible refine (qC.calls kj11 _ _ l0_0 t114 _ ?side1 ?side2 A29.out).mono ?_
      (case side1 => repeat (first | exact (Kd.qI HR0_0.out HB.out) | (with_reducible refine Kd.qD ?_ _) | (with_reducible refine Kd.qE ?_ _) | (with_reducible refine Kd.qN ?_)))
      (case side2 => exact HC0_0.out)
      rintro e w33 ⟨v115, rfl, ho0, hb⟩
      refine ⟨_, rfl, ?_⟩
      have n0_ := zA.mk (Kd.Zl (by (with_reducible repeat (first | apply Kd.zj | apply Kd.zk | apply Kd.zz)); exact HO_112000.out) (Kd.zAc ho0) hb)
      have n1_ := zA.mk (Kd.QC (Kd.QK ho0 (Kd.zF5 (by (with_reducible repeat (first | apply Kd.zj | apply Kd.zk | apply Kd.zz)); exact HO_112000.out))) (zP (by repeat (first | (with_reducible first | exact HB.out | apply zC | apply zB | apply zD | refine zF ?_ GE101.out | refine zF ?_ GE111.out) | exact HB.out))))
      have n2_ := zA.mk (zO (g := gb101) (o := .cells #[.slice A0_0 l0_0.length c0_0] 28 (0, 0)) (by (with_reducible repeat (first | refine zH ?_ _ | refine zJ ?_ | refine zG ?_ _)); exact BK101.out) hb)
      have n3_ := zA.mk (zO (g := gb111) (o := .cells #[.slice Ao23 t108.length co23] 35 (0, 0)) (by (with_reducible repeat (first | refine zH ?_ _ | refine zJ ?_ | refine zG ?_ _)); exact BK111.out) hb)
      have n4_ := zA.mk (zM (by repeat (first | (with_reducible first | exact HB.out | apply zC | apply zB | apply zD | refine zF ?_ GE101.out | refine zF ?_ GE111.out) | exact HB.out)) hb)
      clear HO_112000
      clear BK101
      clear BK111
      clear HB
      have HO_112000 := n0_
      have HO116 := n1_
      have BK101 := n2_
      have BK111 := n3_
      have HB := n4_
      clear n0_ n1_ n2_ n3_ n4_
      (try clear hb)
      (try clear hb2)
      (try clear hk)
      (try clear hi)
      (try clear ho0)
      obtain ⟨Ao34, co34, eo34⟩ := Kd.QW HO116.out
      (first | subst eo34 | (injection eo34 with f1_ f2_ f3_; have f4_ := f1_.symm; have f5_ := f3_.symm; clear f1_ f2_ f3_; subst f4_; subst f5_))
      refine hK.out _ _ ⟨(zL BK111.out 0).trans rfl, (zL BK101.out 0).trans rfl⟩ (fun hHeld => ?_)
      clear hK K
      refine QH (a' := ?_) ?_ ?_
      rotate_left
      next =>
       show Act.put _ (some 41) _ = _
       simp only [Act.put, yay, yby, ycy, za, zb]
       rfl
      refine zAH (i := 3) (N := some 42) #[true, true, true, true, false] rfl rfl (by kernel_rfl) (by decide) (fun K hK => ?_)
      refine QQ Try.func21 (by kernel_rfl) rfl #[.agg #[.slice Ao23 t108.length co23], .agg #[.slice Ao34 t114.length co34]] (by rfl) rfl rfl (by (try simp only [yiy, yjy, yky]); first | done | rfl | (simp only [yly, ymy]; rfl)) ?_
      with_reducible refine (qk.calls kj11 _ _ t108 _ _ t114 true _ ?side1 ?side2 ?side3 ?side4 A30.out).mono ?_
      (case side1 => repeat (first | exact (Kd.ZO HO_112000.out).2.2 | (with_reducible refine Kd.qD ?_ _) | (with_reducible refine Kd.qE ?_ _) | (with_reducible refine Kd.qN ?_)))
      (case side2 => exact (Kd.ZO HO_112000.out).2.1)
      (case side3 => repeat (first | exact (Kd.ZO HO116.out).2.2 | (with_reducible refine Kd.qD ?_ _) | (with_reducible refine Kd.qE ?_ _) | (with_reducible refine Kd.qN ?_)))
      (case side4 => exact (Kd.ZO HO116.out).2.1)
      rintro e w35 ⟨rfl, hb⟩
      refine ⟨_, rfl, ?_⟩
      have n0_ := zA.mk (Kd.QR (by (with_reducible repeat (first | apply Kd.zj | apply Kd.zk | apply Kd.zz)); exact HO_112000.out) hb)
      have n1_ := zA.mk (Kd.QR (by (with_reducible repeat (first | apply Kd.zj | apply Kd.zk | apply Kd.zz)); exact HO116.out) hb)
      have n2_ := zA.mk (zO (g := gb101) (o := .cells #[.slice A0_0 l0_0.length c0_0] 28 (0, 0)) (by (with_reducible repeat (first | refine zH ?_ _ | refine zJ ?_ | refine zG ?_ _)); exact BK101.out) hb)
      have n3_ := zA.mk (zO (g := gb111) (o := .cells #[.slice Ao23 t108.length co23] 35 (0, 0)) (by (with_reducible repeat (first | refine zH ?_ _ | refine zJ ?_ | refine zG ?_ _)); exact BK111.out) hb)
      have n4_ := zA.mk (zM (by repeat (first | (with_reducible first | exact HB.out | apply zC | apply zB | apply zD | refine zF ?_ GE101.out | refine zF ?_ GE111.out) | exact HB.out)) hb)
      clear HO_112000
      clear HO116
      clear BK101
      clear BK111
      clear HB
      have HO_112000 := n0_
      have HO116 := n1_
      have BK101 := n2_
      have BK111 := n3_
      have HB := n4_
      clear n0_ n1_ n2_ n3_ n4_
      (try clear hb)
      (try clear hb2)
      (try clear hk)
      (try clear hi)
      refine hK.out _ _ ⟨(zL BK111.out 0).trans rfl, (zL BK101.out 0).trans rfl⟩ (fun hHeld => ?_)
      clear hK K
      refine QH (a' := ?_) ?_ ?_
      rotate_left
      next =>
       show Act.put _ (some 42) _ = _
       simp only [Act.put, yay, yby, ycy, za, zb]
       rfl
      refine zp (i := 4) (N := some 43) (v := ?_) (a' := ?_) #[true, true, true, true, true] rfl rfl (by kernel_rfl) (fun _ _ _ h => h) (Or.inl ⟨by rfl, ?_⟩) ?_ ?_
      rotate_left
      next =>
       intro w'
       go_simp
       with_reducible rfl
      rotate_left
      next =>
       simp only [Act.put, yay, yby, ycy, za, zb]
       rfl
      refine JE (by kernel_rfl) ?_
      try go_wp2
      go_ret
      exact ⟨by first | rfl | (simp [zW, zX] <;> rfl) | (simp [*, zW, zX] <;> rfl), by repeat (first | (with_reducible first | exact HB.out | apply zC | apply zB | apply zD | refine zF ?_ GE101.out | refine zF ?_ GE111.out) | exact HB.out)⟩
     next =>
      replace c31 := Bool.eq_false_iff.mpr c31
      subst c31
      have H1 : (some false) = some r := by rw [if_neg (show ¬ (false = true) by decide)] at H; exact H
      clear H
      have H := H1
      clear H1
      obtain rfl := yey H
      try go_wp2
      have n0_ := zA.mk (Kd.zz HO_112000.out)
      have n1_ := zA.mk (zJ BK101.out)
      have n2_ := zA.mk (zJ BK111.out)
      have n3_ := zA.mk (zD HB.out)
      clear HO_112000
      clear BK101
      clear BK111
      clear HB
      have HO_112000 := n0_
      have BK101 := n1_
      have BK111 := n2_
      have HB := n3_
      clear n0_ n1_ n2_ n3_
      refine QG (n := 5) (S := fun w' => w'.cell? ⟨gb111, 0, none⟩ = some (.slice Ao23 t108.length co23) ∧ w'.cell? ⟨gb101, 0, none⟩ = some (.slice A0_0 l0_0.length c0_0)) (ds := []) #[false, false, false, false, false] (by kernel_rfl) rfl rfl ⟨(zL BK111.out 0).trans rfl, (zL BK101.out 0).trans rfl⟩ (fun hHeld => ?_)
      generalize wc.drew = w36 at HO_112000 BK101 BK111 HB hHeld ⊢
      refine ZR (i := 0) (N := some 39) (v := ?_) (a' := ?_) #[true, false, false, false, false] rfl rfl (by kernel_rfl) (fun _ _ _ h => h) (Or.inl ⟨by rfl, ?_⟩) hHeld ?_ ?_
      rotate_left
      next =>
       rintro w' ⟨s0, s1⟩
       go_simp
       with_reducible rfl
      rotate_left
      next =>
       simp only [Act.put, yay, yby, ycy, za, zb]
       rfl
      refine ZR (i := 1) (N := some 40) (v := ?_) (a' := ?_) #[true, true, false, false, false] rfl rfl (by kernel_rfl) (fun _ _ _ h => h) (Or.inl ⟨by rfl, ?_⟩) hHeld ?_ ?_
      rotate_left
      next =>
       rintro w' ⟨s0, s1⟩
       go_simp
       with_reducible rfl
      rotate_left
      next =>
       simp only [Act.put, yay, yby, ycy, za, zb]
       rfl
      refine zAH (i := 2) (N := some 41) #[true, true, true, false, false] rfl rfl (by kernel_rfl) (by decide) (fun K hK => ?_)
      refine QQ Try.func18 (by kernel_rfl) rfl #[.agg #[.slice A0_0 l0_0.length c0_0]] (by rfl) rfl rfl (by (try simp only [yiy, yjy, yky]); first | done | rfl | (simp only [yly, ymy]; rfl)) ?_
      with_reducible refine (qC.calls kj11 _ _ l0_0 t114 _ ?side1 ?side2 A29.out).mono ?_
      (case side1 => repeat (first | exact (Kd.qI HR0_0.out HB.out) | (with_reducible refine Kd.qD ?_ _) | (with_reducible refine Kd.qE ?_ _) | (with_reducible refine Kd.qN ?_)))
      (case side2 => exact HC0_0.out)
      rintro e w37 ⟨v115, rfl, ho0, hb⟩
      refine ⟨_, rfl, ?_⟩
      have n0_ := zA.mk (Kd.Zl (by (with_reducible repeat (first | apply Kd.zj | apply Kd.zk | apply Kd.zz)); exact HO_112000.out) (Kd.zAc ho0) hb)
      have n1_ := zA.mk (Kd.QC (Kd.QK ho0 (Kd.zF5 (by (with_reducible repeat (first | apply Kd.zj | apply Kd.zk | apply Kd.zz)); exact HO_112000.out))) (zP (by repeat (first | (with_reducible first | exact HB.out | apply zC | apply zB | apply zD | refine zF ?_ GE101.out | refine zF ?_ GE111.out) | exact HB.out))))
      have n2_ := zA.mk (zO (g := gb101) (o := .cells #[.slice A0_0 l0_0.length c0_0] 28 (0, 0)) (by (with_reducible repeat (first | refine zH ?_ _ | refine zJ ?_ | refine zG ?_ _)); exact BK101.out) hb)
      have n3_ := zA.mk (zO (g := gb111) (o := .cells #[.slice Ao23 t108.length co23] 35 (0, 0)) (by (with_reducible repeat (first | refine zH ?_ _ | refine zJ ?_ | refine zG ?_ _)); exact BK111.out) hb)
      have n4_ := zA.mk (zM (by repeat (first | (with_reducible first | exact HB.out | apply zC | apply zB | apply zD | refine zF ?_ GE101.out | refine zF ?_ GE111.out) | exact HB.out)) hb)
      clear HO_112000
      clear BK101
      clear BK111
      clear HB
      have HO_112000 := n0_
      have HO116 := n1_
      have BK101 := n2_
      have BK111 := n3_
      have HB := n4_
      clear n0_ n1_ n2_ n3_ n4_
      (try clear hb)
      (try clear hb2)
      (try clear hk)
      (try clear hi)
      (try clear ho0)
      obtain ⟨Ao38, co38, eo38⟩ := Kd.QW HO116.out
      (first | subst eo38 | (injection eo38 with f1_ f2_ f3_; have f4_ := f1_.symm; have f5_ := f3_.symm; clear f1_ f2_ f3_; subst f4_; subst f5_))
      refine hK.out _ _ ⟨(zL BK111.out 0).trans rfl, (zL BK101.out 0).trans rfl⟩ (fun hHeld => ?_)
      clear hK K
      refine QH (a' := ?_) ?_ ?_
      rotate_left
      next =>
       show Act.put _ (some 41) _ = _
       simp only [Act.put, yay, yby, ycy, za, zb]
       rfl
      refine zAH (i := 3) (N := some 42) #[true, true, true, true, false] rfl rfl (by kernel_rfl) (by decide) (fun K hK => ?_)
      refine QQ Try.func21 (by kernel_rfl) rfl #[.agg #[.slice Ao23 t108.length co23], .agg #[.slice Ao38 t114.length co38]] (by rfl) rfl rfl (by (try simp only [yiy, yjy, yky]); first | done | rfl | (simp only [yly, ymy]; rfl)) ?_
      with_reducible refine (qk.calls kj11 _ _ t108 _ _ t114 false _ ?side1 ?side2 ?side3 ?side4 A30.out).mono ?_
      (case side1 => repeat (first | exact (Kd.ZO HO_112000.out).2.2 | (with_reducible refine Kd.qD ?_ _) | (with_reducible refine Kd.qE ?_ _) | (with_reducible refine Kd.qN ?_)))
      (case side2 => exact (Kd.ZO HO_112000.out).2.1)
      (case side3 => repeat (first | exact (Kd.ZO HO116.out).2.2 | (with_reducible refine Kd.qD ?_ _) | (with_reducible refine Kd.qE ?_ _) | (with_reducible refine Kd.qN ?_)))
      (case side4 => exact (Kd.ZO HO116.out).2.1)
      rintro e w39 ⟨rfl, hb⟩
      refine ⟨_, rfl, ?_⟩
      have n0_ := zA.mk (Kd.QR (by (with_reducible repeat (first | apply Kd.zj | apply Kd.zk | apply Kd.zz)); exact HO_112000.out) hb)
      have n1_ := zA.mk (Kd.QR (by (with_reducible repeat (first | apply Kd.zj | apply Kd.zk | apply Kd.zz)); exact HO116.out) hb)
      have n2_ := zA.mk (zO (g := gb101) (o := .cells #[.slice A0_0 l0_0.length c0_0] 28 (0, 0)) (by (with_reducible repeat (first | refine zH ?_ _ | refine zJ ?_ | refine zG ?_ _)); exact BK101.out) hb)
      have n3_ := zA.mk (zO (g := gb111) (o := .cells #[.slice Ao23 t108.length co23] 35 (0, 0)) (by (with_reducible repeat (first | refine zH ?_ _ | refine zJ ?_ | refine zG ?_ _)); exact BK111.out) hb)
      have n4_ := zA.mk (zM (by repeat (first | (with_reducible first | exact HB.out | apply zC | apply zB | apply zD | refine zF ?_ GE101.out | refine zF ?_ GE111.out) | exact HB.out)) hb)
      clear HO_112000
      clear HO116
      clear BK101
      clear BK111
      clear HB
      have HO_112000 := n0_
      have HO116 := n1_
      have BK101 := n2_
      have BK111 := n3_
      have HB := n4_
      clear n0_ n1_ n2_ n3_ n4_
      (try clear hb)
      (try clear hb2)
      (try clear hk)
      (try clear hi)
      refine hK.out _ _ ⟨(zL BK111.out 0).trans rfl, (zL BK101.out 0).trans rfl⟩ (fun hHeld => ?_)
      clear hK K
      refine QH (a' := ?_) ?_ ?_
      rotate_left
      next =>
       show Act.put _ (some 42) _ = _
       simp only [Act.put, yay, yby, ycy, za, zb]
       rfl
      refine zp (i := 4) (N := some 43) (v := ?_) (a' := ?_) #[true, true, true, true, true] rfl rfl (by kernel_rfl) (fun _ _ _ h => h) (Or.inl ⟨by rfl, ?_⟩) ?_ ?_
      rotate_left
      next =>
       intro w'
       go_simp
       with_reducible rfl
      rotate_left
      next =>
       simp only [Act.put, yay, yby, ycy, za, zb]
       rfl
      refine JE (by kernel_rfl) ?_
      try go_wp2
      go_ret
      exact ⟨by first | rfl | (simp [zW, zX] <;> rfl) | (simp [*, zW, zX] <;> rfl), by repeat (first | (with_reducible first | exact HB.out | apply zC | apply zB | apply zD | refine zF ?_ GE101.out | refine zF ?_ GE111.out) | exact HB.out)⟩
end Go.Proofs.Ytembbpalgfikiaa.P
namespace Go.Proofs.Ytembbpalgfikiaa.P
open Go.RowKit Go.Proofs.YtembbpalgfikiaaW.PrintWords Go.Proofs.Ytembbpalgfikiaa.Lib
set_option linter.unusedVariables false
theorem zAo (a b c : Int) : qg.f a b c = some (decide (b ≤ a) && decide (a ≤ c)) := by
  unfold qg.f
  by_cases h : b ≤ a <;> simp [h]
theorem zGd (a b c : Int) : QO.f a b c = some (decide (b ≤ a) && decide (a ≤ c)) := by
  unfold QO.f
  by_cases h : b ≤ a <;> simp [h]
theorem zDq (a : Int) : ZT.f a = some (decide (0 ≤ a) && decide (a ≤ 23)) := by
  unfold ZT.f
  by_cases h : 0 ≤ a
  · rw [if_pos h]; simp [h]; omega
  · rw [if_neg h]; simp [h]
theorem zFj (a : Int) : Zw.f a = some (decide (0 ≤ a) && decide (a ≤ 23)) := by
  unfold Zw.f; rw [zAo]; rfl
theorem zGw {p : Int} (h0 : 0 ≤ p) (h1 : p ≤ 23) : ∃ m : Fin 24, p = (m.val : Int) := ⟨⟨p.toNat, by omega⟩, by simp; omega⟩
theorem zDJ {p : Int} (h0 : 0 ≤ p) (h1 : p ≤ 23) : Ev (fun k => zY.f k p) (qR p) := by
  obtain ⟨m, rfl⟩ := zGw h0 h1
  have key : ∀ m : Fin 24, zY.f 5 (m.val : Int) = some (qR (m.val : Int)) := by decide +kernel
  exact Ev.of (fun k => zY.mono _ k) (key m)
theorem zFk (p : Int) : (qR p).length = 4 := rfl
theorem Zb {p f : Int} (h0 : 0 ≤ p) (h1 : p ≤ 23) (hf0 : 0 ≤ f) (hf1 : f ≤ 3) : 0 ≤ rd (qR p) f ∧ rd (qR p) f ≤ 3 := by
  obtain ⟨a, b, c, d⟩ := Jz p h0 h1
  exact zA8 a b c d f hf0 hf1
theorem zAB {p f : Int} (h0 : 0 ≤ p) (h1 : p ≤ 23) (hf0 : 0 ≤ f) (hf1 : f ≤ 3) : Ev (fun k => qY.f k p f) (rd (qR p) f) := by
  refine Ev.bind (zDJ h0 h1) ?_
  exact qv hf0 (qv (by rw [zFk]; omega) (Ev.now _))
theorem zEw {p : Int} (h0 : 0 ≤ p) (h1 : p ≤ 23) : Ev (fun k => qG.f k p) (zEt p) := by
  obtain ⟨m, rfl⟩ := zGw h0 h1
  have key : ∀ m : Fin 24, qG.f 40 (m.val : Int) = some (zEt (m.val : Int)) := by decide +kernel
  exact Ev.of (fun k => qG.mono _ k) (key m)
theorem zFl {q p f : Int} (h0 : 0 ≤ p) (h1 : p ≤ 23) (hf0 : 0 ≤ f) (hf1 : f ≤ 3) : ZC.f q p f = some (rd (qR p) f) := if_pos ⟨h0, h1, hf0, hf1⟩
theorem zEx {q p a : Int} (h0 : 0 ≤ p) (h1 : p ≤ 23) : qn.f q p a = some (a, zEt p) := by
  unfold qn.f QX.f
  rw [if_pos ⟨h0, h1⟩]; rfl
abbrev Tri := List (List zw)
def Small (t : Tri) : Prop := t.length ≤ 1048576 ∧ ∀ r ∈ t, r.length ≤ 1048576
def zES (t : List (List qO)) : Prop := t.length ≤ 1048576 ∧ ∀ r ∈ t, r.length ≤ 1048576
def Fits (t : List (List qO)) : Prop := t.length ≤ 9223372036854775807 ∧ ∀ r ∈ t, r.length ≤ 9223372036854775807
theorem JO (t : List (List qO)) (n : Nat) (h : n < t.length) : ZH t (n : Int) = t[n] := by simp [ZH, h]
theorem Qg (t : Tri) (n : Nat) (h : n < t.length) : zE t (n : Int) = t[n] := by simp [zE, h]
theorem zCf (t : List qO) (n : Nat) (h : n < t.length) : QA t (n : Int) = t[n] := by simp [QA, h]
theorem zAp (t : List zw) (n : Nat) (h : n < t.length) : zI t (n : Int) = t[n] := by simp [zI, h]
theorem zC7 (r : List qO) (a : Int) (h0 : 0 ≤ a) (h1 : a ≤ 1048576) (h : r.length ≤ 9223372036854775807) : QL.f r a = some (if a - r.length < 0 then -1 else a - r.length) := by
  unfold QL.f
  rw [qh (by omega) (by omega)]
  split <;> rfl
theorem zDr (t : List (List qO)) (h : Fits t) (hl : t.length ≤ 1048576) : ∃ r, Ev (fun k => qS.l0 k t (1048576 - t.length) 0) r ∧ (0 ≤ r → ∀ x ∈ t, x.length ≤ 1048576) := by
  have key : ∀ d n : Nat, ∀ a : Int, n + d = t.length → 0 ≤ a → a ≤ 1048576 → ∃ r, Ev (fun k => qS.l0 k t a (n : Int)) r ∧ (0 ≤ r → ∀ x ∈ t.drop n, x.length ≤ 1048576) := by
    intro d
    induction d with
    | zero =>
      intro n a hn h0 h1
      refine ⟨a, qT (f := fun _ => some a) (fun k => ?_) (Ev.now a), fun _ x hx => ?_⟩
      · simp only [qS.l0]; rw [if_neg (by omega)]
      · rw [List.drop_eq_nil_of_le (by omega)] at hx; cases hx
    | succ d ih =>
      intro n a hn h0 h1
      have hlt : n < t.length := by omega
      have hf := h.2 t[n] (yoy hlt)
      by_cases hc : a - t[n].length < 0
      · refine ⟨-1, qT (f := fun _ => some (-1)) (fun k => ?_) (Ev.now (-1)), fun h => by omega⟩
        simp only [qS.l0]
        rw [if_pos (by omega), if_pos (by omega), JO t n hlt, zC7 _ a h0 h1 hf, yfy, if_pos hc]
        rfl
      · obtain ⟨r, hr, hr2⟩ := ih (n + 1) (a - t[n].length) (by omega) (by omega) (by omega)
        refine ⟨r, qT (fun k => ?_) hr, fun h x hx => ?_⟩
        · simp only [qS.l0]
          rw [if_pos (by omega), if_pos (by omega), JO t n hlt, zC7 _ a h0 h1 hf, yfy, if_neg hc, if_neg (by omega), ZI (by omega)]
        · rw [ypy hlt] at hx
          rcases List.mem_cons.1 hx with rfl | hx
          · omega
          · exact hr2 h x hx
  obtain ⟨r, hr, hr2⟩ := key t.length 0 (1048576 - t.length) (by omega) (by omega) (by omega)
  exact ⟨r, hr, fun h => by have := hr2 h; rwa [List.drop_zero] at this⟩
theorem zAf (t : List (List qO)) (h : Fits t) : ∃ r, Ev (fun k => qw.f k t 1048576) r ∧ (¬ r < 0 → zES t) := by
  by_cases hl : (1048576 - (t.length : Int)) < 0
  · refine ⟨-1, ?_, fun h => by omega⟩
    refine Ev.bind (a := -1) (zFZ (fun k => ?_)) (qv (by omega) (Ev.now _))
    unfold qS.f
    have := h.1
    rw [qh (by omega) (by omega), if_pos hl]
  · obtain ⟨r, hr, hr2⟩ := zDr t h (by omega)
    have h2 : Ev (fun k => qS.f k t 1048576) r := by
      refine Ev.congr (fun k => ?_) hr
      unfold qS.f
      rw [qh (by omega) (by omega), if_neg hl]
    by_cases hn : r < 0
    · exact ⟨-1, Ev.bind h2 (qv hn (Ev.now _)), fun h => by omega⟩
    · exact ⟨r, Ev.bind h2 (QP hn (Ev.now _)), fun _ => ⟨by omega, hr2 (by omega)⟩⟩
def cvF (x : qO) : zw := ⟨x.f0, x.f1⟩
def cvR (r : List qO) : List zw := r.map cvF
def cvT (t : List (List qO)) : Tri := t.map cvR
theorem zFm {t : List (List qO)} (h : zES t) : Small (cvT t) := by
  refine ⟨by simp [cvT]; exact h.1, fun r hr => ?_⟩
  obtain ⟨s, hs, rfl⟩ := List.mem_map.1 hr
  simp [cvR]; exact h.2 s hs
theorem zB1 {α β : Type} (f : α → β) (l : List α) (z : β) (n : Nat) (h : n < l.length) :
    ((l.take n).map f ++ List.replicate (l.length - n) z).set n (f l[n]) = (l.take (n + 1)).map f ++ List.replicate (l.length - (n + 1)) z := by
  have e : l.length - n = (l.length - (n + 1)) + 1 := by omega
  rw [e, List.replicate_succ, List.set_append_right _ _ (by simp; omega)]
  have : n - ((l.take n).map f).length = 0 := by simp; omega
  rw [this, yby, List.take_succ_eq_append_getElem h, List.map_append, List.append_assoc]
  rfl
theorem zEy (l : List qO) (h : l.length ≤ 1048576) : Ev (fun k => qb.f k l) (cvR l) := by
  have hl : Ev (fun k => qb.l0 k l (List.replicate l.length zAd) 0) (cvR l) := by
    refine zEF (fun k (s : List zw × Int) => qb.l0 k l s.1 s.2) (fun s => ∃ n : Nat, n ≤ l.length ∧ s.2 = n ∧ s.1 = (l.take n).map cvF ++ List.replicate (l.length - n) zAd) (fun s => l.length - s.2.toNat) (fun _ => cvR l) ?_ (List.replicate l.length zAd, 0) ⟨0, by omega, rfl, by simp⟩
    rintro ⟨a, i⟩ ⟨n, hn, rfl, rfl⟩
    dsimp only
    by_cases hlt : n < l.length
    · refine .inr ⟨((l.take (n + 1)).map cvF ++ List.replicate (l.length - (n + 1)) zAd, ((n + 1 : Nat) : Int)), ⟨n + 1, by omega, rfl, rfl⟩, by simp; omega, rfl, fun k => ?_⟩
      simp only [qb.l0, JB.f, yfy]
      rw [if_pos (by omega), if_pos (by omega), if_pos (by simp; omega), ZI (by omega), yny, zCf l n hlt]
      have := zB1 cvF l zAd n hlt
      rw [← this]
      rfl
    · obtain rfl : n = l.length := by omega
      refine .inl fun k => ?_
      simp only [qb.l0]
      rw [if_neg (by omega)]
      simp [cvR]
  refine Ev.congr (fun k => ?_) hl
  unfold qb.f
  rw [if_pos (by omega), if_pos (by simp; omega), yny]
theorem zDs (l : List (List qO)) (h : zES l) : Ev (fun k => qW.f k l) (cvT l) := by
  have hl : Ev (fun k => qW.l0 k l (List.replicate l.length []) 0) (cvT l) := by
    refine zDj (fun k (s : Tri × Int) => qW.l0 k l s.1 s.2) (fun s => ∃ n : Nat, n ≤ l.length ∧ s.2 = n ∧ s.1 = (l.take n).map cvR ++ List.replicate (l.length - n) []) (fun s => l.length - s.2.toNat) (fun _ => cvT l) ?_ (List.replicate l.length [], 0) ⟨0, by omega, rfl, by simp⟩
    rintro ⟨a, i⟩ ⟨n, hn, rfl, rfl⟩
    dsimp only
    by_cases hlt : n < l.length
    · obtain ⟨K, hK⟩ := zEy l[n] (h.2 _ (yoy hlt))
      refine .inr ⟨((l.take (n + 1)).map cvR ++ List.replicate (l.length - (n + 1)) [], ((n + 1 : Nat) : Int)), K, ⟨n + 1, by omega, rfl, rfl⟩, by simp; omega, rfl, fun k hk => ?_⟩
      have e : qb.f k l[n] = some _ := hK k hk
      have h1 := h.1
      simp only [qW.l0]
      rw [if_pos (by omega), if_pos (by omega), JO l n hlt, e, yfy, if_pos (by simp; omega), ZI (by omega), yny, zB1 cvR l [] n hlt]
    · obtain rfl : n = l.length := by omega
      refine .inl ⟨0, fun k _ => ?_⟩
      simp only [qW.l0]
      rw [if_neg (by omega)]
      simp [cvT]
  have h1 := h.1
  refine Ev.congr (fun k => ?_) hl
  unfold qW.f
  rw [if_pos (by omega), if_pos (by simp; omega), yny]
theorem zAg (l : List (List qO)) (h : zES l) : Ev (fun k => qC.f k l) (cvT l) := Ev.bind (zDs l h) (Ev.now _)
theorem zEz (l : List zw) (h : l.length ≤ 1048576) : Ev (fun k => qH.f k l l) true := by
  have hl : Ev (fun k => qH.l0 k l l 0) true := by
    refine zEF (fun k (s : Int) => qH.l0 k l l s) (fun s => ∃ n : Nat, n ≤ l.length ∧ s = n) (fun s => l.length - s.toNat) (fun _ => true) ?_ 0 ⟨0, by omega, rfl⟩
    rintro i ⟨n, hn, rfl⟩
    by_cases hlt : n < l.length
    · refine .inr ⟨((n + 1 : Nat) : Int), ⟨n + 1, by omega, rfl⟩, by simp; omega, rfl, fun k => ?_⟩
      simp only [qH.l0, Qf.f]
      rw [if_pos (by omega), if_pos (by omega), if_pos (by omega), if_pos trivial, if_pos trivial, yfy, if_pos rfl, ZI (by omega)]
    · refine .inl fun k => ?_
      simp only [qH.l0]
      rw [if_neg (by omega)]
  refine Ev.congr (fun k => ?_) hl
  unfold qH.f
  rw [if_pos rfl]
theorem zAh (l : Tri) (h : Small l) : Ev (fun k => qk.f k l l) true := by
  have hl : Ev (fun k => qA.l0 k l l 0) true := by
    refine zDj (fun k (s : Int) => qA.l0 k l l s) (fun s => ∃ n : Nat, n ≤ l.length ∧ s = n) (fun s => l.length - s.toNat) (fun _ => true) ?_ 0 ⟨0, by omega, rfl⟩
    rintro i ⟨n, hn, rfl⟩
    by_cases hlt : n < l.length
    · obtain ⟨K, hK⟩ := zEz l[n] (h.2 _ (yoy hlt))
      refine .inr ⟨((n + 1 : Nat) : Int), K, ⟨n + 1, by omega, rfl⟩, by simp; omega, rfl, fun k hk => ?_⟩
      have e : qH.f k l[n] l[n] = some _ := hK k hk
      have h1 := h.1
      simp only [qA.l0]
      rw [if_pos (by omega), if_pos (by omega), if_pos (by omega), Qg l n hlt, e, yfy, if_pos rfl, ZI (by omega)]
    · refine .inl ⟨0, fun k _ => ?_⟩
      simp only [qA.l0]
      rw [if_neg (by omega)]
  have h2 : Ev (fun k => qA.f k l l) true := by
    refine Ev.congr (fun k => ?_) hl
    unfold qA.f
    rw [if_pos rfl]
  exact Ev.bind h2 (qv rfl (Ev.now _))
def zDt (m u : List Int) (i : Nat) : Nat → Nat → Bool
  | 0, _ => true
  | d + 1, j => (rd m (rd u (j : Int)) != rd m (rd u (i : Int))) && zDt m u i d (j + 1)
def zBo (m u : List Int) : Nat → Nat → Int
  | 0, _ => 0
  | d + 1, i => (if zDt m u i i 0 = true then 1 else 0) + zBo m u d (i + 1)
theorem zDu (m u : List Int) : ∀ d i, 0 ≤ zBo m u d i ∧ zBo m u d i ≤ d
  | 0, _ => ⟨by simp [zBo], by simp [zBo]⟩
  | d + 1, i => by
    have := zDu m u d (i + 1)
    unfold zBo
    split <;> constructor <;> omega
theorem zHO {x0 x1 : List Int} {r x5 : Int} (h : ∀ v ∈ x1, 0 ≤ v ∧ v < (x0.length : Int)) (hl : x1.length ≤ 1000000) (h5 : 0 ≤ x5) (h5b : x5 ≤ 1000000) {i : Nat} (hi : i < x1.length) :
    ∀ d j : Nat, j + d = i → ∀ b : Bool, Ev (fun k => ze.l0 k x0 x1 (x5 + (if (b && zDt x0 x1 i d j) = true then 1 else 0)) ((i + 1 : Nat) : Int)) r → Ev (fun k => ze.l1 k x0 x1 x5 (i : Int) b (j : Int)) r := by
  have hw : wrap64 ((i : Int) + 1) = ((i + 1 : Nat) : Int) := ZI (by omega)
  have hw5 : wrap64 (x5 + 1) = x5 + 1 := qh (by omega) (by omega)
  intro d
  induction d with
  | zero =>
    intro j hj b hN
    have c1 : ¬ (j : Int) < (i : Int) := by omega
    cases b with
    | true =>
      simp only [zDt, Bool.and_self, if_true] at hN
      exact qT (fun k => by rw [ze.l1, if_neg c1, if_pos rfl, hw, hw5]) hN
    | false =>
      simp only [zDt, Bool.false_and, Bool.false_eq_true, if_false, Int.add_zero] at hN
      exact qT (fun k => by rw [ze.l1, if_neg c1, if_neg (by decide), hw]) hN
  | succ d ih =>
    intro j hj b hN
    have c1 : (j : Int) < (i : Int) := by omega
    have hwj : wrap64 ((j : Int) + 1) = ((j + 1 : Nat) : Int) := ZI (by omega)
    have hj1 : j < x1.length := by omega
    cases b with
    | false =>
      have hr := ih (j + 1) (by omega) false (by simpa only [Bool.false_and] using hN)
      exact qT (fun k => by rw [ze.l1, if_pos c1, if_neg (by decide), hwj]) hr
    | true =>
      have a1 : (0 : Int) ≤ (j : Int) := by omega
      have a2 : (j : Int) < (x1.length : Int) := by omega
      have a3 : (0 : Int) ≤ (i : Int) := by omega
      have a4 : (i : Int) < (x1.length : Int) := by omega
      have b1 := h _ (yoy hj1)
      have b2 := h _ (yoy hi)
      rw [← zB7 x1 j hj1] at b1
      rw [← zB7 x1 i hi] at b2
      have hr := ih (j + 1) (by omega) (rd x0 (rd x1 (j : Int)) != rd x0 (rd x1 (i : Int))) (by simpa only [zDt, Bool.true_and] using hN)
      exact qT (fun k => by rw [ze.l1, if_pos c1, if_pos rfl, if_pos a1, if_pos a2, if_pos b1.1, if_pos b1.2, if_pos a3, if_pos a4, if_pos b2.1, if_pos b2.2, hwj]) hr
theorem zHP {x0 x1 : List Int} (h : ∀ v ∈ x1, 0 ≤ v ∧ v < (x0.length : Int)) (hl : x1.length ≤ 1000000) : ∀ d i : Nat, i + d = x1.length → ∀ x5 : Int, 0 ≤ x5 → x5 ≤ i → Ev (fun k => ze.l0 k x0 x1 x5 (i : Int)) (x5 + zBo x0 x1 d i) := by
  intro d
  induction d with
  | zero =>
    intro i hi x5 h0 h1
    have c1 : ¬ (i : Int) < (x1.length : Int) := by omega
    rw [zBo, Int.add_zero]
    exact qT (f := fun _ => some x5) (fun k => by rw [ze.l0, if_neg c1]) (Ev.now _)
  | succ d ih =>
    intro i hi x5 h0 h1
    have c1 : (i : Int) < (x1.length : Int) := by omega
    have e : x5 + zBo x0 x1 (d + 1) i = (x5 + (if zDt x0 x1 i i 0 = true then 1 else 0)) + zBo x0 x1 d (i + 1) := by rw [zBo]; omega
    rw [e]
    have hN := ih (i + 1) (by omega) (x5 + (if zDt x0 x1 i i 0 = true then 1 else 0)) (by split <;> omega) (by split <;> omega)
    have hr := zHO (r := (x5 + (if zDt x0 x1 i i 0 = true then 1 else 0)) + zBo x0 x1 d (i + 1)) h hl h0 (by omega) (i := i) (by omega) i 0 (by omega) true (by simpa only [Bool.true_and] using hN)
    exact qT (fun k => by rw [ze.l0, if_pos c1]; rfl) hr
theorem zFn {x0 x1 : List Int} (h : ∀ v ∈ x1, 0 ≤ v ∧ v < (x0.length : Int)) (hl : x1.length ≤ 1000000) : Ev (fun k => ze.f k x0 x1) (zBo x0 x1 x1.length 0) := by
  have := zHP h hl x1.length 0 (by omega) 0 (by omega) (by omega)
  rw [Int.zero_add] at this
  exact this
abbrev fc (t : Tri) (a f : Int) : zw := zI (zE t a) f
def zB9 (t : Tri) (a f : Int) : Bool :=
  if (fc t a f).f0 = -1 then (fc t a f).f1 == 0
  else if 0 ≤ (fc t a f).f0 ∧ (fc t a f).f0 < (t.length : Int) ∧ 0 ≤ (fc t a f).f1 ∧ (fc t a f).f1 ≤ 23 then
    ((fc t (fc t a f).f0 (rd (qR (fc t a f).f1) f)).f0 == a && (fc t (fc t a f).f0 (rd (qR (fc t a f).f1) f)).f1 == zEt (fc t a f).f1) && !((fc t a f).f0 == a && rd (qR (fc t a f).f1) f == f)
  else false
def JW (t : Tri) (a : Int) : Int → Nat → Bool
  | _, 0 => true
  | f, d + 1 => zB9 t a f && JW t a (f + 1) d
def zAJ (t : Tri) : Int → Nat → Bool
  | _, 0 => true
  | a, d + 1 => JW t a 0 4 && zAJ t (a + 1) d
def ZB (t : Tri) : Bool := decide (t.length ≤ 8) && (t.all (fun r => decide (r.length = 4)) && zAJ t 0 t.length)
section
variable {t : Tri}
theorem row4 (h4 : ∀ r ∈ t, r.length = 4) {a : Int} (h0 : 0 ≤ a) (h1 : a < t.length) : (zE t a).length = 4 := by
  obtain ⟨n, rfl⟩ := Int.eq_ofNat_of_zero_le h0
  rw [Qg t n (by omega)]
  exact h4 _ (yoy _)
theorem zBu (h4 : ∀ r ∈ t, r.length = 4) (hn : t.length ≤ 8) {a f : Int} (h0 : 0 ≤ a) (h1 : a < t.length) (hf0 : 0 ≤ f) (hf1 : f ≤ 3) : Ev (fun k => zT.f k t a f) (zB9 t a f) := by
  have hr := row4 h4 h0 h1
  refine Ev.congr (fun k => by unfold zT.f; rw [if_pos h0, if_pos h1, if_pos hf0, if_pos (by omega)]) ?_
  change Ev (fun k => if (fc t a f).f0 = -1 then some ((fc t a f).f1 == 0) else _) (zB9 t a f)
  unfold zB9
  by_cases hb : (fc t a f).f0 = -1
  · rw [if_pos hb]; exact qv hb (Ev.now _)
  · refine QP hb ?_
    rw [if_neg hb]
    have hix : qe.f t (fc t a f).f0 = some (decide (0 ≤ (fc t a f).f0) && decide ((fc t a f).f0 ≤ (t.length : Int) - 1)) := by
      unfold qe.f qU.f
      rw [yfy, qh (by omega) (by omega), zAo]; rfl
    have hfalse : Ev (fun k => zT.j0 k a f true t (fc t a f).f0 (fc t a f).f1) false := qT (fun k => by rw [zT.j0, if_pos rfl]) (Ev.now false)
    refine Ev.bind (Qj hix) ?_
    by_cases hi : 0 ≤ (fc t a f).f0 ∧ (fc t a f).f0 < (t.length : Int)
    · refine qv (by simp; omega) ?_
      refine Ev.bind (Qj (zFj _)) ?_
      by_cases hp : 0 ≤ (fc t a f).f1 ∧ (fc t a f).f1 ≤ 23
      · rw [if_pos ⟨hi.1, hi.2, hp.1, hp.2⟩]
        have e : (!(decide (0 ≤ (fc t a f).f1) && decide ((fc t a f).f1 ≤ 23))) = false := by simp [hp]
        rw [e]
        refine qT (fun k => by rw [zT.j0, if_neg (by simp), zFl hp.1 hp.2 hf0 hf1, yfy]) ?_
        obtain ⟨hg0, hg1⟩ := Zb hp.1 hp.2 hf0 hf1
        have hr2 := row4 h4 hi.1 hi.2
        refine qv hi.1 (qv hi.2 (qv hg0 (qv (by rw [hr2]; omega) ?_)))
        refine Ev.bind (Qj (zEx hp.1 hp.2)) ?_
        change Ev (fun k => if ((fc t (fc t a f).f0 (rd (qR (fc t a f).f1) f)).f0 == a && (fc t (fc t a f).f0 (rd (qR (fc t a f).f1) f)).f1 == zEt (fc t a f).f1) = true then _ else _) _
        generalize ((fc t (fc t a f).f0 (rd (qR (fc t a f).f1) f)).f0 == a && (fc t (fc t a f).f0 (rd (qR (fc t a f).f1) f)).f1 == zEt (fc t a f).f1) = b
        cases b with
        | false => refine QP (by simp) ?_; rw [Bool.false_and]; exact Ev.now false
        | true =>
          refine qv rfl ?_
          rw [Bool.true_and]
          by_cases ha : (fc t a f).f0 = a
          · refine qv ha (zCW ?_)
            rw [ha]; simp [bne]
          · refine QP ha (zCW ?_)
            simp [ha]
      · rw [if_neg (by omega)]
        have e : (!(decide (0 ≤ (fc t a f).f1) && decide ((fc t a f).f1 ≤ 23))) = true := by
          rw [Bool.not_eq_true', Bool.and_eq_false_iff, decide_eq_false_iff_not, decide_eq_false_iff_not]; omega
        rw [e]
        exact hfalse
    · rw [if_neg (by omega)]
      refine QP ?_ hfalse
      rw [Bool.and_eq_true, decide_eq_true_eq, decide_eq_true_eq]; omega
theorem zC8 (h4 : ∀ r ∈ t, r.length = 4) (hn : t.length ≤ 8) {a : Int} (h0 : 0 ≤ a) (h1 : a < t.length) {R : Bool} (hR : Ev (fun k => zU.l0 k (t.length : Int) (a + 1) t) R) :
    ∀ (d : Nat) (f : Int), 0 ≤ f → f + d = 4 → Ev (fun k => zU.l1 k a (t.length : Int) a f t) (JW t a f d && R)
  | 0, f, hf, he => by
    refine qT (fun k => by rw [zU.l1, if_neg (by omega), qh (by omega) (by omega)]) ?_
    rw [JW, Bool.true_and]; exact hR
  | d + 1, f, hf, he => by
    refine qT (fun k => by rw [zU.l1, if_pos (by omega)]) ?_
    refine Ev.bind (zBu h4 hn h0 h1 hf (by omega)) ?_
    rw [JW]
    cases hg : zB9 t a f with
    | false => exact QP (by simp) (by rw [Bool.false_and, Bool.false_and]; exact Ev.now false)
    | true =>
      refine qv rfl ?_
      rw [Bool.true_and]
      exact Ev.congr (fun k => by rw [qh (by omega) (by omega)]) (zC8 h4 hn h0 h1 hR d (f + 1) (by omega) (by omega))
theorem zC9 (h4 : ∀ r ∈ t, r.length = 4) (hn : t.length ≤ 8) : ∀ (d : Nat) (a : Int), 0 ≤ a → a + d = t.length → Ev (fun k => zU.l0 k (t.length : Int) a t) (zAJ t a d)
  | 0, a, ha, he => by
    refine qT (fun k => by rw [zU.l0, if_neg (by omega)]) ?_
    exact Ev.now true
  | d + 1, a, ha, he => by
    refine qT (fun k => by rw [zU.l0, if_pos (by omega)]) ?_
    rw [zAJ]
    exact zC8 h4 hn ha (by omega) (zC9 h4 hn d (a + 1) (by omega) (by omega)) 4 0 (by omega) (by omega)
theorem zCg : t.all (fun r => decide (r.length = 4)) = true ↔ ∀ r ∈ t, r.length = 4 := by simp
theorem zFo (h : Small t) : zl.f t = some (!(t.all fun r => decide (r.length = 4))) := by
  unfold zl.f qF.f
  rw [contO (p := fun r => !(decide (r.length = 4))) t (fun r _ => by
    show qd.f r = _
    unfold qd.f
    congr 1
    by_cases h : r.length = 4
    · simp [h]
    · have : ¬ ((r.length : Int) = 4) := by omega
      simp [h, this]), List.not_all_eq_any_not]
theorem zCh (h : Small t) : Ev (fun k => zU.f k t) (ZB t) := by
  have hfalse : Ev (fun k => zU.j0 k true t) false := qT (fun k => by rw [zU.j0, if_pos rfl]) (Ev.now false)
  unfold ZB
  by_cases h8 : t.length ≤ 8
  · refine Ev.congr (fun k => by unfold zU.f; rw [if_neg (by omega), zFo h, yfy]) ?_
    rw [ygy h8, Bool.true_and]
    cases hall : t.all (fun r => decide (r.length = 4)) with
    | false => rw [Bool.false_and]; exact hfalse
    | true =>
      rw [Bool.true_and]
      refine qT (fun k => by rw [zU.j0, if_neg (by simp)]) ?_
      exact zC9 (zCg.1 hall) h8 t.length 0 (by omega) (by omega)
  · refine Ev.congr (fun k => by unfold zU.f; rw [if_pos (by omega)]) ?_
    rw [yhy h8, Bool.false_and]; exact hfalse
theorem zCA (h4 : ∀ r ∈ t, r.length = 4) (hn : t.length ≤ 8) {a : Int} (h0 : 0 ≤ a) (h1 : a < t.length) {R : Bool} (hR : Ev (fun k => zK.l1 k (a + 1) t) R) :
    ∀ (d : Nat) (f : Int), 0 ≤ f → f + d = 4 → Ev (fun k => zK.l2 k a f t) (JW t a f d && R)
  | 0, f, hf, he => by
    refine qT (fun k => by rw [zK.l2, if_neg (by omega), qh (by omega) (by omega)]) ?_
    rw [JW, Bool.true_and]; exact hR
  | d + 1, f, hf, he => by
    have hr := row4 h4 h0 h1
    have ih : Ev (fun k => zK.l2 k a (wrap64 (f + 1)) t) (JW t a (f + 1) d && R) := Ev.congr (fun k => by rw [qh (by omega) (by omega)]) (zCA h4 hn h0 h1 hR d (f + 1) (by omega) (by omega))
    refine qT (fun k => by rw [zK.l2, if_pos (by omega), if_pos h0, if_pos h1, if_pos hf, if_pos (by omega)]) ?_
    change Ev (fun k => if (fc t a f).f0 = -1 then zK.j3 k a f ((fc t a f).f1 == 0) t (fc t a f).f0 (fc t a f).f1 else zK.j3 k a f false t (fc t a f).f0 (fc t a f).f1) _
    rw [JW]
    have hstop : ∀ b, Ev (fun k => zK.j4 k a f true t (fc t a f).f0 (fc t a f).f1) (false && b) := fun b => by
      rw [Bool.false_and]; exact qT (fun k => by rw [zK.j4, if_pos rfl]) (Ev.now false)
    have hgo : Ev (fun k => zK.j3 k a f true t (fc t a f).f0 (fc t a f).f1) (JW t a (f + 1) d && R) := qT (fun k => by rw [zK.j3, if_pos rfl]) ih
    have hrest : (¬ ((fc t a f).f0 = -1 ∧ (fc t a f).f1 = 0)) → Ev (fun k => zK.j3 k a f false t (fc t a f).f0 (fc t a f).f1) (zB9 t a f && JW t a (f + 1) d && R) := by
      intro hnb
      refine qT (fun k => by rw [zK.j3, qX.f, if_neg (by simp), yfy, zGd, yfy, qh (by omega) (by omega)]) ?_
      unfold zB9
      by_cases hi : 0 ≤ (fc t a f).f0 ∧ (fc t a f).f0 < (t.length : Int)
      · refine qv (by simp; omega) ?_
        refine Ev.bind (Qj (zDq _)) ?_
        rw [if_neg (by omega)]
        by_cases hp : 0 ≤ (fc t a f).f1 ∧ (fc t a f).f1 ≤ 23
        · rw [if_pos ⟨hi.1, hi.2, hp.1, hp.2⟩]
          have e : (!(decide (0 ≤ (fc t a f).f1) && decide ((fc t a f).f1 ≤ 23))) = false := by simp [hp]
          rw [e]
          obtain ⟨hg0, hg1⟩ := Zb hp.1 hp.2 hf (by omega)
          have hr2 := row4 h4 hi.1 hi.2
          refine qT (fun k => by rw [zK.j4, if_neg (by simp)]) ?_
          refine Ev.bind (zAB hp.1 hp.2 hf (by omega)) ?_
          refine Ev.bind (zEw hp.1 hp.2) ?_
          refine qv hi.1 (qv hi.2 (qv hg0 (qv (by rw [hr2]; omega) ?_)))
          change Ev (fun k => if (!((fc t (fc t a f).f0 (rd (qR (fc t a f).f1) f)).f0 == a) || !((fc t (fc t a f).f0 (rd (qR (fc t a f).f1) f)).f1 == zEt (fc t a f).f1)) = true then _ else _) _
          generalize ((fc t (fc t a f).f0 (rd (qR (fc t a f).f1) f)).f0 == a) = b1
          generalize ((fc t (fc t a f).f0 (rd (qR (fc t a f).f1) f)).f1 == zEt (fc t a f).f1) = b2
          cases b1 with
          | false => exact qv rfl (by rw [Bool.false_and, Bool.false_and, Bool.false_and, Bool.false_and]; exact Ev.now false)
          | true =>
            cases b2 with
            | false => exact qv rfl (by rw [Bool.true_and, Bool.false_and, Bool.false_and, Bool.false_and]; exact Ev.now false)
            | true =>
              refine QP (by simp) ?_
              rw [Bool.true_and, Bool.true_and]
              by_cases ha : (fc t a f).f0 = a
              · refine qv ha ?_
                by_cases hg : rd (qR (fc t a f).f1) f = f
                · refine qv hg ?_
                  rw [ha, hg]
                  simp
                  exact Ev.now false
                · refine QP hg ?_
                  have : (rd (qR (fc t a f).f1) f == f) = false := by simp [hg]
                  rw [this, Bool.and_false, Bool.not_false, Bool.true_and]
                  exact ih
              · refine QP ha ?_
                have : ((fc t a f).f0 == a) = false := by simp [ha]
                rw [this, Bool.false_and, Bool.not_false, Bool.true_and]
                exact ih
        · rw [if_neg (by omega)]
          have e : (!(decide (0 ≤ (fc t a f).f1) && decide ((fc t a f).f1 ≤ 23))) = true := by
            rw [Bool.not_eq_true', Bool.and_eq_false_iff, decide_eq_false_iff_not, decide_eq_false_iff_not]; omega
          rw [e, Bool.false_and]
          exact hstop R
      · have hg : (if (fc t a f).f0 = -1 then ((fc t a f).f1 == 0) else if 0 ≤ (fc t a f).f0 ∧ (fc t a f).f0 < (t.length : Int) ∧ 0 ≤ (fc t a f).f1 ∧ (fc t a f).f1 ≤ 23 then
            ((fc t (fc t a f).f0 (rd (qR (fc t a f).f1) f)).f0 == a && (fc t (fc t a f).f0 (rd (qR (fc t a f).f1) f)).f1 == zEt (fc t a f).f1) && !((fc t a f).f0 == a && rd (qR (fc t a f).f1) f == f) else false) = false := by
          by_cases hb : (fc t a f).f0 = -1
          · rw [if_pos hb]; simp; intro h; exact hnb ⟨hb, h⟩
          · rw [if_neg hb, if_neg (by omega)]
        rw [hg, Bool.false_and]
        refine QP ?_ (hstop R)
        rw [Bool.and_eq_true, decide_eq_true_eq, decide_eq_true_eq]; omega
    by_cases hb : (fc t a f).f0 = -1
    · refine qv hb ?_
      by_cases h0' : (fc t a f).f1 = 0
      · have e : zB9 t a f = true := by unfold zB9; rw [if_pos hb]; simp [h0']
        rw [e, Bool.true_and]
        have e2 : ((fc t a f).f1 == 0) = true := by simp [h0']
        rw [e2]; exact hgo
      · have e2 : ((fc t a f).f1 == 0) = false := by simp [h0']
        rw [e2]; exact hrest (fun h => h0' h.2)
    · exact QP hb (hrest (fun h => hb h.1))
theorem zCB (h4 : ∀ r ∈ t, r.length = 4) (hn : t.length ≤ 8) : ∀ (d : Nat) (a : Int), 0 ≤ a → a + d = t.length → Ev (fun k => zK.l1 k a t) (zAJ t a d)
  | 0, a, ha, he => by
    refine qT (fun k => by rw [zK.l1, qX.f, yfy, if_neg (by omega)]) ?_
    exact Ev.now true
  | d + 1, a, ha, he => by
    refine qT (fun k => by rw [zK.l1, qX.f, yfy, if_pos (by omega)]) ?_
    rw [zAJ]
    exact zCA h4 hn ha (by omega) (zCB h4 hn d (a + 1) (by omega) (by omega)) 4 0 (by omega) (by omega)
theorem zF0 (h8 : t.length ≤ 8) (d : Nat) : ∀ n : Nat, n + d = t.length → (t.all (fun r => decide (r.length = 4)) = (t.drop n).all (fun r => decide (r.length = 4))) → Ev (fun k => zK.l0 k (n : Int) t) (t.all (fun r => decide (r.length = 4)) && zAJ t 0 t.length) := by
  induction d with
  | zero =>
    intro n hn ha
    refine qT (fun k => by rw [zK.l0, if_neg (by omega)]) ?_
    have hall : t.all (fun r => decide (r.length = 4)) = true := by rw [ha, List.drop_eq_nil_of_le (by omega)]; rfl
    rw [hall, Bool.true_and]
    exact zCB (zCg.1 hall) h8 t.length 0 (by omega) (by omega)
  | succ d ih =>
    intro n hn ha
    have hlt : n < t.length := by omega
    refine qT (fun k => by rw [zK.l0, if_pos (by omega), if_pos (by omega), Qg t n hlt]) ?_
    rw [ypy hlt, List.all_cons] at ha
    by_cases h : t[n].length = 4
    · refine qv (by omega) ?_
      refine Ev.congr (fun k => by rw [ZI (by omega)]) (ih (n + 1) (by omega) ?_)
      rw [ha, ygy h, Bool.true_and]
    · refine QP (by omega) ?_
      rw [ha, yhy h, Bool.false_and, Bool.false_and]
      exact Ev.now false
theorem zCi (t : Tri) : Ev (fun k => zK.f k t) (ZB t) := by
  refine Ev.congr (fun k => by unfold zK.f qX.f; rw [yfy]) ?_
  unfold ZB
  by_cases h8 : t.length ≤ 8
  · refine QP (by omega) ?_
    rw [ygy h8, Bool.true_and]
    exact zF0 h8 t.length 0 (by omega) (by rw [List.drop_zero])
  · refine qv (by omega) ?_
    rw [yhy h8, Bool.false_and]
    exact Ev.now false
end
theorem ql {t : Tri} (h : ZB t = true) : t.length ≤ 8 ∧ (∀ r ∈ t, r.length = 4) ∧ zAJ t 0 t.length = true := by
  unfold ZB at h
  rw [Bool.and_eq_true, Bool.and_eq_true, decide_eq_true_eq] at h
  exact ⟨h.1, zCg.1 h.2.1, h.2.2⟩
theorem zFp (t : Tri) (a : Int) (d : Nat) : ∀ f, JW t a f d = true → ∀ g, f ≤ g → g < f + d → zB9 t a g = true := by
  induction d with
  | zero => intro f _ g h1 h2; omega
  | succ d ih =>
    intro f h g h1 h2
    rw [JW, Bool.and_eq_true] at h
    by_cases e : g = f
    · rw [e]; exact h.1
    · exact ih (f + 1) h.2 g (by omega) (by omega)
theorem zFq (t : Tri) (d : Nat) : ∀ a, zAJ t a d = true → ∀ b, a ≤ b → b < a + d → ∀ g, 0 ≤ g → g ≤ 3 → zB9 t b g = true := by
  induction d with
  | zero => intro a _ b h1 h2; omega
  | succ d ih =>
    intro a h b h1 h2 g hg0 hg1
    rw [zAJ, Bool.and_eq_true] at h
    by_cases e : b = a
    · rw [e]; exact zFp t a 4 0 h.1 g hg0 (by omega)
    · exact ih (a + 1) h.2 b (by omega) (by omega) g hg0 hg1
theorem zDK {t : Tri} (h : ZB t = true) {a f : Int} (h0 : 0 ≤ a) (h1 : a < t.length) (hf0 : 0 ≤ f) (hf1 : f ≤ 3) :
    ((fc t a f).f0 = -1 ∧ (fc t a f).f1 = 0) ∨
    ((0 ≤ (fc t a f).f0 ∧ (fc t a f).f0 < (t.length : Int) ∧ 0 ≤ (fc t a f).f1 ∧ (fc t a f).f1 ≤ 23) ∧
      (fc t (fc t a f).f0 (rd (qR (fc t a f).f1) f)).f0 = a ∧ (fc t (fc t a f).f0 (rd (qR (fc t a f).f1) f)).f1 = zEt (fc t a f).f1 ∧ ¬ ((fc t a f).f0 = a ∧ rd (qR (fc t a f).f1) f = f)) := by
  have hg := zFq t t.length 0 (ql h).2.2 a h0 (by omega) f hf0 hf1
  unfold zB9 at hg
  by_cases hb : (fc t a f).f0 = -1
  · rw [if_pos hb] at hg
    exact .inl ⟨hb, by simpa using hg⟩
  · rw [if_neg hb] at hg
    by_cases hi : 0 ≤ (fc t a f).f0 ∧ (fc t a f).f0 < (t.length : Int) ∧ 0 ≤ (fc t a f).f1 ∧ (fc t a f).f1 ≤ 23
    · rw [if_pos hi, Bool.and_eq_true, Bool.and_eq_true, Bool.not_eq_true'] at hg
      refine .inr ⟨hi, eq_of_beq hg.1.1, eq_of_beq hg.1.2, fun hc => ?_⟩
      have := hg.2
      rw [Bool.and_eq_false_iff] at this
      rcases this with h2 | h2
      · exact absurd hc.1 (by simpa using h2)
      · exact absurd hc.2 (by simpa using h2)
    · rw [if_neg hi] at hg; cases hg
theorem rowlen {t : Tri} (h : ZB t = true) {a : Int} (h0 : 0 ≤ a) (h1 : a < t.length) : (zE t a).length = 4 := row4 (ql h).2.1 h0 h1
end Go.Proofs.Ytembbpalgfikiaa.P
namespace Go.Proofs.Ytembbpalgfikiaa.Lib
open Go.RowKit Go.Proofs.YtembbpalgfikiaaW.PrintWords
set_option linter.unusedVariables false
def Low (s : List Int) : Prop := ∀ i : Nat, i < s.length → 0 ≤ s.getD i 0 ∧ s.getD i 0 ≤ i ∧ s.getD (s.getD i 0).toNat 0 = s.getD i 0
theorem zFr (n : Nat) : Low (ZA 0 n) := by
  intro i hi
  rw [qL] at hi
  have h := zC2 0 n i hi
  rw [Int.zero_add] at h
  rw [h]
  refine ⟨by omega, by omega, ?_⟩
  rw [yny, h]
theorem zDv {s : List Int} (h : Low s) {i k : Int} (hi0 : 0 ≤ i) (hi1 : i < s.length) (hk0 : 0 ≤ k) (hk1 : k < s.length) : Low (joi s i k) := by
  have a1 := h i.toNat (by omega)
  have a2 := h k.toNat (by omega)
  rw [← zFb] at a1 a2
  intro n hn
  rw [Zh] at hn
  have a3 := h n hn
  have gt : ∀ m : Nat, m < s.length → (joi s i k).getD m 0 = if s.getD m 0 = max (rd s i) (rd s k) then min (rd s i) (rd s k) else s.getD m 0 := fun m hm => zDk s i k m hm
  generalize rd s i = p at *
  generalize rd s k = q at *
  rw [gt n hn]
  generalize hx : s.getD n 0 = x at *
  have lm : ∀ y : Int, 0 ≤ y → y < s.length → s.getD y.toNat 0 = y → (joi s i k).getD y.toNat 0 = if y = max p q then min p q else y := fun y h0 h1 h2 => by rw [gt y.toNat (by omega), h2]
  by_cases e : x = max p q
  · rw [if_pos e]
    refine ⟨by omega, by omega, ?_⟩
    rcases Int.le_total p q with hpq | hpq
    · have e1 : min p q = p := by omega
      have e2 : max p q = q := by omega
      rw [e1, lm p (by omega) (by omega) a1.2.2, e1, e2]
      split
      · rfl
      · rfl
    · have e1 : min p q = q := by omega
      have e2 : max p q = p := by omega
      rw [e1, lm q (by omega) (by omega) a2.2.2, e1, e2]
      split
      · rfl
      · rfl
  · rw [if_neg e]
    refine ⟨a3.1, a3.2.1, ?_⟩
    rw [lm x a3.1 (by omega) a3.2.2, if_neg e]
def roots (m : List Int) : Nat → List Int
  | 0 => []
  | i + 1 => if m.getD i 0 = i then roots m i ++ [(i : Int)] else roots m i
theorem zBE (m : List Int) : ∀ (i : Nat) (x : Int), x ∈ roots m i → 0 ≤ x ∧ x < i ∧ m.getD x.toNat 0 = x
  | 0, x, h => by cases h
  | i + 1, x, h => by
    rw [roots] at h
    split at h
    · rename_i hc
      rcases List.mem_append.1 h with h | h
      · have := zBE m i x h; exact ⟨this.1, by omega, this.2.2⟩
      · have e : x = (i : Int) := by simpa using h
        subst e
        exact ⟨by omega, by omega, by rw [yny]; exact hc⟩
    · have := zBE m i x h; exact ⟨this.1, by omega, this.2.2⟩
theorem zBf (m : List Int) (j : Nat) (hj : m.getD j 0 = j) : ∀ i : Nat, j < i → (j : Int) ∈ roots m i ∧ (roots m i).idxOf (j : Int) = (roots m j).length
  | 0, h => by omega
  | i + 1, h => by
    rw [roots]
    by_cases e : j = i
    · subst e
      have hn : (j : Int) ∉ roots m j := fun hm => by have := zBE m j _ hm; omega
      rw [if_pos hj]
      refine ⟨by simp, ?_⟩
      rw [List.idxOf_append, if_neg hn]; simp
    · obtain ⟨h1, h2⟩ := zBf m j hj i (by omega)
      split
      · refine ⟨List.mem_append_left _ h1, ?_⟩
        rw [List.idxOf_append, if_pos h1, h2]
      · exact ⟨h1, h2⟩
theorem zAq (m : List Int) (i : Nat) : ∀ d : Nat, (roots m i).length ≤ (roots m (i + d)).length
  | 0 => yry _
  | d + 1 => by
    have := zAq m i d
    rw [← Nat.add_assoc, roots]
    split
    · simp; omega
    · exact this
def zF1 (m : List Int) (x : Int) : Int := ((roots m x.toNat).length : Int)
theorem zDL {m : List Int} (h : Low m) : ∀ (d i : Nat), i + d = m.length → zAC (roots m i) (m.drop i) = (m.drop i).map (zF1 m)
  | 0, i, hi => by rw [List.drop_eq_nil_of_le (by omega)]; rfl
  | d + 1, i, hi => by
    have hlt : i < m.length := by omega
    have hg : m.getD i 0 = m[i] := by simp [hlt]
    obtain ⟨h0, h1, h2⟩ := h i hlt
    rw [hg] at h0 h1 h2
    rw [ypy hlt, zAC, yjy]
    have ih := zDL h d (i + 1) (by omega)
    rw [roots, hg] at ih
    by_cases e : m[i] = (i : Int)
    · have hn : m[i] ∉ roots m i := fun hm => by have := zBE m i _ hm; omega
      rw [if_neg hn]
      rw [if_pos e, ← e] at ih
      rw [ih]
      have er : zF1 m m[i] = ((roots m i).length : Int) := by unfold zF1; rw [e, yny]
      rw [er]
    · obtain ⟨j, hj⟩ := Int.eq_ofNat_of_zero_le h0
      rw [hj, yny] at h2
      obtain ⟨k1, k2⟩ := zBf m j h2 i (by omega)
      rw [if_neg e] at ih
      rw [ih]
      have er : zF1 m m[i] = ((roots m j).length : Int) := by unfold zF1; rw [hj, yny]
      rw [er, hj, if_pos k1, k2]
theorem zBF {m : List Int} (h : Low m) : zCX m = m.map (zF1 m) := by
  have := zDL h m.length 0 (by omega)
  rw [List.drop_zero] at this
  exact this
def zF2 (m : List Int) : Nat → Nat → List Int × Int → List Int × Int
  | _, 0, s => s
  | i, d + 1, s => zF2 m (i + 1) d (if rd m (i : Int) = (i : Int) then (s.1.set i s.2, s.2 + 1) else s)
theorem zBg (m : List Int) : ∀ (d i : Nat) (s : List Int × Int), (zF2 m i d s).1.length = s.1.length
  | 0, _, _ => rfl
  | d + 1, i, s => by
    rw [zF2, zBg m d (i + 1)]
    split <;> simp
theorem zCj (m : List Int) : ∀ (d i : Nat) (s : List Int × Int), i + d = m.length → s.1.length = m.length → s.2 = ((roots m i).length : Int) → (∀ j : Nat, j < i → m.getD j 0 = j → s.1.getD j 0 = ((roots m j).length : Int)) →
    (zF2 m i d s).2 = ((roots m m.length).length : Int) ∧ ∀ j : Nat, j < m.length → m.getD j 0 = j → (zF2 m i d s).1.getD j 0 = ((roots m j).length : Int)
  | 0, i, s, hi, hl, h2, h1 => by
    obtain rfl : i = m.length := by omega
    exact ⟨h2, h1⟩
  | d + 1, i, s, hi, hl, h2, h1 => by
    have hlt : i < m.length := by omega
    rw [zF2]
    by_cases e : m.getD i 0 = (i : Int)
    · rw [if_pos (by rw [Jw]; exact e)]
      refine zCj m d (i + 1) _ (by omega) (by simp [hl]) ?_ ?_
      · rw [roots, if_pos e]; simp [h2]
      · intro j hj hjm
        show (s.1.set i s.2).getD j 0 = _
        by_cases ej : j = i
        · subst ej
          simp [List.getD_eq_getElem?_getD, hl, hlt, h2]
        · have h3 := h1 j (by omega) hjm
          have e3 : (s.1.set i s.2).getD j 0 = s.1.getD j 0 := by
            simp only [List.getD_eq_getElem?_getD]
            rw [List.getElem?_set_ne (fun hh => ej hh.symm)]
          rw [e3, h3]
    · rw [if_neg (by rw [Jw]; exact e)]
      refine zCj m d (i + 1) s (by omega) hl ?_ ?_
      · rw [roots, if_neg e]; exact h2
      · intro j hj hjm
        by_cases ej : j = i
        · subst ej; exact absurd hjm e
        · exact h1 j (by omega) hjm
def QV (w : Nat) : Nat → List Int → List (List Int)
  | 0, _ => []
  | q + 1, xs => xs.take w :: QV w q (xs.drop w)
theorem Qu (w : Nat) : ∀ (q : Nat) (xs : List Int), (QV w q xs).length = q
  | 0, _ => rfl
  | q + 1, xs => by rw [QV, List.length_cons, Qu w q]
theorem zCC (w : Nat) : ∀ (q : Nat) (xs : List Int) (a : Nat), a < q → (QV w q xs)[a]? = some ((xs.drop (w * a)).take w)
  | 0, _, a, h => by omega
  | q + 1, xs, 0, h => by simp [QV]
  | q + 1, xs, a + 1, h => by
    rw [QV, List.getElem?_cons_succ, zCC w q _ a (by omega), List.drop_drop, Nat.mul_succ, Nat.add_comm (w * a)]
theorem zGe {m : List Int} (h : Low m) : m.map (rd (zF2 m 0 m.length (List.replicate m.length 0, 0)).1) = zCX m ∧ (zF2 m 0 m.length (List.replicate m.length 0, 0)).2 = ((roots m m.length).length : Int) := by
  obtain ⟨h1, h2⟩ := zCj m m.length 0 (List.replicate m.length 0, 0) (by omega) (by simp) rfl (fun j hj => by omega)
  refine ⟨?_, h1⟩
  rw [zBF h]
  apply List.map_congr_left
  intro x hx
  obtain ⟨i, hi, rfl⟩ := List.getElem_of_mem hx
  obtain ⟨q0, q1, q2⟩ := h i hi
  have hg : m.getD i 0 = m[i] := by simp [hi]
  rw [hg] at q0 q1 q2
  generalize m[i] = x at *
  obtain ⟨j, rfl⟩ := Int.eq_ofNat_of_zero_le q0
  rw [yny] at q2
  rw [Jw, h2 j (by omega) q2]
  unfold zF1
  rw [yny]
theorem zDw (xs : List Int) : ∀ x : Int, x ≤ xs.foldl mx x ∧ ∀ y ∈ xs, y ≤ xs.foldl mx x := by
  induction xs with
  | nil => intro x; exact ⟨Int.le_refl _, fun y hy => by cases hy⟩
  | cons z xs ih =>
    intro x
    obtain ⟨h1, h2⟩ := ih (mx x z)
    have h3 : x ≤ mx x z ∧ z ≤ mx x z := by unfold mx; split <;> omega
    rw [List.foldl_cons]
    refine ⟨by omega, fun y hy => ?_⟩
    rcases List.mem_cons.1 hy with rfl | hy
    · omega
    · exact h2 y hy
theorem zDM (xs : List Int) : ∀ x : Int, xs.foldl mx x = x ∨ xs.foldl mx x ∈ xs := by
  induction xs with
  | nil => intro x; exact .inl rfl
  | cons z xs ih =>
    intro x
    rw [List.foldl_cons]
    rcases ih (mx x z) with h | h
    · rw [h]
      unfold mx
      split
      · exact .inr (List.mem_cons_self ..)
      · exact .inl rfl
    · exact .inr (List.mem_cons_of_mem _ h)
theorem maxl {l : List Int} {M : Int} (h1 : ∀ y ∈ l, y ≤ M) (h2 : M ∈ l) : ∃ x xs, l = x :: xs ∧ xs.foldl mx x = M := by
  cases l with
  | nil => cases h2
  | cons x xs =>
    refine ⟨x, xs, rfl, ?_⟩
    obtain ⟨k1, k2⟩ := zDw xs x
    have k3 : xs.foldl mx x ≤ M := by
      rcases zDM xs x with h | h
      · rw [h]; exact h1 x (List.mem_cons_self ..)
      · exact h1 _ (List.mem_cons_of_mem _ h)
    have k4 : M ≤ xs.foldl mx x := by
      rcases List.mem_cons.1 h2 with h | h
      · rw [h]; exact k1
      · exact k2 M h
    omega
theorem zCD (m : List Int) : ∀ i : Nat, 0 < (roots m i).length → ∃ j : Nat, j < i ∧ m.getD j 0 = j ∧ (roots m j).length + 1 = (roots m i).length
  | 0, h => by simp [roots] at h
  | i + 1, h => by
    rw [roots] at h ⊢
    by_cases e : m.getD i 0 = (i : Int)
    · rw [if_pos e]
      exact ⟨i, by omega, e, by simp⟩
    · rw [if_neg e] at h ⊢
      obtain ⟨j, h1, h2, h3⟩ := zCD m i h
      exact ⟨j, by omega, h2, h3⟩
theorem zGf {m : List Int} (h : Low m) (hp : 0 < m.length) : ∃ x xs, zCX m = x :: xs ∧ xs.foldl mx x = ((roots m m.length).length : Int) - 1 := by
  have h00 := h 0 hp
  have e0 : m.getD 0 0 = ((0 : Nat) : Int) := by have := h00.1; have := h00.2.1; omega
  have hpos : 0 < (roots m m.length).length := by
    have := (zBf m 0 e0 m.length hp).1
    exact List.length_pos_of_mem this
  rw [zBF h]
  refine maxl ?_ ?_
  · intro y hy
    obtain ⟨x, hx, rfl⟩ := List.mem_map.1 hy
    obtain ⟨i, hi, rfl⟩ := List.getElem_of_mem hx
    obtain ⟨q0, q1, q2⟩ := h i hi
    have hg : m.getD i 0 = m[i] := by simp [hi]
    rw [hg] at q0 q1 q2
    generalize m[i] = x at *
    obtain ⟨j, rfl⟩ := Int.eq_ofNat_of_zero_le q0
    rw [yny] at q2
    have k := zAq m (j + 1) (m.length - (j + 1))
    rw [show j + 1 + (m.length - (j + 1)) = m.length by omega, roots, if_pos q2] at k
    unfold zF1
    rw [yny]
    simp at k
    omega
  · obtain ⟨j, h1, h2, h3⟩ := zCD m m.length hpos
    refine List.mem_map.2 ⟨(j : Int), ?_, ?_⟩
    · have : m.getD j 0 = m[j] := by simp [h1]
      rw [← h2, this]; exact yoy _
    · unfold zF1
      rw [yny]; omega
end Go.Proofs.Ytembbpalgfikiaa.Lib
namespace Go.Proofs.Ytembbpalgfikiaa.P
open Go.RowKit Go.Proofs.YtembbpalgfikiaaW.PrintWords Go.Proofs.Ytembbpalgfikiaa.Lib
set_option linter.unusedVariables false
theorem zET (n : Nat) (hn : n ≤ 1000000) : ∀ (d i : Nat) (xs : List Int), i + d = n → xs.length = i → Ev (fun k => zv.l0 k (n : Int) xs (i : Int)) (xs ++ ZA (i : Int) d)
  | 0, i, xs, h, hl => by
    refine qT (fun k => by rw [zv.l0, if_neg (by omega)]) ?_
    rw [ZA, List.append_nil]; exact Ev.now _
  | d + 1, i, xs, h, hl => by
    refine qT (fun k => by rw [zv.l0, if_pos (by omega), if_pos (by omega), ZI (by omega)]) ?_
    have := zET n hn d (i + 1) (xs ++ [(i : Int)]) (by omega) (by simp [hl])
    rw [List.append_assoc] at this
    exact this
theorem zBG (n : Nat) (hn : n ≤ 1000000) : Ev (fun k => zv.f k (n : Int)) (ZA 0 n) := by
  have := zET n hn n 0 [] (by omega) rfl
  exact this
theorem zDx (l : List Int) {i k : Int} (hl : l.length ≤ 1000000) (hi0 : 0 ≤ i) (hi1 : i < l.length) (hk0 : 0 ≤ k) (hk1 : k < l.length) : Ev (fun _ => qj.f l i k) (joi l i k) := Qj (if_pos ⟨hi0, hi1, hk0, hk1⟩)
def zGE (e : Int) : Int := rd [0, 0, 0, 1, 1, 2] e
def zF7 (e : Int) : Int := rd [1, 2, 3, 2, 3, 3] e
theorem zHQ {e : Int} (h0 : 0 ≤ e) (h1 : e < 6) : qi.f e = some (zGE e, zF7 e) := by
  show (if 0 ≤ e then if e < 6 then (if e < 6 then some (zGE e, zF7 e) else none) else none else none) = _
  rw [if_pos h0, if_pos h1, if_pos h1]
theorem zFs {e : Int} (h0 : 0 ≤ e) (h1 : e < 6) : sm (zGE e) ∧ sm (zF7 e) ∧ zGE e ≠ zF7 e := by
  rcases (show e = 0 ∨ e = 1 ∨ e = 2 ∨ e = 3 ∨ e = 4 ∨ e = 5 by omega) with rfl | rfl | rfl | rfl | rfl | rfl <;> (unfold sm; decide)
def eix (a b : Int) : Int := (qB.f 8 a b).getD 0
theorem zFt {a b : Int} (ha : sm a) (hb : sm b) (hne : a ≠ b) : Ev (fun k => qB.f k a b) (eix a b) ∧ 0 ≤ eix a b ∧ eix a b < 6 := by
  obtain ⟨ha0, ha1⟩ := ha
  obtain ⟨hb0, hb1⟩ := hb
  have key : qB.f 8 a b = some (eix a b) ∧ 0 ≤ eix a b ∧ eix a b < 6 := by
    rcases (show a = 0 ∨ a = 1 ∨ a = 2 ∨ a = 3 by omega) with rfl | rfl | rfl | rfl <;> rcases (show b = 0 ∨ b = 1 ∨ b = 2 ∨ b = 3 by omega) with rfl | rfl | rfl | rfl <;> first | exact absurd rfl hne | decide +kernel
  exact ⟨Ev.of (fun k => qB.mono _ _ k) key.1, key.2⟩
def JP (j b : Int) (p : List Int) : List Int → List Int → List Int
  | [], s => s
  | c :: cs, s => JP j b p cs (joi s (4 * j + c) (4 * b + rd p c))
theorem zAK (j b : Int) (p : List Int) : ∀ (L s : List Int), (JP j b p L s).length = s.length
  | [], _ => rfl
  | c :: cs, s => by rw [JP, zAK j b p cs, Zh]
def zA2 (j f b : Int) (p : List Int) : List Int → List Int → List Int
  | [], s => s
  | e :: es, s => zA2 j f b p es (if zGE e = f ∨ zF7 e = f then s else joi s (6 * j + e) (6 * b + eix (rd p (zGE e)) (rd p (zF7 e))))
theorem zAL (j f b : Int) (p : List Int) : ∀ (L s : List Int), (zA2 j f b p L s).length = s.length
  | [], _ => rfl
  | c :: cs, s => by
    rw [zA2, zAL j f b p cs]
    split
    · rfl
    · rw [Zh]
structure Sk where
  v : List Int
  e : List Int
  f : List Int
def Jl (s : Sk) (j f : Nat) (x : zw) : Sk :=
  ⟨JP j x.f0 (qR x.f1) (JT [(f : Int)]) s.v, zA2 j f x.f0 (qR x.f1) (ZA 0 6) s.e, joi s.f (4 * (j : Int) + f) (4 * x.f0 + rd (qR x.f1) f)⟩
def Sk.ok (n : Nat) (s : Sk) : Prop := s.v.length = 4 * n ∧ s.e.length = 6 * n ∧ s.f.length = 4 * n
theorem zDN {n : Nat} {s : Sk} (h : s.ok n) (j f : Nat) (x : zw) : (Jl s j f x).ok n := ⟨by rw [Jl, zAK]; exact h.1, by rw [Jl, zAL]; exact h.2.1, by rw [Jl, Zh]; exact h.2.2⟩
section
variable {t : Tri}
theorem zDy (h : ZB t = true) {j f : Nat} (hj : j < t.length) (hf : f < 4) : ∃ hf' : f < t[j].length, fc t (j : Int) (f : Int) = t[j][f] := by
  have h4 : t[j].length = 4 := (ql h).2.1 _ (yoy hj)
  exact ⟨by omega, by unfold fc; rw [Qg t j hj, zAp _ f (by omega)]⟩
theorem JC (h : ZB t = true) {j f : Nat} {x : zw} (hF : ZX t j f x) (hb : ¬ x.f0 < 0) : j < t.length ∧ f ≤ 3 ∧ 0 ≤ x.f0 ∧ x.f0 < (t.length : Int) ∧ 0 ≤ x.f1 ∧ x.f1 ≤ 23 := by
  obtain ⟨h1, h2, h3⟩ := hF
  have h4 : t[j].length = 4 := (ql h).2.1 _ (yoy h1)
  obtain ⟨_, hfc⟩ := zDy h h1 (f := f) (by omega)
  have := zDK (a := (j : Int)) (f := (f : Int)) h (by omega) (by omega) (by omega) (by omega)
  rw [hfc, h3] at this
  rcases this with ⟨e, _⟩ | ⟨⟨g0, g1, g2, g3⟩, _⟩
  · omega
  · exact ⟨h1, by omega, g0, g1, g2, g3⟩
theorem zDO (h : ZB t = true) : zCd t := by
  obtain ⟨h8, h4, _⟩ := ql h
  refine ⟨h8, fun r hr => by rw [h4 r hr]; omega, fun r hr x hx hb => ?_⟩
  obtain ⟨j, hj, rfl⟩ := List.getElem_of_mem hr
  obtain ⟨f, hf, rfl⟩ := List.getElem_of_mem hx
  have := JC h (j := j) (f := f) ⟨hj, hf, rfl⟩ hb
  exact ⟨this.2.2.2.1, this.2.2.2.2⟩
theorem zDP {σ τ : Type} {Rel : σ → τ → Prop} {s1 : σ → Nat → Nat → zw → σ} {s2 : τ → Nat → Nat → zw → τ} (h : ∀ a b j f x, ZX t j f x → ¬ x.f0 < 0 → Rel a b → Rel (s1 a j f x) (s2 b j f x)) (j : Nat) (hj : j < t.length) :
    ∀ (d f : Nat) (a : σ) (b : τ), f + d = t[j].length → Rel a b → Rel (zDo s1 j (t[j].drop f) f a) (zDo s2 j (t[j].drop f) f b)
  | 0, f, a, b, hf, hr => by rw [List.drop_eq_nil_of_le (by omega)]; exact hr
  | d + 1, f, a, b, hf, hr => by
    have hlt : f < t[j].length := by omega
    rw [ypy hlt, zDo, zDo]
    refine zDP h j hj d (f + 1) _ _ (by omega) ?_
    by_cases hb : t[j][f].f0 < 0
    · rw [if_pos hb, if_pos hb]; exact hr
    · rw [if_neg hb, if_neg hb]
      exact h _ _ _ _ _ ⟨hj, hlt, rfl⟩ hb hr
theorem zDQ {σ τ : Type} {Rel : σ → τ → Prop} {s1 : σ → Nat → Nat → zw → σ} {s2 : τ → Nat → Nat → zw → τ} (h : ∀ a b j f x, ZX t j f x → ¬ x.f0 < 0 → Rel a b → Rel (s1 a j f x) (s2 b j f x)) :
    ∀ (d j : Nat) (a : σ) (b : τ), j + d = t.length → Rel a b → Rel (zAy s1 (t.drop j) j a) (zAy s2 (t.drop j) j b)
  | 0, j, a, b, hj, hr => by rw [List.drop_eq_nil_of_le (by omega)]; exact hr
  | d + 1, j, a, b, hj, hr => by
    have hlt : j < t.length := by omega
    rw [ypy hlt, zAy, zAy]
    refine zDQ h d (j + 1) _ _ (by omega) ?_
    have := zDP h j hlt t[j].length 0 a b (by omega) hr
    rwa [List.drop_zero] at this
theorem zDR {σ τ : Type} {Rel : σ → τ → Prop} {s1 : σ → Nat → Nat → zw → σ} {s2 : τ → Nat → Nat → zw → τ} (h : ∀ a b j f x, ZX t j f x → ¬ x.f0 < 0 → Rel a b → Rel (s1 a j f x) (s2 b j f x)) (a : σ) (b : τ) (hr : Rel a b) : Rel (zAy s1 t 0 a) (zAy s2 t 0 b) := by
  have := zDQ h t.length 0 a b (by omega) hr
  rwa [List.drop_zero] at this
variable {ρ : Type}
theorem zDz (h : ZB t = true) {r : (List (List Int)) × (List (List Int)) × (List (List Int)) × List Int} {j f b p : Int} (hj0 : 0 ≤ j) (hj1 : j < t.length) (hb0 : 0 ≤ b) (hb1 : b < t.length) (hp0 : 0 ≤ p) (hp1 : p ≤ 23) (E F : List Int) :
    ∀ (d : Nat) (c : Int) (V : List Int), 0 ≤ c → c + d = 4 → V.length = 4 * t.length → Ev (fun k => zQ.l3 k (t.length : Int) (JP j b (qR p) ((ZA c d).filter fun x => ![f].contains x) V) E F j f 0 t b p) r →
      Ev (fun k => zQ.l2 k (t.length : Int) V E F j f c t b p) r
  | 0, c, V, hc, he, hl, hr => by
    refine qT (fun k => by rw [zQ.l2, if_neg (by omega)]) ?_
    exact hr
  | d + 1, c, V, hc, he, hl, hr => by
    have h8 := (ql h).1
    by_cases hcf : c = f
    · refine qT (fun k => by rw [zQ.l2, if_pos (by omega), if_pos hcf, qh (by omega) (by omega)]) ?_
      refine zDz h hj0 hj1 hb0 hb1 hp0 hp1 E F d (c + 1) V (by omega) (by omega) hl ?_
      have e1 : (![f].contains c) = false := by simp [hcf]
      rwa [ZA, List.filter_cons, e1, if_neg (by simp)] at hr
    · have e1 : (![f].contains c) = true := by simp [hcf]
      have hd := Zb hp0 hp1 hc (show c ≤ 3 by omega)
      refine qT (fun k => by rw [zQ.l2, if_pos (by omega), if_neg hcf]) ?_
      refine Ev.bind (zAB hp0 hp1 hc (by omega)) ?_
      refine Ev.congr (fun k => by rw [qh (show -9223372036854775808 ≤ 4 * j by omega) (by omega), qh (show -9223372036854775808 ≤ 4 * b by omega) (by omega), qh (show -9223372036854775808 ≤ 4 * j + c by omega) (by omega), qh (show -9223372036854775808 ≤ 4 * b + rd (qR p) c by omega) (by omega), qh (show -9223372036854775808 ≤ c + 1 by omega) (by omega)]) ?_
      refine Ev.bind (zDx V (by omega) (by omega) (by omega) (by omega) (by omega)) ?_
      refine zDz h hj0 hj1 hb0 hb1 hp0 hp1 E F d (c + 1) _ (by omega) (by omega) (by rw [Zh]; exact hl) ?_
      rwa [ZA, List.filter_cons, e1, if_pos rfl, JP] at hr
theorem zFu {p a b : Int} (hp0 : 0 ≤ p) (hp1 : p ≤ 23) (ha : sm a) (hb : sm b) (hne : a ≠ b) : rd (qR p) a ≠ rd (qR p) b := by
  obtain ⟨ha0, ha1⟩ := ha
  obtain ⟨hb0, hb1⟩ := hb
  obtain ⟨n, rfl⟩ := Int.eq_ofNat_of_zero_le hp0
  have key : ∀ m : Fin 24, zn (m.val : Int) 0 ≠ zn (m.val : Int) 1 ∧ zn (m.val : Int) 0 ≠ zn (m.val : Int) 2 ∧ zn (m.val : Int) 0 ≠ zn (m.val : Int) 3 ∧ zn (m.val : Int) 1 ≠ zn (m.val : Int) 2 ∧ zn (m.val : Int) 1 ≠ zn (m.val : Int) 3 ∧ zn (m.val : Int) 2 ≠ zn (m.val : Int) 3 := by decide
  obtain ⟨k1, k2, k3, k4, k5, k6⟩ := key ⟨n, by omega⟩
  dsimp only at k1 k2 k3 k4 k5 k6
  rcases (show a = 0 ∨ a = 1 ∨ a = 2 ∨ a = 3 by omega) with rfl | rfl | rfl | rfl <;> rcases (show b = 0 ∨ b = 1 ∨ b = 2 ∨ b = 3 by omega) with rfl | rfl | rfl | rfl <;> first | exact absurd rfl hne | assumption | exact Ne.symm (by assumption)
theorem zE0 (h : ZB t = true) {r : (List (List Int)) × (List (List Int)) × (List (List Int)) × List Int} {j f b p : Int} (hj0 : 0 ≤ j) (hj1 : j < t.length) (hf0 : 0 ≤ f) (hf1 : f ≤ 3) (hb0 : 0 ≤ b) (hb1 : b < t.length) (hp0 : 0 ≤ p) (hp1 : p ≤ 23) (V F : List Int) :
    ∀ (d : Nat) (e : Int) (E : List Int), 0 ≤ e → e + d = 6 → E.length = 6 * t.length → Ev (fun k => zQ.l1 k (t.length : Int) V (zA2 j f b (qR p) (ZA e d) E) F j (f + 1) t) r →
      Ev (fun k => zQ.l3 k (t.length : Int) V E F j f e t b p) r
  | 0, e, E, hc, he, hl, hr => by
    refine qT (fun k => by rw [zQ.l3, if_neg (by omega), qh (by omega) (by omega)]) ?_
    exact hr
  | d + 1, e, E, hc, he, hl, hr => by
    have h8 := (ql h).1
    obtain ⟨sa, sb, hab⟩ := zFs hc (show e < 6 by omega)
    rw [ZA, zA2] at hr
    have hskip : (zGE e = f ∨ zF7 e = f) → Ev (fun k => zQ.j4 k (t.length : Int) V E F j f e (zGE e) (zF7 e) false t b p) r := fun hq => by
      rw [if_pos hq] at hr
      refine qT (fun k => by rw [zQ.j4, if_neg (by simp), qh (by omega) (by omega)]) ?_
      exact zE0 h hj0 hj1 hf0 hf1 hb0 hb1 hp0 hp1 V F d (e + 1) E (by omega) (by omega) hl hr
    refine qT (fun k => by rw [zQ.l3, if_pos (by omega), zHQ hc (by omega), yfy]) ?_
    dsimp only
    by_cases ea : zGE e = f
    · exact qv ea (hskip (.inl ea))
    · refine QP ea ?_
      by_cases eb : zF7 e = f
      · have e9 : (zF7 e != f) = false := by simp [eb]
        rw [e9]; exact hskip (.inr eb)
      · have e9 : (zF7 e != f) = true := by simp [eb]
        rw [e9]
        rw [if_neg (fun hq => hq.elim ea eb)] at hr
        obtain ⟨k1, k2, k3⟩ := zFt (Zb hp0 hp1 sa.1 sa.2) (Zb hp0 hp1 sb.1 sb.2) (zFu hp0 hp1 sa sb hab)
        refine qT (fun k => by rw [zQ.j4, if_pos rfl]) ?_
        refine Ev.bind (zAB hp0 hp1 sa.1 sa.2) (Ev.bind (zAB hp0 hp1 sb.1 sb.2) (Ev.bind k1 ?_))
        refine Ev.congr (fun k => by rw [qh (show -9223372036854775808 ≤ 6 * j by omega) (by omega), qh (show -9223372036854775808 ≤ 6 * b by omega) (by omega), qh (show -9223372036854775808 ≤ 6 * j + e by omega) (by omega), qh (show -9223372036854775808 ≤ 6 * b + eix (rd (qR p) (zGE e)) (rd (qR p) (zF7 e)) by omega) (by omega), qh (show -9223372036854775808 ≤ e + 1 by omega) (by omega)]) ?_
        refine Ev.bind (zDx E (by omega) (by omega) (by omega) (by omega) (by omega)) ?_
        exact zE0 h hj0 hj1 hf0 hf1 hb0 hb1 hp0 hp1 V F d (e + 1) _ (by omega) (by omega) (by rw [Zh]; exact hl) hr
theorem zE1 (h : ZB t = true) {r : (List (List Int)) × (List (List Int)) × (List (List Int)) × List Int} (j : Nat) (hj : j < t.length) :
    ∀ (d f : Nat) (s : Sk), f + d = 4 → s.ok t.length → (∀ s' : Sk, s'.ok t.length → s' = zDo Jl j (t[j].drop f) f s → Ev (fun k => zQ.l0 k (t.length : Int) s'.v s'.e s'.f ((j + 1 : Nat) : Int) t) r) →
      Ev (fun k => zQ.l1 k (t.length : Int) s.v s.e s.f (j : Int) (f : Int) t) r
  | 0, f, s, hf, hs, hr => by
    have h8 := (ql h).1
    have h4 : t[j].length = 4 := (ql h).2.1 _ (yoy hj)
    refine qT (fun k => by rw [zQ.l1, if_neg (by omega), ZI (by omega)]) ?_
    exact hr s hs (by rw [List.drop_eq_nil_of_le (by omega)]; rfl)
  | d + 1, f, s, hf, hs, hr => by
    have h8 := (ql h).1
    obtain ⟨hlt, hfc⟩ := zDy h hj (f := f) (by omega)
    have hrl := rowlen h (a := (j : Int)) (by omega) (by omega)
    have e0 : (zI (zE t (j : Int)) (f : Int)) = t[j][f] := hfc
    rw [ypy hlt, zDo] at hr
    refine qT (fun k => by rw [zQ.l1, if_pos (by omega), if_pos (by omega), if_pos (by omega), if_pos (by omega), if_pos (by omega), e0]) ?_
    by_cases hb : t[j][f].f0 < 0
    · rw [if_pos hb] at hr
      refine qv hb (Ev.congr (fun k => by rw [ZI (by omega)]) ?_)
      exact zE1 h j hj d (f + 1) s (by omega) hs hr
    · rw [if_neg hb] at hr
      refine QP hb ?_
      obtain ⟨_, _, b0, b1, p0, p1⟩ := JC h (j := j) (f := f) (x := t[j][f]) ⟨hj, hlt, rfl⟩ hb
      generalize t[j][f] = x at *
      have hd := Zb p0 p1 (show (0 : Int) ≤ (f : Int) by omega) (by omega)
      refine Ev.bind (zAB p0 p1 (by omega) (by omega)) ?_
      refine Ev.congr (fun k => by rw [qh (show -9223372036854775808 ≤ 4 * (j : Int) by omega) (by omega), qh (show -9223372036854775808 ≤ 4 * x.f0 by omega) (by omega), qh (show -9223372036854775808 ≤ 4 * (j : Int) + (f : Int) by omega) (by omega), qh (show -9223372036854775808 ≤ 4 * x.f0 + rd (qR x.f1) (f : Int) by omega) (by omega)]) ?_
      have hl1 := hs.1
      have hl2 := hs.2.1
      have hl3 := hs.2.2
      refine Ev.bind (zDx s.f (by omega) (by omega) (by omega) (by omega) (by omega)) ?_
      refine zDz h (by omega) (by omega) b0 b1 p0 p1 s.e _ 4 0 s.v (by omega) (by omega) hl1 ?_
      refine zE0 h (by omega) (by omega) (by omega) (by omega) b0 b1 p0 p1 _ _ 6 0 s.e (by omega) (by omega) hl2 ?_
      have e1 : ((f : Int) + 1) = ((f + 1 : Nat) : Int) := by omega
      rw [e1]
      exact zE1 h j hj d (f + 1) (Jl s j f x) (by omega) (zDN hs _ _ _) hr
end
theorem zFv {m : List Int} {w : Nat} {x6 : List Int} {x7 : Int} (hm : ∀ x ∈ m, 0 ≤ x ∧ x < x6.length) (hL : m.length ≤ 1000000) (hw : w ≤ 1000) {r : List (List Int) × Int} {o : Nat} (ho : o + w ≤ m.length) (x8 : List (List Int)) (h8 : x8.length ≤ 1000000) :
    ∀ (d i : Nat) (acc : List Int), i + d = o + w → acc.length + d = w → Ev (fun k => zd.l1 k m (w : Int) x6 x7 (x8 ++ [acc ++ ((m.map (rd x6)).drop i).take d]) ((o + w : Nat) : Int)) r → Ev (fun k => zd.l2 k m (w : Int) x6 x7 x8 (o : Int) acc (i : Int)) r
  | 0, i, acc, hi, ha, hr => by
    refine qT (fun k => by rw [zd.l2, qh (show -9223372036854775808 ≤ (o : Int) + (w : Int) by omega) (by omega), if_neg (by omega), if_pos (by omega)]) ?_
    rw [List.take_zero, List.append_nil] at hr
    exact hr
  | d + 1, i, acc, hi, ha, hr => by
    have hlt : i < m.length := by omega
    have hb := hm m[i] (yoy hlt)
    have hg := zB7 m i hlt
    refine qT (fun k => by rw [zd.l2, qh (show -9223372036854775808 ≤ (o : Int) + (w : Int) by omega) (by omega), if_pos (by omega), if_pos (by omega), if_pos (by omega), hg, if_pos hb.1, if_pos hb.2, if_pos (by omega), ZI (by omega)]) ?_
    refine zFv hm hL hw ho x8 h8 d (i + 1) _ (by omega) (by simp; omega) ?_
    have e : ((m.map (rd x6)).drop i).take (d + 1) = rd x6 m[i] :: ((m.map (rd x6)).drop (i + 1)).take d := by
      rw [ypy (by simpa using hlt), List.take_succ_cons, List.getElem_map]
    rw [e] at hr
    rw [List.append_assoc]
    exact hr
theorem zFw {m : List Int} {w : Nat} {x6 : List Int} {x7 : Int} (hm : ∀ x ∈ m, 0 ≤ x ∧ x < x6.length) (hL : m.length ≤ 1000000) (hw : w ≤ 1000) (hw0 : 0 < w) :
    ∀ (q o : Nat) (x8 : List (List Int)), o + w * q = m.length → x8.length + q ≤ 1000000 → Ev (fun k => zd.l1 k m (w : Int) x6 x7 x8 (o : Int)) (x8 ++ QV w q ((m.map (rd x6)).drop o), x7)
  | 0, o, x8, ho, h8 => by
    refine qT (fun k => by rw [zd.l1, if_neg (by omega)]) ?_
    rw [QV, List.append_nil]; exact Ev.now _
  | q + 1, o, x8, ho, h8 => by
    rw [Nat.mul_succ] at ho
    refine qT (fun k => by rw [zd.l1, if_pos (by omega)]) ?_
    refine zFv hm hL hw (by omega) x8 (by omega) w o [] (by omega) (by simp) ?_
    rw [List.nil_append]
    have := zFw (x7 := x7) hm hL hw hw0 q (o + w) (x8 ++ [((m.map (rd x6)).drop o).take w]) (by omega) (by simp; omega)
    rw [QV, List.drop_drop]
    rwa [List.append_assoc] at this
theorem zE2 {m : List Int} (w : Int) (hL : m.length ≤ 1000000) {r : List (List Int) × Int} : ∀ (d i : Nat) (s : List Int × Int), i + d = m.length → s.1.length = m.length → 0 ≤ s.2 → s.2 ≤ i →
    Ev (fun k => zd.l1 k m w (zF2 m i d s).1 (zF2 m i d s).2 [] 0) r → Ev (fun k => zd.l0 k m w s.1 s.2 [] (i : Int)) r
  | 0, i, s, hi, hs, h0, h1, hr => by
    refine qT (fun k => by rw [zd.l0, if_neg (by omega)]) ?_
    exact hr
  | d + 1, i, s, hi, hs, h0, h1, hr => by
    rw [zF2] at hr
    by_cases e : rd m (i : Int) = (i : Int)
    · rw [if_pos e] at hr
      refine qT (fun k => by rw [zd.l0, if_pos (by omega), if_pos (by omega), if_pos e, if_pos (by omega), qh (show -9223372036854775808 ≤ s.2 + 1 by omega) (by omega), ZI (by omega), yny]) ?_
      exact zE2 w hL d (i + 1) (s.1.set i s.2, s.2 + 1) (by omega) (by simp [hs]) (by dsimp only; omega) (by dsimp only; omega) hr
    · rw [if_neg e] at hr
      refine qT (fun k => by rw [zd.l0, if_pos (by omega), if_pos (by omega), if_neg e, ZI (by omega)]) ?_
      exact zE2 w hL d (i + 1) s (by omega) hs h0 (by omega) hr
theorem zHR {m : List Int} (h : Low m) : ∀ x ∈ m, 0 ≤ x ∧ x < m.length := by
  intro x hx
  obtain ⟨i, hi, rfl⟩ := List.getElem_of_mem hx
  obtain ⟨q0, q1, _⟩ := h i hi
  have hg : m.getD i 0 = m[i] := by simp [hi]
  rw [hg] at q0 q1
  omega
theorem zE3 {m : List Int} (h : Low m) {w q : Nat} (hq : m.length = w * q) (hw0 : 0 < w) (hw : w ≤ 1000) (hL : m.length ≤ 1000000) : Ev (fun k => zd.f k m (w : Int)) (QV w q (zCX m), ((roots m m.length).length : Int)) := by
  obtain ⟨e1, e2⟩ := zGe h
  have hqb : q ≤ m.length := by rw [hq]; exact Nat.le_mul_of_pos_left q hw0
  refine qv (by omega) (qv (by omega) ?_)
  rw [yny]
  refine zE2 (w : Int) hL m.length 0 (List.replicate m.length 0, 0) (by omega) (by simp) (by dsimp only; omega) (by dsimp only; omega) ?_
  have hlen := zBg m m.length 0 (List.replicate m.length 0, 0)
  rw [List.length_replicate] at hlen
  have := zFw (x7 := (zF2 m 0 m.length (List.replicate m.length 0, 0)).2) (x6 := (zF2 m 0 m.length (List.replicate m.length 0, 0)).1) (fun x hx => by rw [hlen]; exact zHR h x hx) hL hw hw0 q 0 [] (by omega) (by simp; omega)
  rw [List.nil_append, List.drop_zero, e1, e2] at this
  rw [e2]
  exact this
section
variable {t : Tri}
def Sk.low (s : Sk) : Prop := Low s.v ∧ Low s.e ∧ Low s.f
theorem zGx {j b p : Int} {n : Nat} (hj0 : 0 ≤ j) (hj1 : j < n) (hb0 : 0 ≤ b) (hb1 : b < n) (hp0 : 0 ≤ p) (hp1 : p ≤ 23) : ∀ (L s : List Int), (∀ c ∈ L, sm c) → Low s → s.length = 4 * n → Low (JP j b (qR p) L s)
  | [], s, _, hs, _ => hs
  | c :: cs, s, hc, hs, hl => by
    rw [JP]
    obtain ⟨c0, c1⟩ := hc c (List.mem_cons_self ..)
    have hd := Zb hp0 hp1 c0 c1
    exact zGx hj0 hj1 hb0 hb1 hp0 hp1 cs _ (fun x hx => hc x (List.mem_cons_of_mem _ hx)) (zDv hs (by omega) (by omega) (by omega) (by omega)) (by rw [Zh]; exact hl)
theorem zGy {j f b p : Int} {n : Nat} (hj0 : 0 ≤ j) (hj1 : j < n) (hb0 : 0 ≤ b) (hb1 : b < n) (hp0 : 0 ≤ p) (hp1 : p ≤ 23) : ∀ (L s : List Int), (∀ e ∈ L, 0 ≤ e ∧ e < 6) → Low s → s.length = 6 * n → Low (zA2 j f b (qR p) L s)
  | [], s, _, hs, _ => hs
  | e :: es, s, he, hs, hl => by
    rw [zA2]
    obtain ⟨e0, e1⟩ := he e (List.mem_cons_self ..)
    obtain ⟨sa, sb, hab⟩ := zFs e0 e1
    obtain ⟨_, k2, k3⟩ := zFt (Zb hp0 hp1 sa.1 sa.2) (Zb hp0 hp1 sb.1 sb.2) (zFu hp0 hp1 sa sb hab)
    refine zGy hj0 hj1 hb0 hb1 hp0 hp1 es _ (fun x hx => he x (List.mem_cons_of_mem _ hx)) ?_ ?_
    · split
      · exact hs
      · exact zDv hs (by omega) (by omega) (by omega) (by omega)
    · split
      · exact hl
      · rw [Zh]; exact hl
theorem zF3 (h : ZB t = true) {s : Sk} (ho : s.ok t.length) (hl : s.low) {j f : Nat} {x : zw} (hF : ZX t j f x) (hb : ¬ x.f0 < 0) : (Jl s j f x).low := by
  obtain ⟨h1, h2, b0, b1, p0, p1⟩ := JC h hF hb
  obtain ⟨o1, o2, o3⟩ := ho
  have hd := Zb p0 p1 (show (0 : Int) ≤ (f : Int) by omega) (by omega)
  refine ⟨zGx (by omega) (by omega) b0 b1 p0 p1 _ _ (fun c hc => (QT hc).1) hl.1 o1, zGy (by omega) (by omega) b0 b1 p0 p1 _ _ (fun e he => ?_) hl.2.1 o2, zDv hl.2.2 (by omega) (by omega) (by omega) (by omega)⟩
  have := (zFd 0 e 6).1 he
  omega
def sk0 (t : Tri) : Sk := ⟨ZA 0 (4 * t.length), ZA 0 (6 * t.length), ZA 0 (4 * t.length)⟩
theorem zGz : (sk0 t).ok t.length := ⟨qL _ _, qL _ _, qL _ _⟩
def Jm (t : Tri) : Sk := zAy Jl t 0 (sk0 t)
theorem JQ (h : ZB t = true) : (Jm t).ok t.length ∧ (Jm t).low := by
  have := zDR (t := t) (σ := Sk) (τ := Sk) (Rel := fun a _ => a.ok t.length ∧ a.low) (s1 := Jl) (s2 := Jl) (fun a b j f x hF hb hr => ⟨zDN hr.1 _ _ _, zF3 h hr.1 hr.2 hF hb⟩) (sk0 t) (sk0 t) ⟨zGz, zFr _, zFr _, zFr _⟩
  exact this
def QI (t : Tri) : List Int := zCX (Jm t).v
def zDS (t : Tri) : Int := ((roots (Jm t).v (Jm t).v.length).length : Int)
def countF (t : Tri) : (List (List Int)) × (List (List Int)) × (List (List Int)) × List Int :=
  (QV 4 t.length (QI t), QV 6 t.length (zCX (Jm t).e), QV 4 t.length (zCX (Jm t).f), [zDS t, ((roots (Jm t).e (Jm t).e.length).length : Int), ((roots (Jm t).f (Jm t).f.length).length : Int), (t.length : Int)])
theorem zFx (h : ZB t = true) {r : (List (List Int)) × (List (List Int)) × (List (List Int)) × List Int} :
    ∀ (d j : Nat) (s : Sk), j + d = t.length → s.ok t.length → (∀ s' : Sk, s' = zAy Jl (t.drop j) j s → Ev (fun k => zQ.l0 k (t.length : Int) s'.v s'.e s'.f (t.length : Int) t) r) →
      Ev (fun k => zQ.l0 k (t.length : Int) s.v s.e s.f (j : Int) t) r
  | 0, j, s, hj, hs, hr => by
    obtain rfl : j = t.length := by omega
    exact hr s (by rw [List.drop_length]; rfl)
  | d + 1, j, s, hj, hs, hr => by
    have hlt : j < t.length := by omega
    rw [ypy hlt, zAy] at hr
    refine qT (fun k => by rw [zQ.l0, if_pos (by omega)]) ?_
    refine zE1 h j hlt 4 0 s (by omega) hs (fun s' hs' he => ?_)
    rw [List.drop_zero] at he
    subst he
    exact zFx h d (j + 1) _ (by omega) hs' hr
theorem zCk (h : ZB t = true) : Ev (fun k => zQ.f k t) (countF t) := by
  have h8 := (ql h).1
  obtain ⟨⟨o1, o2, o3⟩, w1, w2, w3⟩ := JQ h
  refine Ev.bind (Qj (by unfold qX.f; rfl)) ?_
  have e4 : wrap64 (4 * (t.length : Int)) = ((4 * t.length : Nat) : Int) := by rw [qh (by omega) (by omega)]; push_cast; rfl
  have e6 : wrap64 (6 * (t.length : Int)) = ((6 * t.length : Nat) : Int) := by rw [qh (by omega) (by omega)]; push_cast; rfl
  refine Ev.congr (fun k => by rw [e4, e6]) ?_
  refine Ev.bind (zBG (4 * t.length) (by omega)) (Ev.bind (zBG (6 * t.length) (by omega)) (Ev.bind (zBG (4 * t.length) (by omega)) ?_))
  refine zFx h t.length 0 (sk0 t) (by omega) zGz (fun s' hs' => ?_)
  rw [List.drop_zero] at hs'
  subst hs'
  refine qT (fun k => by rw [zQ.l0, if_neg (by omega)]) ?_
  refine Ev.bind (Ev.now _) ?_
  refine Ev.bind (zE3 (m := (Jm t).v) (w := 4) (q := t.length) w1 o1 (by omega) (by omega) (by omega)) ?_
  refine qv (by simp) ?_
  refine Ev.bind (zE3 (m := (Jm t).e) (w := 6) (q := t.length) w2 o2 (by omega) (by omega) (by omega)) ?_
  refine qv (by simp) ?_
  refine Ev.bind (zE3 (m := (Jm t).f) (w := 4) (q := t.length) w3 o3 (by omega) (by omega) (by omega)) ?_
  refine qv (by simp) ?_
  exact Ev.now _
theorem zDT {j b p : Int} {n : Nat} (hj0 : 0 ≤ j) (hj1 : j < n) (hb0 : 0 ≤ b) (hb1 : b < n) (hp0 : 0 ≤ p) (hp1 : p ≤ 23) : ∀ (L a s : List Int), (∀ c ∈ L, sm c) → Ker a s → a.length = 4 * n → (∀ x ∈ a, 0 ≤ x ∧ x < 4 * (n : Int)) →
    Ker (QU j b (qR p) L a) (JP j b (qR p) L s) ∧ (∀ x ∈ QU j b (qR p) L a, 0 ≤ x ∧ x < 4 * (n : Int))
  | [], a, s, _, hk, _, hr => ⟨hk, hr⟩
  | c :: cs, a, s, hc, hk, hl, hr => by
    rw [QU, JP]
    obtain ⟨c0, c1⟩ := hc c (List.mem_cons_self ..)
    have hd := Zb hp0 hp1 c0 c1
    have i0 : 0 ≤ 4 * j + c := by omega
    have i1 : 4 * j + c < a.length := by omega
    have k0 : 0 ≤ 4 * b + rd (qR p) c := by omega
    have k1 : 4 * b + rd (qR p) c < a.length := by omega
    refine zDT hj0 hj1 hb0 hb1 hp0 hp1 cs _ _ (fun x hx => hc x (List.mem_cons_of_mem _ hx)) (hk.zHE i0 i1 k0 k1) (by rw [ZQ]; exact hl) (fun x hx => ?_)
    unfold uni at hx
    obtain ⟨y, hy, rfl⟩ := List.mem_map.1 hx
    split
    · refine hr _ ?_
      obtain ⟨m, hm⟩ := Int.eq_ofNat_of_zero_le i0
      rw [hm, zB7 a m (by omega)]
      exact yoy _
    · exact hr y hy
theorem zH0 (h : ZB t = true) : Ker (zA0 t) (Jm t).v ∧ (zA0 t).length = 4 * t.length ∧ (∀ x ∈ zA0 t, 0 ≤ x ∧ x < 4 * (t.length : Int)) := by
  refine zDR (t := t) (σ := List Int) (τ := Sk) (Rel := fun a b => Ker a b.v ∧ a.length = 4 * t.length ∧ (∀ x ∈ a, 0 ≤ x ∧ x < 4 * (t.length : Int))) (s1 := zAI) (s2 := Jl) (fun a b j f x hF hb hr => ?_) (ZA 0 (4 * t.length)) (sk0 t) ⟨Ker.refl _, qL _ _, fun x hx => by have := (zFd 0 x _).1 hx; push_cast at this; omega⟩
  obtain ⟨h1, h2, b0, b1, p0, p1⟩ := JC h hF hb
  obtain ⟨q1, q2⟩ := zDT (n := t.length) (show (0 : Int) ≤ (j : Int) by omega) (by omega) b0 b1 p0 p1 (JT [(f : Int)]) a b.v (fun c hc => (QT hc).1) hr.1 hr.2.1 hr.2.2
  exact ⟨q1, by unfold zAI; rw [JM]; exact hr.2.1, q2⟩
theorem zCE (h : ZB t = true) : zi.f t = some (QI t) := by
  have h8 := (ql h).1
  obtain ⟨hk, hl, hr⟩ := zH0 h
  have h1 : zDm (zA0 t) = true := by
    unfold zDm
    rw [Bool.and_eq_true, decide_eq_true_eq, List.all_eq_true]
    exact ⟨by omega, fun x hx => ygy (by have := hr x hx; omega)⟩
  unfold zi.f
  rw [if_pos ⟨zDO h, h1⟩, hk.zCX]
  rfl
theorem zAR (h : ZB t = true) : (QI t).length = 4 * t.length := by
  unfold QI; rw [zDl]; exact (JQ h).1.1
theorem zBh (m : List Int) : ∀ i : Nat, (roots m i).length ≤ i
  | 0 => yry _
  | i + 1 => by
    have := zBh m i
    rw [roots]
    split
    · simp; omega
    · omega
theorem zFy (h : ZB t = true) : 0 ≤ zDS t ∧ zDS t ≤ 32 := by
  have h8 := (ql h).1
  have := zBh (Jm t).v (Jm t).v.length
  have := (JQ h).1.1
  unfold zDS; omega
theorem zCl (h : ZB t = true) : qu.f (QI t) = some (zDS t) := by
  have hb := zFy h
  have hl := zAR h
  unfold qu.f
  by_cases h0 : t.length = 0
  · rw [if_pos (by omega)]
    have := (JQ h).1.1
    have := zBh (Jm t).v (Jm t).v.length
    unfold zDS at hb ⊢
    congr 1; omega
  · rw [if_neg (by omega)]
    obtain ⟨x, xs, e1, e2⟩ := zGf (JQ h).2.1 (by have := (JQ h).1.1; omega)
    have e3 : QI t = x :: xs := e1
    rw [e3]
    unfold Zd.f
    rw [yfy, e2]
    unfold zDS at hb ⊢
    rw [qh (by omega) (by omega)]
    congr 1; omega
end
def JG (cls : List Int) (c : Int) : Nat → Nat → List (List Int)
  | 0, _ => []
  | d + 1, i => (if rd cls (i : Int) = c then [[((i / 4 : Nat) : Int), ((i % 4 : Nat) : Int)]] else []) ++ JG cls c d (i + 1)
theorem JD (cls : List Int) (c : Int) : ∀ d i : Nat, (JG cls c d i).length ≤ d
  | 0, _ => yry _
  | d + 1, i => by
    have := JD cls c d (i + 1)
    rw [JG, List.length_append]
    split <;> simp <;> omega
theorem zBH (cls : List Int) (c : Int) : ∀ (d i : Nat) (x : List Int), x ∈ JG cls c d i → ∃ k : Nat, i ≤ k ∧ k < i + d ∧ x = [((k / 4 : Nat) : Int), ((k % 4 : Nat) : Int)] ∧ rd cls (k : Int) = c
  | 0, i, x, h => by cases h
  | d + 1, i, x, h => by
    rw [JG] at h
    rcases List.mem_append.1 h with h | h
    · split at h
      · rename_i e
        have : x = [((i / 4 : Nat) : Int), ((i % 4 : Nat) : Int)] := by simpa using h
        exact ⟨i, yry _, by omega, this, e⟩
      · cases h
    · obtain ⟨k, h1, h2, h3⟩ := zBH cls c d (i + 1) x h
      exact ⟨k, by omega, by omega, h3⟩
theorem zAr (cls : List Int) (c : Int) (n : Nat) (hn : n ≤ cls.length) (hL : cls.length ≤ 1000000) : ∀ (d i : Nat) (acc : List (List Int)), i + d = n → acc.length ≤ i → Ev (fun k => zc.l0 k c acc cls (n : Int) (i : Int)) (acc ++ JG cls c d i)
  | 0, i, acc, hi, ha => by
    refine qT (fun k => by rw [zc.l0, if_neg (by omega)]) ?_
    rw [JG, List.append_nil]; exact Ev.now _
  | d + 1, i, acc, hi, ha => by
    have e1 : wrap64 (Int.tdiv (i : Int) 4) = ((i / 4 : Nat) : Int) := by
      rw [Int.tdiv_eq_ediv_of_nonneg (by omega), qh (by omega) (by omega)]; rfl
    have e2 : Int.tmod (i : Int) 4 = ((i % 4 : Nat) : Int) := by
      rw [Int.tmod_eq_emod_of_nonneg (by omega)]; rfl
    rw [JG]
    by_cases e : rd cls (i : Int) = c
    · refine qT (fun k => by rw [zc.l0, if_pos (by omega), if_pos (by omega), if_pos (by omega), if_pos e, if_pos (by omega), e1, e2, ZI (by omega)]) ?_
      have := zAr cls c n hn hL d (i + 1) (acc ++ [[((i / 4 : Nat) : Int), ((i % 4 : Nat) : Int)]]) (by omega) (by simp; omega)
      rw [if_pos e, ← List.append_assoc]
      exact this
    · refine qT (fun k => by rw [zc.l0, if_pos (by omega), if_pos (by omega), if_pos (by omega), if_neg e, ZI (by omega)]) ?_
      rw [if_neg e, List.nil_append]
      exact zAr cls c n hn hL d (i + 1) acc (by omega) (by omega)
section
variable {t : Tri}
theorem zF4 (h : ZB t = true) (c : Int) : Ev (fun k => zc.f k t c) (JG (QI t) c (4 * t.length) 0) := by
  have h8 := (ql h).1
  have hl := zAR h
  refine Ev.bind (Qj (zCE h)) ?_
  have := zAr (QI t) c (QI t).length (yry _) (by omega) (QI t).length 0 [] (by omega) (by simp)
  rw [List.nil_append] at this
  rw [← hl]
  exact this
def zAF (t : Tri) (c : Int) : Int := if ZB t = true then (if 0 ≤ c ∧ c ≤ zDS t - 1 then 0 else 2) else 1
theorem zGg (hs : Small t) (c : Int) : Ev (fun k => Ze.f k t c) (zAF t c) := by
  refine Ev.bind (zCh hs) ?_
  unfold zAF
  cases h : ZB t with
  | false => exact QP (by simp) (Ev.now _)
  | true =>
    have hb := zFy h
    refine qv rfl (Ev.bind (Qj (zCE h)) (Ev.bind (Qj (zCl h)) (Ev.bind (Qj (zAo _ _ _)) ?_)))
    rw [qh (by omega) (by omega), if_pos rfl]
    by_cases hc : 0 ≤ c ∧ c ≤ zDS t - 1
    · rw [if_pos hc]
      exact qv (by rw [ygy hc.1, ygy hc.2]; rfl) (Ev.now _)
    · rw [if_neg hc]
      refine QP ?_ (Ev.now _)
      rw [Bool.and_eq_true, decide_eq_true_eq, decide_eq_true_eq]
      exact hc
theorem zHS (h : ZB t = true) {a x : Nat} (ha : a < t.length) (hx : x < 4) : rd (qf (QV 4 t.length (QI t)) (a : Int)) (x : Int) = rd (QI t) ((4 * a + x : Nat) : Int) ∧ (qf (QV 4 t.length (QI t)) (a : Int)).length = 4 := by
  have hl := zAR h
  have hg := zCC 4 t.length (QI t) a ha
  have e : qf (QV 4 t.length (QI t)) (a : Int) = ((QI t).drop (4 * a)).take 4 := by
    simp [qf, List.getD_eq_getElem?_getD, hg]
  rw [e]
  refine ⟨?_, by rw [ymy, yly]; omega⟩
  rw [Jw, Jw]
  simp only [List.getD_eq_getElem?_getD]
  rw [List.getElem?_take, if_pos hx, List.getElem?_drop]
end
section
variable {t : Tri}
theorem zA3 (h : ZB t = true) (c : Int) : ∀ x ∈ JG (QI t) c (4 * t.length) 0, x.length = 2 ∧ 0 ≤ rd x 0 ∧ rd x 0 < (t.length : Int) ∧ 0 ≤ rd x 1 ∧ rd x 1 ≤ 3 := by
  intro x hx
  obtain ⟨k, h0, h1, e, _⟩ := zBH _ _ _ _ _ hx
  have e0 : rd [((k / 4 : Nat) : Int), ((k % 4 : Nat) : Int)] 0 = ((k / 4 : Nat) : Int) := rfl
  have e1 : rd [((k / 4 : Nat) : Int), ((k % 4 : Nat) : Int)] 1 = ((k % 4 : Nat) : Int) := rfl
  rw [e, e0, e1]
  exact ⟨rfl, by omega, by omega, by omega, by omega⟩
theorem zFz (h : ZB t = true) (c : Int) : zEv t (JG (QI t) c (4 * t.length) 0) = true := by
  obtain ⟨h8, h4, _⟩ := ql h
  unfold zEv
  simp only [Bool.and_eq_true, decide_eq_true_eq, List.all_eq_true]
  refine ⟨⟨h8, by have := JD (QI t) c (4 * t.length) 0; omega⟩, fun r hr => ⟨h4 r hr, fun x hx => ?_⟩, fun x hx => ?_⟩
  · unfold zFh
    simp only [Bool.or_eq_true, Bool.and_eq_true, decide_eq_true_eq]
    obtain ⟨a, ha, rfl⟩ := List.getElem_of_mem hr
    obtain ⟨f, hf, rfl⟩ := List.getElem_of_mem hx
    have := zDK h (a := (a : Int)) (f := (f : Int)) (by omega) (by omega) (by omega) (by rw [h4 _ (yoy ha)] at hf; omega)
    have e : fc t (a : Int) (f : Int) = t[a][f] := by unfold fc; rw [Qg t a ha, zAp _ f hf]
    rw [e] at this
    rcases this with ⟨e1, _⟩ | ⟨⟨g0, g1, g2, g3⟩, _⟩
    · left; omega
    · right; exact ⟨g0, g1, g2, g3⟩
  · have := zA3 h c x hx
    unfold zFi
    simp only [Bool.and_eq_true, decide_eq_true_eq]
    exact ⟨this.1, ⟨this.2.1, this.2.2.1⟩, this.2.2.2.1, this.2.2.2.2⟩
def JX (t : Tri) (c : Int) : zBe := zB0 t (JG (QI t) c (4 * t.length) 0) (JG (QI t) c (4 * t.length) 0).length (zDp t)
def euP (t : Tri) (c : Int) : Int := zBo (JX t c).p (JX t c).u (JX t c).u.length 0
def euS (t : Tri) (c : Int) : Int := zBo (JX t c).s (JX t c).u (JX t c).u.length 0
theorem zBI (h : ZB t = true) (c : Int) : zER (16 * t.length) 128 (JX t c) := by
  have h8 := (ql h).1
  have a := JD (QI t) c (4 * t.length) 0
  have := zAe (zA3 h c) (zAA t) _ (yry _)
  exact ⟨this.lp, this.ls, this.u, by have := this.lu; unfold JX; omega, this.n0, by have := this.n1; unfold JX; omega⟩
theorem zHT : ∃ k0 : Nat, ∀ k, k0 ≤ k → zHM k = true := by
  have h : ∀ (m : Fin 24) (f : Fin 4), ∃ k0 : Nat, ∀ k, k0 ≤ k → qY.f k (m.val : Int) (f.val : Int) = some (rd (qR (m.val : Int)) (f.val : Int)) := fun m f => zAB (by omega) (by omega) (by omega) (by omega)
  have h2 : ∀ m : Fin 24, ∃ k0 : Nat, ∀ k, k0 ≤ k → ∀ f : Fin 4, qY.f k (m.val : Int) (f.val : Int) = some (rd (qR (m.val : Int)) (f.val : Int)) := fun m => by
    obtain ⟨k0, h0⟩ := h m 0
    obtain ⟨k1, h1⟩ := h m 1
    obtain ⟨k2, h2⟩ := h m 2
    obtain ⟨k3, h3⟩ := h m 3
    refine ⟨k0 + k1 + k2 + k3, fun k hk f => ?_⟩
    match f with
    | 0 => exact h0 k (by omega)
    | 1 => exact h1 k (by omega)
    | 2 => exact h2 k (by omega)
    | 3 => exact h3 k (by omega)
  have h3 : ∀ n : Nat, n ≤ 24 → ∃ k0 : Nat, ∀ k, k0 ≤ k → ∀ m : Fin 24, m.val < n → ∀ f : Fin 4, qY.f k (m.val : Int) (f.val : Int) = some (rd (qR (m.val : Int)) (f.val : Int)) := fun n => by
    induction n with
    | zero => exact fun _ => ⟨0, fun k _ m hm => absurd hm (by omega)⟩
    | succ n ih =>
      intro hn
      obtain ⟨k0, h0⟩ := ih (by omega)
      obtain ⟨k1, h1⟩ := h2 ⟨n, by omega⟩
      refine ⟨k0 + k1, fun k hk m hm f => ?_⟩
      by_cases e : m.val = n
      · have em : m = ⟨n, by omega⟩ := Fin.ext e
        rw [em]
        exact h1 k (by omega) f
      · exact h0 k (by omega) m (by omega) f
  obtain ⟨k0, h0⟩ := h3 24 (yry _)
  refine ⟨k0, fun k hk => ?_⟩
  unfold zHM
  rw [decide_eq_true_eq]
  exact fun m f => h0 k hk m m.isLt f
theorem zBi (h : ZB t = true) (c : Int) : Ev (fun k => ZK.f k t (JG (QI t) c (4 * t.length) 0)) (euP t c, euS t c, ((JG (QI t) c (4 * t.length) 0).length : Int), (JX t c).n) := by
  have hI := zBI h c
  have d1 := zFn (x0 := (JX t c).p) (x1 := (JX t c).u) (by rw [hI.lp]; exact hI.u) (by have := hI.lu; omega)
  have d2 := zFn (x0 := (JX t c).s) (x1 := (JX t c).u) (by rw [hI.ls]; exact hI.u) (by have := hI.lu; omega)
  unfold ZK.f
  refine qv (zFz h c) ?_
  have hfr : Ev (fun k => if zHM k = true then zv.f k (16 * (t.length : Int)) else none) (ZA 0 (16 * t.length)) := by
    have hf := zBG (16 * t.length) (by have := (ql h).1; omega)
    obtain ⟨k0, hk0⟩ := hf
    obtain ⟨k1, hk1⟩ := zHT
    refine ⟨k0 + k1, fun k hk => ?_⟩
    have e : (16 * (t.length : Int)) = ((16 * t.length : Nat) : Int) := by omega
    rw [e]
    exact (if_pos (hk1 k (by omega))).trans (hk0 k (by omega))
  exact Ev.bind hfr (qv rfl (Ev.bind d1 (Ev.bind d2 (Ev.now _))))
end
def In (s : List Int) (x : Int) : Prop := 0 ≤ x ∧ x < (s.length : Int)
theorem zG0 (s : List Int) (i k : Int) {x y : Int} (hx : In s x) (hy : In s y) : rd (uni s i k) x = rd (uni s i k) y ↔ (rd s x = rd s y ∨ ((rd s x = rd s i ∨ rd s x = rd s k) ∧ (rd s y = rd s i ∨ rd s y = rd s k))) := by
  have h1 := hx.1
  have h2 := hx.2
  have h3 := hy.1
  have h4 := hy.2
  exact zEH s i k x.toNat y.toNat (by omega) (by omega)
theorem zG1 (s : List Int) (i k : Int) {x y : Int} (hx : In s x) (hy : In s y) : rd (joi s i k) x = rd (joi s i k) y ↔ (rd s x = rd s y ∨ ((rd s x = rd s i ∨ rd s x = rd s k) ∧ (rd s y = rd s i ∨ rd s y = rd s k))) := by
  have h1 := hx.1
  have h2 := hx.2
  have h3 := hy.1
  have h4 := hy.2
  exact zEI s i k x.toNat y.toNat (by omega) (by omega)
def Snd {α : Type} (g : Int → α) (s : List Int) : Prop := ∀ x y, In s x → In s y → rd s x = rd s y → g x = g y
section
variable {α : Type} {g : Int → α} {s : List Int} {i k : Int}
theorem zH1 {s2 : List Int} (hl : s2.length = s.length) (hrd : ∀ x y, In s x → In s y → (rd s2 x = rd s2 y ↔ (rd s x = rd s y ∨ ((rd s x = rd s i ∨ rd s x = rd s k) ∧ (rd s y = rd s i ∨ rd s y = rd s k))))) (h : Snd g s) (hi : In s i) (hk : In s k) (e : g i = g k) : Snd g s2 := by
  intro x y hx hy hxy
  have hx' : In s x := ⟨hx.1, by have := hx.2; rw [hl] at this; exact this⟩
  have hy' : In s y := ⟨hy.1, by have := hy.2; rw [hl] at this; exact this⟩
  rcases (hrd x y hx' hy').1 hxy with h1 | ⟨h1, h2⟩
  · exact h x y hx' hy' h1
  · have a : g x = g i := by
      rcases h1 with h1 | h1
      · exact h x i hx' hi h1
      · exact (h x k hx' hk h1).trans e.symm
    have b : g y = g i := by
      rcases h2 with h2 | h2
      · exact h y i hy' hi h2
      · exact (h y k hy' hk h2).trans e.symm
    exact a.trans b.symm
theorem zG2 (h : Snd g s) (hi : In s i) (hk : In s k) (e : g i = g k) : Snd g (uni s i k) := zH1 (ZQ s i k) (fun x y hx hy => zG0 s i k hx hy) h hi hk e
theorem zG3 (h : Snd g s) (hi : In s i) (hk : In s k) (e : g i = g k) : Snd g (joi s i k) := zH1 (Zh s i k) (fun x y hx hy => zG1 s i k hx hy) h hi hk e
theorem zCm {x y : Int} (hx : In s x) (hy : In s y) (h : rd s x = rd s y) : rd (uni s i k) x = rd (uni s i k) y := (zG0 s i k hx hy).2 (.inl h)
theorem zBJ {x y : Int} (hx : In s x) (hy : In s y) (h : rd s x = rd s y) : rd (joi s i k) x = rd (joi s i k) y := (zG1 s i k hx hy).2 (.inl h)
theorem zE4 (hi : In s i) (hk : In s k) : rd (uni s i k) i = rd (uni s i k) k := (zG0 s i k hi hk).2 (.inr ⟨.inl rfl, .inr rfl⟩)
theorem zG4 (hi : In s i) (hk : In s k) : rd (joi s i k) i = rd (joi s i k) k := (zG1 s i k hi hk).2 (.inr ⟨.inl rfl, .inr rfl⟩)
theorem Qc {x : Int} (h : In s x) : In (uni s i k) x := ⟨h.1, by rw [ZQ]; exact h.2⟩
theorem zEU (n : Nat) : Snd g (ZA 0 n) := by
  intro x y hx hy h
  have e : ∀ z, In (ZA 0 n) z → rd (ZA 0 n) z = z := fun z hz => by
    have h1 := hz.1
    have h2 := hz.2
    rw [qL] at h2
    obtain ⟨m, rfl⟩ := Int.eq_ofNat_of_zero_le h1
    rw [Jw, zC2 0 n m (by omega)]
    omega
  rw [e x hx, e y hy] at h
  rw [h]
end
section
variable {α : Type} {g : Int → α}
theorem zG5 {b to_ : Int} {p : List Int} : ∀ (L x : List Int), (∀ w ∈ L, In x (b + w) ∧ In x (to_ + rd p w) ∧ g (b + w) = g (to_ + rd p w)) → Snd g x → Snd g (leP b to_ p L x)
  | [], x, _, h => h
  | w :: ws, x, hL, h => by
    obtain ⟨a1, a2, a3⟩ := hL w (List.mem_cons_self ..)
    exact zG5 ws _ (fun u hu => by
      obtain ⟨b1, b2, b3⟩ := hL u (List.mem_cons_of_mem _ hu)
      exact ⟨Qc b1, Qc b2, b3⟩) (zG2 h a1 a2 a3)
theorem zCn {b to_ : Int} {p : List Int} {u v : Int} : ∀ (L x : List Int), In x u → In x v → rd x u = rd x v → rd (leP b to_ p L x) u = rd (leP b to_ p L x) v
  | [], x, _, _, h => h
  | w :: ws, x, hu, hv, h => zCn ws _ (Qc hu) (Qc hv) (zCm hu hv h)
theorem zG6 {b to_ : Int} {p : List Int} {w : Int} : ∀ (L x : List Int), w ∈ L → (∀ u ∈ L, In x (b + u) ∧ In x (to_ + rd p u)) → rd (leP b to_ p L x) (b + w) = rd (leP b to_ p L x) (to_ + rd p w)
  | [], x, h, _ => by cases h
  | u :: us, x, h, hL => by
    obtain ⟨a1, a2⟩ := hL u (List.mem_cons_self ..)
    rcases List.mem_cons.1 h with rfl | h
    · exact zCn us _ (Qc a1) (Qc a2) (zE4 a1 a2)
    · exact zG6 us _ h (fun z hz => by
        obtain ⟨b1, b2⟩ := hL z (List.mem_cons_of_mem _ hz)
        exact ⟨Qc b1, Qc b2⟩)
def LeR (n : Nat) (j f b : Int) (p : List Int) : Prop := ∀ v w : Int, 0 ≤ v → v ≤ 3 → 0 ≤ w → w ≤ 3 → (0 ≤ 16 * j + 4 * v + w ∧ 16 * j + 4 * v + w < (n : Int)) ∧ (0 ≤ 16 * b + 4 * rd p v + rd p w ∧ 16 * b + 4 * rd p v + rd p w < (n : Int))
theorem zB2 {n : Nat} {j f b : Int} {p : List Int} (hR : LeR n j f b p) : ∀ (L : List Int) (s : List Int × List Int), s.1.length = n → (∀ v ∈ L, sm v ∧ ∀ w ∈ JT [f, v], g (16 * j + 4 * v + w) = g (16 * b + 4 * rd p v + rd p w)) → Snd g s.1 → Snd g (Zf j f b p L s).1
  | [], s, _, _, h => h
  | v :: vs, s, hl, hL, h => by
    obtain ⟨hv, hw⟩ := hL v (List.mem_cons_self ..)
    refine zB2 hR vs _ (by rw [QN]; exact hl) (fun u hu => hL u (List.mem_cons_of_mem _ hu)) ?_
    refine zG5 _ _ (fun w hw2 => ?_) h
    have hsw := (Qb hw2).1
    have := hR v w hv.1 hv.2 hsw.1 hsw.2
    exact ⟨by unfold In; rw [hl]; exact this.1, by unfold In; rw [hl]; exact this.2, hw w hw2⟩
theorem zB3 {n : Nat} {j f b : Int} {p : List Int} (hf : sm f) (hR : LeR n j f b p) : ∀ (L : List Int) (s : List Int × List Int), s.2.length = n → (∀ v ∈ L, sm v ∧ g (16 * j + 4 * v + f) = g (16 * b + 4 * rd p v + rd p f)) → Snd g s.2 → Snd g (Zf j f b p L s).2
  | [], s, _, _, h => h
  | v :: vs, s, hl, hL, h => by
    obtain ⟨hv, hw⟩ := hL v (List.mem_cons_self ..)
    refine zB3 hf hR vs _ (by rw [ZQ]; exact hl) (fun u hu => hL u (List.mem_cons_of_mem _ hu)) ?_
    have := hR v f hv.1 hv.2 hf.1 hf.2
    exact zG2 h (by unfold In; rw [hl]; exact this.1) (by unfold In; rw [hl]; exact this.2) hw
theorem Jf {j f b : Int} {p : List Int} {x y : Int} : ∀ (L : List Int) (s : List Int × List Int), In s.1 x → In s.1 y → rd s.1 x = rd s.1 y → rd (Zf j f b p L s).1 x = rd (Zf j f b p L s).1 y
  | [], s, _, _, h => h
  | v :: vs, s, hx, hy, h => Jf vs _ ⟨hx.1, by rw [QN]; exact hx.2⟩ ⟨hy.1, by rw [QN]; exact hy.2⟩ (zCn _ _ hx hy h)
theorem Jg {j f b : Int} {p : List Int} {x y : Int} : ∀ (L : List Int) (s : List Int × List Int), In s.2 x → In s.2 y → rd s.2 x = rd s.2 y → rd (Zf j f b p L s).2 x = rd (Zf j f b p L s).2 y
  | [], s, _, _, h => h
  | v :: vs, s, hx, hy, h => Jg vs _ (Qc hx) (Qc hy) (zCm hx hy h)
theorem zB4 {n : Nat} {j f b : Int} {p : List Int} (hR : LeR n j f b p) {v w : Int} (hw : w ∈ JT [f, v]) : ∀ (L : List Int) (s : List Int × List Int), s.1.length = n → v ∈ L → (∀ u ∈ L, sm u) → rd (Zf j f b p L s).1 (16 * j + 4 * v + w) = rd (Zf j f b p L s).1 (16 * b + 4 * rd p v + rd p w)
  | [], s, _, h, _ => by cases h
  | u :: us, s, hl, h, hL => by
    have hsw := (Qb hw).1
    have hu := hL u (List.mem_cons_self ..)
    rcases List.mem_cons.1 h with rfl | h
    · have hr := hR v w hu.1 hu.2 hsw.1 hsw.2
      refine Jf us _ ⟨hr.1.1, by rw [QN, hl]; exact hr.1.2⟩ ⟨hr.2.1, by rw [QN, hl]; exact hr.2.2⟩ ?_
      refine zG6 _ _ hw (fun z hz => ?_)
      have hz2 := (Qb hz).1
      have hr2 := hR v z hu.1 hu.2 hz2.1 hz2.2
      exact ⟨by unfold In; rw [hl]; exact hr2.1, by unfold In; rw [hl]; exact hr2.2⟩
    · exact zB4 hR hw us _ (by rw [QN]; exact hl) h (fun z hz => hL z (List.mem_cons_of_mem _ hz))
theorem zB5 {n : Nat} {j f b : Int} {p : List Int} (hf : sm f) (hR : LeR n j f b p) {v : Int} : ∀ (L : List Int) (s : List Int × List Int), s.2.length = n → v ∈ L → (∀ u ∈ L, sm u) → rd (Zf j f b p L s).2 (16 * j + 4 * v + f) = rd (Zf j f b p L s).2 (16 * b + 4 * rd p v + rd p f)
  | [], s, _, h, _ => by cases h
  | u :: us, s, hl, h, hL => by
    have hu := hL u (List.mem_cons_self ..)
    rcases List.mem_cons.1 h with rfl | h
    · have hr := hR v f hu.1 hu.2 hf.1 hf.2
      exact Jg us _ (Qc (by unfold In; rw [hl]; exact hr.1)) (Qc (by unfold In; rw [hl]; exact hr.2)) (zE4 (by unfold In; rw [hl]; exact hr.1) (by unfold In; rw [hl]; exact hr.2))
    · exact zB5 hf hR us _ (by rw [ZQ]; exact hl) h (fun z hz => hL z (List.mem_cons_of_mem _ hz))
theorem zA4 {j b : Int} {p : List Int} {x y : Int} : ∀ (L s : List Int), In s x → In s y → rd s x = rd s y → rd (QU j b p L s) x = rd (QU j b p L s) y
  | [], s, _, _, h => h
  | v :: vs, s, hx, hy, h => zA4 vs _ (Qc hx) (Qc hy) (zCm hx hy h)
theorem zBj {j b : Int} {p : List Int} {v : Int} : ∀ (L s : List Int), v ∈ L → (∀ u ∈ L, In s (4 * j + u) ∧ In s (4 * b + rd p u)) → rd (QU j b p L s) (4 * j + v) = rd (QU j b p L s) (4 * b + rd p v)
  | [], s, h, _ => by cases h
  | u :: us, s, h, hL => by
    obtain ⟨a1, a2⟩ := hL u (List.mem_cons_self ..)
    rcases List.mem_cons.1 h with rfl | h
    · exact zA4 us _ (Qc a1) (Qc a2) (zE4 a1 a2)
    · exact zBj us _ h (fun z hz => by
        obtain ⟨b1, b2⟩ := hL z (List.mem_cons_of_mem _ hz)
        exact ⟨Qc b1, Qc b2⟩)
end
section
variable {t : Tri} {σ : Type} {step : σ → Nat → Nat → zw → σ} {I Q : σ → Prop}
theorem zCo (hI : ∀ a j f x, ZX t j f x → ¬ x.f0 < 0 → I a → I (step a j f x)) (hQ : ∀ a j f x, ZX t j f x → ¬ x.f0 < 0 → I a → Q a → Q (step a j f x)) (j : Nat) (hj : j < t.length) :
    ∀ (d f : Nat) (a : σ), f + d = t[j].length → I a → I (zDo step j (t[j].drop f) f a) ∧ ((Q a ∨ ∃ f0 x0, f ≤ f0 ∧ ZX t j f0 x0 ∧ ¬ x0.f0 < 0 ∧ ∀ a, I a → Q (step a j f0 x0)) → Q (zDo step j (t[j].drop f) f a))
  | 0, f, a, hf, hr => by
    rw [List.drop_eq_nil_of_le (by omega)]
    refine ⟨hr, fun h => ?_⟩
    rcases h with h | ⟨f0, x0, h1, ⟨h2, h3, _⟩, _⟩
    · exact h
    · omega
  | d + 1, f, a, hf, hr => by
    have hlt : f < t[j].length := by omega
    rw [ypy hlt, zDo]
    by_cases hb : t[j][f].f0 < 0
    · rw [if_pos hb]
      obtain ⟨a1, a2⟩ := zCo hI hQ j hj d (f + 1) a (by omega) hr
      refine ⟨a1, fun h => a2 ?_⟩
      rcases h with h | ⟨f0, x0, h1, h2, h3, h4⟩
      · exact .inl h
      · refine .inr ⟨f0, x0, ?_, h2, h3, h4⟩
        by_cases e : f0 = f
        · subst e
          obtain ⟨_, _, e2⟩ := h2
          rw [e2] at hb
          exact absurd hb h3
        · omega
    · rw [if_neg hb]
      have hF : ZX t j f t[j][f] := ⟨hj, hlt, rfl⟩
      obtain ⟨a1, a2⟩ := zCo hI hQ j hj d (f + 1) (step a j f t[j][f]) (by omega) (hI _ _ _ _ hF hb hr)
      refine ⟨a1, fun h => a2 ?_⟩
      rcases h with h | ⟨f0, x0, h1, h2, h3, h4⟩
      · exact .inl (hQ _ _ _ _ hF hb hr h)
      · by_cases e : f0 = f
        · subst e
          obtain ⟨_, _, e2⟩ := h2
          rw [e2]
          exact .inl (h4 a hr)
        · exact .inr ⟨f0, x0, by omega, h2, h3, h4⟩
theorem zCp (hI : ∀ a j f x, ZX t j f x → ¬ x.f0 < 0 → I a → I (step a j f x)) (hQ : ∀ a j f x, ZX t j f x → ¬ x.f0 < 0 → I a → Q a → Q (step a j f x)) :
    ∀ (d j : Nat) (a : σ), j + d = t.length → I a → I (zAy step (t.drop j) j a) ∧ ((Q a ∨ ∃ j0 f0 x0, j ≤ j0 ∧ ZX t j0 f0 x0 ∧ ¬ x0.f0 < 0 ∧ ∀ a, I a → Q (step a j0 f0 x0)) → Q (zAy step (t.drop j) j a))
  | 0, j, a, hj, hr => by
    rw [List.drop_eq_nil_of_le (by omega)]
    refine ⟨hr, fun h => ?_⟩
    rcases h with h | ⟨j0, f0, x0, h1, ⟨h2, _, _⟩, _⟩
    · exact h
    · omega
  | d + 1, j, a, hj, hr => by
    have hlt : j < t.length := by omega
    rw [ypy hlt, zAy]
    have hg := zCo hI hQ j hlt t[j].length 0 a (by omega) hr
    rw [List.drop_zero] at hg
    obtain ⟨a1, a2⟩ := zCp hI hQ d (j + 1) _ (by omega) hg.1
    refine ⟨a1, fun h => a2 ?_⟩
    rcases h with h | ⟨j0, f0, x0, h1, h2, h3, h4⟩
    · exact .inl (hg.2 (.inl h))
    · by_cases e : j0 = j
      · subst e
        exact .inl (hg.2 (.inr ⟨f0, x0, Nat.zero_le _, h2, h3, h4⟩))
      · exact .inr ⟨j0, f0, x0, by omega, h2, h3, h4⟩
theorem zBK {a : σ} (hI : ∀ a j f x, ZX t j f x → ¬ x.f0 < 0 → I a → I (step a j f x)) (ha : I a) : I (zAy step t 0 a) := by
  have := (zCp (Q := fun _ => True) hI (fun _ _ _ _ _ _ _ _ => trivial) t.length 0 a (by omega) ha).1
  rwa [List.drop_zero] at this
theorem zCq {a : σ} (hI : ∀ a j f x, ZX t j f x → ¬ x.f0 < 0 → I a → I (step a j f x)) (hQ : ∀ a j f x, ZX t j f x → ¬ x.f0 < 0 → I a → Q a → Q (step a j f x)) (ha : I a) {j f : Nat} {x : zw} (hF : ZX t j f x) (hb : ¬ x.f0 < 0) (h : ∀ a, I a → Q (step a j f x)) : Q (zAy step t 0 a) := by
  have := (zCp hI hQ t.length 0 a (by omega) ha).2 (.inr ⟨j, f, x, Nat.zero_le _, hF, hb, h⟩)
  rwa [List.drop_zero] at this
end
theorem zEV (cls : List Int) (c : Int) : ∀ (d i k : Nat), i ≤ k → k < i + d → rd cls (k : Int) = c → 0 < (JG cls c d i).length
  | 0, i, k, h1, h2, _ => by omega
  | d + 1, i, k, h1, h2, h3 => by
    rw [JG, List.length_append]
    by_cases e : i = k
    · subst e
      rw [if_pos h3]; simp; omega
    · have := zEV cls c d (i + 1) k (by omega) (by omega) h3
      omega
theorem zCr (m : List Int) : ∀ (i c : Nat), c < (roots m i).length → ∃ j : Nat, j < i ∧ m.getD j 0 = j ∧ (roots m j).length = c
  | 0, c, h => by simp [roots] at h
  | i + 1, c, h => by
    rw [roots] at h
    by_cases e : m.getD i 0 = (i : Int)
    · rw [if_pos e, List.length_append, List.length_singleton] at h
      by_cases hc : c < (roots m i).length
      · obtain ⟨j, h1, h2⟩ := zCr m i c hc
        exact ⟨j, by omega, h2⟩
      · exact ⟨i, by omega, e, by omega⟩
    · rw [if_neg e] at h
      obtain ⟨j, h1, h2⟩ := zCr m i c h
      exact ⟨j, by omega, h2⟩
section
variable {t : Tri}
theorem zEW (h : ZB t = true) {k : Nat} (hk : k < 4 * t.length) : ∃ j : Nat, (Jm t).v.getD k 0 = (j : Int) ∧ j ≤ k ∧ (Jm t).v.getD j 0 = (j : Int) ∧ rd (QI t) (k : Int) = ((roots (Jm t).v j).length : Int) := by
  obtain ⟨⟨o1, _⟩, hw, _⟩ := JQ h
  obtain ⟨q0, q1, q2⟩ := hw k (by omega)
  obtain ⟨j, hj⟩ := Int.eq_ofNat_of_zero_le q0
  rw [hj] at q1 q2
  rw [yny] at q2
  refine ⟨j, hj, by omega, q2, ?_⟩
  have hlt : k < (Jm t).v.length := by omega
  have e : rd (QI t) (k : Int) = zF1 (Jm t).v ((Jm t).v.getD k 0) := by
    unfold QI
    rw [zBF hw, Jw]
    simp [List.getD_eq_getElem?_getD, hlt]
  rw [e, hj]
  unfold zF1
  rw [yny]
theorem zHU (h : ZB t = true) {k : Nat} (hk : k < 4 * t.length) : 0 ≤ rd (QI t) (k : Int) ∧ rd (QI t) (k : Int) ≤ zDS t - 1 := by
  have o1 := (JQ h).1.1
  obtain ⟨j, h1, h2, h3, h4⟩ := zEW h hk
  have k1 := zAq (Jm t).v (j + 1) ((Jm t).v.length - (j + 1))
  rw [show j + 1 + ((Jm t).v.length - (j + 1)) = (Jm t).v.length by omega, roots, if_pos h3, List.length_append, List.length_singleton] at k1
  unfold zDS
  omega
theorem zGh (h : ZB t = true) {c : Int} (h0 : 0 ≤ c) (h1 : c ≤ zDS t - 1) : ∃ k : Nat, k < 4 * t.length ∧ rd (QI t) (k : Int) = c := by
  have o1 := (JQ h).1.1
  obtain ⟨n, rfl⟩ := Int.eq_ofNat_of_zero_le h0
  unfold zDS at h1
  obtain ⟨j, h2, h3, h4⟩ := zCr (Jm t).v (Jm t).v.length n (by omega)
  refine ⟨j, by omega, ?_⟩
  obtain ⟨i, k1, k2, k3, k4⟩ := zEW h (k := j) (by omega)
  have e : i = j := by
    have : ((i : Nat) : Int) = (j : Int) := k1.symm.trans h3
    omega
  subst e
  rw [k4, h4]
theorem zG7 (h : ZB t = true) (c : Int) : (JG (QI t) c (4 * t.length) 0).length = 0 ↔ ¬ (0 ≤ c ∧ c ≤ zDS t - 1) := by
  constructor
  · rintro h0 ⟨h1, h2⟩
    obtain ⟨k, h3, h4⟩ := zGh h h1 h2
    have := zEV (QI t) c (4 * t.length) 0 k (by omega) (by omega) h4
    omega
  · intro hn
    cases hc : JG (QI t) c (4 * t.length) 0 with
    | nil => rfl
    | cons x xs =>
      exfalso
      obtain ⟨k, _, h2, _, h4⟩ := zBH (QI t) c (4 * t.length) 0 x (by rw [hc]; exact List.mem_cons_self ..)
      have := zHU h (k := k) (by omega)
      rw [h4] at this
      exact hn this
end
theorem zEX (cls : List Int) (c : Int) (e : Nat) : ∀ (d i : Nat), JG cls c (d + e) i = JG cls c d i ++ JG cls c e (i + d)
  | 0, i => by rw [Nat.zero_add, JG, Nat.add_zero]; rfl
  | d + 1, i => by
    have h := zEX cls c e d (i + 1)
    rw [Nat.succ_add, JG, JG, h, List.append_assoc]
    congr 3
    omega
section
variable {t : Tri}
theorem zA5 (h : ZB t = true) (c : Int) (B C : List (List Int)) {r : List (List Int)} {a : Nat} (ha : a < t.length) : ∀ (d x : Nat) (acc : List (List Int)), x + d = 4 → acc.length ≤ 4 * a + x →
    (∀ acc' : List (List Int), acc'.length ≤ 4 * (a + 1) → acc' = acc ++ JG (QI t) c d (4 * a + x) → Ev (fun k => zm.l0 k c acc' ((a + 1 : Nat) : Int) (QV 4 t.length (QI t)) B C) r) →
    Ev (fun k => zm.l1 k c acc (a : Int) (x : Int) (QV 4 t.length (QI t)) B C) r
  | 0, x, acc, hx, hv, hr => by
    have h8 := (ql h).1
    refine qT (fun k => by rw [zm.l1, if_neg (by omega), ZI (by omega)]) ?_
    exact hr acc (by omega) (by rw [JG, List.append_nil])
  | d + 1, x, acc, hx, hv, hr => by
    have h8 := (ql h).1
    obtain ⟨e1, e2⟩ := zHS h ha (x := x) (by omega)
    have hcl := Qu 4 t.length (QI t)
    rw [JG] at hr
    have ed : (4 * a + x) / 4 = a := by omega
    have em : (4 * a + x) % 4 = x := by omega
    rw [ed, em] at hr
    clear ed em
    by_cases e : rd (QI t) ((4 * a + x : Nat) : Int) = c
    · rw [if_pos e] at hr
      refine qT (fun k => by rw [zm.l1, if_pos (by omega), if_pos (by omega), if_pos (by omega), if_pos (by omega), if_pos (by omega), e1, if_pos e, if_pos (by omega), ZI (by omega)]) ?_
      refine zA5 h c B C ha d (x + 1) _ (by omega) (by simp; omega) (fun acc' h1 h2 => hr acc' h1 ?_)
      rw [h2, List.append_assoc]; rfl
    · rw [if_neg e, List.nil_append] at hr
      refine qT (fun k => by rw [zm.l1, if_pos (by omega), if_pos (by omega), if_pos (by omega), if_pos (by omega), if_pos (by omega), e1, if_neg e, ZI (by omega)]) ?_
      exact zA5 h c B C ha d (x + 1) acc (by omega) (by omega) hr
theorem zB6 (h : ZB t = true) (c : Int) (B C : List (List Int)) : ∀ (d a : Nat) (acc : List (List Int)), a + d = t.length → acc.length ≤ 4 * a → Ev (fun k => zm.l0 k c acc (a : Int) (QV 4 t.length (QI t)) B C) (acc ++ JG (QI t) c (4 * d) (4 * a))
  | 0, a, acc, ha, hv => by
    have hcl := Qu 4 t.length (QI t)
    refine qT (fun k => by rw [zm.l0, if_neg (by omega)]) ?_
    rw [JG, List.append_nil]; exact Ev.now _
  | d + 1, a, acc, ha, hv => by
    have hcl := Qu 4 t.length (QI t)
    refine qT (fun k => by rw [zm.l0, if_pos (by omega)]) ?_
    refine zA5 h c B C (by omega) 4 0 acc (by omega) (by omega) (fun acc' h1 h2 => ?_)
    have := zB6 h c B C d (a + 1) acc' (by omega) h1
    have e4 : 4 * (d + 1) = 4 + 4 * d := by omega
    rw [e4, zEX, ← List.append_assoc]
    rw [h2] at this ⊢
    exact this
theorem zDU (h : ZB t = true) (c : Int) : Ev (fun k => zm.f k t c) (JG (QI t) c (4 * t.length) 0) := by
  refine Ev.bind (zCk h) ?_
  have := zB6 h c (QV 6 t.length (zCX (Jm t).e)) (QV 4 t.length (zCX (Jm t).f)) t.length 0 [] (by omega) (by simp)
  rw [List.nil_append] at this
  exact this
def zG8 (t : Tri) (c : Int) : List (List Int) × Int := if zAF t c = 0 then (JG (QI t) c (4 * t.length) 0, 0) else ([], zAF t c)
theorem zCF {c : Int} (h : zAF t c = 0) : ZB t = true ∧ 0 ≤ c ∧ c ≤ zDS t - 1 := by
  unfold zAF at h
  cases ht : ZB t with
  | false => rw [ht] at h; simp at h
  | true =>
    rw [ht, if_pos rfl] at h
    by_cases hc : 0 ≤ c ∧ c ≤ zDS t - 1
    · exact ⟨rfl, hc⟩
    · rw [if_neg hc] at h; simp at h
theorem zCs (t : Tri) (c : Int) : Ev (fun k => ZZ.f k t c) (zG8 t c) := by
  refine Ev.bind (zCi t) ?_
  by_cases ht : ZB t = true
  · have hn := zG7 ht c
    refine qv ht (Ev.bind (zDU ht c) ?_)
    by_cases hc : 0 ≤ c ∧ c ≤ zDS t - 1
    · have hv : zAF t c = 0 := by unfold zAF; rw [if_pos ht, if_pos hc]
      have hp : ¬ (JG (QI t) c (4 * t.length) 0).length = 0 := fun e => hn.1 e hc
      unfold zG8
      rw [if_pos hv]
      exact QP (fun e => hp (by omega)) (Ev.now _)
    · have hv : zAF t c = 2 := by unfold zAF; rw [if_pos ht, if_neg hc]
      have hp := hn.2 hc
      unfold zG8
      rw [hv, if_neg (show ¬ (2 : Int) = 0 by decide)]
      exact qv (by omega) (Ev.now _)
  · have hv : zAF t c = 1 := by unfold zAF; rw [if_neg ht]
    unfold zG8
    rw [hv, if_neg (show ¬ (1 : Int) = 0 by decide)]
    exact QP ht (Ev.now _)
end
end Go.Proofs.Ytembbpalgfikiaa.P
