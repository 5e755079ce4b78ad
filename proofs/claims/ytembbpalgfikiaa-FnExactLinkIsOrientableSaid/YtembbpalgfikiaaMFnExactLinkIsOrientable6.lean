/- The statement FnExactLinkIsOrientableSaid, proved: part 6 of 8 (texts of this session and of the kit's print, put together and cut to what is used by a program of it). -/
import Derived.Test.YtembbpalgfikiaaMFnExactLinkIsOrientable5
namespace Go.Proofs.Ytembbpalgfikiaa.P
open Go.RowKit Go.Proofs.YtembbpalgfikiaaW.PrintWords Go.Proofs.YtembbpalgfikiaaW.PrintLast Go.Proofs.YtembbpalgfikiaaW.PrintMore
attribute [local go_sem] Qj Qk JQ JR QX QY Ql Qm
set_option linter.unusedVariables false
set_option linter.unusedSimpArgs false
mutual
def zl.l0 : Nat → Int → List (List Int) → Int → List (List Int) → List (List Int) → List (List Int) → Option ((List (List Int)))
 | 0, _, _, _, _, _, _ => none
 | k + 1, x1, x7, x8, x115000, x115001, x115002 => if x8 < (x115000.length : Int) then (zl.l1 k x1 x7 x8 0 x115000 x115001 x115002) else (some x7)
def zl.l1 : Nat → Int → List (List Int) → Int → Int → List (List Int) → List (List Int) → List (List Int) → Option ((List (List Int)))
 | 0, _, _, _, _, _, _, _ => none
 | k + 1, x1, x7, x8, x9, x115000, x115001, x115002 => if x9 < 4 then (if 0 ≤ x8 then (if x8 < (x115000.length : Int) then (if 0 ≤ x9 then (if x9 < ((qj x115000 x8).length : Int) then (if (rd (qj x115000 x8) x9) = x1 then (if x7.length < 5864062014805 then (zl.l1 k x1 (x7 ++ [(([x8, x9] : List Int))]) x8 (wrap64 (x9 + 1)) x115000 x115001 x115002) else (none)) else (zl.l1 k x1 x7 x8 (wrap64 (x9 + 1)) x115000 x115001 x115002)) else (none)) else (none)) else (none)) else (none)) else (zl.l0 k x1 x7 (wrap64 (x8 + 1)) x115000 x115001 x115002)
end
def zl.f (k : Nat) (l0_0 : List (List (qA))) (a1 : Int) : Option ((List (List Int))) := (zQ.f k l0_0).bind fun bt102 => (zl.l0 k a1 (([] : List (List Int))) 0 bt102.1 bt102.2.1 bt102.2.2.1)
set_option maxHeartbeats 8000000 in
set_option maxRecDepth 100000 in
theorem zl.calls (k : Nat) (A0_0 : Option Addr) (c0_0 : Nat) (l0_0 : List (List (qA))) (a1 : Int) (r : List (List Int)) (w : World) (hr0_0 : Kd.C (Kd.slice 75 ZT) w A0_0 l0_0.length l0_0) (hc0_0 : l0_0.length ≤ c0_0) (h : zl.f k l0_0 a1 = some r) :
 Calls Try.prog 48 #[.agg #[.slice A0_0 l0_0.length c0_0], .int .i64 a1] w fun e w' => ∃ v0_ : Value, e = .returned (v0_) ∧ Kd.S (Kd.slice 2 (Kd.int .i64)) 22 w' w.heap.size (fun _ => True) v0_ r ∧ Below w.heap.size w w' := by
 have hu35 := Try.underlying35
 have hu88 := Try.underlying88
 have HR0_0 := zA.mk hr0_0
 have HC0_0 := zA.mk hc0_0
 clear hr0_0 hc0_0
 have HB := zA.mk (yry w.heap.size w)
 have H : ((zQ.f k l0_0).bind fun bt102 => (zl.l0 k a1 (([] : List (List Int))) 0 bt102.1 bt102.2.1 bt102.2.2.1)) = some r := h
 clear h
 replace H := ydy.mp H
 obtain ⟨⟨t102, t105, t108, t111⟩, A30, H⟩ := H
 replace H : (zl.l0 k a1 (([] : List (List Int))) 0 t102 t105 t108) = some r := H
 have A3 := zA.mk A30
 clear A30
 obtain ⟨y115, hy115⟩ : ∃ y_ : List (List Int), y_ = (([] : List (List Int))) := ⟨_, rfl⟩
 replace H : (zl.l0 k a1 y115 0 t102 t105 t108) = some r := by first | (rw [hy115]; with_reducible exact H) | (have H2_ := (yfy _ _).symm.trans H; rw [hy115]; with_reducible exact H2_) | (have H2_ := (yfy _ _).symm.trans H; with_reducible exact H2_) | with_reducible exact H | (rw [hy115]; exact H) | exact H
 have Ny115 := zA.mk hy115
 clear hy115
 have H' := zA.mk H
 clear H
 go_enter Try.func48, Try.ntmps48
 go_wp2_with (first | ((with_reducible refine zq (N := 2) rfl ?_); refine zt ?hg (N := 2) ?hd (cs := #[.slice A0_0 l0_0.length c0_0]) (t := 35) ?hr ?_; (case hd => rfl); (case hg => rfl); (case hr => first | (go_simp; done) | (go_simp; rfl)); intro gb101 hg w4 hbox hb; have n0_ := zA.mk (zM (by repeat (first | (with_reducible first | exact HB.out | apply zC | apply zB | apply zD) | exact HB.out)) hb); have n1_ := zA.mk (hbox); have n2_ := zA.mk ((by rw [hg]; exact (zO (by repeat (first | (with_reducible first | exact HB.out | apply zC | apply zB | apply zD) | exact HB.out))) : w.heap.size ≤ gb101)); have n3_ := zA.mk ((by rw [hg]; exact (zO (by repeat (first | (with_reducible first | exact HB.out | apply zC | apply zB | apply zD) | exact HB.out))) : w.heap.size ≤ gb101)); clear HB; have HB := n0_; have BK101 := n1_; have GW101 := n2_; have GE101 := n3_; clear n0_ n1_ n2_ n3_; clear hb hbox hg; have hcz5_0 : w4.cell? ⟨gb101, 0, none⟩ = some (.slice A0_0 l0_0.length c0_0) := (zK BK101.out 0).trans rfl; have hfz5_0 := zN BK101.out 0) | ((with_reducible refine za (f := 84) rfl ?_); refine qL (some 12) rfl rfl Try.func84 (by kernel_rfl) rfl #[.agg #[.slice A0_0 l0_0.length c0_0]] rfl (by (try simp only [yiy, yjy, yky]); first | done | rfl | (simp only [yly, ymy]; rfl)) ?_; (with_reducible refine (zQ.calls k _ _ l0_0 t102 t105 t108 t111 _ ?side1 ?side2 A3.out).mono ?_); (case side1 => repeat (first | exact (Kd.qG HR0_0.out HB.out) | (with_reducible refine Kd.zu ?_ _) | (with_reducible refine Kd.zw ?_ _) | (with_reducible refine Kd.qK ?_))); (case side2 => exact HC0_0.out); rintro e w6 ⟨v103, v106, v109, v112, rfl, ho0, ho1, ho2, ho3, hb⟩; refine ⟨_, rfl, ?_⟩; have n0_ := zA.mk (Kd.Zg ho0 (zO (by repeat (first | (with_reducible first | exact HB.out | apply zC | apply zB | apply zD | refine zF ?_ GE101.out) | exact HB.out)))); have n1_ := zA.mk (Kd.Zg ho1 (zO (by repeat (first | (with_reducible first | exact HB.out | apply zC | apply zB | apply zD | refine zF ?_ GE101.out) | exact HB.out)))); have n2_ := zA.mk (Kd.Zg ho2 (zO (by repeat (first | (with_reducible first | exact HB.out | apply zC | apply zB | apply zD | refine zF ?_ GE101.out) | exact HB.out)))); have n3_ := zA.mk (Kd.ZB ho3 (zO (by repeat (first | (with_reducible first | exact HB.out | apply zC | apply zB | apply zD | refine zF ?_ GE101.out) | exact HB.out)))); have n4_ := zA.mk (zP (g := gb101) (o := .cells #[.slice A0_0 l0_0.length c0_0] 35 (0, 0)) (by (with_reducible repeat (first | refine zH ?_ _ | refine zJ ?_ | refine zG ?_ _)); exact BK101.out) hb); have n5_ := zA.mk (zM (by repeat (first | (with_reducible first | exact HB.out | apply zC | apply zB | apply zD | refine zF ?_ GE101.out) | exact HB.out)) hb); clear BK101; clear HB; have HO104 := n0_; have HO107 := n1_; have HO110 := n2_; have HO113 := n3_; have BK101 := n4_; have HB := n5_; clear n0_ n1_ n2_ n3_ n4_ n5_; (try clear hb); (try clear hb2); (try clear hk); (try clear hi); (try clear ho0); (try clear ho1); (try clear ho2); (try clear ho3)) | ((with_reducible refine zq (N := 5) rfl ?_); refine zt ?hg (N := 5) ?hd (cs := #[.slice none 0 0, .slice none 0 0, .slice none 0 0]) (t := 88) ?hr ?_; (case hd => rfl); (case hg => rfl); (case hr => first | (go_simp; done) | (go_simp; rfl)); intro gb114 hg w7 hbox hb; have n0_ := zA.mk (Kd.ZN (by (with_reducible repeat (first | apply Kd.ze | apply Kd.zf | apply Kd.zo)); exact HO104.out) hb); have n1_ := zA.mk (Kd.ZN (by (with_reducible repeat (first | apply Kd.ze | apply Kd.zf | apply Kd.zo)); exact HO107.out) hb); have n2_ := zA.mk (Kd.ZN (by (with_reducible repeat (first | apply Kd.ze | apply Kd.zf | apply Kd.zo)); exact HO110.out) hb); have n3_ := zA.mk (Kd.qM (by (with_reducible repeat (first | apply Kd.zR | apply Kd.zS | apply Kd.zW)); exact HO113.out) hb); have n4_ := zA.mk (zP (g := gb101) (o := .cells #[.slice A0_0 l0_0.length c0_0] 35 (0, 0)) (by (with_reducible repeat (first | refine zH ?_ _ | refine zJ ?_ | refine zG ?_ _)); exact BK101.out) hb); have n5_ := zA.mk (zM (by repeat (first | (with_reducible first | exact HB.out | apply zC | apply zB | apply zD | refine zF ?_ GE101.out) | exact HB.out)) hb); have n6_ := zA.mk (hbox); have n7_ := zA.mk ((by rw [hg]; exact (zO (by repeat (first | (with_reducible first | exact HB.out | apply zC | apply zB | apply zD | refine zF ?_ GE101.out) | exact HB.out))) : w.heap.size ≤ gb114)); have n8_ := zA.mk ((by rw [hg]; exact (zO (by repeat (first | (with_reducible first | exact HB.out | apply zC | apply zB | apply zD | refine zF ?_ GE101.out) | exact HB.out))) : w.heap.size ≤ gb114)); have n9_ := zA.mk ((by rw [hg]; exact Nat.ne_of_lt (qN (g := gb101) (o := .cells #[.slice A0_0 l0_0.length c0_0] 35 (0, 0)) (by (with_reducible repeat (first | refine zH ?_ _ | refine zJ ?_ | refine zG ?_ _)); exact BK101.out)) : gb101 ≠ gb114)); have n10_ := zA.mk ((by rw [hg]; exact Nat.ne_of_gt (qN (g := gb101) (o := .cells #[.slice A0_0 l0_0.length c0_0] 35 (0, 0)) (by (with_reducible repeat (first | refine zH ?_ _ | refine zJ ?_ | refine zG ?_ _)); exact BK101.out)) : gb114 ≠ gb101)); clear HO104; clear HO107; clear HO110; clear HO113; clear BK101; clear HB; have HO104 := n0_; have HO107 := n1_; have HO110 := n2_; have HO113 := n3_; have BK101 := n4_; have HB := n5_; have BK114 := n6_; have GW114 := n7_; have GE114 := n8_; have NB101_114 := n9_; have NB114_101 := n10_; clear n0_ n1_ n2_ n3_ n4_ n5_ n6_ n7_ n8_ n9_ n10_; clear hb hbox hg; obtain ⟨Ao8, co8, eo8⟩ := Kd.Zz HO104.out; subst eo8; have hnb9 := NB114_101.out; have hnc9 := NB101_114.out; have hcz10_0 : w7.cell? ⟨gb114, 0, none⟩ = some (.slice none 0 0) := (zK BK114.out 0).trans rfl; have hcz10_1 : w7.cell? ⟨gb114, 1, none⟩ = some (.slice none 0 0) := (zK BK114.out 1).trans rfl; have hcz10_2 : w7.cell? ⟨gb114, 2, none⟩ = some (.slice none 0 0) := (zK BK114.out 2).trans rfl; have hfz10_0 := zN BK114.out 0; have hfz10_1 := zN BK114.out 1; have hfz10_2 := zN BK114.out 2; obtain ⟨Ao11, co11, eo11⟩ := Kd.Zz HO107.out; subst eo11; obtain ⟨Ao12, co12, eo12⟩ := Kd.Zz HO110.out; subst eo12) | ((with_reducible refine zq (N := 15) rfl ?_); refine Kd.S_lit (Kd.slice 2 (Kd.int .i64)) _ 22 ?hg (N := 15) ?hd (xs := ([] : List (List Int))) (inner := []) (ok := fun _ => True) (okp := fun _ => True) ?hr ?hp (fun _ hk => hk) trivial (yry _ _) (yqy _) (by simp) ?_; (case hd => rfl); (case hg => rfl); (case hr => first | (go_simp; done) | (go_simp; rfl)); (case hp => exact (Zu.none _ _)); intro v116 w13 ho14 hb hg_ hnew_; clear hg_ hnew_; (first | rw [← Ny115.out] at ho14 | (simp only [Int.reduceToNat] at ho14; rw [← Ny115.out] at ho14)); have n0_ := zA.mk (Kd.ZZ (by (with_reducible repeat (first | apply Kd.ze | apply Kd.zf | apply Kd.zo)); exact (Kd.qq (Kd.Zi (p := ⟨gb114, 2, none⟩) (Kd.Zi (p := ⟨gb114, 1, none⟩) (Kd.Zi (p := ⟨gb114, 0, none⟩) (Kd.ZR HO104.out BK114.out (by decide)) (fun _ hk => hk.2) (.slice Ao8 t102.length co8)) (fun _ hk => hk.2) (.slice Ao11 t105.length co11)) (fun _ hk => hk.2) (.slice Ao12 t108.length co12)) (fun _ h_ => h_.1))) (Kd.JK ho14) hb); have n1_ := zA.mk (Kd.ZZ (by (with_reducible repeat (first | apply Kd.ze | apply Kd.zf | apply Kd.zo)); exact (Kd.qq (Kd.Zi (p := ⟨gb114, 2, none⟩) (Kd.Zi (p := ⟨gb114, 1, none⟩) (Kd.Zi (p := ⟨gb114, 0, none⟩) (Kd.ZR HO107.out BK114.out (by decide)) (fun _ hk => hk.2) (.slice Ao8 t102.length co8)) (fun _ hk => hk.2) (.slice Ao11 t105.length co11)) (fun _ hk => hk.2) (.slice Ao12 t108.length co12)) (fun _ h_ => h_.1))) (Kd.JK ho14) hb); have n2_ := zA.mk (Kd.ZZ (by (with_reducible repeat (first | apply Kd.ze | apply Kd.zf | apply Kd.zo)); exact (Kd.qq (Kd.Zi (p := ⟨gb114, 2, none⟩) (Kd.Zi (p := ⟨gb114, 1, none⟩) (Kd.Zi (p := ⟨gb114, 0, none⟩) (Kd.ZR HO110.out BK114.out (by decide)) (fun _ hk => hk.2) (.slice Ao8 t102.length co8)) (fun _ hk => hk.2) (.slice Ao11 t105.length co11)) (fun _ hk => hk.2) (.slice Ao12 t108.length co12)) (fun _ h_ => h_.1))) (Kd.JK ho14) hb); have n3_ := zA.mk (Kd.qM (by (with_reducible repeat (first | apply Kd.zR | apply Kd.zS | apply Kd.zW)); exact (Kd.zv (Kd.ZI (p := ⟨gb114, 2, none⟩) (Kd.ZI (p := ⟨gb114, 1, none⟩) (Kd.ZI (p := ⟨gb114, 0, none⟩) (Kd.ZJ HO113.out BK114.out (by decide)) (fun _ hk => hk.2) (.slice Ao8 t102.length co8)) (fun _ hk => hk.2) (.slice Ao11 t105.length co11)) (fun _ hk => hk.2) (.slice Ao12 t108.length co12)) (fun _ h_ => h_.1))) hb); have n4_ := zA.mk (Kd.Zg (Kd.Zn (Kd.Zn (Kd.Zn (Kd.Zn ho14 (Kd.zCr (by (with_reducible repeat (first | apply Kd.ze | apply Kd.zf | apply Kd.zo)); exact (Kd.qq (Kd.Zi (p := ⟨gb114, 2, none⟩) (Kd.Zi (p := ⟨gb114, 1, none⟩) (Kd.Zi (p := ⟨gb114, 0, none⟩) (Kd.ZR HO104.out BK114.out (by decide)) (fun _ hk => hk.2) (.slice Ao8 t102.length co8)) (fun _ hk => hk.2) (.slice Ao11 t105.length co11)) (fun _ hk => hk.2) (.slice Ao12 t108.length co12)) (fun _ h_ => h_.1))))) (Kd.zCr (by (with_reducible repeat (first | apply Kd.ze | apply Kd.zf | apply Kd.zo)); exact (Kd.qq (Kd.Zi (p := ⟨gb114, 2, none⟩) (Kd.Zi (p := ⟨gb114, 1, none⟩) (Kd.Zi (p := ⟨gb114, 0, none⟩) (Kd.ZR HO107.out BK114.out (by decide)) (fun _ hk => hk.2) (.slice Ao8 t102.length co8)) (fun _ hk => hk.2) (.slice Ao11 t105.length co11)) (fun _ hk => hk.2) (.slice Ao12 t108.length co12)) (fun _ h_ => h_.1))))) (Kd.zCr (by (with_reducible repeat (first | apply Kd.ze | apply Kd.zf | apply Kd.zo)); exact (Kd.qq (Kd.Zi (p := ⟨gb114, 2, none⟩) (Kd.Zi (p := ⟨gb114, 1, none⟩) (Kd.Zi (p := ⟨gb114, 0, none⟩) (Kd.ZR HO110.out BK114.out (by decide)) (fun _ hk => hk.2) (.slice Ao8 t102.length co8)) (fun _ hk => hk.2) (.slice Ao11 t105.length co11)) (fun _ hk => hk.2) (.slice Ao12 t108.length co12)) (fun _ h_ => h_.1))))) (Kd.JC (by (with_reducible repeat (first | apply Kd.zR | apply Kd.zS | apply Kd.zW)); exact (Kd.zv (Kd.ZI (p := ⟨gb114, 2, none⟩) (Kd.ZI (p := ⟨gb114, 1, none⟩) (Kd.ZI (p := ⟨gb114, 0, none⟩) (Kd.ZJ HO113.out BK114.out (by decide)) (fun _ hk => hk.2) (.slice Ao8 t102.length co8)) (fun _ hk => hk.2) (.slice Ao11 t105.length co11)) (fun _ hk => hk.2) (.slice Ao12 t108.length co12)) (fun _ h_ => h_.1))))) (zO (by repeat (first | (with_reducible first | exact HB.out | apply zC | apply zB | apply zD | refine zF ?_ GE101.out | refine zF ?_ GE114.out) | exact HB.out)))); have n5_ := zA.mk (zP (g := gb101) (o := .cells #[.slice A0_0 l0_0.length c0_0] 35 (0, 0)) (by (with_reducible repeat (first | refine zH ?_ _ | refine zJ ?_ | refine zG ?_ _)); refine qE ?_ NB101_114.out _; (with_reducible repeat (first | refine zH ?_ _ | refine zJ ?_ | refine zG ?_ _)); refine qE ?_ NB101_114.out _; (with_reducible repeat (first | refine zH ?_ _ | refine zJ ?_ | refine zG ?_ _)); refine qE ?_ NB101_114.out _; (with_reducible repeat (first | refine zH ?_ _ | refine zJ ?_ | refine zG ?_ _)); exact BK101.out) hb); have n6_ := zA.mk (zP (g := gb114) (o := .cells #[.slice Ao8 t102.length co8, .slice Ao11 t105.length co11, .slice Ao12 t108.length co12] 88 (0, 0)) (by (with_reducible repeat (first | refine zH ?_ _ | refine zJ ?_ | refine zG ?_ _)); refine qT (cs := #[.slice Ao8 t102.length co8, .slice Ao11 t105.length co11, .slice none 0 0]) ?_ 2 _ rfl; (with_reducible repeat (first | refine zH ?_ _ | refine zJ ?_ | refine zG ?_ _)); refine qT (cs := #[.slice Ao8 t102.length co8, .slice none 0 0, .slice none 0 0]) ?_ 1 _ rfl; (with_reducible repeat (first | refine zH ?_ _ | refine zJ ?_ | refine zG ?_ _)); refine qT (cs := #[.slice none 0 0, .slice none 0 0, .slice none 0 0]) ?_ 0 _ rfl; (with_reducible repeat (first | refine zH ?_ _ | refine zJ ?_ | refine zG ?_ _)); exact BK114.out) hb); have n7_ := zA.mk (zM (by repeat (first | (with_reducible first | exact HB.out | apply zC | apply zB | apply zD | refine zF ?_ GE101.out | refine zF ?_ GE114.out) | exact HB.out)) hb); clear HO104; clear HO107; clear HO110; clear HO113; clear BK101; clear BK114; clear HB; have HO104 := n0_; have HO107 := n1_; have HO110 := n2_; have HO113 := n3_; have HO117 := n4_; have BK101 := n5_; have BK114 := n6_; have HB := n7_; clear n0_ n1_ n2_ n3_ n4_ n5_ n6_ n7_; clear hb ho14))
 go_loopg [7, 8] k (fun kq v7 v8 w' => ∃ (x7_1 : List (List Int)) (x8_1 : Int), v8 = .int .i64 x8_1 ∧ zA (zl.l0 kq a1 x7_1 x8_1 t102 t105 t108 = some r) ∧ zA (kq ≤ k) ∧ zA (Kd.S (Kd.slice 2 (Kd.int .i64)) 22 w' w.heap.size (fun k_ => some k_ ≠ ((.slice Ao8 t102.length co8) : Value).ownBlock ∧ some k_ ≠ ((.slice Ao11 t105.length co11) : Value).ownBlock ∧ some k_ ≠ ((.slice Ao12 t108.length co12) : Value).ownBlock) v7 x7_1) ∧ zA (Kd.S (Kd.slice 2 (Kd.int .i64)) 22 w' w.heap.size (fun k_ => some k_ ≠ (v7 : Value).ownBlock ∧ some k_ ≠ ((.slice Ao11 t105.length co11) : Value).ownBlock ∧ some k_ ≠ ((.slice Ao12 t108.length co12) : Value).ownBlock) (.slice Ao8 t102.length co8) t102) ∧ zA (Kd.S (Kd.slice 2 (Kd.int .i64)) 22 w' w.heap.size (fun k_ => some k_ ≠ (v7 : Value).ownBlock ∧ some k_ ≠ ((.slice Ao8 t102.length co8) : Value).ownBlock ∧ some k_ ≠ ((.slice Ao12 t108.length co12) : Value).ownBlock) (.slice Ao11 t105.length co11) t105) ∧ zA (Kd.S (Kd.slice 2 (Kd.int .i64)) 22 w' w.heap.size (fun k_ => some k_ ≠ (v7 : Value).ownBlock ∧ some k_ ≠ ((.slice Ao8 t102.length co8) : Value).ownBlock ∧ some k_ ≠ ((.slice Ao11 t105.length co11) : Value).ownBlock) (.slice Ao12 t108.length co12) t108) ∧ zA (w'.heap[gb101]? = some (.cells #[(.slice A0_0 l0_0.length c0_0)] 35 (0, 0))) ∧ zA (w'.heap[gb114]? = some (.cells #[(.slice Ao8 t102.length co8), (.slice Ao11 t105.length co11), (.slice Ao12 t108.length co12)] 88 (0, 0))) ∧ zA (Below w.heap.size w w'))
 case atStart => exact ⟨(y115), (0), (by first | rfl | (simp; done) | (simp [*]; done)), H', ⟨yqy _⟩, ⟨by (with_reducible repeat (first | apply Kd.ze | apply Kd.zf | apply Kd.zo)); exact Kd.qq HO117.out (fun _ hk => ⟨hk.1.1.1.2, ⟨hk.1.1.2, hk.1.2⟩⟩)⟩, ⟨by (with_reducible repeat (first | apply Kd.ze | apply Kd.zf | apply Kd.zo)); exact Kd.qq HO104.out (fun _ hk => ⟨hk.2, ⟨hk.1.1, hk.1.2.1⟩⟩)⟩, ⟨by (with_reducible repeat (first | apply Kd.ze | apply Kd.zf | apply Kd.zo)); exact Kd.qq HO107.out (fun _ hk => ⟨hk.2, ⟨hk.1.1, hk.1.2.1⟩⟩)⟩, ⟨by (with_reducible repeat (first | apply Kd.ze | apply Kd.zf | apply Kd.zo)); exact Kd.qq HO110.out (fun _ hk => ⟨hk.2, ⟨hk.1.1, hk.1.2.1⟩⟩)⟩, ⟨by (with_reducible repeat (first | refine zH ?_ _ | refine zJ ?_ | refine zG ?_ _)); exact BK101.out⟩, ⟨by (with_reducible repeat (first | refine zH ?_ _ | refine zJ ?_ | refine zG ?_ _)); exact BK114.out⟩, ⟨by repeat (first | (with_reducible first | exact HB.out | apply zC | apply zB | apply zD | refine zF ?_ GE101.out | refine zF ?_ GE114.out) | exact HB.out)⟩⟩
 case round =>
  clear H'
  try clear p2
  try clear c4
  try clear c8
  try clear c9
  try clear hcz10_0
  try clear hcz10_1
  try clear hcz10_2
  try clear hcz5_0
  try clear hfz10_0
  try clear hfz10_1
  try clear hfz10_2
  try clear hfz5_0
  obtain ⟨x7_1, x8_1, rfl, HA, HK1, HO_7, HO_115000, HO_115001, HO_115002, BK101, BK114, HB⟩ := hrel
  cases gk with
  | zero => exact absurd HA.out (by simp [zl.l0])
  | succ k1 =>
   have H := HA.out
   clear HA
   simp only [zl.l0] at H
   by_cases c15 : x8_1 < (t102.length : Int)
   rotate_left
   next =>
    rw [if_neg c15] at H
    have c15b0 : decide (x8_1 < (t102.length : Int)) = false := yhy c15
    clear c15
    obtain rfl := yey H
    have hnb33 := NB114_101.out
    have hnc33 := NB101_114.out
    have hcz34_0 : wr.cell? ⟨gb114, 0, none⟩ = some (.slice Ao8 t102.length co8) := (zK BK114.out 0).trans rfl
    have hcz34_1 : wr.cell? ⟨gb114, 1, none⟩ = some (.slice Ao11 t105.length co11) := (zK BK114.out 1).trans rfl
    have hcz34_2 : wr.cell? ⟨gb114, 2, none⟩ = some (.slice Ao12 t108.length co12) := (zK BK114.out 2).trans rfl
    have hfz34_0 := zN BK114.out 0
    have hfz34_1 := zN BK114.out 1
    have hfz34_2 := zN BK114.out 2
    go_wp2
    go_ret
    exact ⟨_, by first | rfl | (simp [zX, zY] <;> rfl) | (simp [*, zX, zY] <;> rfl), by (with_reducible repeat (first | apply Kd.ze | apply Kd.zf | apply Kd.zo)); exact Kd.qq HO_7.out (fun _ hk => trivial), by repeat (first | (with_reducible first | exact HB.out | apply zC | apply zB | apply zD | refine zF ?_ GE101.out | refine zF ?_ GE114.out) | exact HB.out)⟩
   rw [if_pos c15] at H
   have c15b0 : decide (x8_1 < (t102.length : Int)) = true := ygy c15
   clear c15
   have H' := zA.mk H
   clear H
   have hnb16 := NB114_101.out
   have hnc16 := NB101_114.out
   have hcz17_0 : wr.cell? ⟨gb114, 0, none⟩ = some (.slice Ao8 t102.length co8) := (zK BK114.out 0).trans rfl
   have hcz17_1 : wr.cell? ⟨gb114, 1, none⟩ = some (.slice Ao11 t105.length co11) := (zK BK114.out 1).trans rfl
   have hcz17_2 : wr.cell? ⟨gb114, 2, none⟩ = some (.slice Ao12 t108.length co12) := (zK BK114.out 2).trans rfl
   have hfz17_0 := zN BK114.out 0
   have hfz17_1 := zN BK114.out 1
   have hfz17_2 := zN BK114.out 2
   go_wp2
   go_loopg [7, 9] k1 (fun kq v7 v9 w' => ∃ (x7_2 : List (List Int)) (x9_2 : Int), v9 = .int .i64 x9_2 ∧ zA (zl.l1 kq a1 x7_2 x8_1 x9_2 t102 t105 t108 = some r) ∧ zA (kq ≤ k1) ∧ zA (Kd.S (Kd.slice 2 (Kd.int .i64)) 22 w' w.heap.size (fun k_ => some k_ ≠ ((.slice Ao8 t102.length co8) : Value).ownBlock ∧ some k_ ≠ ((.slice Ao11 t105.length co11) : Value).ownBlock ∧ some k_ ≠ ((.slice Ao12 t108.length co12) : Value).ownBlock) v7 x7_2) ∧ zA (Kd.S (Kd.slice 2 (Kd.int .i64)) 22 w' w.heap.size (fun k_ => some k_ ≠ (v7 : Value).ownBlock ∧ some k_ ≠ ((.slice Ao11 t105.length co11) : Value).ownBlock ∧ some k_ ≠ ((.slice Ao12 t108.length co12) : Value).ownBlock) (.slice Ao8 t102.length co8) t102) ∧ zA (Kd.S (Kd.slice 2 (Kd.int .i64)) 22 w' w.heap.size (fun k_ => some k_ ≠ (v7 : Value).ownBlock ∧ some k_ ≠ ((.slice Ao8 t102.length co8) : Value).ownBlock ∧ some k_ ≠ ((.slice Ao12 t108.length co12) : Value).ownBlock) (.slice Ao11 t105.length co11) t105) ∧ zA (Kd.S (Kd.slice 2 (Kd.int .i64)) 22 w' w.heap.size (fun k_ => some k_ ≠ (v7 : Value).ownBlock ∧ some k_ ≠ ((.slice Ao8 t102.length co8) : Value).ownBlock ∧ some k_ ≠ ((.slice Ao11 t105.length co11) : Value).ownBlock) (.slice Ao12 t108.length co12) t108) ∧ zA (w'.heap[gb101]? = some (.cells #[(.slice A0_0 l0_0.length c0_0)] 35 (0, 0))) ∧ zA (w'.heap[gb114]? = some (.cells #[(.slice Ao8 t102.length co8), (.slice Ao11 t105.length co11), (.slice Ao12 t108.length co12)] 88 (0, 0))) ∧ zA (Below w.heap.size w w'))
   case atStart => exact ⟨(x7_1), (0), (by first | rfl | (simp; done) | (simp [*]; done)), H', ⟨yqy _⟩, ⟨by (with_reducible repeat (first | apply Kd.ze | apply Kd.zf | apply Kd.zo)); exact HO_7.out⟩, ⟨by (with_reducible repeat (first | apply Kd.ze | apply Kd.zf | apply Kd.zo)); exact HO_115000.out⟩, ⟨by (with_reducible repeat (first | apply Kd.ze | apply Kd.zf | apply Kd.zo)); exact HO_115001.out⟩, ⟨by (with_reducible repeat (first | apply Kd.ze | apply Kd.zf | apply Kd.zo)); exact HO_115002.out⟩, ⟨by (with_reducible repeat (first | refine zH ?_ _ | refine zJ ?_ | refine zG ?_ _)); exact BK101.out⟩, ⟨by (with_reducible repeat (first | refine zH ?_ _ | refine zJ ?_ | refine zG ?_ _)); exact BK114.out⟩, ⟨by repeat (first | (with_reducible first | exact HB.out | apply zC | apply zB | apply zD | refine zF ?_ GE101.out | refine zF ?_ GE114.out) | exact HB.out)⟩⟩
   case round =>
    clear H'
    try clear c1
    try clear p2
    try clear c4
    try clear c8
    try clear c9
    try clear c15
    try clear c15b0
    try clear c16
    try clear hcz10_0
    try clear hcz10_1
    try clear hcz10_2
    try clear hcz17_0
    try clear hcz17_1
    try clear hcz17_2
    try clear hcz5_0
    try clear hfz10_0
    try clear hfz10_1
    try clear hfz10_2
    try clear hfz17_0
    try clear hfz17_1
    try clear hfz17_2
    try clear hfz5_0
    try clear p2
    obtain ⟨x7_2, x9_2, rfl, HA, HK2, HO_7, HO_115000, HO_115001, HO_115002, BK101, BK114, HB⟩ := hrel
    cases gk with
    | zero => exact absurd HA.out (by simp [zl.l1])
    | succ k2 =>
     have H := HA.out
     clear HA
     simp only [zl.l1] at H
     by_cases c18 : x9_2 < 4
     rotate_left
     next =>
      rw [if_neg c18] at H
      have c18b0 : decide (x9_2 < 4) = false := yhy c18
      clear c18
      have H' := zA.mk H
      clear H
      go_wp2
      go_roundg k2
      case measure => have := HK1.out; have := HK2.out; omega
      case rel => exact ⟨(x7_2), (wrap64 (x8_1 + 1)), (by first | rfl | (simp; done) | (simp [*]; done)), H', ⟨by have := HK1.out; have := HK2.out; omega⟩, ⟨by (with_reducible repeat (first | apply Kd.ze | apply Kd.zf | apply Kd.zo)); exact HO_7.out⟩, ⟨by (with_reducible repeat (first | apply Kd.ze | apply Kd.zf | apply Kd.zo)); exact HO_115000.out⟩, ⟨by (with_reducible repeat (first | apply Kd.ze | apply Kd.zf | apply Kd.zo)); exact HO_115001.out⟩, ⟨by (with_reducible repeat (first | apply Kd.ze | apply Kd.zf | apply Kd.zo)); exact HO_115002.out⟩, ⟨by (with_reducible repeat (first | refine zH ?_ _ | refine zJ ?_ | refine zG ?_ _)); exact BK101.out⟩, ⟨by (with_reducible repeat (first | refine zH ?_ _ | refine zJ ?_ | refine zG ?_ _)); exact BK114.out⟩, ⟨by repeat (first | (with_reducible first | exact HB.out | apply zC | apply zB | apply zD | refine zF ?_ GE101.out | refine zF ?_ GE114.out) | exact HB.out)⟩⟩
     rw [if_pos c18] at H
     have c18b0 : decide (x9_2 < 4) = true := ygy c18
     clear c18
     by_cases c19 : 0 ≤ x8_1
     rotate_left
     next =>
      rw [if_neg c19] at H
      exact absurd H (by simp)
     rw [if_pos c19] at H
     have c19b0 : decide (0 ≤ x8_1) = true := ygy c19
     clear c19
     by_cases c20 : x8_1 < (t102.length : Int)
     rotate_left
     next =>
      rw [if_neg c20] at H
      exact absurd H (by simp)
     rw [if_pos c20] at H
     have c20b0 : decide (x8_1 < (t102.length : Int)) = true := ygy c20
     clear c20
     by_cases c21 : 0 ≤ x9_2
     rotate_left
     next =>
      rw [if_neg c21] at H
      exact absurd H (by simp)
     rw [if_pos c21] at H
     have c21b0 : decide (0 ≤ x9_2) = true := ygy c21
     clear c21
     by_cases c22 : x9_2 < ((qj t102 x8_1).length : Int)
     rotate_left
     next =>
      rw [if_neg c22] at H
      exact absurd H (by simp)
     rw [if_pos c22] at H
     have c22b0 : decide (x9_2 < ((qj t102 x8_1).length : Int)) = true := ygy c22
     clear c22
     by_cases c23 : (rd (qj t102 x8_1) x9_2) = a1
     rotate_left
     next =>
      rw [if_neg c23] at H
      have c23b0 : ((rd (qj t102 x8_1) x9_2) == a1) = false := beq_eq_false_iff_ne.mpr c23
      have c23b1 : ((rd (qj t102 x8_1) x9_2) != a1) = true := bne_iff_ne.mpr c23
      have H' := zA.mk H
      clear H
      have hnb31 := NB114_101.out
      have hnc31 := NB101_114.out
      have hcz32_0 : wr.cell? ⟨gb114, 0, none⟩ = some (.slice Ao8 t102.length co8) := (zK BK114.out 0).trans rfl
      have hcz32_1 : wr.cell? ⟨gb114, 1, none⟩ = some (.slice Ao11 t105.length co11) := (zK BK114.out 1).trans rfl
      have hcz32_2 : wr.cell? ⟨gb114, 2, none⟩ = some (.slice Ao12 t108.length co12) := (zK BK114.out 2).trans rfl
      have hfz32_0 := zN BK114.out 0
      have hfz32_1 := zN BK114.out 1
      have hfz32_2 := zN BK114.out 2
      have p118 : 0 ≤ (x8_1 : Int) := of_decide_eq_true (by first | (with_reducible assumption) | assumption)
      have q118 : x8_1 < (t102.length : Int) := of_decide_eq_true (by first | (with_reducible assumption) | assumption)
      obtain ⟨ad118, A118_0, c118_0, e118, hx118_0, hl118_0, hi118_0⟩ := zBr (Kd.qx HO_115000.out).2.2 x8_1 p118 q118
      cases e118
      obtain ⟨ce118, hce118, hMe118, hcc118⟩ := Kd.S_get HO_115000.out [] x8_1 p118 (by first | exact q118 | exact of_decide_eq_true (by first | (with_reducible assumption) | assumption) | (have e_ := (Kd.qx HO_115000.out).1; omega))
      obtain ⟨ve118_0, rfl, ge118_0⟩ := hMe118
      have hv118_0 := hcc118 0 _ rfl
      rw [Nat.add_zero, show ((Kd.slice 2 (Kd.int .i64))).sz = 1 from rfl, Nat.mul_one] at hv118_0
      replace hv118_0 := yey (hv118_0.symm.trans hx118_0)
      rw [hv118_0] at ge118_0
      have HL118_0 := zA.mk (show Kd.R (Kd.int .i64) 2 _ _ _ _ (qj t102 x8_1) from ge118_0)
      clear hv118_0 ge118_0
      clear hcc118 hce118
      have HR118_0 := zA.mk hi118_0
      have HC118_0 := zA.mk hl118_0
      clear hi118_0 hl118_0
      replace p118 := eq_true p118
      replace q118 := eq_true q118
      have p119 : 0 ≤ (x9_2 : Int) := of_decide_eq_true (by first | (with_reducible assumption) | assumption)
      have q119 : x9_2 < ((qj t102 x8_1).length : Int) := of_decide_eq_true (by first | (with_reducible assumption) | assumption)
      obtain ⟨ad119, e119, hx119_0⟩ := Kd.ZK (by repeat (first | (with_reducible exact HR118_0.out) | (with_reducible refine Kd.zu ?_ _) | (with_reducible refine Kd.zw ?_ _) | (with_reducible refine Kd.qK ?_) | exact HR118_0.out)) x9_2 p119 q119
      cases e119
      replace p119 := eq_true p119
      replace q119 := eq_true q119
      go_wp2
      go_roundg k2
      case measure => have := HK1.out; have := HK2.out; omega
      case rel => exact ⟨(x7_2), (wrap64 (x9_2 + 1)), (by first | rfl | (simp; done) | (simp [*]; done)), H', ⟨by have := HK1.out; have := HK2.out; omega⟩, ⟨by (with_reducible repeat (first | apply Kd.ze | apply Kd.zf | apply Kd.zo)); exact HO_7.out⟩, ⟨by (with_reducible repeat (first | apply Kd.ze | apply Kd.zf | apply Kd.zo)); exact HO_115000.out⟩, ⟨by (with_reducible repeat (first | apply Kd.ze | apply Kd.zf | apply Kd.zo)); exact HO_115001.out⟩, ⟨by (with_reducible repeat (first | apply Kd.ze | apply Kd.zf | apply Kd.zo)); exact HO_115002.out⟩, ⟨by (with_reducible repeat (first | refine zH ?_ _ | refine zJ ?_ | refine zG ?_ _)); exact BK101.out⟩, ⟨by (with_reducible repeat (first | refine zH ?_ _ | refine zJ ?_ | refine zG ?_ _)); exact BK114.out⟩, ⟨by repeat (first | (with_reducible first | exact HB.out | apply zC | apply zB | apply zD | refine zF ?_ GE101.out | refine zF ?_ GE114.out) | exact HB.out)⟩⟩
     rw [if_pos c23] at H
     have c23b0 : ((rd (qj t102 x8_1) x9_2) == a1) = true := beq_iff_eq.mpr c23
     have c23b1 : ((rd (qj t102 x8_1) x9_2) != a1) = false := bne_eq_false_iff_eq.mpr c23
     clear c23
     obtain ⟨y120, hy120⟩ : ∃ y_ : List Int, y_ = (([x8_1, x9_2] : List Int)) := ⟨_, rfl⟩
     replace H : (if x7_2.length < 5864062014805 then (zl.l1 k2 a1 (x7_2 ++ [y120]) x8_1 (wrap64 (x9_2 + 1)) t102 t105 t108) else (none)) = some r := by first | (rw [hy120]; with_reducible exact H) | (have H2_ := (yfy _ _).symm.trans H; rw [hy120]; with_reducible exact H2_) | (have H2_ := (yfy _ _).symm.trans H; with_reducible exact H2_) | with_reducible exact H | (rw [hy120]; exact H) | exact H
     have Ny120 := zA.mk hy120
     clear hy120
     by_cases c24 : x7_2.length < 5864062014805
     rotate_left
     next =>
      rw [if_neg c24] at H
      exact absurd H (by simp)
     rw [if_pos c24] at H
     have LMc24 := zA.mk c24
     clear c24
     obtain ⟨y123, hy123⟩ : ∃ y_ : List (List Int), y_ = (x7_2 ++ [y120]) := ⟨_, rfl⟩
     replace H : (zl.l1 k2 a1 y123 x8_1 (wrap64 (x9_2 + 1)) t102 t105 t108) = some r := by first | (rw [hy123]; with_reducible exact H) | (have H2_ := (yfy _ _).symm.trans H; rw [hy123]; with_reducible exact H2_) | (have H2_ := (yfy _ _).symm.trans H; with_reducible exact H2_) | with_reducible exact H | (rw [hy123]; exact H) | exact H
     have Ny123 := zA.mk hy123
     clear hy123
     have H' := zA.mk H
     clear H
     have hnb25 := NB114_101.out
     have hnc25 := NB101_114.out
     have hcz26_0 : wr.cell? ⟨gb114, 0, none⟩ = some (.slice Ao8 t102.length co8) := (zK BK114.out 0).trans rfl
     have hcz26_1 : wr.cell? ⟨gb114, 1, none⟩ = some (.slice Ao11 t105.length co11) := (zK BK114.out 1).trans rfl
     have hcz26_2 : wr.cell? ⟨gb114, 2, none⟩ = some (.slice Ao12 t108.length co12) := (zK BK114.out 2).trans rfl
     have hfz26_0 := zN BK114.out 0
     have hfz26_1 := zN BK114.out 1
     have hfz26_2 := zN BK114.out 2
     have p118 : 0 ≤ (x8_1 : Int) := of_decide_eq_true (by first | (with_reducible assumption) | assumption)
     have q118 : x8_1 < (t102.length : Int) := of_decide_eq_true (by first | (with_reducible assumption) | assumption)
     obtain ⟨ad118, A118_0, c118_0, e118, hx118_0, hl118_0, hi118_0⟩ := zBr (Kd.qx HO_115000.out).2.2 x8_1 p118 q118
     cases e118
     obtain ⟨ce118, hce118, hMe118, hcc118⟩ := Kd.S_get HO_115000.out [] x8_1 p118 (by first | exact q118 | exact of_decide_eq_true (by first | (with_reducible assumption) | assumption) | (have e_ := (Kd.qx HO_115000.out).1; omega))
     obtain ⟨ve118_0, rfl, ge118_0⟩ := hMe118
     have hv118_0 := hcc118 0 _ rfl
     rw [Nat.add_zero, show ((Kd.slice 2 (Kd.int .i64))).sz = 1 from rfl, Nat.mul_one] at hv118_0
     replace hv118_0 := yey (hv118_0.symm.trans hx118_0)
     rw [hv118_0] at ge118_0
     have HL118_0 := zA.mk (show Kd.R (Kd.int .i64) 2 _ _ _ _ (qj t102 x8_1) from ge118_0)
     clear hv118_0 ge118_0
     clear hcc118 hce118
     have HR118_0 := zA.mk hi118_0
     have HC118_0 := zA.mk hl118_0
     clear hi118_0 hl118_0
     replace p118 := eq_true p118
     replace q118 := eq_true q118
     have p119 : 0 ≤ (x9_2 : Int) := of_decide_eq_true (by first | (with_reducible assumption) | assumption)
     have q119 : x9_2 < ((qj t102 x8_1).length : Int) := of_decide_eq_true (by first | (with_reducible assumption) | assumption)
     obtain ⟨ad119, e119, hx119_0⟩ := Kd.ZK (by repeat (first | (with_reducible exact HR118_0.out) | (with_reducible refine Kd.zu ?_ _) | (with_reducible refine Kd.zw ?_ _) | (with_reducible refine Kd.qK ?_) | exact HR118_0.out)) x9_2 p119 q119
     cases e119
     replace p119 := eq_true p119
     replace q119 := eq_true q119
     go_wp2_with (first | ((with_reducible refine zq (N := 40) rfl ?_); refine Kd.zAu (Kd.int .i64) _ 2 ?hg (N := 40) ?hd (xs := ([x8_1, x9_2] : List Int)) (inner := [.int .i64 x8_1, .int .i64 x9_2]) (ok := fun _ => True) (okp := fun _ => True) ?hr ?hp (fun _ hk => hk) trivial (yry _ _) (yqy _) (by simp) ?_; (case hd => rfl); (case hg => rfl); (case hr => first | (go_simp; done) | (go_simp; rfl)); (case hp => exact (Zu.one (show Kd.M (Kd.int .i64) _ _ _ x8_1 [.int .i64 x8_1] from rfl) (Zu.one (show Kd.M (Kd.int .i64) _ _ _ x9_2 [.int .i64 x9_2] from rfl) (Zu.none _ _)))); intro v121 w27 ho28 hb hg_ hnew_; clear hg_ hnew_; (first | rw [← Ny120.out] at ho28 | (simp only [Int.reduceToNat] at ho28; rw [← Ny120.out] at ho28)); have n0_ := zA.mk (Kd.ZZ (by (with_reducible repeat (first | apply Kd.ze | apply Kd.zf | apply Kd.zo)); exact HO_7.out) (Kd.Zh ho28) hb); have n1_ := zA.mk (Kd.ZZ (by (with_reducible repeat (first | apply Kd.ze | apply Kd.zf | apply Kd.zo)); exact HO_115000.out) (Kd.Zh ho28) hb); have n2_ := zA.mk (Kd.ZZ (by (with_reducible repeat (first | apply Kd.ze | apply Kd.zf | apply Kd.zo)); exact HO_115001.out) (Kd.Zh ho28) hb); have n3_ := zA.mk (Kd.ZZ (by (with_reducible repeat (first | apply Kd.ze | apply Kd.zf | apply Kd.zo)); exact HO_115002.out) (Kd.Zh ho28) hb); have n4_ := zA.mk (Kd.ZY (by (with_reducible repeat (first | apply Kd.zR | apply Kd.zS | apply Kd.zW)); exact HL118_0.out) (Kd.Zh ho28) hb); have n5_ := zA.mk (Kd.ZB (Kd.Qs ho28 (Kd.JC (by (with_reducible repeat (first | apply Kd.zR | apply Kd.zS | apply Kd.zW)); exact HL118_0.out))) (zO (by repeat (first | (with_reducible first | exact HB.out | apply zC | apply zB | apply zD | refine zF ?_ GE101.out | refine zF ?_ GE114.out) | exact HB.out)))); have n6_ := zA.mk (zP (g := gb101) (o := .cells #[.slice A0_0 l0_0.length c0_0] 35 (0, 0)) (by (with_reducible repeat (first | refine zH ?_ _ | refine zJ ?_ | refine zG ?_ _)); exact BK101.out) hb); have n7_ := zA.mk (zP (g := gb114) (o := .cells #[.slice (some ad118) t102.length co8, .slice Ao11 t105.length co11, .slice Ao12 t108.length co12] 88 (0, 0)) (by (with_reducible repeat (first | refine zH ?_ _ | refine zJ ?_ | refine zG ?_ _)); exact BK114.out) hb); have n8_ := zA.mk (Kd.qG (by repeat (first | (with_reducible exact HR118_0.out) | (with_reducible refine Kd.zu ?_ _) | (with_reducible refine Kd.zw ?_ _) | (with_reducible refine Kd.qK ?_) | exact HR118_0.out)) hb); have n9_ := zA.mk (zM (by repeat (first | (with_reducible first | exact HB.out | apply zC | apply zB | apply zD | refine zF ?_ GE101.out | refine zF ?_ GE114.out) | exact HB.out)) hb); clear HO_7; clear HO_115000; clear HO_115001; clear HO_115002; clear HL118_0; clear BK101; clear BK114; clear HR118_0; clear HB; have HO_7 := n0_; have HO_115000 := n1_; have HO_115001 := n2_; have HO_115002 := n3_; have HL118_0 := n4_; have HO122 := n5_; have BK101 := n6_; have BK114 := n7_; have HR118_0 := n8_; have HB := n9_; clear n0_ n1_ n2_ n3_ n4_ n5_ n6_ n7_ n8_ n9_; clear hb ho28; obtain ⟨Ao30, co30, eo30⟩ := Kd.ZH HO122.out; subst eo30) | ((with_reducible refine ZS (b := .append) (xs := #[.tmp 37, .tmp 41]) rfl ?_); at_builtin; refine Kd.zDQ (Kd.slice 2 (Kd.int .i64)) (w0 := w) w.heap.size rfl (.tmp 37) (.tmp 41) 30 22 (.slice none 0 0) 24 rfl Try.underlying30 zEd rfl (by decide) (by omega) u7 x7_2 y120 [.slice Ao30 y120.length co30] (fun k_ => some k_ ≠ (.slice (some ad118) t102.length co8 : Value).ownBlock ∧ some k_ ≠ (.slice Ao11 t105.length co11 : Value).ownBlock ∧ some k_ ≠ (.slice Ao12 t108.length co12 : Value).ownBlock) (fun k_ => some k_ = (.slice Ao30 y120.length co30 : Value).ownBlock) rfl rfl ?aP (fun k_ hk_ => ((Kd.zv (ok' := fun k_ => ((fun k_ => some k_ ≠ (.slice (some ad118) t102.length co8 : Value).ownBlock ∧ some k_ ≠ (.slice Ao11 t105.length co11 : Value).ownBlock ∧ some k_ ≠ (.slice Ao12 t108.length co12 : Value).ownBlock)) k_ ∧ some k_ ≠ (u7 : Value).ownBlock) (Kd.QO (Kd.QO (Kd.QO (Kd.QO (HO122.out) (Kd.Qa HO_115000.out) (by decide)) (Kd.Qa HO_115001.out) (by decide)) (Kd.Qa HO_115002.out) (by decide)) (Kd.Qa HO_7.out) (by decide)) (fun k_ hk => ⟨⟨hk.1.1.1.2, ⟨hk.1.1.2, hk.1.2⟩⟩, hk.2⟩))).1 k_ hk_.symm) ?aF ?aO ?aB ?aS ?aL ?_; (case aP => exact Kd.zGA (Kd.zv (Kd.Qu rfl (Kd.zv (ok' := fun k_ => ((fun k_ => some k_ ≠ (.slice (some ad118) t102.length co8 : Value).ownBlock ∧ some k_ ≠ (.slice Ao11 t105.length co11 : Value).ownBlock ∧ some k_ ≠ (.slice Ao12 t108.length co12 : Value).ownBlock)) k_ ∧ some k_ ≠ (u7 : Value).ownBlock) (Kd.QO (Kd.QO (Kd.QO (Kd.QO (HO122.out) (Kd.Qa HO_115000.out) (by decide)) (Kd.Qa HO_115001.out) (by decide)) (Kd.Qa HO_115002.out) (by decide)) (Kd.Qa HO_7.out) (by decide)) (fun k_ hk => ⟨⟨hk.1.1.1.2, ⟨hk.1.1.2, hk.1.2⟩⟩, hk.2⟩))) (fun _ h_ => h_))); (case aB => exact (by repeat (first | (with_reducible first | exact HB.out | apply zC | apply zB | apply zD | refine zF ?_ GE101.out | refine zF ?_ GE114.out) | exact HB.out))); (case aF => exact (fun k_ hk => ⟨Kd.Qt (Kd.zCr (by (with_reducible repeat (first | apply Kd.ze | apply Kd.zf | apply Kd.zo)); exact HO_115000.out)) k_ hk, Kd.Qt (Kd.zCr (by (with_reducible repeat (first | apply Kd.ze | apply Kd.zf | apply Kd.zo)); exact HO_115001.out)) k_ hk, Kd.Qt (Kd.zCr (by (with_reducible repeat (first | apply Kd.ze | apply Kd.zf | apply Kd.zo)); exact HO_115002.out)) k_ hk⟩)); (case aO => exact (by (with_reducible repeat (first | apply Kd.ze | apply Kd.zf | apply Kd.zo)); exact Kd.qq HO_7.out (fun k_ hk => ⟨⟨hk.1.1, ⟨hk.1.2.1, hk.1.2.2⟩⟩, fun e_ => hk.2 e_⟩))); (case aS => exact (zO (by repeat (first | (with_reducible first | exact HB.out | apply zC | apply zB | apply zD | refine zF ?_ GE101.out | refine zF ?_ GE114.out) | exact HB.out)))); (case aL => have := LMc24.out; omega); intro v124 w29 ho hb hg hat; rw [← Ny123.out] at ho; have n0_ := zA.mk (Kd.Qv (ok := (fun k_ => some k_ ≠ (.slice Ao11 t105.length co11 : Value).ownBlock ∧ some k_ ≠ (.slice Ao12 t108.length co12 : Value).ownBlock ∧ some k_ ≠ (.slice Ao30 y120.length co30 : Value).ownBlock)) (by (with_reducible repeat (first | apply Kd.ze | apply Kd.zf | apply Kd.zo)); exact Kd.qq HO_115000.out (fun _ hk => ⟨⟨hk.1.2.1, ⟨hk.1.2.2, hk.2⟩⟩, hk.1.1⟩)) hg hat); have n1_ := zA.mk (Kd.Qv (ok := (fun k_ => some k_ ≠ (.slice (some ad118) t102.length co8 : Value).ownBlock ∧ some k_ ≠ (.slice Ao12 t108.length co12 : Value).ownBlock ∧ some k_ ≠ (.slice Ao30 y120.length co30 : Value).ownBlock)) (by (with_reducible repeat (first | apply Kd.ze | apply Kd.zf | apply Kd.zo)); exact Kd.qq HO_115001.out (fun _ hk => ⟨⟨hk.1.2.1, ⟨hk.1.2.2, hk.2⟩⟩, hk.1.1⟩)) hg hat); have n2_ := zA.mk (Kd.Qv (ok := (fun k_ => some k_ ≠ (.slice (some ad118) t102.length co8 : Value).ownBlock ∧ some k_ ≠ (.slice Ao11 t105.length co11 : Value).ownBlock ∧ some k_ ≠ (.slice Ao30 y120.length co30 : Value).ownBlock)) (by (with_reducible repeat (first | apply Kd.ze | apply Kd.zf | apply Kd.zo)); exact Kd.qq HO_115002.out (fun _ hk => ⟨⟨hk.1.2.1, ⟨hk.1.2.2, hk.2⟩⟩, hk.1.1⟩)) hg hat); have n3_ := zA.mk (qa (g := gb101) (o := .cells #[.slice A0_0 l0_0.length c0_0] 35 (0, 0)) (by (with_reducible repeat (first | refine zH ?_ _ | refine zJ ?_ | refine zG ?_ _)); exact BK101.out) hg (Kd.S_ne HO_7.out BK101.out (by decide))); have n4_ := zA.mk (qa (g := gb114) (o := .cells #[.slice (some ad118) t102.length co8, .slice Ao11 t105.length co11, .slice Ao12 t108.length co12] 88 (0, 0)) (by (with_reducible repeat (first | refine zH ?_ _ | refine zJ ?_ | refine zG ?_ _)); exact BK114.out) hg (Kd.S_ne HO_7.out BK114.out (by decide))); have n5_ := zA.mk (Kd.qy (ok := (fun k_ => some k_ ≠ (.slice (some ad118) t102.length co8 : Value).ownBlock ∧ some k_ ≠ (.slice Ao11 t105.length co11 : Value).ownBlock ∧ some k_ ≠ (.slice Ao12 t108.length co12 : Value).ownBlock ∧ some k_ ≠ (.slice Ao30 y120.length co30 : Value).ownBlock)) (by (with_reducible repeat (first | apply Kd.zR | apply Kd.zS | apply Kd.zW)); exact Kd.zv HL118_0.out (fun _ hk => ⟨⟨hk.1.2, ⟨hk.1.1.2.1, ⟨hk.1.1.2.2, hk.2⟩⟩⟩, hk.1.1.1⟩)) hg hat); have n6_ := zA.mk (hb); have n7_ := zA.mk (ho); clear HO_115000; clear HO_115001; clear HO_115002; clear BK101; clear BK114; clear HL118_0; clear HB; clear HO_7; clear HO122; have HO_115000 := n0_; have HO_115001 := n1_; have HO_115002 := n2_; have BK101 := n3_; have BK114 := n4_; have HL118_0 := n5_; have HB := n6_; have HO125 := n7_; clear n0_ n1_ n2_ n3_ n4_ n5_ n6_ n7_; clear ho hb hg hat))
     go_roundg k2
     case measure => have := HK1.out; have := HK2.out; omega
     case rel => exact ⟨(y123), (wrap64 (x9_2 + 1)), (by first | rfl | (simp; done) | (simp [*]; done)), H', ⟨by have := HK1.out; have := HK2.out; omega⟩, ⟨by (with_reducible repeat (first | apply Kd.ze | apply Kd.zf | apply Kd.zo)); exact HO125.out⟩, ⟨by (with_reducible repeat (first | apply Kd.ze | apply Kd.zf | apply Kd.zo)); exact Kd.qq HO_115000.out (fun _ hk => ⟨hk.2, ⟨hk.1.1, hk.1.2.1⟩⟩)⟩, ⟨by (with_reducible repeat (first | apply Kd.ze | apply Kd.zf | apply Kd.zo)); exact Kd.qq HO_115001.out (fun _ hk => ⟨hk.2, ⟨hk.1.1, hk.1.2.1⟩⟩)⟩, ⟨by (with_reducible repeat (first | apply Kd.ze | apply Kd.zf | apply Kd.zo)); exact Kd.qq HO_115002.out (fun _ hk => ⟨hk.2, ⟨hk.1.1, hk.1.2.1⟩⟩)⟩, ⟨by (with_reducible repeat (first | refine zH ?_ _ | refine zJ ?_ | refine zG ?_ _)); exact BK101.out⟩, ⟨by (with_reducible repeat (first | refine zH ?_ _ | refine zJ ?_ | refine zG ?_ _)); exact BK114.out⟩, ⟨by repeat (first | (with_reducible first | exact HB.out | apply zC | apply zB | apply zD | refine zF ?_ GE101.out | refine zF ?_ GE114.out) | exact HB.out)⟩⟩
def ZW.f (k : Nat) (l0_0 : List (List (qA))) (a1 : Int) : Option ((List (List Int)) × Int) := (zL.f k l0_0).bind fun t102 => (if t102 = true then ((zl.f k l0_0 a1).bind fun t103 => (if (t103.length : Int) = 0 then (some (([] : List (List Int)), 2)) else (some (t103, 0)))) else (some (([] : List (List Int)), 1)))
set_option maxHeartbeats 8000000 in
set_option maxRecDepth 100000 in
theorem ZW.calls (k : Nat) (A0_0 : Option Addr) (c0_0 : Nat) (l0_0 : List (List (qA))) (a1 : Int) (r1 : List (List Int)) (r2 : Int) (w : World) (hr0_0 : Kd.C (Kd.slice 75 ZT) w A0_0 l0_0.length l0_0) (hc0_0 : l0_0.length ≤ c0_0) (h : ZW.f k l0_0 a1 = some (r1, r2)) :
    Calls Try.prog 17 #[.agg #[.slice A0_0 l0_0.length c0_0], .int .i64 a1] w fun e w' => ∃ v0_ : Value, e = .returned (.tuple #[v0_, .int .i64 r2]) ∧ Kd.S (Kd.slice 2 (Kd.int .i64)) 22 w' w.heap.size (fun _ => True) v0_ r1 ∧ Below w.heap.size w w' := by
  have hu35 := Try.underlying35
  have HR0_0 := zA.mk hr0_0
  have HC0_0 := zA.mk hc0_0
  clear hr0_0 hc0_0
  have HB := zA.mk (yry w.heap.size w)
  have H : ((zL.f k l0_0).bind fun t102 => (if t102 = true then ((zl.f k l0_0 a1).bind fun t103 => (if (t103.length : Int) = 0 then (some (([] : List (List Int)), 2)) else (some (t103, 0)))) else (some (([] : List (List Int)), 1)))) = some (r1, r2) := h
  clear h
  replace H := ydy.mp H
  obtain ⟨t102, A30, H⟩ := H
  replace H : (if t102 = true then ((zl.f k l0_0 a1).bind fun t103 => (if (t103.length : Int) = 0 then (some (([] : List (List Int)), 2)) else (some (t103, 0)))) else (some (([] : List (List Int)), 1))) = some (r1, r2) := H
  have A3 := zA.mk A30
  clear A30
  by_cases c4 : t102 = true
  · subst c4
    have H1 : ((zl.f k l0_0 a1).bind fun t103 => (if (t103.length : Int) = 0 then (some (([] : List (List Int)), 2)) else (some (t103, 0)))) = some (r1, r2) := by rw [if_pos rfl] at H; exact H
    clear H
    have H := H1
    clear H1
    replace H := ydy.mp H
    obtain ⟨t103, A50, H⟩ := H
    replace H : (if (t103.length : Int) = 0 then (some (([] : List (List Int)), 2)) else (some (t103, 0))) = some (r1, r2) := H
    have A5 := zA.mk A50
    clear A50
    by_cases c6 : (t103.length : Int) = 0
    · rw [if_pos c6] at H
      have c6b0 : ((t103.length : Int) == 0) = true := beq_iff_eq.mpr c6
      have c6b1 : ((t103.length : Int) != 0) = false := bne_eq_false_iff_eq.mpr c6
      clear c6
      simp only [Option.some.injEq, Prod.mk.injEq] at H
      obtain ⟨rfl, rfl⟩ := H
      go_enter Try.func17, Try.ntmps17
      go_wp2_with (first | ((with_reducible refine zq (N := 2) rfl ?_); refine zt ?hg (N := 2) ?hd (cs := #[.slice A0_0 l0_0.length c0_0]) (t := 35) ?hr ?_; (case hd => rfl); (case hg => rfl); (case hr => first | (go_simp; done) | (go_simp; rfl)); intro gb101 hg w7 hbox hb; have n0_ := zA.mk (zM (by repeat (first | (with_reducible first | exact HB.out | apply zC | apply zB | apply zD) | exact HB.out)) hb); have n1_ := zA.mk (hbox); have n2_ := zA.mk ((by rw [hg]; exact (zO (by repeat (first | (with_reducible first | exact HB.out | apply zC | apply zB | apply zD) | exact HB.out))) : w.heap.size ≤ gb101)); have n3_ := zA.mk ((by rw [hg]; exact (zO (by repeat (first | (with_reducible first | exact HB.out | apply zC | apply zB | apply zD) | exact HB.out))) : w.heap.size ≤ gb101)); clear HB; have HB := n0_; have BK101 := n1_; have GW101 := n2_; have GE101 := n3_; clear n0_ n1_ n2_ n3_; clear hb hbox hg; have hcz8_0 : w7.cell? ⟨gb101, 0, none⟩ = some (.slice A0_0 l0_0.length c0_0) := (zK BK101.out 0).trans rfl; have hfz8_0 := zN BK101.out 0) | ((with_reducible refine za (f := 47) rfl ?_); refine qL (some 8) rfl rfl Try.func47 (by kernel_rfl) rfl #[.agg #[.slice A0_0 l0_0.length c0_0]] rfl (by (try simp only [yiy, yjy, yky]); first | done | rfl | (simp only [yly, ymy]; rfl)) ?_; (with_reducible refine (zL.calls k _ _ l0_0 true _ ?side1 ?side2 A3.out).mono ?_); (case side1 => repeat (first | exact (Kd.qG HR0_0.out HB.out) | (with_reducible refine Kd.zu ?_ _) | (with_reducible refine Kd.zw ?_ _) | (with_reducible refine Kd.qK ?_))); (case side2 => exact HC0_0.out); rintro e w9 ⟨rfl, hb⟩; refine ⟨_, rfl, ?_⟩; have n0_ := zA.mk (zP (g := gb101) (o := .cells #[.slice A0_0 l0_0.length c0_0] 35 (0, 0)) (by (with_reducible repeat (first | refine zH ?_ _ | refine zJ ?_ | refine zG ?_ _)); exact BK101.out) hb); have n1_ := zA.mk (zM (by repeat (first | (with_reducible first | exact HB.out | apply zC | apply zB | apply zD | refine zF ?_ GE101.out) | exact HB.out)) hb); clear BK101; clear HB; have BK101 := n0_; have HB := n1_; clear n0_ n1_; (try clear hb); (try clear hb2); (try clear hk); (try clear hi); have hcz10_0 : w9.cell? ⟨gb101, 0, none⟩ = some (.slice A0_0 l0_0.length c0_0) := (zK BK101.out 0).trans rfl; have hfz10_0 := zN BK101.out 0) | ((with_reducible refine za (f := 48) rfl ?_); refine qL (some 12) rfl rfl Try.func48 (by kernel_rfl) rfl #[.agg #[.slice A0_0 l0_0.length c0_0], .int .i64 a1] rfl (by (try simp only [yiy, yjy, yky]); first | done | rfl | (simp only [yly, ymy]; rfl)) ?_; (with_reducible refine (zl.calls k _ _ l0_0 a1 t103 _ ?side1 ?side2 A5.out).mono ?_); (case side1 => repeat (first | exact (Kd.qG HR0_0.out HB.out) | (with_reducible refine Kd.zu ?_ _) | (with_reducible refine Kd.zw ?_ _) | (with_reducible refine Kd.qK ?_))); (case side2 => exact HC0_0.out); rintro e w11 ⟨v104, rfl, ho0, hb⟩; refine ⟨_, rfl, ?_⟩; have n0_ := zA.mk (Kd.Zg ho0 (zO (by repeat (first | (with_reducible first | exact HB.out | apply zC | apply zB | apply zD | refine zF ?_ GE101.out) | exact HB.out)))); have n1_ := zA.mk (zP (g := gb101) (o := .cells #[.slice A0_0 l0_0.length c0_0] 35 (0, 0)) (by (with_reducible repeat (first | refine zH ?_ _ | refine zJ ?_ | refine zG ?_ _)); exact BK101.out) hb); have n2_ := zA.mk (zM (by repeat (first | (with_reducible first | exact HB.out | apply zC | apply zB | apply zD | refine zF ?_ GE101.out) | exact HB.out)) hb); clear BK101; clear HB; have HO105 := n0_; have BK101 := n1_; have HB := n2_; clear n0_ n1_ n2_; (try clear hb); (try clear hb2); (try clear hk); (try clear hi); (try clear ho0); obtain ⟨Ao12, co12, eo12⟩ := Kd.Zz HO105.out; subst eo12))
      go_ret2
      exact ⟨_, by first | rfl | (simp [zX, zY] <;> rfl) | (simp [*, zX, zY] <;> rfl), by first | exact Kd.zGG _ _ _ _ _ | exact Kd.zGK _ _ _ _ _ | exact Kd.zGM _ _ _ _ _ | exact Kd.zGB _ _ _ _ _ | exact Kd.zCL _ _ _ _ _, by repeat (first | (with_reducible first | exact HB.out | apply zC | apply zB | apply zD | refine zF ?_ GE101.out) | exact HB.out)⟩
    · rw [if_neg c6] at H
      have c6b0 : ((t103.length : Int) == 0) = false := beq_eq_false_iff_ne.mpr c6
      have c6b1 : ((t103.length : Int) != 0) = true := bne_iff_ne.mpr c6
      have c6b2 : ¬ (t103 = []) := fun h_ => c6 (by rw [h_]; rfl)
      simp only [Option.some.injEq, Prod.mk.injEq] at H
      obtain ⟨rfl, rfl⟩ := H
      go_enter Try.func17, Try.ntmps17
      go_wp2_with (first | ((with_reducible refine zq (N := 2) rfl ?_); refine zt ?hg (N := 2) ?hd (cs := #[.slice A0_0 l0_0.length c0_0]) (t := 35) ?hr ?_; (case hd => rfl); (case hg => rfl); (case hr => first | (go_simp; done) | (go_simp; rfl)); intro gb101 hg w13 hbox hb; have n0_ := zA.mk (zM (by repeat (first | (with_reducible first | exact HB.out | apply zC | apply zB | apply zD) | exact HB.out)) hb); have n1_ := zA.mk (hbox); have n2_ := zA.mk ((by rw [hg]; exact (zO (by repeat (first | (with_reducible first | exact HB.out | apply zC | apply zB | apply zD) | exact HB.out))) : w.heap.size ≤ gb101)); have n3_ := zA.mk ((by rw [hg]; exact (zO (by repeat (first | (with_reducible first | exact HB.out | apply zC | apply zB | apply zD) | exact HB.out))) : w.heap.size ≤ gb101)); clear HB; have HB := n0_; have BK101 := n1_; have GW101 := n2_; have GE101 := n3_; clear n0_ n1_ n2_ n3_; clear hb hbox hg; have hcz14_0 : w13.cell? ⟨gb101, 0, none⟩ = some (.slice A0_0 l0_0.length c0_0) := (zK BK101.out 0).trans rfl; have hfz14_0 := zN BK101.out 0) | ((with_reducible refine za (f := 47) rfl ?_); refine qL (some 8) rfl rfl Try.func47 (by kernel_rfl) rfl #[.agg #[.slice A0_0 l0_0.length c0_0]] rfl (by (try simp only [yiy, yjy, yky]); first | done | rfl | (simp only [yly, ymy]; rfl)) ?_; (with_reducible refine (zL.calls k _ _ l0_0 true _ ?side1 ?side2 A3.out).mono ?_); (case side1 => repeat (first | exact (Kd.qG HR0_0.out HB.out) | (with_reducible refine Kd.zu ?_ _) | (with_reducible refine Kd.zw ?_ _) | (with_reducible refine Kd.qK ?_))); (case side2 => exact HC0_0.out); rintro e w15 ⟨rfl, hb⟩; refine ⟨_, rfl, ?_⟩; have n0_ := zA.mk (zP (g := gb101) (o := .cells #[.slice A0_0 l0_0.length c0_0] 35 (0, 0)) (by (with_reducible repeat (first | refine zH ?_ _ | refine zJ ?_ | refine zG ?_ _)); exact BK101.out) hb); have n1_ := zA.mk (zM (by repeat (first | (with_reducible first | exact HB.out | apply zC | apply zB | apply zD | refine zF ?_ GE101.out) | exact HB.out)) hb); clear BK101; clear HB; have BK101 := n0_; have HB := n1_; clear n0_ n1_; (try clear hb); (try clear hb2); (try clear hk); (try clear hi); have hcz16_0 : w15.cell? ⟨gb101, 0, none⟩ = some (.slice A0_0 l0_0.length c0_0) := (zK BK101.out 0).trans rfl; have hfz16_0 := zN BK101.out 0) | ((with_reducible refine za (f := 48) rfl ?_); refine qL (some 12) rfl rfl Try.func48 (by kernel_rfl) rfl #[.agg #[.slice A0_0 l0_0.length c0_0], .int .i64 a1] rfl (by (try simp only [yiy, yjy, yky]); first | done | rfl | (simp only [yly, ymy]; rfl)) ?_; (with_reducible refine (zl.calls k _ _ l0_0 a1 t103 _ ?side1 ?side2 A5.out).mono ?_); (case side1 => repeat (first | exact (Kd.qG HR0_0.out HB.out) | (with_reducible refine Kd.zu ?_ _) | (with_reducible refine Kd.zw ?_ _) | (with_reducible refine Kd.qK ?_))); (case side2 => exact HC0_0.out); rintro e w17 ⟨v104, rfl, ho0, hb⟩; refine ⟨_, rfl, ?_⟩; have n0_ := zA.mk (Kd.Zg ho0 (zO (by repeat (first | (with_reducible first | exact HB.out | apply zC | apply zB | apply zD | refine zF ?_ GE101.out) | exact HB.out)))); have n1_ := zA.mk (zP (g := gb101) (o := .cells #[.slice A0_0 l0_0.length c0_0] 35 (0, 0)) (by (with_reducible repeat (first | refine zH ?_ _ | refine zJ ?_ | refine zG ?_ _)); exact BK101.out) hb); have n2_ := zA.mk (zM (by repeat (first | (with_reducible first | exact HB.out | apply zC | apply zB | apply zD | refine zF ?_ GE101.out) | exact HB.out)) hb); clear BK101; clear HB; have HO105 := n0_; have BK101 := n1_; have HB := n2_; clear n0_ n1_ n2_; (try clear hb); (try clear hb2); (try clear hk); (try clear hi); (try clear ho0); obtain ⟨Ao18, co18, eo18⟩ := Kd.Zz HO105.out; subst eo18))
      go_ret2
      exact ⟨_, by first | rfl | (simp [zX, zY] <;> rfl) | (simp [*, zX, zY] <;> rfl), by (with_reducible repeat (first | apply Kd.ze | apply Kd.zf | apply Kd.zo)); exact HO105.out, by repeat (first | (with_reducible first | exact HB.out | apply zC | apply zB | apply zD | refine zF ?_ GE101.out) | exact HB.out)⟩
  · replace c4 := Bool.eq_false_iff.mpr c4
    subst c4
    have H1 : (some (([] : List (List Int)), 1)) = some (r1, r2) := by rw [if_neg (show ¬ (false = true) by decide)] at H; exact H
    clear H
    have H := H1
    clear H1
    simp only [Option.some.injEq, Prod.mk.injEq] at H
    obtain ⟨rfl, rfl⟩ := H
    go_enter Try.func17, Try.ntmps17
    go_wp2_with (first | ((with_reducible refine zq (N := 2) rfl ?_); refine zt ?hg (N := 2) ?hd (cs := #[.slice A0_0 l0_0.length c0_0]) (t := 35) ?hr ?_; (case hd => rfl); (case hg => rfl); (case hr => first | (go_simp; done) | (go_simp; rfl)); intro gb101 hg w19 hbox hb; have n0_ := zA.mk (zM (by repeat (first | (with_reducible first | exact HB.out | apply zC | apply zB | apply zD) | exact HB.out)) hb); have n1_ := zA.mk (hbox); have n2_ := zA.mk ((by rw [hg]; exact (zO (by repeat (first | (with_reducible first | exact HB.out | apply zC | apply zB | apply zD) | exact HB.out))) : w.heap.size ≤ gb101)); have n3_ := zA.mk ((by rw [hg]; exact (zO (by repeat (first | (with_reducible first | exact HB.out | apply zC | apply zB | apply zD) | exact HB.out))) : w.heap.size ≤ gb101)); clear HB; have HB := n0_; have BK101 := n1_; have GW101 := n2_; have GE101 := n3_; clear n0_ n1_ n2_ n3_; clear hb hbox hg; have hcz20_0 : w19.cell? ⟨gb101, 0, none⟩ = some (.slice A0_0 l0_0.length c0_0) := (zK BK101.out 0).trans rfl; have hfz20_0 := zN BK101.out 0) | ((with_reducible refine za (f := 47) rfl ?_); refine qL (some 8) rfl rfl Try.func47 (by kernel_rfl) rfl #[.agg #[.slice A0_0 l0_0.length c0_0]] rfl (by (try simp only [yiy, yjy, yky]); first | done | rfl | (simp only [yly, ymy]; rfl)) ?_; (with_reducible refine (zL.calls k _ _ l0_0 false _ ?side1 ?side2 A3.out).mono ?_); (case side1 => repeat (first | exact (Kd.qG HR0_0.out HB.out) | (with_reducible refine Kd.zu ?_ _) | (with_reducible refine Kd.zw ?_ _) | (with_reducible refine Kd.qK ?_))); (case side2 => exact HC0_0.out); rintro e w21 ⟨rfl, hb⟩; refine ⟨_, rfl, ?_⟩; have n0_ := zA.mk (zP (g := gb101) (o := .cells #[.slice A0_0 l0_0.length c0_0] 35 (0, 0)) (by (with_reducible repeat (first | refine zH ?_ _ | refine zJ ?_ | refine zG ?_ _)); exact BK101.out) hb); have n1_ := zA.mk (zM (by repeat (first | (with_reducible first | exact HB.out | apply zC | apply zB | apply zD | refine zF ?_ GE101.out) | exact HB.out)) hb); clear BK101; clear HB; have BK101 := n0_; have HB := n1_; clear n0_ n1_; (try clear hb); (try clear hb2); (try clear hk); (try clear hi)))
    go_ret2
    exact ⟨_, by first | rfl | (simp [zX, zY] <;> rfl) | (simp [*, zX, zY] <;> rfl), by first | exact Kd.zGG _ _ _ _ _ | exact Kd.zGK _ _ _ _ _ | exact Kd.zGM _ _ _ _ _ | exact Kd.zGB _ _ _ _ _ | exact Kd.zCL _ _ _ _ _, by repeat (first | (with_reducible first | exact HB.out | apply zC | apply zB | apply zD | refine zF ?_ GE101.out) | exact HB.out)⟩
mutual
def zg.l0 : Nat → List Int → Int → Int → Option (Int)
  | 0, _, _, _ => none
  | k + 1, x3, x4, x5 => if x5 < 4 then (zg.l1 k x3 x4 x5 0) else (some x4)
def zg.l1 : Nat → List Int → Int → Int → Int → Option (Int)
  | 0, _, _, _, _ => none
  | k + 1, x3, x4, x5, x6 => if x6 < x5 then (if 0 ≤ x6 then (if x6 < (x3.length : Int) then (if 0 ≤ x5 then (if x5 < (x3.length : Int) then (if (rd x3 x6) > (rd x3 x5) then (zg.l1 k x3 (wrap64 (-x4)) x5 (wrap64 (x6 + 1))) else (zg.l1 k x3 x4 x5 (wrap64 (x6 + 1)))) else (none)) else (none)) else (none)) else (none)) else (zg.l0 k x3 x4 (wrap64 (x5 + 1)))
end
def zg.f (k : Nat) (a0 : Int) : Option (Int) := (qf.f a0).bind fun t101 => (if t101 = true then ((zT.f k a0).bind fun t102 => (zg.l0 k t102 1 0)) else (some 0))
theorem zg.JE : ∀ k, (∀ y0 y1 y2, LeO (zg.l0 k y0 y1 y2) (zg.l0 (k + 1) y0 y1 y2)) ∧ (∀ y0 y1 y2 y3, LeO (zg.l1 k y0 y1 y2 y3) (zg.l1 (k + 1) y0 y1 y2 y3))
  | 0 => ⟨fun _ _ _ r h => by simp [zg.l0] at h, fun _ _ _ _ r h => by simp [zg.l1] at h⟩
  | k + 1 => by
    obtain ⟨ih0, ih1⟩ := zg.JE k
    refine ⟨?_, ?_⟩
    · intro y0 y1 y2
      unfold zg.l0
      repeat' first
      | (with_reducible exact ih0 _ _ _)
      | (with_reducible exact ih1 _ _ _ _)
      | (with_reducible exact zT.mono _ _)
      | (with_reducible exact LeO.refl _)
      | (with_reducible exact LeO.none _)
      | (with_reducible refine LeO.ite ?_ ?_)
      | (with_reducible refine LeO.bind ?_ (fun _ => ?_))
      | exact ih0 _ _ _
      | exact ih1 _ _ _ _
      | exact zT.mono _ _
      | exact LeO.none _
      | refine LeO.ite ?_ ?_
      | refine LeO.bind ?_ (fun _ => ?_)
    · intro y0 y1 y2 y3
      unfold zg.l1
      repeat' first
      | (with_reducible exact ih0 _ _ _)
      | (with_reducible exact ih1 _ _ _ _)
      | (with_reducible exact zT.mono _ _)
      | (with_reducible exact LeO.refl _)
      | (with_reducible exact LeO.none _)
      | (with_reducible refine LeO.ite ?_ ?_)
      | (with_reducible refine LeO.bind ?_ (fun _ => ?_))
      | exact ih0 _ _ _
      | exact ih1 _ _ _ _
      | exact zT.mono _ _
      | exact LeO.none _
      | refine LeO.ite ?_ ?_
      | refine LeO.bind ?_ (fun _ => ?_)
theorem zg.mono : ∀ a0 k, LeO (zg.f k a0) (zg.f (k + 1) a0) := by
  intro a0 k
  obtain ⟨ih0, ih1⟩ := zg.JE k
  unfold zg.f
  repeat' first
      | (with_reducible exact ih0 _ _ _)
      | (with_reducible exact ih1 _ _ _ _)
      | (with_reducible exact zT.mono _ _)
      | (with_reducible exact LeO.refl _)
      | (with_reducible exact LeO.none _)
      | (with_reducible refine LeO.ite ?_ ?_)
      | (with_reducible refine LeO.bind ?_ (fun _ => ?_))
      | exact ih0 _ _ _
      | exact ih1 _ _ _ _
      | exact zT.mono _ _
      | exact LeO.none _
      | refine LeO.ite ?_ ?_
      | refine LeO.bind ?_ (fun _ => ?_)
set_option maxHeartbeats 8000000 in
set_option maxRecDepth 100000 in
theorem zg.calls (k : Nat) (a0 : Int) (r : Int) (w : World) (h : zg.f k a0 = some r) :
    Calls Try.prog 67 #[.int .i64 a0] w fun e w' => e = .returned (.int .i64 r) ∧ Below w.heap.size w w' := by
  have HB := zA.mk (yry w.heap.size w)
  have H : ((qf.f a0).bind fun t101 => (if t101 = true then ((zT.f k a0).bind fun t102 => (zg.l0 k t102 1 0)) else (some 0))) = some r := h
  clear h
  replace H := ydy.mp H
  obtain ⟨t101, A20, H⟩ := H
  replace H : (if t101 = true then ((zT.f k a0).bind fun t102 => (zg.l0 k t102 1 0)) else (some 0)) = some r := H
  have A2 := zA.mk A20
  clear A20
  by_cases c3 : t101 = true
  · subst c3
    have H1 : ((zT.f k a0).bind fun t102 => (zg.l0 k t102 1 0)) = some r := by rw [if_pos rfl] at H; exact H
    clear H
    have H := H1
    clear H1
    replace H := ydy.mp H
    obtain ⟨t102, A40, H⟩ := H
    replace H : (zg.l0 k t102 1 0) = some r := H
    have A4 := zA.mk A40
    clear A40
    have H' := zA.mk H
    clear H
    go_enter Try.func67, Try.ntmps67
    go_wp2_with (first | (go_at_call 81; (with_reducible refine (qf.calls a0 true _ A2.out).mono ?_); rintro e w' ⟨rfl, ⟨nd, rfl⟩⟩; (try first | exact ⟨rfl, _, World.drewN_drewN _ _ _⟩ | exact ⟨rfl, _, Eq.trans (World.drewN_drewN _ _ _) (congrArg (World.drewN _) (Nat.add_assoc _ _ _))⟩)) | (go_at_call 110; (with_reducible refine (zT.calls k a0 t102 _ A4.out).mono ?_); rintro e w5 ⟨v103, rfl, ho0, hb⟩; have n0_ := zA.mk (Kd.ZB ho0 (zO (by repeat (first | (with_reducible first | exact HB.out | apply zC | apply zB | apply zD) | exact HB.out)))); have n1_ := zA.mk (zM (by repeat (first | (with_reducible first | exact HB.out | apply zC | apply zB | apply zD) | exact HB.out)) hb); clear HB; have HO104 := n0_; have HB := n1_; clear n0_ n1_; (try clear hb); (try clear hb2); (try clear hk); (try clear hi); (try clear ho0)))
    repeat (go_quiet (first | (go_at_call 81; (with_reducible refine (qf.calls a0 true _ A2.out).mono ?_); rintro e w' ⟨rfl, ⟨nd, rfl⟩⟩; (try first | exact ⟨rfl, _, World.drewN_drewN _ _ _⟩ | exact ⟨rfl, _, Eq.trans (World.drewN_drewN _ _ _) (congrArg (World.drewN _) (Nat.add_assoc _ _ _))⟩)) | (go_at_call 110; (with_reducible refine (zT.calls k a0 t102 _ A4.out).mono ?_); rintro e w5 ⟨v103, rfl, ho0, hb⟩; have n0_ := zA.mk (Kd.ZB ho0 (zO (by repeat (first | (with_reducible first | exact HB.out | apply zC | apply zB | apply zD) | exact HB.out)))); have n1_ := zA.mk (zM (by repeat (first | (with_reducible first | exact HB.out | apply zC | apply zB | apply zD) | exact HB.out)) hb); clear HB; have HO104 := n0_; have HB := n1_; clear n0_ n1_; (try clear hb); (try clear hb2); (try clear hk); (try clear hi); (try clear ho0))); try go_wp2_with (first | (go_at_call 81; (with_reducible refine (qf.calls a0 true _ A2.out).mono ?_); rintro e w' ⟨rfl, ⟨nd, rfl⟩⟩; (try first | exact ⟨rfl, _, World.drewN_drewN _ _ _⟩ | exact ⟨rfl, _, Eq.trans (World.drewN_drewN _ _ _) (congrArg (World.drewN _) (Nat.add_assoc _ _ _))⟩)) | (go_at_call 110; (with_reducible refine (zT.calls k a0 t102 _ A4.out).mono ?_); rintro e w5 ⟨v103, rfl, ho0, hb⟩; have n0_ := zA.mk (Kd.ZB ho0 (zO (by repeat (first | (with_reducible first | exact HB.out | apply zC | apply zB | apply zD) | exact HB.out)))); have n1_ := zA.mk (zM (by repeat (first | (with_reducible first | exact HB.out | apply zC | apply zB | apply zD) | exact HB.out)) hb); clear HB; have HO104 := n0_; have HB := n1_; clear n0_ n1_; (try clear hb); (try clear hb2); (try clear hk); (try clear hi); (try clear ho0))))
    go_loopg [4, 5] k (fun kq v4 v5 w' => ∃ (x4_1 : Int) (x5_1 : Int), v4 = .int .i64 x4_1 ∧ v5 = .int .i64 x5_1 ∧ zA (zg.l0 kq t102 x4_1 x5_1 = some r) ∧ zA (kq ≤ k) ∧ zA (Kd.R (Kd.int .i64) 2 w' w.heap.size (fun _ => True) v103 t102) ∧ zA (Below w.heap.size w w'))
    case atStart => exact ⟨(1), (0), (by first | rfl | (simp; done) | (simp [*]; done)), (by first | rfl | (simp; done) | (simp [*]; done)), H', ⟨yqy _⟩, ⟨by (with_reducible repeat (first | apply Kd.zR | apply Kd.zS | apply Kd.zW)); exact HO104.out⟩, ⟨by repeat (first | (with_reducible first | exact HB.out | apply zC | apply zB | apply zD) | exact HB.out)⟩⟩
    case round =>
      clear H'
      try clear p2
      try clear c3
      obtain ⟨x4_1, x5_1, rfl, rfl, HA, HK1, HO_3, HB⟩ := hrel
      cases gk with
      | zero => exact absurd HA.out (by simp [zg.l0])
      | succ k1 =>
        have H := HA.out
        clear HA
        simp only [zg.l0] at H
        by_cases c6 : x5_1 < 4
        · rw [if_pos c6] at H
          have c6b0 : decide (x5_1 < 4) = true := ygy c6
          clear c6
          have H' := zA.mk H
          clear H
          go_wp2
          repeat (go_quiet (fail); try go_wp2)
          go_loopg [4, 6] k1 (fun kq v4 v6 w' => ∃ (x4_2 : Int) (x6_2 : Int), v4 = .int .i64 x4_2 ∧ v6 = .int .i64 x6_2 ∧ zA (zg.l1 kq t102 x4_2 x5_1 x6_2 = some r) ∧ zA (kq ≤ k1) ∧ zA (Kd.R (Kd.int .i64) 2 w' w.heap.size (fun _ => True) v103 t102) ∧ zA (Below w.heap.size w w'))
          case atStart => exact ⟨(x4_1), (0), (by first | rfl | (simp; done) | (simp [*]; done)), (by first | rfl | (simp; done) | (simp [*]; done)), H', ⟨yqy _⟩, ⟨by (with_reducible repeat (first | apply Kd.zR | apply Kd.zS | apply Kd.zW)); exact HO_3.out⟩, ⟨by repeat (first | (with_reducible first | exact HB.out | apply zC | apply zB | apply zD) | exact HB.out)⟩⟩
          case round =>
            clear H'
            try clear p2
            try clear c3
            try clear c6
            try clear c6b0
            try clear p2
            obtain ⟨x4_2, x6_2, rfl, rfl, HA, HK2, HO_3, HB⟩ := hrel
            cases gk with
            | zero => exact absurd HA.out (by simp [zg.l1])
            | succ k2 =>
              have H := HA.out
              clear HA
              simp only [zg.l1] at H
              by_cases c7 : x6_2 < x5_1
              · rw [if_pos c7] at H
                have c7b0 : decide (x6_2 < x5_1) = true := ygy c7
                clear c7
                by_cases c8 : 0 ≤ x6_2
                · rw [if_pos c8] at H
                  have c8b0 : decide (0 ≤ x6_2) = true := ygy c8
                  clear c8
                  by_cases c9 : x6_2 < (t102.length : Int)
                  · rw [if_pos c9] at H
                    have c9b0 : decide (x6_2 < (t102.length : Int)) = true := ygy c9
                    clear c9
                    by_cases c10 : 0 ≤ x5_1
                    · rw [if_pos c10] at H
                      have c10b0 : decide (0 ≤ x5_1) = true := ygy c10
                      clear c10
                      by_cases c11 : x5_1 < (t102.length : Int)
                      · rw [if_pos c11] at H
                        have c11b0 : decide (x5_1 < (t102.length : Int)) = true := ygy c11
                        clear c11
                        by_cases c12 : (rd t102 x6_2) > (rd t102 x5_1)
                        · rw [if_pos c12] at H
                          have c12b0 : decide ((rd t102 x5_1) < (rd t102 x6_2)) = true := ygy c12
                          clear c12
                          have H' := zA.mk H
                          clear H
                          obtain ⟨Ao13, co13, eo13⟩ := Kd.ZH HO_3.out
                          subst eo13
                          have p105 : 0 ≤ (x6_2 : Int) := of_decide_eq_true (by first | (with_reducible assumption) | assumption)
                          have q105 : x6_2 < (t102.length : Int) := of_decide_eq_true (by first | (with_reducible assumption) | assumption)
                          obtain ⟨ad105, e105, hx105_0⟩ := Kd.ZK (Kd.zx HO_3.out).2.2 x6_2 p105 q105
                          cases e105
                          replace p105 := eq_true p105
                          replace q105 := eq_true q105
                          have p106 : 0 ≤ (x5_1 : Int) := of_decide_eq_true (by first | (with_reducible assumption) | assumption)
                          have q106 : x5_1 < (t102.length : Int) := of_decide_eq_true (by first | (with_reducible assumption) | assumption)
                          obtain ⟨ad106, e106, hx106_0⟩ := Kd.ZK (Kd.zx HO_3.out).2.2 x5_1 p106 q106
                          obtain rfl : ad105 = ad106 := (by injection e106)
                          replace p106 := eq_true p106
                          replace q106 := eq_true q106
                          go_wp2
                          repeat (go_quiet (fail); try go_wp2)
                          go_roundg k2
                          case measure => have := HK1.out; have := HK2.out; omega
                          case rel => exact ⟨(wrap64 (-x4_2)), (wrap64 (x6_2 + 1)), (by first | rfl | (simp; done) | (simp [*]; done)), (by first | rfl | (simp; done) | (simp [*]; done)), H', ⟨by have := HK1.out; have := HK2.out; omega⟩, ⟨by (with_reducible repeat (first | apply Kd.zR | apply Kd.zS | apply Kd.zW)); exact HO_3.out⟩, ⟨by repeat (first | (with_reducible first | exact HB.out | apply zC | apply zB | apply zD) | exact HB.out)⟩⟩
                        · rw [if_neg c12] at H
                          have c12b0 : decide ((rd t102 x5_1) < (rd t102 x6_2)) = false := yhy c12
                          clear c12
                          have H' := zA.mk H
                          clear H
                          obtain ⟨Ao14, co14, eo14⟩ := Kd.ZH HO_3.out
                          subst eo14
                          have p105 : 0 ≤ (x6_2 : Int) := of_decide_eq_true (by first | (with_reducible assumption) | assumption)
                          have q105 : x6_2 < (t102.length : Int) := of_decide_eq_true (by first | (with_reducible assumption) | assumption)
                          obtain ⟨ad105, e105, hx105_0⟩ := Kd.ZK (Kd.zx HO_3.out).2.2 x6_2 p105 q105
                          cases e105
                          replace p105 := eq_true p105
                          replace q105 := eq_true q105
                          have p106 : 0 ≤ (x5_1 : Int) := of_decide_eq_true (by first | (with_reducible assumption) | assumption)
                          have q106 : x5_1 < (t102.length : Int) := of_decide_eq_true (by first | (with_reducible assumption) | assumption)
                          obtain ⟨ad106, e106, hx106_0⟩ := Kd.ZK (Kd.zx HO_3.out).2.2 x5_1 p106 q106
                          obtain rfl : ad105 = ad106 := (by injection e106)
                          replace p106 := eq_true p106
                          replace q106 := eq_true q106
                          go_wp2
                          repeat (go_quiet (fail); try go_wp2)
                          go_roundg k2
                          case measure => have := HK1.out; have := HK2.out; omega
                          case rel => exact ⟨(x4_2), (wrap64 (x6_2 + 1)), (by first | rfl | (simp; done) | (simp [*]; done)), (by first | rfl | (simp; done) | (simp [*]; done)), H', ⟨by have := HK1.out; have := HK2.out; omega⟩, ⟨by (with_reducible repeat (first | apply Kd.zR | apply Kd.zS | apply Kd.zW)); exact HO_3.out⟩, ⟨by repeat (first | (with_reducible first | exact HB.out | apply zC | apply zB | apply zD) | exact HB.out)⟩⟩
                      · rw [if_neg c11] at H
                        exact absurd H (by simp)
                    · rw [if_neg c10] at H
                      exact absurd H (by simp)
                  · rw [if_neg c9] at H
                    exact absurd H (by simp)
                · rw [if_neg c8] at H
                  exact absurd H (by simp)
              · rw [if_neg c7] at H
                have c7b0 : decide (x6_2 < x5_1) = false := yhy c7
                clear c7
                have H' := zA.mk H
                clear H
                go_wp2
                repeat (go_quiet (fail); try go_wp2)
                go_roundg k2
                case measure => have := HK1.out; have := HK2.out; omega
                case rel => exact ⟨(x4_2), (wrap64 (x5_1 + 1)), (by first | rfl | (simp; done) | (simp [*]; done)), (by first | rfl | (simp; done) | (simp [*]; done)), H', ⟨by have := HK1.out; have := HK2.out; omega⟩, ⟨by (with_reducible repeat (first | apply Kd.zR | apply Kd.zS | apply Kd.zW)); exact HO_3.out⟩, ⟨by repeat (first | (with_reducible first | exact HB.out | apply zC | apply zB | apply zD) | exact HB.out)⟩⟩
        · rw [if_neg c6] at H
          have c6b0 : decide (x5_1 < 4) = false := yhy c6
          clear c6
          obtain rfl := yey H
          go_wp2
          repeat (go_quiet (fail); try go_wp2)
          go_ret
          exact ⟨by first | rfl | (simp [zX, zY] <;> rfl) | (simp [*, zX, zY] <;> rfl), by repeat (first | (with_reducible first | exact HB.out | apply zC | apply zB | apply zD) | exact HB.out)⟩
  · replace c3 := Bool.eq_false_iff.mpr c3
    subst c3
    have H1 : (some 0) = some r := by rw [if_neg (show ¬ (false = true) by decide)] at H; exact H
    clear H
    have H := H1
    clear H1
    obtain rfl := yey H
    go_enter Try.func67, Try.ntmps67
    go_wp2_with (first | (go_at_call 81; (with_reducible refine (qf.calls a0 false _ A2.out).mono ?_); rintro e w' ⟨rfl, ⟨nd, rfl⟩⟩; (try first | exact ⟨rfl, _, World.drewN_drewN _ _ _⟩ | exact ⟨rfl, _, Eq.trans (World.drewN_drewN _ _ _) (congrArg (World.drewN _) (Nat.add_assoc _ _ _))⟩)))
    repeat (go_quiet (first | (go_at_call 81; (with_reducible refine (qf.calls a0 false _ A2.out).mono ?_); rintro e w' ⟨rfl, ⟨nd, rfl⟩⟩; (try first | exact ⟨rfl, _, World.drewN_drewN _ _ _⟩ | exact ⟨rfl, _, Eq.trans (World.drewN_drewN _ _ _) (congrArg (World.drewN _) (Nat.add_assoc _ _ _))⟩))); try go_wp2_with (first | (go_at_call 81; (with_reducible refine (qf.calls a0 false _ A2.out).mono ?_); rintro e w' ⟨rfl, ⟨nd, rfl⟩⟩; (try first | exact ⟨rfl, _, World.drewN_drewN _ _ _⟩ | exact ⟨rfl, _, Eq.trans (World.drewN_drewN _ _ _) (congrArg (World.drewN _) (Nat.add_assoc _ _ _))⟩))))
    go_ret
    exact ⟨by first | rfl | (simp [zX, zY] <;> rfl) | (simp [*, zX, zY] <;> rfl), by repeat (first | (with_reducible first | exact HB.out | apply zC | apply zB | apply zD) | exact HB.out)⟩
structure LNum where
  p : List Int
  s : List Int
  u : List Int
  n : Int
def zDf (n : Nat) (x : qA) : Bool := decide (x.f0 < 0) || (decide (0 ≤ x.f0) && (decide (x.f0 < (n : Int)) && (decide (0 ≤ x.f1) && decide (x.f1 ≤ 23))))
def zAh (n : Nat) (c : List Int) : Bool := decide (c.length = 2) && ((decide (0 ≤ rd c 0) && decide (rd c 0 < (n : Int))) && (decide (0 ≤ rd c 1) && decide (rd c 1 ≤ 3)))
def zGT (t : List (List qA)) (cs : List (List Int)) : Bool := (decide (t.length ≤ 8) && decide (cs.length ≤ 32)) && (t.all (fun r => decide (r.length = 4) && r.all (zDf t.length)) && cs.all (zAh t.length))
def zGi (k : Nat) : Bool := decide (∀ (m : Fin 24) (f : Fin 4), qh.f k (m.val : Int) (f.val : Int) = some (rd (qi (m.val : Int)) (f.val : Int)))
theorem zGU {k : Nat} (h : zGi k = true) {p f : Int} (h0 : 0 ≤ p) (h1 : p ≤ 23) (h2 : 0 ≤ f) (h3 : f ≤ 3) : qh.f k p f = some (rd (qi p) f) := by
  unfold zGi at h
  rw [decide_eq_true_eq] at h
  obtain ⟨m, rfl⟩ : ∃ m : Fin 24, p = (m.val : Int) := ⟨⟨p.toNat, by omega⟩, by simp; omega⟩
  obtain ⟨n, rfl⟩ : ∃ m : Fin 4, f = (m.val : Int) := ⟨⟨f.toNat, by omega⟩, by simp; omega⟩
  exact h m n
section
variable {w W W1 : World} {m m2 : Nat} {A0 : Option Addr} {n c0 : Nat} {vP vS vU vU1 : Value} {q : LNum}
end
def zGj (x : qA) (a v : Int) (s : List Int × List (List Int)) : Option (List Int × List (List Int)) :=
 if rd s.1 (4 * x.f0 + rd (qi x.f1) v) = 0 then some (s.1.set (4 * x.f0 + rd (qi x.f1) v).toNat (wrap64 (wrap64 (-(rd s.1 (4 * a + v))) * zAl x.f1)), s.2 ++ [[x.f0, rd (qi x.f1) v]])
 else (if rd s.1 (4 * x.f0 + rd (qi x.f1) v) = wrap64 (wrap64 (-(rd s.1 (4 * a + v))) * zAl x.f1) then some s else none)
def zCI (t : List (List qA)) (a v : Int) : Nat → Int → List Int × List (List Int) → Option (List Int × List (List Int))
 | 0, _, s => some s
 | d + 1, f, s => if f = v then zCI t a v d (f + 1) s else (if (zI (zE t a) f).f0 < 0 then zCI t a v d (f + 1) s else (zGj (zI (zE t a) f) a v s).bind (zCI t a v d (f + 1)))
def zCb (n : Nat) (s : List Int × List (List Int)) (i : Nat) : Bool := zAh n (qj s.2 (i : Int)) && (decide (s.2.length < 999000) && decide (s.1.length = 4 * n))
def oriN (o : Option (List Int × List (List Int))) (g : List Int × List (List Int) → Option Bool) : Option Bool := match o with
 | none => some false
 | some s => g s
def zEo (t : List (List qA)) : Nat → Nat → List Int × List (List Int) → Option Bool
 | 0, _, _ => none
 | k + 1, i, s => if i < s.2.length then (if zCb t.length s i = true then oriN (zCI t (rd (qj s.2 (i : Int)) 0) (rd (qj s.2 (i : Int)) 1) 4 0 s) (zEo t k (i + 1)) else none) else some true
def zE4 (t : List (List qA)) (cs : List (List Int)) : Bool := (decide (t.length ≤ 8) && decide (0 < cs.length)) && (t.all (fun r => decide (r.length = 4) && r.all (zDf t.length)) && zAh t.length (qj cs 0))
theorem zDg {n : Nat} {c : List Int} (h : zAh n c = true) : c.length = 2 ∧ 0 ≤ rd c 0 ∧ rd c 0 < (n : Int) ∧ 0 ≤ rd c 1 ∧ rd c 1 ≤ 3 := by
 unfold zAh at h
 simp only [Bool.and_eq_true, decide_eq_true_eq] at h
 exact ⟨h.1, h.2.1.1, h.2.1.2, h.2.2.1, h.2.2.2⟩
theorem zGV {t : List (List qA)} {cs : List (List Int)} (h : zE4 t cs = true) : t.length ≤ 8 ∧ 0 < cs.length ∧ (∀ r ∈ t, r.length = 4) ∧ (∀ r ∈ t, ∀ x ∈ r, ¬ x.f0 < 0 → 0 ≤ x.f0 ∧ x.f0 < (t.length : Int) ∧ 0 ≤ x.f1 ∧ x.f1 ≤ 23) ∧ zAh t.length (qj cs 0) = true := by
 unfold zE4 at h
 simp only [Bool.and_eq_true, decide_eq_true_eq, List.all_eq_true] at h
 obtain ⟨⟨h1, h2⟩, h3, h4⟩ := h
 refine ⟨h1, h2, fun r hr => (h3 r hr).1, fun r hr x hx hb => ?_, h4⟩
 have := (h3 r hr).2 x hx
 unfold zDf at this
 simp only [Bool.or_eq_true, Bool.and_eq_true, decide_eq_true_eq] at this
 rcases this with a | ⟨a, b, c, d⟩
 next =>
  exact absurd a hb
 next =>
  exact ⟨a, b, c, d⟩
def zGk (k : Nat) : Bool := decide (∀ m : Fin 24, zg.f k (m.val : Int) = some (zAl (m.val : Int)))
theorem zGW {k : Nat} (h : zGk k = true) {p : Int} (h0 : 0 ≤ p) (h1 : p ≤ 23) : zg.f k p = some (zAl p) := by
 unfold zGk at h
 rw [decide_eq_true_eq] at h
 obtain ⟨m, rfl⟩ : ∃ m : Fin 24, p = (m.val : Int) := ⟨⟨p.toNat, by omega⟩, by simp; omega⟩
 exact h m
def qp.f (k : Nat) (t : List (List qA)) (cs : List (List Int)) : Option Bool := if zE4 t cs = true then (if zGi k = true then (if zGk k = true then zEo t k 0 ((List.replicate (4 * t.length) 0).set (4 * rd (qj cs 0) 0 + rd (qj cs 0) 1).toNat 1, [qj cs 0]) else none) else none) else none
structure zAA (w W : World) (A0 : Option Addr) (n c0 gs cS m : Nat) (vL : Value) (sg : List Int) (ls : List (List Int)) : Prop where
 bT : W.heap[w.heap.size]? = some (.cells #[.slice A0 n c0] 35 (0, 0))
 rS : Kd.R (Kd.int .i64) 2 W w.heap.size (fun k => k = gs) (.slice (some ⟨gs, 0, none⟩) m cS) sg
 len : sg.length = m
 rL : (Kd.mix 2 (Kd.int .i64) (Kd.int .i64) w).R 22 W w.heap.size (fun k => k ≠ gs) vL ls
 below : Below w.heap.size w W
section
variable {w W W1 : World} {A0 : Option Addr} {n c0 gs cS m : Nat} {vL vL1 : Value} {sg : List Int} {ls : List (List Int)}
theorem zAA.stays (h : zAA w W A0 n c0 gs cS m vL sg ls) (hb : Below W.heap.size W W1) : zAA w W1 A0 n c0 gs cS m vL sg ls := ⟨zP h.bT hb, Kd.qM h.rS hb, h.len, Kd.qM h.rL hb, zM h.below hb⟩
theorem zAA.drew (h : zAA w W A0 n c0 gs cS m vL sg ls) : zAA w W.drew A0 n c0 gs cS m vL sg ls := ⟨h.bT, Kd.zW h.rS, h.len, Kd.zW h.rL, zD h.below⟩
theorem zAA.drewN (h : zAA w W A0 n c0 gs cS m vL sg ls) (d : Nat) : zAA w (W.drewN d) A0 n c0 gs cS m vL sg ls := h.stays (zB (yry _ _) _)
theorem zAA.alloc (h : zAA w W A0 n c0 gs cS m vL sg ls) (o : Obj) : zAA w (W.alloc o) A0 n c0 gs cS m vL sg ls := h.stays (zC (yry _ _) o)
theorem zAA.row (h : zAA w W A0 n c0 gs cS m vL sg ls) : ∃ cells, W.heap[gs]? = some (.cells cells 2 (0, 0)) := Kd.zAR h.rS gs (by simp [Value.ownBlock])
theorem zAA.sign (h : zAA w W A0 n c0 gs cS m vL sg ls) (k v : Int) : zAA w (W.setCell ⟨gs, k.toNat, none⟩ (.int .i64 v)) A0 n c0 gs cS m vL (sg.set k.toNat v) ls := by
 obtain ⟨cells, hc⟩ := h.row
 refine ⟨qE (p := ⟨gs, k.toNat, none⟩) h.bT (Qr h.bT hc (by decide)) _, (Kd.JZ h.rS k v).1, by rw [List.length_set]; exact h.len, Kd.ZI (p := ⟨gs, k.toNat, none⟩) h.rL (fun k hk => hk) _, zF h.below (Kd.Zh h.rS gs (by simp [Value.ownBlock]))⟩
theorem zAA.app (h : zAA w W A0 n c0 gs cS m vL sg ls) {l1 : List (List Int)} (ho : (Kd.mix 2 (Kd.int .i64) (Kd.int .i64) w).R 22 W1 w.heap.size (fun k => k ≠ gs) vL1 l1) (hb : Below w.heap.size w W1) (hg : W.grownBy W1 vL.ownBlock) : zAA w W1 A0 n c0 gs cS m vL1 sg l1 :=
 ⟨qa h.bT hg (Kd.zBF h.rL h.bT (by decide)), Kd.zBk h.rS hg (fun k hk e => by subst hk; exact h.rL.1 k e.symm rfl), h.len, ho, hb⟩
theorem zAA.cell (h : zAA w W A0 n c0 gs cS m vL sg ls) : W.cell? ⟨w.heap.size, 0, none⟩ = some (.slice A0 n c0) := (zK h.bT 0).trans rfl
theorem zAA.sgc (h : zAA w W A0 n c0 gs cS m vL sg ls) (i : Int) (h0 : 0 ≤ i) (h1 : i < (m : Int)) : W.cell? ⟨gs, i.toNat, none⟩ = some (.int .i64 (rd sg i)) ∧ W.frozen? ⟨gs, i.toNat, none⟩ = false := Kd.ZV 0 h.rS i h0 h1
theorem zAA.rows (h : zAA w W A0 n c0 gs cS m vL sg ls) : ∃ A c, vL = .slice A ls.length c ∧ ls.length ≤ c ∧ Kd.C (Kd.slice 2 (Kd.int .i64)) W A ls.length ls := by
 obtain ⟨A, c, e, hl, hr⟩ := Kd.Jh h.rL
 exact ⟨A, c, e, hl, hr.zBE (yry _ _) (fun _ _ hp => Kd.zFO rfl (fun _ _ hk => hk) h.below hp)⟩
end
theorem zGX {l : List Int} {k : Int} (h0 : 0 ≤ k) (h1 : k < (l.length : Int)) (v : Int) : rd (l.set k.toNat v) k = v := by
 have : k.toNat < l.length := by omega
 unfold rd
 simp [List.getD_eq_getElem?_getD, this]
set_option maxHeartbeats 8000000 in
set_option maxRecDepth 100000 in
theorem qp.calls (k : Nat) (A0_0 : Option Addr) (c0_0 : Nat) (l0_0 : List (List qA)) (A1 : Option Addr) (c1 : Nat) (l1 : List (List Int)) (r : Bool) (w : World) (hr0_0 : Kd.C (Kd.slice 75 ZT) w A0_0 l0_0.length l0_0) (hc0_0 : l0_0.length ≤ c0_0) (hr1 : Kd.C (Kd.slice 2 (Kd.int .i64)) w A1 l1.length l1) (hc1 : l1.length ≤ c1) (h : qp.f k l0_0 l1 = some r) :
 Calls Try.prog 57 #[.agg #[.slice A0_0 l0_0.length c0_0], .slice A1 l1.length c1] w fun e w' => e = .returned (.bool r) ∧ Below w.heap.size w w' := by
 unfold qp.f at h
 by_cases hok : zE4 l0_0 l1 = true
 case neg => rw [if_neg hok] at h; cases h
 rw [if_pos hok] at h
 by_cases hat : zGi k = true
 case neg => rw [if_neg hat] at h; cases h
 rw [if_pos hat] at h
 by_cases hsg : zGk k = true
 case neg => rw [if_neg hsg] at h; cases h
 rw [if_pos hsg] at h
 obtain ⟨hl8, hl1, h4, hf, hc0⟩ := zGV hok
 obtain ⟨hc2, ha0, ha1, hv0, hv1⟩ := zDg hc0
 obtain ⟨ad1, A3, c3, e4, hy, hl3, hi3⟩ := zBr hr1 0 (by omega) (by omega)
 subst e4
 have hmx : (Kd.mix 2 (Kd.int .i64) (Kd.int .i64) w).M w w.heap.size (fun _ => False) (qj l1 0) [.slice A3 (qj l1 0).length c3] := Kd.zFM hl3 hi3
 have HMX := zA.mk hmx
 obtain ⟨ada, ea, hya⟩ := Kd.ZK hi3 0 (by omega) (by omega)
 obtain ⟨adv, ev, hyv⟩ := Kd.ZK hi3 1 (by omega) (by omega)
 subst ea
 obtain rfl : ada = adv := by injection ev
 clear ev hl3 hi3 hmx
 rw [hc2] at hy HMX
 replace hy : w.cell? ad1 = some (.slice (some ada) 2 c3) := hy
 replace hya : w.cell? ada = some (.int .i64 (rd (qj l1 0) 0)) := hya
 replace hyv : w.cell? ⟨ada.block, ada.off + 1, none⟩ = some (.int .i64 (rd (qj l1 0) 1)) := hyv
 have HY := zA.mk (And.intro hy (And.intro hya hyv))
 have HR := zA.mk hr0_0
 have HC := zA.mk hc0_0
 have H4 := zA.mk h4
 have HF := zA.mk hf
 have HAT := zA.mk hat
 have HSO := zA.mk hsg
 have HH := zA.mk h
 clear hr0_0 hc0_0 hr1 h4 hf hok hat hsg h hc0 hc2 hya hyv
 generalize rd (qj l1 0) 0 = a0 at *
 generalize rd (qj l1 0) 1 = v0 at *
 generalize qj l1 0 = row0 at *
 obtain ⟨m, hm⟩ : ∃ m : Nat, 4 * l0_0.length = m := ⟨_, rfl⟩
 obtain ⟨j0, hj⟩ : ∃ j : Int, 4 * a0 + v0 = j := ⟨_, rfl⟩
 have hw1 : wrap64 (4 * a0) = 4 * a0 := Lib.qo (by omega) (by omega)
 have hw2 : wrap64 (4 * a0 + v0) = j0 := by rw [hj]; exact Lib.qo (by omega) (by omega)
 have hj0 : 0 ≤ j0 := by omega
 have hj1 : j0 < (m : Int) := by omega
 have hm4 : 4 * (l0_0.length : Int) = (m : Int) := by omega
 have hm32 : m ≤ 32 := by omega
 rw [hj, hm] at HH
 have HW := zA.mk (And.intro hw1 hw2)
 clear hw1 hw2 hj hl8
 have B0 := zA.mk (Zb (W := w) rfl (.cells #[.slice A0_0 l0_0.length c0_0] 35))
 have HB := zA.mk (zC (yry w.heap.size w) (.cells #[.slice A0_0 l0_0.length c0_0] 35))
 go_enter Try.func57, Try.ntmps57
 go_wp2_with fail
 generalize World.alloc w _ = w1 at B0 HB ⊢
 refine (qV.calls A0_0 c0_0 l0_0 (l0_0.length : Int) w1 (Kd.qG HR.out HB.out) HC.out rfl).mono ?_
 rintro e w2 ⟨rfl, hb⟩
 have B02 := zA.mk (zP B0.out hb)
 have HB2 := zA.mk (zM HB.out hb)
 clear B0 HB hb hy
 have hy := (HB2.out.cell (ypy w _ HY.out.1)).trans HY.out.1
 go_wp2_with (first
  | ((with_reducible refine zq (N := 17) rfl ?_); refine Kd.zCN (Kd.int .i64) (w0 := w) w.heap.size 2 rfl (N := 17) rfl 22 _ _ rfl (m : Int) (by first | rfl | (rw [← hm4]; rfl)) (by first | rfl | (rw [← hm4]; rfl)) Try.underlying22 (.int .i64 0) 8 JS rfl (by decide) (by omega) 0 (ok := fun _ => True) (okp := fun _ => True) rfl (fun _ hk => hk) trivial (by omega) (by omega) HB2.out HB2.out.size ?_; intro v1 w3 ho hb hg_ hnew; rw [yny] at ho; obtain ⟨gs, hbs, hgs⟩ := hnew; obtain ⟨cS, ev⟩ := zDc ho hbs; rw [List.length_replicate] at ev; subst ev; have HSR := zA.mk (Kd.zv (ok' := fun k => k = gs) (Kd.Qu rfl ho) (fun k hk => by simpa [Value.ownBlock] using hk)); have B03 := zA.mk (qa B02.out hg_ (by simp)); have HB3 := zA.mk hb; have HY3 := zA.mk ((hb.cell (ypy w _ HY.out.1)).trans HY.out.1); have hlt3 := zA.mk (Kd.JC ho _ hbs); clear ho hb hg_ hbs hy hgs B02 HB2; have hy := HY3.out)
  | ((with_reducible refine zq (N := 21) rfl ?_); refine Kd.zAu (Kd.mix 2 (Kd.int .i64) (Kd.int .i64) w) w.heap.size 22 ?hg (N := 21) ?hd (xs := [row0]) (inner := [.slice (some ada) 2 c3]) (ok := fun k => k ≠ gs) (okp := fun _ => False) ?hr ?hp (fun _ hk => hk.elim) (by have := hlt3.out; omega) HB3.out HB3.out.size (by simp) ?_; (case hd => rfl); (case hg => rfl); (case hr => first | (go_simp; done) | (go_simp; rfl)); (case hp => exact Zu.one (Kd.zCt HMX.out HB3.out) (Zu.none _ _)); intro vL w4 ho hb hg_ hnew_; clear hnew_; have HI : zA (zAA w w4 A0_0 l0_0.length c0_0 gs cS m vL (List.replicate m 0) [row0]) := ⟨⟨qa B03.out hg_ (by simp), Kd.zBk HSR.out hg_ (by simp), List.length_replicate, ho, hb⟩⟩; clear ho hb hg_ HSR B03 HB3 HY3 hlt3 hy HMX))
 have hy := (HI.out.below.cell (ypy w _ HY.out.1)).trans HY.out.1
 have hya := (HI.out.below.cell (ypy w _ HY.out.2.1)).trans HY.out.2.1
 have hyv := (HI.out.below.cell (ypy w _ HY.out.2.2)).trans HY.out.2.2
 refine Zm (n := 15) (S := fun w' => w'.cell? ad1 = some (.slice (some ada) 2 c3) ∧ w'.cell? ada = some (.int .i64 a0) ∧ w'.cell? ⟨ada.block, ada.off + 1, none⟩ = some (.int .i64 v0)) (ds := [14]) #[false, false, false, false, false, false, false, false, false, false, false, false, false, false, false] (by kernel_rfl) rfl rfl ⟨hy, hya, hyv⟩ (fun hHeld => ?_)
 have HI2 := zA.mk HI.out.drew
 clear HI
 have HI := HI2
 clear HI2 hy hya hyv
 generalize w4.drew = w5 at HI hHeld ⊢
 have hw1 := HW.out.1
 have hw2 := HW.out.2
 have p0 := eq_true hj0
 have p1 := eq_true hj1
 have hfz := (HI.out.sgc j0 hj0 hj1).2
 have hcz := (HI.out.sgc j0 hj0 hj1).1
 refine zj (i := 0) (N := some 22) (v := ?_) (a' := ?_) #[true, false, false, false, false, false, false, false, false, false, false, false, false, false, false] rfl rfl (by kernel_rfl) (fun _ _ _ h => h) (Or.inl ⟨by rfl, ?_⟩) ?_ ?_
 rotate_left
 next =>
  intro w'
  go_simp
  with_reducible rfl
 rotate_left
 next =>
  simp only [Act.put, yay, yby, ycy, zZ, zb]
  rfl
 refine zj (i := 1) (N := some 23) (v := ?_) (a' := ?_) #[true, true, false, false, false, false, false, false, false, false, false, false, false, false, false] rfl rfl (by kernel_rfl) (fun _ _ _ h => h) (Or.inl ⟨by rfl, ?_⟩) ?_ ?_
 rotate_left
 next =>
  intro w'
  go_simp
  with_reducible rfl
 rotate_left
 next =>
  simp only [Act.put, yay, yby, ycy, zZ, zb]
  rfl
 refine zj (i := 2) (N := some 24) (v := ?_) (a' := ?_) #[true, true, true, false, false, false, false, false, false, false, false, false, false, false, false] rfl rfl (by kernel_rfl) (fun _ _ _ h => h) (Or.inl ⟨by rfl, ?_⟩) ?_ ?_
 rotate_left
 next =>
  intro w'
  go_simp
  with_reducible rfl
 rotate_left
 next =>
  simp only [Act.put, yay, yby, ycy, zZ, zb]
  rfl
 refine qz (i := 3) (N := some 25) (v := ?_) (a' := ?_) #[true, true, true, true, false, false, false, false, false, false, false, false, false, false, false] rfl rfl (by kernel_rfl) (fun _ _ _ h => h) (Or.inl ⟨by rfl, ?_⟩) hHeld ?_ ?_
 rotate_left
 next =>
  rintro w' ⟨s0, s1, s2⟩
  go_simp
  with_reducible rfl
 rotate_left
 next =>
  simp only [Act.put, yay, yby, ycy, zZ, zb]
  rfl
 refine zj (i := 4) (N := some 26) (v := ?_) (a' := ?_) #[true, true, true, true, true, false, false, false, false, false, false, false, false, false, false] rfl rfl (by kernel_rfl) (fun _ _ _ h => h) (Or.inl ⟨by rfl, ?_⟩) ?_ ?_
 rotate_left
 next =>
  intro w'
  go_simp
  with_reducible rfl
 rotate_left
 next =>
  simp only [Act.put, yay, yby, ycy, zZ, zb]
  rfl
 refine qz (i := 5) (N := some 27) (v := ?_) (a' := ?_) #[true, true, true, true, true, true, false, false, false, false, false, false, false, false, false] rfl rfl (by kernel_rfl) (fun _ _ _ h => h) (Or.inl ⟨by rfl, ?_⟩) hHeld ?_ ?_
 rotate_left
 next =>
  rintro w' ⟨s0, s1, s2⟩
  go_simp
  with_reducible rfl
 rotate_left
 next =>
  simp only [Act.put, yay, yby, ycy, zZ, zb]
  rfl
 refine zj (i := 6) (N := some 28) (v := ?_) (a' := ?_) #[true, true, true, true, true, true, true, false, false, false, false, false, false, false, false] rfl rfl (by kernel_rfl) (fun _ _ _ h => h) (Or.inl ⟨by rfl, ?_⟩) ?_ ?_
 rotate_left
 next =>
  intro w'
  go_simp
  with_reducible rfl
 rotate_left
 next =>
  simp only [Act.put, yay, yby, ycy, zZ, zb]
  rfl
 refine zj (i := 7) (N := some 29) (v := ?_) (a' := ?_) #[true, true, true, true, true, true, true, true, false, false, false, false, false, false, false] rfl rfl (by kernel_rfl) (fun _ _ _ h => h) (Or.inl ⟨by rfl, ?_⟩) ?_ ?_
 rotate_left
 next =>
  intro w'
  go_simp
  with_reducible rfl
 rotate_left
 next =>
  simp only [Act.put, yay, yby, ycy, zZ, zb]
  rfl
 refine zj (i := 8) (N := some 30) (v := ?_) (a' := ?_) #[true, true, true, true, true, true, true, true, true, false, false, false, false, false, false] rfl rfl (by kernel_rfl) (fun _ _ _ h => h) (Or.inl ⟨by rfl, ?_⟩) ?_ ?_
 rotate_left
 next =>
  intro w'
  go_simp
  with_reducible rfl
 rotate_left
 next =>
  simp only [Act.put, yay, yby, ycy, zZ, zb]
  rfl
 refine qz (i := 9) (N := some 31) (v := ?_) (a' := ?_) #[true, true, true, true, true, true, true, true, true, true, false, false, false, false, false] rfl rfl (by kernel_rfl) (fun _ _ _ h => h) (Or.inl ⟨by rfl, ?_⟩) hHeld ?_ ?_
 rotate_left
 next =>
  rintro w' ⟨s0, s1, s2⟩
  go_simp
  with_reducible rfl
 rotate_left
 next =>
  simp only [Act.put, yay, yby, ycy, zZ, zb]
  rfl
 refine zj (i := 10) (N := some 32) (v := ?_) (a' := ?_) #[true, true, true, true, true, true, true, true, true, true, true, false, false, false, false] rfl rfl (by kernel_rfl) (fun _ _ _ h => h) (Or.inl ⟨by rfl, ?_⟩) ?_ ?_
 rotate_left
 next =>
  intro w'
  go_simp
  with_reducible rfl
 rotate_left
 next =>
  simp only [Act.put, yay, yby, ycy, zZ, zb]
  rfl
 refine qz (i := 11) (N := some 33) (v := ?_) (a' := ?_) #[true, true, true, true, true, true, true, true, true, true, true, true, false, false, false] rfl rfl (by kernel_rfl) (fun _ _ _ h => h) (Or.inl ⟨by rfl, ?_⟩) hHeld ?_ ?_
 rotate_left
 next =>
  rintro w' ⟨s0, s1, s2⟩
  go_simp
  with_reducible rfl
 rotate_left
 next =>
  simp only [Act.put, yay, yby, ycy, zZ, zb]
  rfl
 refine zj (i := 12) (N := some 34) (v := ?_) (a' := ?_) #[true, true, true, true, true, true, true, true, true, true, true, true, true, false, false] rfl rfl (by kernel_rfl) (fun _ _ _ h => h) (Or.inl ⟨by rfl, ?_⟩) ?_ ?_
 rotate_left
 next =>
  intro w'
  go_simp
  with_reducible rfl
 rotate_left
 next =>
  simp only [Act.put, yay, yby, ycy, zZ, zb]
  rfl
 refine zj (i := 13) (N := some 35) (v := ?_) (a' := ?_) #[true, true, true, true, true, true, true, true, true, true, true, true, true, true, false] rfl rfl (by kernel_rfl) (fun _ _ _ h => h) (Or.inl ⟨by rfl, ?_⟩) ?_ ?_
 rotate_left
 next =>
  intro w'
  go_simp
  with_reducible rfl
 rotate_left
 next =>
  simp only [Act.put, yay, yby, ycy, zZ, zb]
  rfl
 refine zFR (i := 14) (N := none) #[true, true, true, true, true, true, true, true, true, true, true, true, true, true, true] rfl rfl (by kernel_rfl) (by decide) (fun K hK => ?_)
 refine skip_ (w1 := ?_) (by rfl) rfl ?_ ?_
 rotate_left
 next =>
  go_simp
  rfl
 refine hK.out _ _ ?_
 clear hK K
 refine Qi (by kernel_rfl) ?_
 clear hHeld hfz hcz hw1 hw2
 have HI2 := zA.mk (HI.out.sign j0 1)
 clear HI HW HY
 have HI := HI2
 clear HI2 hj0 hj1 p0 p1 ha0 ha1 hv0 hv1
 generalize hw6 : w5.setCell _ _ = w6 at HI ⊢
 clear hw6
 go_wp2
 go_loopg [6, 7] k (fun gg v6 v7 w' => ∃ (kq i : Nat) (sg : List Int) (ls : List (List Int)), kq ≤ gg ∧ v7 = .int .i64 i ∧ zA (zEo l0_0 kq i (sg, ls) = some r) ∧ zA (zAA w w' A0_0 l0_0.length c0_0 gs cS m v6 sg ls))
 case atStart => exact ⟨k, 0, _, _, yqy _, rfl, HH, HI⟩
 case round =>
  clear HH HI
  obtain ⟨kq, i, sg, ls, hg, rfl, HH, HI⟩ := hrel
  cases kq with
  | zero => exact absurd HH.out (by simp [zEo])
  | succ k1 =>
  have h := HH.out
  rw [zEo] at h
  dsimp only at h
  obtain ⟨AL, cL, e6, hlL, hCL⟩ := HI.out.rows
  subst e6
  by_cases hlt : i < ls.length
  rotate_left
  next =>
   rw [if_neg hlt] at h
   obtain rfl : true = r := yey h
   have HB := zA.mk HI.out.below
   clear h HH hCL
   go_wp2
   go_ret
   exact ⟨rfl, HB.out⟩
  rw [if_pos hlt] at h
  have hltz : (i : Int) < (ls.length : Int) := by omega
  by_cases hos : zCb l0_0.length (sg, ls) i = true
  case neg => rw [if_neg hos] at h; cases h
  rw [if_pos hos] at h
  unfold zCb at hos
  simp only [Bool.and_eq_true, decide_eq_true_eq] at hos
  obtain ⟨hoc, hll, hsl⟩ := hos
  obtain ⟨hc2, ha0, ha1, hv0, hv1⟩ := zDg hoc
  have H := zA.mk h
  clear h HH hoc hsl
  obtain ⟨adL, A5, c5, e5, hyL, hl5, hi5⟩ := zBr hCL (i : Int) (by omega) hltz
  subst e5
  rw [yny] at hyL
  obtain ⟨ada5, ea, hya⟩ := Kd.ZK hi5 0 (by omega) (by omega)
  obtain ⟨adv, ev, hyv⟩ := Kd.ZK hi5 1 (by omega) (by omega)
  subst ea
  obtain rfl : ada5 = adv := by injection ev
  clear ev hl5 hi5 hCL
  rw [hc2] at hyL
  replace hya : wr.cell? ada5 = some (.int .i64 (rd (qj ls (i : Int)) 0)) := hya
  replace hyv : wr.cell? ⟨ada5.block, ada5.off + 1, none⟩ = some (.int .i64 (rd (qj ls (i : Int)) 1)) := hyv
  generalize rd (qj ls (i : Int)) 0 = a at *
  generalize rd (qj ls (i : Int)) 1 = v at *
  clear hc2
  go_wp2
  go_quiet (fail)
  try go_wp2
  clear hyL hya hyv
  obtain ⟨ja, hj⟩ : ∃ j : Int, 4 * a + v = j := ⟨_, rfl⟩
  have hw1 : wrap64 (4 * a) = 4 * a := Lib.qo (by omega) (by omega)
  have hw2 : wrap64 (4 * a + v) = ja := by rw [hj]; exact Lib.qo (by omega) (by omega)
  have hj0 : 0 ≤ ja := by omega
  have hj1 : ja < (m : Int) := by omega
  have hi9 : i < 999000 := by omega
  have HW := zA.mk (And.intro hw1 hw2)
  have HJ := zA.mk hj
  clear hw1 hw2 hj
  generalize hO : zCI l0_0 a v 4 0 (sg, ls) = O at H
  have HO := zA.mk hO
  clear hO
  have HI0 := HI
  go_loopg [6, 10] 4 (fun gg v6 v10 w' => ∃ (f : Nat) (sg : List Int) (ls : List (List Int)), f ≤ 4 ∧ 4 - f ≤ gg ∧ ls.length < 999000 + f ∧ v10 = .int .i64 f ∧ zA (zCI l0_0 a v (4 - f) (f : Int) (sg, ls) = O) ∧ zA (zAA w w' A0_0 l0_0.length c0_0 gs cS m v6 sg ls))
  case atStart => exact ⟨0, sg, ls, by omega, by omega, by omega, rfl, HO, ⟨HI0.out.drewN _⟩⟩
  case round =>
   clear HI HI0 HO hll hlt hltz hlL
   obtain ⟨f, sg, ls, hf4, hgf, hll, rfl, HO, HI⟩ := hrel
   by_cases hlf : f < 4
   rotate_left
   next =>
    obtain rfl : f = 4 := by omega
    have h2 := HO.out
    rw [zCI] at h2
    have h3 := H.out
    rw [← h2] at h3
    have HH := zA.mk (show zEo l0_0 k1 (i + 1) (sg, ls) = some r from h3)
    clear HO H h2 h3
    go_wp2
    go_roundg k1
    case measure => omega
    case rel => exact ⟨k1, i + 1, sg, ls, yqy _, by go_num, HH, HI⟩
   have hlfz : (f : Int) < 4 := by omega
   obtain ⟨d, hd⟩ : ∃ d, 4 - f = d + 1 := ⟨3 - f, by omega⟩
   have hd2 : 4 - (f + 1) = d := by omega
   have h2 := HO.out
   rw [hd, zCI, show (f : Int) + 1 = ((f + 1 : Nat) : Int) by omega, ← hd2] at h2
   clear HO hd hd2
   have HO := zA.mk h2
   clear h2
   obtain ⟨ay, A4, c4, e4, hz, hl4, hi4⟩ := ZO HR.out a ha0 ha1
   subst e4
   have hrl : (zE l0_0 a).length = 4 := by
    obtain ⟨d, rfl⟩ := Int.eq_ofNat_of_zero_le ha0
    have hd : d < l0_0.length := by omega
    have e : zE l0_0 (d : Int) = l0_0[d] := by simp [zE, hd]
    rw [e]; exact H4.out _ (List.getElem_mem _)
   have HFB := zA.mk (show ¬ (zI (zE l0_0 a) (f : Int)).f0 < 0 → 0 ≤ (zI (zE l0_0 a) (f : Int)).f0 ∧ (zI (zE l0_0 a) (f : Int)).f0 < (l0_0.length : Int) ∧ 0 ≤ (zI (zE l0_0 a) (f : Int)).f1 ∧ (zI (zE l0_0 a) (f : Int)).f1 ≤ 23 from by
    obtain ⟨d, rfl⟩ := Int.eq_ofNat_of_zero_le ha0
    have hd : d < l0_0.length := by omega
    have e : zE l0_0 (d : Int) = l0_0[d] := by simp [zE, hd]
    rw [e] at hrl ⊢
    have hlf' : f < l0_0[d].length := by omega
    have e2 : zI l0_0[d] (f : Int) = l0_0[d][f] := by simp [zI, hlf']
    rw [e2]
    exact fun hq => HF.out l0_0[d] (List.getElem_mem hd) l0_0[d][f] (List.getElem_mem hlf') (by omega))
   obtain ⟨az, e5, hz0, hz1⟩ := Zp hi4 (f : Int) (by omega) (by omega)
   subst e5
   rw [hrl] at hz
   have hrl4 := eq_true (show (f : Int) < 4 by omega)
   rw [yny] at hz0 hz1
   clear hl4 hi4 hrl
   generalize zI (zE l0_0 a) (f : Int) = x at *
   obtain ⟨f0, f1⟩ := x
   have p1 := eq_true ha0
   have p2 := eq_true ha1
   replace hz := (HI.out.below.cell (ypy w _ hz)).trans hz
   replace hz0 := (HI.out.below.cell (ypy w _ hz0)).trans hz0
   replace hz1 := (HI.out.below.cell (ypy w _ hz1)).trans hz1
   have hT := HI.out.cell
   have BF := zA.mk (Zb (W := wr) rfl (.cells #[.int .i64 f0, .int .i64 f1] 75))
   have HI2 := zA.mk (HI.out.alloc (.cells #[.int .i64 f0, .int .i64 f1] 75))
   by_cases e : (f : Int) = v
   next =>
    have h := HO.out; rw [if_pos e] at h; have HO2 := zA.mk h; clear h
    have eb : ((f : Int) == v) = true := by rw [e]; exact beq_self_eq_true _
    clear HO HFB e
    go_wp2
    go_roundg (4 - (f + 1))
    case measure => omega
    case rel => exact ⟨f + 1, sg, ls, by omega, by omega, by omega, by go_num, HO2, HI2⟩
   next =>
    have h := HO.out; rw [if_neg e] at h; have HO2 := zA.mk h; clear h
    have eb : ((f : Int) == v) = false := by simpa using e
    clear HO e
    by_cases hb : f0 < 0
    next =>
     have h := HO2.out; rw [if_pos hb] at h; have HO3 := zA.mk h; clear h
     have db : decide (f0 < 0) = true := ygy hb
     clear HO2 HFB
     go_wp2
     go_roundg (4 - (f + 1))
     case measure => omega
     case rel => exact ⟨f + 1, sg, ls, by omega, by omega, by omega, by go_num, HO3, HI2⟩
    next =>
     have h := HO2.out; rw [if_neg hb] at h; have HO3 := zA.mk h; clear h
     have db : decide (f0 < 0) = false := yhy hb
     clear HO2
     obtain ⟨hf0, hf1, hp0, hp1⟩ := HFB.out hb
     have HAV := zA.mk (zGU HAT.out hp0 hp1 hv0 hv1)
     have HSG := zA.mk (zGW HSO.out hp0 hp1)
     have hpv : 0 ≤ rd (qi f1) v ∧ rd (qi f1) v ≤ 3 := by obtain ⟨a, b, c, d⟩ := Jn f1 hp0 hp1; exact Jv a b c d v hv0 (by omega)
     obtain ⟨hpv0, hpv1⟩ := hpv
     have hx := HO3.out
     unfold zGj at hx
     dsimp only at hx
     have HX := zA.mk hx
     clear HFB hp0 hp1 hb HO3 hx
     generalize rd (qi f1) v = pv at *
     go_wp2_with fail
     clear HI hz hz0 hz1 hT
     have HI := HI2
     clear HI2
     generalize World.alloc wr _ = w7 at HI BF ⊢
     generalize wr.heap.size = gf at BF ⊢
     refine (qh.calls k f1 v pv _ HAV.out).mono ?_
     rintro e w8 ⟨rfl, hb⟩
     have HI2 := zA.mk (HI.out.stays hb)
     have BF2 := zA.mk (zP BF.out hb)
     clear HI BF
     have HI := HI2
     have BF := BF2
     clear HI2 BF2
     clear hb HAV
     have hb0 := (zK BF.out 0).trans (show _ = some (Value.int .i64 f0) from rfl)
     go_wp2
     clear hb0
     refine Zm (n := 13) (S := fun w' => w'.cell? ⟨gs, ja.toNat, none⟩ = some (.int .i64 (rd sg ja)) ∧ w'.cell? ⟨gf, 1, none⟩ = some (.int .i64 f1)) (ds := []) #[false, false, false, false, false, false, false, false, false, false, false, false, false] (by kernel_rfl) rfl rfl ⟨(HI.out.sgc ja hj0 hj1).1, (zK BF.out 1).trans rfl⟩ (fun hHeld => ?_)
     have HI2 := zA.mk HI.out.drew
     have BF2 := zA.mk (zJ BF.out)
     clear HI BF
     have HI := HI2
     have BF := BF2
     clear HI2 BF2
     generalize w8.drew = w9 at HI BF hHeld ⊢
     have hw1 := HW.out.1
     have hw2 := HW.out.2
     have q0 := eq_true hj0
     have q1 := eq_true hj1
     refine zj (i := 0) (N := some 78) (v := ?_) (a' := ?_) #[true, false, false, false, false, false, false, false, false, false, false, false, false] rfl rfl (by kernel_rfl) (fun _ _ _ h => h) (Or.inl ⟨by rfl, ?_⟩) ?_ ?_
     rotate_left
     next =>
      intro w'
      go_simp
      with_reducible rfl
     rotate_left
     next =>
      simp only [Act.put, yay, yby, ycy, zZ, zb]
      rfl
     refine zj (i := 1) (N := some 79) (v := ?_) (a' := ?_) #[true, true, false, false, false, false, false, false, false, false, false, false, false] rfl rfl (by kernel_rfl) (fun _ _ _ h => h) (Or.inl ⟨by rfl, ?_⟩) ?_ ?_
     rotate_left
     next =>
      intro w'
      go_simp
      with_reducible rfl
     rotate_left
     next =>
      simp only [Act.put, yay, yby, ycy, zZ, zb]
      rfl
     refine zj (i := 2) (N := some 80) (v := ?_) (a' := ?_) #[true, true, true, false, false, false, false, false, false, false, false, false, false] rfl rfl (by kernel_rfl) (fun _ _ _ h => h) (Or.inl ⟨by rfl, ?_⟩) ?_ ?_
     rotate_left
     next =>
      intro w'
      go_simp
      with_reducible rfl
     rotate_left
     next =>
      simp only [Act.put, yay, yby, ycy, zZ, zb]
      rfl
     refine zj (i := 3) (N := some 81) (v := ?_) (a' := ?_) #[true, true, true, true, false, false, false, false, false, false, false, false, false] rfl rfl (by kernel_rfl) (fun _ _ _ h => h) (Or.inl ⟨by rfl, ?_⟩) ?_ ?_
     rotate_left
     next =>
      intro w'
      go_simp
      with_reducible rfl
     rotate_left
     next =>
      simp only [Act.put, yay, yby, ycy, zZ, zb]
      rfl
     refine zj (i := 4) (N := some 82) (v := ?_) (a' := ?_) #[true, true, true, true, true, false, false, false, false, false, false, false, false] rfl rfl (by kernel_rfl) (fun _ _ _ h => h) (Or.inl ⟨by rfl, ?_⟩) ?_ ?_
     rotate_left
     next =>
      intro w'
      go_simp
      with_reducible rfl
     rotate_left
     next =>
      simp only [Act.put, yay, yby, ycy, zZ, zb]
      rfl
     refine zj (i := 5) (N := some 83) (v := ?_) (a' := ?_) #[true, true, true, true, true, true, false, false, false, false, false, false, false] rfl rfl (by kernel_rfl) (fun _ _ _ h => h) (Or.inl ⟨by rfl, ?_⟩) ?_ ?_
     rotate_left
     next =>
      intro w'
      go_simp
      with_reducible rfl
     rotate_left
     next =>
      simp only [Act.put, yay, yby, ycy, zZ, zb]
      rfl
     refine qz (i := 6) (N := some 84) (v := ?_) (a' := ?_) #[true, true, true, true, true, true, true, false, false, false, false, false, false] rfl rfl (by kernel_rfl) (fun _ _ _ h => h) (Or.inl ⟨by rfl, ?_⟩) hHeld ?_ ?_
     rotate_left
     next =>
      rintro w' ⟨s0, s1⟩
      go_simp
      with_reducible rfl
     rotate_left
     next =>
      simp only [Act.put, yay, yby, ycy, zZ, zb]
      rfl
     refine zj (i := 7) (N := some 85) (v := ?_) (a' := ?_) #[true, true, true, true, true, true, true, true, false, false, false, false, false] rfl rfl (by kernel_rfl) (fun _ _ _ h => h) (Or.inl ⟨by rfl, ?_⟩) ?_ ?_
     rotate_left
     next =>
      intro w'
      go_simp
      with_reducible rfl
     rotate_left
     next =>
      simp only [Act.put, yay, yby, ycy, zZ, zb]
      rfl
     refine zj (i := 8) (N := some 86) (v := ?_) (a' := ?_) #[true, true, true, true, true, true, true, true, true, false, false, false, false] rfl rfl (by kernel_rfl) (fun _ _ _ h => h) (Or.inl ⟨by rfl, ?_⟩) ?_ ?_
     rotate_left
     next =>
      intro w'
      go_simp
      with_reducible rfl
     rotate_left
     next =>
      simp only [Act.put, yay, yby, ycy, zZ, zb]
      rfl
     refine qz (i := 9) (N := some 87) (v := ?_) (a' := ?_) #[true, true, true, true, true, true, true, true, true, true, false, false, false] rfl rfl (by kernel_rfl) (fun _ _ _ h => h) (Or.inl ⟨by rfl, ?_⟩) hHeld ?_ ?_
     rotate_left
     next =>
      rintro w' ⟨s0, s1⟩
      go_simp
      with_reducible rfl
     rotate_left
     next =>
      simp only [Act.put, yay, yby, ycy, zZ, zb]
      rfl
     refine Jj (i := 10) (N := some 88) #[true, true, true, true, true, true, true, true, true, true, true, false, false] rfl rfl (by kernel_rfl) (by decide) (fun K hK => ?_)
     refine QU Try.func67 (by kernel_rfl) rfl #[.int .i64 f1] (by rfl) rfl rfl (by (try simp only [yiy, yjy, yky]); first | done | rfl) ?_
     refine (zg.calls k f1 (zAl f1) _ HSG.out).mono ?_
     rintro e w8 ⟨rfl, hb⟩
     refine ⟨_, rfl, ?_⟩
     have HI2 := zA.mk (HI.out.stays hb)
     have BF2 := zA.mk (zP BF.out hb)
     clear HI BF
     have HI := HI2
     have BF := BF2
     clear HI2 BF2
     clear hb
     refine hK.out _ _ ⟨(HI.out.sgc ja hj0 hj1).1, (zK BF.out 1).trans rfl⟩ (fun hHeld => ?_)
     clear hK K
     refine Zx (a' := ?_) ?_ ?_
     rotate_left
     next =>
      show Act.put _ (some 88) _ = _
      simp only [Act.put, yay, yby, ycy, zZ, zb]
      rfl
     refine zj (i := 11) (N := some 89) (v := ?_) (a' := ?_) #[true, true, true, true, true, true, true, true, true, true, true, true, false] rfl rfl (by kernel_rfl) (fun _ _ _ h => h) (Or.inl ⟨by rfl, ?_⟩) ?_ ?_
     rotate_left
     next =>
      intro w'
      go_simp
      with_reducible rfl
     rotate_left
     next =>
      simp only [Act.put, yay, yby, ycy, zZ, zb]
      rfl
     refine zj (i := 12) (N := some 13) (v := ?_) (a' := ?_) #[true, true, true, true, true, true, true, true, true, true, true, true, true] rfl rfl (by kernel_rfl) (fun _ _ _ h => h) (Or.inl ⟨by rfl, ?_⟩) ?_ ?_
     rotate_left
     next =>
      intro w'
      go_simp
      with_reducible rfl
     rotate_left
     next =>
      simp only [Act.put, yay, yby, ycy, zZ, zb]
      rfl
     refine Qi (by kernel_rfl) ?_
     clear hHeld hw1 hw2 q0 q1 HSG
     obtain ⟨want, hwt⟩ : ∃ z, wrap64 (wrap64 (-(rd sg ja)) * zAl f1) = z := ⟨_, rfl⟩
     rw [hwt]
     obtain ⟨jb, hjb⟩ : ∃ j : Int, 4 * f0 + pv = j := ⟨_, rfl⟩
     have hjb0 : 0 ≤ jb := by omega
     have hjb1 : jb < (m : Int) := by omega
     have hx := HX.out
     rw [HJ.out, hjb, hwt] at hx
     clear HX hwt
     have hxg := (HI.out.sgc jb hjb0 hjb1).1
     have hb0 := (zK BF.out 0).trans (show _ = some (Value.int .i64 f0) from rfl)
     by_cases hz : rd sg jb = 0
     next =>
      rw [if_pos hz, yfy] at hx
      have HX := zA.mk hx
      clear hx
      have ez : (rd sg jb == 0) = true := by rw [hz]; rfl
      have hfz := (HI.out.sgc jb hjb0 hjb1).2
      generalize hqz : rd sg jb = q at *
      have hrs := zA.mk (show rd (sg.set jb.toNat want) jb = want from zGX hjb0 (by rw [HI.out.len]; exact hjb1) want)
      have ew : (want != want) = false := by simp
      clear hqz hz
      go_wp2_with (first
       | ((with_reducible refine ZQ (t := 2) (p := 106) rfl ?_); refine ZE (t := 2) (p := 106) (v := ?vo106) (w1 := (w8.setCell ⟨gs, jb.toNat, none⟩ (.int .i64 want))) ?hg ?ho ?hn ?hr ?_; (case ho => rfl); (case hg => rfl); (case hn => rfl); (case hr => first | (go_simp; done) | (go_simp; rfl)); intro w10 hw10; have HI2 := zA.mk (show zAA w w10 (some ay) l0_0.length c0_0 gs cS m _ (sg.set jb.toNat want) ls by rw [hw10]; exact HI.out.sign jb want); have BF2 := zA.mk (show w10.heap[gf]? = some (.cells #[.int .i64 f0, .int .i64 f1] 75 (0, 0)) by rw [hw10]; exact qE (p := ⟨gs, jb.toNat, none⟩) BF.out (Qr BF.out HI.out.row.choose_spec (by decide)) _); clear HI BF hxg hfz hw10; have HI := HI2; have BF := BF2; clear HI2 BF2 hb0; have hb0 := (zK BF.out 0).trans (show _ = some (Value.int .i64 f0) from rfl))
       | ((with_reducible refine zq (N := 111) rfl ?_); refine Kd.zAu (Kd.int .i64) _ 2 ?hg (N := 111) ?hd (xs := ([f0, pv] : List Int)) (inner := [.int .i64 f0, .int .i64 pv]) (ok := fun _ => True) (okp := fun _ => True) ?hr ?hp (fun _ hk => hk) trivial (yry _ _) (yqy _) (by simp) ?_; (case hd => rfl); (case hg => rfl); (case hr => first | (go_simp; done) | (go_simp; rfl)); (case hp => exact (Zu.one (show Kd.M (Kd.int .i64) _ _ _ f0 [.int .i64 f0] from rfl) (Zu.one (show Kd.M (Kd.int .i64) _ _ _ pv [.int .i64 pv] from rfl) (Zu.none _ _)))); intro vr w11 ho hb hg_ hnew_; clear hg_ hnew_; have hgs9 := qN HI.out.row.choose_spec; have HL9 := zA.mk (Kd.ZB (Kd.zv (ok' := fun k => k ≠ gs ∧ some k ≠ u6.ownBlock) (Kd.QB ho) (fun k hk => ⟨by have := hk.2.1; omega, fun e => by have := Kd.JC HI.out.rL k e.symm; have := hk.2.1; omega⟩)) HI.out.below.size); have HI2 := zA.mk (HI.out.stays hb); have BF2 := zA.mk (zP BF.out hb); clear HI BF hb0 hb ho hgs9; have HI := HI2; have BF := BF2; clear HI2 BF2; obtain ⟨Ar, cr, er⟩ := Kd.ZH HL9.out; subst er)
       | ((with_reducible refine ZS (b := .append) (xs := #[.tmp 107, .tmp 112]) rfl ?_); at_builtin; have hgs9 := qN HI.out.row.choose_spec; refine Kd.Qf (Kd.mix 2 (Kd.int .i64) (Kd.int .i64) w) (w0 := w) w.heap.size rfl (.tmp 107) (.tmp 112) 30 22 (.slice none 0 0) 24 rfl Try.underlying30 zEd rfl (show 0 < 1 by decide) (by omega) u6 ls [f0, pv] [.slice Ar ([f0, pv] : List Int).length cr] (fun k => k ≠ gs) (fun k => k ≠ gs ∧ some k ≠ u6.ownBlock) rfl rfl ?aP (fun _ hk => hk) ?aF ?aO ?aB ?aS ?aL ?_; (case aP => exact Kd.zFN HL9.out); (case aF => exact (fun k hk => by omega)); (case aO => exact HI.out.rL); (case aB => exact HI.out.below); (case aS => exact HI.out.below.size); (case aL => omega); intro vL2 w12 ho hb hg_ hat_; have BF2 := zA.mk (qa BF.out hg_ (Kd.zBF HI.out.rL BF.out (by decide))); have HI2 := zA.mk (HI.out.app ho hb hg_); clear hat_ hgs9 ho hb hg_ HI HL9 BF; have HI := HI2; have BF := BF2; clear HI2 BF2; have hb0 := (zK BF.out 0).trans (show _ = some (Value.int .i64 f0) from rfl); have hxg := (HI.out.sgc jb hjb0 hjb1).1; rw [hrs.out] at hxg))
      go_roundg (4 - (f + 1))
      case measure => omega
      case rel => exact ⟨f + 1, _, _, by omega, by omega, by rw [List.length_append, List.length_singleton]; omega, by go_num, HX, HI⟩
     next =>
      rw [if_neg hz] at hx
      have ez : (rd sg jb == 0) = false := by simpa using hz
      by_cases hw : rd sg jb = want
      next =>
       rw [if_pos hw, yfy] at hx
       have HX := zA.mk hx
       have ew : (rd sg jb != want) = false := by rw [hw]; simp
       clear hx
       generalize rd sg jb = q at *
       go_wp2
       go_roundg (4 - (f + 1))
       case measure => omega
       case rel => exact ⟨f + 1, sg, ls, by omega, by omega, by omega, by go_num, HX, HI⟩
      next =>
       rw [if_neg hw] at hx
       have hO : O = none := hx.symm
       have h3 := H.out
       rw [hO, oriN] at h3
       obtain rfl : false = r := yey h3
       have ew : (rd sg jb != want) = true := by simpa using hw
       have HB := zA.mk HI.out.below
       clear hx H h3
       generalize rd sg jb = q at *
       go_wp2
       go_ret
       exact ⟨rfl, HB.out⟩
def qZ.f (k : Nat) (l0_0 : List (List (qA))) (a1 : Int) : Option (Bool) := (ZW.f k l0_0 a1).bind fun bt102 => (if bt102.2 = 0 then ((qp.f k l0_0 bt102.1).bind fun t106 => (some t106)) else (some false))
set_option maxHeartbeats 8000000 in
set_option maxRecDepth 100000 in
theorem qZ.calls (k : Nat) (A0_0 : Option Addr) (c0_0 : Nat) (l0_0 : List (List (qA))) (a1 : Int) (r : Bool) (w : World) (hr0_0 : Kd.C (Kd.slice 75 ZT) w A0_0 l0_0.length l0_0) (hc0_0 : l0_0.length ≤ c0_0) (h : qZ.f k l0_0 a1 = some r) :
    Calls Try.prog 29 #[.agg #[.slice A0_0 l0_0.length c0_0], .int .i64 a1] w fun e w' => e = .returned (.bool r) ∧ Below w.heap.size w w' := by
  have hu35 := Try.underlying35
  have HR0_0 := zA.mk hr0_0
  have HC0_0 := zA.mk hc0_0
  clear hr0_0 hc0_0
  have HB := zA.mk (yry w.heap.size w)
  have H : ((ZW.f k l0_0 a1).bind fun bt102 => (if bt102.2 = 0 then ((qp.f k l0_0 bt102.1).bind fun t106 => (some t106)) else (some false))) = some r := h
  clear h
  replace H := ydy.mp H
  obtain ⟨⟨t102, t105⟩, A30, H⟩ := H
  replace H : (if t105 = 0 then ((qp.f k l0_0 t102).bind fun t106 => (some t106)) else (some false)) = some r := H
  have A3 := zA.mk A30
  clear A30
  by_cases c4 : t105 = 0
  · rw [if_pos c4] at H
    have c4b0 : (t105 == 0) = true := beq_iff_eq.mpr c4
    have c4b1 : (t105 != 0) = false := bne_eq_false_iff_eq.mpr c4
    clear c4
    replace H := ydy.mp H
    obtain ⟨t106, A50, H⟩ := H
    replace H : (some t106) = some r := H
    have A5 := zA.mk A50
    clear A50
    obtain rfl := yey H
    go_enter Try.func29, Try.ntmps29
    go_wp2_with (first | ((with_reducible refine zq (N := 2) rfl ?_); refine zt ?hg (N := 2) ?hd (cs := #[.slice A0_0 l0_0.length c0_0]) (t := 35) ?hr ?_; (case hd => rfl); (case hg => rfl); (case hr => first | (go_simp; done) | (go_simp; rfl)); intro gb101 hg w6 hbox hb; have n0_ := zA.mk (zM (by repeat (first | (with_reducible first | exact HB.out | apply zC | apply zB | apply zD) | exact HB.out)) hb); have n1_ := zA.mk (hbox); have n2_ := zA.mk ((by rw [hg]; exact (zO (by repeat (first | (with_reducible first | exact HB.out | apply zC | apply zB | apply zD) | exact HB.out))) : w.heap.size ≤ gb101)); have n3_ := zA.mk ((by rw [hg]; exact (zO (by repeat (first | (with_reducible first | exact HB.out | apply zC | apply zB | apply zD) | exact HB.out))) : w.heap.size ≤ gb101)); clear HB; have HB := n0_; have BK101 := n1_; have GW101 := n2_; have GE101 := n3_; clear n0_ n1_ n2_ n3_; clear hb hbox hg; have hcz7_0 : w6.cell? ⟨gb101, 0, none⟩ = some (.slice A0_0 l0_0.length c0_0) := (zK BK101.out 0).trans rfl; have hfz7_0 := zN BK101.out 0) | ((with_reducible refine za (f := 17) rfl ?_); refine qL (some 10) rfl rfl Try.func17 (by kernel_rfl) rfl #[.agg #[.slice A0_0 l0_0.length c0_0], .int .i64 a1] rfl (by (try simp only [yiy, yjy, yky]); first | done | rfl | (simp only [yly, ymy]; rfl)) ?_; (with_reducible refine (ZW.calls k _ _ l0_0 a1 t102 t105 _ ?side1 ?side2 A3.out).mono ?_); (case side1 => repeat (first | exact (Kd.qG HR0_0.out HB.out) | (with_reducible refine Kd.zu ?_ _) | (with_reducible refine Kd.zw ?_ _) | (with_reducible refine Kd.qK ?_))); (case side2 => exact HC0_0.out); rintro e w8 ⟨v103, rfl, ho0, hb⟩; refine ⟨_, rfl, ?_⟩; have n0_ := zA.mk (Kd.Zg ho0 (zO (by repeat (first | (with_reducible first | exact HB.out | apply zC | apply zB | apply zD | refine zF ?_ GE101.out) | exact HB.out)))); have n1_ := zA.mk (zP (g := gb101) (o := .cells #[.slice A0_0 l0_0.length c0_0] 35 (0, 0)) (by (with_reducible repeat (first | refine zH ?_ _ | refine zJ ?_ | refine zG ?_ _)); exact BK101.out) hb); have n2_ := zA.mk (zM (by repeat (first | (with_reducible first | exact HB.out | apply zC | apply zB | apply zD | refine zF ?_ GE101.out) | exact HB.out)) hb); clear BK101; clear HB; have HO104 := n0_; have BK101 := n1_; have HB := n2_; clear n0_ n1_ n2_; (try clear hb); (try clear hb2); (try clear hk); (try clear hi); (try clear ho0); have hcz9_0 : w8.cell? ⟨gb101, 0, none⟩ = some (.slice A0_0 l0_0.length c0_0) := (zK BK101.out 0).trans rfl; have hfz9_0 := zN BK101.out 0; obtain ⟨Ao10, co10, eo10⟩ := Kd.Zz HO104.out; subst eo10) | (go_at_call 57; (with_reducible refine (qp.calls k _ _ l0_0 _ _ t102 t106 _ ?side1 ?side2 ?side3 ?side4 A5.out).mono ?_); (case side1 => repeat (first | exact (Kd.qG HR0_0.out HB.out) | (with_reducible refine Kd.zu ?_ _) | (with_reducible refine Kd.zw ?_ _) | (with_reducible refine Kd.qK ?_))); (case side2 => exact HC0_0.out); (case side3 => repeat (first | exact (Kd.qx HO104.out).2.2 | (with_reducible refine Kd.zu ?_ _) | (with_reducible refine Kd.zw ?_ _) | (with_reducible refine Kd.qK ?_))); (case side4 => exact (Kd.qx HO104.out).2.1); rintro e w11 ⟨rfl, hb⟩; have n0_ := zA.mk (Kd.ZN (by (with_reducible repeat (first | apply Kd.ze | apply Kd.zf | apply Kd.zo)); exact HO104.out) hb); have n1_ := zA.mk (zP (g := gb101) (o := .cells #[.slice A0_0 l0_0.length c0_0] 35 (0, 0)) (by (with_reducible repeat (first | refine zH ?_ _ | refine zJ ?_ | refine zG ?_ _)); exact BK101.out) hb); have n2_ := zA.mk (zM (by repeat (first | (with_reducible first | exact HB.out | apply zC | apply zB | apply zD | refine zF ?_ GE101.out) | exact HB.out)) hb); clear HO104; clear BK101; clear HB; have HO104 := n0_; have BK101 := n1_; have HB := n2_; clear n0_ n1_ n2_; (try clear hb); (try clear hb2); (try clear hk); (try clear hi)))
    go_ret
    exact ⟨by first | rfl | (simp [zX, zY] <;> rfl) | (simp [*, zX, zY] <;> rfl), by repeat (first | (with_reducible first | exact HB.out | apply zC | apply zB | apply zD | refine zF ?_ GE101.out) | exact HB.out)⟩
  · rw [if_neg c4] at H
    have c4b0 : (t105 == 0) = false := beq_eq_false_iff_ne.mpr c4
    have c4b1 : (t105 != 0) = true := bne_iff_ne.mpr c4
    obtain rfl := yey H
    go_enter Try.func29, Try.ntmps29
    go_wp2_with (first | ((with_reducible refine zq (N := 2) rfl ?_); refine zt ?hg (N := 2) ?hd (cs := #[.slice A0_0 l0_0.length c0_0]) (t := 35) ?hr ?_; (case hd => rfl); (case hg => rfl); (case hr => first | (go_simp; done) | (go_simp; rfl)); intro gb101 hg w12 hbox hb; have n0_ := zA.mk (zM (by repeat (first | (with_reducible first | exact HB.out | apply zC | apply zB | apply zD) | exact HB.out)) hb); have n1_ := zA.mk (hbox); have n2_ := zA.mk ((by rw [hg]; exact (zO (by repeat (first | (with_reducible first | exact HB.out | apply zC | apply zB | apply zD) | exact HB.out))) : w.heap.size ≤ gb101)); have n3_ := zA.mk ((by rw [hg]; exact (zO (by repeat (first | (with_reducible first | exact HB.out | apply zC | apply zB | apply zD) | exact HB.out))) : w.heap.size ≤ gb101)); clear HB; have HB := n0_; have BK101 := n1_; have GW101 := n2_; have GE101 := n3_; clear n0_ n1_ n2_ n3_; clear hb hbox hg; have hcz13_0 : w12.cell? ⟨gb101, 0, none⟩ = some (.slice A0_0 l0_0.length c0_0) := (zK BK101.out 0).trans rfl; have hfz13_0 := zN BK101.out 0) | ((with_reducible refine za (f := 17) rfl ?_); refine qL (some 10) rfl rfl Try.func17 (by kernel_rfl) rfl #[.agg #[.slice A0_0 l0_0.length c0_0], .int .i64 a1] rfl (by (try simp only [yiy, yjy, yky]); first | done | rfl | (simp only [yly, ymy]; rfl)) ?_; (with_reducible refine (ZW.calls k _ _ l0_0 a1 t102 t105 _ ?side1 ?side2 A3.out).mono ?_); (case side1 => repeat (first | exact (Kd.qG HR0_0.out HB.out) | (with_reducible refine Kd.zu ?_ _) | (with_reducible refine Kd.zw ?_ _) | (with_reducible refine Kd.qK ?_))); (case side2 => exact HC0_0.out); rintro e w14 ⟨v103, rfl, ho0, hb⟩; refine ⟨_, rfl, ?_⟩; have n0_ := zA.mk (Kd.Zg ho0 (zO (by repeat (first | (with_reducible first | exact HB.out | apply zC | apply zB | apply zD | refine zF ?_ GE101.out) | exact HB.out)))); have n1_ := zA.mk (zP (g := gb101) (o := .cells #[.slice A0_0 l0_0.length c0_0] 35 (0, 0)) (by (with_reducible repeat (first | refine zH ?_ _ | refine zJ ?_ | refine zG ?_ _)); exact BK101.out) hb); have n2_ := zA.mk (zM (by repeat (first | (with_reducible first | exact HB.out | apply zC | apply zB | apply zD | refine zF ?_ GE101.out) | exact HB.out)) hb); clear BK101; clear HB; have HO104 := n0_; have BK101 := n1_; have HB := n2_; clear n0_ n1_ n2_; (try clear hb); (try clear hb2); (try clear hk); (try clear hi); (try clear ho0)))
    go_ret
    exact ⟨by first | rfl | (simp [zX, zY] <;> rfl) | (simp [*, zX, zY] <;> rfl), by repeat (first | (with_reducible first | exact HB.out | apply zC | apply zB | apply zD | refine zF ?_ GE101.out) | exact HB.out)⟩
def ZG.f (k : Nat) (l0_0 : List (List (qP))) (a1 : Int) : Option (Bool) := (qn.f k l0_0 1048576).bind fun t102 => (if t102 < 0 then (some true) else ((zh.f k l0_0).bind fun t103 => ((qZ.f k t103 a1).bind fun t106 => ((zh.f k l0_0).bind fun t107 => ((qQ.f k t107 a1).bind fun t111 => (if (t111 != t106) = true then (some false) else ((zh.f k l0_0).bind fun t112 => ((qO.f k t107 t112).bind fun t115 => (if t115 = true then (some true) else (some false))))))))))
set_option maxHeartbeats 8000000 in
set_option maxRecDepth 100000 in
theorem ZG.calls (k : Nat) (A0_0 : Option Addr) (c0_0 : Nat) (l0_0 : List (List (qP))) (a1 : Int) (r : Bool) (w : World) (hr0_0 : Kd.C (Kd.slice 118 QG) w A0_0 l0_0.length l0_0) (hc0_0 : l0_0.length ≤ c0_0) (h : ZG.f k l0_0 a1 = some r) :
 Calls Try.prog 7 #[.agg #[.slice A0_0 l0_0.length c0_0], .int .i64 a1] w fun e w' => e = .returned (.bool r) ∧ Below w.heap.size w w' := by
 have hu28 := Try.underlying28
 have hu35 := Try.underlying35
 have HR0_0 := zA.mk hr0_0
 have HC0_0 := zA.mk hc0_0
 clear hr0_0 hc0_0
 have HB := zA.mk (yry w.heap.size w)
 have H : ((qn.f k l0_0 1048576).bind fun t102 => (if t102 < 0 then (some true) else ((zh.f k l0_0).bind fun t103 => ((qZ.f k t103 a1).bind fun t106 => ((zh.f k l0_0).bind fun t107 => ((qQ.f k t107 a1).bind fun t111 => (if (t111 != t106) = true then (some false) else ((zh.f k l0_0).bind fun t112 => ((qO.f k t107 t112).bind fun t115 => (if t115 = true then (some true) else (some false))))))))))) = some r := h
 clear h
 replace H := ydy.mp H
 obtain ⟨t102, A30, H⟩ := H
 replace H : (if t102 < 0 then (some true) else ((zh.f k l0_0).bind fun t103 => ((qZ.f k t103 a1).bind fun t106 => ((zh.f k l0_0).bind fun t107 => ((qQ.f k t107 a1).bind fun t111 => (if (t111 != t106) = true then (some false) else ((zh.f k l0_0).bind fun t112 => ((qO.f k t107 t112).bind fun t115 => (if t115 = true then (some true) else (some false)))))))))) = some r := H
 have A3 := zA.mk A30
 clear A30
 by_cases c4 : t102 < 0
 next =>
  rw [if_pos c4] at H
  have c4b0 : decide (t102 < 0) = true := ygy c4
  clear c4
  obtain rfl := yey H
  go_enter Try.func7, Try.ntmps7
  go_wp2_with (first | ((with_reducible refine zq (N := 2) rfl ?_); refine zt ?hg (N := 2) ?hd (cs := #[.slice A0_0 l0_0.length c0_0]) (t := 28) ?hr ?_; (case hd => rfl); (case hg => rfl); (case hr => first | (go_simp; done) | (go_simp; rfl)); intro gb101 hg w5 hbox hb; have n0_ := zA.mk (zM (by repeat (first | (with_reducible first | exact HB.out | apply zC | apply zB | apply zD) | exact HB.out)) hb); have n1_ := zA.mk (hbox); have n2_ := zA.mk ((by rw [hg]; exact (zO (by repeat (first | (with_reducible first | exact HB.out | apply zC | apply zB | apply zD) | exact HB.out))) : w.heap.size ≤ gb101)); have n3_ := zA.mk ((by rw [hg]; exact (zO (by repeat (first | (with_reducible first | exact HB.out | apply zC | apply zB | apply zD) | exact HB.out))) : w.heap.size ≤ gb101)); clear HB; have HB := n0_; have BK101 := n1_; have GW101 := n2_; have GE101 := n3_; clear n0_ n1_ n2_ n3_; clear hb hbox hg; have hcz6_0 : w5.cell? ⟨gb101, 0, none⟩ = some (.slice A0_0 l0_0.length c0_0) := (zK BK101.out 0).trans rfl; have hfz6_0 := zN BK101.out 0) | ((with_reducible refine za (f := 16) rfl ?_); refine qL (some 11) rfl rfl Try.func16 (by kernel_rfl) rfl #[.agg #[.slice A0_0 l0_0.length c0_0], .int .i64 1048576] rfl (by (try simp only [yiy, yjy, yky]); first | done | rfl | (simp only [yly, ymy]; rfl)) ?_; (with_reducible refine (qn.calls k _ _ l0_0 1048576 t102 _ ?side1 ?side2 A3.out).mono ?_); (case side1 => repeat (first | exact (Kd.qG HR0_0.out HB.out) | (with_reducible refine Kd.zu ?_ _) | (with_reducible refine Kd.zw ?_ _) | (with_reducible refine Kd.qK ?_))); (case side2 => exact HC0_0.out); rintro e w7 ⟨rfl, hb⟩; refine ⟨_, rfl, ?_⟩; have n0_ := zA.mk (zP (g := gb101) (o := .cells #[.slice A0_0 l0_0.length c0_0] 28 (0, 0)) (by (with_reducible repeat (first | refine zH ?_ _ | refine zJ ?_ | refine zG ?_ _)); exact BK101.out) hb); have n1_ := zA.mk (zM (by repeat (first | (with_reducible first | exact HB.out | apply zC | apply zB | apply zD | refine zF ?_ GE101.out) | exact HB.out)) hb); clear BK101; clear HB; have BK101 := n0_; have HB := n1_; clear n0_ n1_; (try clear hb); (try clear hb2); (try clear hk); (try clear hi)))
  go_ret
  exact ⟨by first | rfl | (simp [zX, zY] <;> rfl) | (simp [*, zX, zY] <;> rfl), by repeat (first | (with_reducible first | exact HB.out | apply zC | apply zB | apply zD | refine zF ?_ GE101.out) | exact HB.out)⟩
 next =>
  rw [if_neg c4] at H
  have c4b0 : decide (t102 < 0) = false := yhy c4
  clear c4
  replace H := ydy.mp H
  obtain ⟨t103, A80, H⟩ := H
  replace H : ((qZ.f k t103 a1).bind fun t106 => ((zh.f k l0_0).bind fun t107 => ((qQ.f k t107 a1).bind fun t111 => (if (t111 != t106) = true then (some false) else ((zh.f k l0_0).bind fun t112 => ((qO.f k t107 t112).bind fun t115 => (if t115 = true then (some true) else (some false)))))))) = some r := H
  have A8 := zA.mk A80
  clear A80
  replace H := ydy.mp H
  obtain ⟨t106, A90, H⟩ := H
  replace H : ((zh.f k l0_0).bind fun t107 => ((qQ.f k t107 a1).bind fun t111 => (if (t111 != t106) = true then (some false) else ((zh.f k l0_0).bind fun t112 => ((qO.f k t107 t112).bind fun t115 => (if t115 = true then (some true) else (some false))))))) = some r := H
  have A9 := zA.mk A90
  clear A90
  replace H := ydy.mp H
  obtain ⟨t107, A100, H⟩ := H
  replace H : ((qQ.f k t107 a1).bind fun t111 => (if (t111 != t106) = true then (some false) else ((zh.f k l0_0).bind fun t112 => ((qO.f k t107 t112).bind fun t115 => (if t115 = true then (some true) else (some false)))))) = some r := H
  have A10 := zA.mk A100
  clear A100
  replace H := ydy.mp H
  obtain ⟨t111, A110, H⟩ := H
  replace H : (if (t111 != t106) = true then (some false) else ((zh.f k l0_0).bind fun t112 => ((qO.f k t107 t112).bind fun t115 => (if t115 = true then (some true) else (some false))))) = some r := H
  have A11 := zA.mk A110
  clear A110
  by_cases c12 : (t111 != t106) = true
  next =>
   rw [if_pos c12] at H
   have c12b0 : (t111 != t106) = true := c12
   (try (have c12b1 : decide (t111 = t106) = false := by simpa using c12))
   (try (have c12b2 : (t111 == t106) = false := by simpa using c12))
   (try (have c12b3 : ¬ (t111 = t106) := by simpa using c12))
   clear c12
   obtain rfl := yey H
   go_enter Try.func7, Try.ntmps7
   go_wp2_with (first | ((with_reducible refine zq (N := 2) rfl ?_); refine zt ?hg (N := 2) ?hd (cs := #[.slice A0_0 l0_0.length c0_0]) (t := 28) ?hr ?_; (case hd => rfl); (case hg => rfl); (case hr => first | (go_simp; done) | (go_simp; rfl)); intro gb101 hg w13 hbox hb; have n0_ := zA.mk (zM (by repeat (first | (with_reducible first | exact HB.out | apply zC | apply zB | apply zD) | exact HB.out)) hb); have n1_ := zA.mk (hbox); have n2_ := zA.mk ((by rw [hg]; exact (zO (by repeat (first | (with_reducible first | exact HB.out | apply zC | apply zB | apply zD) | exact HB.out))) : w.heap.size ≤ gb101)); have n3_ := zA.mk ((by rw [hg]; exact (zO (by repeat (first | (with_reducible first | exact HB.out | apply zC | apply zB | apply zD) | exact HB.out))) : w.heap.size ≤ gb101)); clear HB; have HB := n0_; have BK101 := n1_; have GW101 := n2_; have GE101 := n3_; clear n0_ n1_ n2_ n3_; clear hb hbox hg; have hcz14_0 : w13.cell? ⟨gb101, 0, none⟩ = some (.slice A0_0 l0_0.length c0_0) := (zK BK101.out 0).trans rfl; have hfz14_0 := zN BK101.out 0) | ((with_reducible refine za (f := 16) rfl ?_); refine qL (some 11) rfl rfl Try.func16 (by kernel_rfl) rfl #[.agg #[.slice A0_0 l0_0.length c0_0], .int .i64 1048576] rfl (by (try simp only [yiy, yjy, yky]); first | done | rfl | (simp only [yly, ymy]; rfl)) ?_; (with_reducible refine (qn.calls k _ _ l0_0 1048576 t102 _ ?side1 ?side2 A3.out).mono ?_); (case side1 => repeat (first | exact (Kd.qG HR0_0.out HB.out) | (with_reducible refine Kd.zu ?_ _) | (with_reducible refine Kd.zw ?_ _) | (with_reducible refine Kd.qK ?_))); (case side2 => exact HC0_0.out); rintro e w15 ⟨rfl, hb⟩; refine ⟨_, rfl, ?_⟩; have n0_ := zA.mk (zP (g := gb101) (o := .cells #[.slice A0_0 l0_0.length c0_0] 28 (0, 0)) (by (with_reducible repeat (first | refine zH ?_ _ | refine zJ ?_ | refine zG ?_ _)); exact BK101.out) hb); have n1_ := zA.mk (zM (by repeat (first | (with_reducible first | exact HB.out | apply zC | apply zB | apply zD | refine zF ?_ GE101.out) | exact HB.out)) hb); clear BK101; clear HB; have BK101 := n0_; have HB := n1_; clear n0_ n1_; (try clear hb); (try clear hb2); (try clear hk); (try clear hi); have hcz16_0 : w15.cell? ⟨gb101, 0, none⟩ = some (.slice A0_0 l0_0.length c0_0) := (zK BK101.out 0).trans rfl; have hfz16_0 := zN BK101.out 0) | ((with_reducible refine za (f := 18) rfl ?_); refine qL (some 15) rfl rfl Try.func18 (by kernel_rfl) rfl #[.agg #[.slice A0_0 l0_0.length c0_0]] rfl (by (try simp only [yiy, yjy, yky]); first | done | rfl | (simp only [yly, ymy]; rfl)) ?_; (with_reducible refine (zh.calls k _ _ l0_0 t103 _ ?side1 ?side2 A8.out).mono ?_); (case side1 => repeat (first | exact (Kd.qG HR0_0.out HB.out) | (with_reducible refine Kd.zu ?_ _) | (with_reducible refine Kd.zw ?_ _) | (with_reducible refine Kd.qK ?_))); (case side2 => exact HC0_0.out); rintro e w17 ⟨v104, rfl, ho0, hb⟩; refine ⟨_, rfl, ?_⟩; have n0_ := zA.mk (Kd.Zg ho0 (zO (by repeat (first | (with_reducible first | exact HB.out | apply zC | apply zB | apply zD | refine zF ?_ GE101.out) | exact HB.out)))); have n1_ := zA.mk (zP (g := gb101) (o := .cells #[.slice A0_0 l0_0.length c0_0] 28 (0, 0)) (by (with_reducible repeat (first | refine zH ?_ _ | refine zJ ?_ | refine zG ?_ _)); exact BK101.out) hb); have n2_ := zA.mk (zM (by repeat (first | (with_reducible first | exact HB.out | apply zC | apply zB | apply zD | refine zF ?_ GE101.out) | exact HB.out)) hb); clear BK101; clear HB; have HO105 := n0_; have BK101 := n1_; have HB := n2_; clear n0_ n1_ n2_; (try clear hb); (try clear hb2); (try clear hk); (try clear hi); (try clear ho0); obtain ⟨Ao18, co18, eo18⟩ := Kd.Zz HO105.out; subst eo18) | ((with_reducible refine za (f := 29) rfl ?_); refine qL (some 17) rfl rfl Try.func29 (by kernel_rfl) rfl #[.agg #[.slice Ao18 t103.length co18], .int .i64 a1] rfl (by (try simp only [yiy, yjy, yky]); first | done | rfl | (simp only [yly, ymy]; rfl)) ?_; (with_reducible refine (qZ.calls k _ _ t103 a1 t106 _ ?side1 ?side2 A9.out).mono ?_); (case side1 => repeat (first | exact (Kd.qx HO105.out).2.2 | (with_reducible refine Kd.zu ?_ _) | (with_reducible refine Kd.zw ?_ _) | (with_reducible refine Kd.qK ?_))); (case side2 => exact (Kd.qx HO105.out).2.1); rintro e w19 ⟨rfl, hb⟩; refine ⟨_, rfl, ?_⟩; have n0_ := zA.mk (Kd.ZN (by (with_reducible repeat (first | apply Kd.ze | apply Kd.zf | apply Kd.zo)); exact HO105.out) hb); have n1_ := zA.mk (zP (g := gb101) (o := .cells #[.slice A0_0 l0_0.length c0_0] 28 (0, 0)) (by (with_reducible repeat (first | refine zH ?_ _ | refine zJ ?_ | refine zG ?_ _)); exact BK101.out) hb); have n2_ := zA.mk (zM (by repeat (first | (with_reducible first | exact HB.out | apply zC | apply zB | apply zD | refine zF ?_ GE101.out) | exact HB.out)) hb); clear HO105; clear BK101; clear HB; have HO105 := n0_; have BK101 := n1_; have HB := n2_; clear n0_ n1_ n2_; (try clear hb); (try clear hb2); (try clear hk); (try clear hi); have hcz20_0 : w19.cell? ⟨gb101, 0, none⟩ = some (.slice A0_0 l0_0.length c0_0) := (zK BK101.out 0).trans rfl; have hfz20_0 := zN BK101.out 0) | ((with_reducible refine za (f := 18) rfl ?_); refine qL (some 19) rfl rfl Try.func18 (by kernel_rfl) rfl #[.agg #[.slice A0_0 l0_0.length c0_0]] rfl (by (try simp only [yiy, yjy, yky]); first | done | rfl | (simp only [yly, ymy]; rfl)) ?_; (with_reducible refine (zh.calls k _ _ l0_0 t107 _ ?side1 ?side2 A10.out).mono ?_); (case side1 => repeat (first | exact (Kd.qG HR0_0.out HB.out) | (with_reducible refine Kd.zu ?_ _) | (with_reducible refine Kd.zw ?_ _) | (with_reducible refine Kd.qK ?_))); (case side2 => exact HC0_0.out); rintro e w21 ⟨v108, rfl, ho0, hb⟩; refine ⟨_, rfl, ?_⟩; have n0_ := zA.mk (Kd.ZZ (by (with_reducible repeat (first | apply Kd.ze | apply Kd.zf | apply Kd.zo)); exact HO105.out) (Kd.JK ho0) hb); have n1_ := zA.mk (Kd.Zg (Kd.Zn ho0 (Kd.zCr (by (with_reducible repeat (first | apply Kd.ze | apply Kd.zf | apply Kd.zo)); exact HO105.out))) (zO (by repeat (first | (with_reducible first | exact HB.out | apply zC | apply zB | apply zD | refine zF ?_ GE101.out) | exact HB.out)))); have n2_ := zA.mk (zP (g := gb101) (o := .cells #[.slice A0_0 l0_0.length c0_0] 28 (0, 0)) (by (with_reducible repeat (first | refine zH ?_ _ | refine zJ ?_ | refine zG ?_ _)); exact BK101.out) hb); have n3_ := zA.mk (zM (by repeat (first | (with_reducible first | exact HB.out | apply zC | apply zB | apply zD | refine zF ?_ GE101.out) | exact HB.out)) hb); clear HO105; clear BK101; clear HB; have HO105 := n0_; have HO109 := n1_; have BK101 := n2_; have HB := n3_; clear n0_ n1_ n2_ n3_; (try clear hb); (try clear hb2); (try clear hk); (try clear hi); (try clear ho0)) | ((with_reducible refine zq (N := 7) rfl ?_); refine zt ?hg (N := 7) ?hd (cs := #[.slice none 0 0]) (t := 35) ?hr ?_; (case hd => rfl); (case hg => rfl); (case hr => first | (go_simp; done) | (go_simp; rfl)); intro gb110 hg w22 hbox hb; have n0_ := zA.mk (Kd.ZN (by (with_reducible repeat (first | apply Kd.ze | apply Kd.zf | apply Kd.zo)); exact HO105.out) hb); have n1_ := zA.mk (Kd.ZN (by (with_reducible repeat (first | apply Kd.ze | apply Kd.zf | apply Kd.zo)); exact HO109.out) hb); have n2_ := zA.mk (zP (g := gb101) (o := .cells #[.slice A0_0 l0_0.length c0_0] 28 (0, 0)) (by (with_reducible repeat (first | refine zH ?_ _ | refine zJ ?_ | refine zG ?_ _)); exact BK101.out) hb); have n3_ := zA.mk (zM (by repeat (first | (with_reducible first | exact HB.out | apply zC | apply zB | apply zD | refine zF ?_ GE101.out) | exact HB.out)) hb); have n4_ := zA.mk (hbox); have n5_ := zA.mk ((by rw [hg]; exact (zO (by repeat (first | (with_reducible first | exact HB.out | apply zC | apply zB | apply zD | refine zF ?_ GE101.out) | exact HB.out))) : w.heap.size ≤ gb110)); have n6_ := zA.mk ((by rw [hg]; exact (zO (by repeat (first | (with_reducible first | exact HB.out | apply zC | apply zB | apply zD | refine zF ?_ GE101.out) | exact HB.out))) : w.heap.size ≤ gb110)); have n7_ := zA.mk ((by rw [hg]; exact Nat.ne_of_lt (qN (g := gb101) (o := .cells #[.slice A0_0 l0_0.length c0_0] 28 (0, 0)) (by (with_reducible repeat (first | refine zH ?_ _ | refine zJ ?_ | refine zG ?_ _)); exact BK101.out)) : gb101 ≠ gb110)); have n8_ := zA.mk ((by rw [hg]; exact Nat.ne_of_gt (qN (g := gb101) (o := .cells #[.slice A0_0 l0_0.length c0_0] 28 (0, 0)) (by (with_reducible repeat (first | refine zH ?_ _ | refine zJ ?_ | refine zG ?_ _)); exact BK101.out)) : gb110 ≠ gb101)); clear HO105; clear HO109; clear BK101; clear HB; have HO105 := n0_; have HO109 := n1_; have BK101 := n2_; have HB := n3_; have BK110 := n4_; have GW110 := n5_; have GE110 := n6_; have NB101_110 := n7_; have NB110_101 := n8_; clear n0_ n1_ n2_ n3_ n4_ n5_ n6_ n7_ n8_; clear hb hbox hg; obtain ⟨Ao23, co23, eo23⟩ := Kd.Zz HO109.out; subst eo23; have hnb24 := NB110_101.out; have hnc24 := NB101_110.out; have hcz25_0 : w22.cell? ⟨gb110, 0, none⟩ = some (.slice none 0 0) := (zK BK110.out 0).trans rfl; have hfz25_0 := zN BK110.out 0) | ((with_reducible refine za (f := 30) rfl ?_); refine qL (some 22) rfl rfl Try.func30 (by kernel_rfl) rfl #[.agg #[.slice Ao23 t107.length co23], .int .i64 a1] rfl (by (try simp only [yiy, yjy, yky]); first | done | rfl | (simp only [yly, ymy]; rfl)) ?_; (with_reducible refine (qQ.calls k _ _ t107 a1 t111 _ ?side1 ?side2 A11.out).mono ?_); (case side1 => refine (Kd.qx (e := 76) (base := w.heap.size) (ok := fun k_ => (True ∧ some k_ ≠ (.slice Ao18 t103.length co18 : Value).ownBlock)) (n := t107.length) (c := co23) ?_).2.2; exact (by (with_reducible repeat (first | apply Kd.ze | apply Kd.zf | apply Kd.zo)); exact (Kd.qq (Kd.Zi (p := ⟨gb110, 0, none⟩) (Kd.ZR HO109.out BK110.out (by decide)) (fun _ hk => hk.2) (.slice Ao23 t107.length co23)) (fun _ h_ => h_.1)))); (case side2 => exact (Kd.qx HO109.out).2.1); rintro e w26 ⟨rfl, hb⟩; refine ⟨_, rfl, ?_⟩; have n0_ := zA.mk (Kd.ZN (by (with_reducible repeat (first | apply Kd.ze | apply Kd.zf | apply Kd.zo)); exact (Kd.qq (Kd.Zi (p := ⟨gb110, 0, none⟩) (Kd.ZR HO105.out BK110.out (by decide)) (fun _ hk => hk.2) (.slice Ao23 t107.length co23)) (fun _ h_ => h_.1))) hb); have n1_ := zA.mk (Kd.ZN (by (with_reducible repeat (first | apply Kd.ze | apply Kd.zf | apply Kd.zo)); exact (Kd.qq (Kd.Zi (p := ⟨gb110, 0, none⟩) (Kd.ZR HO109.out BK110.out (by decide)) (fun _ hk => hk.2) (.slice Ao23 t107.length co23)) (fun _ h_ => h_.1))) hb); have n2_ := zA.mk (zP (g := gb101) (o := .cells #[.slice A0_0 l0_0.length c0_0] 28 (0, 0)) (by (with_reducible repeat (first | refine zH ?_ _ | refine zJ ?_ | refine zG ?_ _)); refine qE ?_ NB101_110.out _; (with_reducible repeat (first | refine zH ?_ _ | refine zJ ?_ | refine zG ?_ _)); exact BK101.out) hb); have n3_ := zA.mk (zP (g := gb110) (o := .cells #[.slice Ao23 t107.length co23] 35 (0, 0)) (by (with_reducible repeat (first | refine zH ?_ _ | refine zJ ?_ | refine zG ?_ _)); refine qT (cs := #[.slice none 0 0]) ?_ 0 _ rfl; (with_reducible repeat (first | refine zH ?_ _ | refine zJ ?_ | refine zG ?_ _)); exact BK110.out) hb); have n4_ := zA.mk (zM (by repeat (first | (with_reducible first | exact HB.out | apply zC | apply zB | apply zD | refine zF ?_ GE101.out | refine zF ?_ GE110.out) | exact HB.out)) hb); clear HO105; clear HO109; clear BK101; clear BK110; clear HB; have HO105 := n0_; have HO109 := n1_; have BK101 := n2_; have BK110 := n3_; have HB := n4_; clear n0_ n1_ n2_ n3_ n4_; (try clear hb); (try clear hb2); (try clear hk); (try clear hi)))
   go_ret
   exact ⟨by first | rfl | (simp [zX, zY] <;> rfl) | (simp [*, zX, zY] <;> rfl), by repeat (first | (with_reducible first | exact HB.out | apply zC | apply zB | apply zD | refine zF ?_ GE101.out | refine zF ?_ GE110.out) | exact HB.out)⟩
  next =>
   rw [if_neg c12] at H
   have c12b0 : (t111 != t106) = false := by simpa using c12
   (try (have c12b1 : decide (t111 = t106) = true := by simpa using c12))
   (try (have c12b2 : (t111 == t106) = true := by simpa using c12))
   clear c12
   replace H := ydy.mp H
   obtain ⟨t112, A270, H⟩ := H
   replace H : ((qO.f k t107 t112).bind fun t115 => (if t115 = true then (some true) else (some false))) = some r := H
   have A27 := zA.mk A270
   clear A270
   replace H := ydy.mp H
   obtain ⟨t115, A280, H⟩ := H
   replace H : (if t115 = true then (some true) else (some false)) = some r := H
   have A28 := zA.mk A280
   clear A280
   by_cases c29 : t115 = true
   next =>
    subst c29
    have H1 : (some true) = some r := by rw [if_pos rfl] at H; exact H
    clear H
    have H := H1
    clear H1
    obtain rfl := yey H
    go_enter Try.func7, Try.ntmps7
    try go_wp2_with (first | ((with_reducible refine zq (N := 2) rfl ?_); refine zt ?hg (N := 2) ?hd (cs := #[.slice A0_0 l0_0.length c0_0]) (t := 28) ?hr ?_; (case hd => rfl); (case hg => rfl); (case hr => first | (go_simp; done) | (go_simp; rfl)); intro gb101 hg w30 hbox hb; have n0_ := zA.mk (zM (by repeat (first | (with_reducible first | exact HB.out | apply zC | apply zB | apply zD) | exact HB.out)) hb); have n1_ := zA.mk (hbox); have n2_ := zA.mk ((by rw [hg]; exact (zO (by repeat (first | (with_reducible first | exact HB.out | apply zC | apply zB | apply zD) | exact HB.out))) : w.heap.size ≤ gb101)); have n3_ := zA.mk ((by rw [hg]; exact (zO (by repeat (first | (with_reducible first | exact HB.out | apply zC | apply zB | apply zD) | exact HB.out))) : w.heap.size ≤ gb101)); clear HB; have HB := n0_; have BK101 := n1_; have GW101 := n2_; have GE101 := n3_; clear n0_ n1_ n2_ n3_; clear hb hbox hg; have hcz31_0 : w30.cell? ⟨gb101, 0, none⟩ = some (.slice A0_0 l0_0.length c0_0) := (zK BK101.out 0).trans rfl; have hfz31_0 := zN BK101.out 0) | ((with_reducible refine za (f := 16) rfl ?_); refine qL (some 11) rfl rfl Try.func16 (by kernel_rfl) rfl #[.agg #[.slice A0_0 l0_0.length c0_0], .int .i64 1048576] rfl (by (try simp only [yiy, yjy, yky]); first | done | rfl | (simp only [yly, ymy]; rfl)) ?_; (with_reducible refine (qn.calls k _ _ l0_0 1048576 t102 _ ?side1 ?side2 A3.out).mono ?_); (case side1 => repeat (first | exact (Kd.qG HR0_0.out HB.out) | (with_reducible refine Kd.zu ?_ _) | (with_reducible refine Kd.zw ?_ _) | (with_reducible refine Kd.qK ?_))); (case side2 => exact HC0_0.out); rintro e w32 ⟨rfl, hb⟩; refine ⟨_, rfl, ?_⟩; have n0_ := zA.mk (zP (g := gb101) (o := .cells #[.slice A0_0 l0_0.length c0_0] 28 (0, 0)) (by (with_reducible repeat (first | refine zH ?_ _ | refine zJ ?_ | refine zG ?_ _)); exact BK101.out) hb); have n1_ := zA.mk (zM (by repeat (first | (with_reducible first | exact HB.out | apply zC | apply zB | apply zD | refine zF ?_ GE101.out) | exact HB.out)) hb); clear BK101; clear HB; have BK101 := n0_; have HB := n1_; clear n0_ n1_; (try clear hb); (try clear hb2); (try clear hk); (try clear hi); have hcz33_0 : w32.cell? ⟨gb101, 0, none⟩ = some (.slice A0_0 l0_0.length c0_0) := (zK BK101.out 0).trans rfl; have hfz33_0 := zN BK101.out 0) | ((with_reducible refine za (f := 18) rfl ?_); refine qL (some 15) rfl rfl Try.func18 (by kernel_rfl) rfl #[.agg #[.slice A0_0 l0_0.length c0_0]] rfl (by (try simp only [yiy, yjy, yky]); first | done | rfl | (simp only [yly, ymy]; rfl)) ?_; (with_reducible refine (zh.calls k _ _ l0_0 t103 _ ?side1 ?side2 A8.out).mono ?_); (case side1 => repeat (first | exact (Kd.qG HR0_0.out HB.out) | (with_reducible refine Kd.zu ?_ _) | (with_reducible refine Kd.zw ?_ _) | (with_reducible refine Kd.qK ?_))); (case side2 => exact HC0_0.out); rintro e w34 ⟨v104, rfl, ho0, hb⟩; refine ⟨_, rfl, ?_⟩; have n0_ := zA.mk (Kd.Zg ho0 (zO (by repeat (first | (with_reducible first | exact HB.out | apply zC | apply zB | apply zD | refine zF ?_ GE101.out) | exact HB.out)))); have n1_ := zA.mk (zP (g := gb101) (o := .cells #[.slice A0_0 l0_0.length c0_0] 28 (0, 0)) (by (with_reducible repeat (first | refine zH ?_ _ | refine zJ ?_ | refine zG ?_ _)); exact BK101.out) hb); have n2_ := zA.mk (zM (by repeat (first | (with_reducible first | exact HB.out | apply zC | apply zB | apply zD | refine zF ?_ GE101.out) | exact HB.out)) hb); clear BK101; clear HB; have HO105 := n0_; have BK101 := n1_; have HB := n2_; clear n0_ n1_ n2_; (try clear hb); (try clear hb2); (try clear hk); (try clear hi); (try clear ho0); obtain ⟨Ao35, co35, eo35⟩ := Kd.Zz HO105.out; subst eo35) | ((with_reducible refine za (f := 29) rfl ?_); refine qL (some 17) rfl rfl Try.func29 (by kernel_rfl) rfl #[.agg #[.slice Ao35 t103.length co35], .int .i64 a1] rfl (by (try simp only [yiy, yjy, yky]); first | done | rfl | (simp only [yly, ymy]; rfl)) ?_; (with_reducible refine (qZ.calls k _ _ t103 a1 t106 _ ?side1 ?side2 A9.out).mono ?_); (case side1 => repeat (first | exact (Kd.qx HO105.out).2.2 | (with_reducible refine Kd.zu ?_ _) | (with_reducible refine Kd.zw ?_ _) | (with_reducible refine Kd.qK ?_))); (case side2 => exact (Kd.qx HO105.out).2.1); rintro e w36 ⟨rfl, hb⟩; refine ⟨_, rfl, ?_⟩; have n0_ := zA.mk (Kd.ZN (by (with_reducible repeat (first | apply Kd.ze | apply Kd.zf | apply Kd.zo)); exact HO105.out) hb); have n1_ := zA.mk (zP (g := gb101) (o := .cells #[.slice A0_0 l0_0.length c0_0] 28 (0, 0)) (by (with_reducible repeat (first | refine zH ?_ _ | refine zJ ?_ | refine zG ?_ _)); exact BK101.out) hb); have n2_ := zA.mk (zM (by repeat (first | (with_reducible first | exact HB.out | apply zC | apply zB | apply zD | refine zF ?_ GE101.out) | exact HB.out)) hb); clear HO105; clear BK101; clear HB; have HO105 := n0_; have BK101 := n1_; have HB := n2_; clear n0_ n1_ n2_; (try clear hb); (try clear hb2); (try clear hk); (try clear hi); have hcz37_0 : w36.cell? ⟨gb101, 0, none⟩ = some (.slice A0_0 l0_0.length c0_0) := (zK BK101.out 0).trans rfl; have hfz37_0 := zN BK101.out 0) | ((with_reducible refine za (f := 18) rfl ?_); refine qL (some 19) rfl rfl Try.func18 (by kernel_rfl) rfl #[.agg #[.slice A0_0 l0_0.length c0_0]] rfl (by (try simp only [yiy, yjy, yky]); first | done | rfl | (simp only [yly, ymy]; rfl)) ?_; (with_reducible refine (zh.calls k _ _ l0_0 t107 _ ?side1 ?side2 A10.out).mono ?_); (case side1 => repeat (first | exact (Kd.qG HR0_0.out HB.out) | (with_reducible refine Kd.zu ?_ _) | (with_reducible refine Kd.zw ?_ _) | (with_reducible refine Kd.qK ?_))); (case side2 => exact HC0_0.out); rintro e w38 ⟨v108, rfl, ho0, hb⟩; refine ⟨_, rfl, ?_⟩; have n0_ := zA.mk (Kd.ZZ (by (with_reducible repeat (first | apply Kd.ze | apply Kd.zf | apply Kd.zo)); exact HO105.out) (Kd.JK ho0) hb); have n1_ := zA.mk (Kd.Zg (Kd.Zn ho0 (Kd.zCr (by (with_reducible repeat (first | apply Kd.ze | apply Kd.zf | apply Kd.zo)); exact HO105.out))) (zO (by repeat (first | (with_reducible first | exact HB.out | apply zC | apply zB | apply zD | refine zF ?_ GE101.out) | exact HB.out)))); have n2_ := zA.mk (zP (g := gb101) (o := .cells #[.slice A0_0 l0_0.length c0_0] 28 (0, 0)) (by (with_reducible repeat (first | refine zH ?_ _ | refine zJ ?_ | refine zG ?_ _)); exact BK101.out) hb); have n3_ := zA.mk (zM (by repeat (first | (with_reducible first | exact HB.out | apply zC | apply zB | apply zD | refine zF ?_ GE101.out) | exact HB.out)) hb); clear HO105; clear BK101; clear HB; have HO105 := n0_; have HO109 := n1_; have BK101 := n2_; have HB := n3_; clear n0_ n1_ n2_ n3_; (try clear hb); (try clear hb2); (try clear hk); (try clear hi); (try clear ho0)) | ((with_reducible refine zq (N := 7) rfl ?_); refine zt ?hg (N := 7) ?hd (cs := #[.slice none 0 0]) (t := 35) ?hr ?_; (case hd => rfl); (case hg => rfl); (case hr => first | (go_simp; done) | (go_simp; rfl)); intro gb110 hg w39 hbox hb; have n0_ := zA.mk (Kd.ZN (by (with_reducible repeat (first | apply Kd.ze | apply Kd.zf | apply Kd.zo)); exact HO105.out) hb); have n1_ := zA.mk (Kd.ZN (by (with_reducible repeat (first | apply Kd.ze | apply Kd.zf | apply Kd.zo)); exact HO109.out) hb); have n2_ := zA.mk (zP (g := gb101) (o := .cells #[.slice A0_0 l0_0.length c0_0] 28 (0, 0)) (by (with_reducible repeat (first | refine zH ?_ _ | refine zJ ?_ | refine zG ?_ _)); exact BK101.out) hb); have n3_ := zA.mk (zM (by repeat (first | (with_reducible first | exact HB.out | apply zC | apply zB | apply zD | refine zF ?_ GE101.out) | exact HB.out)) hb); have n4_ := zA.mk (hbox); have n5_ := zA.mk ((by rw [hg]; exact (zO (by repeat (first | (with_reducible first | exact HB.out | apply zC | apply zB | apply zD | refine zF ?_ GE101.out) | exact HB.out))) : w.heap.size ≤ gb110)); have n6_ := zA.mk ((by rw [hg]; exact (zO (by repeat (first | (with_reducible first | exact HB.out | apply zC | apply zB | apply zD | refine zF ?_ GE101.out) | exact HB.out))) : w.heap.size ≤ gb110)); have n7_ := zA.mk ((by rw [hg]; exact Nat.ne_of_lt (qN (g := gb101) (o := .cells #[.slice A0_0 l0_0.length c0_0] 28 (0, 0)) (by (with_reducible repeat (first | refine zH ?_ _ | refine zJ ?_ | refine zG ?_ _)); exact BK101.out)) : gb101 ≠ gb110)); have n8_ := zA.mk ((by rw [hg]; exact Nat.ne_of_gt (qN (g := gb101) (o := .cells #[.slice A0_0 l0_0.length c0_0] 28 (0, 0)) (by (with_reducible repeat (first | refine zH ?_ _ | refine zJ ?_ | refine zG ?_ _)); exact BK101.out)) : gb110 ≠ gb101)); clear HO105; clear HO109; clear BK101; clear HB; have HO105 := n0_; have HO109 := n1_; have BK101 := n2_; have HB := n3_; have BK110 := n4_; have GW110 := n5_; have GE110 := n6_; have NB101_110 := n7_; have NB110_101 := n8_; clear n0_ n1_ n2_ n3_ n4_ n5_ n6_ n7_ n8_; clear hb hbox hg; obtain ⟨Ao40, co40, eo40⟩ := Kd.Zz HO109.out; subst eo40; have hnb41 := NB110_101.out; have hnc41 := NB101_110.out; have hcz42_0 : w39.cell? ⟨gb110, 0, none⟩ = some (.slice none 0 0) := (zK BK110.out 0).trans rfl; have hfz42_0 := zN BK110.out 0) | ((with_reducible refine za (f := 30) rfl ?_); refine qL (some 22) rfl rfl Try.func30 (by kernel_rfl) rfl #[.agg #[.slice Ao40 t107.length co40], .int .i64 a1] rfl (by (try simp only [yiy, yjy, yky]); first | done | rfl | (simp only [yly, ymy]; rfl)) ?_; (with_reducible refine (qQ.calls k _ _ t107 a1 t111 _ ?side1 ?side2 A11.out).mono ?_); (case side1 => refine (Kd.qx (e := 76) (base := w.heap.size) (ok := fun k_ => (True ∧ some k_ ≠ (.slice Ao35 t103.length co35 : Value).ownBlock)) (n := t107.length) (c := co40) ?_).2.2; exact (by (with_reducible repeat (first | apply Kd.ze | apply Kd.zf | apply Kd.zo)); exact (Kd.qq (Kd.Zi (p := ⟨gb110, 0, none⟩) (Kd.ZR HO109.out BK110.out (by decide)) (fun _ hk => hk.2) (.slice Ao40 t107.length co40)) (fun _ h_ => h_.1)))); (case side2 => exact (Kd.qx HO109.out).2.1); rintro e w43 ⟨rfl, hb⟩; refine ⟨_, rfl, ?_⟩; have n0_ := zA.mk (Kd.ZN (by (with_reducible repeat (first | apply Kd.ze | apply Kd.zf | apply Kd.zo)); exact (Kd.qq (Kd.Zi (p := ⟨gb110, 0, none⟩) (Kd.ZR HO105.out BK110.out (by decide)) (fun _ hk => hk.2) (.slice Ao40 t107.length co40)) (fun _ h_ => h_.1))) hb); have n1_ := zA.mk (Kd.ZN (by (with_reducible repeat (first | apply Kd.ze | apply Kd.zf | apply Kd.zo)); exact (Kd.qq (Kd.Zi (p := ⟨gb110, 0, none⟩) (Kd.ZR HO109.out BK110.out (by decide)) (fun _ hk => hk.2) (.slice Ao40 t107.length co40)) (fun _ h_ => h_.1))) hb); have n2_ := zA.mk (zP (g := gb101) (o := .cells #[.slice A0_0 l0_0.length c0_0] 28 (0, 0)) (by (with_reducible repeat (first | refine zH ?_ _ | refine zJ ?_ | refine zG ?_ _)); refine qE ?_ NB101_110.out _; (with_reducible repeat (first | refine zH ?_ _ | refine zJ ?_ | refine zG ?_ _)); exact BK101.out) hb); have n3_ := zA.mk (zP (g := gb110) (o := .cells #[.slice Ao40 t107.length co40] 35 (0, 0)) (by (with_reducible repeat (first | refine zH ?_ _ | refine zJ ?_ | refine zG ?_ _)); refine qT (cs := #[.slice none 0 0]) ?_ 0 _ rfl; (with_reducible repeat (first | refine zH ?_ _ | refine zJ ?_ | refine zG ?_ _)); exact BK110.out) hb); have n4_ := zA.mk (zM (by repeat (first | (with_reducible first | exact HB.out | apply zC | apply zB | apply zD | refine zF ?_ GE101.out | refine zF ?_ GE110.out) | exact HB.out)) hb); clear HO105; clear HO109; clear BK101; clear BK110; clear HB; have HO105 := n0_; have HO109 := n1_; have BK101 := n2_; have BK110 := n3_; have HB := n4_; clear n0_ n1_ n2_ n3_ n4_; (try clear hb); (try clear hb2); (try clear hk); (try clear hi)))
    have n0_ := zA.mk (Kd.zo HO105.out)
    have n1_ := zA.mk (Kd.zo HO109.out)
    have n2_ := zA.mk (zJ BK101.out)
    have n3_ := zA.mk (zJ BK110.out)
    have n4_ := zA.mk (zD HB.out)
    clear HO105
    clear HO109
    clear BK101
    clear BK110
    clear HB
    have HO105 := n0_
    have HO109 := n1_
    have BK101 := n2_
    have BK110 := n3_
    have HB := n4_
    clear n0_ n1_ n2_ n3_ n4_
    refine Zm (n := 5) (S := fun w' => w'.cell? ⟨gb110, 0, none⟩ = some (.slice Ao40 t107.length co40) ∧ w'.cell? ⟨gb101, 0, none⟩ = some (.slice A0_0 l0_0.length c0_0)) (ds := []) #[false, false, false, false, false] (by kernel_rfl) rfl rfl ⟨(zK BK110.out 0).trans rfl, (zK BK101.out 0).trans rfl⟩ (fun hHeld => ?_)
    generalize w43.drew = w44 at HO105 HO109 BK101 BK110 HB hHeld ⊢
    refine qz (i := 0) (N := some 26) (v := ?_) (a' := ?_) #[true, false, false, false, false] rfl rfl (by kernel_rfl) (fun _ _ _ h => h) (Or.inl ⟨by rfl, ?_⟩) hHeld ?_ ?_
    rotate_left
    next =>
     rintro w' ⟨s0, s1⟩
     go_simp
     with_reducible rfl
    rotate_left
    next =>
     simp only [Act.put, yay, yby, ycy, zZ, zb]
     rfl
    refine qz (i := 1) (N := some 27) (v := ?_) (a' := ?_) #[true, true, false, false, false] rfl rfl (by kernel_rfl) (fun _ _ _ h => h) (Or.inl ⟨by rfl, ?_⟩) hHeld ?_ ?_
    rotate_left
    next =>
     rintro w' ⟨s0, s1⟩
     go_simp
     with_reducible rfl
    rotate_left
    next =>
     simp only [Act.put, yay, yby, ycy, zZ, zb]
     rfl
    refine Jj (i := 2) (N := some 28) #[true, true, true, false, false] rfl rfl (by kernel_rfl) (by decide) (fun K hK => ?_)
    refine QU Try.func18 (by kernel_rfl) rfl #[.agg #[.slice A0_0 l0_0.length c0_0]] (by rfl) rfl rfl (by (try simp only [yiy, yjy, yky]); first | done | rfl | (simp only [yly, ymy]; rfl)) ?_
    with_reducible refine (zh.calls k _ _ l0_0 t112 _ ?side1 ?side2 A27.out).mono ?_
    (case side1 => repeat (first | exact (Kd.qG HR0_0.out HB.out) | (with_reducible refine Kd.zu ?_ _) | (with_reducible refine Kd.zw ?_ _) | (with_reducible refine Kd.qK ?_)))
    (case side2 => exact HC0_0.out)
    rintro e w45 ⟨v113, rfl, ho0, hb⟩
    refine ⟨_, rfl, ?_⟩
    have n0_ := zA.mk (Kd.ZZ (by (with_reducible repeat (first | apply Kd.ze | apply Kd.zf | apply Kd.zo)); exact HO105.out) (Kd.JK ho0) hb)
    have n1_ := zA.mk (Kd.ZZ (by (with_reducible repeat (first | apply Kd.ze | apply Kd.zf | apply Kd.zo)); exact HO109.out) (Kd.JK ho0) hb)
    have n2_ := zA.mk (Kd.Zg (Kd.Zn (Kd.Zn ho0 (Kd.zCr (by (with_reducible repeat (first | apply Kd.ze | apply Kd.zf | apply Kd.zo)); exact HO105.out))) (Kd.zCr (by (with_reducible repeat (first | apply Kd.ze | apply Kd.zf | apply Kd.zo)); exact HO109.out))) (zO (by repeat (first | (with_reducible first | exact HB.out | apply zC | apply zB | apply zD | refine zF ?_ GE101.out | refine zF ?_ GE110.out) | exact HB.out))))
    have n3_ := zA.mk (zP (g := gb101) (o := .cells #[.slice A0_0 l0_0.length c0_0] 28 (0, 0)) (by (with_reducible repeat (first | refine zH ?_ _ | refine zJ ?_ | refine zG ?_ _)); exact BK101.out) hb)
    have n4_ := zA.mk (zP (g := gb110) (o := .cells #[.slice Ao40 t107.length co40] 35 (0, 0)) (by (with_reducible repeat (first | refine zH ?_ _ | refine zJ ?_ | refine zG ?_ _)); exact BK110.out) hb)
    have n5_ := zA.mk (zM (by repeat (first | (with_reducible first | exact HB.out | apply zC | apply zB | apply zD | refine zF ?_ GE101.out | refine zF ?_ GE110.out) | exact HB.out)) hb)
    clear HO105
    clear HO109
    clear BK101
    clear BK110
    clear HB
    have HO105 := n0_
    have HO109 := n1_
    have HO114 := n2_
    have BK101 := n3_
    have BK110 := n4_
    have HB := n5_
    clear n0_ n1_ n2_ n3_ n4_ n5_
    (try clear hb)
    (try clear hb2)
    (try clear hk)
    (try clear hi)
    (try clear ho0)
    obtain ⟨Ao46, co46, eo46⟩ := Kd.Zz HO114.out
    (first | subst eo46 | (injection eo46 with f1_ f2_ f3_; have f4_ := f1_.symm; have f5_ := f3_.symm; clear f1_ f2_ f3_; subst f4_; subst f5_))
    refine hK.out _ _ ⟨(zK BK110.out 0).trans rfl, (zK BK101.out 0).trans rfl⟩ (fun hHeld => ?_)
    clear hK K
    refine Zx (a' := ?_) ?_ ?_
    rotate_left
    next =>
     show Act.put _ (some 28) _ = _
     simp only [Act.put, yay, yby, ycy, zZ, zb]
     rfl
    refine Jj (i := 3) (N := some 29) #[true, true, true, true, false] rfl rfl (by kernel_rfl) (by decide) (fun K hK => ?_)
    refine QU Try.func21 (by kernel_rfl) rfl #[.agg #[.slice Ao40 t107.length co40], .agg #[.slice Ao46 t112.length co46]] (by rfl) rfl rfl (by (try simp only [yiy, yjy, yky]); first | done | rfl | (simp only [yly, ymy]; rfl)) ?_
    with_reducible refine (qO.calls k _ _ t107 _ _ t112 true _ ?side1 ?side2 ?side3 ?side4 A28.out).mono ?_
    (case side1 => repeat (first | exact (Kd.qx HO109.out).2.2 | (with_reducible refine Kd.zu ?_ _) | (with_reducible refine Kd.zw ?_ _) | (with_reducible refine Kd.qK ?_)))
    (case side2 => exact (Kd.qx HO109.out).2.1)
    (case side3 => repeat (first | exact (Kd.qx HO114.out).2.2 | (with_reducible refine Kd.zu ?_ _) | (with_reducible refine Kd.zw ?_ _) | (with_reducible refine Kd.qK ?_)))
    (case side4 => exact (Kd.qx HO114.out).2.1)
    rintro e w47 ⟨rfl, hb⟩
    refine ⟨_, rfl, ?_⟩
    have n0_ := zA.mk (Kd.ZN (by (with_reducible repeat (first | apply Kd.ze | apply Kd.zf | apply Kd.zo)); exact HO105.out) hb)
    have n1_ := zA.mk (Kd.ZN (by (with_reducible repeat (first | apply Kd.ze | apply Kd.zf | apply Kd.zo)); exact HO109.out) hb)
    have n2_ := zA.mk (Kd.ZN (by (with_reducible repeat (first | apply Kd.ze | apply Kd.zf | apply Kd.zo)); exact HO114.out) hb)
    have n3_ := zA.mk (zP (g := gb101) (o := .cells #[.slice A0_0 l0_0.length c0_0] 28 (0, 0)) (by (with_reducible repeat (first | refine zH ?_ _ | refine zJ ?_ | refine zG ?_ _)); exact BK101.out) hb)
    have n4_ := zA.mk (zP (g := gb110) (o := .cells #[.slice Ao40 t107.length co40] 35 (0, 0)) (by (with_reducible repeat (first | refine zH ?_ _ | refine zJ ?_ | refine zG ?_ _)); exact BK110.out) hb)
    have n5_ := zA.mk (zM (by repeat (first | (with_reducible first | exact HB.out | apply zC | apply zB | apply zD | refine zF ?_ GE101.out | refine zF ?_ GE110.out) | exact HB.out)) hb)
    clear HO105
    clear HO109
    clear HO114
    clear BK101
    clear BK110
    clear HB
    have HO105 := n0_
    have HO109 := n1_
    have HO114 := n2_
    have BK101 := n3_
    have BK110 := n4_
    have HB := n5_
    clear n0_ n1_ n2_ n3_ n4_ n5_
    (try clear hb)
    (try clear hb2)
    (try clear hk)
    (try clear hi)
    refine hK.out _ _ ⟨(zK BK110.out 0).trans rfl, (zK BK101.out 0).trans rfl⟩ (fun hHeld => ?_)
    clear hK K
    refine Zx (a' := ?_) ?_ ?_
    rotate_left
    next =>
     show Act.put _ (some 29) _ = _
     simp only [Act.put, yay, yby, ycy, zZ, zb]
     rfl
    refine zj (i := 4) (N := some 30) (v := ?_) (a' := ?_) #[true, true, true, true, true] rfl rfl (by kernel_rfl) (fun _ _ _ h => h) (Or.inl ⟨by rfl, ?_⟩) ?_ ?_
    rotate_left
    next =>
     intro w'
     go_simp
     with_reducible rfl
    rotate_left
    next =>
     simp only [Act.put, yay, yby, ycy, zZ, zb]
     rfl
    refine Qi (by kernel_rfl) ?_
    try go_wp2
    go_ret
    exact ⟨by first | rfl | (simp [zX, zY] <;> rfl) | (simp [*, zX, zY] <;> rfl), by repeat (first | (with_reducible first | exact HB.out | apply zC | apply zB | apply zD | refine zF ?_ GE101.out | refine zF ?_ GE110.out) | exact HB.out)⟩
   next =>
    replace c29 := Bool.eq_false_iff.mpr c29
    subst c29
    have H1 : (some false) = some r := by rw [if_neg (show ¬ (false = true) by decide)] at H; exact H
    clear H
    have H := H1
    clear H1
    obtain rfl := yey H
    go_enter Try.func7, Try.ntmps7
    try go_wp2_with (first | ((with_reducible refine zq (N := 2) rfl ?_); refine zt ?hg (N := 2) ?hd (cs := #[.slice A0_0 l0_0.length c0_0]) (t := 28) ?hr ?_; (case hd => rfl); (case hg => rfl); (case hr => first | (go_simp; done) | (go_simp; rfl)); intro gb101 hg w48 hbox hb; have n0_ := zA.mk (zM (by repeat (first | (with_reducible first | exact HB.out | apply zC | apply zB | apply zD) | exact HB.out)) hb); have n1_ := zA.mk (hbox); have n2_ := zA.mk ((by rw [hg]; exact (zO (by repeat (first | (with_reducible first | exact HB.out | apply zC | apply zB | apply zD) | exact HB.out))) : w.heap.size ≤ gb101)); have n3_ := zA.mk ((by rw [hg]; exact (zO (by repeat (first | (with_reducible first | exact HB.out | apply zC | apply zB | apply zD) | exact HB.out))) : w.heap.size ≤ gb101)); clear HB; have HB := n0_; have BK101 := n1_; have GW101 := n2_; have GE101 := n3_; clear n0_ n1_ n2_ n3_; clear hb hbox hg; have hcz49_0 : w48.cell? ⟨gb101, 0, none⟩ = some (.slice A0_0 l0_0.length c0_0) := (zK BK101.out 0).trans rfl; have hfz49_0 := zN BK101.out 0) | ((with_reducible refine za (f := 16) rfl ?_); refine qL (some 11) rfl rfl Try.func16 (by kernel_rfl) rfl #[.agg #[.slice A0_0 l0_0.length c0_0], .int .i64 1048576] rfl (by (try simp only [yiy, yjy, yky]); first | done | rfl | (simp only [yly, ymy]; rfl)) ?_; (with_reducible refine (qn.calls k _ _ l0_0 1048576 t102 _ ?side1 ?side2 A3.out).mono ?_); (case side1 => repeat (first | exact (Kd.qG HR0_0.out HB.out) | (with_reducible refine Kd.zu ?_ _) | (with_reducible refine Kd.zw ?_ _) | (with_reducible refine Kd.qK ?_))); (case side2 => exact HC0_0.out); rintro e w50 ⟨rfl, hb⟩; refine ⟨_, rfl, ?_⟩; have n0_ := zA.mk (zP (g := gb101) (o := .cells #[.slice A0_0 l0_0.length c0_0] 28 (0, 0)) (by (with_reducible repeat (first | refine zH ?_ _ | refine zJ ?_ | refine zG ?_ _)); exact BK101.out) hb); have n1_ := zA.mk (zM (by repeat (first | (with_reducible first | exact HB.out | apply zC | apply zB | apply zD | refine zF ?_ GE101.out) | exact HB.out)) hb); clear BK101; clear HB; have BK101 := n0_; have HB := n1_; clear n0_ n1_; (try clear hb); (try clear hb2); (try clear hk); (try clear hi); have hcz51_0 : w50.cell? ⟨gb101, 0, none⟩ = some (.slice A0_0 l0_0.length c0_0) := (zK BK101.out 0).trans rfl; have hfz51_0 := zN BK101.out 0) | ((with_reducible refine za (f := 18) rfl ?_); refine qL (some 15) rfl rfl Try.func18 (by kernel_rfl) rfl #[.agg #[.slice A0_0 l0_0.length c0_0]] rfl (by (try simp only [yiy, yjy, yky]); first | done | rfl | (simp only [yly, ymy]; rfl)) ?_; (with_reducible refine (zh.calls k _ _ l0_0 t103 _ ?side1 ?side2 A8.out).mono ?_); (case side1 => repeat (first | exact (Kd.qG HR0_0.out HB.out) | (with_reducible refine Kd.zu ?_ _) | (with_reducible refine Kd.zw ?_ _) | (with_reducible refine Kd.qK ?_))); (case side2 => exact HC0_0.out); rintro e w52 ⟨v104, rfl, ho0, hb⟩; refine ⟨_, rfl, ?_⟩; have n0_ := zA.mk (Kd.Zg ho0 (zO (by repeat (first | (with_reducible first | exact HB.out | apply zC | apply zB | apply zD | refine zF ?_ GE101.out) | exact HB.out)))); have n1_ := zA.mk (zP (g := gb101) (o := .cells #[.slice A0_0 l0_0.length c0_0] 28 (0, 0)) (by (with_reducible repeat (first | refine zH ?_ _ | refine zJ ?_ | refine zG ?_ _)); exact BK101.out) hb); have n2_ := zA.mk (zM (by repeat (first | (with_reducible first | exact HB.out | apply zC | apply zB | apply zD | refine zF ?_ GE101.out) | exact HB.out)) hb); clear BK101; clear HB; have HO105 := n0_; have BK101 := n1_; have HB := n2_; clear n0_ n1_ n2_; (try clear hb); (try clear hb2); (try clear hk); (try clear hi); (try clear ho0); obtain ⟨Ao53, co53, eo53⟩ := Kd.Zz HO105.out; subst eo53) | ((with_reducible refine za (f := 29) rfl ?_); refine qL (some 17) rfl rfl Try.func29 (by kernel_rfl) rfl #[.agg #[.slice Ao53 t103.length co53], .int .i64 a1] rfl (by (try simp only [yiy, yjy, yky]); first | done | rfl | (simp only [yly, ymy]; rfl)) ?_; (with_reducible refine (qZ.calls k _ _ t103 a1 t106 _ ?side1 ?side2 A9.out).mono ?_); (case side1 => repeat (first | exact (Kd.qx HO105.out).2.2 | (with_reducible refine Kd.zu ?_ _) | (with_reducible refine Kd.zw ?_ _) | (with_reducible refine Kd.qK ?_))); (case side2 => exact (Kd.qx HO105.out).2.1); rintro e w54 ⟨rfl, hb⟩; refine ⟨_, rfl, ?_⟩; have n0_ := zA.mk (Kd.ZN (by (with_reducible repeat (first | apply Kd.ze | apply Kd.zf | apply Kd.zo)); exact HO105.out) hb); have n1_ := zA.mk (zP (g := gb101) (o := .cells #[.slice A0_0 l0_0.length c0_0] 28 (0, 0)) (by (with_reducible repeat (first | refine zH ?_ _ | refine zJ ?_ | refine zG ?_ _)); exact BK101.out) hb); have n2_ := zA.mk (zM (by repeat (first | (with_reducible first | exact HB.out | apply zC | apply zB | apply zD | refine zF ?_ GE101.out) | exact HB.out)) hb); clear HO105; clear BK101; clear HB; have HO105 := n0_; have BK101 := n1_; have HB := n2_; clear n0_ n1_ n2_; (try clear hb); (try clear hb2); (try clear hk); (try clear hi); have hcz55_0 : w54.cell? ⟨gb101, 0, none⟩ = some (.slice A0_0 l0_0.length c0_0) := (zK BK101.out 0).trans rfl; have hfz55_0 := zN BK101.out 0) | ((with_reducible refine za (f := 18) rfl ?_); refine qL (some 19) rfl rfl Try.func18 (by kernel_rfl) rfl #[.agg #[.slice A0_0 l0_0.length c0_0]] rfl (by (try simp only [yiy, yjy, yky]); first | done | rfl | (simp only [yly, ymy]; rfl)) ?_; (with_reducible refine (zh.calls k _ _ l0_0 t107 _ ?side1 ?side2 A10.out).mono ?_); (case side1 => repeat (first | exact (Kd.qG HR0_0.out HB.out) | (with_reducible refine Kd.zu ?_ _) | (with_reducible refine Kd.zw ?_ _) | (with_reducible refine Kd.qK ?_))); (case side2 => exact HC0_0.out); rintro e w56 ⟨v108, rfl, ho0, hb⟩; refine ⟨_, rfl, ?_⟩; have n0_ := zA.mk (Kd.ZZ (by (with_reducible repeat (first | apply Kd.ze | apply Kd.zf | apply Kd.zo)); exact HO105.out) (Kd.JK ho0) hb); have n1_ := zA.mk (Kd.Zg (Kd.Zn ho0 (Kd.zCr (by (with_reducible repeat (first | apply Kd.ze | apply Kd.zf | apply Kd.zo)); exact HO105.out))) (zO (by repeat (first | (with_reducible first | exact HB.out | apply zC | apply zB | apply zD | refine zF ?_ GE101.out) | exact HB.out)))); have n2_ := zA.mk (zP (g := gb101) (o := .cells #[.slice A0_0 l0_0.length c0_0] 28 (0, 0)) (by (with_reducible repeat (first | refine zH ?_ _ | refine zJ ?_ | refine zG ?_ _)); exact BK101.out) hb); have n3_ := zA.mk (zM (by repeat (first | (with_reducible first | exact HB.out | apply zC | apply zB | apply zD | refine zF ?_ GE101.out) | exact HB.out)) hb); clear HO105; clear BK101; clear HB; have HO105 := n0_; have HO109 := n1_; have BK101 := n2_; have HB := n3_; clear n0_ n1_ n2_ n3_; (try clear hb); (try clear hb2); (try clear hk); (try clear hi); (try clear ho0)) | ((with_reducible refine zq (N := 7) rfl ?_); refine zt ?hg (N := 7) ?hd (cs := #[.slice none 0 0]) (t := 35) ?hr ?_; (case hd => rfl); (case hg => rfl); (case hr => first | (go_simp; done) | (go_simp; rfl)); intro gb110 hg w57 hbox hb; have n0_ := zA.mk (Kd.ZN (by (with_reducible repeat (first | apply Kd.ze | apply Kd.zf | apply Kd.zo)); exact HO105.out) hb); have n1_ := zA.mk (Kd.ZN (by (with_reducible repeat (first | apply Kd.ze | apply Kd.zf | apply Kd.zo)); exact HO109.out) hb); have n2_ := zA.mk (zP (g := gb101) (o := .cells #[.slice A0_0 l0_0.length c0_0] 28 (0, 0)) (by (with_reducible repeat (first | refine zH ?_ _ | refine zJ ?_ | refine zG ?_ _)); exact BK101.out) hb); have n3_ := zA.mk (zM (by repeat (first | (with_reducible first | exact HB.out | apply zC | apply zB | apply zD | refine zF ?_ GE101.out) | exact HB.out)) hb); have n4_ := zA.mk (hbox); have n5_ := zA.mk ((by rw [hg]; exact (zO (by repeat (first | (with_reducible first | exact HB.out | apply zC | apply zB | apply zD | refine zF ?_ GE101.out) | exact HB.out))) : w.heap.size ≤ gb110)); have n6_ := zA.mk ((by rw [hg]; exact (zO (by repeat (first | (with_reducible first | exact HB.out | apply zC | apply zB | apply zD | refine zF ?_ GE101.out) | exact HB.out))) : w.heap.size ≤ gb110)); have n7_ := zA.mk ((by rw [hg]; exact Nat.ne_of_lt (qN (g := gb101) (o := .cells #[.slice A0_0 l0_0.length c0_0] 28 (0, 0)) (by (with_reducible repeat (first | refine zH ?_ _ | refine zJ ?_ | refine zG ?_ _)); exact BK101.out)) : gb101 ≠ gb110)); have n8_ := zA.mk ((by rw [hg]; exact Nat.ne_of_gt (qN (g := gb101) (o := .cells #[.slice A0_0 l0_0.length c0_0] 28 (0, 0)) (by (with_reducible repeat (first | refine zH ?_ _ | refine zJ ?_ | refine zG ?_ _)); exact BK101.out)) : gb110 ≠ gb101)); clear HO105; clear HO109; clear BK101; clear HB; have HO105 := n0_; have HO109 := n1_; have BK101 := n2_; have HB := n3_; have BK110 := n4_; have GW110 := n5_; have GE110 := n6_; have NB101_110 := n7_; have NB110_101 := n8_; clear n0_ n1_ n2_ n3_ n4_ n5_ n6_ n7_ n8_; clear hb hbox hg; obtain ⟨Ao58, co58, eo58⟩ := Kd.Zz HO109.out; subst eo58; have hnb59 := NB110_101.out; have hnc59 := NB101_110.out; have hcz60_0 : w57.cell? ⟨gb110, 0, none⟩ = some (.slice none 0 0) := (zK BK110.out 0).trans rfl; have hfz60_0 := zN BK110.out 0) | ((with_reducible refine za (f := 30) rfl ?_); refine qL (some 22) rfl rfl Try.func30 (by kernel_rfl) rfl #[.agg #[.slice Ao58 t107.length co58], .int .i64 a1] rfl (by (try simp only [yiy, yjy, yky]); first | done | rfl | (simp only [yly, ymy]; rfl)) ?_; (with_reducible refine (qQ.calls k _ _ t107 a1 t111 _ ?side1 ?side2 A11.out).mono ?_); (case side1 => refine (Kd.qx (e := 76) (base := w.heap.size) (ok := fun k_ => (True ∧ some k_ ≠ (.slice Ao53 t103.length co53 : Value).ownBlock)) (n := t107.length) (c := co58) ?_).2.2; exact (by (with_reducible repeat (first | apply Kd.ze | apply Kd.zf | apply Kd.zo)); exact (Kd.qq (Kd.Zi (p := ⟨gb110, 0, none⟩) (Kd.ZR HO109.out BK110.out (by decide)) (fun _ hk => hk.2) (.slice Ao58 t107.length co58)) (fun _ h_ => h_.1)))); (case side2 => exact (Kd.qx HO109.out).2.1); rintro e w61 ⟨rfl, hb⟩; refine ⟨_, rfl, ?_⟩; have n0_ := zA.mk (Kd.ZN (by (with_reducible repeat (first | apply Kd.ze | apply Kd.zf | apply Kd.zo)); exact (Kd.qq (Kd.Zi (p := ⟨gb110, 0, none⟩) (Kd.ZR HO105.out BK110.out (by decide)) (fun _ hk => hk.2) (.slice Ao58 t107.length co58)) (fun _ h_ => h_.1))) hb); have n1_ := zA.mk (Kd.ZN (by (with_reducible repeat (first | apply Kd.ze | apply Kd.zf | apply Kd.zo)); exact (Kd.qq (Kd.Zi (p := ⟨gb110, 0, none⟩) (Kd.ZR HO109.out BK110.out (by decide)) (fun _ hk => hk.2) (.slice Ao58 t107.length co58)) (fun _ h_ => h_.1))) hb); have n2_ := zA.mk (zP (g := gb101) (o := .cells #[.slice A0_0 l0_0.length c0_0] 28 (0, 0)) (by (with_reducible repeat (first | refine zH ?_ _ | refine zJ ?_ | refine zG ?_ _)); refine qE ?_ NB101_110.out _; (with_reducible repeat (first | refine zH ?_ _ | refine zJ ?_ | refine zG ?_ _)); exact BK101.out) hb); have n3_ := zA.mk (zP (g := gb110) (o := .cells #[.slice Ao58 t107.length co58] 35 (0, 0)) (by (with_reducible repeat (first | refine zH ?_ _ | refine zJ ?_ | refine zG ?_ _)); refine qT (cs := #[.slice none 0 0]) ?_ 0 _ rfl; (with_reducible repeat (first | refine zH ?_ _ | refine zJ ?_ | refine zG ?_ _)); exact BK110.out) hb); have n4_ := zA.mk (zM (by repeat (first | (with_reducible first | exact HB.out | apply zC | apply zB | apply zD | refine zF ?_ GE101.out | refine zF ?_ GE110.out) | exact HB.out)) hb); clear HO105; clear HO109; clear BK101; clear BK110; clear HB; have HO105 := n0_; have HO109 := n1_; have BK101 := n2_; have BK110 := n3_; have HB := n4_; clear n0_ n1_ n2_ n3_ n4_; (try clear hb); (try clear hb2); (try clear hk); (try clear hi)))
    have n0_ := zA.mk (Kd.zo HO105.out)
    have n1_ := zA.mk (Kd.zo HO109.out)
    have n2_ := zA.mk (zJ BK101.out)
    have n3_ := zA.mk (zJ BK110.out)
    have n4_ := zA.mk (zD HB.out)
    clear HO105
    clear HO109
    clear BK101
    clear BK110
    clear HB
    have HO105 := n0_
    have HO109 := n1_
    have BK101 := n2_
    have BK110 := n3_
    have HB := n4_
    clear n0_ n1_ n2_ n3_ n4_
    refine Zm (n := 5) (S := fun w' => w'.cell? ⟨gb110, 0, none⟩ = some (.slice Ao58 t107.length co58) ∧ w'.cell? ⟨gb101, 0, none⟩ = some (.slice A0_0 l0_0.length c0_0)) (ds := []) #[false, false, false, false, false] (by kernel_rfl) rfl rfl ⟨(zK BK110.out 0).trans rfl, (zK BK101.out 0).trans rfl⟩ (fun hHeld => ?_)
    generalize w61.drew = w62 at HO105 HO109 BK101 BK110 HB hHeld ⊢
    refine qz (i := 0) (N := some 26) (v := ?_) (a' := ?_) #[true, false, false, false, false] rfl rfl (by kernel_rfl) (fun _ _ _ h => h) (Or.inl ⟨by rfl, ?_⟩) hHeld ?_ ?_
    rotate_left
    next =>
     rintro w' ⟨s0, s1⟩
     go_simp
     with_reducible rfl
    rotate_left
    next =>
     simp only [Act.put, yay, yby, ycy, zZ, zb]
     rfl
    refine qz (i := 1) (N := some 27) (v := ?_) (a' := ?_) #[true, true, false, false, false] rfl rfl (by kernel_rfl) (fun _ _ _ h => h) (Or.inl ⟨by rfl, ?_⟩) hHeld ?_ ?_
    rotate_left
    next =>
     rintro w' ⟨s0, s1⟩
     go_simp
     with_reducible rfl
    rotate_left
    next =>
     simp only [Act.put, yay, yby, ycy, zZ, zb]
     rfl
    refine Jj (i := 2) (N := some 28) #[true, true, true, false, false] rfl rfl (by kernel_rfl) (by decide) (fun K hK => ?_)
    refine QU Try.func18 (by kernel_rfl) rfl #[.agg #[.slice A0_0 l0_0.length c0_0]] (by rfl) rfl rfl (by (try simp only [yiy, yjy, yky]); first | done | rfl | (simp only [yly, ymy]; rfl)) ?_
    with_reducible refine (zh.calls k _ _ l0_0 t112 _ ?side1 ?side2 A27.out).mono ?_
    (case side1 => repeat (first | exact (Kd.qG HR0_0.out HB.out) | (with_reducible refine Kd.zu ?_ _) | (with_reducible refine Kd.zw ?_ _) | (with_reducible refine Kd.qK ?_)))
    (case side2 => exact HC0_0.out)
    rintro e w63 ⟨v113, rfl, ho0, hb⟩
    refine ⟨_, rfl, ?_⟩
    have n0_ := zA.mk (Kd.ZZ (by (with_reducible repeat (first | apply Kd.ze | apply Kd.zf | apply Kd.zo)); exact HO105.out) (Kd.JK ho0) hb)
    have n1_ := zA.mk (Kd.ZZ (by (with_reducible repeat (first | apply Kd.ze | apply Kd.zf | apply Kd.zo)); exact HO109.out) (Kd.JK ho0) hb)
    have n2_ := zA.mk (Kd.Zg (Kd.Zn (Kd.Zn ho0 (Kd.zCr (by (with_reducible repeat (first | apply Kd.ze | apply Kd.zf | apply Kd.zo)); exact HO105.out))) (Kd.zCr (by (with_reducible repeat (first | apply Kd.ze | apply Kd.zf | apply Kd.zo)); exact HO109.out))) (zO (by repeat (first | (with_reducible first | exact HB.out | apply zC | apply zB | apply zD | refine zF ?_ GE101.out | refine zF ?_ GE110.out) | exact HB.out))))
    have n3_ := zA.mk (zP (g := gb101) (o := .cells #[.slice A0_0 l0_0.length c0_0] 28 (0, 0)) (by (with_reducible repeat (first | refine zH ?_ _ | refine zJ ?_ | refine zG ?_ _)); exact BK101.out) hb)
    have n4_ := zA.mk (zP (g := gb110) (o := .cells #[.slice Ao58 t107.length co58] 35 (0, 0)) (by (with_reducible repeat (first | refine zH ?_ _ | refine zJ ?_ | refine zG ?_ _)); exact BK110.out) hb)
    have n5_ := zA.mk (zM (by repeat (first | (with_reducible first | exact HB.out | apply zC | apply zB | apply zD | refine zF ?_ GE101.out | refine zF ?_ GE110.out) | exact HB.out)) hb)
    clear HO105
    clear HO109
    clear BK101
    clear BK110
    clear HB
    have HO105 := n0_
    have HO109 := n1_
    have HO114 := n2_
    have BK101 := n3_
    have BK110 := n4_
    have HB := n5_
    clear n0_ n1_ n2_ n3_ n4_ n5_
    (try clear hb)
    (try clear hb2)
    (try clear hk)
    (try clear hi)
    (try clear ho0)
    obtain ⟨Ao64, co64, eo64⟩ := Kd.Zz HO114.out
    (first | subst eo64 | (injection eo64 with f1_ f2_ f3_; have f4_ := f1_.symm; have f5_ := f3_.symm; clear f1_ f2_ f3_; subst f4_; subst f5_))
    refine hK.out _ _ ⟨(zK BK110.out 0).trans rfl, (zK BK101.out 0).trans rfl⟩ (fun hHeld => ?_)
    clear hK K
    refine Zx (a' := ?_) ?_ ?_
    rotate_left
    next =>
     show Act.put _ (some 28) _ = _
     simp only [Act.put, yay, yby, ycy, zZ, zb]
     rfl
    refine Jj (i := 3) (N := some 29) #[true, true, true, true, false] rfl rfl (by kernel_rfl) (by decide) (fun K hK => ?_)
    refine QU Try.func21 (by kernel_rfl) rfl #[.agg #[.slice Ao58 t107.length co58], .agg #[.slice Ao64 t112.length co64]] (by rfl) rfl rfl (by (try simp only [yiy, yjy, yky]); first | done | rfl | (simp only [yly, ymy]; rfl)) ?_
    with_reducible refine (qO.calls k _ _ t107 _ _ t112 false _ ?side1 ?side2 ?side3 ?side4 A28.out).mono ?_
    (case side1 => repeat (first | exact (Kd.qx HO109.out).2.2 | (with_reducible refine Kd.zu ?_ _) | (with_reducible refine Kd.zw ?_ _) | (with_reducible refine Kd.qK ?_)))
    (case side2 => exact (Kd.qx HO109.out).2.1)
    (case side3 => repeat (first | exact (Kd.qx HO114.out).2.2 | (with_reducible refine Kd.zu ?_ _) | (with_reducible refine Kd.zw ?_ _) | (with_reducible refine Kd.qK ?_)))
    (case side4 => exact (Kd.qx HO114.out).2.1)
    rintro e w65 ⟨rfl, hb⟩
    refine ⟨_, rfl, ?_⟩
    have n0_ := zA.mk (Kd.ZN (by (with_reducible repeat (first | apply Kd.ze | apply Kd.zf | apply Kd.zo)); exact HO105.out) hb)
    have n1_ := zA.mk (Kd.ZN (by (with_reducible repeat (first | apply Kd.ze | apply Kd.zf | apply Kd.zo)); exact HO109.out) hb)
    have n2_ := zA.mk (Kd.ZN (by (with_reducible repeat (first | apply Kd.ze | apply Kd.zf | apply Kd.zo)); exact HO114.out) hb)
    have n3_ := zA.mk (zP (g := gb101) (o := .cells #[.slice A0_0 l0_0.length c0_0] 28 (0, 0)) (by (with_reducible repeat (first | refine zH ?_ _ | refine zJ ?_ | refine zG ?_ _)); exact BK101.out) hb)
    have n4_ := zA.mk (zP (g := gb110) (o := .cells #[.slice Ao58 t107.length co58] 35 (0, 0)) (by (with_reducible repeat (first | refine zH ?_ _ | refine zJ ?_ | refine zG ?_ _)); exact BK110.out) hb)
    have n5_ := zA.mk (zM (by repeat (first | (with_reducible first | exact HB.out | apply zC | apply zB | apply zD | refine zF ?_ GE101.out | refine zF ?_ GE110.out) | exact HB.out)) hb)
    clear HO105
    clear HO109
    clear HO114
    clear BK101
    clear BK110
    clear HB
    have HO105 := n0_
    have HO109 := n1_
    have HO114 := n2_
    have BK101 := n3_
    have BK110 := n4_
    have HB := n5_
    clear n0_ n1_ n2_ n3_ n4_ n5_
    (try clear hb)
    (try clear hb2)
    (try clear hk)
    (try clear hi)
    refine hK.out _ _ ⟨(zK BK110.out 0).trans rfl, (zK BK101.out 0).trans rfl⟩ (fun hHeld => ?_)
    clear hK K
    refine Zx (a' := ?_) ?_ ?_
    rotate_left
    next =>
     show Act.put _ (some 29) _ = _
     simp only [Act.put, yay, yby, ycy, zZ, zb]
     rfl
    refine zj (i := 4) (N := some 30) (v := ?_) (a' := ?_) #[true, true, true, true, true] rfl rfl (by kernel_rfl) (fun _ _ _ h => h) (Or.inl ⟨by rfl, ?_⟩) ?_ ?_
    rotate_left
    next =>
     intro w'
     go_simp
     with_reducible rfl
    rotate_left
    next =>
     simp only [Act.put, yay, yby, ycy, zZ, zb]
     rfl
    refine Qi (by kernel_rfl) ?_
    try go_wp2
    go_ret
    exact ⟨by first | rfl | (simp [zX, zY] <;> rfl) | (simp [*, zX, zY] <;> rfl), by repeat (first | (with_reducible first | exact HB.out | apply zC | apply zB | apply zD | refine zF ?_ GE101.out | refine zF ?_ GE110.out) | exact HB.out)⟩
end Go.Proofs.Ytembbpalgfikiaa.P
namespace Go.Proofs.Ytembbpalgfikiaa.P
open Go.RowKit Go.Proofs.YtembbpalgfikiaaW.PrintWords Go.Proofs.Ytembbpalgfikiaa.Lib
set_option linter.unusedVariables false
theorem zAW (a b c : Int) : qk.f a b c = some (decide (b ≤ a) && decide (a ≤ c)) := by
  unfold qk.f
  by_cases h : b ≤ a <;> simp [h]
theorem zFf (a b c : Int) : QJ.f a b c = some (decide (b ≤ a) && decide (a ≤ c)) := by
  unfold QJ.f
  by_cases h : b ≤ a <;> simp [h]
theorem zD9 (a : Int) : qf.f a = some (decide (0 ≤ a) && decide (a ≤ 23)) := by
  unfold qf.f
  by_cases h : 0 ≤ a
  · rw [if_pos h]; simp [h]; omega
  · rw [if_neg h]; simp [h]
theorem zEp (a : Int) : Zs.f a = some (decide (0 ≤ a) && decide (a ≤ 23)) := by
  unfold Zs.f; rw [zAW]; rfl
theorem zCc {p : Int} (h0 : 0 ≤ p) (h1 : p ≤ 23) : ∃ m : Fin 24, p = (m.val : Int) := ⟨⟨p.toNat, by omega⟩, by simp; omega⟩
theorem zCd {p : Int} (h0 : 0 ≤ p) (h1 : p ≤ 23) : Ev (fun k => zT.f k p) (qi p) := by
  obtain ⟨m, rfl⟩ := zCc h0 h1
  have key : ∀ m : Fin 24, zT.f 5 (m.val : Int) = some (qi (m.val : Int)) := by decide +kernel
  exact Ev.of (fun k => zT.mono _ k) (key m)
theorem zEq (p : Int) : (qi p).length = 4 := rfl
theorem Zk {p f : Int} (h0 : 0 ≤ p) (h1 : p ≤ 23) (hf0 : 0 ≤ f) (hf1 : f ≤ 3) : 0 ≤ rd (qi p) f ∧ rd (qi p) f ≤ 3 := by
  obtain ⟨a, b, c, d⟩ := Jn p h0 h1
  exact Jv a b c d f hf0 hf1
theorem Jw {p f : Int} (h0 : 0 ≤ p) (h1 : p ≤ 23) (hf0 : 0 ≤ f) (hf1 : f ≤ 3) : Ev (fun k => qh.f k p f) (rd (qi p) f) := by
  refine Ev.bind (zCd h0 h1) ?_
  exact ZD hf0 (ZD (by rw [zEq]; omega) (Ev.now _))
theorem zE5 {p : Int} (h0 : 0 ≤ p) (h1 : p ≤ 23) : Ev (fun k => qD.f k p) (zD7 p) := by
  obtain ⟨m, rfl⟩ := zCc h0 h1
  have key : ∀ m : Fin 24, qD.f 40 (m.val : Int) = some (zD7 (m.val : Int)) := by decide +kernel
  exact Ev.of (fun k => qD.mono _ k) (key m)
theorem zEr {q p f : Int} (h0 : 0 ≤ p) (h1 : p ≤ 23) (hf0 : 0 ≤ f) (hf1 : f ≤ 3) : ZC.f q p f = some (rd (qi p) f) := if_pos ⟨h0, h1, hf0, hf1⟩
theorem zE6 {q p a : Int} (h0 : 0 ≤ p) (h1 : p ≤ 23) : qt.f q p a = some (a, zD7 p) := by
  unfold qt.f QQ.f
  rw [if_pos ⟨h0, h1⟩]; rfl
abbrev Tri := List (List qA)
def Small (t : Tri) : Prop := t.length ≤ 1048576 ∧ ∀ r ∈ t, r.length ≤ 1048576
def zDh (t : List (List qP)) : Prop := t.length ≤ 1048576 ∧ ∀ r ∈ t, r.length ≤ 1048576
def Fits (t : List (List qP)) : Prop := t.length ≤ 9223372036854775807 ∧ ∀ r ∈ t, r.length ≤ 9223372036854775807
theorem JG (t : List (List qP)) (n : Nat) (h : n < t.length) : ZL t (n : Int) = t[n] := by simp [ZL, h]
theorem Qd (t : Tri) (n : Nat) (h : n < t.length) : zE t (n : Int) = t[n] := by simp [zE, h]
theorem zC2 (t : List qP) (n : Nat) (h : n < t.length) : Zw t (n : Int) = t[n] := by simp [Zw, h]
theorem zAX (t : List qA) (n : Nat) (h : n < t.length) : zI t (n : Int) = t[n] := by simp [zI, h]
theorem zBV (r : List qP) (a : Int) (h0 : 0 ≤ a) (h1 : a ≤ 1048576) (h : r.length ≤ 9223372036854775807) : QF.f r a = some (if a - r.length < 0 then -1 else a - r.length) := by
  unfold QF.f
  rw [qo (by omega) (by omega)]
  split <;> rfl
theorem zDA (t : List (List qP)) (h : Fits t) (hl : t.length ≤ 1048576) : ∃ r, Ev (fun k => qR.l0 k t (1048576 - t.length) 0) r ∧ (0 ≤ r → ∀ x ∈ t, x.length ≤ 1048576) := by
  have key : ∀ d n : Nat, ∀ a : Int, n + d = t.length → 0 ≤ a → a ≤ 1048576 → ∃ r, Ev (fun k => qR.l0 k t a (n : Int)) r ∧ (0 ≤ r → ∀ x ∈ t.drop n, x.length ≤ 1048576) := by
    intro d
    induction d with
    | zero =>
      intro n a hn h0 h1
      refine ⟨a, qU (f := fun _ => some a) (fun k => ?_) (Ev.now a), fun _ x hx => ?_⟩
      · simp only [qR.l0]; rw [if_neg (by omega)]
      · rw [List.drop_eq_nil_of_le (by omega)] at hx; cases hx
    | succ d ih =>
      intro n a hn h0 h1
      have hlt : n < t.length := by omega
      have hf := h.2 t[n] (List.getElem_mem hlt)
      by_cases hc : a - t[n].length < 0
      · refine ⟨-1, qU (f := fun _ => some (-1)) (fun k => ?_) (Ev.now (-1)), fun h => by omega⟩
        simp only [qR.l0]
        rw [if_pos (by omega), if_pos (by omega), JG t n hlt, zBV _ a h0 h1 hf, yfy, if_pos hc]
        rfl
      · obtain ⟨r, hr, hr2⟩ := ih (n + 1) (a - t[n].length) (by omega) (by omega) (by omega)
        refine ⟨r, qU (fun k => ?_) hr, fun h x hx => ?_⟩
        · simp only [qR.l0]
          rw [if_pos (by omega), if_pos (by omega), JG t n hlt, zBV _ a h0 h1 hf, yfy, if_neg hc, if_neg (by omega), Ze (by omega)]
        · rw [yoy hlt] at hx
          rcases List.mem_cons.1 hx with rfl | hx
          · omega
          · exact hr2 h x hx
  obtain ⟨r, hr, hr2⟩ := key t.length 0 (1048576 - t.length) (by omega) (by omega) (by omega)
  exact ⟨r, hr, fun h => by have := hr2 h; rwa [List.drop_zero] at this⟩
theorem zAJ (t : List (List qP)) (h : Fits t) : ∃ r, Ev (fun k => qn.f k t 1048576) r ∧ (¬ r < 0 → zDh t) := by
  by_cases hl : (1048576 - (t.length : Int)) < 0
  · refine ⟨-1, ?_, fun h => by omega⟩
    refine Ev.bind (a := -1) (zCW (fun k => ?_)) (ZD (by omega) (Ev.now _))
    unfold qR.f
    have := h.1
    rw [qo (by omega) (by omega), if_pos hl]
  · obtain ⟨r, hr, hr2⟩ := zDA t h (by omega)
    have h2 : Ev (fun k => qR.f k t 1048576) r := by
      refine Ev.congr (fun k => ?_) hr
      unfold qR.f
      rw [qo (by omega) (by omega), if_neg hl]
    by_cases hn : r < 0
    · exact ⟨-1, Ev.bind h2 (ZD hn (Ev.now _)), fun h => by omega⟩
    · exact ⟨r, Ev.bind h2 (QD hn (Ev.now _)), fun _ => ⟨by omega, hr2 (by omega)⟩⟩
def cvF (x : qP) : qA := ⟨x.f0, x.f1⟩
def cvR (r : List qP) : List qA := r.map cvF
def cvT (t : List (List qP)) : Tri := t.map cvR
theorem zEs {t : List (List qP)} (h : zDh t) : Small (cvT t) := by
  refine ⟨by simp [cvT]; exact h.1, fun r hr => ?_⟩
  obtain ⟨s, hs, rfl⟩ := List.mem_map.1 hr
  simp [cvR]; exact h.2 s hs
theorem zAi {α β : Type} (f : α → β) (l : List α) (z : β) (n : Nat) (h : n < l.length) :
    ((l.take n).map f ++ List.replicate (l.length - n) z).set n (f l[n]) = (l.take (n + 1)).map f ++ List.replicate (l.length - (n + 1)) z := by
  have e : l.length - n = (l.length - (n + 1)) + 1 := by omega
  rw [e, List.replicate_succ, List.set_append_right _ _ (by simp; omega)]
  have : n - ((l.take n).map f).length = 0 := by simp; omega
  rw [this, yby, List.take_succ_eq_append_getElem h, List.map_append, List.append_assoc]
  rfl
theorem zE7 (l : List qP) (h : l.length ≤ 1048576) : Ev (fun k => qY.f k l) (cvR l) := by
  have hl : Ev (fun k => qY.l0 k l (List.replicate l.length zAI) 0) (cvR l) := by
    refine zDU (fun k (s : List qA × Int) => qY.l0 k l s.1 s.2) (fun s => ∃ n : Nat, n ≤ l.length ∧ s.2 = n ∧ s.1 = (l.take n).map cvF ++ List.replicate (l.length - n) zAI) (fun s => l.length - s.2.toNat) (fun _ => cvR l) ?_ (List.replicate l.length zAI, 0) ⟨0, by omega, rfl, by simp⟩
    rintro ⟨a, i⟩ ⟨n, hn, rfl, rfl⟩
    dsimp only
    by_cases hlt : n < l.length
    · refine .inr ⟨((l.take (n + 1)).map cvF ++ List.replicate (l.length - (n + 1)) zAI, ((n + 1 : Nat) : Int)), ⟨n + 1, by omega, rfl, rfl⟩, by simp; omega, rfl, fun k => ?_⟩
      simp only [qY.l0, JB.f, yfy]
      rw [if_pos (by omega), if_pos (by omega), if_pos (by simp; omega), Ze (by omega), yny, zC2 l n hlt]
      have := zAi cvF l zAI n hlt
      rw [← this]
      rfl
    · obtain rfl : n = l.length := by omega
      refine .inl fun k => ?_
      simp only [qY.l0]
      rw [if_neg (by omega)]
      simp [cvR]
  refine Ev.congr (fun k => ?_) hl
  unfold qY.f
  rw [if_pos (by omega), if_pos (by simp; omega), yny]
theorem zDB (l : List (List qP)) (h : zDh l) : Ev (fun k => qS.f k l) (cvT l) := by
  have hl : Ev (fun k => qS.l0 k l (List.replicate l.length []) 0) (cvT l) := by
    refine zCz (fun k (s : Tri × Int) => qS.l0 k l s.1 s.2) (fun s => ∃ n : Nat, n ≤ l.length ∧ s.2 = n ∧ s.1 = (l.take n).map cvR ++ List.replicate (l.length - n) []) (fun s => l.length - s.2.toNat) (fun _ => cvT l) ?_ (List.replicate l.length [], 0) ⟨0, by omega, rfl, by simp⟩
    rintro ⟨a, i⟩ ⟨n, hn, rfl, rfl⟩
    dsimp only
    by_cases hlt : n < l.length
    · obtain ⟨K, hK⟩ := zE7 l[n] (h.2 _ (List.getElem_mem hlt))
      refine .inr ⟨((l.take (n + 1)).map cvR ++ List.replicate (l.length - (n + 1)) [], ((n + 1 : Nat) : Int)), K, ⟨n + 1, by omega, rfl, rfl⟩, by simp; omega, rfl, fun k hk => ?_⟩
      have e : qY.f k l[n] = some _ := hK k hk
      have h1 := h.1
      simp only [qS.l0]
      rw [if_pos (by omega), if_pos (by omega), JG l n hlt, e, yfy, if_pos (by simp; omega), Ze (by omega), yny, zAi cvR l [] n hlt]
    · obtain rfl : n = l.length := by omega
      refine .inl ⟨0, fun k _ => ?_⟩
      simp only [qS.l0]
      rw [if_neg (by omega)]
      simp [cvT]
  have h1 := h.1
  refine Ev.congr (fun k => ?_) hl
  unfold qS.f
  rw [if_pos (by omega), if_pos (by simp; omega), yny]
theorem zAK (l : List (List qP)) (h : zDh l) : Ev (fun k => zh.f k l) (cvT l) := Ev.bind (zDB l h) (Ev.now _)
theorem zE8 (l : List qA) (h : l.length ≤ 1048576) : Ev (fun k => qF.f k l l) true := by
  have hl : Ev (fun k => qF.l0 k l l 0) true := by
    refine zDU (fun k (s : Int) => qF.l0 k l l s) (fun s => ∃ n : Nat, n ≤ l.length ∧ s = n) (fun s => l.length - s.toNat) (fun _ => true) ?_ 0 ⟨0, by omega, rfl⟩
    rintro i ⟨n, hn, rfl⟩
    by_cases hlt : n < l.length
    · refine .inr ⟨((n + 1 : Nat) : Int), ⟨n + 1, by omega, rfl⟩, by simp; omega, rfl, fun k => ?_⟩
      simp only [qF.l0, Qc.f]
      rw [if_pos (by omega), if_pos (by omega), if_pos (by omega), if_pos trivial, if_pos trivial, yfy, if_pos rfl, Ze (by omega)]
    · refine .inl fun k => ?_
      simp only [qF.l0]
      rw [if_neg (by omega)]
  refine Ev.congr (fun k => ?_) hl
  unfold qF.f
  rw [if_pos rfl]
theorem zAL (l : Tri) (h : Small l) : Ev (fun k => qO.f k l l) true := by
  have hl : Ev (fun k => zy.l0 k l l 0) true := by
    refine zCz (fun k (s : Int) => zy.l0 k l l s) (fun s => ∃ n : Nat, n ≤ l.length ∧ s = n) (fun s => l.length - s.toNat) (fun _ => true) ?_ 0 ⟨0, by omega, rfl⟩
    rintro i ⟨n, hn, rfl⟩
    by_cases hlt : n < l.length
    · obtain ⟨K, hK⟩ := zE8 l[n] (h.2 _ (List.getElem_mem hlt))
      refine .inr ⟨((n + 1 : Nat) : Int), K, ⟨n + 1, by omega, rfl⟩, by simp; omega, rfl, fun k hk => ?_⟩
      have e : qF.f k l[n] l[n] = some _ := hK k hk
      have h1 := h.1
      simp only [zy.l0]
      rw [if_pos (by omega), if_pos (by omega), if_pos (by omega), Qd l n hlt, e, yfy, if_pos rfl, Ze (by omega)]
    · refine .inl ⟨0, fun k _ => ?_⟩
      simp only [zy.l0]
      rw [if_neg (by omega)]
  have h2 : Ev (fun k => zy.f k l l) true := by
    refine Ev.congr (fun k => ?_) hl
    unfold zy.f
    rw [if_pos rfl]
  exact Ev.bind h2 (ZD rfl (Ev.now _))
abbrev fc (t : Tri) (a f : Int) : qA := zI (zE t a) f
def zAm (t : Tri) (a f : Int) : Bool :=
  if (fc t a f).f0 = -1 then (fc t a f).f1 == 0
  else if 0 ≤ (fc t a f).f0 ∧ (fc t a f).f0 < (t.length : Int) ∧ 0 ≤ (fc t a f).f1 ∧ (fc t a f).f1 ≤ 23 then
    ((fc t (fc t a f).f0 (rd (qi (fc t a f).f1) f)).f0 == a && (fc t (fc t a f).f0 (rd (qi (fc t a f).f1) f)).f1 == zD7 (fc t a f).f1) && !((fc t a f).f0 == a && rd (qi (fc t a f).f1) f == f)
  else false
def JN (t : Tri) (a : Int) : Int → Nat → Bool
  | _, 0 => true
  | f, d + 1 => zAm t a f && JN t a (f + 1) d
def zA0 (t : Tri) : Int → Nat → Bool
  | _, 0 => true
  | a, d + 1 => JN t a 0 4 && zA0 t (a + 1) d
def ZX (t : Tri) : Bool := decide (t.length ≤ 8) && (t.all (fun r => decide (r.length = 4)) && zA0 t 0 t.length)
section
variable {t : Tri}
theorem row4 (h4 : ∀ r ∈ t, r.length = 4) {a : Int} (h0 : 0 ≤ a) (h1 : a < t.length) : (zE t a).length = 4 := by
  obtain ⟨n, rfl⟩ := Int.eq_ofNat_of_zero_le h0
  rw [Qd t n (by omega)]
  exact h4 _ (List.getElem_mem _)
theorem zBK (h4 : ∀ r ∈ t, r.length = 4) (hn : t.length ≤ 8) {a f : Int} (h0 : 0 ≤ a) (h1 : a < t.length) (hf0 : 0 ≤ f) (hf1 : f ≤ 3) : Ev (fun k => zU.f k t a f) (zAm t a f) := by
  have hr := row4 h4 h0 h1
  refine Ev.congr (fun k => by unfold zU.f; rw [if_pos h0, if_pos h1, if_pos hf0, if_pos (by omega)]) ?_
  change Ev (fun k => if (fc t a f).f0 = -1 then some ((fc t a f).f1 == 0) else _) (zAm t a f)
  unfold zAm
  by_cases hb : (fc t a f).f0 = -1
  · rw [if_pos hb]; exact ZD hb (Ev.now _)
  · refine QD hb ?_
    rw [if_neg hb]
    have hix : qg.f t (fc t a f).f0 = some (decide (0 ≤ (fc t a f).f0) && decide ((fc t a f).f0 ≤ (t.length : Int) - 1)) := by
      unfold qg.f qX.f
      rw [yfy, qo (by omega) (by omega), zAW]; rfl
    have hfalse : Ev (fun k => zU.j0 k a f true t (fc t a f).f0 (fc t a f).f1) false := qU (fun k => by rw [zU.j0, if_pos rfl]) (Ev.now false)
    refine Ev.bind (Qg hix) ?_
    by_cases hi : 0 ≤ (fc t a f).f0 ∧ (fc t a f).f0 < (t.length : Int)
    · refine ZD (by simp; omega) ?_
      refine Ev.bind (Qg (zEp _)) ?_
      by_cases hp : 0 ≤ (fc t a f).f1 ∧ (fc t a f).f1 ≤ 23
      · rw [if_pos ⟨hi.1, hi.2, hp.1, hp.2⟩]
        have e : (!(decide (0 ≤ (fc t a f).f1) && decide ((fc t a f).f1 ≤ 23))) = false := by simp [hp]
        rw [e]
        refine qU (fun k => by rw [zU.j0, if_neg (by simp), zEr hp.1 hp.2 hf0 hf1, yfy]) ?_
        obtain ⟨hg0, hg1⟩ := Zk hp.1 hp.2 hf0 hf1
        have hr2 := row4 h4 hi.1 hi.2
        refine ZD hi.1 (ZD hi.2 (ZD hg0 (ZD (by rw [hr2]; omega) ?_)))
        refine Ev.bind (Qg (zE6 hp.1 hp.2)) ?_
        change Ev (fun k => if ((fc t (fc t a f).f0 (rd (qi (fc t a f).f1) f)).f0 == a && (fc t (fc t a f).f0 (rd (qi (fc t a f).f1) f)).f1 == zD7 (fc t a f).f1) = true then _ else _) _
        generalize ((fc t (fc t a f).f0 (rd (qi (fc t a f).f1) f)).f0 == a && (fc t (fc t a f).f0 (rd (qi (fc t a f).f1) f)).f1 == zD7 (fc t a f).f1) = b
        cases b with
        | false => refine QD (by simp) ?_; rw [Bool.false_and]; exact Ev.now false
        | true =>
          refine ZD rfl ?_
          rw [Bool.true_and]
          by_cases ha : (fc t a f).f0 = a
          · refine ZD ha (zD0 ?_)
            rw [ha]; simp [bne]
          · refine QD ha (zD0 ?_)
            simp [ha]
      · rw [if_neg (by omega)]
        have e : (!(decide (0 ≤ (fc t a f).f1) && decide ((fc t a f).f1 ≤ 23))) = true := by
          rw [Bool.not_eq_true', Bool.and_eq_false_iff, decide_eq_false_iff_not, decide_eq_false_iff_not]; omega
        rw [e]
        exact hfalse
    · rw [if_neg (by omega)]
      refine QD ?_ hfalse
      rw [Bool.and_eq_true, decide_eq_true_eq, decide_eq_true_eq]; omega
theorem zBW (h4 : ∀ r ∈ t, r.length = 4) (hn : t.length ≤ 8) {a : Int} (h0 : 0 ≤ a) (h1 : a < t.length) {R : Bool} (hR : Ev (fun k => zV.l0 k (t.length : Int) (a + 1) t) R) :
    ∀ (d : Nat) (f : Int), 0 ≤ f → f + d = 4 → Ev (fun k => zV.l1 k a (t.length : Int) a f t) (JN t a f d && R)
  | 0, f, hf, he => by
    refine qU (fun k => by rw [zV.l1, if_neg (by omega), qo (by omega) (by omega)]) ?_
    rw [JN, Bool.true_and]; exact hR
  | d + 1, f, hf, he => by
    refine qU (fun k => by rw [zV.l1, if_pos (by omega)]) ?_
    refine Ev.bind (zBK h4 hn h0 h1 hf (by omega)) ?_
    rw [JN]
    cases hg : zAm t a f with
    | false => exact QD (by simp) (by rw [Bool.false_and, Bool.false_and]; exact Ev.now false)
    | true =>
      refine ZD rfl ?_
      rw [Bool.true_and]
      exact Ev.congr (fun k => by rw [qo (by omega) (by omega)]) (zBW h4 hn h0 h1 hR d (f + 1) (by omega) (by omega))
theorem zBX (h4 : ∀ r ∈ t, r.length = 4) (hn : t.length ≤ 8) : ∀ (d : Nat) (a : Int), 0 ≤ a → a + d = t.length → Ev (fun k => zV.l0 k (t.length : Int) a t) (zA0 t a d)
  | 0, a, ha, he => by
    refine qU (fun k => by rw [zV.l0, if_neg (by omega)]) ?_
    exact Ev.now true
  | d + 1, a, ha, he => by
    refine qU (fun k => by rw [zV.l0, if_pos (by omega)]) ?_
    rw [zA0]
    exact zBW h4 hn ha (by omega) (zBX h4 hn d (a + 1) (by omega) (by omega)) 4 0 (by omega) (by omega)
theorem zC3 : t.all (fun r => decide (r.length = 4)) = true ↔ ∀ r ∈ t, r.length = 4 := by simp
theorem zEt (h : Small t) : zk.f t = some (!(t.all fun r => decide (r.length = 4))) := by
  unfold zk.f qC.f
  rw [contO (p := fun r => !(decide (r.length = 4))) t (fun r _ => by
    show qe.f r = _
    unfold qe.f
    congr 1
    by_cases h : r.length = 4
    · simp [h]
    · have : ¬ ((r.length : Int) = 4) := by omega
      simp [h, this]), List.not_all_eq_any_not]
theorem zC4 (h : Small t) : Ev (fun k => zV.f k t) (ZX t) := by
  have hfalse : Ev (fun k => zV.j0 k true t) false := qU (fun k => by rw [zV.j0, if_pos rfl]) (Ev.now false)
  unfold ZX
  by_cases h8 : t.length ≤ 8
  · refine Ev.congr (fun k => by unfold zV.f; rw [if_neg (by omega), zEt h, yfy]) ?_
    rw [ygy h8, Bool.true_and]
    cases hall : t.all (fun r => decide (r.length = 4)) with
    | false => rw [Bool.false_and]; exact hfalse
    | true =>
      rw [Bool.true_and]
      refine qU (fun k => by rw [zV.j0, if_neg (by simp)]) ?_
      exact zBX (zC3.1 hall) h8 t.length 0 (by omega) (by omega)
  · refine Ev.congr (fun k => by unfold zV.f; rw [if_pos (by omega)]) ?_
    rw [yhy h8, Bool.false_and]; exact hfalse
theorem zBY (h4 : ∀ r ∈ t, r.length = 4) (hn : t.length ≤ 8) {a : Int} (h0 : 0 ≤ a) (h1 : a < t.length) {R : Bool} (hR : Ev (fun k => zL.l1 k (a + 1) t) R) :
    ∀ (d : Nat) (f : Int), 0 ≤ f → f + d = 4 → Ev (fun k => zL.l2 k a f t) (JN t a f d && R)
  | 0, f, hf, he => by
    refine qU (fun k => by rw [zL.l2, if_neg (by omega), qo (by omega) (by omega)]) ?_
    rw [JN, Bool.true_and]; exact hR
  | d + 1, f, hf, he => by
    have hr := row4 h4 h0 h1
    have ih : Ev (fun k => zL.l2 k a (wrap64 (f + 1)) t) (JN t a (f + 1) d && R) := Ev.congr (fun k => by rw [qo (by omega) (by omega)]) (zBY h4 hn h0 h1 hR d (f + 1) (by omega) (by omega))
    refine qU (fun k => by rw [zL.l2, if_pos (by omega), if_pos h0, if_pos h1, if_pos hf, if_pos (by omega)]) ?_
    change Ev (fun k => if (fc t a f).f0 = -1 then zL.j3 k a f ((fc t a f).f1 == 0) t (fc t a f).f0 (fc t a f).f1 else zL.j3 k a f false t (fc t a f).f0 (fc t a f).f1) _
    rw [JN]
    have hstop : ∀ b, Ev (fun k => zL.j4 k a f true t (fc t a f).f0 (fc t a f).f1) (false && b) := fun b => by
      rw [Bool.false_and]; exact qU (fun k => by rw [zL.j4, if_pos rfl]) (Ev.now false)
    have hgo : Ev (fun k => zL.j3 k a f true t (fc t a f).f0 (fc t a f).f1) (JN t a (f + 1) d && R) := qU (fun k => by rw [zL.j3, if_pos rfl]) ih
    have hrest : (¬ ((fc t a f).f0 = -1 ∧ (fc t a f).f1 = 0)) → Ev (fun k => zL.j3 k a f false t (fc t a f).f0 (fc t a f).f1) (zAm t a f && JN t a (f + 1) d && R) := by
      intro hnb
      refine qU (fun k => by rw [zL.j3, qV.f, if_neg (by simp), yfy, zFf, yfy, qo (by omega) (by omega)]) ?_
      unfold zAm
      by_cases hi : 0 ≤ (fc t a f).f0 ∧ (fc t a f).f0 < (t.length : Int)
      · refine ZD (by simp; omega) ?_
        refine Ev.bind (Qg (zD9 _)) ?_
        rw [if_neg (by omega)]
        by_cases hp : 0 ≤ (fc t a f).f1 ∧ (fc t a f).f1 ≤ 23
        · rw [if_pos ⟨hi.1, hi.2, hp.1, hp.2⟩]
          have e : (!(decide (0 ≤ (fc t a f).f1) && decide ((fc t a f).f1 ≤ 23))) = false := by simp [hp]
          rw [e]
          obtain ⟨hg0, hg1⟩ := Zk hp.1 hp.2 hf (by omega)
          have hr2 := row4 h4 hi.1 hi.2
          refine qU (fun k => by rw [zL.j4, if_neg (by simp)]) ?_
          refine Ev.bind (Jw hp.1 hp.2 hf (by omega)) ?_
          refine Ev.bind (zE5 hp.1 hp.2) ?_
          refine ZD hi.1 (ZD hi.2 (ZD hg0 (ZD (by rw [hr2]; omega) ?_)))
          change Ev (fun k => if (!((fc t (fc t a f).f0 (rd (qi (fc t a f).f1) f)).f0 == a) || !((fc t (fc t a f).f0 (rd (qi (fc t a f).f1) f)).f1 == zD7 (fc t a f).f1)) = true then _ else _) _
          generalize ((fc t (fc t a f).f0 (rd (qi (fc t a f).f1) f)).f0 == a) = b1
          generalize ((fc t (fc t a f).f0 (rd (qi (fc t a f).f1) f)).f1 == zD7 (fc t a f).f1) = b2
          cases b1 with
          | false => exact ZD rfl (by rw [Bool.false_and, Bool.false_and, Bool.false_and, Bool.false_and]; exact Ev.now false)
          | true =>
            cases b2 with
            | false => exact ZD rfl (by rw [Bool.true_and, Bool.false_and, Bool.false_and, Bool.false_and]; exact Ev.now false)
            | true =>
              refine QD (by simp) ?_
              rw [Bool.true_and, Bool.true_and]
              by_cases ha : (fc t a f).f0 = a
              · refine ZD ha ?_
                by_cases hg : rd (qi (fc t a f).f1) f = f
                · refine ZD hg ?_
                  rw [ha, hg]
                  simp
                  exact Ev.now false
                · refine QD hg ?_
                  have : (rd (qi (fc t a f).f1) f == f) = false := by simp [hg]
                  rw [this, Bool.and_false, Bool.not_false, Bool.true_and]
                  exact ih
              · refine QD ha ?_
                have : ((fc t a f).f0 == a) = false := by simp [ha]
                rw [this, Bool.false_and, Bool.not_false, Bool.true_and]
                exact ih
        · rw [if_neg (by omega)]
          have e : (!(decide (0 ≤ (fc t a f).f1) && decide ((fc t a f).f1 ≤ 23))) = true := by
            rw [Bool.not_eq_true', Bool.and_eq_false_iff, decide_eq_false_iff_not, decide_eq_false_iff_not]; omega
          rw [e, Bool.false_and]
          exact hstop R
      · have hg : (if (fc t a f).f0 = -1 then ((fc t a f).f1 == 0) else if 0 ≤ (fc t a f).f0 ∧ (fc t a f).f0 < (t.length : Int) ∧ 0 ≤ (fc t a f).f1 ∧ (fc t a f).f1 ≤ 23 then
            ((fc t (fc t a f).f0 (rd (qi (fc t a f).f1) f)).f0 == a && (fc t (fc t a f).f0 (rd (qi (fc t a f).f1) f)).f1 == zD7 (fc t a f).f1) && !((fc t a f).f0 == a && rd (qi (fc t a f).f1) f == f) else false) = false := by
          by_cases hb : (fc t a f).f0 = -1
          · rw [if_pos hb]; simp; intro h; exact hnb ⟨hb, h⟩
          · rw [if_neg hb, if_neg (by omega)]
        rw [hg, Bool.false_and]
        refine QD ?_ (hstop R)
        rw [Bool.and_eq_true, decide_eq_true_eq, decide_eq_true_eq]; omega
    by_cases hb : (fc t a f).f0 = -1
    · refine ZD hb ?_
      by_cases h0' : (fc t a f).f1 = 0
      · have e : zAm t a f = true := by unfold zAm; rw [if_pos hb]; simp [h0']
        rw [e, Bool.true_and]
        have e2 : ((fc t a f).f1 == 0) = true := by simp [h0']
        rw [e2]; exact hgo
      · have e2 : ((fc t a f).f1 == 0) = false := by simp [h0']
        rw [e2]; exact hrest (fun h => h0' h.2)
    · exact QD hb (hrest (fun h => hb h.1))
theorem zBZ (h4 : ∀ r ∈ t, r.length = 4) (hn : t.length ≤ 8) : ∀ (d : Nat) (a : Int), 0 ≤ a → a + d = t.length → Ev (fun k => zL.l1 k a t) (zA0 t a d)
  | 0, a, ha, he => by
    refine qU (fun k => by rw [zL.l1, qV.f, yfy, if_neg (by omega)]) ?_
    exact Ev.now true
  | d + 1, a, ha, he => by
    refine qU (fun k => by rw [zL.l1, qV.f, yfy, if_pos (by omega)]) ?_
    rw [zA0]
    exact zBY h4 hn ha (by omega) (zBZ h4 hn d (a + 1) (by omega) (by omega)) 4 0 (by omega) (by omega)
theorem zE9 (h8 : t.length ≤ 8) (d : Nat) : ∀ n : Nat, n + d = t.length → (t.all (fun r => decide (r.length = 4)) = (t.drop n).all (fun r => decide (r.length = 4))) → Ev (fun k => zL.l0 k (n : Int) t) (t.all (fun r => decide (r.length = 4)) && zA0 t 0 t.length) := by
  induction d with
  | zero =>
    intro n hn ha
    refine qU (fun k => by rw [zL.l0, if_neg (by omega)]) ?_
    have hall : t.all (fun r => decide (r.length = 4)) = true := by rw [ha, List.drop_eq_nil_of_le (by omega)]; rfl
    rw [hall, Bool.true_and]
    exact zBZ (zC3.1 hall) h8 t.length 0 (by omega) (by omega)
  | succ d ih =>
    intro n hn ha
    have hlt : n < t.length := by omega
    refine qU (fun k => by rw [zL.l0, if_pos (by omega), if_pos (by omega), Qd t n hlt]) ?_
    rw [yoy hlt, List.all_cons] at ha
    by_cases h : t[n].length = 4
    · refine ZD (by omega) ?_
      refine Ev.congr (fun k => by rw [Ze (by omega)]) (ih (n + 1) (by omega) ?_)
      rw [ha, ygy h, Bool.true_and]
    · refine QD (by omega) ?_
      rw [ha, yhy h, Bool.false_and, Bool.false_and]
      exact Ev.now false
theorem zC5 (t : Tri) : Ev (fun k => zL.f k t) (ZX t) := by
  refine Ev.congr (fun k => by unfold zL.f qV.f; rw [yfy]) ?_
  unfold ZX
  by_cases h8 : t.length ≤ 8
  · refine QD (by omega) ?_
    rw [ygy h8, Bool.true_and]
    exact zE9 h8 t.length 0 (by omega) (by rw [List.drop_zero])
  · refine ZD (by omega) ?_
    rw [yhy h8, Bool.false_and]
    exact Ev.now false
end
theorem qw {t : Tri} (h : ZX t = true) : t.length ≤ 8 ∧ (∀ r ∈ t, r.length = 4) ∧ zA0 t 0 t.length = true := by
  unfold ZX at h
  rw [Bool.and_eq_true, Bool.and_eq_true, decide_eq_true_eq] at h
  exact ⟨h.1, zC3.1 h.2.1, h.2.2⟩
theorem zEu (t : Tri) (a : Int) (d : Nat) : ∀ f, JN t a f d = true → ∀ g, f ≤ g → g < f + d → zAm t a g = true := by
  induction d with
  | zero => intro f _ g h1 h2; omega
  | succ d ih =>
    intro f h g h1 h2
    rw [JN, Bool.and_eq_true] at h
    by_cases e : g = f
    · rw [e]; exact h.1
    · exact ih (f + 1) h.2 g (by omega) (by omega)
theorem zEv (t : Tri) (d : Nat) : ∀ a, zA0 t a d = true → ∀ b, a ≤ b → b < a + d → ∀ g, 0 ≤ g → g ≤ 3 → zAm t b g = true := by
  induction d with
  | zero => intro a _ b h1 h2; omega
  | succ d ih =>
    intro a h b h1 h2 g hg0 hg1
    rw [zA0, Bool.and_eq_true] at h
    by_cases e : b = a
    · rw [e]; exact zEu t a 4 0 h.1 g hg0 (by omega)
    · exact ih (a + 1) h.2 b (by omega) (by omega) g hg0 hg1
theorem Jo {t : Tri} (h : ZX t = true) {a f : Int} (h0 : 0 ≤ a) (h1 : a < t.length) (hf0 : 0 ≤ f) (hf1 : f ≤ 3) :
    ((fc t a f).f0 = -1 ∧ (fc t a f).f1 = 0) ∨
    ((0 ≤ (fc t a f).f0 ∧ (fc t a f).f0 < (t.length : Int) ∧ 0 ≤ (fc t a f).f1 ∧ (fc t a f).f1 ≤ 23) ∧
      (fc t (fc t a f).f0 (rd (qi (fc t a f).f1) f)).f0 = a ∧ (fc t (fc t a f).f0 (rd (qi (fc t a f).f1) f)).f1 = zD7 (fc t a f).f1 ∧ ¬ ((fc t a f).f0 = a ∧ rd (qi (fc t a f).f1) f = f)) := by
  have hg := zEv t t.length 0 (qw h).2.2 a h0 (by omega) f hf0 hf1
  unfold zAm at hg
  by_cases hb : (fc t a f).f0 = -1
  · rw [if_pos hb] at hg
    exact .inl ⟨hb, by simpa using hg⟩
  · rw [if_neg hb] at hg
    by_cases hi : 0 ≤ (fc t a f).f0 ∧ (fc t a f).f0 < (t.length : Int) ∧ 0 ≤ (fc t a f).f1 ∧ (fc t a f).f1 ≤ 23
    · rw [if_pos hi, Bool.and_eq_true, Bool.and_eq_true, Bool.not_eq_true'] at hg
      refine .inr ⟨hi, eq_of_beq hg.1.1, eq_of_beq hg.1.2, fun hc => ?_⟩
      have := hg.2
      rw [Bool.and_eq_false_iff] at this
      rcases this with h2 | h2
      · exact absurd hc.1 (by simpa using h2)
      · exact absurd hc.2 (by simpa using h2)
    · rw [if_neg hi] at hg; cases hg
theorem rowlen {t : Tri} (h : ZX t = true) {a : Int} (h0 : 0 ≤ a) (h1 : a < t.length) : (zE t a).length = 4 := row4 (qw h).2.1 h0 h1
theorem zFg {p : Int} (h0 : 0 ≤ p) (h1 : p ≤ 23) : zAl p = 1 ∨ zAl p = -1 := by
  obtain ⟨m, rfl⟩ := zCc h0 h1
  have key : ∀ m : Fin 24, zAl (m.val : Int) = 1 ∨ zAl (m.val : Int) = -1 := by decide +kernel
  exact key m
theorem zCe {p : Int} (h0 : 0 ≤ p) (h1 : p ≤ 23) : Ev (fun k => zg.f k p) (zAl p) := by
  obtain ⟨m, rfl⟩ := zCc h0 h1
  have key : ∀ m : Fin 24, zg.f 40 (m.val : Int) = some (zAl (m.val : Int)) := by decide +kernel
  exact Ev.of (fun k => zg.mono _ k) (key m)
def zc : List Int → Nat
  | [] => 0
  | x :: xs => (if x = 0 then 1 else 0) + zc xs
theorem zc_le (l : List Int) : zc l ≤ l.length := by
  induction l with
  | nil => simp [zc]
  | cons x xs ih => simp only [zc, List.length_cons]; split <;> omega
theorem zG5 : ∀ (l : List Int) (n : Nat) (v : Int), n < l.length → l.getD n 0 = 0 → v ≠ 0 → zc (l.set n v) + 1 = zc l
  | [], n, v, h, _, _ => by simp at h
  | x :: xs, 0, v, _, hz, hv => by
    have hx : x = 0 := by simpa using hz
    simp [zc, hx, hv]; omega
  | x :: xs, n + 1, v, h, hz, hv => by
    have := zG5 xs n v (by simpa using h) (by simpa using hz) hv
    simp only [ycy, zc]; omega
abbrev pm (x : Int) : Prop := x = 1 ∨ x = -1
structure Inv (n : Nat) (sg qu : List Int) : Prop where
  len : sg.length = n
  small : ∀ x : Int, 0 ≤ x → x < n → rd sg x = 0 ∨ pm (rd sg x)
  queue : ∀ x ∈ qu, 0 ≤ x ∧ x < n ∧ pm (rd sg x)
theorem zA1 {l : List Int} {a b v : Int} (ha0 : 0 ≤ a) (ha1 : a < l.length) (hb : 0 ≤ b) : rd (l.set a.toNat v) b = if b = a then v else rd l b := by
  unfold rd
  by_cases e : b = a
  · subst e
    rw [if_pos rfl]
    have : b.toNat < l.length := by omega
    simp [List.getD_eq_getElem?_getD, this]
  · rw [if_neg e]
    have : a.toNat ≠ b.toNat := by omega
    simp [List.getD_eq_getElem?_getD, List.getElem?_set_ne this]
theorem zDi {l : List Int} {i : Int} (h0 : 0 ≤ i) (h1 : i < l.length) : rd l i ∈ l := by
  obtain ⟨n, rfl⟩ := Int.eq_ofNat_of_zero_le h0
  rw [zFZ l n (by omega)]
  exact List.getElem_mem _
theorem Inv.set {n : Nat} {sg qu : List Int} (h : Inv n sg qu) {k v : Int} (h0 : 0 ≤ k) (h1 : k < n) (hv : pm v) : Inv n (sg.set k.toNat v) (qu ++ [k]) := by
  have hl := h.len
  refine ⟨by rw [List.length_set]; exact hl, fun x hx0 hx1 => ?_, fun x hx => ?_⟩
  · rw [zA1 h0 (by omega) hx0]
    split
    · exact .inr hv
    · exact h.small x hx0 hx1
  · rcases List.mem_append.1 hx with hx | hx
    · obtain ⟨a, b, c⟩ := h.queue x hx
      refine ⟨a, b, ?_⟩
      rw [zA1 h0 (by omega) a]
      split
      · exact hv
      · exact c
    · rw [List.mem_singleton.1 hx]
      refine ⟨h0, h1, ?_⟩
      rw [zA1 h0 (by omega) h0, if_pos rfl]
      exact hv
theorem zEw {s p : Int} (hs : pm s) (hp : pm p) : wrap64 (s * wrap64 (-p)) = wrap64 (wrap64 (-s) * p) ∧ pm (wrap64 (wrap64 (-s) * p)) := by
  rcases hs with rfl | rfl <;> rcases hp with rfl | rfl <;> decide +kernel
theorem zFh {n : Nat} {sg qu : List Int} (h : Inv n sg qu) (ok : Bool) {i k p : Int} (hi0 : 0 ≤ i) (hi1 : i < qu.length) (h0 : 0 ≤ k) (h1 : k < n) (hp : pm p) :
    ∃ (sg' qu' : List Int) (c : Bool), vis sg qu ok i k (wrap64 (-p)) = (sg', qu', ok && c) ∧ Inv n sg' qu' ∧ qu.length ≤ qu'.length ∧ rd qu' i = rd qu i ∧ zc sg' + qu'.length = zc sg + qu.length ∧
      (rd sg k = 0 → sg' = sg.set k.toNat (wrap64 (wrap64 (-(rd sg (rd qu i))) * p)) ∧ qu' = qu ++ [k] ∧ c = true) ∧
      (rd sg k ≠ 0 → sg' = sg ∧ qu' = qu ∧ (c = true ↔ rd sg k = wrap64 (wrap64 (-(rd sg (rd qu i))) * p))) := by
  obtain ⟨q0, q1, qs⟩ := h.queue _ (zDi hi0 hi1)
  obtain ⟨we, wp⟩ := zEw qs hp
  unfold vis
  rw [we]
  generalize wrap64 (wrap64 (-(rd sg (rd qu i))) * p) = want at wp ⊢
  have hl := h.len
  by_cases hz : rd sg k = 0
  · rw [if_pos hz]
    refine ⟨sg.set k.toNat want, qu ++ [k], true, by simp, h.set h0 h1 wp, by simp, zG2 qu k i hi0 hi1, ?_, fun _ => ⟨rfl, rfl, rfl⟩, fun hn => absurd hz hn⟩
    have := zG5 sg k.toNat want (by omega) hz (by rcases wp with rfl | rfl <;> decide)
    simp; omega
  · rw [if_neg hz]
    have hs := (h.small k h0 h1).resolve_left hz
    by_cases hc : rd sg k = wrap64 (-want)
    · rw [if_pos hc]
      refine ⟨sg, qu, false, by simp, h, yqy _, rfl, rfl, fun hn => absurd hn hz, fun _ => ⟨rfl, rfl, ?_⟩⟩
      constructor
      · intro hf; cases hf
      · intro he
        rw [he] at hc
        rcases wp with rfl | rfl <;> revert hc <;> decide +kernel
    · rw [if_neg hc]
      refine ⟨sg, qu, true, by simp, h, yqy _, rfl, rfl, fun hn => absurd hn hz, fun _ => ⟨rfl, rfl, ?_⟩⟩
      refine ⟨fun _ => ?_, fun _ => rfl⟩
      rcases hs with e | e <;> rcases wp with rfl | rfl <;> rw [e] at hc ⊢ <;> first | rfl | (exact absurd rfl hc) | (revert hc; decide +kernel)
section
variable {t : Tri}
theorem zDj (h : ZX t = true) {a f : Int} (h0 : 0 ≤ a) (h1 : a < t.length) (hf0 : 0 ≤ f) (hf1 : f ≤ 3) (hb : ¬ (fc t a f).f0 < 0) : (0 ≤ (fc t a f).f0 ∧ (fc t a f).f0 < (t.length : Int)) ∧ (0 ≤ (fc t a f).f1 ∧ (fc t a f).f1 ≤ 23) := by
  rcases Jo h h0 h1 hf0 hf1 with ⟨e, _⟩ | ⟨e, _⟩
  · omega
  · exact ⟨⟨e.1, e.2.1⟩, e.2.2⟩
end
end Go.Proofs.Ytembbpalgfikiaa.P
namespace Go.Proofs.Ytembbpalgfikiaa.Lib
open Go.RowKit Go.Proofs.YtembbpalgfikiaaW.PrintWords
set_option linter.unusedVariables false
def Low (s : List Int) : Prop := ∀ i : Nat, i < s.length → 0 ≤ s.getD i 0 ∧ s.getD i 0 ≤ i ∧ s.getD (s.getD i 0).toNat 0 = s.getD i 0
theorem zEx (n : Nat) : Low (ZU 0 n) := by
  intro i hi
  rw [Za] at hi
  have h := zBR 0 n i hi
  rw [Int.zero_add] at h
  rw [h]
  refine ⟨by omega, by omega, ?_⟩
  rw [yny, h]
theorem zDC {s : List Int} (h : Low s) {i k : Int} (hi0 : 0 ≤ i) (hi1 : i < s.length) (hk0 : 0 ≤ k) (hk1 : k < s.length) : Low (joi s i k) := by
  have a1 := h i.toNat (by omega)
  have a2 := h k.toNat (by omega)
  rw [← zEf] at a1 a2
  intro n hn
  rw [QH] at hn
  have a3 := h n hn
  have gt : ∀ m : Nat, m < s.length → (joi s i k).getD m 0 = if s.getD m 0 = max (rd s i) (rd s k) then min (rd s i) (rd s k) else s.getD m 0 := fun m hm => zD1 s i k m hm
  generalize rd s i = p at *
  generalize rd s k = q at *
  rw [gt n hn]
  generalize hx : s.getD n 0 = x at *
  have lm : ∀ y : Int, 0 ≤ y → y < s.length → s.getD y.toNat 0 = y → (joi s i k).getD y.toNat 0 = if y = max p q then min p q else y := fun y h0 h1 h2 => by rw [gt y.toNat (by omega), h2]
  by_cases e : x = max p q
  · rw [if_pos e]
    refine ⟨by omega, by omega, ?_⟩
    rcases Int.le_total p q with hpq | hpq
    · have e1 : min p q = p := by omega
      have e2 : max p q = q := by omega
      rw [e1, lm p (by omega) (by omega) a1.2.2, e1, e2]
      split
      · rfl
      · rfl
    · have e1 : min p q = q := by omega
      have e2 : max p q = p := by omega
      rw [e1, lm q (by omega) (by omega) a2.2.2, e1, e2]
      split
      · rfl
      · rfl
  · rw [if_neg e]
    refine ⟨a3.1, a3.2.1, ?_⟩
    rw [lm x a3.1 (by omega) a3.2.2, if_neg e]
def roots (m : List Int) : Nat → List Int
  | 0 => []
  | i + 1 => if m.getD i 0 = i then roots m i ++ [(i : Int)] else roots m i
theorem zAo (m : List Int) : ∀ (i : Nat) (x : Int), x ∈ roots m i → 0 ≤ x ∧ x < i ∧ m.getD x.toNat 0 = x
  | 0, x, h => by cases h
  | i + 1, x, h => by
    rw [roots] at h
    split at h
    · rename_i hc
      rcases List.mem_append.1 h with h | h
      · have := zAo m i x h; exact ⟨this.1, by omega, this.2.2⟩
      · have e : x = (i : Int) := by simpa using h
        subst e
        exact ⟨by omega, by omega, by rw [yny]; exact hc⟩
    · have := zAo m i x h; exact ⟨this.1, by omega, this.2.2⟩
theorem zAM (m : List Int) (j : Nat) (hj : m.getD j 0 = j) : ∀ i : Nat, j < i → (j : Int) ∈ roots m i ∧ (roots m i).idxOf (j : Int) = (roots m j).length
  | 0, h => by omega
  | i + 1, h => by
    rw [roots]
    by_cases e : j = i
    · subst e
      have hn : (j : Int) ∉ roots m j := fun hm => by have := zAo m j _ hm; omega
      rw [if_pos hj]
      refine ⟨by simp, ?_⟩
      rw [List.idxOf_append, if_neg hn]; simp
    · obtain ⟨h1, h2⟩ := zAM m j hj i (by omega)
      split
      · refine ⟨List.mem_append_left _ h1, ?_⟩
        rw [List.idxOf_append, if_pos h1, h2]
      · exact ⟨h1, h2⟩
theorem zAY (m : List Int) (i : Nat) : ∀ d : Nat, (roots m i).length ≤ (roots m (i + d)).length
  | 0 => yqy _
  | d + 1 => by
    have := zAY m i d
    rw [← Nat.add_assoc, roots]
    split
    · simp; omega
    · exact this
def zEA (m : List Int) (x : Int) : Int := ((roots m x.toNat).length : Int)
theorem zCf {m : List Int} (h : Low m) : ∀ (d i : Nat), i + d = m.length → Jx (roots m i) (m.drop i) = (m.drop i).map (zEA m)
  | 0, i, hi => by rw [List.drop_eq_nil_of_le (by omega)]; rfl
  | d + 1, i, hi => by
    have hlt : i < m.length := by omega
    have hg : m.getD i 0 = m[i] := by simp [hlt]
    obtain ⟨h0, h1, h2⟩ := h i hlt
    rw [hg] at h0 h1 h2
    rw [yoy hlt, Jx, yjy]
    have ih := zCf h d (i + 1) (by omega)
    rw [roots, hg] at ih
    by_cases e : m[i] = (i : Int)
    · have hn : m[i] ∉ roots m i := fun hm => by have := zAo m i _ hm; omega
      rw [if_neg hn]
      rw [if_pos e, ← e] at ih
      rw [ih]
      have er : zEA m m[i] = ((roots m i).length : Int) := by unfold zEA; rw [e, yny]
      rw [er]
    · obtain ⟨j, hj⟩ := Int.eq_ofNat_of_zero_le h0
      rw [hj, yny] at h2
      obtain ⟨k1, k2⟩ := zAM m j h2 i (by omega)
      rw [if_neg e] at ih
      rw [ih]
      have er : zEA m m[i] = ((roots m j).length : Int) := by unfold zEA; rw [hj, yny]
      rw [er, hj, if_pos k1, k2]
theorem zAp {m : List Int} (h : Low m) : zBt m = m.map (zEA m) := by
  have := zCf h m.length 0 (by omega)
  rw [List.drop_zero] at this
  exact this
def zEB (m : List Int) : Nat → Nat → List Int × Int → List Int × Int
  | _, 0, s => s
  | i, d + 1, s => zEB m (i + 1) d (if rd m (i : Int) = (i : Int) then (s.1.set i s.2, s.2 + 1) else s)
theorem zB8 (m : List Int) : ∀ (d i : Nat) (s : List Int × Int), (zEB m i d s).1.length = s.1.length
  | 0, _, _ => rfl
  | d + 1, i, s => by
    rw [zEB, zB8 m d (i + 1)]
    split <;> simp
theorem zC6 (m : List Int) : ∀ (d i : Nat) (s : List Int × Int), i + d = m.length → s.1.length = m.length → s.2 = ((roots m i).length : Int) → (∀ j : Nat, j < i → m.getD j 0 = j → s.1.getD j 0 = ((roots m j).length : Int)) →
    (zEB m i d s).2 = ((roots m m.length).length : Int) ∧ ∀ j : Nat, j < m.length → m.getD j 0 = j → (zEB m i d s).1.getD j 0 = ((roots m j).length : Int)
  | 0, i, s, hi, hl, h2, h1 => by
    obtain rfl : i = m.length := by omega
    exact ⟨h2, h1⟩
  | d + 1, i, s, hi, hl, h2, h1 => by
    have hlt : i < m.length := by omega
    rw [zEB]
    by_cases e : m.getD i 0 = (i : Int)
    · rw [if_pos (by rw [Qx]; exact e)]
      refine zC6 m d (i + 1) _ (by omega) (by simp [hl]) ?_ ?_
      · rw [roots, if_pos e]; simp [h2]
      · intro j hj hjm
        show (s.1.set i s.2).getD j 0 = _
        by_cases ej : j = i
        · subst ej
          simp [List.getD_eq_getElem?_getD, hl, hlt, h2]
        · have h3 := h1 j (by omega) hjm
          have e3 : (s.1.set i s.2).getD j 0 = s.1.getD j 0 := by
            simp only [List.getD_eq_getElem?_getD]
            rw [List.getElem?_set_ne (fun hh => ej hh.symm)]
          rw [e3, h3]
    · rw [if_neg (by rw [Qx]; exact e)]
      refine zC6 m d (i + 1) s (by omega) hl ?_ ?_
      · rw [roots, if_neg e]; exact h2
      · intro j hj hjm
        by_cases ej : j = i
        · subst ej; exact absurd hjm e
        · exact h1 j (by omega) hjm
def QN (w : Nat) : Nat → List Int → List (List Int)
  | 0, _ => []
  | q + 1, xs => xs.take w :: QN w q (xs.drop w)
theorem Qo (w : Nat) : ∀ (q : Nat) (xs : List Int), (QN w q xs).length = q
  | 0, _ => rfl
  | q + 1, xs => by rw [QN, List.length_cons, Qo w q]
theorem zBa (w : Nat) : ∀ (q : Nat) (xs : List Int) (a : Nat), a < q → (QN w q xs)[a]? = some ((xs.drop (w * a)).take w)
  | 0, _, a, h => by omega
  | q + 1, xs, 0, h => by simp [QN]
  | q + 1, xs, a + 1, h => by
    rw [QN, List.getElem?_cons_succ, zBa w q _ a (by omega), List.drop_drop, Nat.mul_succ, Nat.add_comm (w * a)]
theorem zFi {m : List Int} (h : Low m) : m.map (rd (zEB m 0 m.length (List.replicate m.length 0, 0)).1) = zBt m ∧ (zEB m 0 m.length (List.replicate m.length 0, 0)).2 = ((roots m m.length).length : Int) := by
  obtain ⟨h1, h2⟩ := zC6 m m.length 0 (List.replicate m.length 0, 0) (by omega) (by simp) rfl (fun j hj => by omega)
  refine ⟨?_, h1⟩
  rw [zAp h]
  apply List.map_congr_left
  intro x hx
  obtain ⟨i, hi, rfl⟩ := List.getElem_of_mem hx
  obtain ⟨q0, q1, q2⟩ := h i hi
  have hg : m.getD i 0 = m[i] := by simp [hi]
  rw [hg] at q0 q1 q2
  generalize m[i] = x at *
  obtain ⟨j, rfl⟩ := Int.eq_ofNat_of_zero_le q0
  rw [yny] at q2
  rw [Qx, h2 j (by omega) q2]
  unfold zEA
  rw [yny]
theorem zDD (xs : List Int) : ∀ x : Int, x ≤ xs.foldl mx x ∧ ∀ y ∈ xs, y ≤ xs.foldl mx x := by
  induction xs with
  | nil => intro x; exact ⟨Int.le_refl _, fun y hy => by cases hy⟩
  | cons z xs ih =>
    intro x
    obtain ⟨h1, h2⟩ := ih (mx x z)
    have h3 : x ≤ mx x z ∧ z ≤ mx x z := by unfold mx; split <;> omega
    rw [List.foldl_cons]
    refine ⟨by omega, fun y hy => ?_⟩
    rcases List.mem_cons.1 hy with rfl | hy
    · omega
    · exact h2 y hy
theorem zCg (xs : List Int) : ∀ x : Int, xs.foldl mx x = x ∨ xs.foldl mx x ∈ xs := by
  induction xs with
  | nil => intro x; exact .inl rfl
  | cons z xs ih =>
    intro x
    rw [List.foldl_cons]
    rcases ih (mx x z) with h | h
    · rw [h]
      unfold mx
      split
      · exact .inr (List.mem_cons_self ..)
      · exact .inl rfl
    · exact .inr (List.mem_cons_of_mem _ h)
theorem maxl {l : List Int} {M : Int} (h1 : ∀ y ∈ l, y ≤ M) (h2 : M ∈ l) : ∃ x xs, l = x :: xs ∧ xs.foldl mx x = M := by
  cases l with
  | nil => cases h2
  | cons x xs =>
    refine ⟨x, xs, rfl, ?_⟩
    obtain ⟨k1, k2⟩ := zDD xs x
    have k3 : xs.foldl mx x ≤ M := by
      rcases zCg xs x with h | h
      · rw [h]; exact h1 x (List.mem_cons_self ..)
      · exact h1 _ (List.mem_cons_of_mem _ h)
    have k4 : M ≤ xs.foldl mx x := by
      rcases List.mem_cons.1 h2 with h | h
      · rw [h]; exact k1
      · exact k2 M h
    omega
theorem zBb (m : List Int) : ∀ i : Nat, 0 < (roots m i).length → ∃ j : Nat, j < i ∧ m.getD j 0 = j ∧ (roots m j).length + 1 = (roots m i).length
  | 0, h => by simp [roots] at h
  | i + 1, h => by
    rw [roots] at h ⊢
    by_cases e : m.getD i 0 = (i : Int)
    · rw [if_pos e]
      exact ⟨i, by omega, e, by simp⟩
    · rw [if_neg e] at h ⊢
      obtain ⟨j, h1, h2, h3⟩ := zBb m i h
      exact ⟨j, by omega, h2, h3⟩
theorem zFj {m : List Int} (h : Low m) (hp : 0 < m.length) : ∃ x xs, zBt m = x :: xs ∧ xs.foldl mx x = ((roots m m.length).length : Int) - 1 := by
  have h00 := h 0 hp
  have e0 : m.getD 0 0 = ((0 : Nat) : Int) := by have := h00.1; have := h00.2.1; omega
  have hpos : 0 < (roots m m.length).length := by
    have := (zAM m 0 e0 m.length hp).1
    exact List.length_pos_of_mem this
  rw [zAp h]
  refine maxl ?_ ?_
  · intro y hy
    obtain ⟨x, hx, rfl⟩ := List.mem_map.1 hy
    obtain ⟨i, hi, rfl⟩ := List.getElem_of_mem hx
    obtain ⟨q0, q1, q2⟩ := h i hi
    have hg : m.getD i 0 = m[i] := by simp [hi]
    rw [hg] at q0 q1 q2
    generalize m[i] = x at *
    obtain ⟨j, rfl⟩ := Int.eq_ofNat_of_zero_le q0
    rw [yny] at q2
    have k := zAY m (j + 1) (m.length - (j + 1))
    rw [show j + 1 + (m.length - (j + 1)) = m.length by omega, roots, if_pos q2] at k
    unfold zEA
    rw [yny]
    simp at k
    omega
  · obtain ⟨j, h1, h2, h3⟩ := zBb m m.length hpos
    refine List.mem_map.2 ⟨(j : Int), ?_, ?_⟩
    · have : m.getD j 0 = m[j] := by simp [h1]
      rw [← h2, this]; exact List.getElem_mem _
    · unfold zEA
      rw [yny]; omega
end Go.Proofs.Ytembbpalgfikiaa.Lib
namespace Go.Proofs.Ytembbpalgfikiaa.P
open Go.RowKit Go.Proofs.YtembbpalgfikiaaW.PrintWords Go.Proofs.Ytembbpalgfikiaa.Lib
set_option linter.unusedVariables false
theorem zDk (n : Nat) (hn : n ≤ 1000000) : ∀ (d i : Nat) (xs : List Int), i + d = n → xs.length = i → Ev (fun k => qB.l0 k (n : Int) xs (i : Int)) (xs ++ ZU (i : Int) d)
  | 0, i, xs, h, hl => by
    refine qU (fun k => by rw [qB.l0, if_neg (by omega)]) ?_
    rw [ZU, List.append_nil]; exact Ev.now _
  | d + 1, i, xs, h, hl => by
    refine qU (fun k => by rw [qB.l0, if_pos (by omega), if_pos (by omega), Ze (by omega)]) ?_
    have := zDk n hn d (i + 1) (xs ++ [(i : Int)]) (by omega) (by simp [hl])
    rw [List.append_assoc] at this
    exact this
theorem zC7 (n : Nat) (hn : n ≤ 1000000) : Ev (fun k => qB.f k (n : Int)) (ZU 0 n) := by
  have := zDk n hn n 0 [] (by omega) rfl
  exact this
theorem zDE (l : List Int) {i k : Int} (hl : l.length ≤ 1000000) (hi0 : 0 ≤ i) (hi1 : i < l.length) (hk0 : 0 ≤ k) (hk1 : k < l.length) : Ev (fun _ => qv.f l i k) (joi l i k) := Qg (if_pos ⟨hi0, hi1, hk0, hk1⟩)
def zFF (e : Int) : Int := rd [0, 0, 0, 1, 1, 2] e
def zEI (e : Int) : Int := rd [1, 2, 3, 2, 3, 3] e
theorem zGY {e : Int} (h0 : 0 ≤ e) (h1 : e < 6) : ql.f e = some (zFF e, zEI e) := by
  show (if 0 ≤ e then if e < 6 then (if e < 6 then some (zFF e, zEI e) else none) else none else none) = _
  rw [if_pos h0, if_pos h1, if_pos h1]
theorem zEy {e : Int} (h0 : 0 ≤ e) (h1 : e < 6) : sm (zFF e) ∧ sm (zEI e) ∧ zFF e ≠ zEI e := by
  rcases (show e = 0 ∨ e = 1 ∨ e = 2 ∨ e = 3 ∨ e = 4 ∨ e = 5 by omega) with rfl | rfl | rfl | rfl | rfl | rfl <;> (unfold sm; decide)
def eix (a b : Int) : Int := (zz.f 8 a b).getD 0
theorem zEz {a b : Int} (ha : sm a) (hb : sm b) (hne : a ≠ b) : Ev (fun k => zz.f k a b) (eix a b) ∧ 0 ≤ eix a b ∧ eix a b < 6 := by
  obtain ⟨ha0, ha1⟩ := ha
  obtain ⟨hb0, hb1⟩ := hb
  have key : zz.f 8 a b = some (eix a b) ∧ 0 ≤ eix a b ∧ eix a b < 6 := by
    rcases (show a = 0 ∨ a = 1 ∨ a = 2 ∨ a = 3 by omega) with rfl | rfl | rfl | rfl <;> rcases (show b = 0 ∨ b = 1 ∨ b = 2 ∨ b = 3 by omega) with rfl | rfl | rfl | rfl <;> first | exact absurd rfl hne | decide +kernel
  exact ⟨Ev.of (fun k => zz.mono _ _ k) key.1, key.2⟩
def JH (j b : Int) (p : List Int) : List Int → List Int → List Int
  | [], s => s
  | c :: cs, s => JH j b p cs (joi s (4 * j + c) (4 * b + rd p c))
theorem zA2 (j b : Int) (p : List Int) : ∀ (L s : List Int), (JH j b p L s).length = s.length
  | [], _ => rfl
  | c :: cs, s => by rw [JH, zA2 j b p cs, QH]
def Jp (j f b : Int) (p : List Int) : List Int → List Int → List Int
  | [], s => s
  | e :: es, s => Jp j f b p es (if zFF e = f ∨ zEI e = f then s else joi s (6 * j + e) (6 * b + eix (rd p (zFF e)) (rd p (zEI e))))
theorem zA3 (j f b : Int) (p : List Int) : ∀ (L s : List Int), (Jp j f b p L s).length = s.length
  | [], _ => rfl
  | c :: cs, s => by
    rw [Jp, zA3 j f b p cs]
    split
    · rfl
    · rw [QH]
structure Sk where
  v : List Int
  e : List Int
  f : List Int
def Je (s : Sk) (j f : Nat) (x : qA) : Sk :=
  ⟨JH j x.f0 (qi x.f1) (zB6 [(f : Int)]) s.v, Jp j f x.f0 (qi x.f1) (ZU 0 6) s.e, joi s.f (4 * (j : Int) + f) (4 * x.f0 + rd (qi x.f1) f)⟩
def Sk.ok (n : Nat) (s : Sk) : Prop := s.v.length = 4 * n ∧ s.e.length = 6 * n ∧ s.f.length = 4 * n
theorem zCh {n : Nat} {s : Sk} (h : s.ok n) (j f : Nat) (x : qA) : (Je s j f x).ok n := ⟨by rw [Je, zA2]; exact h.1, by rw [Je, zA3]; exact h.2.1, by rw [Je, QH]; exact h.2.2⟩
section
variable {t : Tri}
theorem zC8 (h : ZX t = true) {j f : Nat} (hj : j < t.length) (hf : f < 4) : ∃ hf' : f < t[j].length, fc t (j : Int) (f : Int) = t[j][f] := by
  have h4 : t[j].length = 4 := (qw h).2.1 _ (List.getElem_mem hj)
  exact ⟨by omega, by unfold fc; rw [Qd t j hj, zAX _ f (by omega)]⟩
theorem zA8 (h : ZX t = true) {j f : Nat} {x : qA} (hF : QK t j f x) (hb : ¬ x.f0 < 0) : j < t.length ∧ f ≤ 3 ∧ 0 ≤ x.f0 ∧ x.f0 < (t.length : Int) ∧ 0 ≤ x.f1 ∧ x.f1 ≤ 23 := by
  obtain ⟨h1, h2, h3⟩ := hF
  have h4 : t[j].length = 4 := (qw h).2.1 _ (List.getElem_mem h1)
  obtain ⟨_, hfc⟩ := zC8 h h1 (f := f) (by omega)
  have := Jo (a := (j : Int)) (f := (f : Int)) h (by omega) (by omega) (by omega) (by omega)
  rw [hfc, h3] at this
  rcases this with ⟨e, _⟩ | ⟨⟨g0, g1, g2, g3⟩, _⟩
  · omega
  · exact ⟨h1, by omega, g0, g1, g2, g3⟩
theorem zF0 (h : ZX t = true) : zE3 t := by
  obtain ⟨h8, h4, _⟩ := qw h
  refine ⟨h8, fun r hr => by rw [h4 r hr]; omega, fun r hr x hx hb => ?_⟩
  obtain ⟨j, hj, rfl⟩ := List.getElem_of_mem hr
  obtain ⟨f, hf, rfl⟩ := List.getElem_of_mem hx
  have := zA8 h (j := j) (f := f) ⟨hj, hf, rfl⟩ hb
  exact ⟨this.2.2.2.1, this.2.2.2.2⟩
theorem zCi {σ τ : Type} {Rel : σ → τ → Prop} {s1 : σ → Nat → Nat → qA → σ} {s2 : τ → Nat → Nat → qA → τ} (h : ∀ a b j f x, QK t j f x → ¬ x.f0 < 0 → Rel a b → Rel (s1 a j f x) (s2 b j f x)) (j : Nat) (hj : j < t.length) :
    ∀ (d f : Nat) (a : σ) (b : τ), f + d = t[j].length → Rel a b → Rel (zD5 s1 j (t[j].drop f) f a) (zD5 s2 j (t[j].drop f) f b)
  | 0, f, a, b, hf, hr => by rw [List.drop_eq_nil_of_le (by omega)]; exact hr
  | d + 1, f, a, b, hf, hr => by
    have hlt : f < t[j].length := by omega
    rw [yoy hlt, zD5, zD5]
    refine zCi h j hj d (f + 1) _ _ (by omega) ?_
    by_cases hb : t[j][f].f0 < 0
    · rw [if_pos hb, if_pos hb]; exact hr
    · rw [if_neg hb, if_neg hb]
      exact h _ _ _ _ _ ⟨hj, hlt, rfl⟩ hb hr
theorem zCj {σ τ : Type} {Rel : σ → τ → Prop} {s1 : σ → Nat → Nat → qA → σ} {s2 : τ → Nat → Nat → qA → τ} (h : ∀ a b j f x, QK t j f x → ¬ x.f0 < 0 → Rel a b → Rel (s1 a j f x) (s2 b j f x)) :
    ∀ (d j : Nat) (a : σ) (b : τ), j + d = t.length → Rel a b → Rel (zAk s1 (t.drop j) j a) (zAk s2 (t.drop j) j b)
  | 0, j, a, b, hj, hr => by rw [List.drop_eq_nil_of_le (by omega)]; exact hr
  | d + 1, j, a, b, hj, hr => by
    have hlt : j < t.length := by omega
    rw [yoy hlt, zAk, zAk]
    refine zCj h d (j + 1) _ _ (by omega) ?_
    have := zCi h j hlt t[j].length 0 a b (by omega) hr
    rwa [List.drop_zero] at this
theorem zCk {σ τ : Type} {Rel : σ → τ → Prop} {s1 : σ → Nat → Nat → qA → σ} {s2 : τ → Nat → Nat → qA → τ} (h : ∀ a b j f x, QK t j f x → ¬ x.f0 < 0 → Rel a b → Rel (s1 a j f x) (s2 b j f x)) (a : σ) (b : τ) (hr : Rel a b) : Rel (zAk s1 t 0 a) (zAk s2 t 0 b) := by
  have := zCj h t.length 0 a b (by omega) hr
  rwa [List.drop_zero] at this
variable {ρ : Type}
theorem zDF (h : ZX t = true) {r : (List (List Int)) × (List (List Int)) × (List (List Int)) × List Int} {j f b p : Int} (hj0 : 0 ≤ j) (hj1 : j < t.length) (hb0 : 0 ≤ b) (hb1 : b < t.length) (hp0 : 0 ≤ p) (hp1 : p ≤ 23) (E F : List Int) :
    ∀ (d : Nat) (c : Int) (V : List Int), 0 ≤ c → c + d = 4 → V.length = 4 * t.length → Ev (fun k => zQ.l3 k (t.length : Int) (JH j b (qi p) ((ZU c d).filter fun x => ![f].contains x) V) E F j f 0 t b p) r →
      Ev (fun k => zQ.l2 k (t.length : Int) V E F j f c t b p) r
  | 0, c, V, hc, he, hl, hr => by
    refine qU (fun k => by rw [zQ.l2, if_neg (by omega)]) ?_
    exact hr
  | d + 1, c, V, hc, he, hl, hr => by
    have h8 := (qw h).1
    by_cases hcf : c = f
    · refine qU (fun k => by rw [zQ.l2, if_pos (by omega), if_pos hcf, qo (by omega) (by omega)]) ?_
      refine zDF h hj0 hj1 hb0 hb1 hp0 hp1 E F d (c + 1) V (by omega) (by omega) hl ?_
      have e1 : (![f].contains c) = false := by simp [hcf]
      rwa [ZU, List.filter_cons, e1, if_neg (by simp)] at hr
    · have e1 : (![f].contains c) = true := by simp [hcf]
      have hd := Zk hp0 hp1 hc (show c ≤ 3 by omega)
      refine qU (fun k => by rw [zQ.l2, if_pos (by omega), if_neg hcf]) ?_
      refine Ev.bind (Jw hp0 hp1 hc (by omega)) ?_
      refine Ev.congr (fun k => by rw [qo (show -9223372036854775808 ≤ 4 * j by omega) (by omega), qo (show -9223372036854775808 ≤ 4 * b by omega) (by omega), qo (show -9223372036854775808 ≤ 4 * j + c by omega) (by omega), qo (show -9223372036854775808 ≤ 4 * b + rd (qi p) c by omega) (by omega), qo (show -9223372036854775808 ≤ c + 1 by omega) (by omega)]) ?_
      refine Ev.bind (zDE V (by omega) (by omega) (by omega) (by omega) (by omega)) ?_
      refine zDF h hj0 hj1 hb0 hb1 hp0 hp1 E F d (c + 1) _ (by omega) (by omega) (by rw [QH]; exact hl) ?_
      rwa [ZU, List.filter_cons, e1, if_pos rfl, JH] at hr
theorem zDG {p a b : Int} (hp0 : 0 ≤ p) (hp1 : p ≤ 23) (ha : sm a) (hb : sm b) (hne : a ≠ b) : rd (qi p) a ≠ rd (qi p) b := by
  obtain ⟨ha0, ha1⟩ := ha
  obtain ⟨hb0, hb1⟩ := hb
  obtain ⟨n, rfl⟩ := Int.eq_ofNat_of_zero_le hp0
  have key : ∀ m : Fin 24, zp (m.val : Int) 0 ≠ zp (m.val : Int) 1 ∧ zp (m.val : Int) 0 ≠ zp (m.val : Int) 2 ∧ zp (m.val : Int) 0 ≠ zp (m.val : Int) 3 ∧ zp (m.val : Int) 1 ≠ zp (m.val : Int) 2 ∧ zp (m.val : Int) 1 ≠ zp (m.val : Int) 3 ∧ zp (m.val : Int) 2 ≠ zp (m.val : Int) 3 := by decide
  obtain ⟨k1, k2, k3, k4, k5, k6⟩ := key ⟨n, by omega⟩
  dsimp only at k1 k2 k3 k4 k5 k6
  rcases (show a = 0 ∨ a = 1 ∨ a = 2 ∨ a = 3 by omega) with rfl | rfl | rfl | rfl <;> rcases (show b = 0 ∨ b = 1 ∨ b = 2 ∨ b = 3 by omega) with rfl | rfl | rfl | rfl <;> first | exact absurd rfl hne | assumption | exact Ne.symm (by assumption)
theorem zDH (h : ZX t = true) {r : (List (List Int)) × (List (List Int)) × (List (List Int)) × List Int} {j f b p : Int} (hj0 : 0 ≤ j) (hj1 : j < t.length) (hf0 : 0 ≤ f) (hf1 : f ≤ 3) (hb0 : 0 ≤ b) (hb1 : b < t.length) (hp0 : 0 ≤ p) (hp1 : p ≤ 23) (V F : List Int) :
    ∀ (d : Nat) (e : Int) (E : List Int), 0 ≤ e → e + d = 6 → E.length = 6 * t.length → Ev (fun k => zQ.l1 k (t.length : Int) V (Jp j f b (qi p) (ZU e d) E) F j (f + 1) t) r →
      Ev (fun k => zQ.l3 k (t.length : Int) V E F j f e t b p) r
  | 0, e, E, hc, he, hl, hr => by
    refine qU (fun k => by rw [zQ.l3, if_neg (by omega), qo (by omega) (by omega)]) ?_
    exact hr
  | d + 1, e, E, hc, he, hl, hr => by
    have h8 := (qw h).1
    obtain ⟨sa, sb, hab⟩ := zEy hc (show e < 6 by omega)
    rw [ZU, Jp] at hr
    have hskip : (zFF e = f ∨ zEI e = f) → Ev (fun k => zQ.j4 k (t.length : Int) V E F j f e (zFF e) (zEI e) false t b p) r := fun hq => by
      rw [if_pos hq] at hr
      refine qU (fun k => by rw [zQ.j4, if_neg (by simp), qo (by omega) (by omega)]) ?_
      exact zDH h hj0 hj1 hf0 hf1 hb0 hb1 hp0 hp1 V F d (e + 1) E (by omega) (by omega) hl hr
    refine qU (fun k => by rw [zQ.l3, if_pos (by omega), zGY hc (by omega), yfy]) ?_
    dsimp only
    by_cases ea : zFF e = f
    · exact ZD ea (hskip (.inl ea))
    · refine QD ea ?_
      by_cases eb : zEI e = f
      · have e9 : (zEI e != f) = false := by simp [eb]
        rw [e9]; exact hskip (.inr eb)
      · have e9 : (zEI e != f) = true := by simp [eb]
        rw [e9]
        rw [if_neg (fun hq => hq.elim ea eb)] at hr
        obtain ⟨k1, k2, k3⟩ := zEz (Zk hp0 hp1 sa.1 sa.2) (Zk hp0 hp1 sb.1 sb.2) (zDG hp0 hp1 sa sb hab)
        refine qU (fun k => by rw [zQ.j4, if_pos rfl]) ?_
        refine Ev.bind (Jw hp0 hp1 sa.1 sa.2) (Ev.bind (Jw hp0 hp1 sb.1 sb.2) (Ev.bind k1 ?_))
        refine Ev.congr (fun k => by rw [qo (show -9223372036854775808 ≤ 6 * j by omega) (by omega), qo (show -9223372036854775808 ≤ 6 * b by omega) (by omega), qo (show -9223372036854775808 ≤ 6 * j + e by omega) (by omega), qo (show -9223372036854775808 ≤ 6 * b + eix (rd (qi p) (zFF e)) (rd (qi p) (zEI e)) by omega) (by omega), qo (show -9223372036854775808 ≤ e + 1 by omega) (by omega)]) ?_
        refine Ev.bind (zDE E (by omega) (by omega) (by omega) (by omega) (by omega)) ?_
        exact zDH h hj0 hj1 hf0 hf1 hb0 hb1 hp0 hp1 V F d (e + 1) _ (by omega) (by omega) (by rw [QH]; exact hl) hr
theorem zDI (h : ZX t = true) {r : (List (List Int)) × (List (List Int)) × (List (List Int)) × List Int} (j : Nat) (hj : j < t.length) :
    ∀ (d f : Nat) (s : Sk), f + d = 4 → s.ok t.length → (∀ s' : Sk, s'.ok t.length → s' = zD5 Je j (t[j].drop f) f s → Ev (fun k => zQ.l0 k (t.length : Int) s'.v s'.e s'.f ((j + 1 : Nat) : Int) t) r) →
      Ev (fun k => zQ.l1 k (t.length : Int) s.v s.e s.f (j : Int) (f : Int) t) r
  | 0, f, s, hf, hs, hr => by
    have h8 := (qw h).1
    have h4 : t[j].length = 4 := (qw h).2.1 _ (List.getElem_mem hj)
    refine qU (fun k => by rw [zQ.l1, if_neg (by omega), Ze (by omega)]) ?_
    exact hr s hs (by rw [List.drop_eq_nil_of_le (by omega)]; rfl)
  | d + 1, f, s, hf, hs, hr => by
    have h8 := (qw h).1
    obtain ⟨hlt, hfc⟩ := zC8 h hj (f := f) (by omega)
    have hrl := rowlen h (a := (j : Int)) (by omega) (by omega)
    have e0 : (zI (zE t (j : Int)) (f : Int)) = t[j][f] := hfc
    rw [yoy hlt, zD5] at hr
    refine qU (fun k => by rw [zQ.l1, if_pos (by omega), if_pos (by omega), if_pos (by omega), if_pos (by omega), if_pos (by omega), e0]) ?_
    by_cases hb : t[j][f].f0 < 0
    · rw [if_pos hb] at hr
      refine ZD hb (Ev.congr (fun k => by rw [Ze (by omega)]) ?_)
      exact zDI h j hj d (f + 1) s (by omega) hs hr
    · rw [if_neg hb] at hr
      refine QD hb ?_
      obtain ⟨_, _, b0, b1, p0, p1⟩ := zA8 h (j := j) (f := f) (x := t[j][f]) ⟨hj, hlt, rfl⟩ hb
      generalize t[j][f] = x at *
      have hd := Zk p0 p1 (show (0 : Int) ≤ (f : Int) by omega) (by omega)
      refine Ev.bind (Jw p0 p1 (by omega) (by omega)) ?_
      refine Ev.congr (fun k => by rw [qo (show -9223372036854775808 ≤ 4 * (j : Int) by omega) (by omega), qo (show -9223372036854775808 ≤ 4 * x.f0 by omega) (by omega), qo (show -9223372036854775808 ≤ 4 * (j : Int) + (f : Int) by omega) (by omega), qo (show -9223372036854775808 ≤ 4 * x.f0 + rd (qi x.f1) (f : Int) by omega) (by omega)]) ?_
      have hl1 := hs.1
      have hl2 := hs.2.1
      have hl3 := hs.2.2
      refine Ev.bind (zDE s.f (by omega) (by omega) (by omega) (by omega) (by omega)) ?_
      refine zDF h (by omega) (by omega) b0 b1 p0 p1 s.e _ 4 0 s.v (by omega) (by omega) hl1 ?_
      refine zDH h (by omega) (by omega) (by omega) (by omega) b0 b1 p0 p1 _ _ 6 0 s.e (by omega) (by omega) hl2 ?_
      have e1 : ((f : Int) + 1) = ((f + 1 : Nat) : Int) := by omega
      rw [e1]
      exact zDI h j hj d (f + 1) (Je s j f x) (by omega) (zCh hs _ _ _) hr
end
theorem zF1 {m : List Int} {w : Nat} {x6 : List Int} {x7 : Int} (hm : ∀ x ∈ m, 0 ≤ x ∧ x < x6.length) (hL : m.length ≤ 1000000) (hw : w ≤ 1000) {r : List (List Int) × Int} {o : Nat} (ho : o + w ≤ m.length) (x8 : List (List Int)) (h8 : x8.length ≤ 1000000) :
    ∀ (d i : Nat) (acc : List Int), i + d = o + w → acc.length + d = w → Ev (fun k => zd.l1 k m (w : Int) x6 x7 (x8 ++ [acc ++ ((m.map (rd x6)).drop i).take d]) ((o + w : Nat) : Int)) r → Ev (fun k => zd.l2 k m (w : Int) x6 x7 x8 (o : Int) acc (i : Int)) r
  | 0, i, acc, hi, ha, hr => by
    refine qU (fun k => by rw [zd.l2, qo (show -9223372036854775808 ≤ (o : Int) + (w : Int) by omega) (by omega), if_neg (by omega), if_pos (by omega)]) ?_
    rw [List.take_zero, List.append_nil] at hr
    exact hr
  | d + 1, i, acc, hi, ha, hr => by
    have hlt : i < m.length := by omega
    have hb := hm m[i] (List.getElem_mem hlt)
    have hg := zFZ m i hlt
    refine qU (fun k => by rw [zd.l2, qo (show -9223372036854775808 ≤ (o : Int) + (w : Int) by omega) (by omega), if_pos (by omega), if_pos (by omega), if_pos (by omega), hg, if_pos hb.1, if_pos hb.2, if_pos (by omega), Ze (by omega)]) ?_
    refine zF1 hm hL hw ho x8 h8 d (i + 1) _ (by omega) (by simp; omega) ?_
    have e : ((m.map (rd x6)).drop i).take (d + 1) = rd x6 m[i] :: ((m.map (rd x6)).drop (i + 1)).take d := by
      rw [yoy (by simpa using hlt), List.take_succ_cons, List.getElem_map]
    rw [e] at hr
    rw [List.append_assoc]
    exact hr
theorem zF2 {m : List Int} {w : Nat} {x6 : List Int} {x7 : Int} (hm : ∀ x ∈ m, 0 ≤ x ∧ x < x6.length) (hL : m.length ≤ 1000000) (hw : w ≤ 1000) (hw0 : 0 < w) :
    ∀ (q o : Nat) (x8 : List (List Int)), o + w * q = m.length → x8.length + q ≤ 1000000 → Ev (fun k => zd.l1 k m (w : Int) x6 x7 x8 (o : Int)) (x8 ++ QN w q ((m.map (rd x6)).drop o), x7)
  | 0, o, x8, ho, h8 => by
    refine qU (fun k => by rw [zd.l1, if_neg (by omega)]) ?_
    rw [QN, List.append_nil]; exact Ev.now _
  | q + 1, o, x8, ho, h8 => by
    rw [Nat.mul_succ] at ho
    refine qU (fun k => by rw [zd.l1, if_pos (by omega)]) ?_
    refine zF1 hm hL hw (by omega) x8 (by omega) w o [] (by omega) (by simp) ?_
    rw [List.nil_append]
    have := zF2 (x7 := x7) hm hL hw hw0 q (o + w) (x8 ++ [((m.map (rd x6)).drop o).take w]) (by omega) (by simp; omega)
    rw [QN, List.drop_drop]
    rwa [List.append_assoc] at this
theorem zDJ {m : List Int} (w : Int) (hL : m.length ≤ 1000000) {r : List (List Int) × Int} : ∀ (d i : Nat) (s : List Int × Int), i + d = m.length → s.1.length = m.length → 0 ≤ s.2 → s.2 ≤ i →
    Ev (fun k => zd.l1 k m w (zEB m i d s).1 (zEB m i d s).2 [] 0) r → Ev (fun k => zd.l0 k m w s.1 s.2 [] (i : Int)) r
  | 0, i, s, hi, hs, h0, h1, hr => by
    refine qU (fun k => by rw [zd.l0, if_neg (by omega)]) ?_
    exact hr
  | d + 1, i, s, hi, hs, h0, h1, hr => by
    rw [zEB] at hr
    by_cases e : rd m (i : Int) = (i : Int)
    · rw [if_pos e] at hr
      refine qU (fun k => by rw [zd.l0, if_pos (by omega), if_pos (by omega), if_pos e, if_pos (by omega), qo (show -9223372036854775808 ≤ s.2 + 1 by omega) (by omega), Ze (by omega), yny]) ?_
      exact zDJ w hL d (i + 1) (s.1.set i s.2, s.2 + 1) (by omega) (by simp [hs]) (by dsimp only; omega) (by dsimp only; omega) hr
    · rw [if_neg e] at hr
      refine qU (fun k => by rw [zd.l0, if_pos (by omega), if_pos (by omega), if_neg e, Ze (by omega)]) ?_
      exact zDJ w hL d (i + 1) s (by omega) hs h0 (by omega) hr
theorem zGZ {m : List Int} (h : Low m) : ∀ x ∈ m, 0 ≤ x ∧ x < m.length := by
  intro x hx
  obtain ⟨i, hi, rfl⟩ := List.getElem_of_mem hx
  obtain ⟨q0, q1, _⟩ := h i hi
  have hg : m.getD i 0 = m[i] := by simp [hi]
  rw [hg] at q0 q1
  omega
theorem zDK {m : List Int} (h : Low m) {w q : Nat} (hq : m.length = w * q) (hw0 : 0 < w) (hw : w ≤ 1000) (hL : m.length ≤ 1000000) : Ev (fun k => zd.f k m (w : Int)) (QN w q (zBt m), ((roots m m.length).length : Int)) := by
  obtain ⟨e1, e2⟩ := zFi h
  have hqb : q ≤ m.length := by rw [hq]; exact Nat.le_mul_of_pos_left q hw0
  refine ZD (by omega) (ZD (by omega) ?_)
  rw [yny]
  refine zDJ (w : Int) hL m.length 0 (List.replicate m.length 0, 0) (by omega) (by simp) (by dsimp only; omega) (by dsimp only; omega) ?_
  have hlen := zB8 m m.length 0 (List.replicate m.length 0, 0)
  rw [List.length_replicate] at hlen
  have := zF2 (x7 := (zEB m 0 m.length (List.replicate m.length 0, 0)).2) (x6 := (zEB m 0 m.length (List.replicate m.length 0, 0)).1) (fun x hx => by rw [hlen]; exact zGZ h x hx) hL hw hw0 q 0 [] (by omega) (by simp; omega)
  rw [List.nil_append, List.drop_zero, e1, e2] at this
  rw [e2]
  exact this
section
variable {t : Tri}
def Sk.low (s : Sk) : Prop := Low s.v ∧ Low s.e ∧ Low s.f
theorem zG6 {j b p : Int} {n : Nat} (hj0 : 0 ≤ j) (hj1 : j < n) (hb0 : 0 ≤ b) (hb1 : b < n) (hp0 : 0 ≤ p) (hp1 : p ≤ 23) : ∀ (L s : List Int), (∀ c ∈ L, sm c) → Low s → s.length = 4 * n → Low (JH j b (qi p) L s)
  | [], s, _, hs, _ => hs
  | c :: cs, s, hc, hs, hl => by
    rw [JH]
    obtain ⟨c0, c1⟩ := hc c (List.mem_cons_self ..)
    have hd := Zk hp0 hp1 c0 c1
    exact zG6 hj0 hj1 hb0 hb1 hp0 hp1 cs _ (fun x hx => hc x (List.mem_cons_of_mem _ hx)) (zDC hs (by omega) (by omega) (by omega) (by omega)) (by rw [QH]; exact hl)
theorem zG7 {j f b p : Int} {n : Nat} (hj0 : 0 ≤ j) (hj1 : j < n) (hb0 : 0 ≤ b) (hb1 : b < n) (hp0 : 0 ≤ p) (hp1 : p ≤ 23) : ∀ (L s : List Int), (∀ e ∈ L, 0 ≤ e ∧ e < 6) → Low s → s.length = 6 * n → Low (Jp j f b (qi p) L s)
  | [], s, _, hs, _ => hs
  | e :: es, s, he, hs, hl => by
    rw [Jp]
    obtain ⟨e0, e1⟩ := he e (List.mem_cons_self ..)
    obtain ⟨sa, sb, hab⟩ := zEy e0 e1
    obtain ⟨_, k2, k3⟩ := zEz (Zk hp0 hp1 sa.1 sa.2) (Zk hp0 hp1 sb.1 sb.2) (zDG hp0 hp1 sa sb hab)
    refine zG7 hj0 hj1 hb0 hb1 hp0 hp1 es _ (fun x hx => he x (List.mem_cons_of_mem _ hx)) ?_ ?_
    · split
      · exact hs
      · exact zDC hs (by omega) (by omega) (by omega) (by omega)
    · split
      · exact hl
      · rw [QH]; exact hl
theorem zEC (h : ZX t = true) {s : Sk} (ho : s.ok t.length) (hl : s.low) {j f : Nat} {x : qA} (hF : QK t j f x) (hb : ¬ x.f0 < 0) : (Je s j f x).low := by
  obtain ⟨h1, h2, b0, b1, p0, p1⟩ := zA8 h hF hb
  obtain ⟨o1, o2, o3⟩ := ho
  have hd := Zk p0 p1 (show (0 : Int) ≤ (f : Int) by omega) (by omega)
  refine ⟨zG6 (by omega) (by omega) b0 b1 p0 p1 _ _ (fun c hc => (zAV hc).1) hl.1 o1, zG7 (by omega) (by omega) b0 b1 p0 p1 _ _ (fun e he => ?_) hl.2.1 o2, zDC hl.2.2 (by omega) (by omega) (by omega) (by omega)⟩
  have := (zG0 0 e 6).1 he
  omega
def sk0 (t : Tri) : Sk := ⟨ZU 0 (4 * t.length), ZU 0 (6 * t.length), ZU 0 (4 * t.length)⟩
theorem zG8 : (sk0 t).ok t.length := ⟨Za _ _, Za _ _, Za _ _⟩
def Jf (t : Tri) : Sk := zAk Je t 0 (sk0 t)
theorem JI (h : ZX t = true) : (Jf t).ok t.length ∧ (Jf t).low := by
  have := zCk (t := t) (σ := Sk) (τ := Sk) (Rel := fun a _ => a.ok t.length ∧ a.low) (s1 := Je) (s2 := Je) (fun a b j f x hF hb hr => ⟨zCh hr.1 _ _ _, zEC h hr.1 hr.2 hF hb⟩) (sk0 t) (sk0 t) ⟨zG8, zEx _, zEx _, zEx _⟩
  exact this
def Zt (t : Tri) : List Int := zBt (Jf t).v
def zCl (t : Tri) : Int := ((roots (Jf t).v (Jf t).v.length).length : Int)
def countF (t : Tri) : (List (List Int)) × (List (List Int)) × (List (List Int)) × List Int :=
  (QN 4 t.length (Zt t), QN 6 t.length (zBt (Jf t).e), QN 4 t.length (zBt (Jf t).f), [zCl t, ((roots (Jf t).e (Jf t).e.length).length : Int), ((roots (Jf t).f (Jf t).f.length).length : Int), (t.length : Int)])
theorem zF3 (h : ZX t = true) {r : (List (List Int)) × (List (List Int)) × (List (List Int)) × List Int} :
    ∀ (d j : Nat) (s : Sk), j + d = t.length → s.ok t.length → (∀ s' : Sk, s' = zAk Je (t.drop j) j s → Ev (fun k => zQ.l0 k (t.length : Int) s'.v s'.e s'.f (t.length : Int) t) r) →
      Ev (fun k => zQ.l0 k (t.length : Int) s.v s.e s.f (j : Int) t) r
  | 0, j, s, hj, hs, hr => by
    obtain rfl : j = t.length := by omega
    exact hr s (by rw [List.drop_length]; rfl)
  | d + 1, j, s, hj, hs, hr => by
    have hlt : j < t.length := by omega
    rw [yoy hlt, zAk] at hr
    refine qU (fun k => by rw [zQ.l0, if_pos (by omega)]) ?_
    refine zDI h j hlt 4 0 s (by omega) hs (fun s' hs' he => ?_)
    rw [List.drop_zero] at he
    subst he
    exact zF3 h d (j + 1) _ (by omega) hs' hr
theorem zC9 (h : ZX t = true) : Ev (fun k => zQ.f k t) (countF t) := by
  have h8 := (qw h).1
  obtain ⟨⟨o1, o2, o3⟩, w1, w2, w3⟩ := JI h
  refine Ev.bind (Qg (by unfold qV.f; rfl)) ?_
  have e4 : wrap64 (4 * (t.length : Int)) = ((4 * t.length : Nat) : Int) := by rw [qo (by omega) (by omega)]; push_cast; rfl
  have e6 : wrap64 (6 * (t.length : Int)) = ((6 * t.length : Nat) : Int) := by rw [qo (by omega) (by omega)]; push_cast; rfl
  refine Ev.congr (fun k => by rw [e4, e6]) ?_
  refine Ev.bind (zC7 (4 * t.length) (by omega)) (Ev.bind (zC7 (6 * t.length) (by omega)) (Ev.bind (zC7 (4 * t.length) (by omega)) ?_))
  refine zF3 h t.length 0 (sk0 t) (by omega) zG8 (fun s' hs' => ?_)
  rw [List.drop_zero] at hs'
  subst hs'
  refine qU (fun k => by rw [zQ.l0, if_neg (by omega)]) ?_
  refine Ev.bind (Ev.now _) ?_
  refine Ev.bind (zDK (m := (Jf t).v) (w := 4) (q := t.length) w1 o1 (by omega) (by omega) (by omega)) ?_
  refine ZD (by simp) ?_
  refine Ev.bind (zDK (m := (Jf t).e) (w := 6) (q := t.length) w2 o2 (by omega) (by omega) (by omega)) ?_
  refine ZD (by simp) ?_
  refine Ev.bind (zDK (m := (Jf t).f) (w := 4) (q := t.length) w3 o3 (by omega) (by omega) (by omega)) ?_
  refine ZD (by simp) ?_
  exact Ev.now _
theorem zCm {j b p : Int} {n : Nat} (hj0 : 0 ≤ j) (hj1 : j < n) (hb0 : 0 ≤ b) (hb1 : b < n) (hp0 : 0 ≤ p) (hp1 : p ≤ 23) : ∀ (L a s : List Int), (∀ c ∈ L, sm c) → Ker a s → a.length = 4 * n → (∀ x ∈ a, 0 ≤ x ∧ x < 4 * (n : Int)) →
    Ker (QE j b (qi p) L a) (JH j b (qi p) L s) ∧ (∀ x ∈ QE j b (qi p) L a, 0 ≤ x ∧ x < 4 * (n : Int))
  | [], a, s, _, hk, _, hr => ⟨hk, hr⟩
  | c :: cs, a, s, hc, hk, hl, hr => by
    rw [QE, JH]
    obtain ⟨c0, c1⟩ := hc c (List.mem_cons_self ..)
    have hd := Zk hp0 hp1 c0 c1
    have i0 : 0 ≤ 4 * j + c := by omega
    have i1 : 4 * j + c < a.length := by omega
    have k0 : 0 ≤ 4 * b + rd (qi p) c := by omega
    have k1 : 4 * b + rd (qi p) c < a.length := by omega
    refine zCm hj0 hj1 hb0 hb1 hp0 hp1 cs _ _ (fun x hx => hc x (List.mem_cons_of_mem _ hx)) (hk.zGN i0 i1 k0 k1) (by rw [Qb]; exact hl) (fun x hx => ?_)
    unfold uni at hx
    obtain ⟨y, hy, rfl⟩ := List.mem_map.1 hx
    split
    · refine hr _ ?_
      obtain ⟨m, hm⟩ := Int.eq_ofNat_of_zero_le i0
      rw [hm, zFZ a m (by omega)]
      exact List.getElem_mem _
    · exact hr y hy
theorem zF4 (h : ZX t = true) : Ker (JV t) (Jf t).v ∧ (JV t).length = 4 * t.length ∧ (∀ x ∈ JV t, 0 ≤ x ∧ x < 4 * (t.length : Int)) := by
  refine zCk (t := t) (σ := List Int) (τ := Sk) (Rel := fun a b => Ker a b.v ∧ a.length = 4 * t.length ∧ (∀ x ∈ a, 0 ≤ x ∧ x < 4 * (t.length : Int))) (s1 := Jd) (s2 := Je) (fun a b j f x hF hb hr => ?_) (ZU 0 (4 * t.length)) (sk0 t) ⟨Ker.refl _, Za _ _, fun x hx => by have := (zG0 0 x _).1 hx; push_cast at this; omega⟩
  obtain ⟨h1, h2, b0, b1, p0, p1⟩ := zA8 h hF hb
  obtain ⟨q1, q2⟩ := zCm (n := t.length) (show (0 : Int) ≤ (j : Int) by omega) (by omega) b0 b1 p0 p1 (zB6 [(f : Int)]) a b.v (fun c hc => (zAV hc).1) hr.1 hr.2.1 hr.2.2
  exact ⟨q1, by unfold Jd; rw [Qh]; exact hr.2.1, q2⟩
theorem zBc (h : ZX t = true) : zm.f t = some (Zt t) := by
  have h8 := (qw h).1
  obtain ⟨hk, hl, hr⟩ := zF4 h
  have h1 : zD3 (JV t) = true := by
    unfold zD3
    rw [Bool.and_eq_true, decide_eq_true_eq, List.all_eq_true]
    exact ⟨by omega, fun x hx => ygy (by have := hr x hx; omega)⟩
  unfold zm.f
  rw [if_pos ⟨zF0 h, h1⟩, hk.zBt]
  rfl
theorem zA9 (h : ZX t = true) : (Zt t).length = 4 * t.length := by
  unfold Zt; rw [zD2]; exact (JI h).1.1
theorem zB9 (m : List Int) : ∀ i : Nat, (roots m i).length ≤ i
  | 0 => yqy _
  | i + 1 => by
    have := zB9 m i
    rw [roots]
    split
    · simp; omega
    · omega
theorem zF5 (h : ZX t = true) : 0 ≤ zCl t ∧ zCl t ≤ 32 := by
  have h8 := (qw h).1
  have := zB9 (Jf t).v (Jf t).v.length
  have := (JI h).1.1
  unfold zCl; omega
theorem zCA (h : ZX t = true) : ZA.f (Zt t) = some (zCl t) := by
  have hb := zF5 h
  have hl := zA9 h
  unfold ZA.f
  by_cases h0 : t.length = 0
  · rw [if_pos (by omega)]
    have := (JI h).1.1
    have := zB9 (Jf t).v (Jf t).v.length
    unfold zCl at hb ⊢
    congr 1; omega
  · rw [if_neg (by omega)]
    obtain ⟨x, xs, e1, e2⟩ := zFj (JI h).2.1 (by have := (JI h).1.1; omega)
    have e3 : Zt t = x :: xs := e1
    rw [e3]
    unfold Zc.f
    rw [yfy, e2]
    unfold zCl at hb ⊢
    rw [qo (by omega) (by omega)]
    congr 1; omega
end
end Go.Proofs.Ytembbpalgfikiaa.P
