/- The statement FnExactDiscsOfSaid, proved: part 6 of 8 (texts of this session and of the kit's print, put together and cut to what is used by a program of it). -/
import Derived.Test.YtfnopcbicceeaaaMFnExactDiscsOf5
namespace Go.Proofs.Ytfnopcbicceeaaa.P
open Go.RowKit Go.Proofs.YtfnopcbicceeaaaW.PrintWords Go.Proofs.YtfnopcbicceeaaaW.PrintLast Go.Proofs.YtfnopcbicceeaaaW.PrintMore
attribute [local go_sem] Qd Qe JC JD QH QI Qf Qg
set_option linter.unusedVariables false
set_option linter.unusedSimpArgs false
mutual
def zi.l0 : Nat → List (List Int) → List (List Int) → Int → List (List (zq)) → Option ((List (List Int)))
 | 0, _, _, _, _ => none
 | k + 1, x3, x4, x5, x102000 => if x5 < (x4.length : Int) then (if 0 ≤ x5 then (if 0 < ((zY x4 x5).length : Int) then (if 1 < ((zY x4 x5).length : Int) then (zi.l1 k x3 x4 x5 (rd (zY x4 x5) 0) (rd (zY x4 x5) 1) 0 x102000) else (none)) else (none)) else (none)) else (some x3)
def zi.l1 : Nat → List (List Int) → List (List Int) → Int → Int → Int → Int → List (List (zq)) → Option ((List (List Int)))
 | 0, _, _, _, _, _, _, _ => none
 | k + 1, x3, x4, x5, x6, x7, x8, x102000 => if x8 < 4 then (if x8 = x7 then (zi.l1 k x3 x4 x5 x6 x7 (wrap64 (x8 + 1)) x102000) else ((zt.f x102000).bind fun t112 => (if 0 ≤ (wrap64 (7 * t112)) then (if (wrap64 (7 * t112) : Int).toNat ≤ 35184372088832 then ((some (List.replicate (wrap64 (7 * t112) : Int).toNat 0 : List Int)).bind fun y113 => ((qc.f k x102000 x6 x7 x8).bind fun bt116 => (if 0 ≤ (wrap64 ((wrap64 (7 * x6)) + x8)) then (if (wrap64 ((wrap64 (7 * x6)) + x8)) < (y113.length : Int) then ((some (y113.set ((wrap64 ((wrap64 (7 * x6)) + x8)) : Int).toNat (wrap64 ((rd y113 (wrap64 ((wrap64 (7 * x6)) + x8))) + 1)) : List Int)).bind fun y120 => ((qE.f x7 x8).bind fun t121 => (if 0 ≤ (wrap64 ((wrap64 ((wrap64 (7 * x6)) + 4)) + t121)) then (if (wrap64 ((wrap64 ((wrap64 (7 * x6)) + 4)) + t121)) < (y113.length : Int) then ((some (y120.set ((wrap64 ((wrap64 ((wrap64 (7 * x6)) + 4)) + t121)) : Int).toNat (wrap64 ((rd y120 (wrap64 ((wrap64 ((wrap64 (7 * x6)) + 4)) + t121))) + 1)) : List Int)).bind fun y123 => (if 0 ≤ (wrap64 ((wrap64 (7 * bt116.1)) + bt116.2.2)) then (if (wrap64 ((wrap64 (7 * bt116.1)) + bt116.2.2)) < (y113.length : Int) then ((some (y123.set ((wrap64 ((wrap64 (7 * bt116.1)) + bt116.2.2)) : Int).toNat (wrap64 ((rd y123 (wrap64 ((wrap64 (7 * bt116.1)) + bt116.2.2))) - 1)) : List Int)).bind fun y125 => ((qE.f bt116.2.1 bt116.2.2).bind fun t126 => (if 0 ≤ (wrap64 ((wrap64 ((wrap64 (7 * bt116.1)) + 4)) + t126)) then (if (wrap64 ((wrap64 ((wrap64 (7 * bt116.1)) + 4)) + t126)) < (y113.length : Int) then (if x3.length < 5864062014805 then (zi.l1 k (x3 ++ [(y125.set ((wrap64 ((wrap64 ((wrap64 (7 * bt116.1)) + 4)) + t126)) : Int).toNat (wrap64 ((rd y125 (wrap64 ((wrap64 ((wrap64 (7 * bt116.1)) + 4)) + t126))) - 1)))]) x4 x5 x6 x7 (wrap64 (x8 + 1)) x102000) else (none)) else (none)) else (none)))) else (none)) else (none))) else (none)) else (none)))) else (none)) else (none)))) else (none)) else (none)))) else (zi.l0 k x3 x4 (wrap64 (x5 + 1)) x102000)
end
def zi.f (k : Nat) (l0_0 : List (List (zq))) : Option ((List (List Int))) := (zn.f k l0_0).bind fun t105 => (zi.l0 k (([] : List (List Int))) t105 0 l0_0)
set_option maxHeartbeats 8000000 in
set_option maxRecDepth 100000 in
theorem zi.calls (k : Nat) (A0_0 : Option Addr) (c0_0 : Nat) (l0_0 : List (List (zq))) (r : List (List Int)) (w : World) (hr0_0 : Kd.C (Kd.slice 59 qx) w A0_0 l0_0.length l0_0) (hc0_0 : l0_0.length ≤ c0_0) (h : zi.f k l0_0 = some r) :
 Calls Try.prog 148 #[.agg #[.slice A0_0 l0_0.length c0_0]] w fun e w' => ∃ v0_ : Value, e = .returned (v0_) ∧ Kd.S (Kd.slice 2 (Kd.int .i64)) 44 w' w.heap.size (fun _ => True) v0_ r ∧ Below w.heap.size w w' := by
 have hu30 := Try.underlying30
 have HR0_0 := zA.mk hr0_0
 have HC0_0 := zA.mk hc0_0
 clear hr0_0 hc0_0
 have HB := zA.mk (yry w.heap.size w)
 have H : ((zn.f k l0_0).bind fun t105 => (zi.l0 k (([] : List (List Int))) t105 0 l0_0)) = some r := h
 clear h
 obtain ⟨y102, hy102⟩ : ∃ y_ : List (List Int), y_ = (([] : List (List Int))) := ⟨_, rfl⟩
 replace H : ((zn.f k l0_0).bind fun t105 => (zi.l0 k y102 t105 0 l0_0)) = some r := by first | (rw [hy102]; with_reducible exact H) | (have H2_ := (yfy _ _).symm.trans H; rw [hy102]; with_reducible exact H2_) | (have H2_ := (yfy _ _).symm.trans H; with_reducible exact H2_) | with_reducible exact H | (rw [hy102]; exact H) | exact H
 have Ny102 := zA.mk hy102
 clear hy102
 replace H := ydy.mp H
 obtain ⟨t105, A20, H⟩ := H
 replace H : (zi.l0 k y102 t105 0 l0_0) = some r := H
 have A2 := zA.mk A20
 clear A20
 have H' := zA.mk H
 clear H
 go_enter Try.func148, Try.ntmps148
 go_wp2_with (first | ((with_reducible refine zd (N := 1) rfl ?_); refine zb ?hg (N := 1) ?hd (cs := #[.slice A0_0 l0_0.length c0_0]) (t := 30) ?hr ?_; (case hd => rfl); (case hg => rfl); (case hr => first | (go_simp; done) | (go_simp; rfl)); intro gb101 hg w3 hbox hb; have n0_ := zA.mk (zN (by repeat (first | (with_reducible first | exact HB.out | apply zC | apply zB | apply zD) | exact HB.out)) hb); have n1_ := zA.mk (hbox); have n2_ := zA.mk ((by rw [hg]; exact (zO (by repeat (first | (with_reducible first | exact HB.out | apply zC | apply zB | apply zD) | exact HB.out))) : w.heap.size ≤ gb101)); have n3_ := zA.mk ((by rw [hg]; exact (zO (by repeat (first | (with_reducible first | exact HB.out | apply zC | apply zB | apply zD) | exact HB.out))) : w.heap.size ≤ gb101)); clear HB; have HB := n0_; have BK101 := n1_; have GW101 := n2_; have GE101 := n3_; clear n0_ n1_ n2_ n3_; clear hb hbox hg) | ((with_reducible refine zd (N := 13) rfl ?_); refine Kd.S_lit (Kd.slice 2 (Kd.int .i64)) _ 44 ?hg (N := 13) ?hd (xs := ([] : List (List Int))) (inner := []) (ok := fun _ => True) (okp := fun _ => True) ?hr ?hp (fun _ hk => hk) trivial (yry _ _) (yqy _) (by simp) ?_; (case hd => rfl); (case hg => rfl); (case hr => first | (go_simp; done) | (go_simp; rfl)); (case hp => exact (QS.none _ _)); intro v103 w4 ho5 hb hg_ hnew_; clear hg_ hnew_; (first | rw [← Ny102.out] at ho5 | (simp only [Int.reduceToNat] at ho5; rw [← Ny102.out] at ho5)); have n0_ := zA.mk (Kd.zA7 ho5 (zO (by repeat (first | (with_reducible first | exact HB.out | apply zC | apply zB | apply zD | refine zF ?_ GE101.out) | exact HB.out)))); have n1_ := zA.mk (zP (g := gb101) (o := .cells #[.slice A0_0 l0_0.length c0_0] 30 (0, 0)) (by (with_reducible repeat (first | refine zI ?_ _ | refine zJ ?_ | refine zH ?_ _)); exact BK101.out) hb); have n2_ := zA.mk (zN (by repeat (first | (with_reducible first | exact HB.out | apply zC | apply zB | apply zD | refine zF ?_ GE101.out) | exact HB.out)) hb); clear BK101; clear HB; have HO104 := n0_; have BK101 := n1_; have HB := n2_; clear n0_ n1_ n2_; clear hb ho5; have hcz6_0 : w4.cell? ⟨gb101, 0, none⟩ = some (.slice A0_0 l0_0.length c0_0) := (zK BK101.out 0).trans rfl; have hfz6_0 := zL BK101.out 0) | ((with_reducible refine zS (f := 152) rfl ?_); refine qB (some 15) rfl rfl Try.func152 (by kernel_rfl) rfl #[.agg #[.slice A0_0 l0_0.length c0_0]] rfl (by (try simp only [yiy, yjy, yky]); first | done | rfl | (simp only [yly, ymy]; rfl)) ?_; (with_reducible refine (zn.calls k _ _ l0_0 t105 _ ?side1 ?side2 A2.out).mono ?_); (case side1 => repeat (first | exact (Kd.ze HR0_0.out HB.out) | (with_reducible refine Kd.zf ?_ _) | (with_reducible refine Kd.zg ?_ _) | (with_reducible refine Kd.zz ?_))); (case side2 => exact HC0_0.out); rintro e w7 ⟨v106, rfl, ho0, hb⟩; refine ⟨_, rfl, ?_⟩; have n0_ := zA.mk (Kd.Jw (by (with_reducible repeat (first | apply Kd.qN | apply Kd.qO | apply Kd.ql)); exact HO104.out) (Kd.S_base ho0) hb); have n1_ := zA.mk (Kd.zA7 (Kd.S_new' ho0 (Kd.S_lt (by (with_reducible repeat (first | apply Kd.qN | apply Kd.qO | apply Kd.ql)); exact HO104.out))) (zO (by repeat (first | (with_reducible first | exact HB.out | apply zC | apply zB | apply zD | refine zF ?_ GE101.out) | exact HB.out)))); have n2_ := zA.mk (zP (g := gb101) (o := .cells #[.slice A0_0 l0_0.length c0_0] 30 (0, 0)) (by (with_reducible repeat (first | refine zI ?_ _ | refine zJ ?_ | refine zH ?_ _)); exact BK101.out) hb); have n3_ := zA.mk (zN (by repeat (first | (with_reducible first | exact HB.out | apply zC | apply zB | apply zD | refine zF ?_ GE101.out) | exact HB.out)) hb); clear HO104; clear BK101; clear HB; have HO104 := n0_; have HO107 := n1_; have BK101 := n2_; have HB := n3_; clear n0_ n1_ n2_ n3_; (try clear hb); (try clear hb2); (try clear hk); (try clear hi); (try clear ho0)))
 go_loopg [3, 5] k (fun kq v3 v5 w' => ∃ (x3_1 : List (List Int)) (x5_1 : Int), v5 = .int .i64 x5_1 ∧ zA (zi.l0 kq x3_1 t105 x5_1 l0_0 = some r) ∧ zA (kq ≤ k) ∧ zA (Kd.S (Kd.slice 2 (Kd.int .i64)) 44 w' w.heap.size (fun k_ => some k_ ≠ (v106 : Value).ownBlock) v3 x3_1) ∧ zA (Kd.S (Kd.slice 2 (Kd.int .i64)) 44 w' w.heap.size (fun k_ => some k_ ≠ (v3 : Value).ownBlock) v106 t105) ∧ zA (w'.heap[gb101]? = some (.cells #[(.slice A0_0 l0_0.length c0_0)] 30 (0, 0))) ∧ zA (Below w.heap.size w w'))
 case atStart => exact ⟨(y102), (0), (by first | rfl | (simp; done) | (simp [*]; done)), H', ⟨yqy _⟩, ⟨by (with_reducible repeat (first | apply Kd.qN | apply Kd.qO | apply Kd.ql)); exact Kd.Zj HO104.out (fun _ hk => hk.2)⟩, ⟨by (with_reducible repeat (first | apply Kd.qN | apply Kd.qO | apply Kd.ql)); exact Kd.Zj HO107.out (fun _ hk => hk.2)⟩, ⟨by (with_reducible repeat (first | refine zI ?_ _ | refine zJ ?_ | refine zH ?_ _)); exact BK101.out⟩, ⟨by repeat (first | (with_reducible first | exact HB.out | apply zC | apply zB | apply zD | refine zF ?_ GE101.out) | exact HB.out)⟩⟩
 case round =>
  clear H'
  try clear c1
  try clear p2
  try clear hcz6_0
  try clear hfz6_0
  obtain ⟨x3_1, x5_1, rfl, HA, HK1, HO_3, HO_4, BK101, HB⟩ := hrel
  cases gk with
  | zero => exact absurd HA.out (by simp [zi.l0])
  | succ k1 =>
   have H := HA.out
   clear HA
   simp only [zi.l0] at H
   by_cases c8 : x5_1 < (t105.length : Int)
   rotate_left
   next =>
    rw [if_neg c8] at H
    have c8b0 : decide (x5_1 < (t105.length : Int)) = false := yhy c8
    clear c8
    obtain rfl := yey H
    obtain ⟨Ao55, co55, eo55⟩ := Kd.JS HO_4.out
    subst eo55
    go_wp2
    go_ret
    exact ⟨_, by first | rfl | (simp [zQ, zR] <;> rfl) | (simp [*, zQ, zR] <;> rfl), by (with_reducible repeat (first | apply Kd.qN | apply Kd.qO | apply Kd.ql)); exact Kd.Zj HO_3.out (fun _ hk => trivial), by repeat (first | (with_reducible first | exact HB.out | apply zC | apply zB | apply zD | refine zF ?_ GE101.out) | exact HB.out)⟩
   rw [if_pos c8] at H
   have c8b0 : decide (x5_1 < (t105.length : Int)) = true := ygy c8
   clear c8
   by_cases c9 : 0 ≤ x5_1
   rotate_left
   next =>
    rw [if_neg c9] at H
    exact absurd H (by simp)
   rw [if_pos c9] at H
   have c9b0 : decide (0 ≤ x5_1) = true := ygy c9
   clear c9
   by_cases c10 : 0 < ((zY t105 x5_1).length : Int)
   rotate_left
   next =>
    rw [if_neg c10] at H
    exact absurd H (by simp)
   rw [if_pos c10] at H
   have c10b0 : decide (0 < ((zY t105 x5_1).length : Int)) = true := ygy c10
   have c10b1 : decide (0 < (zY t105 x5_1).length) = true := ygy (by omega)
   clear c10
   by_cases c11 : 1 < ((zY t105 x5_1).length : Int)
   rotate_left
   next =>
    rw [if_neg c11] at H
    exact absurd H (by simp)
   rw [if_pos c11] at H
   have c11b0 : decide (1 < ((zY t105 x5_1).length : Int)) = true := ygy c11
   have c11b1 : decide (1 < (zY t105 x5_1).length) = true := ygy (by omega)
   clear c11
   have H' := zA.mk H
   clear H
   obtain ⟨Ao12, co12, eo12⟩ := Kd.JS HO_4.out
   subst eo12
   have p108 : 0 ≤ (x5_1 : Int) := of_decide_eq_true (by first | (with_reducible assumption) | assumption)
   have q108 : x5_1 < (t105.length : Int) := of_decide_eq_true (by first | (with_reducible assumption) | assumption)
   obtain ⟨ad108, A108_0, c108_0, e108, hx108_0, hl108_0, hi108_0⟩ := zCI (Kd.QK HO_4.out).2.2 x5_1 p108 q108
   cases e108
   obtain ⟨ce108, hce108, hMe108, hcc108⟩ := Kd.zFW HO_4.out [] x5_1 p108 (by first | exact q108 | exact of_decide_eq_true (by first | (with_reducible assumption) | assumption) | (have e_ := (Kd.QK HO_4.out).1; omega))
   obtain ⟨ve108_0, rfl, ge108_0⟩ := hMe108
   have hv108_0 := hcc108 0 _ rfl
   rw [Nat.add_zero, show ((Kd.slice 2 (Kd.int .i64))).sz = 1 from rfl, Nat.mul_one] at hv108_0
   replace hv108_0 := yey (hv108_0.symm.trans hx108_0)
   rw [hv108_0] at ge108_0
   have HL108_0 := zA.mk (show Kd.R (Kd.int .i64) 2 _ _ _ _ (zY t105 x5_1) from ge108_0)
   clear hv108_0 ge108_0
   clear hcc108 hce108
   have HR108_0 := zA.mk hi108_0
   have HC108_0 := zA.mk hl108_0
   clear hi108_0 hl108_0
   replace p108 := eq_true p108
   replace q108 := eq_true q108
   have p109 : 0 ≤ (0 : Int) := (by omega)
   have q109 : 0 < ((zY t105 x5_1).length : Int) := of_decide_eq_true (by first | (with_reducible assumption) | assumption)
   obtain ⟨ad109, e109, hx109_0⟩ := Kd.ZI (by repeat (first | (with_reducible exact HR108_0.out) | (with_reducible refine Kd.zf ?_ _) | (with_reducible refine Kd.zg ?_ _) | (with_reducible refine Kd.zz ?_) | exact HR108_0.out)) 0 p109 q109
   cases e109
   have qi109 : (0 < (zY t105 x5_1).length) = True := eq_true (by omega)
   (try rw [show ((0 : Int)).toNat = 0 from rfl] at hx109_0)
   (try rw [Addr.add_zero'] at hx109_0)
   replace p109 := eq_true p109
   replace q109 := eq_true q109
   have p110 : 0 ≤ (x5_1 : Int) := of_decide_eq_true (by first | (with_reducible assumption) | assumption)
   have q110 : x5_1 < (t105.length : Int) := of_decide_eq_true (by first | (with_reducible assumption) | assumption)
   obtain ⟨ad110, A110_0, c110_0, e110, hx110_0, hl110_0, hi110_0⟩ := zCI (Kd.QK HO_4.out).2.2 x5_1 p110 q110
   obtain rfl : ad108 = ad110 := (by injection e110)
   obtain ⟨ce110, hce110, hMe110, hcc110⟩ := Kd.zFW HO_4.out [] x5_1 p110 (by first | exact q110 | exact of_decide_eq_true (by first | (with_reducible assumption) | assumption) | (have e_ := (Kd.QK HO_4.out).1; omega))
   obtain ⟨ve110_0, rfl, ge110_0⟩ := hMe110
   have hv110_0 := hcc110 0 _ rfl
   rw [Nat.add_zero, show ((Kd.slice 2 (Kd.int .i64))).sz = 1 from rfl, Nat.mul_one] at hv110_0
   replace hv110_0 := yey (hv110_0.symm.trans hx110_0)
   rw [hv110_0] at ge110_0
   have HL110_0 := zA.mk (show Kd.R (Kd.int .i64) 2 _ _ _ _ (zY t105 x5_1) from ge110_0)
   clear hv110_0 ge110_0
   clear hcc110 hce110
   have HR110_0 := zA.mk hi110_0
   have HC110_0 := zA.mk hl110_0
   clear hi110_0 hl110_0
   replace p110 := eq_true p110
   replace q110 := eq_true q110
   have ea_ := yey (hx108_0.symm.trans hx110_0)
   injection ea_ with ea_ en_ ec_
   subst ea_
   subst ec_
   clear en_
   have p111 : 0 ≤ (1 : Int) := (by omega)
   have q111 : 1 < ((zY t105 x5_1).length : Int) := of_decide_eq_true (by first | (with_reducible assumption) | assumption)
   obtain ⟨ad111, e111, hx111_0⟩ := Kd.ZI (by repeat (first | (with_reducible exact HR110_0.out) | (with_reducible refine Kd.zf ?_ _) | (with_reducible refine Kd.zg ?_ _) | (with_reducible refine Kd.zz ?_) | exact HR110_0.out)) 1 p111 q111
   cases e111
   (try simp only [show (1 : Int).toNat = 1 from rfl, Nat.reduceMul, Nat.reduceEqDiff, Go.Addr.add, ↓reduceIte] at hx111_0)
   have qi111 : (1 < (zY t105 x5_1).length) = True := eq_true (by omega)
   (try rw [show ((1 : Int)).toNat = 1 from rfl] at hx111_0)
   replace p111 := eq_true p111
   replace q111 := eq_true q111
   go_wp2
   go_loopg [3, 8] k1 (fun kq v3 v8 w' => ∃ (x3_2 : List (List Int)) (x8_2 : Int), v8 = .int .i64 x8_2 ∧ zA (zi.l1 kq x3_2 t105 x5_1 (rd (zY t105 x5_1) 0) (rd (zY t105 x5_1) 1) x8_2 l0_0 = some r) ∧ zA (kq ≤ k1) ∧ zA (Kd.S (Kd.slice 2 (Kd.int .i64)) 44 w' w.heap.size (fun k_ => some k_ ≠ ((.slice (some ad108) t105.length co12) : Value).ownBlock) v3 x3_2) ∧ zA (Kd.S (Kd.slice 2 (Kd.int .i64)) 44 w' w.heap.size (fun k_ => some k_ ≠ (v3 : Value).ownBlock) (.slice (some ad108) t105.length co12) t105) ∧ zA (w'.heap[gb101]? = some (.cells #[(.slice A0_0 l0_0.length c0_0)] 30 (0, 0))) ∧ zA (Below w.heap.size w w'))
   case atStart => exact ⟨(x3_1), (0), (by first | rfl | (simp; done) | (simp [*]; done)), H', ⟨yqy _⟩, ⟨by (with_reducible repeat (first | apply Kd.qN | apply Kd.qO | apply Kd.ql)); exact HO_3.out⟩, ⟨by (with_reducible repeat (first | apply Kd.qN | apply Kd.qO | apply Kd.ql)); exact HO_4.out⟩, ⟨by (with_reducible repeat (first | refine zI ?_ _ | refine zJ ?_ | refine zH ?_ _)); exact BK101.out⟩, ⟨by repeat (first | (with_reducible first | exact HB.out | apply zC | apply zB | apply zD | refine zF ?_ GE101.out) | exact HB.out)⟩⟩
   case round =>
    clear H'
    try clear c1
    try clear p1
    try clear q1
    try clear hx1
    try clear qi1
    try clear p2
    try clear c8
    try clear c8b0
    try clear c9
    try clear c9b0
    try clear c10
    try clear c10b0
    try clear c10b1
    try clear p10
    try clear q10
    try clear hx10
    try clear qi10
    try clear c11
    try clear c11b0
    try clear c11b1
    try clear p11
    try clear q11
    try clear hx11
    try clear qi11
    try clear hcz6_0
    try clear hfz6_0
    try clear hx108_0
    try clear hx109_0
    try clear hx110_0
    try clear hx111_0
    try clear p108
    try clear p109
    try clear p110
    try clear p111
    try clear p2
    try clear q108
    try clear q109
    try clear q110
    try clear q111
    obtain ⟨x3_2, x8_2, rfl, HA, HK2, HO_3, HO_4, BK101, HB⟩ := hrel
    cases gk with
    | zero => exact absurd HA.out (by simp [zi.l1])
    | succ k2 =>
     have H := HA.out
     clear HA
     simp only [zi.l1] at H
     by_cases c13 : x8_2 < 4
     rotate_left
     next =>
      rw [if_neg c13] at H
      have c13b0 : decide (x8_2 < 4) = false := yhy c13
      clear c13
      have H' := zA.mk H
      clear H
      go_wp2
      go_roundg k2
      case measure => have := HK1.out; have := HK2.out; omega
      case rel => exact ⟨(x3_2), (wrap64 (x5_1 + 1)), (by first | rfl | (simp; done) | (simp [*]; done)), H', ⟨by have := HK1.out; have := HK2.out; omega⟩, ⟨by (with_reducible repeat (first | apply Kd.qN | apply Kd.qO | apply Kd.ql)); exact HO_3.out⟩, ⟨by (with_reducible repeat (first | apply Kd.qN | apply Kd.qO | apply Kd.ql)); exact HO_4.out⟩, ⟨by (with_reducible repeat (first | refine zI ?_ _ | refine zJ ?_ | refine zH ?_ _)); exact BK101.out⟩, ⟨by repeat (first | (with_reducible first | exact HB.out | apply zC | apply zB | apply zD | refine zF ?_ GE101.out) | exact HB.out)⟩⟩
     rw [if_pos c13] at H
     have c13b0 : decide (x8_2 < 4) = true := ygy c13
     clear c13
     by_cases c14 : x8_2 = (rd (zY t105 x5_1) 1)
     next =>
      rw [if_pos c14] at H
      have c14b0 : (x8_2 == (rd (zY t105 x5_1) 1)) = true := beq_iff_eq.mpr c14
      have c14b1 : (x8_2 != (rd (zY t105 x5_1) 1)) = false := bne_eq_false_iff_eq.mpr c14
      clear c14
      have H' := zA.mk H
      clear H
      go_wp2
      go_roundg k2
      case measure => have := HK1.out; have := HK2.out; omega
      case rel => exact ⟨(x3_2), (wrap64 (x8_2 + 1)), (by first | rfl | (simp; done) | (simp [*]; done)), H', ⟨by have := HK1.out; have := HK2.out; omega⟩, ⟨by (with_reducible repeat (first | apply Kd.qN | apply Kd.qO | apply Kd.ql)); exact HO_3.out⟩, ⟨by (with_reducible repeat (first | apply Kd.qN | apply Kd.qO | apply Kd.ql)); exact HO_4.out⟩, ⟨by (with_reducible repeat (first | refine zI ?_ _ | refine zJ ?_ | refine zH ?_ _)); exact BK101.out⟩, ⟨by repeat (first | (with_reducible first | exact HB.out | apply zC | apply zB | apply zD | refine zF ?_ GE101.out) | exact HB.out)⟩⟩
     next =>
      rw [if_neg c14] at H
      have c14b0 : (x8_2 == (rd (zY t105 x5_1) 1)) = false := beq_eq_false_iff_ne.mpr c14
      have c14b1 : (x8_2 != (rd (zY t105 x5_1) 1)) = true := bne_iff_ne.mpr c14
      replace H := ydy.mp H
      obtain ⟨t112, A150, H⟩ := H
      replace H : (if 0 ≤ (wrap64 (7 * t112)) then (if (wrap64 (7 * t112) : Int).toNat ≤ 35184372088832 then ((some (List.replicate (wrap64 (7 * t112) : Int).toNat 0 : List Int)).bind fun y113 => ((qc.f k2 l0_0 (rd (zY t105 x5_1) 0) (rd (zY t105 x5_1) 1) x8_2).bind fun bt116 => (if 0 ≤ (wrap64 ((wrap64 (7 * (rd (zY t105 x5_1) 0))) + x8_2)) then (if (wrap64 ((wrap64 (7 * (rd (zY t105 x5_1) 0))) + x8_2)) < (y113.length : Int) then ((some (y113.set ((wrap64 ((wrap64 (7 * (rd (zY t105 x5_1) 0))) + x8_2)) : Int).toNat (wrap64 ((rd y113 (wrap64 ((wrap64 (7 * (rd (zY t105 x5_1) 0))) + x8_2))) + 1)) : List Int)).bind fun y120 => ((qE.f (rd (zY t105 x5_1) 1) x8_2).bind fun t121 => (if 0 ≤ (wrap64 ((wrap64 ((wrap64 (7 * (rd (zY t105 x5_1) 0))) + 4)) + t121)) then (if (wrap64 ((wrap64 ((wrap64 (7 * (rd (zY t105 x5_1) 0))) + 4)) + t121)) < (y113.length : Int) then ((some (y120.set ((wrap64 ((wrap64 ((wrap64 (7 * (rd (zY t105 x5_1) 0))) + 4)) + t121)) : Int).toNat (wrap64 ((rd y120 (wrap64 ((wrap64 ((wrap64 (7 * (rd (zY t105 x5_1) 0))) + 4)) + t121))) + 1)) : List Int)).bind fun y123 => (if 0 ≤ (wrap64 ((wrap64 (7 * bt116.1)) + bt116.2.2)) then (if (wrap64 ((wrap64 (7 * bt116.1)) + bt116.2.2)) < (y113.length : Int) then ((some (y123.set ((wrap64 ((wrap64 (7 * bt116.1)) + bt116.2.2)) : Int).toNat (wrap64 ((rd y123 (wrap64 ((wrap64 (7 * bt116.1)) + bt116.2.2))) - 1)) : List Int)).bind fun y125 => ((qE.f bt116.2.1 bt116.2.2).bind fun t126 => (if 0 ≤ (wrap64 ((wrap64 ((wrap64 (7 * bt116.1)) + 4)) + t126)) then (if (wrap64 ((wrap64 ((wrap64 (7 * bt116.1)) + 4)) + t126)) < (y113.length : Int) then (if x3_2.length < 5864062014805 then (zi.l1 k2 (x3_2 ++ [(y125.set ((wrap64 ((wrap64 ((wrap64 (7 * bt116.1)) + 4)) + t126)) : Int).toNat (wrap64 ((rd y125 (wrap64 ((wrap64 ((wrap64 (7 * bt116.1)) + 4)) + t126))) - 1)))]) t105 x5_1 (rd (zY t105 x5_1) 0) (rd (zY t105 x5_1) 1) (wrap64 (x8_2 + 1)) l0_0) else (none)) else (none)) else (none)))) else (none)) else (none))) else (none)) else (none)))) else (none)) else (none)))) else (none)) else (none)) = some r := H
      have A15 := zA.mk A150
      clear A150
      obtain ⟨ji16, hji16⟩ : ∃ j_ : Int, (wrap64 (7 * t112)) = j_ := ⟨_, rfl⟩
      replace H : (if 0 ≤ (ji16) then (if (ji16 : Int).toNat ≤ 35184372088832 then ((some (List.replicate (ji16 : Int).toNat 0 : List Int)).bind fun y113 => ((qc.f k2 l0_0 (rd (zY t105 x5_1) 0) (rd (zY t105 x5_1) 1) x8_2).bind fun bt116 => (if 0 ≤ (wrap64 ((wrap64 (7 * (rd (zY t105 x5_1) 0))) + x8_2)) then (if (wrap64 ((wrap64 (7 * (rd (zY t105 x5_1) 0))) + x8_2)) < (y113.length : Int) then ((some (y113.set ((wrap64 ((wrap64 (7 * (rd (zY t105 x5_1) 0))) + x8_2)) : Int).toNat (wrap64 ((rd y113 (wrap64 ((wrap64 (7 * (rd (zY t105 x5_1) 0))) + x8_2))) + 1)) : List Int)).bind fun y120 => ((qE.f (rd (zY t105 x5_1) 1) x8_2).bind fun t121 => (if 0 ≤ (wrap64 ((wrap64 ((wrap64 (7 * (rd (zY t105 x5_1) 0))) + 4)) + t121)) then (if (wrap64 ((wrap64 ((wrap64 (7 * (rd (zY t105 x5_1) 0))) + 4)) + t121)) < (y113.length : Int) then ((some (y120.set ((wrap64 ((wrap64 ((wrap64 (7 * (rd (zY t105 x5_1) 0))) + 4)) + t121)) : Int).toNat (wrap64 ((rd y120 (wrap64 ((wrap64 ((wrap64 (7 * (rd (zY t105 x5_1) 0))) + 4)) + t121))) + 1)) : List Int)).bind fun y123 => (if 0 ≤ (wrap64 ((wrap64 (7 * bt116.1)) + bt116.2.2)) then (if (wrap64 ((wrap64 (7 * bt116.1)) + bt116.2.2)) < (y113.length : Int) then ((some (y123.set ((wrap64 ((wrap64 (7 * bt116.1)) + bt116.2.2)) : Int).toNat (wrap64 ((rd y123 (wrap64 ((wrap64 (7 * bt116.1)) + bt116.2.2))) - 1)) : List Int)).bind fun y125 => ((qE.f bt116.2.1 bt116.2.2).bind fun t126 => (if 0 ≤ (wrap64 ((wrap64 ((wrap64 (7 * bt116.1)) + 4)) + t126)) then (if (wrap64 ((wrap64 ((wrap64 (7 * bt116.1)) + 4)) + t126)) < (y113.length : Int) then (if x3_2.length < 5864062014805 then (zi.l1 k2 (x3_2 ++ [(y125.set ((wrap64 ((wrap64 ((wrap64 (7 * bt116.1)) + 4)) + t126)) : Int).toNat (wrap64 ((rd y125 (wrap64 ((wrap64 ((wrap64 (7 * bt116.1)) + 4)) + t126))) - 1)))]) t105 x5_1 (rd (zY t105 x5_1) 0) (rd (zY t105 x5_1) 1) (wrap64 (x8_2 + 1)) l0_0) else (none)) else (none)) else (none)))) else (none)) else (none))) else (none)) else (none)))) else (none)) else (none)))) else (none)) else (none)) = some r := by first | (rw [hji16] at H; exact H) | (simp only [hji16] at H ⊢; exact H)
      (try rw [hji16] at A15)
      have hji16w : (IntKind.i64.wrap (7 * t112)) = ji16 := (zW _).trans hji16
      by_cases c17 : 0 ≤ (ji16)
      rotate_left
      next =>
       rw [if_neg c17] at H
       exact absurd H (by simp)
      rw [if_pos c17] at H
      have c17b0 := eq_true c17
      have c17b1 : decide (0 ≤ (ji16)) = true := ygy c17
      clear c17
      by_cases c18 : (ji16 : Int).toNat ≤ 35184372088832
      rotate_left
      next =>
       rw [if_neg c18] at H
       exact absurd H (by simp)
      rw [if_pos c18] at H
      have c18b0 := eq_true c18
      have c18b1 : decide ((ji16 : Int).toNat ≤ 35184372088832) = true := ygy c18
      clear c18
      obtain ⟨y113, hy113⟩ : ∃ y_ : List Int, y_ = (List.replicate (ji16 : Int).toNat 0) := ⟨_, rfl⟩
      replace H : ((qc.f k2 l0_0 (rd (zY t105 x5_1) 0) (rd (zY t105 x5_1) 1) x8_2).bind fun bt116 => (if 0 ≤ (wrap64 ((wrap64 (7 * (rd (zY t105 x5_1) 0))) + x8_2)) then (if (wrap64 ((wrap64 (7 * (rd (zY t105 x5_1) 0))) + x8_2)) < (y113.length : Int) then ((some (y113.set ((wrap64 ((wrap64 (7 * (rd (zY t105 x5_1) 0))) + x8_2)) : Int).toNat (wrap64 ((rd y113 (wrap64 ((wrap64 (7 * (rd (zY t105 x5_1) 0))) + x8_2))) + 1)) : List Int)).bind fun y120 => ((qE.f (rd (zY t105 x5_1) 1) x8_2).bind fun t121 => (if 0 ≤ (wrap64 ((wrap64 ((wrap64 (7 * (rd (zY t105 x5_1) 0))) + 4)) + t121)) then (if (wrap64 ((wrap64 ((wrap64 (7 * (rd (zY t105 x5_1) 0))) + 4)) + t121)) < (y113.length : Int) then ((some (y120.set ((wrap64 ((wrap64 ((wrap64 (7 * (rd (zY t105 x5_1) 0))) + 4)) + t121)) : Int).toNat (wrap64 ((rd y120 (wrap64 ((wrap64 ((wrap64 (7 * (rd (zY t105 x5_1) 0))) + 4)) + t121))) + 1)) : List Int)).bind fun y123 => (if 0 ≤ (wrap64 ((wrap64 (7 * bt116.1)) + bt116.2.2)) then (if (wrap64 ((wrap64 (7 * bt116.1)) + bt116.2.2)) < (y113.length : Int) then ((some (y123.set ((wrap64 ((wrap64 (7 * bt116.1)) + bt116.2.2)) : Int).toNat (wrap64 ((rd y123 (wrap64 ((wrap64 (7 * bt116.1)) + bt116.2.2))) - 1)) : List Int)).bind fun y125 => ((qE.f bt116.2.1 bt116.2.2).bind fun t126 => (if 0 ≤ (wrap64 ((wrap64 ((wrap64 (7 * bt116.1)) + 4)) + t126)) then (if (wrap64 ((wrap64 ((wrap64 (7 * bt116.1)) + 4)) + t126)) < (y113.length : Int) then (if x3_2.length < 5864062014805 then (zi.l1 k2 (x3_2 ++ [(y125.set ((wrap64 ((wrap64 ((wrap64 (7 * bt116.1)) + 4)) + t126)) : Int).toNat (wrap64 ((rd y125 (wrap64 ((wrap64 ((wrap64 (7 * bt116.1)) + 4)) + t126))) - 1)))]) t105 x5_1 (rd (zY t105 x5_1) 0) (rd (zY t105 x5_1) 1) (wrap64 (x8_2 + 1)) l0_0) else (none)) else (none)) else (none)))) else (none)) else (none))) else (none)) else (none)))) else (none)) else (none))) = some r := by first | (rw [hy113]; with_reducible exact H) | (have H2_ := (yfy _ _).symm.trans H; rw [hy113]; with_reducible exact H2_) | (have H2_ := (yfy _ _).symm.trans H; with_reducible exact H2_) | with_reducible exact H | (rw [hy113]; exact H) | exact H
      have Ny113 := zA.mk hy113
      clear hy113
      replace H := ydy.mp H
      obtain ⟨⟨t116, t117, t118⟩, A190, H⟩ := H
      replace H : (if 0 ≤ (wrap64 ((wrap64 (7 * (rd (zY t105 x5_1) 0))) + x8_2)) then (if (wrap64 ((wrap64 (7 * (rd (zY t105 x5_1) 0))) + x8_2)) < (y113.length : Int) then ((some (y113.set ((wrap64 ((wrap64 (7 * (rd (zY t105 x5_1) 0))) + x8_2)) : Int).toNat (wrap64 ((rd y113 (wrap64 ((wrap64 (7 * (rd (zY t105 x5_1) 0))) + x8_2))) + 1)) : List Int)).bind fun y120 => ((qE.f (rd (zY t105 x5_1) 1) x8_2).bind fun t121 => (if 0 ≤ (wrap64 ((wrap64 ((wrap64 (7 * (rd (zY t105 x5_1) 0))) + 4)) + t121)) then (if (wrap64 ((wrap64 ((wrap64 (7 * (rd (zY t105 x5_1) 0))) + 4)) + t121)) < (y113.length : Int) then ((some (y120.set ((wrap64 ((wrap64 ((wrap64 (7 * (rd (zY t105 x5_1) 0))) + 4)) + t121)) : Int).toNat (wrap64 ((rd y120 (wrap64 ((wrap64 ((wrap64 (7 * (rd (zY t105 x5_1) 0))) + 4)) + t121))) + 1)) : List Int)).bind fun y123 => (if 0 ≤ (wrap64 ((wrap64 (7 * t116)) + t118)) then (if (wrap64 ((wrap64 (7 * t116)) + t118)) < (y113.length : Int) then ((some (y123.set ((wrap64 ((wrap64 (7 * t116)) + t118)) : Int).toNat (wrap64 ((rd y123 (wrap64 ((wrap64 (7 * t116)) + t118))) - 1)) : List Int)).bind fun y125 => ((qE.f t117 t118).bind fun t126 => (if 0 ≤ (wrap64 ((wrap64 ((wrap64 (7 * t116)) + 4)) + t126)) then (if (wrap64 ((wrap64 ((wrap64 (7 * t116)) + 4)) + t126)) < (y113.length : Int) then (if x3_2.length < 5864062014805 then (zi.l1 k2 (x3_2 ++ [(y125.set ((wrap64 ((wrap64 ((wrap64 (7 * t116)) + 4)) + t126)) : Int).toNat (wrap64 ((rd y125 (wrap64 ((wrap64 ((wrap64 (7 * t116)) + 4)) + t126))) - 1)))]) t105 x5_1 (rd (zY t105 x5_1) 0) (rd (zY t105 x5_1) 1) (wrap64 (x8_2 + 1)) l0_0) else (none)) else (none)) else (none)))) else (none)) else (none))) else (none)) else (none)))) else (none)) else (none)) = some r := H
      have A19 := zA.mk A190
      clear A190
      obtain ⟨ji20, hji20⟩ : ∃ j_ : Int, (wrap64 ((wrap64 (7 * (rd (zY t105 x5_1) 0))) + x8_2)) = j_ := ⟨_, rfl⟩
      replace H : (if 0 ≤ (ji20) then (if (ji20) < (y113.length : Int) then ((some (y113.set ((ji20) : Int).toNat (wrap64 ((rd y113 (ji20)) + 1)) : List Int)).bind fun y120 => ((qE.f (rd (zY t105 x5_1) 1) x8_2).bind fun t121 => (if 0 ≤ (wrap64 ((wrap64 ((wrap64 (7 * (rd (zY t105 x5_1) 0))) + 4)) + t121)) then (if (wrap64 ((wrap64 ((wrap64 (7 * (rd (zY t105 x5_1) 0))) + 4)) + t121)) < (y113.length : Int) then ((some (y120.set ((wrap64 ((wrap64 ((wrap64 (7 * (rd (zY t105 x5_1) 0))) + 4)) + t121)) : Int).toNat (wrap64 ((rd y120 (wrap64 ((wrap64 ((wrap64 (7 * (rd (zY t105 x5_1) 0))) + 4)) + t121))) + 1)) : List Int)).bind fun y123 => (if 0 ≤ (wrap64 ((wrap64 (7 * t116)) + t118)) then (if (wrap64 ((wrap64 (7 * t116)) + t118)) < (y113.length : Int) then ((some (y123.set ((wrap64 ((wrap64 (7 * t116)) + t118)) : Int).toNat (wrap64 ((rd y123 (wrap64 ((wrap64 (7 * t116)) + t118))) - 1)) : List Int)).bind fun y125 => ((qE.f t117 t118).bind fun t126 => (if 0 ≤ (wrap64 ((wrap64 ((wrap64 (7 * t116)) + 4)) + t126)) then (if (wrap64 ((wrap64 ((wrap64 (7 * t116)) + 4)) + t126)) < (y113.length : Int) then (if x3_2.length < 5864062014805 then (zi.l1 k2 (x3_2 ++ [(y125.set ((wrap64 ((wrap64 ((wrap64 (7 * t116)) + 4)) + t126)) : Int).toNat (wrap64 ((rd y125 (wrap64 ((wrap64 ((wrap64 (7 * t116)) + 4)) + t126))) - 1)))]) t105 x5_1 (rd (zY t105 x5_1) 0) (rd (zY t105 x5_1) 1) (wrap64 (x8_2 + 1)) l0_0) else (none)) else (none)) else (none)))) else (none)) else (none))) else (none)) else (none)))) else (none)) else (none)) = some r := by first | (rw [hji20] at H; exact H) | (simp only [hji20] at H ⊢; exact H)
      (try rw [hji20] at A15)
      (try rw [hji20] at A19)
      have hji20w : (IntKind.i64.wrap ((wrap64 (7 * (rd (zY t105 x5_1) 0))) + x8_2)) = ji20 := (zW _).trans hji20
      by_cases c21 : 0 ≤ (ji20)
      rotate_left
      next =>
       rw [if_neg c21] at H
       exact absurd H (by simp)
      rw [if_pos c21] at H
      have c21b0 : decide (0 ≤ (ji20)) = true := ygy c21
      clear c21
      by_cases c22 : (ji20) < (y113.length : Int)
      rotate_left
      next =>
       rw [if_neg c22] at H
       exact absurd H (by simp)
      rw [if_pos c22] at H
      have c22b0 : decide ((ji20) < (y113.length : Int)) = true := ygy c22
      clear c22
      obtain ⟨y120, hy120⟩ : ∃ y_ : List Int, y_ = (y113.set ((ji20) : Int).toNat (wrap64 ((rd y113 (ji20)) + 1))) := ⟨_, rfl⟩
      replace H : ((qE.f (rd (zY t105 x5_1) 1) x8_2).bind fun t121 => (if 0 ≤ (wrap64 ((wrap64 ((wrap64 (7 * (rd (zY t105 x5_1) 0))) + 4)) + t121)) then (if (wrap64 ((wrap64 ((wrap64 (7 * (rd (zY t105 x5_1) 0))) + 4)) + t121)) < (y113.length : Int) then ((some (y120.set ((wrap64 ((wrap64 ((wrap64 (7 * (rd (zY t105 x5_1) 0))) + 4)) + t121)) : Int).toNat (wrap64 ((rd y120 (wrap64 ((wrap64 ((wrap64 (7 * (rd (zY t105 x5_1) 0))) + 4)) + t121))) + 1)) : List Int)).bind fun y123 => (if 0 ≤ (wrap64 ((wrap64 (7 * t116)) + t118)) then (if (wrap64 ((wrap64 (7 * t116)) + t118)) < (y113.length : Int) then ((some (y123.set ((wrap64 ((wrap64 (7 * t116)) + t118)) : Int).toNat (wrap64 ((rd y123 (wrap64 ((wrap64 (7 * t116)) + t118))) - 1)) : List Int)).bind fun y125 => ((qE.f t117 t118).bind fun t126 => (if 0 ≤ (wrap64 ((wrap64 ((wrap64 (7 * t116)) + 4)) + t126)) then (if (wrap64 ((wrap64 ((wrap64 (7 * t116)) + 4)) + t126)) < (y113.length : Int) then (if x3_2.length < 5864062014805 then (zi.l1 k2 (x3_2 ++ [(y125.set ((wrap64 ((wrap64 ((wrap64 (7 * t116)) + 4)) + t126)) : Int).toNat (wrap64 ((rd y125 (wrap64 ((wrap64 ((wrap64 (7 * t116)) + 4)) + t126))) - 1)))]) t105 x5_1 (rd (zY t105 x5_1) 0) (rd (zY t105 x5_1) 1) (wrap64 (x8_2 + 1)) l0_0) else (none)) else (none)) else (none)))) else (none)) else (none))) else (none)) else (none))) = some r := by first | (rw [hy120]; with_reducible exact H) | (have H2_ := (yfy _ _).symm.trans H; rw [hy120]; with_reducible exact H2_) | (have H2_ := (yfy _ _).symm.trans H; with_reducible exact H2_) | with_reducible exact H | (rw [hy120]; exact H) | exact H
      have Ny120 := zA.mk hy120
      clear hy120
      replace H := ydy.mp H
      obtain ⟨t121, A240, H⟩ := H
      replace H : (if 0 ≤ (wrap64 ((wrap64 ((wrap64 (7 * (rd (zY t105 x5_1) 0))) + 4)) + t121)) then (if (wrap64 ((wrap64 ((wrap64 (7 * (rd (zY t105 x5_1) 0))) + 4)) + t121)) < (y113.length : Int) then ((some (y120.set ((wrap64 ((wrap64 ((wrap64 (7 * (rd (zY t105 x5_1) 0))) + 4)) + t121)) : Int).toNat (wrap64 ((rd y120 (wrap64 ((wrap64 ((wrap64 (7 * (rd (zY t105 x5_1) 0))) + 4)) + t121))) + 1)) : List Int)).bind fun y123 => (if 0 ≤ (wrap64 ((wrap64 (7 * t116)) + t118)) then (if (wrap64 ((wrap64 (7 * t116)) + t118)) < (y113.length : Int) then ((some (y123.set ((wrap64 ((wrap64 (7 * t116)) + t118)) : Int).toNat (wrap64 ((rd y123 (wrap64 ((wrap64 (7 * t116)) + t118))) - 1)) : List Int)).bind fun y125 => ((qE.f t117 t118).bind fun t126 => (if 0 ≤ (wrap64 ((wrap64 ((wrap64 (7 * t116)) + 4)) + t126)) then (if (wrap64 ((wrap64 ((wrap64 (7 * t116)) + 4)) + t126)) < (y113.length : Int) then (if x3_2.length < 5864062014805 then (zi.l1 k2 (x3_2 ++ [(y125.set ((wrap64 ((wrap64 ((wrap64 (7 * t116)) + 4)) + t126)) : Int).toNat (wrap64 ((rd y125 (wrap64 ((wrap64 ((wrap64 (7 * t116)) + 4)) + t126))) - 1)))]) t105 x5_1 (rd (zY t105 x5_1) 0) (rd (zY t105 x5_1) 1) (wrap64 (x8_2 + 1)) l0_0) else (none)) else (none)) else (none)))) else (none)) else (none))) else (none)) else (none)) = some r := H
      have A24 := zA.mk A240
      clear A240
      obtain ⟨ji25, hji25⟩ : ∃ j_ : Int, (wrap64 ((wrap64 ((wrap64 (7 * (rd (zY t105 x5_1) 0))) + 4)) + t121)) = j_ := ⟨_, rfl⟩
      replace H : (if 0 ≤ (ji25) then (if (ji25) < (y113.length : Int) then ((some (y120.set ((ji25) : Int).toNat (wrap64 ((rd y120 (ji25)) + 1)) : List Int)).bind fun y123 => (if 0 ≤ (wrap64 ((wrap64 (7 * t116)) + t118)) then (if (wrap64 ((wrap64 (7 * t116)) + t118)) < (y113.length : Int) then ((some (y123.set ((wrap64 ((wrap64 (7 * t116)) + t118)) : Int).toNat (wrap64 ((rd y123 (wrap64 ((wrap64 (7 * t116)) + t118))) - 1)) : List Int)).bind fun y125 => ((qE.f t117 t118).bind fun t126 => (if 0 ≤ (wrap64 ((wrap64 ((wrap64 (7 * t116)) + 4)) + t126)) then (if (wrap64 ((wrap64 ((wrap64 (7 * t116)) + 4)) + t126)) < (y113.length : Int) then (if x3_2.length < 5864062014805 then (zi.l1 k2 (x3_2 ++ [(y125.set ((wrap64 ((wrap64 ((wrap64 (7 * t116)) + 4)) + t126)) : Int).toNat (wrap64 ((rd y125 (wrap64 ((wrap64 ((wrap64 (7 * t116)) + 4)) + t126))) - 1)))]) t105 x5_1 (rd (zY t105 x5_1) 0) (rd (zY t105 x5_1) 1) (wrap64 (x8_2 + 1)) l0_0) else (none)) else (none)) else (none)))) else (none)) else (none))) else (none)) else (none)) = some r := by first | (rw [hji25] at H; exact H) | (simp only [hji25] at H ⊢; exact H)
      (try rw [hji25] at A15)
      (try rw [hji25] at A19)
      (try rw [hji25] at A24)
      have hji25w : (IntKind.i64.wrap ((wrap64 ((wrap64 (7 * (rd (zY t105 x5_1) 0))) + 4)) + t121)) = ji25 := (zW _).trans hji25
      by_cases c26 : 0 ≤ (ji25)
      rotate_left
      next =>
       rw [if_neg c26] at H
       exact absurd H (by simp)
      rw [if_pos c26] at H
      have c26b0 : decide (0 ≤ (ji25)) = true := ygy c26
      clear c26
      by_cases c27 : (ji25) < (y113.length : Int)
      rotate_left
      next =>
       rw [if_neg c27] at H
       exact absurd H (by simp)
      rw [if_pos c27] at H
      have c27b0 : decide ((ji25) < (y113.length : Int)) = true := ygy c27
      clear c27
      obtain ⟨y123, hy123⟩ : ∃ y_ : List Int, y_ = (y120.set ((ji25) : Int).toNat (wrap64 ((rd y120 (ji25)) + 1))) := ⟨_, rfl⟩
      replace H : (if 0 ≤ (wrap64 ((wrap64 (7 * t116)) + t118)) then (if (wrap64 ((wrap64 (7 * t116)) + t118)) < (y113.length : Int) then ((some (y123.set ((wrap64 ((wrap64 (7 * t116)) + t118)) : Int).toNat (wrap64 ((rd y123 (wrap64 ((wrap64 (7 * t116)) + t118))) - 1)) : List Int)).bind fun y125 => ((qE.f t117 t118).bind fun t126 => (if 0 ≤ (wrap64 ((wrap64 ((wrap64 (7 * t116)) + 4)) + t126)) then (if (wrap64 ((wrap64 ((wrap64 (7 * t116)) + 4)) + t126)) < (y113.length : Int) then (if x3_2.length < 5864062014805 then (zi.l1 k2 (x3_2 ++ [(y125.set ((wrap64 ((wrap64 ((wrap64 (7 * t116)) + 4)) + t126)) : Int).toNat (wrap64 ((rd y125 (wrap64 ((wrap64 ((wrap64 (7 * t116)) + 4)) + t126))) - 1)))]) t105 x5_1 (rd (zY t105 x5_1) 0) (rd (zY t105 x5_1) 1) (wrap64 (x8_2 + 1)) l0_0) else (none)) else (none)) else (none)))) else (none)) else (none)) = some r := by first | (rw [hy123]; with_reducible exact H) | (have H2_ := (yfy _ _).symm.trans H; rw [hy123]; with_reducible exact H2_) | (have H2_ := (yfy _ _).symm.trans H; with_reducible exact H2_) | with_reducible exact H | (rw [hy123]; exact H) | exact H
      have Ny123 := zA.mk hy123
      clear hy123
      obtain ⟨ji29, hji29⟩ : ∃ j_ : Int, (wrap64 ((wrap64 (7 * t116)) + t118)) = j_ := ⟨_, rfl⟩
      replace H : (if 0 ≤ (ji29) then (if (ji29) < (y113.length : Int) then ((some (y123.set ((ji29) : Int).toNat (wrap64 ((rd y123 (ji29)) - 1)) : List Int)).bind fun y125 => ((qE.f t117 t118).bind fun t126 => (if 0 ≤ (wrap64 ((wrap64 ((wrap64 (7 * t116)) + 4)) + t126)) then (if (wrap64 ((wrap64 ((wrap64 (7 * t116)) + 4)) + t126)) < (y113.length : Int) then (if x3_2.length < 5864062014805 then (zi.l1 k2 (x3_2 ++ [(y125.set ((wrap64 ((wrap64 ((wrap64 (7 * t116)) + 4)) + t126)) : Int).toNat (wrap64 ((rd y125 (wrap64 ((wrap64 ((wrap64 (7 * t116)) + 4)) + t126))) - 1)))]) t105 x5_1 (rd (zY t105 x5_1) 0) (rd (zY t105 x5_1) 1) (wrap64 (x8_2 + 1)) l0_0) else (none)) else (none)) else (none)))) else (none)) else (none)) = some r := by first | (rw [hji29] at H; exact H) | (simp only [hji29] at H ⊢; exact H)
      (try rw [hji29] at A15)
      (try rw [hji29] at A19)
      (try rw [hji29] at A24)
      have hji29w : (IntKind.i64.wrap ((wrap64 (7 * t116)) + t118)) = ji29 := (zW _).trans hji29
      by_cases c30 : 0 ≤ (ji29)
      rotate_left
      next =>
       rw [if_neg c30] at H
       exact absurd H (by simp)
      rw [if_pos c30] at H
      have c30b0 : decide (0 ≤ (ji29)) = true := ygy c30
      clear c30
      by_cases c31 : (ji29) < (y113.length : Int)
      rotate_left
      next =>
       rw [if_neg c31] at H
       exact absurd H (by simp)
      rw [if_pos c31] at H
      have c31b0 : decide ((ji29) < (y113.length : Int)) = true := ygy c31
      clear c31
      obtain ⟨y125, hy125⟩ : ∃ y_ : List Int, y_ = (y123.set ((ji29) : Int).toNat (wrap64 ((rd y123 (ji29)) - 1))) := ⟨_, rfl⟩
      replace H : ((qE.f t117 t118).bind fun t126 => (if 0 ≤ (wrap64 ((wrap64 ((wrap64 (7 * t116)) + 4)) + t126)) then (if (wrap64 ((wrap64 ((wrap64 (7 * t116)) + 4)) + t126)) < (y113.length : Int) then (if x3_2.length < 5864062014805 then (zi.l1 k2 (x3_2 ++ [(y125.set ((wrap64 ((wrap64 ((wrap64 (7 * t116)) + 4)) + t126)) : Int).toNat (wrap64 ((rd y125 (wrap64 ((wrap64 ((wrap64 (7 * t116)) + 4)) + t126))) - 1)))]) t105 x5_1 (rd (zY t105 x5_1) 0) (rd (zY t105 x5_1) 1) (wrap64 (x8_2 + 1)) l0_0) else (none)) else (none)) else (none))) = some r := by first | (rw [hy125]; with_reducible exact H) | (have H2_ := (yfy _ _).symm.trans H; rw [hy125]; with_reducible exact H2_) | (have H2_ := (yfy _ _).symm.trans H; with_reducible exact H2_) | with_reducible exact H | (rw [hy125]; exact H) | exact H
      have Ny125 := zA.mk hy125
      clear hy125
      replace H := ydy.mp H
      obtain ⟨t126, A330, H⟩ := H
      replace H : (if 0 ≤ (wrap64 ((wrap64 ((wrap64 (7 * t116)) + 4)) + t126)) then (if (wrap64 ((wrap64 ((wrap64 (7 * t116)) + 4)) + t126)) < (y113.length : Int) then (if x3_2.length < 5864062014805 then (zi.l1 k2 (x3_2 ++ [(y125.set ((wrap64 ((wrap64 ((wrap64 (7 * t116)) + 4)) + t126)) : Int).toNat (wrap64 ((rd y125 (wrap64 ((wrap64 ((wrap64 (7 * t116)) + 4)) + t126))) - 1)))]) t105 x5_1 (rd (zY t105 x5_1) 0) (rd (zY t105 x5_1) 1) (wrap64 (x8_2 + 1)) l0_0) else (none)) else (none)) else (none)) = some r := H
      have A33 := zA.mk A330
      clear A330
      obtain ⟨ji34, hji34⟩ : ∃ j_ : Int, (wrap64 ((wrap64 ((wrap64 (7 * t116)) + 4)) + t126)) = j_ := ⟨_, rfl⟩
      replace H : (if 0 ≤ (ji34) then (if (ji34) < (y113.length : Int) then (if x3_2.length < 5864062014805 then (zi.l1 k2 (x3_2 ++ [(y125.set ((ji34) : Int).toNat (wrap64 ((rd y125 (ji34)) - 1)))]) t105 x5_1 (rd (zY t105 x5_1) 0) (rd (zY t105 x5_1) 1) (wrap64 (x8_2 + 1)) l0_0) else (none)) else (none)) else (none)) = some r := by first | (rw [hji34] at H; exact H) | (simp only [hji34] at H ⊢; exact H)
      (try rw [hji34] at A15)
      (try rw [hji34] at A19)
      (try rw [hji34] at A24)
      (try rw [hji34] at A33)
      have hji34w : (IntKind.i64.wrap ((wrap64 ((wrap64 (7 * t116)) + 4)) + t126)) = ji34 := (zW _).trans hji34
      by_cases c35 : 0 ≤ (ji34)
      rotate_left
      next =>
       rw [if_neg c35] at H
       exact absurd H (by simp)
      rw [if_pos c35] at H
      have c35b0 : decide (0 ≤ (ji34)) = true := ygy c35
      clear c35
      by_cases c36 : (ji34) < (y113.length : Int)
      rotate_left
      next =>
       rw [if_neg c36] at H
       exact absurd H (by simp)
      rw [if_pos c36] at H
      have c36b0 : decide ((ji34) < (y113.length : Int)) = true := ygy c36
      clear c36
      obtain ⟨y128, hy128⟩ : ∃ y_ : List Int, y_ = (y125.set ((ji34) : Int).toNat (wrap64 ((rd y125 (ji34)) - 1))) := ⟨_, rfl⟩
      replace H : (if x3_2.length < 5864062014805 then (zi.l1 k2 (x3_2 ++ [y128]) t105 x5_1 (rd (zY t105 x5_1) 0) (rd (zY t105 x5_1) 1) (wrap64 (x8_2 + 1)) l0_0) else (none)) = some r := by first | (rw [hy128]; with_reducible exact H) | (have H2_ := (yfy _ _).symm.trans H; rw [hy128]; with_reducible exact H2_) | (have H2_ := (yfy _ _).symm.trans H; with_reducible exact H2_) | with_reducible exact H | (rw [hy128]; exact H) | exact H
      have Ny128 := zA.mk hy128
      clear hy128
      by_cases c38 : x3_2.length < 5864062014805
      rotate_left
      next =>
       rw [if_neg c38] at H
       exact absurd H (by simp)
      rw [if_pos c38] at H
      have LMc38 := zA.mk c38
      clear c38
      obtain ⟨y129, hy129⟩ : ∃ y_ : List (List Int), y_ = (x3_2 ++ [y128]) := ⟨_, rfl⟩
      replace H : (zi.l1 k2 y129 t105 x5_1 (rd (zY t105 x5_1) 0) (rd (zY t105 x5_1) 1) (wrap64 (x8_2 + 1)) l0_0) = some r := by first | (rw [hy129]; with_reducible exact H) | (have H2_ := (yfy _ _).symm.trans H; rw [hy129]; with_reducible exact H2_) | (have H2_ := (yfy _ _).symm.trans H; with_reducible exact H2_) | with_reducible exact H | (rw [hy129]; exact H) | exact H
      have Ny129 := zA.mk hy129
      clear hy129
      have H' := zA.mk H
      clear H
      have hcz39_0 : wr.cell? ⟨gb101, 0, none⟩ = some (.slice A0_0 l0_0.length c0_0) := (zK BK101.out 0).trans rfl
      have hfz39_0 := zL BK101.out 0
      go_wp2_with (first | ((with_reducible refine zS (f := 34) rfl ?_); refine qB (some 42) rfl rfl Try.func34 (by kernel_rfl) rfl #[.agg #[.slice A0_0 l0_0.length c0_0]] rfl (by (try simp only [yiy, yjy, yky]); first | done | rfl | (simp only [yly, ymy]; rfl)) ?_; (with_reducible refine (zt.calls _ _ l0_0 t112 _ ?side1 ?side2 A15.out).mono ?_); (case side1 => repeat (first | exact (Kd.ze HR0_0.out HB.out) | (with_reducible refine Kd.zf ?_ _) | (with_reducible refine Kd.zg ?_ _) | (with_reducible refine Kd.zz ?_))); (case side2 => exact HC0_0.out); rintro e w40 ⟨rfl, hb⟩; refine ⟨_, rfl, ?_⟩; have n0_ := zA.mk (Kd.QE (by (with_reducible repeat (first | apply Kd.qN | apply Kd.qO | apply Kd.ql)); exact HO_3.out) hb); have n1_ := zA.mk (Kd.QE (by (with_reducible repeat (first | apply Kd.qN | apply Kd.qO | apply Kd.ql)); exact HO_4.out) hb); have n2_ := zA.mk (zP (g := gb101) (o := .cells #[.slice A0_0 l0_0.length c0_0] 30 (0, 0)) (by (with_reducible repeat (first | refine zI ?_ _ | refine zJ ?_ | refine zH ?_ _)); exact BK101.out) hb); have n3_ := zA.mk (zN (by repeat (first | (with_reducible first | exact HB.out | apply zC | apply zB | apply zD | refine zF ?_ GE101.out) | exact HB.out)) hb); clear HO_3; clear HO_4; clear BK101; clear HB; have HO_3 := n0_; have HO_4 := n1_; have BK101 := n2_; have HB := n3_; clear n0_ n1_ n2_ n3_; (try clear hb); (try clear hb2); (try clear hk); (try clear hi)) | ((with_reducible refine zd (N := 44) rfl ?_); refine Kd.zCj (Kd.int .i64) _ 2 rfl (N := 44) rfl 44 _ _ rfl ji16 rfl rfl Try.underlying44 (.int .i64 0) 8 Jb rfl (by decide) (by omega) 0 (ok := fun _ => True) (okp := fun _ => True) rfl (fun _ hk => hk) trivial (of_decide_eq_true (by first | (with_reducible assumption) | assumption)) (Nat.le_trans (Nat.mul_le_mul_right _ (of_decide_eq_true (by first | (with_reducible assumption) | assumption) : ji16.toNat ≤ 35184372088832)) (by omega)) (yry _ _) (yqy _) ?_; intro v114 w41 ho42 hb hg_ hnew_; clear hg_ hnew_; (first | rw [← Ny113.out] at ho42 | (simp only [Int.reduceToNat] at ho42; rw [← Ny113.out] at ho42)); have n0_ := zA.mk (Kd.Jw (by (with_reducible repeat (first | apply Kd.qN | apply Kd.qO | apply Kd.ql)); exact HO_3.out) (Kd.JI ho42) hb); have n1_ := zA.mk (Kd.Jw (by (with_reducible repeat (first | apply Kd.qN | apply Kd.qO | apply Kd.ql)); exact HO_4.out) (Kd.JI ho42) hb); have n2_ := zA.mk (Kd.Zb ho42 (zO (by repeat (first | (with_reducible first | exact HB.out | apply zC | apply zB | apply zD | refine zF ?_ GE101.out) | exact HB.out)))); have n3_ := zA.mk (zP (g := gb101) (o := .cells #[.slice A0_0 l0_0.length c0_0] 30 (0, 0)) (by (with_reducible repeat (first | refine zI ?_ _ | refine zJ ?_ | refine zH ?_ _)); exact BK101.out) hb); have n4_ := zA.mk (zN (by repeat (first | (with_reducible first | exact HB.out | apply zC | apply zB | apply zD | refine zF ?_ GE101.out) | exact HB.out)) hb); clear HO_3; clear HO_4; clear BK101; clear HB; have HO_3 := n0_; have HO_4 := n1_; have HO115 := n2_; have BK101 := n3_; have HB := n4_; clear n0_ n1_ n2_ n3_ n4_; clear hb ho42; have hcz43_0 : w41.cell? ⟨gb101, 0, none⟩ = some (.slice A0_0 l0_0.length c0_0) := (zK BK101.out 0).trans rfl; have hfz43_0 := zL BK101.out 0) | ((with_reducible refine zS (f := 153) rfl ?_); refine qB (some 50) rfl rfl Try.func153 (by kernel_rfl) rfl #[.agg #[.slice A0_0 l0_0.length c0_0], .int .i64 (rd (zY t105 x5_1) 0), .int .i64 (rd (zY t105 x5_1) 1), .int .i64 x8_2] rfl (by (try simp only [yiy, yjy, yky]); first | done | rfl | (simp only [yly, ymy]; rfl)) ?_; (with_reducible refine (qc.calls k2 _ _ l0_0 (rd (zY t105 x5_1) 0) (rd (zY t105 x5_1) 1) x8_2 t116 t117 t118 _ ?side1 ?side2 A19.out).mono ?_); (case side1 => repeat (first | exact (Kd.ze HR0_0.out HB.out) | (with_reducible refine Kd.zf ?_ _) | (with_reducible refine Kd.zg ?_ _) | (with_reducible refine Kd.zz ?_))); (case side2 => exact HC0_0.out); rintro e w44 ⟨rfl, hb⟩; refine ⟨_, rfl, ?_⟩; have n0_ := zA.mk (Kd.QE (by (with_reducible repeat (first | apply Kd.qN | apply Kd.qO | apply Kd.ql)); exact HO_3.out) hb); have n1_ := zA.mk (Kd.QE (by (with_reducible repeat (first | apply Kd.qN | apply Kd.qO | apply Kd.ql)); exact HO_4.out) hb); have n2_ := zA.mk (Kd.Zk (by (with_reducible repeat (first | apply Kd.zm | apply Kd.zk | apply Kd.zu)); exact HO115.out) hb); have n3_ := zA.mk (zP (g := gb101) (o := .cells #[.slice A0_0 l0_0.length c0_0] 30 (0, 0)) (by (with_reducible repeat (first | refine zI ?_ _ | refine zJ ?_ | refine zH ?_ _)); exact BK101.out) hb); have n4_ := zA.mk (zN (by repeat (first | (with_reducible first | exact HB.out | apply zC | apply zB | apply zD | refine zF ?_ GE101.out) | exact HB.out)) hb); clear HO_3; clear HO_4; clear HO115; clear BK101; clear HB; have HO_3 := n0_; have HO_4 := n1_; have HO115 := n2_; have BK101 := n3_; have HB := n4_; clear n0_ n1_ n2_ n3_ n4_; (try clear hb); (try clear hb2); (try clear hk); (try clear hi); obtain ⟨Ao45, co45, eo45⟩ := Kd.ZP HO115.out; subst eo45; have p119 : 0 ≤ ((ji20) : Int) := of_decide_eq_true (by first | (with_reducible assumption) | assumption); have q119 : (ji20) < (y113.length : Int) := of_decide_eq_true (by first | (with_reducible assumption) | assumption); obtain ⟨ad119, e119, hx119_0⟩ := Kd.ZI (Kd.zv HO115.out).2.2 (ji20) p119 q119; cases e119; replace p119 := eq_true p119; replace q119 := eq_true q119; have p23 : 0 ≤ ((ji20) : Int) := of_decide_eq_true (by first | (with_reducible assumption) | assumption); have q23 : ((ji20) : Int) < ((y113.length : Int) : Int) := of_decide_eq_true (by first | (with_reducible assumption) | assumption); obtain ⟨go23, co23, eo23, gb23, gl23, cl23, HG23⟩ := Kd.zA3 HO115.out (by omega); (first | cases eo23 | (injection eo23 with ea_ en_ ec_; (first | subst ea_ | (injection ea_ with ea_; subst ea_)); subst ec_; clear en_)); have GB23 := zA.mk gb23; have GG23 := zA.mk HG23; clear gb23 gl23 HG23; (first | simp only [add_plain] at hx119_0 | skip); obtain ⟨hx23_0, hf23_0⟩ := Kd.Zw 0 HO115.out ((ji20) : Int) p23 q23; replace p23 := eq_true p23; replace q23 := eq_true q23; obtain ⟨hy46_, hz46_⟩ := Kd.Zw 0 HO115.out ((ji20) : Int) (of_decide_eq_true (by first | (with_reducible assumption) | assumption)) (of_decide_eq_true (by first | (with_reducible assumption) | assumption)); have HP46 := Kd.Jh HO115.out ((ji20) : Int) (wrap64 ((rd y113 (ji20)) + 1))) | ((with_reducible refine ZH (t := 2) (p := 62) rfl ?_); refine qz (t := 2) (p := 62) (v := ?vo_w47) (w1 := (w44.setCell ⟨go23, ((ji20) : Int).toNat, none⟩ (.int .i64 (wrap64 ((rd y113 (ji20)) + 1))))) ?hg ?ho ?hn ?hr ?_; (case ho => rfl); (case hg => rfl); (case hn => rfl); (case hr => first | (go_simp; done) | (go_simp; rfl)); intro w47 hw; have hg : w44.grownBy w47 (some go23) := (by rw [hw]; exact HP46.2); have hp_ : Kd.R (Kd.int .i64) 2 w47 w.heap.size (fun _ => True) (.slice (some ⟨go23, 0, none⟩) y113.length co45) y120 := (by rw [hw, Ny120.out]; exact HP46.1); clear HP46; have n0_ := zA.mk (Kd.JR (v := (.slice (some ⟨go23, 0, none⟩) y113.length co45)) (v1 := (.slice (some ⟨go23, 0, none⟩) y113.length co45)) (ok := (fun k_ => some k_ ≠ (.slice (some ad108) t105.length co12 : Value).ownBlock)) (by (with_reducible repeat (first | apply Kd.qN | apply Kd.qO | apply Kd.ql)); first | exact HO_3.out | exact Kd.Zj HO_3.out (fun _ hk => ⟨hk.2, hk.1⟩) | exact Kd.qW HO_3.out (fun _ hk => ⟨hk.2, hk.1⟩)) hg (.inl rfl)); have n1_ := zA.mk (Kd.JR (v := (.slice (some ⟨go23, 0, none⟩) y113.length co45)) (v1 := (.slice (some ⟨go23, 0, none⟩) y113.length co45)) (ok := (fun k_ => some k_ ≠ (u3 : Value).ownBlock)) (by (with_reducible repeat (first | apply Kd.qN | apply Kd.qO | apply Kd.ql)); first | exact HO_4.out | exact Kd.Zj HO_4.out (fun _ hk => ⟨hk.2, hk.1⟩) | exact Kd.qW HO_4.out (fun _ hk => ⟨hk.2, hk.1⟩)) hg (.inl rfl)); have n2_ := zA.mk (ZA (g := gb101) (o := .cells #[.slice A0_0 l0_0.length c0_0] 30 (0, 0)) (by (with_reducible repeat (first | refine zI ?_ _ | refine zJ ?_ | refine zH ?_ _)); exact BK101.out) hg (Kd.R_ne HO115.out BK101.out (by decide))); have n3_ := zA.mk (hp_); have n4_ := zA.mk ((by rw [hw]; exact zF (HB.out) GB23.out : Below w.heap.size w w47)); clear HO_3; clear HO_4; clear BK101; clear HO115; clear HB; have HO_3 := n0_; have HO_4 := n1_; have BK101 := n2_; have HO115 := n3_; have HB := n4_; clear n0_ n1_ n2_ n3_ n4_; clear hg hw hp_) | ((with_reducible refine zS (f := 154) rfl ?_); refine qB (some 69) rfl rfl Try.func154 (by kernel_rfl) rfl #[.int .i64 (rd (zY t105 x5_1) 1), .int .i64 x8_2] rfl (by (try simp only [yiy, yjy, yky]); first | done | rfl | (simp only [yly, ymy]; rfl)) ?_; (with_reducible refine (qE.calls (rd (zY t105 x5_1) 1) x8_2 t121 _ A24.out).mono ?_); rintro e w' ⟨rfl, ⟨nd, rfl⟩⟩; refine ⟨_, rfl, ?_⟩; (try (rw [zBi w47]; generalize hq_ : World.drewN w47 _ = w47; have n0_ : zA (Kd.R (Kd.int .i64) 2 w47 w.heap.size (fun _ => True) (.slice (some ⟨go23, 0, none⟩) y113.length co45) y120) := ⟨by rw [← hq_]; exact (by (with_reducible repeat (first | apply Kd.zm | apply Kd.zk | apply Kd.zu)); exact HO115.out)⟩; have n1_ : zA (Kd.S (Kd.slice 2 (Kd.int .i64)) 44 w47 w.heap.size (fun k_ => some k_ ≠ (.slice (some ⟨go23, 0, none⟩) y113.length co45 : Value).ownBlock ∧ some k_ ≠ (.slice (some ad108) t105.length co12 : Value).ownBlock) u3 x3_2) := ⟨by rw [← hq_]; exact (by (with_reducible repeat (first | apply Kd.qN | apply Kd.qO | apply Kd.ql)); exact Kd.Zj HO_3.out (fun _ hk => ⟨hk.2, hk.1⟩))⟩; have n2_ : zA (Kd.S (Kd.slice 2 (Kd.int .i64)) 44 w47 w.heap.size (fun k_ => some k_ ≠ (.slice (some ⟨go23, 0, none⟩) y113.length co45 : Value).ownBlock ∧ some k_ ≠ (u3 : Value).ownBlock) (.slice (some ad108) t105.length co12) t105) := ⟨by rw [← hq_]; exact (by (with_reducible repeat (first | apply Kd.qN | apply Kd.qO | apply Kd.ql)); exact Kd.Zj HO_4.out (fun _ hk => ⟨hk.2, hk.1⟩))⟩; have n3_ : zA (w47.heap[gb101]? = some (.cells #[.slice A0_0 l0_0.length c0_0] 30 (0, 0))) := ⟨by rw [← hq_]; exact (by (with_reducible repeat (first | refine zI ?_ _ | refine zJ ?_ | refine zH ?_ _)); exact BK101.out)⟩; have n4_ : zA (Below w.heap.size w w47) := ⟨by rw [← hq_]; exact (by repeat (first | (with_reducible first | exact HB.out | apply zC | apply zB | apply zD | refine zF ?_ GE101.out) | exact HB.out))⟩; clear HO115 HO_3 HO_4 BK101 HB hq_; have HO115 := n0_; have HO_3 := n1_; have HO_4 := n2_; have BK101 := n3_; have HB := n4_; clear n0_ n1_ n2_ n3_ n4_)); have p122 : 0 ≤ ((ji25) : Int) := of_decide_eq_true (by first | (with_reducible assumption) | assumption); have q122 : (ji25) < (y120.length : Int) := (by have h_ : ((ji25) : Int) < ((y113.length : Int) : Int) := of_decide_eq_true (by first | (with_reducible assumption) | assumption); first | (have e_ := (Kd.zv HO115.out).1; omega) | simpa only [Ny120.out, List.length_set] using h_); have ql122 : (((ji25) : Int) < ((y113.length : Int) : Int)) = True := eq_true (of_decide_eq_true (by first | (with_reducible assumption) | assumption)); obtain ⟨ad122, e122, hx122_0⟩ := Kd.ZI (Kd.zv HO115.out).2.2 (ji25) p122 q122; obtain rfl : (⟨go23, 0, none⟩ : Addr) = ad122 := (by injection e122); (first | simp only [add_plain] at hx122_0 | simp only [zCk] at hx122_0 | simp only [Addr.add, Nat.zero_add] at hx122_0 | skip); replace p122 := eq_true p122; replace q122 := eq_true q122; have p28 : 0 ≤ ((ji25) : Int) := of_decide_eq_true (by first | (with_reducible assumption) | assumption); have q28 : ((ji25) : Int) < ((y113.length : Int) : Int) := of_decide_eq_true (by first | (with_reducible assumption) | assumption); obtain ⟨hx28_0, hf28_0⟩ := Kd.Zw 0 HO115.out ((ji25) : Int) p28 q28; replace p28 := eq_true p28; replace q28 := eq_true q28; obtain ⟨hy48_, hz48_⟩ := Kd.Zw 0 HO115.out ((ji25) : Int) (of_decide_eq_true (by first | (with_reducible assumption) | assumption)) (of_decide_eq_true (by first | (with_reducible assumption) | assumption)); have HP48 := Kd.Jh HO115.out ((ji25) : Int) (wrap64 ((rd y120 (ji25)) + 1))) | ((with_reducible refine ZH (t := 2) (p := 74) rfl ?_); refine qz (t := 2) (p := 74) (v := ?vo_w49) (w1 := (w47.setCell ⟨go23, ((ji25) : Int).toNat, none⟩ (.int .i64 (wrap64 ((rd y120 (ji25)) + 1))))) ?hg ?ho ?hn ?hr ?_; (case ho => rfl); (case hg => rfl); (case hn => rfl); (case hr => first | (go_simp; done) | (go_simp; rfl)); intro w49 hw; have hg : w47.grownBy w49 (some go23) := (by rw [hw]; exact HP48.2); have hp_ : Kd.R (Kd.int .i64) 2 w49 w.heap.size (fun _ => True) (.slice (some ⟨go23, 0, none⟩) y113.length co45) y123 := (by rw [hw, Ny123.out]; exact HP48.1); clear HP48; have n0_ := zA.mk (Kd.JR (v := (.slice (some ⟨go23, 0, none⟩) y113.length co45)) (v1 := (.slice (some ⟨go23, 0, none⟩) y113.length co45)) (ok := (fun k_ => some k_ ≠ (.slice (some ad108) t105.length co12 : Value).ownBlock)) (by (with_reducible repeat (first | apply Kd.qN | apply Kd.qO | apply Kd.ql)); first | exact HO_3.out | exact Kd.Zj HO_3.out (fun _ hk => ⟨hk.2, hk.1⟩) | exact Kd.qW HO_3.out (fun _ hk => ⟨hk.2, hk.1⟩)) hg (.inl rfl)); have n1_ := zA.mk (Kd.JR (v := (.slice (some ⟨go23, 0, none⟩) y113.length co45)) (v1 := (.slice (some ⟨go23, 0, none⟩) y113.length co45)) (ok := (fun k_ => some k_ ≠ (u3 : Value).ownBlock)) (by (with_reducible repeat (first | apply Kd.qN | apply Kd.qO | apply Kd.ql)); first | exact HO_4.out | exact Kd.Zj HO_4.out (fun _ hk => ⟨hk.2, hk.1⟩) | exact Kd.qW HO_4.out (fun _ hk => ⟨hk.2, hk.1⟩)) hg (.inl rfl)); have n2_ := zA.mk (ZA (g := gb101) (o := .cells #[.slice A0_0 l0_0.length c0_0] 30 (0, 0)) (by (with_reducible repeat (first | refine zI ?_ _ | refine zJ ?_ | refine zH ?_ _)); exact BK101.out) hg (Kd.R_ne HO115.out BK101.out (by decide))); have n3_ := zA.mk (hp_); have n4_ := zA.mk ((by rw [hw]; exact zF (HB.out) GB23.out : Below w.heap.size w w49)); clear HO_3; clear HO_4; clear BK101; clear HO115; clear HB; have HO_3 := n0_; have HO_4 := n1_; have BK101 := n2_; have HO115 := n3_; have HB := n4_; clear n0_ n1_ n2_ n3_ n4_; clear hg hw hp_; have p124 : 0 ≤ ((ji29) : Int) := of_decide_eq_true (by first | (with_reducible assumption) | assumption); have q124 : (ji29) < (y123.length : Int) := (by have h_ : ((ji29) : Int) < ((y113.length : Int) : Int) := of_decide_eq_true (by first | (with_reducible assumption) | assumption); first | (have e_ := (Kd.zv HO115.out).1; omega) | simpa only [Ny120.out, Ny123.out, List.length_set] using h_); have ql124 : (((ji29) : Int) < ((y113.length : Int) : Int)) = True := eq_true (of_decide_eq_true (by first | (with_reducible assumption) | assumption)); obtain ⟨ad124, e124, hx124_0⟩ := Kd.ZI (Kd.zv HO115.out).2.2 (ji29) p124 q124; obtain rfl : (⟨go23, 0, none⟩ : Addr) = ad124 := (by injection e124); (first | simp only [add_plain] at hx124_0 | simp only [zCk] at hx124_0 | simp only [Addr.add, Nat.zero_add] at hx124_0 | skip); replace p124 := eq_true p124; replace q124 := eq_true q124; have p32 : 0 ≤ ((ji29) : Int) := of_decide_eq_true (by first | (with_reducible assumption) | assumption); have q32 : ((ji29) : Int) < ((y113.length : Int) : Int) := of_decide_eq_true (by first | (with_reducible assumption) | assumption); obtain ⟨hx32_0, hf32_0⟩ := Kd.Zw 0 HO115.out ((ji29) : Int) p32 q32; replace p32 := eq_true p32; replace q32 := eq_true q32; obtain ⟨hy50_, hz50_⟩ := Kd.Zw 0 HO115.out ((ji29) : Int) (of_decide_eq_true (by first | (with_reducible assumption) | assumption)) (of_decide_eq_true (by first | (with_reducible assumption) | assumption)); have HP50 := Kd.Jh HO115.out ((ji29) : Int) (wrap64 ((rd y123 (ji29)) - 1))) | ((with_reducible refine ZH (t := 2) (p := 83) rfl ?_); refine qz (t := 2) (p := 83) (v := ?vo_w51) (w1 := (w49.setCell ⟨go23, ((ji29) : Int).toNat, none⟩ (.int .i64 (wrap64 ((rd y123 (ji29)) - 1))))) ?hg ?ho ?hn ?hr ?_; (case ho => rfl); (case hg => rfl); (case hn => rfl); (case hr => first | (go_simp; done) | (go_simp; rfl)); intro w51 hw; have hg : w49.grownBy w51 (some go23) := (by rw [hw]; exact HP50.2); have hp_ : Kd.R (Kd.int .i64) 2 w51 w.heap.size (fun _ => True) (.slice (some ⟨go23, 0, none⟩) y113.length co45) y125 := (by rw [hw, Ny125.out]; exact HP50.1); clear HP50; have n0_ := zA.mk (Kd.JR (v := (.slice (some ⟨go23, 0, none⟩) y113.length co45)) (v1 := (.slice (some ⟨go23, 0, none⟩) y113.length co45)) (ok := (fun k_ => some k_ ≠ (.slice (some ad108) t105.length co12 : Value).ownBlock)) (by (with_reducible repeat (first | apply Kd.qN | apply Kd.qO | apply Kd.ql)); first | exact HO_3.out | exact Kd.Zj HO_3.out (fun _ hk => ⟨hk.2, hk.1⟩) | exact Kd.qW HO_3.out (fun _ hk => ⟨hk.2, hk.1⟩)) hg (.inl rfl)); have n1_ := zA.mk (Kd.JR (v := (.slice (some ⟨go23, 0, none⟩) y113.length co45)) (v1 := (.slice (some ⟨go23, 0, none⟩) y113.length co45)) (ok := (fun k_ => some k_ ≠ (u3 : Value).ownBlock)) (by (with_reducible repeat (first | apply Kd.qN | apply Kd.qO | apply Kd.ql)); first | exact HO_4.out | exact Kd.Zj HO_4.out (fun _ hk => ⟨hk.2, hk.1⟩) | exact Kd.qW HO_4.out (fun _ hk => ⟨hk.2, hk.1⟩)) hg (.inl rfl)); have n2_ := zA.mk (ZA (g := gb101) (o := .cells #[.slice A0_0 l0_0.length c0_0] 30 (0, 0)) (by (with_reducible repeat (first | refine zI ?_ _ | refine zJ ?_ | refine zH ?_ _)); exact BK101.out) hg (Kd.R_ne HO115.out BK101.out (by decide))); have n3_ := zA.mk (hp_); have n4_ := zA.mk ((by rw [hw]; exact zF (HB.out) GB23.out : Below w.heap.size w w51)); clear HO_3; clear HO_4; clear BK101; clear HO115; clear HB; have HO_3 := n0_; have HO_4 := n1_; have BK101 := n2_; have HO115 := n3_; have HB := n4_; clear n0_ n1_ n2_ n3_ n4_; clear hg hw hp_) | ((with_reducible refine zS (f := 154) rfl ?_); refine qB (some 90) rfl rfl Try.func154 (by kernel_rfl) rfl #[.int .i64 t117, .int .i64 t118] rfl (by (try simp only [yiy, yjy, yky]); first | done | rfl | (simp only [yly, ymy]; rfl)) ?_; (with_reducible refine (qE.calls t117 t118 t126 _ A33.out).mono ?_); rintro e w' ⟨rfl, ⟨nd, rfl⟩⟩; refine ⟨_, rfl, ?_⟩; (try (rw [zBi w51]; generalize hq_ : World.drewN w51 _ = w51; have n0_ : zA (Kd.R (Kd.int .i64) 2 w51 w.heap.size (fun _ => True) (.slice (some ⟨go23, 0, none⟩) y113.length co45) y125) := ⟨by rw [← hq_]; exact (by (with_reducible repeat (first | apply Kd.zm | apply Kd.zk | apply Kd.zu)); exact HO115.out)⟩; have n1_ : zA (Kd.S (Kd.slice 2 (Kd.int .i64)) 44 w51 w.heap.size (fun k_ => some k_ ≠ (.slice (some ⟨go23, 0, none⟩) y113.length co45 : Value).ownBlock ∧ some k_ ≠ (.slice (some ad108) t105.length co12 : Value).ownBlock) u3 x3_2) := ⟨by rw [← hq_]; exact (by (with_reducible repeat (first | apply Kd.qN | apply Kd.qO | apply Kd.ql)); exact Kd.Zj HO_3.out (fun _ hk => ⟨hk.2, hk.1⟩))⟩; have n2_ : zA (Kd.S (Kd.slice 2 (Kd.int .i64)) 44 w51 w.heap.size (fun k_ => some k_ ≠ (.slice (some ⟨go23, 0, none⟩) y113.length co45 : Value).ownBlock ∧ some k_ ≠ (u3 : Value).ownBlock) (.slice (some ad108) t105.length co12) t105) := ⟨by rw [← hq_]; exact (by (with_reducible repeat (first | apply Kd.qN | apply Kd.qO | apply Kd.ql)); exact Kd.Zj HO_4.out (fun _ hk => ⟨hk.2, hk.1⟩))⟩; have n3_ : zA (w51.heap[gb101]? = some (.cells #[.slice A0_0 l0_0.length c0_0] 30 (0, 0))) := ⟨by rw [← hq_]; exact (by (with_reducible repeat (first | refine zI ?_ _ | refine zJ ?_ | refine zH ?_ _)); exact BK101.out)⟩; have n4_ : zA (Below w.heap.size w w51) := ⟨by rw [← hq_]; exact (by repeat (first | (with_reducible first | exact HB.out | apply zC | apply zB | apply zD | refine zF ?_ GE101.out) | exact HB.out))⟩; clear HO115 HO_3 HO_4 BK101 HB hq_; have HO115 := n0_; have HO_3 := n1_; have HO_4 := n2_; have BK101 := n3_; have HB := n4_; clear n0_ n1_ n2_ n3_ n4_)); have p127 : 0 ≤ ((ji34) : Int) := of_decide_eq_true (by first | (with_reducible assumption) | assumption); have q127 : (ji34) < (y125.length : Int) := (by have h_ : ((ji34) : Int) < ((y113.length : Int) : Int) := of_decide_eq_true (by first | (with_reducible assumption) | assumption); first | (have e_ := (Kd.zv HO115.out).1; omega) | simpa only [Ny120.out, Ny123.out, Ny125.out, List.length_set] using h_); have ql127 : (((ji34) : Int) < ((y113.length : Int) : Int)) = True := eq_true (of_decide_eq_true (by first | (with_reducible assumption) | assumption)); obtain ⟨ad127, e127, hx127_0⟩ := Kd.ZI (Kd.zv HO115.out).2.2 (ji34) p127 q127; obtain rfl : (⟨go23, 0, none⟩ : Addr) = ad127 := (by injection e127); (first | simp only [add_plain] at hx127_0 | simp only [zCk] at hx127_0 | simp only [Addr.add, Nat.zero_add] at hx127_0 | skip); replace p127 := eq_true p127; replace q127 := eq_true q127; have p37 : 0 ≤ ((ji34) : Int) := of_decide_eq_true (by first | (with_reducible assumption) | assumption); have q37 : ((ji34) : Int) < ((y113.length : Int) : Int) := of_decide_eq_true (by first | (with_reducible assumption) | assumption); obtain ⟨hx37_0, hf37_0⟩ := Kd.Zw 0 HO115.out ((ji34) : Int) p37 q37; replace p37 := eq_true p37; replace q37 := eq_true q37; obtain ⟨hy52_, hz52_⟩ := Kd.Zw 0 HO115.out ((ji34) : Int) (of_decide_eq_true (by first | (with_reducible assumption) | assumption)) (of_decide_eq_true (by first | (with_reducible assumption) | assumption)); have HP52 := Kd.Jh HO115.out ((ji34) : Int) (wrap64 ((rd y125 (ji34)) - 1))) | ((with_reducible refine ZH (t := 2) (p := 95) rfl ?_); refine qz (t := 2) (p := 95) (v := ?vo_w53) (w1 := (w51.setCell ⟨go23, ((ji34) : Int).toNat, none⟩ (.int .i64 (wrap64 ((rd y125 (ji34)) - 1))))) ?hg ?ho ?hn ?hr ?_; (case ho => rfl); (case hg => rfl); (case hn => rfl); (case hr => first | (go_simp; done) | (go_simp; rfl)); intro w53 hw; have hg : w51.grownBy w53 (some go23) := (by rw [hw]; exact HP52.2); have hp_ : Kd.R (Kd.int .i64) 2 w53 w.heap.size (fun _ => True) (.slice (some ⟨go23, 0, none⟩) y113.length co45) y128 := (by rw [hw, Ny128.out]; exact HP52.1); clear HP52; have n0_ := zA.mk (Kd.JR (v := (.slice (some ⟨go23, 0, none⟩) y113.length co45)) (v1 := (.slice (some ⟨go23, 0, none⟩) y113.length co45)) (ok := (fun k_ => some k_ ≠ (.slice (some ad108) t105.length co12 : Value).ownBlock)) (by (with_reducible repeat (first | apply Kd.qN | apply Kd.qO | apply Kd.ql)); first | exact HO_3.out | exact Kd.Zj HO_3.out (fun _ hk => ⟨hk.2, hk.1⟩) | exact Kd.qW HO_3.out (fun _ hk => ⟨hk.2, hk.1⟩)) hg (.inl rfl)); have n1_ := zA.mk (Kd.JR (v := (.slice (some ⟨go23, 0, none⟩) y113.length co45)) (v1 := (.slice (some ⟨go23, 0, none⟩) y113.length co45)) (ok := (fun k_ => some k_ ≠ (u3 : Value).ownBlock)) (by (with_reducible repeat (first | apply Kd.qN | apply Kd.qO | apply Kd.ql)); first | exact HO_4.out | exact Kd.Zj HO_4.out (fun _ hk => ⟨hk.2, hk.1⟩) | exact Kd.qW HO_4.out (fun _ hk => ⟨hk.2, hk.1⟩)) hg (.inl rfl)); have n2_ := zA.mk (ZA (g := gb101) (o := .cells #[.slice A0_0 l0_0.length c0_0] 30 (0, 0)) (by (with_reducible repeat (first | refine zI ?_ _ | refine zJ ?_ | refine zH ?_ _)); exact BK101.out) hg (Kd.R_ne HO115.out BK101.out (by decide))); have n3_ := zA.mk (hp_); have n4_ := zA.mk ((by rw [hw]; exact zF (HB.out) GB23.out : Below w.heap.size w w53)); clear HO_3; clear HO_4; clear BK101; clear HO115; clear HB; have HO_3 := n0_; have HO_4 := n1_; have BK101 := n2_; have HO115 := n3_; have HB := n4_; clear n0_ n1_ n2_ n3_ n4_; clear hg hw hp_) | ((with_reducible refine Ze (b := .append) (xs := #[.tmp 96, .tmp 98]) rfl ?_); at_builtin; refine Kd.zCG (Kd.slice 2 (Kd.int .i64)) (w0 := w) w.heap.size rfl (.tmp 96) (.tmp 98) 38 44 (.slice none 0 0) 24 rfl Try.underlying38 zEw rfl (by decide) (by omega) u3 x3_2 y128 [.slice (some ⟨go23, 0, none⟩) y113.length co45] (fun k_ => some k_ ≠ (.slice (some ad108) t105.length co12 : Value).ownBlock) (fun k_ => some k_ = (.slice (some ⟨go23, 0, none⟩) y113.length co45 : Value).ownBlock) rfl rfl ?aP (fun k_ hk_ => ((Kd.qW (ok' := fun k_ => ((fun k_ => some k_ ≠ (.slice (some ad108) t105.length co12 : Value).ownBlock)) k_ ∧ some k_ ≠ (u3 : Value).ownBlock) (Kd.Qc (Kd.Qc (HO115.out) (Kd.JB HO_4.out) (by decide)) (Kd.JB HO_3.out) (by decide)) (fun k_ hk => ⟨hk.1.2, hk.2⟩))).1 k_ hk_.symm) ?aF ?aO ?aB ?aS ?aL ?_; (case aP => exact Kd.zFQ (Kd.qW (Kd.JA rfl (Kd.qW (ok' := fun k_ => ((fun k_ => some k_ ≠ (.slice (some ad108) t105.length co12 : Value).ownBlock)) k_ ∧ some k_ ≠ (u3 : Value).ownBlock) (Kd.Qc (Kd.Qc (HO115.out) (Kd.JB HO_4.out) (by decide)) (Kd.JB HO_3.out) (by decide)) (fun k_ hk => ⟨hk.1.2, hk.2⟩))) (fun _ h_ => h_))); (case aB => exact (by repeat (first | (with_reducible first | exact HB.out | apply zC | apply zB | apply zD | refine zF ?_ GE101.out) | exact HB.out))); (case aF => exact (fun k_ hk => Kd.Jg (Kd.S_lt (by (with_reducible repeat (first | apply Kd.qN | apply Kd.qO | apply Kd.ql)); exact HO_4.out)) k_ hk)); (case aO => exact (by (with_reducible repeat (first | apply Kd.qN | apply Kd.qO | apply Kd.ql)); exact Kd.Zj HO_3.out (fun k_ hk => ⟨hk.1, fun e_ => hk.2 e_⟩))); (case aS => exact (zO (by repeat (first | (with_reducible first | exact HB.out | apply zC | apply zB | apply zD | refine zF ?_ GE101.out) | exact HB.out)))); (case aL => have := LMc38.out; omega); intro v130 w54 ho hb hg hat; rw [← Ny129.out] at ho; have n0_ := zA.mk (Kd.JR (ok := (fun k_ => some k_ ≠ (.slice (some ⟨go23, 0, none⟩) y113.length co45 : Value).ownBlock)) (by (with_reducible repeat (first | apply Kd.qN | apply Kd.qO | apply Kd.ql)); exact Kd.Zj HO_4.out (fun _ hk => ⟨hk.2, hk.1⟩)) hg hat); have n1_ := zA.mk (ZA (g := gb101) (o := .cells #[.slice A0_0 l0_0.length c0_0] 30 (0, 0)) (by (with_reducible repeat (first | refine zI ?_ _ | refine zJ ?_ | refine zH ?_ _)); exact BK101.out) hg (Kd.S_ne HO_3.out BK101.out (by decide))); have n2_ := zA.mk (hb); have n3_ := zA.mk (ho); clear HO_4; clear BK101; clear HB; clear HO_3; clear HO115; have HO_4 := n0_; have BK101 := n1_; have HB := n2_; have HO131 := n3_; clear n0_ n1_ n2_ n3_; clear ho hb hg hat))
      go_roundg k2
      case measure => have := HK1.out; have := HK2.out; omega
      case rel => exact ⟨(y129), (wrap64 (x8_2 + 1)), (by first | rfl | (simp; done) | (simp [*]; done)), H', ⟨by have := HK1.out; have := HK2.out; omega⟩, ⟨by (with_reducible repeat (first | apply Kd.qN | apply Kd.qO | apply Kd.ql)); exact HO131.out⟩, ⟨by (with_reducible repeat (first | apply Kd.qN | apply Kd.qO | apply Kd.ql)); exact Kd.Zj HO_4.out (fun _ hk => hk.2)⟩, ⟨by (with_reducible repeat (first | refine zI ?_ _ | refine zJ ?_ | refine zH ?_ _)); exact BK101.out⟩, ⟨by repeat (first | (with_reducible first | exact HB.out | apply zC | apply zB | apply zD | refine zF ?_ GE101.out) | exact HB.out)⟩⟩
mutual
def zc.j0 : Nat → List Int → Bool → List (List (zq)) → Option (Bool)
 | 0, _, _, _ => none
 | k + 1, x1, x18, x102000 => if x18 = true then (some false) else (zc.l0 k x1 0 x102000)
def zc.l0 : Nat → List Int → Int → List (List (zq)) → Option (Bool)
 | 0, _, _, _ => none
 | k + 1, x1, x5, x102000 => if x5 < (x1.length : Int) then (if 0 ≤ x5 then ((QZ.f (rd x1 x5) 0 1000).bind fun t105 => (if t105 = true then (zc.l0 k x1 (wrap64 (x5 + 1)) x102000) else (some false))) else (none)) else ((zi.f k x102000).bind fun t106 => (zc.l1 k x1 t106 0))
def zc.l1 : Nat → List Int → List (List Int) → Int → Option (Bool)
 | 0, _, _, _ => none
 | k + 1, x1, x6, x7 => if x7 < (x6.length : Int) then (if 0 ≤ x7 then ((ZF.f k (zY x6 x7) x1).bind fun t110 => (if t110 = 0 then (zc.l1 k x1 x6 (wrap64 (x7 + 1))) else (some false))) else (none)) else (some true)
end
def zc.f (k : Nat) (l0_0 : List (List (zq))) (l1 : List Int) : Option (Bool) := (ZO.f k l0_0).bind fun t102 => (if t102 = 0 then ((zt.f l0_0).bind fun t103 => (zc.j0 k l1 ((l1.length : Int) != (wrap64 (7 * t103))) l0_0)) else (zc.j0 k l1 true l0_0))
set_option maxHeartbeats 8000000 in
set_option maxRecDepth 100000 in
theorem zc.calls (k : Nat) (A0_0 : Option Addr) (c0_0 : Nat) (l0_0 : List (List (zq))) (A1 : Option Addr) (c1 : Nat) (l1 : List Int) (r : Bool) (w : World) (hr0_0 : Kd.C (Kd.slice 59 qx) w A0_0 l0_0.length l0_0) (hc0_0 : l0_0.length ≤ c0_0) (hr1 : Kd.C (Kd.int .i64) w A1 l1.length l1) (hc1 : l1.length ≤ c1) (h : zc.f k l0_0 l1 = some r) :
 Calls Try.prog 140 #[.agg #[.slice A0_0 l0_0.length c0_0], .slice A1 l1.length c1] w fun e w' => e = .returned (.bool r) ∧ Below w.heap.size w w' := by
 have hu30 := Try.underlying30
 have HR0_0 := zA.mk hr0_0
 have HC0_0 := zA.mk hc0_0
 clear hr0_0 hc0_0
 have HR1 := zA.mk hr1
 have HC1 := zA.mk hc1
 clear hr1 hc1
 have HB := zA.mk (yry w.heap.size w)
 have H : ((ZO.f k l0_0).bind fun t102 => (if t102 = 0 then ((zt.f l0_0).bind fun t103 => (zc.j0 k l1 ((l1.length : Int) != (wrap64 (7 * t103))) l0_0)) else (zc.j0 k l1 true l0_0))) = some r := h
 clear h
 have HC3 := zA.mk H
 clear H
 go_enter Try.func140, Try.ntmps140
 go_upto_region 1 with (first | ((with_reducible refine zd (N := 2) rfl ?_); (try (refine zEC (by rfl) ?_; dsimp only)); refine zb ?hg (N := 2) ?hd (cs := #[.slice A0_0 l0_0.length c0_0]) (t := 30) ?hr ?_; (case hd => rfl); (case hg => rfl); (case hr => first | (go_simp; done) | (go_simp; rfl)); intro gb101 hg w4 hbox hb; have n0_ := zA.mk (zN (by repeat (first | (with_reducible first | exact HB.out | apply zC | apply zB | apply zD) | exact HB.out)) hb); have n1_ := zA.mk (hbox); have n2_ := zA.mk ((by rw [hg]; exact (zO (by repeat (first | (with_reducible first | exact HB.out | apply zC | apply zB | apply zD) | exact HB.out))) : w.heap.size ≤ gb101)); have n3_ := zA.mk ((by rw [hg]; exact (zO (by repeat (first | (with_reducible first | exact HB.out | apply zC | apply zB | apply zD) | exact HB.out))) : w.heap.size ≤ gb101)); clear HB; have HB := n0_; have BK101 := n1_; have GW101 := n2_; have GE101 := n3_; clear n0_ n1_ n2_ n3_; clear hb hbox hg))
 (try simp only [Act.put, yay, yby, ycy])
 go_cut [18] (fun v18 wc => ∃ (kq : Nat) (x18_2 : Bool), v18 = .bool x18_2 ∧ zA (zc.j0 kq l1 x18_2 l0_0 = some r) ∧ zA (kq ≤ k) ∧ zA (wc.heap[gb101]? = some (.cells #[(.slice A0_0 l0_0.length c0_0)] 30 (0, 0))) ∧ zA (Below w.heap.size w wc))
 case first =>
  have H := HC3.out
  clear HC3
  replace H := ydy.mp H
  obtain ⟨t102, A50, H⟩ := H
  replace H : (if t102 = 0 then ((zt.f l0_0).bind fun t103 => (zc.j0 k l1 ((l1.length : Int) != (wrap64 (7 * t103))) l0_0)) else (zc.j0 k l1 true l0_0)) = some r := H
  have A5 := zA.mk A50
  clear A50
  by_cases c6 : t102 = 0
  rotate_left
  next =>
   rw [if_neg c6] at H
   have c6b0 : (t102 == 0) = false := beq_eq_false_iff_ne.mpr c6
   have c6b1 : (t102 != 0) = true := bne_iff_ne.mpr c6
   (first | rw [c6b0] | (simp only [zW, zX]; rw [c6b0]) | skip)
   have H' := zA.mk H
   clear H
   have hcz12_0 : w4.cell? ⟨gb101, 0, none⟩ = some (.slice A0_0 l0_0.length c0_0) := (zK BK101.out 0).trans rfl
   have hfz12_0 := zL BK101.out 0
   go_wp2_with (first | ((with_reducible refine zS (f := 118) rfl ?_); refine qB (some 9) rfl rfl Try.func118 (by kernel_rfl) rfl #[.agg #[.slice A0_0 l0_0.length c0_0]] rfl (by (try simp only [yiy, yjy, yky]); first | done | rfl | (simp only [yly, ymy]; rfl)) ?_; (with_reducible refine (ZO.calls k _ _ l0_0 t102 _ ?side1 ?side2 A5.out).mono ?_); (case side1 => repeat (first | exact (Kd.ze HR0_0.out HB.out) | (with_reducible refine Kd.zf ?_ _) | (with_reducible refine Kd.zg ?_ _) | (with_reducible refine Kd.zz ?_))); (case side2 => exact HC0_0.out); rintro e w13 ⟨rfl, hb⟩; refine ⟨_, rfl, ?_⟩; have n0_ := zA.mk (zP (g := gb101) (o := .cells #[.slice A0_0 l0_0.length c0_0] 30 (0, 0)) (by (with_reducible repeat (first | refine zI ?_ _ | refine zJ ?_ | refine zH ?_ _)); exact BK101.out) hb); have n1_ := zA.mk (zN (by repeat (first | (with_reducible first | exact HB.out | apply zC | apply zB | apply zD | refine zF ?_ GE101.out) | exact HB.out)) hb); clear BK101; clear HB; have BK101 := n0_; have HB := n1_; clear n0_ n1_; (try clear hb); (try clear hb2); (try clear hk); (try clear hi)))
   go_meet
   case rel => exact ⟨_, (true), (by first | rfl | (simp; done) | (simp [*]; done)), H', ⟨by first | omega | exact yqy _⟩, ⟨by (with_reducible repeat (first | refine zI ?_ _ | refine zJ ?_ | refine zH ?_ _)); exact BK101.out⟩, ⟨by repeat (first | (with_reducible first | exact HB.out | apply zC | apply zB | apply zD | refine zF ?_ GE101.out) | exact HB.out)⟩⟩
  rw [if_pos c6] at H
  have c6b0 : (t102 == 0) = true := beq_iff_eq.mpr c6
  have c6b1 : (t102 != 0) = false := bne_eq_false_iff_eq.mpr c6
  clear c6
  (first | rw [c6b0] | (simp only [zW, zX]; rw [c6b0]) | skip)
  replace H := ydy.mp H
  obtain ⟨t103, A70, H⟩ := H
  replace H : (zc.j0 k l1 ((l1.length : Int) != (wrap64 (7 * t103))) l0_0) = some r := H
  have A7 := zA.mk A70
  clear A70
  have H' := zA.mk H
  clear H
  have hcz8_0 : w4.cell? ⟨gb101, 0, none⟩ = some (.slice A0_0 l0_0.length c0_0) := (zK BK101.out 0).trans rfl
  have hfz8_0 := zL BK101.out 0
  go_wp2_with (first | ((with_reducible refine zS (f := 118) rfl ?_); refine qB (some 9) rfl rfl Try.func118 (by kernel_rfl) rfl #[.agg #[.slice A0_0 l0_0.length c0_0]] rfl (by (try simp only [yiy, yjy, yky]); first | done | rfl | (simp only [yly, ymy]; rfl)) ?_; (with_reducible refine (ZO.calls k _ _ l0_0 t102 _ ?side1 ?side2 A5.out).mono ?_); (case side1 => repeat (first | exact (Kd.ze HR0_0.out HB.out) | (with_reducible refine Kd.zf ?_ _) | (with_reducible refine Kd.zg ?_ _) | (with_reducible refine Kd.zz ?_))); (case side2 => exact HC0_0.out); rintro e w9 ⟨rfl, hb⟩; refine ⟨_, rfl, ?_⟩; have n0_ := zA.mk (zP (g := gb101) (o := .cells #[.slice A0_0 l0_0.length c0_0] 30 (0, 0)) (by (with_reducible repeat (first | refine zI ?_ _ | refine zJ ?_ | refine zH ?_ _)); exact BK101.out) hb); have n1_ := zA.mk (zN (by repeat (first | (with_reducible first | exact HB.out | apply zC | apply zB | apply zD | refine zF ?_ GE101.out) | exact HB.out)) hb); clear BK101; clear HB; have BK101 := n0_; have HB := n1_; clear n0_ n1_; (try clear hb); (try clear hb2); (try clear hk); (try clear hi); have hcz10_0 : w9.cell? ⟨gb101, 0, none⟩ = some (.slice A0_0 l0_0.length c0_0) := (zK BK101.out 0).trans rfl; have hfz10_0 := zL BK101.out 0) | (go_at_call 34; (with_reducible refine (zt.calls _ _ l0_0 t103 _ ?side1 ?side2 A7.out).mono ?_); (case side1 => repeat (first | exact (Kd.ze HR0_0.out HB.out) | (with_reducible refine Kd.zf ?_ _) | (with_reducible refine Kd.zg ?_ _) | (with_reducible refine Kd.zz ?_))); (case side2 => exact HC0_0.out); rintro e w11 ⟨rfl, hb⟩; have n0_ := zA.mk (zP (g := gb101) (o := .cells #[.slice A0_0 l0_0.length c0_0] 30 (0, 0)) (by (with_reducible repeat (first | refine zI ?_ _ | refine zJ ?_ | refine zH ?_ _)); exact BK101.out) hb); have n1_ := zA.mk (zN (by repeat (first | (with_reducible first | exact HB.out | apply zC | apply zB | apply zD | refine zF ?_ GE101.out) | exact HB.out)) hb); clear BK101; clear HB; have BK101 := n0_; have HB := n1_; clear n0_ n1_; (try clear hb); (try clear hb2); (try clear hk); (try clear hi)))
  go_meet
  case rel => exact ⟨_, (((l1.length : Int) != (wrap64 (7 * t103)))), (by first | rfl | (simp; done) | (simp [*]; done)), H', ⟨by first | omega | exact yqy _⟩, ⟨by (with_reducible repeat (first | refine zI ?_ _ | refine zJ ?_ | refine zH ?_ _)); exact BK101.out⟩, ⟨by repeat (first | (with_reducible first | exact HB.out | apply zC | apply zB | apply zD | refine zF ?_ GE101.out) | exact HB.out)⟩⟩
 case rest =>
  clear HC3
  try clear c1
  try clear p2
  try clear c6
  try clear c6b0
  try clear c6b1
  try clear p6
  try clear c11
  try clear hcz10_0
  try clear hcz12_0
  try clear hcz8_0
  try clear hfz10_0
  try clear hfz12_0
  try clear hfz8_0
  obtain ⟨kq, x18_2, rfl, HA, HJ2, BK101, HB⟩ := hcut
  cases kq with
  | zero => exact absurd HA.out (by simp [zc.j0])
  | succ kj2 =>
   have H := HA.out
   clear HA
   simp only [zc.j0] at H
   by_cases c14 : x18_2 = true
   next =>
    subst c14
    have H1 : (some false) = some r := by rw [if_pos rfl] at H; exact H
    clear H
    have H := H1
    clear H1
    obtain rfl := yey H
    go_wp2
    go_ret
    exact ⟨by first | rfl | (simp [zQ, zR] <;> rfl) | (simp [*, zQ, zR] <;> rfl), by repeat (first | (with_reducible first | exact HB.out | apply zC | apply zB | apply zD | refine zF ?_ GE101.out) | exact HB.out)⟩
   next =>
    replace c14 := Bool.eq_false_iff.mpr c14
    subst c14
    have H1 : (zc.l0 kj2 l1 0 l0_0) = some r := by rw [if_neg (show ¬ (false = true) by decide)] at H; exact H
    clear H
    have H := H1
    clear H1
    have H' := zA.mk H
    clear H
    go_wp2
    go_loopg [5] kj2 (fun kq v5 w' => ∃ (x5_2 : Int), v5 = .int .i64 x5_2 ∧ zA (zc.l0 kq l1 x5_2 l0_0 = some r) ∧ zA (kq ≤ kj2) ∧ zA (w'.heap[gb101]? = some (.cells #[(.slice A0_0 l0_0.length c0_0)] 30 (0, 0))) ∧ zA (Below w.heap.size w w'))
    case atStart => exact ⟨(0), (by first | rfl | (simp; done) | (simp [*]; done)), H', ⟨yqy _⟩, ⟨by (with_reducible repeat (first | refine zI ?_ _ | refine zJ ?_ | refine zH ?_ _)); exact BK101.out⟩, ⟨by repeat (first | (with_reducible first | exact HB.out | apply zC | apply zB | apply zD | refine zF ?_ GE101.out) | exact HB.out)⟩⟩
    case round =>
     clear H'
     try clear c1
     try clear p2
     try clear c6
     try clear c6b0
     try clear c6b1
     try clear p6
     try clear c11
     try clear c14
     try clear hcz10_0
     try clear hcz12_0
     try clear hcz8_0
     try clear hfz10_0
     try clear hfz12_0
     try clear hfz8_0
     try clear p2
     try clear p6
     obtain ⟨x5_2, rfl, HA, HK2, BK101, HB⟩ := hrel
     cases gk with
     | zero => exact absurd HA.out (by simp [zc.l0])
     | succ k2 =>
      have H := HA.out
      clear HA
      simp only [zc.l0] at H
      by_cases c15 : x5_2 < (l1.length : Int)
      next =>
       rw [if_pos c15] at H
       have c15b0 : decide (x5_2 < (l1.length : Int)) = true := ygy c15
       clear c15
       by_cases c16 : 0 ≤ x5_2
       rotate_left
       next =>
        rw [if_neg c16] at H
        exact absurd H (by simp)
       rw [if_pos c16] at H
       have c16b0 : decide (0 ≤ x5_2) = true := ygy c16
       clear c16
       replace H := ydy.mp H
       obtain ⟨t105, A170, H⟩ := H
       replace H : (if t105 = true then (zc.l0 k2 l1 (wrap64 (x5_2 + 1)) l0_0) else (some false)) = some r := H
       have A17 := zA.mk A170
       clear A170
       by_cases c18 : t105 = true
       rotate_left
       next =>
        replace c18 := Bool.eq_false_iff.mpr c18
        subst c18
        have H1 : (some false) = some r := by rw [if_neg (show ¬ (false = true) by decide)] at H; exact H
        clear H
        have H := H1
        clear H1
        obtain rfl := yey H
        have p104 : 0 ≤ (x5_2 : Int) := of_decide_eq_true (by first | (with_reducible assumption) | assumption)
        have q104 : x5_2 < (l1.length : Int) := of_decide_eq_true (by first | (with_reducible assumption) | assumption)
        obtain ⟨ad104, e104, hx104_0⟩ := Kd.ZI HR1.out x5_2 p104 q104
        cases e104
        replace hx104_0 := (HB.out.cell (ypy w _ hx104_0)).trans hx104_0
        replace p104 := eq_true p104
        replace q104 := eq_true q104
        go_wp2_with (first | ((with_reducible refine zS (f := 147) rfl ?_); refine qB (some 29) rfl rfl Try.func147 (by kernel_rfl) rfl #[.int .i64 (rd l1 x5_2), .int .i64 0, .int .i64 1000] rfl (by (try simp only [yiy, yjy, yky]); first | done | rfl | (simp only [yly, ymy]; rfl)) ?_; (with_reducible refine (QZ.calls (rd l1 x5_2) 0 1000 false _ A17.out).mono ?_); rintro e w' ⟨rfl, ⟨nd, rfl⟩⟩; refine ⟨_, rfl, ?_⟩))
        go_ret
        exact ⟨by first | rfl | (simp [zQ, zR] <;> rfl) | (simp [*, zQ, zR] <;> rfl), by repeat (first | (with_reducible first | exact HB.out | apply zC | apply zB | apply zD | refine zF ?_ GE101.out) | exact HB.out)⟩
       subst c18
       have H1 : (zc.l0 k2 l1 (wrap64 (x5_2 + 1)) l0_0) = some r := by rw [if_pos rfl] at H; exact H
       clear H
       have H := H1
       clear H1
       have H' := zA.mk H
       clear H
       have p104 : 0 ≤ (x5_2 : Int) := of_decide_eq_true (by first | (with_reducible assumption) | assumption)
       have q104 : x5_2 < (l1.length : Int) := of_decide_eq_true (by first | (with_reducible assumption) | assumption)
       obtain ⟨ad104, e104, hx104_0⟩ := Kd.ZI HR1.out x5_2 p104 q104
       cases e104
       replace hx104_0 := (HB.out.cell (ypy w _ hx104_0)).trans hx104_0
       replace p104 := eq_true p104
       replace q104 := eq_true q104
       go_wp2_with (first | ((with_reducible refine zS (f := 147) rfl ?_); refine qB (some 29) rfl rfl Try.func147 (by kernel_rfl) rfl #[.int .i64 (rd l1 x5_2), .int .i64 0, .int .i64 1000] rfl (by (try simp only [yiy, yjy, yky]); first | done | rfl | (simp only [yly, ymy]; rfl)) ?_; (with_reducible refine (QZ.calls (rd l1 x5_2) 0 1000 true _ A17.out).mono ?_); rintro e w' ⟨rfl, ⟨nd, rfl⟩⟩; refine ⟨_, rfl, ?_⟩))
       go_roundg k2
       case measure => have := HJ2.out; have := HK2.out; omega
       case rel => exact ⟨(wrap64 (x5_2 + 1)), (by first | rfl | (simp; done) | (simp [*]; done)), H', ⟨by have := HJ2.out; have := HK2.out; omega⟩, ⟨by (with_reducible repeat (first | refine zI ?_ _ | refine zJ ?_ | refine zH ?_ _)); exact BK101.out⟩, ⟨by repeat (first | (with_reducible first | exact HB.out | apply zC | apply zB | apply zD | refine zF ?_ GE101.out) | exact HB.out)⟩⟩
      next =>
       rw [if_neg c15] at H
       have c15b0 : decide (x5_2 < (l1.length : Int)) = false := yhy c15
       clear c15
       replace H := ydy.mp H
       obtain ⟨t106, A190, H⟩ := H
       replace H : (zc.l1 k2 l1 t106 0) = some r := H
       have A19 := zA.mk A190
       clear A190
       have H' := zA.mk H
       clear H
       have hcz20_0 : wr.cell? ⟨gb101, 0, none⟩ = some (.slice A0_0 l0_0.length c0_0) := (zK BK101.out 0).trans rfl
       have hfz20_0 := zL BK101.out 0
       go_wp2_with (first | ((with_reducible refine zS (f := 148) rfl ?_); refine qB (some 32) rfl rfl Try.func148 (by kernel_rfl) rfl #[.agg #[.slice A0_0 l0_0.length c0_0]] rfl (by (try simp only [yiy, yjy, yky]); first | done | rfl | (simp only [yly, ymy]; rfl)) ?_; (with_reducible refine (zi.calls k2 _ _ l0_0 t106 _ ?side1 ?side2 A19.out).mono ?_); (case side1 => repeat (first | exact (Kd.ze HR0_0.out HB.out) | (with_reducible refine Kd.zf ?_ _) | (with_reducible refine Kd.zg ?_ _) | (with_reducible refine Kd.zz ?_))); (case side2 => exact HC0_0.out); rintro e w21 ⟨v107, rfl, ho0, hb⟩; refine ⟨_, rfl, ?_⟩; have n0_ := zA.mk (Kd.zA7 ho0 (zO (by repeat (first | (with_reducible first | exact HB.out | apply zC | apply zB | apply zD | refine zF ?_ GE101.out) | exact HB.out)))); have n1_ := zA.mk (zP (g := gb101) (o := .cells #[.slice A0_0 l0_0.length c0_0] 30 (0, 0)) (by (with_reducible repeat (first | refine zI ?_ _ | refine zJ ?_ | refine zH ?_ _)); exact BK101.out) hb); have n2_ := zA.mk (zN (by repeat (first | (with_reducible first | exact HB.out | apply zC | apply zB | apply zD | refine zF ?_ GE101.out) | exact HB.out)) hb); clear BK101; clear HB; have HO108 := n0_; have BK101 := n1_; have HB := n2_; clear n0_ n1_ n2_; (try clear hb); (try clear hb2); (try clear hk); (try clear hi); (try clear ho0)))
       go_loopg [7] k2 (fun kq v7 w' => ∃ (x7_3 : Int), v7 = .int .i64 x7_3 ∧ zA (zc.l1 kq l1 t106 x7_3 = some r) ∧ zA (kq ≤ k2) ∧ zA (Kd.S (Kd.slice 2 (Kd.int .i64)) 44 w' w.heap.size (fun _ => True) v107 t106) ∧ zA (w'.heap[gb101]? = some (.cells #[(.slice A0_0 l0_0.length c0_0)] 30 (0, 0))) ∧ zA (Below w.heap.size w w'))
       case atStart => exact ⟨(0), (by first | rfl | (simp; done) | (simp [*]; done)), H', ⟨yqy _⟩, ⟨by (with_reducible repeat (first | apply Kd.qN | apply Kd.qO | apply Kd.ql)); exact HO108.out⟩, ⟨by (with_reducible repeat (first | refine zI ?_ _ | refine zJ ?_ | refine zH ?_ _)); exact BK101.out⟩, ⟨by repeat (first | (with_reducible first | exact HB.out | apply zC | apply zB | apply zD | refine zF ?_ GE101.out) | exact HB.out)⟩⟩
       case round =>
        clear H'
        try clear c1
        try clear p1
        try clear q1
        try clear hx1
        try clear p2
        try clear c6
        try clear c6b0
        try clear c6b1
        try clear p6
        try clear p10
        try clear q10
        try clear hx10
        try clear c11
        try clear c14
        try clear c15
        try clear c15b0
        try clear c16
        try clear c16b0
        try clear c18
        try clear hcz10_0
        try clear hcz12_0
        try clear hcz20_0
        try clear hcz8_0
        try clear hfz10_0
        try clear hfz12_0
        try clear hfz20_0
        try clear hfz8_0
        try clear hx104_0
        try clear p104
        try clear p2
        try clear p6
        try clear q104
        obtain ⟨x7_3, rfl, HA, HK3, HO_6, BK101, HB⟩ := hrel
        cases gk with
        | zero => exact absurd HA.out (by simp [zc.l1])
        | succ k3 =>
         have H := HA.out
         clear HA
         simp only [zc.l1] at H
         by_cases c22 : x7_3 < (t106.length : Int)
         rotate_left
         next =>
          rw [if_neg c22] at H
          have c22b0 : decide (x7_3 < (t106.length : Int)) = false := yhy c22
          clear c22
          obtain rfl := yey H
          obtain ⟨Ao28, co28, eo28⟩ := Kd.JS HO_6.out
          subst eo28
          go_wp2
          go_ret
          exact ⟨by first | rfl | (simp [zQ, zR] <;> rfl) | (simp [*, zQ, zR] <;> rfl), by repeat (first | (with_reducible first | exact HB.out | apply zC | apply zB | apply zD | refine zF ?_ GE101.out) | exact HB.out)⟩
         rw [if_pos c22] at H
         have c22b0 : decide (x7_3 < (t106.length : Int)) = true := ygy c22
         clear c22
         by_cases c23 : 0 ≤ x7_3
         rotate_left
         next =>
          rw [if_neg c23] at H
          exact absurd H (by simp)
         rw [if_pos c23] at H
         have c23b0 : decide (0 ≤ x7_3) = true := ygy c23
         clear c23
         replace H := ydy.mp H
         obtain ⟨t110, A240, H⟩ := H
         replace H : (if t110 = 0 then (zc.l1 k3 l1 t106 (wrap64 (x7_3 + 1))) else (some false)) = some r := H
         have A24 := zA.mk A240
         clear A240
         by_cases c25 : t110 = 0
         rotate_left
         next =>
          rw [if_neg c25] at H
          have c25b0 : (t110 == 0) = false := beq_eq_false_iff_ne.mpr c25
          have c25b1 : (t110 != 0) = true := bne_iff_ne.mpr c25
          obtain rfl := yey H
          obtain ⟨Ao27, co27, eo27⟩ := Kd.JS HO_6.out
          subst eo27
          have p109 : 0 ≤ (x7_3 : Int) := of_decide_eq_true (by first | (with_reducible assumption) | assumption)
          have q109 : x7_3 < (t106.length : Int) := of_decide_eq_true (by first | (with_reducible assumption) | assumption)
          obtain ⟨ad109, A109_0, c109_0, e109, hx109_0, hl109_0, hi109_0⟩ := zCI (Kd.QK HO_6.out).2.2 x7_3 p109 q109
          cases e109
          obtain ⟨ce109, hce109, hMe109, hcc109⟩ := Kd.zFW HO_6.out [] x7_3 p109 (by first | exact q109 | exact of_decide_eq_true (by first | (with_reducible assumption) | assumption) | (have e_ := (Kd.QK HO_6.out).1; omega))
          obtain ⟨ve109_0, rfl, ge109_0⟩ := hMe109
          have hv109_0 := hcc109 0 _ rfl
          rw [Nat.add_zero, show ((Kd.slice 2 (Kd.int .i64))).sz = 1 from rfl, Nat.mul_one] at hv109_0
          replace hv109_0 := yey (hv109_0.symm.trans hx109_0)
          rw [hv109_0] at ge109_0
          have HL109_0 := zA.mk (show Kd.R (Kd.int .i64) 2 _ _ _ _ (zY t106 x7_3) from ge109_0)
          clear hv109_0 ge109_0
          clear hcc109 hce109
          have HR109_0 := zA.mk hi109_0
          have HC109_0 := zA.mk hl109_0
          clear hi109_0 hl109_0
          replace p109 := eq_true p109
          replace q109 := eq_true q109
          go_wp2_with (first | ((with_reducible refine zS (f := 149) rfl ?_); refine qB (some 44) rfl rfl Try.func149 (by kernel_rfl) rfl #[.slice A109_0 (zY t106 x7_3).length c109_0, .slice A1 l1.length c1] rfl (by (try simp only [yiy, yjy, yky]); first | done | rfl | (simp only [yly, ymy]; rfl)) ?_; (with_reducible refine (ZF.calls k3 _ _ (zY t106 x7_3) _ _ l1 t110 _ ?side1 ?side2 ?side3 ?side4 A24.out).mono ?_); (case side1 => repeat (first | exact (by repeat (first | (with_reducible exact HR109_0.out) | (with_reducible refine Kd.zf ?_ _) | (with_reducible refine Kd.zg ?_ _) | (with_reducible refine Kd.zz ?_) | exact HR109_0.out)) | (with_reducible refine Kd.zf ?_ _) | (with_reducible refine Kd.zg ?_ _) | (with_reducible refine Kd.zz ?_))); (case side2 => exact HC109_0.out); (case side3 => repeat (first | exact (Kd.ze HR1.out HB.out) | (with_reducible refine Kd.zf ?_ _) | (with_reducible refine Kd.zg ?_ _) | (with_reducible refine Kd.zz ?_))); (case side4 => exact HC1.out); rintro e w' ⟨rfl, ⟨nd, rfl⟩⟩; refine ⟨_, rfl, ?_⟩))
          go_ret
          exact ⟨by first | rfl | (simp [zQ, zR] <;> rfl) | (simp [*, zQ, zR] <;> rfl), by repeat (first | (with_reducible first | exact HB.out | apply zC | apply zB | apply zD | refine zF ?_ GE101.out) | exact HB.out)⟩
         rw [if_pos c25] at H
         have c25b0 : (t110 == 0) = true := beq_iff_eq.mpr c25
         have c25b1 : (t110 != 0) = false := bne_eq_false_iff_eq.mpr c25
         clear c25
         have H' := zA.mk H
         clear H
         obtain ⟨Ao26, co26, eo26⟩ := Kd.JS HO_6.out
         subst eo26
         have p109 : 0 ≤ (x7_3 : Int) := of_decide_eq_true (by first | (with_reducible assumption) | assumption)
         have q109 : x7_3 < (t106.length : Int) := of_decide_eq_true (by first | (with_reducible assumption) | assumption)
         obtain ⟨ad109, A109_0, c109_0, e109, hx109_0, hl109_0, hi109_0⟩ := zCI (Kd.QK HO_6.out).2.2 x7_3 p109 q109
         cases e109
         obtain ⟨ce109, hce109, hMe109, hcc109⟩ := Kd.zFW HO_6.out [] x7_3 p109 (by first | exact q109 | exact of_decide_eq_true (by first | (with_reducible assumption) | assumption) | (have e_ := (Kd.QK HO_6.out).1; omega))
         obtain ⟨ve109_0, rfl, ge109_0⟩ := hMe109
         have hv109_0 := hcc109 0 _ rfl
         rw [Nat.add_zero, show ((Kd.slice 2 (Kd.int .i64))).sz = 1 from rfl, Nat.mul_one] at hv109_0
         replace hv109_0 := yey (hv109_0.symm.trans hx109_0)
         rw [hv109_0] at ge109_0
         have HL109_0 := zA.mk (show Kd.R (Kd.int .i64) 2 _ _ _ _ (zY t106 x7_3) from ge109_0)
         clear hv109_0 ge109_0
         clear hcc109 hce109
         have HR109_0 := zA.mk hi109_0
         have HC109_0 := zA.mk hl109_0
         clear hi109_0 hl109_0
         replace p109 := eq_true p109
         replace q109 := eq_true q109
         go_wp2_with (first | ((with_reducible refine zS (f := 149) rfl ?_); refine qB (some 44) rfl rfl Try.func149 (by kernel_rfl) rfl #[.slice A109_0 (zY t106 x7_3).length c109_0, .slice A1 l1.length c1] rfl (by (try simp only [yiy, yjy, yky]); first | done | rfl | (simp only [yly, ymy]; rfl)) ?_; (with_reducible refine (ZF.calls k3 _ _ (zY t106 x7_3) _ _ l1 t110 _ ?side1 ?side2 ?side3 ?side4 A24.out).mono ?_); (case side1 => repeat (first | exact (by repeat (first | (with_reducible exact HR109_0.out) | (with_reducible refine Kd.zf ?_ _) | (with_reducible refine Kd.zg ?_ _) | (with_reducible refine Kd.zz ?_) | exact HR109_0.out)) | (with_reducible refine Kd.zf ?_ _) | (with_reducible refine Kd.zg ?_ _) | (with_reducible refine Kd.zz ?_))); (case side2 => exact HC109_0.out); (case side3 => repeat (first | exact (Kd.ze HR1.out HB.out) | (with_reducible refine Kd.zf ?_ _) | (with_reducible refine Kd.zg ?_ _) | (with_reducible refine Kd.zz ?_))); (case side4 => exact HC1.out); rintro e w' ⟨rfl, ⟨nd, rfl⟩⟩; refine ⟨_, rfl, ?_⟩))
         go_roundg k3
         case measure => have := HJ2.out; have := HK2.out; have := HK3.out; omega
         case rel => exact ⟨(wrap64 (x7_3 + 1)), (by first | rfl | (simp; done) | (simp [*]; done)), H', ⟨by have := HJ2.out; have := HK2.out; have := HK3.out; omega⟩, ⟨by (with_reducible repeat (first | apply Kd.qN | apply Kd.qO | apply Kd.ql)); exact HO_6.out⟩, ⟨by (with_reducible repeat (first | refine zI ?_ _ | refine zJ ?_ | refine zH ?_ _)); exact BK101.out⟩, ⟨by repeat (first | (with_reducible first | exact HB.out | apply zC | apply zB | apply zD | refine zF ?_ GE101.out) | exact HB.out)⟩⟩
mutual
def qJ.l0 : Nat → List Int → Int → Option (Bool)
  | 0, _, _ => none
  | k + 1, x0, x3 => if (wrap64 (x3 + 7)) ≤ (x0.length : Int) then (qJ.l1 k x0 x3 0 4) else (some true)
def qJ.l1 : Nat → List Int → Int → Int → Int → Option (Bool)
  | 0, _, _, _, _ => none
  | k + 1, x0, x3, x4, x5 => if x5 < 7 then (if 0 ≤ (wrap64 (x3 + x5)) then (if (wrap64 (x3 + x5)) < (x0.length : Int) then (if (rd x0 (wrap64 (x3 + x5))) > 0 then (qJ.l1 k x0 x3 (wrap64 (x4 + 1)) (wrap64 (x5 + 1))) else (qJ.l1 k x0 x3 x4 (wrap64 (x5 + 1)))) else (none)) else (none)) else (if x4 > 1 then (some false) else (qJ.l0 k x0 (wrap64 (x3 + 7))))
end
def qJ.f (k : Nat) (l0 : List Int) : Option (Bool) := qJ.l0 k l0 0
set_option maxHeartbeats 8000000 in
set_option maxRecDepth 100000 in
theorem qJ.calls (k : Nat) (A0 : Option Addr) (c0 : Nat) (l0 : List Int) (r : Bool) (w : World) (hr0 : Kd.C (Kd.int .i64) w A0 l0.length l0) (hc0 : l0.length ≤ c0) (h : qJ.f k l0 = some r) :
    Calls Try.prog 141 #[.slice A0 l0.length c0] w fun e w' => e = .returned (.bool r) ∧ zZ w w' := by
  have HR0 := zA.mk hr0
  have HC0 := zA.mk hc0
  clear hr0 hc0
  have H : (qJ.l0 k l0 0) = some r := h
  clear h
  have H' := zA.mk H
  clear H
  go_enter Try.func141, Try.ntmps141
  go_wp2
  go_loopg [3] k (fun kq v3 w' => ∃ (x3_1 : Int), v3 = .int .i64 x3_1 ∧ zA (qJ.l0 kq l0 x3_1 = some r) ∧ zA (kq ≤ k) ∧ zZ w w')
  case atStart => exact ⟨(0), (by first | rfl | (simp; done) | (simp [*]; done)), H', ⟨yqy _⟩, by repeat (first | exact zZ.refl _ | apply zZ.step)⟩
  case round =>
    clear H'
    try clear c1
    obtain ⟨x3_1, rfl, HA, HK1, ⟨m1, rfl⟩⟩ := hrel
    cases gk with
    | zero => exact absurd HA.out (by simp [qJ.l0])
    | succ k1 =>
      have H := HA.out
      clear HA
      simp only [qJ.l0] at H
      by_cases c2 : (wrap64 (x3_1 + 7)) ≤ (l0.length : Int)
      · rw [if_pos c2] at H
        have c2b0 : decide ((wrap64 (x3_1 + 7)) ≤ (l0.length : Int)) = true := ygy c2
        clear c2
        have H' := zA.mk H
        clear H
        go_wp2
        go_loopg [4, 5] k1 (fun kq v4 v5 w' => ∃ (x4_2 : Int) (x5_2 : Int), v4 = .int .i64 x4_2 ∧ v5 = .int .i64 x5_2 ∧ zA (qJ.l1 kq l0 x3_1 x4_2 x5_2 = some r) ∧ zA (kq ≤ k1) ∧ zZ w w')
        case atStart => exact ⟨(0), (4), (by first | rfl | (simp; done) | (simp [*]; done)), (by first | rfl | (simp; done) | (simp [*]; done)), H', ⟨yqy _⟩, by repeat (first | exact zZ.refl _ | apply zZ.step)⟩
        case round =>
          clear H'
          try clear c1
          try clear c2
          try clear c2b0
          try clear p2
          obtain ⟨x4_2, x5_2, rfl, rfl, HA, HK2, ⟨m2, rfl⟩⟩ := hrel
          cases gk with
          | zero => exact absurd HA.out (by simp [qJ.l1])
          | succ k2 =>
            have H := HA.out
            clear HA
            simp only [qJ.l1] at H
            by_cases c3 : x5_2 < 7
            · rw [if_pos c3] at H
              have c3b0 : decide (x5_2 < 7) = true := ygy c3
              clear c3
              obtain ⟨ji4, hji4⟩ : ∃ j_ : Int, (wrap64 (x3_1 + x5_2)) = j_ := ⟨_, rfl⟩
              replace H : (if 0 ≤ (ji4) then (if (ji4) < (l0.length : Int) then (if (rd l0 (ji4)) > 0 then (qJ.l1 k2 l0 x3_1 (wrap64 (x4_2 + 1)) (wrap64 (x5_2 + 1))) else (qJ.l1 k2 l0 x3_1 x4_2 (wrap64 (x5_2 + 1)))) else (none)) else (none)) = some r := by first | (rw [hji4] at H; exact H) | (simp only [hji4] at H ⊢; exact H)
              have hji4w : (IntKind.i64.wrap (x3_1 + x5_2)) = ji4 := (zW _).trans hji4
              by_cases c5 : 0 ≤ (ji4)
              · rw [if_pos c5] at H
                have c5b0 : decide (0 ≤ (ji4)) = true := ygy c5
                clear c5
                by_cases c6 : (ji4) < (l0.length : Int)
                · rw [if_pos c6] at H
                  have c6b0 : decide ((ji4) < (l0.length : Int)) = true := ygy c6
                  clear c6
                  by_cases c7 : (rd l0 (ji4)) > 0
                  · rw [if_pos c7] at H
                    have c7b0 : decide (0 < (rd l0 (ji4))) = true := ygy c7
                    clear c7
                    have H' := zA.mk H
                    clear H
                    have p101 : 0 ≤ ((ji4) : Int) := of_decide_eq_true (by first | (with_reducible assumption) | assumption)
                    have q101 : (ji4) < (l0.length : Int) := of_decide_eq_true (by first | (with_reducible assumption) | assumption)
                    obtain ⟨ad101, e101, hx101_0⟩ := Kd.ZI HR0.out (ji4) p101 q101
                    cases e101
                    replace p101 := eq_true p101
                    replace q101 := eq_true q101
                    go_wp2
                    go_roundg k2
                    case measure => have := HK1.out; have := HK2.out; omega
                    case rel => exact ⟨(wrap64 (x4_2 + 1)), (wrap64 (x5_2 + 1)), (by first | rfl | (simp; done) | (simp [*]; done)), (by first | rfl | (simp; done) | (simp [*]; done)), H', ⟨by have := HK1.out; have := HK2.out; omega⟩, by repeat (first | exact zZ.refl _ | apply zZ.step)⟩
                  · rw [if_neg c7] at H
                    have c7b0 : decide (0 < (rd l0 (ji4))) = false := yhy c7
                    clear c7
                    have H' := zA.mk H
                    clear H
                    have p101 : 0 ≤ ((ji4) : Int) := of_decide_eq_true (by first | (with_reducible assumption) | assumption)
                    have q101 : (ji4) < (l0.length : Int) := of_decide_eq_true (by first | (with_reducible assumption) | assumption)
                    obtain ⟨ad101, e101, hx101_0⟩ := Kd.ZI HR0.out (ji4) p101 q101
                    cases e101
                    replace p101 := eq_true p101
                    replace q101 := eq_true q101
                    go_wp2
                    go_roundg k2
                    case measure => have := HK1.out; have := HK2.out; omega
                    case rel => exact ⟨(x4_2), (wrap64 (x5_2 + 1)), (by first | rfl | (simp; done) | (simp [*]; done)), (by first | rfl | (simp; done) | (simp [*]; done)), H', ⟨by have := HK1.out; have := HK2.out; omega⟩, by repeat (first | exact zZ.refl _ | apply zZ.step)⟩
                · rw [if_neg c6] at H
                  exact absurd H (by simp)
              · rw [if_neg c5] at H
                exact absurd H (by simp)
            · rw [if_neg c3] at H
              have c3b0 : decide (x5_2 < 7) = false := yhy c3
              clear c3
              by_cases c8 : x4_2 > 1
              · rw [if_pos c8] at H
                have c8b0 : decide (1 < x4_2) = true := ygy c8
                clear c8
                obtain rfl := yey H
                go_wp2
                go_ret
                exact ⟨by first | rfl | (simp; done) | (simp [*]; done), by repeat (first | exact zZ.refl _ | apply zZ.step)⟩
              · rw [if_neg c8] at H
                have c8b0 : decide (1 < x4_2) = false := yhy c8
                clear c8
                have H' := zA.mk H
                clear H
                go_wp2
                go_roundg k2
                case measure => have := HK1.out; have := HK2.out; omega
                case rel => exact ⟨(wrap64 (x3_1 + 7)), (by first | rfl | (simp; done) | (simp [*]; done)), H', ⟨by have := HK1.out; have := HK2.out; omega⟩, by repeat (first | exact zZ.refl _ | apply zZ.step)⟩
      · rw [if_neg c2] at H
        have c2b0 : decide ((wrap64 (x3_1 + 7)) ≤ (l0.length : Int)) = false := yhy c2
        clear c2
        obtain rfl := yey H
        go_wp2
        go_ret
        exact ⟨by first | rfl | (simp; done) | (simp [*]; done), by repeat (first | exact zZ.refl _ | apply zZ.step)⟩
def ZE.f (k : Nat) (l0_0 : List (List (zq))) (l1 : List Int) : Option (Bool) := (zc.f k l0_0 l1).bind fun t102 => (if t102 = true then ((qJ.f k l1).bind fun t103 => (some t103)) else (some false))
set_option maxHeartbeats 8000000 in
set_option maxRecDepth 100000 in
theorem ZE.calls (k : Nat) (A0_0 : Option Addr) (c0_0 : Nat) (l0_0 : List (List (zq))) (A1 : Option Addr) (c1 : Nat) (l1 : List Int) (r : Bool) (w : World) (hr0_0 : Kd.C (Kd.slice 59 qx) w A0_0 l0_0.length l0_0) (hc0_0 : l0_0.length ≤ c0_0) (hr1 : Kd.C (Kd.int .i64) w A1 l1.length l1) (hc1 : l1.length ≤ c1) (h : ZE.f k l0_0 l1 = some r) :
    Calls Try.prog 119 #[.agg #[.slice A0_0 l0_0.length c0_0], .slice A1 l1.length c1] w fun e w' => e = .returned (.bool r) ∧ Below w.heap.size w w' := by
  have hu30 := Try.underlying30
  have HR0_0 := zA.mk hr0_0
  have HC0_0 := zA.mk hc0_0
  clear hr0_0 hc0_0
  have HR1 := zA.mk hr1
  have HC1 := zA.mk hc1
  clear hr1 hc1
  have HB := zA.mk (yry w.heap.size w)
  have H : ((zc.f k l0_0 l1).bind fun t102 => (if t102 = true then ((qJ.f k l1).bind fun t103 => (some t103)) else (some false))) = some r := h
  clear h
  replace H := ydy.mp H
  obtain ⟨t102, A30, H⟩ := H
  replace H : (if t102 = true then ((qJ.f k l1).bind fun t103 => (some t103)) else (some false)) = some r := H
  have A3 := zA.mk A30
  clear A30
  by_cases c4 : t102 = true
  · subst c4
    have H1 : ((qJ.f k l1).bind fun t103 => (some t103)) = some r := by rw [if_pos rfl] at H; exact H
    clear H
    have H := H1
    clear H1
    replace H := ydy.mp H
    obtain ⟨t103, A50, H⟩ := H
    replace H : (some t103) = some r := H
    have A5 := zA.mk A50
    clear A50
    obtain rfl := yey H
    go_enter Try.func119, Try.ntmps119
    go_wp2_with (first | ((with_reducible refine zd (N := 2) rfl ?_); refine zb ?hg (N := 2) ?hd (cs := #[.slice A0_0 l0_0.length c0_0]) (t := 30) ?hr ?_; (case hd => rfl); (case hg => rfl); (case hr => first | (go_simp; done) | (go_simp; rfl)); intro gb101 hg w6 hbox hb; have n0_ := zA.mk (zN (by repeat (first | (with_reducible first | exact HB.out | apply zC | apply zB | apply zD) | exact HB.out)) hb); have n1_ := zA.mk (hbox); have n2_ := zA.mk ((by rw [hg]; exact (zO (by repeat (first | (with_reducible first | exact HB.out | apply zC | apply zB | apply zD) | exact HB.out))) : w.heap.size ≤ gb101)); have n3_ := zA.mk ((by rw [hg]; exact (zO (by repeat (first | (with_reducible first | exact HB.out | apply zC | apply zB | apply zD) | exact HB.out))) : w.heap.size ≤ gb101)); clear HB; have HB := n0_; have BK101 := n1_; have GW101 := n2_; have GE101 := n3_; clear n0_ n1_ n2_ n3_; clear hb hbox hg; have hcz7_0 : w6.cell? ⟨gb101, 0, none⟩ = some (.slice A0_0 l0_0.length c0_0) := (zK BK101.out 0).trans rfl; have hfz7_0 := zL BK101.out 0) | ((with_reducible refine zS (f := 140) rfl ?_); refine qB (some 7) rfl rfl Try.func140 (by kernel_rfl) rfl #[.agg #[.slice A0_0 l0_0.length c0_0], .slice A1 l1.length c1] rfl (by (try simp only [yiy, yjy, yky]); first | done | rfl | (simp only [yly, ymy]; rfl)) ?_; (with_reducible refine (zc.calls k _ _ l0_0 _ _ l1 true _ ?side1 ?side2 ?side3 ?side4 A3.out).mono ?_); (case side1 => repeat (first | exact (Kd.ze HR0_0.out HB.out) | (with_reducible refine Kd.zf ?_ _) | (with_reducible refine Kd.zg ?_ _) | (with_reducible refine Kd.zz ?_))); (case side2 => exact HC0_0.out); (case side3 => repeat (first | exact (Kd.ze HR1.out HB.out) | (with_reducible refine Kd.zf ?_ _) | (with_reducible refine Kd.zg ?_ _) | (with_reducible refine Kd.zz ?_))); (case side4 => exact HC1.out); rintro e w8 ⟨rfl, hb⟩; refine ⟨_, rfl, ?_⟩; have n0_ := zA.mk (zP (g := gb101) (o := .cells #[.slice A0_0 l0_0.length c0_0] 30 (0, 0)) (by (with_reducible repeat (first | refine zI ?_ _ | refine zJ ?_ | refine zH ?_ _)); exact BK101.out) hb); have n1_ := zA.mk (zN (by repeat (first | (with_reducible first | exact HB.out | apply zC | apply zB | apply zD | refine zF ?_ GE101.out) | exact HB.out)) hb); clear BK101; clear HB; have BK101 := n0_; have HB := n1_; clear n0_ n1_; (try clear hb); (try clear hb2); (try clear hk); (try clear hi)) | (go_at_call 141; (with_reducible refine (qJ.calls k _ _ l1 t103 _ ?side1 ?side2 A5.out).mono ?_); (case side1 => repeat (first | exact (Kd.ze HR1.out HB.out) | (with_reducible refine Kd.zf ?_ _) | (with_reducible refine Kd.zg ?_ _) | (with_reducible refine Kd.zz ?_))); (case side2 => exact HC1.out); rintro e w' ⟨rfl, ⟨nd, rfl⟩⟩))
    go_ret
    exact ⟨by first | rfl | (simp [zQ, zR] <;> rfl) | (simp [*, zQ, zR] <;> rfl), by repeat (first | (with_reducible first | exact HB.out | apply zC | apply zB | apply zD | refine zF ?_ GE101.out) | exact HB.out)⟩
  · replace c4 := Bool.eq_false_iff.mpr c4
    subst c4
    have H1 : (some false) = some r := by rw [if_neg (show ¬ (false = true) by decide)] at H; exact H
    clear H
    have H := H1
    clear H1
    obtain rfl := yey H
    go_enter Try.func119, Try.ntmps119
    go_wp2_with (first | ((with_reducible refine zd (N := 2) rfl ?_); refine zb ?hg (N := 2) ?hd (cs := #[.slice A0_0 l0_0.length c0_0]) (t := 30) ?hr ?_; (case hd => rfl); (case hg => rfl); (case hr => first | (go_simp; done) | (go_simp; rfl)); intro gb101 hg w9 hbox hb; have n0_ := zA.mk (zN (by repeat (first | (with_reducible first | exact HB.out | apply zC | apply zB | apply zD) | exact HB.out)) hb); have n1_ := zA.mk (hbox); have n2_ := zA.mk ((by rw [hg]; exact (zO (by repeat (first | (with_reducible first | exact HB.out | apply zC | apply zB | apply zD) | exact HB.out))) : w.heap.size ≤ gb101)); have n3_ := zA.mk ((by rw [hg]; exact (zO (by repeat (first | (with_reducible first | exact HB.out | apply zC | apply zB | apply zD) | exact HB.out))) : w.heap.size ≤ gb101)); clear HB; have HB := n0_; have BK101 := n1_; have GW101 := n2_; have GE101 := n3_; clear n0_ n1_ n2_ n3_; clear hb hbox hg; have hcz10_0 : w9.cell? ⟨gb101, 0, none⟩ = some (.slice A0_0 l0_0.length c0_0) := (zK BK101.out 0).trans rfl; have hfz10_0 := zL BK101.out 0) | ((with_reducible refine zS (f := 140) rfl ?_); refine qB (some 7) rfl rfl Try.func140 (by kernel_rfl) rfl #[.agg #[.slice A0_0 l0_0.length c0_0], .slice A1 l1.length c1] rfl (by (try simp only [yiy, yjy, yky]); first | done | rfl | (simp only [yly, ymy]; rfl)) ?_; (with_reducible refine (zc.calls k _ _ l0_0 _ _ l1 false _ ?side1 ?side2 ?side3 ?side4 A3.out).mono ?_); (case side1 => repeat (first | exact (Kd.ze HR0_0.out HB.out) | (with_reducible refine Kd.zf ?_ _) | (with_reducible refine Kd.zg ?_ _) | (with_reducible refine Kd.zz ?_))); (case side2 => exact HC0_0.out); (case side3 => repeat (first | exact (Kd.ze HR1.out HB.out) | (with_reducible refine Kd.zf ?_ _) | (with_reducible refine Kd.zg ?_ _) | (with_reducible refine Kd.zz ?_))); (case side4 => exact HC1.out); rintro e w11 ⟨rfl, hb⟩; refine ⟨_, rfl, ?_⟩; have n0_ := zA.mk (zP (g := gb101) (o := .cells #[.slice A0_0 l0_0.length c0_0] 30 (0, 0)) (by (with_reducible repeat (first | refine zI ?_ _ | refine zJ ?_ | refine zH ?_ _)); exact BK101.out) hb); have n1_ := zA.mk (zN (by repeat (first | (with_reducible first | exact HB.out | apply zC | apply zB | apply zD | refine zF ?_ GE101.out) | exact HB.out)) hb); clear BK101; clear HB; have BK101 := n0_; have HB := n1_; clear n0_ n1_; (try clear hb); (try clear hb2); (try clear hk); (try clear hi)))
    go_ret
    exact ⟨by first | rfl | (simp [zQ, zR] <;> rfl) | (simp [*, zQ, zR] <;> rfl), by repeat (first | (with_reducible first | exact HB.out | apply zC | apply zB | apply zD | refine zF ?_ GE101.out) | exact HB.out)⟩
def qh.l0 : Nat → List Int → Int → Int → Option (Int)
  | 0, _, _, _ => none
  | k + 1, x0, x3, x4 => if x4 < (x0.length : Int) then (if 0 ≤ x4 then (qh.l0 k x0 (wrap64 (x3 + (rd x0 x4))) (wrap64 (x4 + 1))) else (none)) else (some x3)
def qh.f (k : Nat) (l0 : List Int) : Option (Int) := qh.l0 k l0 0 0
set_option maxHeartbeats 8000000 in
set_option maxRecDepth 100000 in
theorem qh.calls (k : Nat) (A0 : Option Addr) (c0 : Nat) (l0 : List Int) (r : Int) (w : World) (hr0 : Kd.C (Kd.int .i64) w A0 l0.length l0) (hc0 : l0.length ≤ c0) (h : qh.f k l0 = some r) :
    Calls Try.prog 120 #[.slice A0 l0.length c0] w fun e w' => e = .returned (.int .i64 r) ∧ zZ w w' := by
  have HR0 := zA.mk hr0
  have HC0 := zA.mk hc0
  clear hr0 hc0
  have H : (qh.l0 k l0 0 0) = some r := h
  clear h
  have H' := zA.mk H
  clear H
  go_enter Try.func120, Try.ntmps120
  go_wp2
  go_loopg [3, 4] k (fun kq v3 v4 w' => ∃ (x3_1 : Int) (x4_1 : Int), v3 = .int .i64 x3_1 ∧ v4 = .int .i64 x4_1 ∧ zA (qh.l0 kq l0 x3_1 x4_1 = some r) ∧ zA (kq ≤ k) ∧ zZ w w')
  case atStart => exact ⟨(0), (0), (by first | rfl | (simp; done) | (simp [*]; done)), (by first | rfl | (simp; done) | (simp [*]; done)), H', ⟨yqy _⟩, by repeat (first | exact zZ.refl _ | apply zZ.step)⟩
  case round =>
    clear H'
    try clear c1
    obtain ⟨x3_1, x4_1, rfl, rfl, HA, HK1, ⟨m1, rfl⟩⟩ := hrel
    cases gk with
    | zero => exact absurd HA.out (by simp [qh.l0])
    | succ k1 =>
      have H := HA.out
      clear HA
      simp only [qh.l0] at H
      by_cases c2 : x4_1 < (l0.length : Int)
      · rw [if_pos c2] at H
        have c2b0 : decide (x4_1 < (l0.length : Int)) = true := ygy c2
        clear c2
        by_cases c3 : 0 ≤ x4_1
        · rw [if_pos c3] at H
          have c3b0 : decide (0 ≤ x4_1) = true := ygy c3
          clear c3
          have H' := zA.mk H
          clear H
          have p101 : 0 ≤ (x4_1 : Int) := of_decide_eq_true (by first | (with_reducible assumption) | assumption)
          have q101 : x4_1 < (l0.length : Int) := of_decide_eq_true (by first | (with_reducible assumption) | assumption)
          obtain ⟨ad101, e101, hx101_0⟩ := Kd.ZI HR0.out x4_1 p101 q101
          cases e101
          replace p101 := eq_true p101
          replace q101 := eq_true q101
          go_wp2
          go_roundg k1
          case measure => have := HK1.out; omega
          case rel => exact ⟨(wrap64 (x3_1 + (rd l0 x4_1))), (wrap64 (x4_1 + 1)), (by first | rfl | (simp; done) | (simp [*]; done)), (by first | rfl | (simp; done) | (simp [*]; done)), H', ⟨by have := HK1.out; omega⟩, by repeat (first | exact zZ.refl _ | apply zZ.step)⟩
        · rw [if_neg c3] at H
          exact absurd H (by simp)
      · rw [if_neg c2] at H
        have c2b0 : decide (x4_1 < (l0.length : Int)) = false := yhy c2
        clear c2
        obtain rfl := yey H
        go_wp2
        go_ret
        exact ⟨by first | rfl | (simp; done) | (simp [*]; done), by repeat (first | exact zZ.refl _ | apply zZ.step)⟩
def Zz.f (k : Nat) (l0_0 : List (List (zq))) (l1 : List Int) : Option (Int) := (ZO.f k l0_0).bind fun t102 => (if t102 = 0 then ((ZE.f k l0_0 l1).bind fun t103 => (if t103 = true then ((qh.f k l1).bind fun t104 => (if t104 > 240 then (some 3) else (some 0))) else (some 5))) else (some t102))
set_option maxHeartbeats 8000000 in
set_option maxRecDepth 100000 in
theorem Zz.calls (k : Nat) (A0_0 : Option Addr) (c0_0 : Nat) (l0_0 : List (List (zq))) (A1 : Option Addr) (c1 : Nat) (l1 : List Int) (r : Int) (w : World) (hr0_0 : Kd.C (Kd.slice 59 qx) w A0_0 l0_0.length l0_0) (hc0_0 : l0_0.length ≤ c0_0) (hr1 : Kd.C (Kd.int .i64) w A1 l1.length l1) (hc1 : l1.length ≤ c1) (h : Zz.f k l0_0 l1 = some r) :
 Calls Try.prog 70 #[.agg #[.slice A0_0 l0_0.length c0_0], .slice A1 l1.length c1] w fun e w' => e = .returned (.int .i64 r) ∧ Below w.heap.size w w' := by
 have hu30 := Try.underlying30
 have HR0_0 := zA.mk hr0_0
 have HC0_0 := zA.mk hc0_0
 clear hr0_0 hc0_0
 have HR1 := zA.mk hr1
 have HC1 := zA.mk hc1
 clear hr1 hc1
 have HB := zA.mk (yry w.heap.size w)
 have H : ((ZO.f k l0_0).bind fun t102 => (if t102 = 0 then ((ZE.f k l0_0 l1).bind fun t103 => (if t103 = true then ((qh.f k l1).bind fun t104 => (if t104 > 240 then (some 3) else (some 0))) else (some 5))) else (some t102))) = some r := h
 clear h
 replace H := ydy.mp H
 obtain ⟨t102, A30, H⟩ := H
 replace H : (if t102 = 0 then ((ZE.f k l0_0 l1).bind fun t103 => (if t103 = true then ((qh.f k l1).bind fun t104 => (if t104 > 240 then (some 3) else (some 0))) else (some 5))) else (some t102)) = some r := H
 have A3 := zA.mk A30
 clear A30
 by_cases c4 : t102 = 0
 rotate_left
 next =>
  rw [if_neg c4] at H
  have c4b0 : (t102 == 0) = false := beq_eq_false_iff_ne.mpr c4
  have c4b1 : (t102 != 0) = true := bne_iff_ne.mpr c4
  obtain rfl := yey H
  go_enter Try.func70, Try.ntmps70
  go_wp2_with (first | ((with_reducible refine zd (N := 2) rfl ?_); refine zb ?hg (N := 2) ?hd (cs := #[.slice A0_0 l0_0.length c0_0]) (t := 30) ?hr ?_; (case hd => rfl); (case hg => rfl); (case hr => first | (go_simp; done) | (go_simp; rfl)); intro gb101 hg w24 hbox hb; have n0_ := zA.mk (zN (by repeat (first | (with_reducible first | exact HB.out | apply zC | apply zB | apply zD) | exact HB.out)) hb); have n1_ := zA.mk (hbox); have n2_ := zA.mk ((by rw [hg]; exact (zO (by repeat (first | (with_reducible first | exact HB.out | apply zC | apply zB | apply zD) | exact HB.out))) : w.heap.size ≤ gb101)); have n3_ := zA.mk ((by rw [hg]; exact (zO (by repeat (first | (with_reducible first | exact HB.out | apply zC | apply zB | apply zD) | exact HB.out))) : w.heap.size ≤ gb101)); clear HB; have HB := n0_; have BK101 := n1_; have GW101 := n2_; have GE101 := n3_; clear n0_ n1_ n2_ n3_; clear hb hbox hg; have hcz25_0 : w24.cell? ⟨gb101, 0, none⟩ = some (.slice A0_0 l0_0.length c0_0) := (zK BK101.out 0).trans rfl; have hfz25_0 := zL BK101.out 0) | ((with_reducible refine zS (f := 118) rfl ?_); refine qB (some 7) rfl rfl Try.func118 (by kernel_rfl) rfl #[.agg #[.slice A0_0 l0_0.length c0_0]] rfl (by (try simp only [yiy, yjy, yky]); first | done | rfl | (simp only [yly, ymy]; rfl)) ?_; (with_reducible refine (ZO.calls k _ _ l0_0 t102 _ ?side1 ?side2 A3.out).mono ?_); (case side1 => repeat (first | exact (Kd.ze HR0_0.out HB.out) | (with_reducible refine Kd.zf ?_ _) | (with_reducible refine Kd.zg ?_ _) | (with_reducible refine Kd.zz ?_))); (case side2 => exact HC0_0.out); rintro e w26 ⟨rfl, hb⟩; refine ⟨_, rfl, ?_⟩; have n0_ := zA.mk (zP (g := gb101) (o := .cells #[.slice A0_0 l0_0.length c0_0] 30 (0, 0)) (by (with_reducible repeat (first | refine zI ?_ _ | refine zJ ?_ | refine zH ?_ _)); exact BK101.out) hb); have n1_ := zA.mk (zN (by repeat (first | (with_reducible first | exact HB.out | apply zC | apply zB | apply zD | refine zF ?_ GE101.out) | exact HB.out)) hb); clear BK101; clear HB; have BK101 := n0_; have HB := n1_; clear n0_ n1_; (try clear hb); (try clear hb2); (try clear hk); (try clear hi)))
  go_ret
  exact ⟨by first | rfl | (simp [zQ, zR] <;> rfl) | (simp [*, zQ, zR] <;> rfl), by repeat (first | (with_reducible first | exact HB.out | apply zC | apply zB | apply zD | refine zF ?_ GE101.out) | exact HB.out)⟩
 rw [if_pos c4] at H
 have c4b0 : (t102 == 0) = true := beq_iff_eq.mpr c4
 have c4b1 : (t102 != 0) = false := bne_eq_false_iff_eq.mpr c4
 clear c4
 replace H := ydy.mp H
 obtain ⟨t103, A50, H⟩ := H
 replace H : (if t103 = true then ((qh.f k l1).bind fun t104 => (if t104 > 240 then (some 3) else (some 0))) else (some 5)) = some r := H
 have A5 := zA.mk A50
 clear A50
 by_cases c6 : t103 = true
 rotate_left
 next =>
  replace c6 := Bool.eq_false_iff.mpr c6
  subst c6
  have H1 : (some 5) = some r := by rw [if_neg (show ¬ (false = true) by decide)] at H; exact H
  clear H
  have H := H1
  clear H1
  obtain rfl := yey H
  go_enter Try.func70, Try.ntmps70
  go_wp2_with (first | ((with_reducible refine zd (N := 2) rfl ?_); refine zb ?hg (N := 2) ?hd (cs := #[.slice A0_0 l0_0.length c0_0]) (t := 30) ?hr ?_; (case hd => rfl); (case hg => rfl); (case hr => first | (go_simp; done) | (go_simp; rfl)); intro gb101 hg w19 hbox hb; have n0_ := zA.mk (zN (by repeat (first | (with_reducible first | exact HB.out | apply zC | apply zB | apply zD) | exact HB.out)) hb); have n1_ := zA.mk (hbox); have n2_ := zA.mk ((by rw [hg]; exact (zO (by repeat (first | (with_reducible first | exact HB.out | apply zC | apply zB | apply zD) | exact HB.out))) : w.heap.size ≤ gb101)); have n3_ := zA.mk ((by rw [hg]; exact (zO (by repeat (first | (with_reducible first | exact HB.out | apply zC | apply zB | apply zD) | exact HB.out))) : w.heap.size ≤ gb101)); clear HB; have HB := n0_; have BK101 := n1_; have GW101 := n2_; have GE101 := n3_; clear n0_ n1_ n2_ n3_; clear hb hbox hg; have hcz20_0 : w19.cell? ⟨gb101, 0, none⟩ = some (.slice A0_0 l0_0.length c0_0) := (zK BK101.out 0).trans rfl; have hfz20_0 := zL BK101.out 0) | ((with_reducible refine zS (f := 118) rfl ?_); refine qB (some 7) rfl rfl Try.func118 (by kernel_rfl) rfl #[.agg #[.slice A0_0 l0_0.length c0_0]] rfl (by (try simp only [yiy, yjy, yky]); first | done | rfl | (simp only [yly, ymy]; rfl)) ?_; (with_reducible refine (ZO.calls k _ _ l0_0 t102 _ ?side1 ?side2 A3.out).mono ?_); (case side1 => repeat (first | exact (Kd.ze HR0_0.out HB.out) | (with_reducible refine Kd.zf ?_ _) | (with_reducible refine Kd.zg ?_ _) | (with_reducible refine Kd.zz ?_))); (case side2 => exact HC0_0.out); rintro e w21 ⟨rfl, hb⟩; refine ⟨_, rfl, ?_⟩; have n0_ := zA.mk (zP (g := gb101) (o := .cells #[.slice A0_0 l0_0.length c0_0] 30 (0, 0)) (by (with_reducible repeat (first | refine zI ?_ _ | refine zJ ?_ | refine zH ?_ _)); exact BK101.out) hb); have n1_ := zA.mk (zN (by repeat (first | (with_reducible first | exact HB.out | apply zC | apply zB | apply zD | refine zF ?_ GE101.out) | exact HB.out)) hb); clear BK101; clear HB; have BK101 := n0_; have HB := n1_; clear n0_ n1_; (try clear hb); (try clear hb2); (try clear hk); (try clear hi); have hcz22_0 : w21.cell? ⟨gb101, 0, none⟩ = some (.slice A0_0 l0_0.length c0_0) := (zK BK101.out 0).trans rfl; have hfz22_0 := zL BK101.out 0) | ((with_reducible refine zS (f := 119) rfl ?_); refine qB (some 13) rfl rfl Try.func119 (by kernel_rfl) rfl #[.agg #[.slice A0_0 l0_0.length c0_0], .slice A1 l1.length c1] rfl (by (try simp only [yiy, yjy, yky]); first | done | rfl | (simp only [yly, ymy]; rfl)) ?_; (with_reducible refine (ZE.calls k _ _ l0_0 _ _ l1 false _ ?side1 ?side2 ?side3 ?side4 A5.out).mono ?_); (case side1 => repeat (first | exact (Kd.ze HR0_0.out HB.out) | (with_reducible refine Kd.zf ?_ _) | (with_reducible refine Kd.zg ?_ _) | (with_reducible refine Kd.zz ?_))); (case side2 => exact HC0_0.out); (case side3 => repeat (first | exact (Kd.ze HR1.out HB.out) | (with_reducible refine Kd.zf ?_ _) | (with_reducible refine Kd.zg ?_ _) | (with_reducible refine Kd.zz ?_))); (case side4 => exact HC1.out); rintro e w23 ⟨rfl, hb⟩; refine ⟨_, rfl, ?_⟩; have n0_ := zA.mk (zP (g := gb101) (o := .cells #[.slice A0_0 l0_0.length c0_0] 30 (0, 0)) (by (with_reducible repeat (first | refine zI ?_ _ | refine zJ ?_ | refine zH ?_ _)); exact BK101.out) hb); have n1_ := zA.mk (zN (by repeat (first | (with_reducible first | exact HB.out | apply zC | apply zB | apply zD | refine zF ?_ GE101.out) | exact HB.out)) hb); clear BK101; clear HB; have BK101 := n0_; have HB := n1_; clear n0_ n1_; (try clear hb); (try clear hb2); (try clear hk); (try clear hi)))
  go_ret
  exact ⟨by first | rfl | (simp [zQ, zR] <;> rfl) | (simp [*, zQ, zR] <;> rfl), by repeat (first | (with_reducible first | exact HB.out | apply zC | apply zB | apply zD | refine zF ?_ GE101.out) | exact HB.out)⟩
 subst c6
 have H1 : ((qh.f k l1).bind fun t104 => (if t104 > 240 then (some 3) else (some 0))) = some r := by rw [if_pos rfl] at H; exact H
 clear H
 have H := H1
 clear H1
 replace H := ydy.mp H
 obtain ⟨t104, A70, H⟩ := H
 replace H : (if t104 > 240 then (some 3) else (some 0)) = some r := H
 have A7 := zA.mk A70
 clear A70
 by_cases c8 : t104 > 240
 next =>
  rw [if_pos c8] at H
  have c8b0 : decide (240 < t104) = true := ygy c8
  clear c8
  obtain rfl := yey H
  go_enter Try.func70, Try.ntmps70
  go_wp2_with (first | ((with_reducible refine zd (N := 2) rfl ?_); refine zb ?hg (N := 2) ?hd (cs := #[.slice A0_0 l0_0.length c0_0]) (t := 30) ?hr ?_; (case hd => rfl); (case hg => rfl); (case hr => first | (go_simp; done) | (go_simp; rfl)); intro gb101 hg w9 hbox hb; have n0_ := zA.mk (zN (by repeat (first | (with_reducible first | exact HB.out | apply zC | apply zB | apply zD) | exact HB.out)) hb); have n1_ := zA.mk (hbox); have n2_ := zA.mk ((by rw [hg]; exact (zO (by repeat (first | (with_reducible first | exact HB.out | apply zC | apply zB | apply zD) | exact HB.out))) : w.heap.size ≤ gb101)); have n3_ := zA.mk ((by rw [hg]; exact (zO (by repeat (first | (with_reducible first | exact HB.out | apply zC | apply zB | apply zD) | exact HB.out))) : w.heap.size ≤ gb101)); clear HB; have HB := n0_; have BK101 := n1_; have GW101 := n2_; have GE101 := n3_; clear n0_ n1_ n2_ n3_; clear hb hbox hg; have hcz10_0 : w9.cell? ⟨gb101, 0, none⟩ = some (.slice A0_0 l0_0.length c0_0) := (zK BK101.out 0).trans rfl; have hfz10_0 := zL BK101.out 0) | ((with_reducible refine zS (f := 118) rfl ?_); refine qB (some 7) rfl rfl Try.func118 (by kernel_rfl) rfl #[.agg #[.slice A0_0 l0_0.length c0_0]] rfl (by (try simp only [yiy, yjy, yky]); first | done | rfl | (simp only [yly, ymy]; rfl)) ?_; (with_reducible refine (ZO.calls k _ _ l0_0 t102 _ ?side1 ?side2 A3.out).mono ?_); (case side1 => repeat (first | exact (Kd.ze HR0_0.out HB.out) | (with_reducible refine Kd.zf ?_ _) | (with_reducible refine Kd.zg ?_ _) | (with_reducible refine Kd.zz ?_))); (case side2 => exact HC0_0.out); rintro e w11 ⟨rfl, hb⟩; refine ⟨_, rfl, ?_⟩; have n0_ := zA.mk (zP (g := gb101) (o := .cells #[.slice A0_0 l0_0.length c0_0] 30 (0, 0)) (by (with_reducible repeat (first | refine zI ?_ _ | refine zJ ?_ | refine zH ?_ _)); exact BK101.out) hb); have n1_ := zA.mk (zN (by repeat (first | (with_reducible first | exact HB.out | apply zC | apply zB | apply zD | refine zF ?_ GE101.out) | exact HB.out)) hb); clear BK101; clear HB; have BK101 := n0_; have HB := n1_; clear n0_ n1_; (try clear hb); (try clear hb2); (try clear hk); (try clear hi); have hcz12_0 : w11.cell? ⟨gb101, 0, none⟩ = some (.slice A0_0 l0_0.length c0_0) := (zK BK101.out 0).trans rfl; have hfz12_0 := zL BK101.out 0) | ((with_reducible refine zS (f := 119) rfl ?_); refine qB (some 13) rfl rfl Try.func119 (by kernel_rfl) rfl #[.agg #[.slice A0_0 l0_0.length c0_0], .slice A1 l1.length c1] rfl (by (try simp only [yiy, yjy, yky]); first | done | rfl | (simp only [yly, ymy]; rfl)) ?_; (with_reducible refine (ZE.calls k _ _ l0_0 _ _ l1 true _ ?side1 ?side2 ?side3 ?side4 A5.out).mono ?_); (case side1 => repeat (first | exact (Kd.ze HR0_0.out HB.out) | (with_reducible refine Kd.zf ?_ _) | (with_reducible refine Kd.zg ?_ _) | (with_reducible refine Kd.zz ?_))); (case side2 => exact HC0_0.out); (case side3 => repeat (first | exact (Kd.ze HR1.out HB.out) | (with_reducible refine Kd.zf ?_ _) | (with_reducible refine Kd.zg ?_ _) | (with_reducible refine Kd.zz ?_))); (case side4 => exact HC1.out); rintro e w13 ⟨rfl, hb⟩; refine ⟨_, rfl, ?_⟩; have n0_ := zA.mk (zP (g := gb101) (o := .cells #[.slice A0_0 l0_0.length c0_0] 30 (0, 0)) (by (with_reducible repeat (first | refine zI ?_ _ | refine zJ ?_ | refine zH ?_ _)); exact BK101.out) hb); have n1_ := zA.mk (zN (by repeat (first | (with_reducible first | exact HB.out | apply zC | apply zB | apply zD | refine zF ?_ GE101.out) | exact HB.out)) hb); clear BK101; clear HB; have BK101 := n0_; have HB := n1_; clear n0_ n1_; (try clear hb); (try clear hb2); (try clear hk); (try clear hi)) | ((with_reducible refine zS (f := 120) rfl ?_); refine qB (some 16) rfl rfl Try.func120 (by kernel_rfl) rfl #[.slice A1 l1.length c1] rfl (by (try simp only [yiy, yjy, yky]); first | done | rfl | (simp only [yly, ymy]; rfl)) ?_; (with_reducible refine (qh.calls k _ _ l1 t104 _ ?side1 ?side2 A7.out).mono ?_); (case side1 => repeat (first | exact (Kd.ze HR1.out HB.out) | (with_reducible refine Kd.zf ?_ _) | (with_reducible refine Kd.zg ?_ _) | (with_reducible refine Kd.zz ?_))); (case side2 => exact HC1.out); rintro e w' ⟨rfl, ⟨nd, rfl⟩⟩; refine ⟨_, rfl, ?_⟩))
  go_ret
  exact ⟨by first | rfl | (simp [zQ, zR] <;> rfl) | (simp [*, zQ, zR] <;> rfl), by repeat (first | (with_reducible first | exact HB.out | apply zC | apply zB | apply zD | refine zF ?_ GE101.out) | exact HB.out)⟩
 next =>
  rw [if_neg c8] at H
  have c8b0 : decide (240 < t104) = false := yhy c8
  clear c8
  obtain rfl := yey H
  go_enter Try.func70, Try.ntmps70
  go_wp2_with (first | ((with_reducible refine zd (N := 2) rfl ?_); refine zb ?hg (N := 2) ?hd (cs := #[.slice A0_0 l0_0.length c0_0]) (t := 30) ?hr ?_; (case hd => rfl); (case hg => rfl); (case hr => first | (go_simp; done) | (go_simp; rfl)); intro gb101 hg w14 hbox hb; have n0_ := zA.mk (zN (by repeat (first | (with_reducible first | exact HB.out | apply zC | apply zB | apply zD) | exact HB.out)) hb); have n1_ := zA.mk (hbox); have n2_ := zA.mk ((by rw [hg]; exact (zO (by repeat (first | (with_reducible first | exact HB.out | apply zC | apply zB | apply zD) | exact HB.out))) : w.heap.size ≤ gb101)); have n3_ := zA.mk ((by rw [hg]; exact (zO (by repeat (first | (with_reducible first | exact HB.out | apply zC | apply zB | apply zD) | exact HB.out))) : w.heap.size ≤ gb101)); clear HB; have HB := n0_; have BK101 := n1_; have GW101 := n2_; have GE101 := n3_; clear n0_ n1_ n2_ n3_; clear hb hbox hg; have hcz15_0 : w14.cell? ⟨gb101, 0, none⟩ = some (.slice A0_0 l0_0.length c0_0) := (zK BK101.out 0).trans rfl; have hfz15_0 := zL BK101.out 0) | ((with_reducible refine zS (f := 118) rfl ?_); refine qB (some 7) rfl rfl Try.func118 (by kernel_rfl) rfl #[.agg #[.slice A0_0 l0_0.length c0_0]] rfl (by (try simp only [yiy, yjy, yky]); first | done | rfl | (simp only [yly, ymy]; rfl)) ?_; (with_reducible refine (ZO.calls k _ _ l0_0 t102 _ ?side1 ?side2 A3.out).mono ?_); (case side1 => repeat (first | exact (Kd.ze HR0_0.out HB.out) | (with_reducible refine Kd.zf ?_ _) | (with_reducible refine Kd.zg ?_ _) | (with_reducible refine Kd.zz ?_))); (case side2 => exact HC0_0.out); rintro e w16 ⟨rfl, hb⟩; refine ⟨_, rfl, ?_⟩; have n0_ := zA.mk (zP (g := gb101) (o := .cells #[.slice A0_0 l0_0.length c0_0] 30 (0, 0)) (by (with_reducible repeat (first | refine zI ?_ _ | refine zJ ?_ | refine zH ?_ _)); exact BK101.out) hb); have n1_ := zA.mk (zN (by repeat (first | (with_reducible first | exact HB.out | apply zC | apply zB | apply zD | refine zF ?_ GE101.out) | exact HB.out)) hb); clear BK101; clear HB; have BK101 := n0_; have HB := n1_; clear n0_ n1_; (try clear hb); (try clear hb2); (try clear hk); (try clear hi); have hcz17_0 : w16.cell? ⟨gb101, 0, none⟩ = some (.slice A0_0 l0_0.length c0_0) := (zK BK101.out 0).trans rfl; have hfz17_0 := zL BK101.out 0) | ((with_reducible refine zS (f := 119) rfl ?_); refine qB (some 13) rfl rfl Try.func119 (by kernel_rfl) rfl #[.agg #[.slice A0_0 l0_0.length c0_0], .slice A1 l1.length c1] rfl (by (try simp only [yiy, yjy, yky]); first | done | rfl | (simp only [yly, ymy]; rfl)) ?_; (with_reducible refine (ZE.calls k _ _ l0_0 _ _ l1 true _ ?side1 ?side2 ?side3 ?side4 A5.out).mono ?_); (case side1 => repeat (first | exact (Kd.ze HR0_0.out HB.out) | (with_reducible refine Kd.zf ?_ _) | (with_reducible refine Kd.zg ?_ _) | (with_reducible refine Kd.zz ?_))); (case side2 => exact HC0_0.out); (case side3 => repeat (first | exact (Kd.ze HR1.out HB.out) | (with_reducible refine Kd.zf ?_ _) | (with_reducible refine Kd.zg ?_ _) | (with_reducible refine Kd.zz ?_))); (case side4 => exact HC1.out); rintro e w18 ⟨rfl, hb⟩; refine ⟨_, rfl, ?_⟩; have n0_ := zA.mk (zP (g := gb101) (o := .cells #[.slice A0_0 l0_0.length c0_0] 30 (0, 0)) (by (with_reducible repeat (first | refine zI ?_ _ | refine zJ ?_ | refine zH ?_ _)); exact BK101.out) hb); have n1_ := zA.mk (zN (by repeat (first | (with_reducible first | exact HB.out | apply zC | apply zB | apply zD | refine zF ?_ GE101.out) | exact HB.out)) hb); clear BK101; clear HB; have BK101 := n0_; have HB := n1_; clear n0_ n1_; (try clear hb); (try clear hb2); (try clear hk); (try clear hi)) | ((with_reducible refine zS (f := 120) rfl ?_); refine qB (some 16) rfl rfl Try.func120 (by kernel_rfl) rfl #[.slice A1 l1.length c1] rfl (by (try simp only [yiy, yjy, yky]); first | done | rfl | (simp only [yly, ymy]; rfl)) ?_; (with_reducible refine (qh.calls k _ _ l1 t104 _ ?side1 ?side2 A7.out).mono ?_); (case side1 => repeat (first | exact (Kd.ze HR1.out HB.out) | (with_reducible refine Kd.zf ?_ _) | (with_reducible refine Kd.zg ?_ _) | (with_reducible refine Kd.zz ?_))); (case side2 => exact HC1.out); rintro e w' ⟨rfl, ⟨nd, rfl⟩⟩; refine ⟨_, rfl, ?_⟩))
  go_ret
  exact ⟨by first | rfl | (simp [zQ, zR] <;> rfl) | (simp [*, zQ, zR] <;> rfl), by repeat (first | (with_reducible first | exact HB.out | apply zC | apply zB | apply zD | refine zF ?_ GE101.out) | exact HB.out)⟩
mutual
def qH.l0 : Nat → List Int → List (qk) → Int → Option ((List (qk)))
  | 0, _, _, _ => none
  | k + 1, x0, x3, x4 => if x4 < (x0.length : Int) then (qH.l1 k x0 x3 x4 0) else (some x3)
def qH.l1 : Nat → List Int → List (qk) → Int → Int → Option ((List (qk)))
  | 0, _, _, _, _ => none
  | k + 1, x0, x3, x4, x5 => if 0 ≤ x4 then (if x4 < (x0.length : Int) then (if x5 < (rd x0 x4) then (if x3.length < 5864062014805 then (qH.l1 k x0 (x3 ++ [(⟨wrap64 (Int.tdiv x4 7), Int.tmod x4 7, x5⟩ : qk)]) x4 (wrap64 (x5 + 1))) else (none)) else (qH.l0 k x0 x3 (wrap64 (x4 + 1)))) else (none)) else (none)
end
def qH.f (k : Nat) (l0 : List Int) : Option ((List (qk))) := qH.l0 k l0 (([] : List (qk))) 0
set_option maxHeartbeats 8000000 in
set_option maxRecDepth 100000 in
theorem qH.calls (k : Nat) (A0 : Option Addr) (c0 : Nat) (l0 : List Int) (r : List (qk)) (w : World) (hr0 : Kd.C (Kd.int .i64) w A0 l0.length l0) (hc0 : l0.length ≤ c0) (h : qH.f k l0 = some r) :
    Calls Try.prog 71 #[.slice A0 l0.length c0] w fun e w' => ∃ v0_ : Value, e = .returned (v0_) ∧ Kd.R Zv 89 w' w.heap.size (fun _ => True) v0_ r ∧ Below w.heap.size w w' := by
  have hu89 := Try.underlying89
  have HR0 := zA.mk hr0
  have HC0 := zA.mk hc0
  clear hr0 hc0
  have HB := zA.mk (yry w.heap.size w)
  have H : (qH.l0 k l0 (([] : List (qk))) 0) = some r := h
  clear h
  obtain ⟨y101, hy101⟩ : ∃ y_ : List (qk), y_ = (([] : List (qk))) := ⟨_, rfl⟩
  replace H : (qH.l0 k l0 y101 0) = some r := by first | (rw [hy101]; with_reducible exact H) | (have H2_ := (yfy _ _).symm.trans H; rw [hy101]; with_reducible exact H2_) | (have H2_ := (yfy _ _).symm.trans H; with_reducible exact H2_) | with_reducible exact H | (rw [hy101]; exact H) | exact H
  have Ny101 := zA.mk hy101
  clear hy101
  have H' := zA.mk H
  clear H
  go_enter Try.func71, Try.ntmps71
  go_wp2_with (first | ((with_reducible refine zd (N := 6) rfl ?_); refine Kd.zCi Zv _ 89 ?hg (N := 6) ?hd (xs := ([] : List (qk))) (inner := []) (ok := fun _ => True) (okp := fun _ => True) ?hr ?hp (fun _ hk => hk) trivial (yry _ _) (yqy _) (by simp) ?_; (case hd => rfl); (case hg => rfl); (case hr => first | (go_simp; done) | (go_simp; rfl)); (case hp => exact (QS.none _ _)); intro v102 w2 ho3 hb hg_ hnew_; clear hg_ hnew_; (first | rw [← Ny101.out] at ho3 | (simp only [Int.reduceToNat] at ho3; rw [← Ny101.out] at ho3)); have n0_ := zA.mk (Kd.Zb ho3 (zO (by repeat (first | (with_reducible first | exact HB.out | apply zC | apply zB | apply zD) | exact HB.out)))); have n1_ := zA.mk (zN (by repeat (first | (with_reducible first | exact HB.out | apply zC | apply zB | apply zD) | exact HB.out)) hb); clear HB; have HO103 := n0_; have HB := n1_; clear n0_ n1_; clear hb ho3))
  go_loopg [3, 4] k (fun kq v3 v4 w' => ∃ (x3_1 : List (qk)) (x4_1 : Int), v4 = .int .i64 x4_1 ∧ zA (qH.l0 kq l0 x3_1 x4_1 = some r) ∧ zA (kq ≤ k) ∧ zA (Kd.R Zv 89 w' w.heap.size (fun _ => True) v3 x3_1) ∧ zA (Below w.heap.size w w'))
  case atStart => exact ⟨(y101), (0), (by first | rfl | (simp; done) | (simp [*]; done)), H', ⟨yqy _⟩, ⟨by (with_reducible repeat (first | apply Kd.zm | apply Kd.zk | apply Kd.zu)); exact HO103.out⟩, ⟨by repeat (first | (with_reducible first | exact HB.out | apply zC | apply zB | apply zD) | exact HB.out)⟩⟩
  case round =>
    clear H'
    try clear p2
    obtain ⟨x3_1, x4_1, rfl, HA, HK1, HO_3, HB⟩ := hrel
    cases gk with
    | zero => exact absurd HA.out (by simp [qH.l0])
    | succ k1 =>
      have H := HA.out
      clear HA
      simp only [qH.l0] at H
      by_cases c4 : x4_1 < (l0.length : Int)
      · rw [if_pos c4] at H
        have c4b0 : decide (x4_1 < (l0.length : Int)) = true := ygy c4
        clear c4
        have H' := zA.mk H
        clear H
        go_wp2
        go_loopg [3, 5] k1 (fun kq v3 v5 w' => ∃ (x3_2 : List (qk)) (x5_2 : Int), v5 = .int .i64 x5_2 ∧ zA (qH.l1 kq l0 x3_2 x4_1 x5_2 = some r) ∧ zA (kq ≤ k1) ∧ zA (Kd.R Zv 89 w' w.heap.size (fun _ => True) v3 x3_2) ∧ zA (Below w.heap.size w w'))
        case atStart => exact ⟨(x3_1), (0), (by first | rfl | (simp; done) | (simp [*]; done)), H', ⟨yqy _⟩, ⟨by (with_reducible repeat (first | apply Kd.zm | apply Kd.zk | apply Kd.zu)); exact HO_3.out⟩, ⟨by repeat (first | (with_reducible first | exact HB.out | apply zC | apply zB | apply zD) | exact HB.out)⟩⟩
        case round =>
          clear H'
          try clear p2
          try clear c4
          try clear c4b0
          try clear p2
          obtain ⟨x3_2, x5_2, rfl, HA, HK2, HO_3, HB⟩ := hrel
          cases gk with
          | zero => exact absurd HA.out (by simp [qH.l1])
          | succ k2 =>
            have H := HA.out
            clear HA
            simp only [qH.l1] at H
            by_cases c5 : 0 ≤ x4_1
            · rw [if_pos c5] at H
              have c5b0 : decide (0 ≤ x4_1) = true := ygy c5
              clear c5
              by_cases c6 : x4_1 < (l0.length : Int)
              · rw [if_pos c6] at H
                have c6b0 : decide (x4_1 < (l0.length : Int)) = true := ygy c6
                clear c6
                by_cases c7 : x5_2 < (rd l0 x4_1)
                · rw [if_pos c7] at H
                  have c7b0 : decide (x5_2 < (rd l0 x4_1)) = true := ygy c7
                  clear c7
                  by_cases c8 : x3_2.length < 5864062014805
                  · rw [if_pos c8] at H
                    have LMc8 := zA.mk c8
                    clear c8
                    obtain ⟨y105, hy105⟩ : ∃ y_ : List (qk), y_ = (x3_2 ++ [(⟨wrap64 (Int.tdiv x4_1 7), Int.tmod x4_1 7, x5_2⟩ : qk)]) := ⟨_, rfl⟩
                    replace H : (qH.l1 k2 l0 y105 x4_1 (wrap64 (x5_2 + 1))) = some r := by first | (rw [hy105]; with_reducible exact H) | (have H2_ := (yfy _ _).symm.trans H; rw [hy105]; with_reducible exact H2_) | (have H2_ := (yfy _ _).symm.trans H; with_reducible exact H2_) | with_reducible exact H | (rw [hy105]; exact H) | exact H
                    have Ny105 := zA.mk hy105
                    clear hy105
                    have H' := zA.mk H
                    clear H
                    have p104 : 0 ≤ (x4_1 : Int) := of_decide_eq_true (by first | (with_reducible assumption) | assumption)
                    have q104 : x4_1 < (l0.length : Int) := of_decide_eq_true (by first | (with_reducible assumption) | assumption)
                    obtain ⟨ad104, e104, hx104_0⟩ := Kd.ZI HR0.out x4_1 p104 q104
                    cases e104
                    replace hx104_0 := (HB.out.cell (ypy w _ hx104_0)).trans hx104_0
                    replace p104 := eq_true p104
                    replace q104 := eq_true q104
                    go_wp2_with (first | ((with_reducible refine Ze (b := .append) (xs := #[.tmp 21, .tmp 28]) rfl ?_); at_builtin; refine Kd.JO Zv (w0 := w) w.heap.size rfl (.tmp 21) (.tmp 28) 45 89 (.agg #[(.int .i64 0), (.int .i64 0), (.int .i64 0)]) 24 rfl Try.underlying45 zG2 rfl (by decide) (by omega) u3 x3_2 (⟨wrap64 (Int.tdiv x4_1 7), Int.tmod x4_1 7, x5_2⟩ : qk) [.int .i64 (wrap64 (Int.tdiv x4_1 7)), .int .i64 (Int.tmod x4_1 7), .int .i64 x5_2] (fun _ => True) (fun _ => False) rfl rfl ?aP (fun _ hk => hk.elim) ?aF ?aO ?aB ?aS ?aL ?_; (case aP => exact Jk _ _ _ (⟨wrap64 (Int.tdiv x4_1 7), Int.tmod x4_1 7, x5_2⟩ : qk)); (case aB => exact (by repeat (first | (with_reducible first | exact HB.out | apply zC | apply zB | apply zD) | exact HB.out))); (case aF => exact (fun _ _ => trivial)); (case aO => exact (by (with_reducible repeat (first | apply Kd.zm | apply Kd.zk | apply Kd.zu)); exact HO_3.out)); (case aS => exact (zO (by repeat (first | (with_reducible first | exact HB.out | apply zC | apply zB | apply zD) | exact HB.out)))); (case aL => have := LMc8.out; omega); intro v106 w9 ho hb hg hat; rw [← Ny105.out] at ho; have n0_ := zA.mk (hb); have n1_ := zA.mk (ho); clear HB; clear HO_3; have HB := n0_; have HO107 := n1_; clear n0_ n1_; clear ho hb hg hat))
                    go_roundg k2
                    case measure => have := HK1.out; have := HK2.out; omega
                    case rel => exact ⟨(y105), (wrap64 (x5_2 + 1)), (by first | rfl | (simp; done) | (simp [*]; done)), H', ⟨by have := HK1.out; have := HK2.out; omega⟩, ⟨by (with_reducible repeat (first | apply Kd.zm | apply Kd.zk | apply Kd.zu)); exact HO107.out⟩, ⟨by repeat (first | (with_reducible first | exact HB.out | apply zC | apply zB | apply zD) | exact HB.out)⟩⟩
                  · rw [if_neg c8] at H
                    exact absurd H (by simp)
                · rw [if_neg c7] at H
                  have c7b0 : decide (x5_2 < (rd l0 x4_1)) = false := yhy c7
                  clear c7
                  have H' := zA.mk H
                  clear H
                  have p104 : 0 ≤ (x4_1 : Int) := of_decide_eq_true (by first | (with_reducible assumption) | assumption)
                  have q104 : x4_1 < (l0.length : Int) := of_decide_eq_true (by first | (with_reducible assumption) | assumption)
                  obtain ⟨ad104, e104, hx104_0⟩ := Kd.ZI HR0.out x4_1 p104 q104
                  cases e104
                  replace hx104_0 := (HB.out.cell (ypy w _ hx104_0)).trans hx104_0
                  replace p104 := eq_true p104
                  replace q104 := eq_true q104
                  go_wp2
                  go_roundg k2
                  case measure => have := HK1.out; have := HK2.out; omega
                  case rel => exact ⟨(x3_2), (wrap64 (x4_1 + 1)), (by first | rfl | (simp; done) | (simp [*]; done)), H', ⟨by have := HK1.out; have := HK2.out; omega⟩, ⟨by (with_reducible repeat (first | apply Kd.zm | apply Kd.zk | apply Kd.zu)); exact HO_3.out⟩, ⟨by repeat (first | (with_reducible first | exact HB.out | apply zC | apply zB | apply zD) | exact HB.out)⟩⟩
              · rw [if_neg c6] at H
                exact absurd H (by simp)
            · rw [if_neg c5] at H
              exact absurd H (by simp)
      · rw [if_neg c4] at H
        have c4b0 : decide (x4_1 < (l0.length : Int)) = false := yhy c4
        clear c4
        obtain rfl := yey H
        go_wp2
        go_ret
        exact ⟨_, by first | rfl | (simp [zQ, zR] <;> rfl) | (simp [*, zQ, zR] <;> rfl), by (with_reducible repeat (first | apply Kd.zm | apply Kd.zk | apply Kd.zu)); exact HO_3.out, by repeat (first | (with_reducible first | exact HB.out | apply zC | apply zB | apply zD) | exact HB.out)⟩
def Qh.f (k : Nat) (l0_0 : List (List (zq))) (l1 : List Int) : Option ((List (qk)) × Int) := (Zz.f k l0_0 l1).bind fun t102 => (if t102 = 0 then ((qH.f k l1).bind fun t103 => (some (t103, 0))) else (some (([] : List (qk)), t102)))
set_option maxHeartbeats 8000000 in
set_option maxRecDepth 100000 in
theorem Qh.calls (k : Nat) (A0_0 : Option Addr) (c0_0 : Nat) (l0_0 : List (List (zq))) (A1 : Option Addr) (c1 : Nat) (l1 : List Int) (r1 : List (qk)) (r2 : Int) (w : World) (hr0_0 : Kd.C (Kd.slice 59 qx) w A0_0 l0_0.length l0_0) (hc0_0 : l0_0.length ≤ c0_0) (hr1 : Kd.C (Kd.int .i64) w A1 l1.length l1) (hc1 : l1.length ≤ c1) (h : Qh.f k l0_0 l1 = some (r1, r2)) :
    Calls Try.prog 24 #[.agg #[.slice A0_0 l0_0.length c0_0], .slice A1 l1.length c1] w fun e w' => ∃ v0_ : Value, e = .returned (.tuple #[v0_, .int .i64 r2]) ∧ Kd.R Zv 89 w' w.heap.size (fun _ => True) v0_ r1 ∧ Below w.heap.size w w' := by
  have hu30 := Try.underlying30
  have HR0_0 := zA.mk hr0_0
  have HC0_0 := zA.mk hc0_0
  clear hr0_0 hc0_0
  have HR1 := zA.mk hr1
  have HC1 := zA.mk hc1
  clear hr1 hc1
  have HB := zA.mk (yry w.heap.size w)
  have H : ((Zz.f k l0_0 l1).bind fun t102 => (if t102 = 0 then ((qH.f k l1).bind fun t103 => (some (t103, 0))) else (some (([] : List (qk)), t102)))) = some (r1, r2) := h
  clear h
  replace H := ydy.mp H
  obtain ⟨t102, A30, H⟩ := H
  replace H : (if t102 = 0 then ((qH.f k l1).bind fun t103 => (some (t103, 0))) else (some (([] : List (qk)), t102))) = some (r1, r2) := H
  have A3 := zA.mk A30
  clear A30
  by_cases c4 : t102 = 0
  · rw [if_pos c4] at H
    have c4b0 : (t102 == 0) = true := beq_iff_eq.mpr c4
    have c4b1 : (t102 != 0) = false := bne_eq_false_iff_eq.mpr c4
    clear c4
    replace H := ydy.mp H
    obtain ⟨t103, A50, H⟩ := H
    replace H : (some (t103, 0)) = some (r1, r2) := H
    have A5 := zA.mk A50
    clear A50
    simp only [Option.some.injEq, Prod.mk.injEq] at H
    obtain ⟨rfl, rfl⟩ := H
    go_enter Try.func24, Try.ntmps24
    go_wp2_with (first | ((with_reducible refine zd (N := 2) rfl ?_); refine zb ?hg (N := 2) ?hd (cs := #[.slice A0_0 l0_0.length c0_0]) (t := 30) ?hr ?_; (case hd => rfl); (case hg => rfl); (case hr => first | (go_simp; done) | (go_simp; rfl)); intro gb101 hg w6 hbox hb; have n0_ := zA.mk (zN (by repeat (first | (with_reducible first | exact HB.out | apply zC | apply zB | apply zD) | exact HB.out)) hb); have n1_ := zA.mk (hbox); have n2_ := zA.mk ((by rw [hg]; exact (zO (by repeat (first | (with_reducible first | exact HB.out | apply zC | apply zB | apply zD) | exact HB.out))) : w.heap.size ≤ gb101)); have n3_ := zA.mk ((by rw [hg]; exact (zO (by repeat (first | (with_reducible first | exact HB.out | apply zC | apply zB | apply zD) | exact HB.out))) : w.heap.size ≤ gb101)); clear HB; have HB := n0_; have BK101 := n1_; have GW101 := n2_; have GE101 := n3_; clear n0_ n1_ n2_ n3_; clear hb hbox hg; have hcz7_0 : w6.cell? ⟨gb101, 0, none⟩ = some (.slice A0_0 l0_0.length c0_0) := (zK BK101.out 0).trans rfl; have hfz7_0 := zL BK101.out 0) | ((with_reducible refine zS (f := 70) rfl ?_); refine qB (some 9) rfl rfl Try.func70 (by kernel_rfl) rfl #[.agg #[.slice A0_0 l0_0.length c0_0], .slice A1 l1.length c1] rfl (by (try simp only [yiy, yjy, yky]); first | done | rfl | (simp only [yly, ymy]; rfl)) ?_; (with_reducible refine (Zz.calls k _ _ l0_0 _ _ l1 t102 _ ?side1 ?side2 ?side3 ?side4 A3.out).mono ?_); (case side1 => repeat (first | exact (Kd.ze HR0_0.out HB.out) | (with_reducible refine Kd.zf ?_ _) | (with_reducible refine Kd.zg ?_ _) | (with_reducible refine Kd.zz ?_))); (case side2 => exact HC0_0.out); (case side3 => repeat (first | exact (Kd.ze HR1.out HB.out) | (with_reducible refine Kd.zf ?_ _) | (with_reducible refine Kd.zg ?_ _) | (with_reducible refine Kd.zz ?_))); (case side4 => exact HC1.out); rintro e w8 ⟨rfl, hb⟩; refine ⟨_, rfl, ?_⟩; have n0_ := zA.mk (zP (g := gb101) (o := .cells #[.slice A0_0 l0_0.length c0_0] 30 (0, 0)) (by (with_reducible repeat (first | refine zI ?_ _ | refine zJ ?_ | refine zH ?_ _)); exact BK101.out) hb); have n1_ := zA.mk (zN (by repeat (first | (with_reducible first | exact HB.out | apply zC | apply zB | apply zD | refine zF ?_ GE101.out) | exact HB.out)) hb); clear BK101; clear HB; have BK101 := n0_; have HB := n1_; clear n0_ n1_; (try clear hb); (try clear hb2); (try clear hk); (try clear hi)) | ((with_reducible refine zS (f := 71) rfl ?_); refine qB (some 14) rfl rfl Try.func71 (by kernel_rfl) rfl #[.slice A1 l1.length c1] rfl (by (try simp only [yiy, yjy, yky]); first | done | rfl | (simp only [yly, ymy]; rfl)) ?_; (with_reducible refine (qH.calls k _ _ l1 t103 _ ?side1 ?side2 A5.out).mono ?_); (case side1 => repeat (first | exact (Kd.ze HR1.out HB.out) | (with_reducible refine Kd.zf ?_ _) | (with_reducible refine Kd.zg ?_ _) | (with_reducible refine Kd.zz ?_))); (case side2 => exact HC1.out); rintro e w9 ⟨v104, rfl, ho0, hb⟩; refine ⟨_, rfl, ?_⟩; have n0_ := zA.mk (Kd.Zb ho0 (zO (by repeat (first | (with_reducible first | exact HB.out | apply zC | apply zB | apply zD | refine zF ?_ GE101.out) | exact HB.out)))); have n1_ := zA.mk (zP (g := gb101) (o := .cells #[.slice A0_0 l0_0.length c0_0] 30 (0, 0)) (by (with_reducible repeat (first | refine zI ?_ _ | refine zJ ?_ | refine zH ?_ _)); exact BK101.out) hb); have n2_ := zA.mk (zN (by repeat (first | (with_reducible first | exact HB.out | apply zC | apply zB | apply zD | refine zF ?_ GE101.out) | exact HB.out)) hb); clear BK101; clear HB; have HO105 := n0_; have BK101 := n1_; have HB := n2_; clear n0_ n1_ n2_; (try clear hb); (try clear hb2); (try clear hk); (try clear hi); (try clear ho0)))
    go_ret2
    exact ⟨_, by first | rfl | (simp [zQ, zR] <;> rfl) | (simp [*, zQ, zR] <;> rfl), by (with_reducible repeat (first | apply Kd.zm | apply Kd.zk | apply Kd.zu)); exact HO105.out, by repeat (first | (with_reducible first | exact HB.out | apply zC | apply zB | apply zD | refine zF ?_ GE101.out) | exact HB.out)⟩
  · rw [if_neg c4] at H
    have c4b0 : (t102 == 0) = false := beq_eq_false_iff_ne.mpr c4
    have c4b1 : (t102 != 0) = true := bne_iff_ne.mpr c4
    simp only [Option.some.injEq, Prod.mk.injEq] at H
    obtain ⟨rfl, rfl⟩ := H
    go_enter Try.func24, Try.ntmps24
    go_wp2_with (first | ((with_reducible refine zd (N := 2) rfl ?_); refine zb ?hg (N := 2) ?hd (cs := #[.slice A0_0 l0_0.length c0_0]) (t := 30) ?hr ?_; (case hd => rfl); (case hg => rfl); (case hr => first | (go_simp; done) | (go_simp; rfl)); intro gb101 hg w10 hbox hb; have n0_ := zA.mk (zN (by repeat (first | (with_reducible first | exact HB.out | apply zC | apply zB | apply zD) | exact HB.out)) hb); have n1_ := zA.mk (hbox); have n2_ := zA.mk ((by rw [hg]; exact (zO (by repeat (first | (with_reducible first | exact HB.out | apply zC | apply zB | apply zD) | exact HB.out))) : w.heap.size ≤ gb101)); have n3_ := zA.mk ((by rw [hg]; exact (zO (by repeat (first | (with_reducible first | exact HB.out | apply zC | apply zB | apply zD) | exact HB.out))) : w.heap.size ≤ gb101)); clear HB; have HB := n0_; have BK101 := n1_; have GW101 := n2_; have GE101 := n3_; clear n0_ n1_ n2_ n3_; clear hb hbox hg; have hcz11_0 : w10.cell? ⟨gb101, 0, none⟩ = some (.slice A0_0 l0_0.length c0_0) := (zK BK101.out 0).trans rfl; have hfz11_0 := zL BK101.out 0) | ((with_reducible refine zS (f := 70) rfl ?_); refine qB (some 9) rfl rfl Try.func70 (by kernel_rfl) rfl #[.agg #[.slice A0_0 l0_0.length c0_0], .slice A1 l1.length c1] rfl (by (try simp only [yiy, yjy, yky]); first | done | rfl | (simp only [yly, ymy]; rfl)) ?_; (with_reducible refine (Zz.calls k _ _ l0_0 _ _ l1 t102 _ ?side1 ?side2 ?side3 ?side4 A3.out).mono ?_); (case side1 => repeat (first | exact (Kd.ze HR0_0.out HB.out) | (with_reducible refine Kd.zf ?_ _) | (with_reducible refine Kd.zg ?_ _) | (with_reducible refine Kd.zz ?_))); (case side2 => exact HC0_0.out); (case side3 => repeat (first | exact (Kd.ze HR1.out HB.out) | (with_reducible refine Kd.zf ?_ _) | (with_reducible refine Kd.zg ?_ _) | (with_reducible refine Kd.zz ?_))); (case side4 => exact HC1.out); rintro e w12 ⟨rfl, hb⟩; refine ⟨_, rfl, ?_⟩; have n0_ := zA.mk (zP (g := gb101) (o := .cells #[.slice A0_0 l0_0.length c0_0] 30 (0, 0)) (by (with_reducible repeat (first | refine zI ?_ _ | refine zJ ?_ | refine zH ?_ _)); exact BK101.out) hb); have n1_ := zA.mk (zN (by repeat (first | (with_reducible first | exact HB.out | apply zC | apply zB | apply zD | refine zF ?_ GE101.out) | exact HB.out)) hb); clear BK101; clear HB; have BK101 := n0_; have HB := n1_; clear n0_ n1_; (try clear hb); (try clear hb2); (try clear hk); (try clear hi)))
    go_ret2
    exact ⟨_, by first | rfl | (simp [zQ, zR] <;> rfl) | (simp [*, zQ, zR] <;> rfl), by first | exact Kd.zAy _ _ _ _ _ | exact Kd.zGI _ _ _ _ _ | exact Kd.zGJ _ _ _ _ _ | exact Kd.zG9 _ _ _ _ _ | exact Kd.zGE _ _ _ _ _, by repeat (first | (with_reducible first | exact HB.out | apply zC | apply zB | apply zD | refine zF ?_ GE101.out) | exact HB.out)⟩
end Go.Proofs.Ytfnopcbicceeaaa.P
namespace Go.Proofs.Ytfnopcbicceeaaa.Lib
open Go.RowKit Go.Proofs.YtfnopcbicceeaaaW.PrintWords
set_option linter.unusedVariables false
section
variable {α : Type} {d : Kd α} {e b lo hi lo2 hi2 T : Nat} {w w' W : World} {v : Value} {xs ys : List α}
def ObS (d : Kd α) (e b : Nat) (w : World) (lo hi : Nat) (v : Value) (xs : List α) : Prop := hi ≤ w.heap.size ∧ Kd.S d e w b (fun k => lo ≤ k ∧ k < hi) v xs
def ObR (d : Kd α) (e b : Nat) (w : World) (lo hi : Nat) (v : Value) (xs : List α) : Prop := hi ≤ w.heap.size ∧ Kd.R d e w b (fun k => lo ≤ k ∧ k < hi) v xs
theorem size_set (w : World) (g i : Nat) (u : Value) : w.heap.size ≤ (w.setCell ⟨g, i, none⟩ u).heap.size := ((yry 0 w).setCell (Nat.zero_le _) u).size
theorem ObS.made (ho : Kd.S d e w' W.heap.size (fun _ => True) v xs) (hb : Below W.heap.size W w') (hT : T ≤ W.heap.size) (hB : b ≤ W.heap.size) : ∃ lo hi, (T ≤ lo ∧ lo ≤ hi) ∧ hi ≤ w'.heap.size ∧ ObS d e b w' lo hi v xs :=
  ⟨W.heap.size, w'.heap.size, ⟨hT, hb.size⟩, yqy _, yqy _, Kd.zA7 (Kd.Zj (Kd.zEt ho) (fun k hk => ⟨hk.2.1, hk.2.2.1⟩)) hB⟩
theorem ObR.made (ho : Kd.R d e w' W.heap.size (fun _ => True) v xs) (hb : Below W.heap.size W w') (hT : T ≤ W.heap.size) (hB : b ≤ W.heap.size) : ∃ lo hi, (T ≤ lo ∧ lo ≤ hi) ∧ hi ≤ w'.heap.size ∧ ObR d e b w' lo hi v xs :=
  ⟨W.heap.size, w'.heap.size, ⟨hT, hb.size⟩, yqy _, yqy _, Kd.Zb (Kd.qW (Kd.QO ho) (fun k hk => ⟨hk.2.1, hk.2.2.1⟩)) hB⟩
theorem ObS.below (h : ObS d e b w lo hi v xs) (hb : Below w.heap.size w w') : ObS d e b w' lo hi v xs := ⟨Nat.le_trans h.1 hb.size, Kd.QE h.2 hb⟩
theorem ObR.below (h : ObR d e b w lo hi v xs) (hb : Below w.heap.size w w') : ObR d e b w' lo hi v xs := ⟨Nat.le_trans h.1 hb.size, Kd.Zk h.2 hb⟩
theorem ObS.drew (h : ObS d e b w lo hi v xs) : ObS d e b w.drew lo hi v xs := ⟨h.1, Kd.ql h.2⟩
theorem ObR.drew (h : ObR d e b w lo hi v xs) : ObR d e b w.drew lo hi v xs := ⟨h.1, Kd.zu h.2⟩
theorem ObS.far {g i : Nat} (h : ObS d e b w lo hi v xs) (hg : g < lo ∨ hi ≤ g) (u : Value) : ObS d e b (w.setCell ⟨g, i, none⟩ u) lo hi v xs :=
  ⟨Nat.le_trans h.1 (size_set _ _ _ _), Kd.zB7 h.2 (fun k hk => by show k ≠ g; have := hk.1; have := hk.2; omega) u⟩
theorem ObR.far {g i : Nat} (h : ObR d e b w lo hi v xs) (hg : g < lo ∨ hi ≤ g) (u : Value) : ObR d e b (w.setCell ⟨g, i, none⟩ u) lo hi v xs :=
  ⟨Nat.le_trans h.1 (size_set _ _ _ _), Kd.zCg h.2 (fun k hk => by show k ≠ g; have := hk.1; have := hk.2; omega) u⟩
theorem ObS.kept (h : ObS d e b w lo hi v xs) (hk : Kept w w' (fun k => lo2 ≤ k ∧ k < hi2)) (hd : hi ≤ lo2 ∨ hi2 ≤ lo) : ObS d e b w' lo hi v xs :=
  ⟨Nat.le_trans h.1 hk.1, Kd.S_kept h.2 hk (fun k h1 h2 => by have := h1.1; have := h1.2; have := h2.1; have := h2.2; omega)⟩
theorem ObR.kept (h : ObR d e b w lo hi v xs) (hk : Kept w w' (fun k => lo2 ≤ k ∧ k < hi2)) (hd : hi ≤ lo2 ∨ hi2 ≤ lo) : ObR d e b w' lo hi v xs :=
  ⟨Nat.le_trans h.1 hk.1, Kd.R_kept h.2 hk (fun k h1 h2 => by have := h1.1; have := h1.2; have := h2.1; have := h2.2; omega)⟩
theorem ObS.slice (h : ObS d e b w lo hi v xs) : ∃ A c, v = .slice A xs.length c := Kd.JS h.2
theorem ObR.slice (h : ObR d e b w lo hi v xs) : ∃ A c, v = .slice A xs.length c := Kd.ZP h.2
theorem ObS.reads {A : Option Addr} {n c : Nat} (h : ObS d e b w lo hi (.slice A n c) xs) : n = xs.length ∧ n ≤ c ∧ d.C w A xs.length xs := Kd.QK h.2
theorem ObR.reads {A : Option Addr} {n c : Nat} (h : ObR d e b w lo hi (.slice A n c) xs) : n = xs.length ∧ n ≤ c ∧ d.C w A xs.length xs := Kd.zv h.2
theorem ObS.room {A : Option Addr} {n c : Nat} (h : ObS d e b w lo hi (.slice A n c) xs) : xs.length ≤ c := by have := h.reads; omega
theorem ObR.room {A : Option Addr} {n c : Nat} (h : ObR d e b w lo hi (.slice A n c) xs) : xs.length ≤ c := by have := h.reads; omega
theorem ObR.marked {ok' : Nat → Prop} (h : ObR d e b w lo hi v xs) (hE : d.E = []) (hy : Kd.R d e w' b ok' v ys) (hs : w.heap.size ≤ w'.heap.size) : ObR d e b w' lo hi v ys :=
  ⟨Nat.le_trans h.1 hs, Kd.zG1 hE hy (fun k e => h.2.1 k e)⟩
theorem ObS.marked (h : ObS d e b w lo hi v xs) (hy : Kd.S d e w' b (fun k => lo ≤ k ∧ k < hi) v ys) (hs : w.heap.size ≤ w'.heap.size) : ObS d e b w' lo hi v ys := ⟨Nat.le_trans h.1 hs, hy⟩
theorem ObR.range (h : ObR d e b w lo hi v xs) (hk : Kept w w' (fun k_ => some k_ = v.ownBlock)) : Kept w w' (fun k => lo ≤ k ∧ k < hi) := hk.mono (fun k e => h.2.1 k e.symm)
theorem ObS.row (h : ObS d e b w lo hi v xs) : Kd.S d e w b (fun k => lo ≤ k ∧ k < hi) v xs := h.2
theorem ObR.row (h : ObR d e b w lo hi v xs) : Kd.R d e w b (fun k => lo ≤ k ∧ k < hi) v xs := h.2
theorem JE {n : Nat} (h : w' = w.drewN n) : Below w.heap.size w w' := h ▸ zB (yry _ _) n
theorem ZB (h : T ≤ w.heap.size) (hb : Below w.heap.size w w') : T ≤ w'.heap.size := Nat.le_trans h hb.size
theorem zFk (h : T ≤ w.heap.size) : T ≤ w.drew.heap.size := h
theorem zF1 {g i : Nat} {u : Value} (h : T ≤ w.heap.size) : T ≤ (w.setCell ⟨g, i, none⟩ u).heap.size := Nat.le_trans h (size_set _ _ _ _)
end
end Go.Proofs.Ytfnopcbicceeaaa.Lib
namespace Go.Proofs.Ytfnopcbicceeaaa.P
open Go.RowKit Go.Proofs.YtfnopcbicceeaaaW.PrintWords Go.Proofs.YtfnopcbicceeaaaW.PrintLast Go.Proofs.YtfnopcbicceeaaaW.PrintMore
attribute [local go_sem] Qd Qe JC JD QH QI Qf Qg
set_option linter.unusedVariables false
set_option linter.unusedSimpArgs false
open Go.Proofs.Ytfnopcbicceeaaa.Lib
def Zg.f (k : Nat) (l0 : List (List (qR))) (l1 : List Int) : Option Bool := if (l1.length : Int) > 1048576 then some true else (ZU.f k l0 1048576).bind fun t3 => if t3 < 0 then some true else (qf.f k l0).bind fun t6 => (qM.f k l1).bind fun t9 => (Qh.f k t6 t9).bind fun bt5 => (qf.f k l0).bind fun t16 => (qM.f k l1).bind fun t19 => (Zo.f k t16 t19).bind fun bt8 => (qF.f k bt8.1 bt5.1).bind fun t26 => if t26 = true then if bt8.2 = bt5.2 then (qf.f k l0).bind fun t29 => (Zc.f k t16 t29).bind fun t32 => if t32 = true then (qM.f k l1).bind fun t34 => (qt.f k t19 t34).bind fun t37 => if t37 = true then (ZX.f k t16 1).bind fun bt18 => (qZ.f k t19 bt18.1).bind fun bt19 => if bt19.1 < 0 then some false else (qF.f k bt8.1 bt5.1).bind fun t46 => if t46 = true then if bt8.2 = bt5.2 then (qa.f k bt8.1 1).bind fun bt24 => (qi.f k bt24.2 1).bind fun t52 => if t52 < 0 then some false else if t52 = bt24.1 then (qf.f k l0).bind fun t56 => (qM.f k l1).bind fun t59 => (Zo.f k t56 t59).bind fun bt30 => (qF.f k bt30.1 bt5.1).bind fun t66 => if t66 = true then if bt30.2 = bt5.2 then (qi.f k bt24.2 1).bind fun t69 => if t69 < 0 then some false else if t69 = bt24.1 then some true else some false else some false else some false else some false else some false else some false else some false else some false else some false else some false
set_option maxHeartbeats 8000000 in
set_option maxRecDepth 100000 in
theorem Zg.calls (k : Nat) (A0 : Option Addr) (c0 : Nat) (l0 : List (List (qR))) (A1 : Option Addr) (c1 : Nat) (l1 : List Int) (w : World) (hr0 : Kd.C (Kd.slice 123 QA) w A0 l0.length l0) (hc0 : l0.length ≤ c0) (hr1 : Kd.C (Kd.int .i64) w A1 l1.length l1) (hc1 : l1.length ≤ c1) (h : Zg.f k l0 l1 = some true) :
 Calls Try.prog 7 #[.agg #[.slice A0 l0.length c0], .slice A1 l1.length c1] w fun e w' => e = .returned (.bool true) ∧ Below w.heap.size w w' := by
 have hu24 := Try.underlying24
 have hu30 := Try.underlying30
 have HR0 := zA.mk hr0
 have HC0 := zA.mk hc0
 have HR1 := zA.mk hr1
 have HC1 := zA.mk hc1
 clear hr0 hc0 hr1 hc1
 have HB := zA.mk (yry w.heap.size w)
 have HT := zA.mk (yqy w.heap.size)
 have H := h
 clear h
 unfold Zg.f at H
 by_cases cC1 : (l1.length : Int) > 1048576
 next =>
  have dC1 : decide ((l1.length : Int) > 1048576) = true := ygy cC1; have e0C1 : decide (1048576 < (l1.length : Int)) = true := ygy (by omega); have e1C1 : decide (1048576 < l1.length) = true := ygy (by omega)
  clear cC1 H
  go_enter Try.func7, Try.ntmps7
  try go_wp2_with (first | ((with_reducible refine zd (N := 2) rfl ?_); refine zb ?hg (N := 2) ?hd (cs := #[.slice A0 l0.length c0]) (t := 24) ?hr ?_; (case hd => rfl); (case hg => rfl); (case hr => first | (go_simp; done) | (go_simp; rfl)); intro g2 hg w1 hbox hb; have HNg2 := zA.mk (by rw [hg]; exact HT.out : w.heap.size ≤ g2); have HXg2 := zA.mk (show g2 + 1 ≤ w1.heap.size from qS hbox); have nHB := zA.mk (zN HB.out hb); have nHT := zA.mk (ZB HT.out hb); clear HB HT  ; have HB := nHB; have HT := nHT; clear nHB nHT  ; clear HT; have HT := HXg2; clear HXg2; have BKg2 := zA.mk hbox; clear hg hbox hb; have hczg2 : w1.cell? ⟨g2, 0, none⟩ = some (.slice A0 l0.length c0) := (zK BKg2.out 0).trans rfl; have hfzg2 := zL BKg2.out 0))
  go_ret
  exact ⟨by first | rfl | (simp <;> rfl), HB.out⟩
 rw [if_neg cC1] at H
 have dC1 : decide ((l1.length : Int) > 1048576) = false := yhy cC1; have e0C1 : decide (1048576 < (l1.length : Int)) = false := yhy (by omega); have e1C1 : decide (1048576 < l1.length) = false := yhy (by omega)
 clear cC1
 obtain ⟨t3, H20, H⟩ := ydy.mp H
 have H2 := zA.mk H20
 clear H20
 by_cases cC4 : t3 < 0
 next =>
  have dC4 : decide (t3 < 0) = true := ygy cC4
  clear cC4 H
  go_enter Try.func7, Try.ntmps7
  try go_wp2_with (first | ((with_reducible refine zd (N := 2) rfl ?_); refine zb ?hg (N := 2) ?hd (cs := #[.slice A0 l0.length c0]) (t := 24) ?hr ?_; (case hd => rfl); (case hg => rfl); (case hr => first | (go_simp; done) | (go_simp; rfl)); intro g2 hg w1 hbox hb; have HNg2 := zA.mk (by rw [hg]; exact HT.out : w.heap.size ≤ g2); have HXg2 := zA.mk (show g2 + 1 ≤ w1.heap.size from qS hbox); have nHB := zA.mk (zN HB.out hb); have nHT := zA.mk (ZB HT.out hb); clear HB HT  ; have HB := nHB; have HT := nHT; clear nHB nHT  ; clear HT; have HT := HXg2; clear HXg2; have BKg2 := zA.mk hbox; clear hg hbox hb; have hczg2 : w1.cell? ⟨g2, 0, none⟩ = some (.slice A0 l0.length c0) := (zK BKg2.out 0).trans rfl; have hfzg2 := zL BKg2.out 0) | ((with_reducible refine zS (f := 8) rfl ?_); refine qB (some 22) rfl rfl Try.func8 (by kernel_rfl) rfl #[.agg #[.slice A0 l0.length c0], .int .i64 1048576] rfl (by (try simp only [yiy, yjy, yky]); first | done | rfl | (simp only [yly, ymy]; rfl)) ?_; (with_reducible refine (ZU.calls k _ _ l0 1048576 t3 _ ?side1 ?side2 H2.out).mono ?_); (case side1 => exact Kd.ze HR0.out HB.out); (case side2 => exact HC0.out); rintro e w2 ⟨rfl, hb⟩; refine ⟨_, rfl, ?_⟩; (try clear hczg2 hfzg2); have nBg2 := zA.mk (zP (g := g2) (o := .cells #[.slice A0 l0.length c0] 24 (0, 0)) BKg2.out hb); have nHB := zA.mk (zN HB.out hb); have nHT := zA.mk (ZB HT.out hb); clear HB HT  BKg2; have BKg2 := nBg2; have HB := nHB; have HT := nHT; clear nHB nHT  nBg2; (try clear hb); (try clear hnd); have hczg2 : w2.cell? ⟨g2, 0, none⟩ = some (.slice A0 l0.length c0) := (zK BKg2.out 0).trans rfl; have hfzg2 := zL BKg2.out 0))
  go_ret
  exact ⟨by first | rfl | (simp <;> rfl), HB.out⟩
 rw [if_neg cC4] at H
 have dC4 : decide (t3 < 0) = false := yhy cC4
 clear cC4
 obtain ⟨t6, H50, H⟩ := ydy.mp H
 have H5 := zA.mk H50
 clear H50
 obtain ⟨t9, H80, H⟩ := ydy.mp H
 have H8 := zA.mk H80
 clear H80
 obtain ⟨⟨t12, t14⟩, H110, H⟩ := ydy.mp H
 have H11 := zA.mk H110
 clear H110
 obtain ⟨t16, H150, H⟩ := ydy.mp H
 have H15 := zA.mk H150
 clear H150
 obtain ⟨t19, H180, H⟩ := ydy.mp H
 have H18 := zA.mk H180
 clear H180
 obtain ⟨⟨t22, t24⟩, H210, H⟩ := ydy.mp H
 have H21 := zA.mk H210
 clear H210
 obtain ⟨t26, H250, H⟩ := ydy.mp H
 obtain rfl : t26 = true := by cases t26 with | true => rfl | false => exact absurd H (by simp)
 replace H := H
 have H25 := zA.mk H250
 clear H250
 rw [if_pos rfl] at H
 have cC27 : t24 = t14 := by by_cases c_ : t24 = t14; exact c_; rw [if_neg c_] at H; cases H
 rw [if_pos cC27] at H
 have dC27 : (t24 != t14) = false := by rw [cC27]; exact bne_self_eq_false _
 clear cC27
 obtain ⟨t29, H280, H⟩ := ydy.mp H
 have H28 := zA.mk H280
 clear H280
 obtain ⟨t32, H310, H⟩ := ydy.mp H
 obtain rfl : t32 = true := by cases t32 with | true => rfl | false => exact absurd H (by simp)
 replace H := H
 have H31 := zA.mk H310
 clear H310
 rw [if_pos rfl] at H
 obtain ⟨t34, H330, H⟩ := ydy.mp H
 have H33 := zA.mk H330
 clear H330
 obtain ⟨t37, H360, H⟩ := ydy.mp H
 obtain rfl : t37 = true := by cases t37 with | true => rfl | false => exact absurd H (by simp)
 replace H := H
 have H36 := zA.mk H360
 clear H360
 rw [if_pos rfl] at H
 obtain ⟨⟨m39, y40⟩, H380, H⟩ := ydy.mp H
 have H38 := zA.mk H380
 clear H380
 dsimp only at H
 obtain ⟨⟨m42, y43⟩, H410, H⟩ := ydy.mp H
 have H41 := zA.mk H410
 clear H410
 dsimp only at H
 have cC44 : ¬ (m42 < 0) := fun c_ => by rw [if_pos c_] at H; cases H
 rw [if_neg cC44] at H
 have dC44 : decide (m42 < 0) = false := yhy cC44
 clear cC44
 obtain ⟨t46, H450, H⟩ := ydy.mp H
 obtain rfl : t46 = true := by cases t46 with | true => rfl | false => exact absurd H (by simp)
 replace H := H
 have H45 := zA.mk H450
 clear H450
 rw [if_pos rfl] at H
 have cC47 : t24 = t14 := by by_cases c_ : t24 = t14; exact c_; rw [if_neg c_] at H; cases H
 rw [if_pos cC47] at H
 have dC47 : (t24 != t14) = false := by rw [cC47]; exact bne_self_eq_false _
 clear cC47
 obtain ⟨⟨m49, y50⟩, H480, H⟩ := ydy.mp H
 have H48 := zA.mk H480
 clear H480
 dsimp only at H
 obtain ⟨t52, H510, H⟩ := ydy.mp H
 have H51 := zA.mk H510
 clear H510
 have cC53 : ¬ (t52 < 0) := fun c_ => by rw [if_pos c_] at H; cases H
 rw [if_neg cC53] at H
 have dC53 : decide (t52 < 0) = false := yhy cC53
 clear cC53
 have cC54 : t52 = m49 := by by_cases c_ : t52 = m49; exact c_; rw [if_neg c_] at H; cases H
 rw [if_pos cC54] at H
 have dC54 : (t52 != m49) = false := by rw [cC54]; exact bne_self_eq_false _
 clear cC54
 obtain ⟨t56, H550, H⟩ := ydy.mp H
 have H55 := zA.mk H550
 clear H550
 obtain ⟨t59, H580, H⟩ := ydy.mp H
 have H58 := zA.mk H580
 clear H580
 obtain ⟨⟨t62, t64⟩, H610, H⟩ := ydy.mp H
 have H61 := zA.mk H610
 clear H610
 obtain ⟨t66, H650, H⟩ := ydy.mp H
 obtain rfl : t66 = true := by cases t66 with | true => rfl | false => exact absurd H (by simp)
 replace H := H
 have H65 := zA.mk H650
 clear H650
 rw [if_pos rfl] at H
 have cC67 : t64 = t14 := by by_cases c_ : t64 = t14; exact c_; rw [if_neg c_] at H; cases H
 rw [if_pos cC67] at H
 have dC67 : (t64 != t14) = false := by rw [cC67]; exact bne_self_eq_false _
 clear cC67
 obtain ⟨t69, H680, H⟩ := ydy.mp H
 have H68 := zA.mk H680
 clear H680
 have cC70 : ¬ (t69 < 0) := fun c_ => by rw [if_pos c_] at H; cases H
 rw [if_neg cC70] at H
 have dC70 : decide (t69 < 0) = false := yhy cC70
 clear cC70
 have cC71 : t69 = m49 := by by_cases c_ : t69 = m49; exact c_; rw [if_neg c_] at H; cases H
 rw [if_pos cC71] at H
 have dC71 : (t69 != m49) = false := by rw [cC71]; exact bne_self_eq_false _
 clear cC71
 clear H
 go_enter Try.func7, Try.ntmps7
 try go_wp2_with (first | ((with_reducible refine zd (N := 2) rfl ?_); refine zb ?hg (N := 2) ?hd (cs := #[.slice A0 l0.length c0]) (t := 24) ?hr ?_; (case hd => rfl); (case hg => rfl); (case hr => first | (go_simp; done) | (go_simp; rfl)); intro g2 hg w1 hbox hb; have HNg2 := zA.mk (by rw [hg]; exact HT.out : w.heap.size ≤ g2); have HXg2 := zA.mk (show g2 + 1 ≤ w1.heap.size from qS hbox); have nHB := zA.mk (zN HB.out hb); have nHT := zA.mk (ZB HT.out hb); clear HB HT  ; have HB := nHB; have HT := nHT; clear nHB nHT  ; clear HT; have HT := HXg2; clear HXg2; have BKg2 := zA.mk hbox; clear hg hbox hb; have hczg2 : w1.cell? ⟨g2, 0, none⟩ = some (.slice A0 l0.length c0) := (zK BKg2.out 0).trans rfl; have hfzg2 := zL BKg2.out 0) | ((with_reducible refine zS (f := 8) rfl ?_); refine qB (some 22) rfl rfl Try.func8 (by kernel_rfl) rfl #[.agg #[.slice A0 l0.length c0], .int .i64 1048576] rfl (by (try simp only [yiy, yjy, yky]); first | done | rfl | (simp only [yly, ymy]; rfl)) ?_; (with_reducible refine (ZU.calls k _ _ l0 1048576 t3 _ ?side1 ?side2 H2.out).mono ?_); (case side1 => exact Kd.ze HR0.out HB.out); (case side2 => exact HC0.out); rintro e w2 ⟨rfl, hb⟩; refine ⟨_, rfl, ?_⟩; (try clear hczg2 hfzg2); have nBg2 := zA.mk (zP (g := g2) (o := .cells #[.slice A0 l0.length c0] 24 (0, 0)) BKg2.out hb); have nHB := zA.mk (zN HB.out hb); have nHT := zA.mk (ZB HT.out hb); clear HB HT  BKg2; have BKg2 := nBg2; have HB := nHB; have HT := nHT; clear nHB nHT  nBg2; (try clear hb); (try clear hnd); have hczg2 : w2.cell? ⟨g2, 0, none⟩ = some (.slice A0 l0.length c0) := (zK BKg2.out 0).trans rfl; have hfzg2 := zL BKg2.out 0) | ((with_reducible refine zS (f := 10) rfl ?_); refine qB (some 27) rfl rfl Try.func10 (by kernel_rfl) rfl #[.agg #[.slice A0 l0.length c0]] rfl (by (try simp only [yiy, yjy, yky]); first | done | rfl | (simp only [yly, ymy]; rfl)) ?_; (with_reducible refine (qf.calls k _ _ l0 t6 _ ?side1 ?side2 H5.out).mono ?_); (case side1 => exact Kd.ze HR0.out HB.out); (case side2 => exact HC0.out); rintro e w3 ⟨vo7, rfl, ho0, hb⟩; refine ⟨_, rfl, ?_⟩; (try clear hczg2 hfzg2); obtain ⟨loo7, hio7, hno7⟩ := ObS.made ho0 hb HT.out (zO HB.out); have nBg2 := zA.mk (zP (g := g2) (o := .cells #[.slice A0 l0.length c0] 24 (0, 0)) BKg2.out hb); have nHB := zA.mk (zN HB.out hb); have nHT := zA.mk (ZB HT.out hb); clear HB HT  BKg2; have BKg2 := nBg2; have HB := nHB; have HT := nHT; clear nHB nHT  nBg2; have HNo7 := zA.mk hno7.1; clear HT; have HT := zA.mk hno7.2.1; have HOo7 := zA.mk hno7.2.2; clear hno7 ho0; obtain ⟨Ao7, co7, eeo7⟩ := HOo7.out.slice; subst eeo7; (try clear hb); (try clear hnd); have hczg2 : w3.cell? ⟨g2, 0, none⟩ = some (.slice A0 l0.length c0) := (zK BKg2.out 0).trans rfl; have hfzg2 := zL BKg2.out 0) | ((with_reducible refine zS (f := 25) rfl ?_); refine qB (some 29) rfl rfl Try.func25 (by kernel_rfl) rfl #[.slice A1 l1.length c1] rfl (by (try simp only [yiy, yjy, yky]); first | done | rfl | (simp only [yly, ymy]; rfl)) ?_; (with_reducible refine (qM.calls k _ _ l1 t9 _ ?side1 ?side2 H8.out).mono ?_); (case side1 => exact Kd.ze HR1.out HB.out); (case side2 => exact HC1.out); rintro e w4 ⟨vo10, rfl, ho0, hb⟩; refine ⟨_, rfl, ?_⟩; (try clear hczg2 hfzg2); obtain ⟨loo10, hio10, hno10⟩ := ObR.made ho0 hb HT.out (zO HB.out); have nOo7 := zA.mk (ObS.below HOo7.out hb); have nBg2 := zA.mk (zP (g := g2) (o := .cells #[.slice A0 l0.length c0] 24 (0, 0)) BKg2.out hb); have nHB := zA.mk (zN HB.out hb); have nHT := zA.mk (ZB HT.out hb); clear HB HT HOo7 BKg2; have HOo7 := nOo7; have BKg2 := nBg2; have HB := nHB; have HT := nHT; clear nHB nHT nOo7 nBg2; have HNo10 := zA.mk hno10.1; clear HT; have HT := zA.mk hno10.2.1; have HOo10 := zA.mk hno10.2.2; clear hno10 ho0; obtain ⟨Ao10, co10, eeo10⟩ := HOo10.out.slice; subst eeo10; (try clear hb); (try clear hnd); have hczg2 : w4.cell? ⟨g2, 0, none⟩ = some (.slice A0 l0.length c0) := (zK BKg2.out 0).trans rfl; have hfzg2 := zL BKg2.out 0) | ((with_reducible refine zS (f := 24) rfl ?_); refine qB (some 30) rfl rfl Try.func24 (by kernel_rfl) rfl #[.agg #[.slice Ao7 t6.length co7], .slice Ao10 t9.length co10] rfl (by (try simp only [yiy, yjy, yky]); first | done | rfl | (simp only [yly, ymy]; rfl)) ?_; (with_reducible refine (Qh.calls k _ _ t6 _ _ t9 t12 t14 _ ?side1 ?side2 ?side3 ?side4 H11.out).mono ?_); (case side1 => exact (ObS.reads HOo7.out).2.2); (case side2 => exact ObS.room HOo7.out); (case side3 => exact (ObR.reads HOo10.out).2.2); (case side4 => exact ObR.room HOo10.out); rintro e w5 ⟨vo13, rfl, ho0, hb⟩; refine ⟨_, rfl, ?_⟩; (try clear hczg2 hfzg2); obtain ⟨loo13, hio13, hno13⟩ := ObR.made ho0 hb HT.out (zO HB.out); have nOo7 := zA.mk (ObS.below HOo7.out hb); have nOo10 := zA.mk (ObR.below HOo10.out hb); have nBg2 := zA.mk (zP (g := g2) (o := .cells #[.slice A0 l0.length c0] 24 (0, 0)) BKg2.out hb); have nHB := zA.mk (zN HB.out hb); have nHT := zA.mk (ZB HT.out hb); clear HB HT HOo7 HOo10 BKg2; have HOo7 := nOo7; have HOo10 := nOo10; have BKg2 := nBg2; have HB := nHB; have HT := nHT; clear nHB nHT nOo7 nOo10 nBg2; have HNo13 := zA.mk hno13.1; clear HT; have HT := zA.mk hno13.2.1; have HOo13 := zA.mk hno13.2.2; clear hno13 ho0; obtain ⟨Ao13, co13, eeo13⟩ := HOo13.out.slice; subst eeo13; (try clear hb); (try clear hnd); have hczg2 : w5.cell? ⟨g2, 0, none⟩ = some (.slice A0 l0.length c0) := (zK BKg2.out 0).trans rfl; have hfzg2 := zL BKg2.out 0) | ((with_reducible refine zS (f := 10) rfl ?_); refine qB (some 34) rfl rfl Try.func10 (by kernel_rfl) rfl #[.agg #[.slice A0 l0.length c0]] rfl (by (try simp only [yiy, yjy, yky]); first | done | rfl | (simp only [yly, ymy]; rfl)) ?_; (with_reducible refine (qf.calls k _ _ l0 t16 _ ?side1 ?side2 H15.out).mono ?_); (case side1 => exact Kd.ze HR0.out HB.out); (case side2 => exact HC0.out); rintro e w6 ⟨vo17, rfl, ho0, hb⟩; refine ⟨_, rfl, ?_⟩; (try clear hczg2 hfzg2); obtain ⟨loo17, hio17, hno17⟩ := ObS.made ho0 hb HT.out (zO HB.out); have nOo7 := zA.mk (ObS.below HOo7.out hb); have nOo10 := zA.mk (ObR.below HOo10.out hb); have nOo13 := zA.mk (ObR.below HOo13.out hb); have nBg2 := zA.mk (zP (g := g2) (o := .cells #[.slice A0 l0.length c0] 24 (0, 0)) BKg2.out hb); have nHB := zA.mk (zN HB.out hb); have nHT := zA.mk (ZB HT.out hb); clear HB HT HOo7 HOo10 HOo13 BKg2; have HOo7 := nOo7; have HOo10 := nOo10; have HOo13 := nOo13; have BKg2 := nBg2; have HB := nHB; have HT := nHT; clear nHB nHT nOo7 nOo10 nOo13 nBg2; have HNo17 := zA.mk hno17.1; clear HT; have HT := zA.mk hno17.2.1; have HOo17 := zA.mk hno17.2.2; clear hno17 ho0; obtain ⟨Ao17, co17, eeo17⟩ := HOo17.out.slice; subst eeo17; (try clear hb); (try clear hnd); have hczg2 : w6.cell? ⟨g2, 0, none⟩ = some (.slice A0 l0.length c0) := (zK BKg2.out 0).trans rfl; have hfzg2 := zL BKg2.out 0) | ((with_reducible refine zd (N := 8) rfl ?_); refine zb ?hg (N := 8) ?hd (cs := #[.slice none 0 0]) (t := 30) ?hr ?_; (case hd => rfl); (case hg => rfl); (case hr => first | (go_simp; done) | (go_simp; rfl)); intro g8 hg w7 hbox hb; (try clear hczg2 hfzg2); have HNg8 := zA.mk (by rw [hg]; exact HT.out : hio17 ≤ g8); have HXg8 := zA.mk (show g8 + 1 ≤ w7.heap.size from qS hbox); have nOo7 := zA.mk (ObS.below HOo7.out hb); have nOo10 := zA.mk (ObR.below HOo10.out hb); have nOo13 := zA.mk (ObR.below HOo13.out hb); have nOo17 := zA.mk (ObS.below HOo17.out hb); have nBg2 := zA.mk (zP (g := g2) (o := .cells #[.slice A0 l0.length c0] 24 (0, 0)) BKg2.out hb); have nHB := zA.mk (zN HB.out hb); have nHT := zA.mk (ZB HT.out hb); clear HB HT HOo7 HOo10 HOo13 HOo17 BKg2; have HOo7 := nOo7; have HOo10 := nOo10; have HOo13 := nOo13; have HOo17 := nOo17; have BKg2 := nBg2; have HB := nHB; have HT := nHT; clear nHB nHT nOo7 nOo10 nOo13 nOo17 nBg2; clear HT; have HT := HXg8; clear HXg8; have BKg8 := zA.mk hbox; clear hg hbox hb; have hnbg8_g2 : g8 ≠ g2 := (by have := HNg2.out; have := HNo7.out; have := HNo10.out; have := HNo13.out; have := HNo17.out; have := HNg8.out; omega); have hnbg2_g8 : g2 ≠ g8 := (by have := HNg2.out; have := HNo7.out; have := HNo10.out; have := HNo13.out; have := HNo17.out; have := HNg8.out; omega); have hczg2 : w7.cell? ⟨g2, 0, none⟩ = some (.slice A0 l0.length c0) := (zK BKg2.out 0).trans rfl; have hfzg2 := zL BKg2.out 0; have hczg8 : w7.cell? ⟨g8, 0, none⟩ = some (.slice none 0 0) := (zK BKg8.out 0).trans rfl; have hfzg8 := zL BKg8.out 0) | ((with_reducible refine zS (f := 25) rfl ?_); refine qB (some 36) rfl rfl Try.func25 (by kernel_rfl) rfl #[.slice A1 l1.length c1] rfl (by (try simp only [yiy, yjy, yky]); first | done | rfl | (simp only [yly, ymy]; rfl)) ?_; (with_reducible refine (qM.calls k _ _ l1 t19 _ ?side1 ?side2 H18.out).mono ?_); (case side1 => exact Kd.ze HR1.out (zF HB.out (show w.heap.size ≤ g8 from (by have := HNg2.out; have := HNo7.out; have := HNo10.out; have := HNo13.out; have := HNo17.out; have := HNg8.out; omega)))); (case side2 => exact HC1.out); rintro e w8 ⟨vo20, rfl, ho0, hb⟩; refine ⟨_, rfl, ?_⟩; (try clear hczg2 hfzg2 hczg8 hfzg8); obtain ⟨loo20, hio20, hno20⟩ := ObR.made ho0 hb (zF1 HT.out) (zO (zF HB.out (show w.heap.size ≤ g8 from (by have := HNg2.out; have := HNo7.out; have := HNo10.out; have := HNo13.out; have := HNo17.out; have := HNg8.out; omega)))); have nOo7 := zA.mk (ObS.below (ObS.far (g := g8) (i := 0) HOo7.out (by have := HNg2.out; have := HNo7.out; have := HNo10.out; have := HNo13.out; have := HNo17.out; have := HNg8.out; omega) _) hb); have nOo10 := zA.mk (ObR.below (ObR.far (g := g8) (i := 0) HOo10.out (by have := HNg2.out; have := HNo7.out; have := HNo10.out; have := HNo13.out; have := HNo17.out; have := HNg8.out; omega) _) hb); have nOo13 := zA.mk (ObR.below (ObR.far (g := g8) (i := 0) HOo13.out (by have := HNg2.out; have := HNo7.out; have := HNo10.out; have := HNo13.out; have := HNo17.out; have := HNg8.out; omega) _) hb); have nOo17 := zA.mk (ObS.below (ObS.far (g := g8) (i := 0) HOo17.out (by have := HNg2.out; have := HNo7.out; have := HNo10.out; have := HNo13.out; have := HNo17.out; have := HNg8.out; omega) _) hb); have nBg2 := zA.mk (zP (g := g2) (o := .cells #[.slice A0 l0.length c0] 24 (0, 0)) (qX (p := ⟨g8, 0, none⟩) BKg2.out (show g2 ≠ g8 from (by have := HNg2.out; have := HNo7.out; have := HNo10.out; have := HNo13.out; have := HNo17.out; have := HNg8.out; omega)) _) hb); have nBg8 := zA.mk (zP (g := g8) (o := .cells #[.slice Ao17 t16.length co17] 30 (0, 0)) (qe (cs := #[.slice none 0 0]) BKg8.out 0 _ rfl) hb); have nHB := zA.mk (zN (zF HB.out (show w.heap.size ≤ g8 from (by have := HNg2.out; have := HNo7.out; have := HNo10.out; have := HNo13.out; have := HNo17.out; have := HNg8.out; omega))) hb); have nHT := zA.mk (ZB (zF1 HT.out) hb); clear HB HT HOo7 HOo10 HOo13 HOo17 BKg2 BKg8; have HOo7 := nOo7; have HOo10 := nOo10; have HOo13 := nOo13; have HOo17 := nOo17; have BKg2 := nBg2; have BKg8 := nBg8; have HB := nHB; have HT := nHT; clear nHB nHT nOo7 nOo10 nOo13 nOo17 nBg2 nBg8; have HNo20 := zA.mk hno20.1; clear HT; have HT := zA.mk hno20.2.1; have HOo20 := zA.mk hno20.2.2; clear hno20 ho0; obtain ⟨Ao20, co20, eeo20⟩ := HOo20.out.slice; subst eeo20; (try clear hb); (try clear hnd); have hczg2 : w8.cell? ⟨g2, 0, none⟩ = some (.slice A0 l0.length c0) := (zK BKg2.out 0).trans rfl; have hfzg2 := zL BKg2.out 0; have hczg8 : w8.cell? ⟨g8, 0, none⟩ = some (.slice Ao17 t16.length co17) := (zK BKg8.out 0).trans rfl; have hfzg8 := zL BKg8.out 0) | ((with_reducible refine zS (f := 26) rfl ?_); refine qB (some 40) rfl rfl Try.func26 (by kernel_rfl) rfl #[.agg #[.slice Ao17 t16.length co17], .slice Ao20 t19.length co20] rfl (by (try simp only [yiy, yjy, yky]); first | done | rfl | (simp only [yly, ymy]; rfl)) ?_; (with_reducible refine (Zo.calls k _ _ t16 _ _ t19 t22 t24 _ ?side1 ?side2 ?side3 ?side4 H21.out).mono ?_); (case side1 => exact (ObS.reads HOo17.out).2.2); (case side2 => exact ObS.room HOo17.out); (case side3 => exact (ObR.reads HOo20.out).2.2); (case side4 => exact ObR.room HOo20.out); rintro e w9 ⟨vo23, rfl, ho0, hb⟩; refine ⟨_, rfl, ?_⟩; (try clear hczg2 hfzg2 hczg8 hfzg8); obtain ⟨loo23, hio23, hno23⟩ := ObR.made ho0 hb HT.out (zO HB.out); have nOo7 := zA.mk (ObS.below HOo7.out hb); have nOo10 := zA.mk (ObR.below HOo10.out hb); have nOo13 := zA.mk (ObR.below HOo13.out hb); have nOo17 := zA.mk (ObS.below HOo17.out hb); have nOo20 := zA.mk (ObR.below HOo20.out hb); have nBg2 := zA.mk (zP (g := g2) (o := .cells #[.slice A0 l0.length c0] 24 (0, 0)) BKg2.out hb); have nBg8 := zA.mk (zP (g := g8) (o := .cells #[.slice Ao17 t16.length co17] 30 (0, 0)) BKg8.out hb); have nHB := zA.mk (zN HB.out hb); have nHT := zA.mk (ZB HT.out hb); clear HB HT HOo7 HOo10 HOo13 HOo17 HOo20 BKg2 BKg8; have HOo7 := nOo7; have HOo10 := nOo10; have HOo13 := nOo13; have HOo17 := nOo17; have HOo20 := nOo20; have BKg2 := nBg2; have BKg8 := nBg8; have HB := nHB; have HT := nHT; clear nHB nHT nOo7 nOo10 nOo13 nOo17 nOo20 nBg2 nBg8; have HNo23 := zA.mk hno23.1; clear HT; have HT := zA.mk hno23.2.1; have HOo23 := zA.mk hno23.2.2; clear hno23 ho0; obtain ⟨Ao23, co23, eeo23⟩ := HOo23.out.slice; subst eeo23; (try clear hb); (try clear hnd); have hczg2 : w9.cell? ⟨g2, 0, none⟩ = some (.slice A0 l0.length c0) := (zK BKg2.out 0).trans rfl; have hfzg2 := zL BKg2.out 0; have hczg8 : w9.cell? ⟨g8, 0, none⟩ = some (.slice Ao17 t16.length co17) := (zK BKg8.out 0).trans rfl; have hfzg8 := zL BKg8.out 0) | ((with_reducible refine zS (f := 27) rfl ?_); refine qB (some 45) rfl rfl Try.func27 (by kernel_rfl) rfl #[.slice Ao23 t22.length co23, .slice Ao13 t12.length co13] rfl (by (try simp only [yiy, yjy, yky]); first | done | rfl | (simp only [yly, ymy]; rfl)) ?_; (with_reducible refine (qF.calls k _ _ t22 _ _ t12 true _ ?side1 ?side2 ?side3 ?side4 H25.out).mono ?_); (case side1 => exact (ObR.reads HOo23.out).2.2); (case side2 => exact ObR.room HOo23.out); (case side3 => exact (ObR.reads HOo13.out).2.2); (case side4 => exact ObR.room HOo13.out); rintro e w10 ⟨rfl, hb⟩; refine ⟨_, rfl, ?_⟩; (try clear hczg2 hfzg2 hczg8 hfzg8); have nOo7 := zA.mk (ObS.below HOo7.out hb); have nOo10 := zA.mk (ObR.below HOo10.out hb); have nOo13 := zA.mk (ObR.below HOo13.out hb); have nOo17 := zA.mk (ObS.below HOo17.out hb); have nOo20 := zA.mk (ObR.below HOo20.out hb); have nOo23 := zA.mk (ObR.below HOo23.out hb); have nBg2 := zA.mk (zP (g := g2) (o := .cells #[.slice A0 l0.length c0] 24 (0, 0)) BKg2.out hb); have nBg8 := zA.mk (zP (g := g8) (o := .cells #[.slice Ao17 t16.length co17] 30 (0, 0)) BKg8.out hb); have nHB := zA.mk (zN HB.out hb); have nHT := zA.mk (ZB HT.out hb); clear HB HT HOo7 HOo10 HOo13 HOo17 HOo20 HOo23 BKg2 BKg8; have HOo7 := nOo7; have HOo10 := nOo10; have HOo13 := nOo13; have HOo17 := nOo17; have HOo20 := nOo20; have HOo23 := nOo23; have BKg2 := nBg2; have BKg8 := nBg8; have HB := nHB; have HT := nHT; clear nHB nHT nOo7 nOo10 nOo13 nOo17 nOo20 nOo23 nBg2 nBg8; (try clear hb); (try clear hnd); have hczg2 : w10.cell? ⟨g2, 0, none⟩ = some (.slice A0 l0.length c0) := (zK BKg2.out 0).trans rfl; have hfzg2 := zL BKg2.out 0; have hczg8 : w10.cell? ⟨g8, 0, none⟩ = some (.slice Ao17 t16.length co17) := (zK BKg8.out 0).trans rfl; have hfzg8 := zL BKg8.out 0))
 (try clear hczg2 hfzg2 hczg8 hfzg8)
 have nOo7 := zA.mk (ObS.drew HOo7.out)
 have nOo10 := zA.mk (ObR.drew HOo10.out)
 have nOo13 := zA.mk (ObR.drew HOo13.out)
 have nOo17 := zA.mk (ObS.drew HOo17.out)
 have nOo20 := zA.mk (ObR.drew HOo20.out)
 have nOo23 := zA.mk (ObR.drew HOo23.out)
 have nBg2 := zA.mk (zJ BKg2.out)
 have nBg8 := zA.mk (zJ BKg8.out)
 have nHB := zA.mk (zD HB.out)
 have nHT := zA.mk (zFk HT.out)
 clear HB HT HOo7 HOo10 HOo13 HOo17 HOo20 HOo23 BKg2 BKg8
 have HOo7 := nOo7
 have HOo10 := nOo10
 have HOo13 := nOo13
 have HOo17 := nOo17
 have HOo20 := nOo20
 have HOo23 := nOo23
 have BKg2 := nBg2
 have BKg8 := nBg8
 have HB := nHB
 have HT := nHT
 clear nHB nHT nOo7 nOo10 nOo13 nOo17 nOo20 nOo23 nBg2 nBg8
 refine QG (n := 5) (S := fun w' => w'.cell? ⟨g8, 0, none⟩ = some (.slice Ao17 t16.length co17) ∧ w'.cell? ⟨g2, 0, none⟩ = some (.slice A0 l0.length c0)) (ds := []) #[false, false, false, false, false] (by kernel_rfl) rfl rfl ⟨(zK BKg8.out 0).trans rfl, (zK BKg2.out 0).trans rfl⟩ (fun hHeld => ?_)
 generalize hdr_ : World.drew _ = w11 at HOo7 HOo10 HOo13 HOo17 HOo20 HOo23 BKg2 BKg8 HB HT hHeld ⊢
 (try clear hdr_)
 refine ZV (i := 0) (N := some 52) (v := ?_) (a' := ?_) #[true, false, false, false, false] rfl rfl (by kernel_rfl) (fun _ _ _ h => h) (Or.inl ⟨by rfl, ?_⟩) hHeld ?_ ?_
 rotate_left
 next =>
  rintro w' ⟨s0, s1⟩
  go_simp
  with_reducible rfl
 rotate_left
 next =>
  simp only [Act.put, yay, yby, ycy, zW, zX]
  rfl
 refine ZV (i := 1) (N := some 53) (v := ?_) (a' := ?_) #[true, true, false, false, false] rfl rfl (by kernel_rfl) (fun _ _ _ h => h) (Or.inl ⟨by rfl, ?_⟩) hHeld ?_ ?_
 rotate_left
 next =>
  rintro w' ⟨s0, s1⟩
  go_simp
  with_reducible rfl
 rotate_left
 next =>
  simp only [Act.put, yay, yby, ycy, zW, zX]
  rfl
 refine zAH (i := 2) (N := some 54) #[true, true, true, false, false] rfl rfl (by kernel_rfl) (by decide) (fun K hK => ?_)
 refine Qz Try.func10 (by kernel_rfl) rfl #[.agg #[.slice A0 l0.length c0]] (by rfl) rfl rfl (by (try simp only [yiy, yjy, yky]); first | done | rfl | (simp only [yly, ymy]; rfl)) ?_
 with_reducible refine (qf.calls k _ _ l0 t29 _ ?side1 ?side2 H28.out).mono ?_
 (case side1 => exact Kd.ze HR0.out HB.out)
 (case side2 => exact HC0.out)
 rintro e w12 ⟨vo30, rfl, ho0, hb⟩
 refine ⟨_, rfl, ?_⟩
 (try clear hczg2 hfzg2 hczg8 hfzg8)
 obtain ⟨loo30, hio30, hno30⟩ := ObS.made ho0 hb HT.out (zO HB.out)
 have nOo7 := zA.mk (ObS.below HOo7.out hb)
 have nOo10 := zA.mk (ObR.below HOo10.out hb)
 have nOo13 := zA.mk (ObR.below HOo13.out hb)
 have nOo17 := zA.mk (ObS.below HOo17.out hb)
 have nOo20 := zA.mk (ObR.below HOo20.out hb)
 have nOo23 := zA.mk (ObR.below HOo23.out hb)
 have nBg2 := zA.mk (zP (g := g2) (o := .cells #[.slice A0 l0.length c0] 24 (0, 0)) BKg2.out hb)
 have nBg8 := zA.mk (zP (g := g8) (o := .cells #[.slice Ao17 t16.length co17] 30 (0, 0)) BKg8.out hb)
 have nHB := zA.mk (zN HB.out hb)
 have nHT := zA.mk (ZB HT.out hb)
 clear HB HT HOo7 HOo10 HOo13 HOo17 HOo20 HOo23 BKg2 BKg8
 have HOo7 := nOo7
 have HOo10 := nOo10
 have HOo13 := nOo13
 have HOo17 := nOo17
 have HOo20 := nOo20
 have HOo23 := nOo23
 have BKg2 := nBg2
 have BKg8 := nBg8
 have HB := nHB
 have HT := nHT
 clear nHB nHT nOo7 nOo10 nOo13 nOo17 nOo20 nOo23 nBg2 nBg8
 have HNo30 := zA.mk hno30.1
 clear HT
 have HT := zA.mk hno30.2.1
 have HOo30 := zA.mk hno30.2.2
 clear hno30 ho0
 obtain ⟨Ao30, co30, eeo30⟩ := HOo30.out.slice
 subst eeo30
 (try clear hb)
 (try clear hnd)
 refine hK.out _ _ ⟨(zK BKg8.out 0).trans rfl, (zK BKg2.out 0).trans rfl⟩ (fun hHeld => ?_)
 clear hK K
 refine QN (a' := ?_) ?_ ?_
 rotate_left
 next =>
  show Act.put _ (some 54) _ = _
  simp only [Act.put, yay, yby, ycy, zW, zX]
  rfl
 refine zAH (i := 3) (N := some 55) #[true, true, true, true, false] rfl rfl (by kernel_rfl) (by decide) (fun K hK => ?_)
 refine Qz Try.func12 (by kernel_rfl) rfl #[.agg #[.slice Ao17 t16.length co17], .agg #[.slice Ao30 t29.length co30]] (by rfl) rfl rfl (by (try simp only [yiy, yjy, yky]); first | done | rfl | (simp only [yly, ymy]; rfl)) ?_
 with_reducible refine (Zc.calls k _ _ t16 _ _ t29 true _ ?side1 ?side2 ?side3 ?side4 H31.out).mono ?_
 (case side1 => exact (ObS.reads HOo17.out).2.2)
 (case side2 => exact ObS.room HOo17.out)
 (case side3 => exact (ObS.reads HOo30.out).2.2)
 (case side4 => exact ObS.room HOo30.out)
 rintro e w13 ⟨rfl, hb⟩
 refine ⟨_, rfl, ?_⟩
 (try clear hczg2 hfzg2 hczg8 hfzg8)
 have nOo7 := zA.mk (ObS.below HOo7.out hb)
 have nOo10 := zA.mk (ObR.below HOo10.out hb)
 have nOo13 := zA.mk (ObR.below HOo13.out hb)
 have nOo17 := zA.mk (ObS.below HOo17.out hb)
 have nOo20 := zA.mk (ObR.below HOo20.out hb)
 have nOo23 := zA.mk (ObR.below HOo23.out hb)
 have nOo30 := zA.mk (ObS.below HOo30.out hb)
 have nBg2 := zA.mk (zP (g := g2) (o := .cells #[.slice A0 l0.length c0] 24 (0, 0)) BKg2.out hb)
 have nBg8 := zA.mk (zP (g := g8) (o := .cells #[.slice Ao17 t16.length co17] 30 (0, 0)) BKg8.out hb)
 have nHB := zA.mk (zN HB.out hb)
 have nHT := zA.mk (ZB HT.out hb)
 clear HB HT HOo7 HOo10 HOo13 HOo17 HOo20 HOo23 HOo30 BKg2 BKg8
 have HOo7 := nOo7
 have HOo10 := nOo10
 have HOo13 := nOo13
 have HOo17 := nOo17
 have HOo20 := nOo20
 have HOo23 := nOo23
 have HOo30 := nOo30
 have BKg2 := nBg2
 have BKg8 := nBg8
 have HB := nHB
 have HT := nHT
 clear nHB nHT nOo7 nOo10 nOo13 nOo17 nOo20 nOo23 nOo30 nBg2 nBg8
 (try clear hb)
 (try clear hnd)
 refine hK.out _ _ ⟨(zK BKg8.out 0).trans rfl, (zK BKg2.out 0).trans rfl⟩ (fun hHeld => ?_)
 clear hK K
 refine QN (a' := ?_) ?_ ?_
 rotate_left
 next =>
  show Act.put _ (some 55) _ = _
  simp only [Act.put, yay, yby, ycy, zW, zX]
  rfl
 refine zo (i := 4) (N := some 56) (v := ?_) (a' := ?_) #[true, true, true, true, true] rfl rfl (by kernel_rfl) (fun _ _ _ h => h) (Or.inl ⟨by rfl, ?_⟩) ?_ ?_
 rotate_left
 next =>
  intro w'
  go_simp
  with_reducible rfl
 rotate_left
 next =>
  simp only [Act.put, yay, yby, ycy, zW, zX]
  rfl
 refine Qy (by kernel_rfl) ?_
 have hczg2 : w13.cell? ⟨g2, 0, none⟩ = some (.slice A0 l0.length c0) := (zK BKg2.out 0).trans rfl
 have hfzg2 := zL BKg2.out 0
 have hczg8 : w13.cell? ⟨g8, 0, none⟩ = some (.slice Ao17 t16.length co17) := (zK BKg8.out 0).trans rfl
 have hfzg8 := zL BKg8.out 0
 try go_wp2_with (first | ((with_reducible refine zS (f := 25) rfl ?_); refine qB (some 59) rfl rfl Try.func25 (by kernel_rfl) rfl #[.slice A1 l1.length c1] rfl (by (try simp only [yiy, yjy, yky]); first | done | rfl | (simp only [yly, ymy]; rfl)) ?_; (with_reducible refine (qM.calls k _ _ l1 t34 _ ?side1 ?side2 H33.out).mono ?_); (case side1 => exact Kd.ze HR1.out HB.out); (case side2 => exact HC1.out); rintro e w14 ⟨vo35, rfl, ho0, hb⟩; refine ⟨_, rfl, ?_⟩; (try clear hczg2 hfzg2 hczg8 hfzg8); obtain ⟨loo35, hio35, hno35⟩ := ObR.made ho0 hb HT.out (zO HB.out); have nOo7 := zA.mk (ObS.below HOo7.out hb); have nOo10 := zA.mk (ObR.below HOo10.out hb); have nOo13 := zA.mk (ObR.below HOo13.out hb); have nOo17 := zA.mk (ObS.below HOo17.out hb); have nOo20 := zA.mk (ObR.below HOo20.out hb); have nOo23 := zA.mk (ObR.below HOo23.out hb); have nOo30 := zA.mk (ObS.below HOo30.out hb); have nBg2 := zA.mk (zP (g := g2) (o := .cells #[.slice A0 l0.length c0] 24 (0, 0)) BKg2.out hb); have nBg8 := zA.mk (zP (g := g8) (o := .cells #[.slice Ao17 t16.length co17] 30 (0, 0)) BKg8.out hb); have nHB := zA.mk (zN HB.out hb); have nHT := zA.mk (ZB HT.out hb); clear HB HT HOo7 HOo10 HOo13 HOo17 HOo20 HOo23 HOo30 BKg2 BKg8; have HOo7 := nOo7; have HOo10 := nOo10; have HOo13 := nOo13; have HOo17 := nOo17; have HOo20 := nOo20; have HOo23 := nOo23; have HOo30 := nOo30; have BKg2 := nBg2; have BKg8 := nBg8; have HB := nHB; have HT := nHT; clear nHB nHT nOo7 nOo10 nOo13 nOo17 nOo20 nOo23 nOo30 nBg2 nBg8; have HNo35 := zA.mk hno35.1; clear HT; have HT := zA.mk hno35.2.1; have HOo35 := zA.mk hno35.2.2; clear hno35 ho0; obtain ⟨Ao35, co35, eeo35⟩ := HOo35.out.slice; subst eeo35; (try clear hb); (try clear hnd); have hczg2 : w14.cell? ⟨g2, 0, none⟩ = some (.slice A0 l0.length c0) := (zK BKg2.out 0).trans rfl; have hfzg2 := zL BKg2.out 0; have hczg8 : w14.cell? ⟨g8, 0, none⟩ = some (.slice Ao17 t16.length co17) := (zK BKg8.out 0).trans rfl; have hfzg8 := zL BKg8.out 0) | ((with_reducible refine zS (f := 28) rfl ?_); refine qB (some 60) rfl rfl Try.func28 (by kernel_rfl) rfl #[.slice Ao20 t19.length co20, .slice Ao35 t34.length co35] rfl (by (try simp only [yiy, yjy, yky]); first | done | rfl | (simp only [yly, ymy]; rfl)) ?_; (with_reducible refine (qt.calls k _ _ t19 _ _ t34 true _ ?side1 ?side2 ?side3 ?side4 H36.out).mono ?_); (case side1 => exact (ObR.reads HOo20.out).2.2); (case side2 => exact ObR.room HOo20.out); (case side3 => exact (ObR.reads HOo35.out).2.2); (case side4 => exact ObR.room HOo35.out); rintro e w15 ⟨rfl, ⟨nd, hnd⟩⟩; refine ⟨_, rfl, ?_⟩; have hb := JE hnd; (try clear hczg2 hfzg2 hczg8 hfzg8); have nOo7 := zA.mk (ObS.below HOo7.out hb); have nOo10 := zA.mk (ObR.below HOo10.out hb); have nOo13 := zA.mk (ObR.below HOo13.out hb); have nOo17 := zA.mk (ObS.below HOo17.out hb); have nOo20 := zA.mk (ObR.below HOo20.out hb); have nOo23 := zA.mk (ObR.below HOo23.out hb); have nOo30 := zA.mk (ObS.below HOo30.out hb); have nOo35 := zA.mk (ObR.below HOo35.out hb); have nBg2 := zA.mk (zP (g := g2) (o := .cells #[.slice A0 l0.length c0] 24 (0, 0)) BKg2.out hb); have nBg8 := zA.mk (zP (g := g8) (o := .cells #[.slice Ao17 t16.length co17] 30 (0, 0)) BKg8.out hb); have nHB := zA.mk (zN HB.out hb); have nHT := zA.mk (ZB HT.out hb); clear HB HT HOo7 HOo10 HOo13 HOo17 HOo20 HOo23 HOo30 HOo35 BKg2 BKg8; have HOo7 := nOo7; have HOo10 := nOo10; have HOo13 := nOo13; have HOo17 := nOo17; have HOo20 := nOo20; have HOo23 := nOo23; have HOo30 := nOo30; have HOo35 := nOo35; have BKg2 := nBg2; have BKg8 := nBg8; have HB := nHB; have HT := nHT; clear nHB nHT nOo7 nOo10 nOo13 nOo17 nOo20 nOo23 nOo30 nOo35 nBg2 nBg8; (try clear hb); (try clear hnd); have hczg2 : w15.cell? ⟨g2, 0, none⟩ = some (.slice A0 l0.length c0) := (zK BKg2.out 0).trans rfl; have hfzg2 := zL BKg2.out 0; have hczg8 : w15.cell? ⟨g8, 0, none⟩ = some (.slice Ao17 t16.length co17) := (zK BKg8.out 0).trans rfl; have hfzg8 := zL BKg8.out 0) | ((with_reducible refine zS (f := 15) rfl ?_); refine qB (some 64) rfl rfl Try.func15 (by kernel_rfl) rfl #[.agg #[.slice Ao17 t16.length co17], .int .i64 1] rfl (by (try simp only [yiy, yjy, yky]); first | done | rfl | (simp only [yly, ymy]; rfl)) ?_; (with_reducible refine (ZX.calls k (fun k_ => loo17 ≤ k_ ∧ k_ < hio17) (.slice Ao17 t16.length co17) t16 1 m39 y40 w _ HB.out (ObS.row HOo17.out) H38.out).mono ?_); rintro e w16 ⟨rfl, hy, hb, hk0⟩; refine ⟨_, rfl, ?_⟩; have hk := hk0; have nM := zA.mk (ObS.marked HOo17.out hy hk.1); (try clear hczg2 hfzg2 hczg8 hfzg8); have nOo7 := zA.mk (ObS.kept HOo7.out hk (by have := HNg2.out; have := HNo7.out; have := HNo10.out; have := HNo13.out; have := HNo17.out; have := HNg8.out; have := HNo20.out; have := HNo23.out; have := HNo30.out; have := HNo35.out; omega)); have nOo10 := zA.mk (ObR.kept HOo10.out hk (by have := HNg2.out; have := HNo7.out; have := HNo10.out; have := HNo13.out; have := HNo17.out; have := HNg8.out; have := HNo20.out; have := HNo23.out; have := HNo30.out; have := HNo35.out; omega)); have nOo13 := zA.mk (ObR.kept HOo13.out hk (by have := HNg2.out; have := HNo7.out; have := HNo10.out; have := HNo13.out; have := HNo17.out; have := HNg8.out; have := HNo20.out; have := HNo23.out; have := HNo30.out; have := HNo35.out; omega)); have nOo20 := zA.mk (ObR.kept HOo20.out hk (by have := HNg2.out; have := HNo7.out; have := HNo10.out; have := HNo13.out; have := HNo17.out; have := HNg8.out; have := HNo20.out; have := HNo23.out; have := HNo30.out; have := HNo35.out; omega)); have nOo23 := zA.mk (ObR.kept HOo23.out hk (by have := HNg2.out; have := HNo7.out; have := HNo10.out; have := HNo13.out; have := HNo17.out; have := HNg8.out; have := HNo20.out; have := HNo23.out; have := HNo30.out; have := HNo35.out; omega)); have nOo30 := zA.mk (ObS.kept HOo30.out hk (by have := HNg2.out; have := HNo7.out; have := HNo10.out; have := HNo13.out; have := HNo17.out; have := HNg8.out; have := HNo20.out; have := HNo23.out; have := HNo30.out; have := HNo35.out; omega)); have nOo35 := zA.mk (ObR.kept HOo35.out hk (by have := HNg2.out; have := HNo7.out; have := HNo10.out; have := HNo13.out; have := HNo17.out; have := HNg8.out; have := HNo20.out; have := HNo23.out; have := HNo30.out; have := HNo35.out; omega)); have nBg2 := zA.mk (Jz (g := g2) (o := .cells #[.slice A0 l0.length c0] 24 (0, 0)) BKg2.out hk (fun h_ => by have h1_ := h_.1; have h2_ := h_.2; have := HNg2.out; have := HNo7.out; have := HNo10.out; have := HNo13.out; have := HNo17.out; have := HNg8.out; have := HNo20.out; have := HNo23.out; have := HNo30.out; have := HNo35.out; omega)); have nBg8 := zA.mk (Jz (g := g8) (o := .cells #[.slice Ao17 t16.length co17] 30 (0, 0)) BKg8.out hk (fun h_ => by have h1_ := h_.1; have h2_ := h_.2; have := HNg2.out; have := HNo7.out; have := HNo10.out; have := HNo13.out; have := HNo17.out; have := HNg8.out; have := HNo20.out; have := HNo23.out; have := HNo30.out; have := HNo35.out; omega)); have nHT := zA.mk (Nat.le_trans HT.out hk.1); clear HB HT HOo7 HOo10 HOo13 HOo17 HOo20 HOo23 HOo30 HOo35 BKg2 BKg8; have HOo7 := nOo7; have HOo10 := nOo10; have HOo13 := nOo13; have HOo17 := nM; have HOo20 := nOo20; have HOo23 := nOo23; have HOo30 := nOo30; have HOo35 := nOo35; have BKg2 := nBg2; have BKg8 := nBg8; have HB := zA.mk hb; have HT := nHT; (try clear hy); clear hb hk0 hk nM nHT nOo7 nOo10 nOo13 nOo20 nOo23 nOo30 nOo35 nBg2 nBg8; have hczg2 : w16.cell? ⟨g2, 0, none⟩ = some (.slice A0 l0.length c0) := (zK BKg2.out 0).trans rfl; have hfzg2 := zL BKg2.out 0; have hczg8 : w16.cell? ⟨g8, 0, none⟩ = some (.slice Ao17 t16.length co17) := (zK BKg8.out 0).trans rfl; have hfzg8 := zL BKg8.out 0) | ((with_reducible refine zS (f := 29) rfl ?_); refine qB (some 67) rfl rfl Try.func29 (by kernel_rfl) rfl #[.slice Ao20 t19.length co20, .int .i64 m39] rfl (by (try simp only [yiy, yjy, yky]); first | done | rfl | (simp only [yly, ymy]; rfl)) ?_; (with_reducible refine (qZ.calls k (fun k_ => some k_ = (.slice Ao20 t19.length co20 : Value).ownBlock) (.slice Ao20 t19.length co20) t19 m39 m42 y43 w _ HB.out (Kd.JA rfl (ObR.row HOo20.out)) H41.out).mono ?_); rintro e w17 ⟨rfl, hy, hb, hk0⟩; refine ⟨_, rfl, ?_⟩; have hk := ObR.range HOo20.out hk0; have nM := zA.mk (ObR.marked HOo20.out rfl hy hk.1); (try clear hczg2 hfzg2 hczg8 hfzg8); have nOo7 := zA.mk (ObS.kept HOo7.out hk (by have := HNg2.out; have := HNo7.out; have := HNo10.out; have := HNo13.out; have := HNo17.out; have := HNg8.out; have := HNo20.out; have := HNo23.out; have := HNo30.out; have := HNo35.out; omega)); have nOo10 := zA.mk (ObR.kept HOo10.out hk (by have := HNg2.out; have := HNo7.out; have := HNo10.out; have := HNo13.out; have := HNo17.out; have := HNg8.out; have := HNo20.out; have := HNo23.out; have := HNo30.out; have := HNo35.out; omega)); have nOo13 := zA.mk (ObR.kept HOo13.out hk (by have := HNg2.out; have := HNo7.out; have := HNo10.out; have := HNo13.out; have := HNo17.out; have := HNg8.out; have := HNo20.out; have := HNo23.out; have := HNo30.out; have := HNo35.out; omega)); have nOo17 := zA.mk (ObS.kept HOo17.out hk (by have := HNg2.out; have := HNo7.out; have := HNo10.out; have := HNo13.out; have := HNo17.out; have := HNg8.out; have := HNo20.out; have := HNo23.out; have := HNo30.out; have := HNo35.out; omega)); have nOo23 := zA.mk (ObR.kept HOo23.out hk (by have := HNg2.out; have := HNo7.out; have := HNo10.out; have := HNo13.out; have := HNo17.out; have := HNg8.out; have := HNo20.out; have := HNo23.out; have := HNo30.out; have := HNo35.out; omega)); have nOo30 := zA.mk (ObS.kept HOo30.out hk (by have := HNg2.out; have := HNo7.out; have := HNo10.out; have := HNo13.out; have := HNo17.out; have := HNg8.out; have := HNo20.out; have := HNo23.out; have := HNo30.out; have := HNo35.out; omega)); have nOo35 := zA.mk (ObR.kept HOo35.out hk (by have := HNg2.out; have := HNo7.out; have := HNo10.out; have := HNo13.out; have := HNo17.out; have := HNg8.out; have := HNo20.out; have := HNo23.out; have := HNo30.out; have := HNo35.out; omega)); have nBg2 := zA.mk (Jz (g := g2) (o := .cells #[.slice A0 l0.length c0] 24 (0, 0)) BKg2.out hk (fun h_ => by have h1_ := h_.1; have h2_ := h_.2; have := HNg2.out; have := HNo7.out; have := HNo10.out; have := HNo13.out; have := HNo17.out; have := HNg8.out; have := HNo20.out; have := HNo23.out; have := HNo30.out; have := HNo35.out; omega)); have nBg8 := zA.mk (Jz (g := g8) (o := .cells #[.slice Ao17 t16.length co17] 30 (0, 0)) BKg8.out hk (fun h_ => by have h1_ := h_.1; have h2_ := h_.2; have := HNg2.out; have := HNo7.out; have := HNo10.out; have := HNo13.out; have := HNo17.out; have := HNg8.out; have := HNo20.out; have := HNo23.out; have := HNo30.out; have := HNo35.out; omega)); have nHT := zA.mk (Nat.le_trans HT.out hk.1); clear HB HT HOo7 HOo10 HOo13 HOo17 HOo20 HOo23 HOo30 HOo35 BKg2 BKg8; have HOo7 := nOo7; have HOo10 := nOo10; have HOo13 := nOo13; have HOo17 := nOo17; have HOo20 := nM; have HOo23 := nOo23; have HOo30 := nOo30; have HOo35 := nOo35; have BKg2 := nBg2; have BKg8 := nBg8; have HB := zA.mk hb; have HT := nHT; (try clear hy); clear hb hk0 hk nM nHT nOo7 nOo10 nOo13 nOo17 nOo23 nOo30 nOo35 nBg2 nBg8; have hczg2 : w17.cell? ⟨g2, 0, none⟩ = some (.slice A0 l0.length c0) := (zK BKg2.out 0).trans rfl; have hfzg2 := zL BKg2.out 0; have hczg8 : w17.cell? ⟨g8, 0, none⟩ = some (.slice Ao17 t16.length co17) := (zK BKg8.out 0).trans rfl; have hfzg8 := zL BKg8.out 0))
 try go_wp2_with (first | (go_at_call 27; (with_reducible refine (qF.calls k _ _ t22 _ _ t12 true _ ?side1 ?side2 ?side3 ?side4 H45.out).mono ?_); (case side1 => exact (ObR.reads HOo23.out).2.2); (case side2 => exact ObR.room HOo23.out); (case side3 => exact (ObR.reads HOo13.out).2.2); (case side4 => exact ObR.room HOo13.out); rintro e w18 ⟨rfl, hb⟩; (try clear hczg2 hfzg2 hczg8 hfzg8); have nOo7 := zA.mk (ObS.below HOo7.out hb); have nOo10 := zA.mk (ObR.below HOo10.out hb); have nOo13 := zA.mk (ObR.below HOo13.out hb); have nOo17 := zA.mk (ObS.below HOo17.out hb); have nOo20 := zA.mk (ObR.below HOo20.out hb); have nOo23 := zA.mk (ObR.below HOo23.out hb); have nOo30 := zA.mk (ObS.below HOo30.out hb); have nOo35 := zA.mk (ObR.below HOo35.out hb); have nBg2 := zA.mk (zP (g := g2) (o := .cells #[.slice A0 l0.length c0] 24 (0, 0)) BKg2.out hb); have nBg8 := zA.mk (zP (g := g8) (o := .cells #[.slice Ao17 t16.length co17] 30 (0, 0)) BKg8.out hb); have nHB := zA.mk (zN HB.out hb); have nHT := zA.mk (ZB HT.out hb); clear HB HT HOo7 HOo10 HOo13 HOo17 HOo20 HOo23 HOo30 HOo35 BKg2 BKg8; have HOo7 := nOo7; have HOo10 := nOo10; have HOo13 := nOo13; have HOo17 := nOo17; have HOo20 := nOo20; have HOo23 := nOo23; have HOo30 := nOo30; have HOo35 := nOo35; have BKg2 := nBg2; have BKg8 := nBg8; have HB := nHB; have HT := nHT; clear nHB nHT nOo7 nOo10 nOo13 nOo17 nOo20 nOo23 nOo30 nOo35 nBg2 nBg8; (try clear hb); (try clear hnd); have hczg2 : w18.cell? ⟨g2, 0, none⟩ = some (.slice A0 l0.length c0) := (zK BKg2.out 0).trans rfl; have hfzg2 := zL BKg2.out 0; have hczg8 : w18.cell? ⟨g8, 0, none⟩ = some (.slice Ao17 t16.length co17) := (zK BKg8.out 0).trans rfl; have hfzg8 := zL BKg8.out 0) | ((with_reducible refine zS (f := 30) rfl ?_); refine qB (some 83) rfl rfl Try.func30 (by kernel_rfl) rfl #[.slice Ao23 t22.length co23, .int .i64 1] rfl (by (try simp only [yiy, yjy, yky]); first | done | rfl | (simp only [yly, ymy]; rfl)) ?_; (with_reducible refine (qa.calls k (fun k_ => some k_ = (.slice Ao23 t22.length co23 : Value).ownBlock) (.slice Ao23 t22.length co23) t22 1 m49 y50 w _ HB.out (Kd.JA rfl (ObR.row HOo23.out)) H48.out).mono ?_); rintro e w19 ⟨rfl, hy, hb, hk0⟩; refine ⟨_, rfl, ?_⟩; have hk := ObR.range HOo23.out hk0; have nM := zA.mk (ObR.marked HOo23.out rfl hy hk.1); (try clear hczg2 hfzg2 hczg8 hfzg8); have nOo7 := zA.mk (ObS.kept HOo7.out hk (by have := HNg2.out; have := HNo7.out; have := HNo10.out; have := HNo13.out; have := HNo17.out; have := HNg8.out; have := HNo20.out; have := HNo23.out; have := HNo30.out; have := HNo35.out; omega)); have nOo10 := zA.mk (ObR.kept HOo10.out hk (by have := HNg2.out; have := HNo7.out; have := HNo10.out; have := HNo13.out; have := HNo17.out; have := HNg8.out; have := HNo20.out; have := HNo23.out; have := HNo30.out; have := HNo35.out; omega)); have nOo13 := zA.mk (ObR.kept HOo13.out hk (by have := HNg2.out; have := HNo7.out; have := HNo10.out; have := HNo13.out; have := HNo17.out; have := HNg8.out; have := HNo20.out; have := HNo23.out; have := HNo30.out; have := HNo35.out; omega)); have nOo17 := zA.mk (ObS.kept HOo17.out hk (by have := HNg2.out; have := HNo7.out; have := HNo10.out; have := HNo13.out; have := HNo17.out; have := HNg8.out; have := HNo20.out; have := HNo23.out; have := HNo30.out; have := HNo35.out; omega)); have nOo20 := zA.mk (ObR.kept HOo20.out hk (by have := HNg2.out; have := HNo7.out; have := HNo10.out; have := HNo13.out; have := HNo17.out; have := HNg8.out; have := HNo20.out; have := HNo23.out; have := HNo30.out; have := HNo35.out; omega)); have nOo30 := zA.mk (ObS.kept HOo30.out hk (by have := HNg2.out; have := HNo7.out; have := HNo10.out; have := HNo13.out; have := HNo17.out; have := HNg8.out; have := HNo20.out; have := HNo23.out; have := HNo30.out; have := HNo35.out; omega)); have nOo35 := zA.mk (ObR.kept HOo35.out hk (by have := HNg2.out; have := HNo7.out; have := HNo10.out; have := HNo13.out; have := HNo17.out; have := HNg8.out; have := HNo20.out; have := HNo23.out; have := HNo30.out; have := HNo35.out; omega)); have nBg2 := zA.mk (Jz (g := g2) (o := .cells #[.slice A0 l0.length c0] 24 (0, 0)) BKg2.out hk (fun h_ => by have h1_ := h_.1; have h2_ := h_.2; have := HNg2.out; have := HNo7.out; have := HNo10.out; have := HNo13.out; have := HNo17.out; have := HNg8.out; have := HNo20.out; have := HNo23.out; have := HNo30.out; have := HNo35.out; omega)); have nBg8 := zA.mk (Jz (g := g8) (o := .cells #[.slice Ao17 t16.length co17] 30 (0, 0)) BKg8.out hk (fun h_ => by have h1_ := h_.1; have h2_ := h_.2; have := HNg2.out; have := HNo7.out; have := HNo10.out; have := HNo13.out; have := HNo17.out; have := HNg8.out; have := HNo20.out; have := HNo23.out; have := HNo30.out; have := HNo35.out; omega)); have nHT := zA.mk (Nat.le_trans HT.out hk.1); clear HB HT HOo7 HOo10 HOo13 HOo17 HOo20 HOo23 HOo30 HOo35 BKg2 BKg8; have HOo7 := nOo7; have HOo10 := nOo10; have HOo13 := nOo13; have HOo17 := nOo17; have HOo20 := nOo20; have HOo23 := nM; have HOo30 := nOo30; have HOo35 := nOo35; have BKg2 := nBg2; have BKg8 := nBg8; have HB := zA.mk hb; have HT := nHT; (try clear hy); clear hb hk0 hk nM nHT nOo7 nOo10 nOo13 nOo17 nOo20 nOo30 nOo35 nBg2 nBg8; have hczg2 : w19.cell? ⟨g2, 0, none⟩ = some (.slice A0 l0.length c0) := (zK BKg2.out 0).trans rfl; have hfzg2 := zL BKg2.out 0; have hczg8 : w19.cell? ⟨g8, 0, none⟩ = some (.slice Ao17 t16.length co17) := (zK BKg8.out 0).trans rfl; have hfzg8 := zL BKg8.out 0) | ((with_reducible refine zS (f := 31) rfl ?_); refine qB (some 86) rfl rfl Try.func31 (by kernel_rfl) rfl #[.slice Ao23 y50.length co23, .int .i64 1] rfl (by (try simp only [yiy, yjy, yky]); first | done | (rw [show y50.length = t22.length from (ObR.reads HOo23.out).1.symm] <;> rfl) | rfl | (simp only [yly, ymy]; rfl)) ?_; (with_reducible refine (qi.calls k _ _ y50 1 t52 _ ?side1 ?side2 H51.out).mono ?_); (case side1 => exact (ObR.reads HOo23.out).2.2); (case side2 => exact ObR.room HOo23.out); rintro e w20 ⟨rfl, ⟨nd, hnd⟩⟩; refine ⟨_, rfl, ?_⟩; have hb := JE hnd; (try clear hczg2 hfzg2 hczg8 hfzg8); have nOo7 := zA.mk (ObS.below HOo7.out hb); have nOo10 := zA.mk (ObR.below HOo10.out hb); have nOo13 := zA.mk (ObR.below HOo13.out hb); have nOo17 := zA.mk (ObS.below HOo17.out hb); have nOo20 := zA.mk (ObR.below HOo20.out hb); have nOo23 := zA.mk (ObR.below HOo23.out hb); have nOo30 := zA.mk (ObS.below HOo30.out hb); have nOo35 := zA.mk (ObR.below HOo35.out hb); have nBg2 := zA.mk (zP (g := g2) (o := .cells #[.slice A0 l0.length c0] 24 (0, 0)) BKg2.out hb); have nBg8 := zA.mk (zP (g := g8) (o := .cells #[.slice Ao17 t16.length co17] 30 (0, 0)) BKg8.out hb); have nHB := zA.mk (zN HB.out hb); have nHT := zA.mk (ZB HT.out hb); clear HB HT HOo7 HOo10 HOo13 HOo17 HOo20 HOo23 HOo30 HOo35 BKg2 BKg8; have HOo7 := nOo7; have HOo10 := nOo10; have HOo13 := nOo13; have HOo17 := nOo17; have HOo20 := nOo20; have HOo23 := nOo23; have HOo30 := nOo30; have HOo35 := nOo35; have BKg2 := nBg2; have BKg8 := nBg8; have HB := nHB; have HT := nHT; clear nHB nHT nOo7 nOo10 nOo13 nOo17 nOo20 nOo23 nOo30 nOo35 nBg2 nBg8; (try clear hb); (try clear hnd); have hczg2 : w20.cell? ⟨g2, 0, none⟩ = some (.slice A0 l0.length c0) := (zK BKg2.out 0).trans rfl; have hfzg2 := zL BKg2.out 0; have hczg8 : w20.cell? ⟨g8, 0, none⟩ = some (.slice Ao17 t16.length co17) := (zK BKg8.out 0).trans rfl; have hfzg8 := zL BKg8.out 0) | ((with_reducible refine zS (f := 10) rfl ?_); refine qB (some 94) rfl rfl Try.func10 (by kernel_rfl) rfl #[.agg #[.slice A0 l0.length c0]] rfl (by (try simp only [yiy, yjy, yky]); first | done | rfl | (simp only [yly, ymy]; rfl)) ?_; (with_reducible refine (qf.calls k _ _ l0 t56 _ ?side1 ?side2 H55.out).mono ?_); (case side1 => exact Kd.ze HR0.out HB.out); (case side2 => exact HC0.out); rintro e w21 ⟨vo57, rfl, ho0, hb⟩; refine ⟨_, rfl, ?_⟩; (try clear hczg2 hfzg2 hczg8 hfzg8); obtain ⟨loo57, hio57, hno57⟩ := ObS.made ho0 hb HT.out (zO HB.out); have nOo7 := zA.mk (ObS.below HOo7.out hb); have nOo10 := zA.mk (ObR.below HOo10.out hb); have nOo13 := zA.mk (ObR.below HOo13.out hb); have nOo17 := zA.mk (ObS.below HOo17.out hb); have nOo20 := zA.mk (ObR.below HOo20.out hb); have nOo23 := zA.mk (ObR.below HOo23.out hb); have nOo30 := zA.mk (ObS.below HOo30.out hb); have nOo35 := zA.mk (ObR.below HOo35.out hb); have nBg2 := zA.mk (zP (g := g2) (o := .cells #[.slice A0 l0.length c0] 24 (0, 0)) BKg2.out hb); have nBg8 := zA.mk (zP (g := g8) (o := .cells #[.slice Ao17 t16.length co17] 30 (0, 0)) BKg8.out hb); have nHB := zA.mk (zN HB.out hb); have nHT := zA.mk (ZB HT.out hb); clear HB HT HOo7 HOo10 HOo13 HOo17 HOo20 HOo23 HOo30 HOo35 BKg2 BKg8; have HOo7 := nOo7; have HOo10 := nOo10; have HOo13 := nOo13; have HOo17 := nOo17; have HOo20 := nOo20; have HOo23 := nOo23; have HOo30 := nOo30; have HOo35 := nOo35; have BKg2 := nBg2; have BKg8 := nBg8; have HB := nHB; have HT := nHT; clear nHB nHT nOo7 nOo10 nOo13 nOo17 nOo20 nOo23 nOo30 nOo35 nBg2 nBg8; have HNo57 := zA.mk hno57.1; clear HT; have HT := zA.mk hno57.2.1; have HOo57 := zA.mk hno57.2.2; clear hno57 ho0; obtain ⟨Ao57, co57, eeo57⟩ := HOo57.out.slice; subst eeo57; (try clear hb); (try clear hnd); have hczg2 : w21.cell? ⟨g2, 0, none⟩ = some (.slice A0 l0.length c0) := (zK BKg2.out 0).trans rfl; have hfzg2 := zL BKg2.out 0; have hczg8 : w21.cell? ⟨g8, 0, none⟩ = some (.slice Ao17 t16.length co17) := (zK BKg8.out 0).trans rfl; have hfzg8 := zL BKg8.out 0) | ((with_reducible refine zS (f := 25) rfl ?_); refine qB (some 96) rfl rfl Try.func25 (by kernel_rfl) rfl #[.slice A1 l1.length c1] rfl (by (try simp only [yiy, yjy, yky]); first | done | rfl | (simp only [yly, ymy]; rfl)) ?_; (with_reducible refine (qM.calls k _ _ l1 t59 _ ?side1 ?side2 H58.out).mono ?_); (case side1 => exact Kd.ze HR1.out HB.out); (case side2 => exact HC1.out); rintro e w22 ⟨vo60, rfl, ho0, hb⟩; refine ⟨_, rfl, ?_⟩; (try clear hczg2 hfzg2 hczg8 hfzg8); obtain ⟨loo60, hio60, hno60⟩ := ObR.made ho0 hb HT.out (zO HB.out); have nOo7 := zA.mk (ObS.below HOo7.out hb); have nOo10 := zA.mk (ObR.below HOo10.out hb); have nOo13 := zA.mk (ObR.below HOo13.out hb); have nOo17 := zA.mk (ObS.below HOo17.out hb); have nOo20 := zA.mk (ObR.below HOo20.out hb); have nOo23 := zA.mk (ObR.below HOo23.out hb); have nOo30 := zA.mk (ObS.below HOo30.out hb); have nOo35 := zA.mk (ObR.below HOo35.out hb); have nOo57 := zA.mk (ObS.below HOo57.out hb); have nBg2 := zA.mk (zP (g := g2) (o := .cells #[.slice A0 l0.length c0] 24 (0, 0)) BKg2.out hb); have nBg8 := zA.mk (zP (g := g8) (o := .cells #[.slice Ao17 t16.length co17] 30 (0, 0)) BKg8.out hb); have nHB := zA.mk (zN HB.out hb); have nHT := zA.mk (ZB HT.out hb); clear HB HT HOo7 HOo10 HOo13 HOo17 HOo20 HOo23 HOo30 HOo35 HOo57 BKg2 BKg8; have HOo7 := nOo7; have HOo10 := nOo10; have HOo13 := nOo13; have HOo17 := nOo17; have HOo20 := nOo20; have HOo23 := nOo23; have HOo30 := nOo30; have HOo35 := nOo35; have HOo57 := nOo57; have BKg2 := nBg2; have BKg8 := nBg8; have HB := nHB; have HT := nHT; clear nHB nHT nOo7 nOo10 nOo13 nOo17 nOo20 nOo23 nOo30 nOo35 nOo57 nBg2 nBg8; have HNo60 := zA.mk hno60.1; clear HT; have HT := zA.mk hno60.2.1; have HOo60 := zA.mk hno60.2.2; clear hno60 ho0; obtain ⟨Ao60, co60, eeo60⟩ := HOo60.out.slice; subst eeo60; (try clear hb); (try clear hnd); have hczg2 : w22.cell? ⟨g2, 0, none⟩ = some (.slice A0 l0.length c0) := (zK BKg2.out 0).trans rfl; have hfzg2 := zL BKg2.out 0; have hczg8 : w22.cell? ⟨g8, 0, none⟩ = some (.slice Ao17 t16.length co17) := (zK BKg8.out 0).trans rfl; have hfzg8 := zL BKg8.out 0) | ((with_reducible refine zS (f := 26) rfl ?_); refine qB (some 97) rfl rfl Try.func26 (by kernel_rfl) rfl #[.agg #[.slice Ao57 t56.length co57], .slice Ao60 t59.length co60] rfl (by (try simp only [yiy, yjy, yky]); first | done | rfl | (simp only [yly, ymy]; rfl)) ?_; (with_reducible refine (Zo.calls k _ _ t56 _ _ t59 t62 t64 _ ?side1 ?side2 ?side3 ?side4 H61.out).mono ?_); (case side1 => exact (ObS.reads HOo57.out).2.2); (case side2 => exact ObS.room HOo57.out); (case side3 => exact (ObR.reads HOo60.out).2.2); (case side4 => exact ObR.room HOo60.out); rintro e w23 ⟨vo63, rfl, ho0, hb⟩; refine ⟨_, rfl, ?_⟩; (try clear hczg2 hfzg2 hczg8 hfzg8); obtain ⟨loo63, hio63, hno63⟩ := ObR.made ho0 hb HT.out (zO HB.out); have nOo7 := zA.mk (ObS.below HOo7.out hb); have nOo10 := zA.mk (ObR.below HOo10.out hb); have nOo13 := zA.mk (ObR.below HOo13.out hb); have nOo17 := zA.mk (ObS.below HOo17.out hb); have nOo20 := zA.mk (ObR.below HOo20.out hb); have nOo23 := zA.mk (ObR.below HOo23.out hb); have nOo30 := zA.mk (ObS.below HOo30.out hb); have nOo35 := zA.mk (ObR.below HOo35.out hb); have nOo57 := zA.mk (ObS.below HOo57.out hb); have nOo60 := zA.mk (ObR.below HOo60.out hb); have nBg2 := zA.mk (zP (g := g2) (o := .cells #[.slice A0 l0.length c0] 24 (0, 0)) BKg2.out hb); have nBg8 := zA.mk (zP (g := g8) (o := .cells #[.slice Ao17 t16.length co17] 30 (0, 0)) BKg8.out hb); have nHB := zA.mk (zN HB.out hb); have nHT := zA.mk (ZB HT.out hb); clear HB HT HOo7 HOo10 HOo13 HOo17 HOo20 HOo23 HOo30 HOo35 HOo57 HOo60 BKg2 BKg8; have HOo7 := nOo7; have HOo10 := nOo10; have HOo13 := nOo13; have HOo17 := nOo17; have HOo20 := nOo20; have HOo23 := nOo23; have HOo30 := nOo30; have HOo35 := nOo35; have HOo57 := nOo57; have HOo60 := nOo60; have BKg2 := nBg2; have BKg8 := nBg8; have HB := nHB; have HT := nHT; clear nHB nHT nOo7 nOo10 nOo13 nOo17 nOo20 nOo23 nOo30 nOo35 nOo57 nOo60 nBg2 nBg8; have HNo63 := zA.mk hno63.1; clear HT; have HT := zA.mk hno63.2.1; have HOo63 := zA.mk hno63.2.2; clear hno63 ho0; obtain ⟨Ao63, co63, eeo63⟩ := HOo63.out.slice; subst eeo63; (try clear hb); (try clear hnd); have hczg2 : w23.cell? ⟨g2, 0, none⟩ = some (.slice A0 l0.length c0) := (zK BKg2.out 0).trans rfl; have hfzg2 := zL BKg2.out 0; have hczg8 : w23.cell? ⟨g8, 0, none⟩ = some (.slice Ao17 t16.length co17) := (zK BKg8.out 0).trans rfl; have hfzg8 := zL BKg8.out 0) | ((with_reducible refine zS (f := 27) rfl ?_); refine qB (some 102) rfl rfl Try.func27 (by kernel_rfl) rfl #[.slice Ao63 t62.length co63, .slice Ao13 t12.length co13] rfl (by (try simp only [yiy, yjy, yky]); first | done | rfl | (simp only [yly, ymy]; rfl)) ?_; (with_reducible refine (qF.calls k _ _ t62 _ _ t12 true _ ?side1 ?side2 ?side3 ?side4 H65.out).mono ?_); (case side1 => exact (ObR.reads HOo63.out).2.2); (case side2 => exact ObR.room HOo63.out); (case side3 => exact (ObR.reads HOo13.out).2.2); (case side4 => exact ObR.room HOo13.out); rintro e w24 ⟨rfl, hb⟩; refine ⟨_, rfl, ?_⟩; (try clear hczg2 hfzg2 hczg8 hfzg8); have nOo7 := zA.mk (ObS.below HOo7.out hb); have nOo10 := zA.mk (ObR.below HOo10.out hb); have nOo13 := zA.mk (ObR.below HOo13.out hb); have nOo17 := zA.mk (ObS.below HOo17.out hb); have nOo20 := zA.mk (ObR.below HOo20.out hb); have nOo23 := zA.mk (ObR.below HOo23.out hb); have nOo30 := zA.mk (ObS.below HOo30.out hb); have nOo35 := zA.mk (ObR.below HOo35.out hb); have nOo57 := zA.mk (ObS.below HOo57.out hb); have nOo60 := zA.mk (ObR.below HOo60.out hb); have nOo63 := zA.mk (ObR.below HOo63.out hb); have nBg2 := zA.mk (zP (g := g2) (o := .cells #[.slice A0 l0.length c0] 24 (0, 0)) BKg2.out hb); have nBg8 := zA.mk (zP (g := g8) (o := .cells #[.slice Ao17 t16.length co17] 30 (0, 0)) BKg8.out hb); have nHB := zA.mk (zN HB.out hb); have nHT := zA.mk (ZB HT.out hb); clear HB HT HOo7 HOo10 HOo13 HOo17 HOo20 HOo23 HOo30 HOo35 HOo57 HOo60 HOo63 BKg2 BKg8; have HOo7 := nOo7; have HOo10 := nOo10; have HOo13 := nOo13; have HOo17 := nOo17; have HOo20 := nOo20; have HOo23 := nOo23; have HOo30 := nOo30; have HOo35 := nOo35; have HOo57 := nOo57; have HOo60 := nOo60; have HOo63 := nOo63; have BKg2 := nBg2; have BKg8 := nBg8; have HB := nHB; have HT := nHT; clear nHB nHT nOo7 nOo10 nOo13 nOo17 nOo20 nOo23 nOo30 nOo35 nOo57 nOo60 nOo63 nBg2 nBg8; (try clear hb); (try clear hnd); have hczg2 : w24.cell? ⟨g2, 0, none⟩ = some (.slice A0 l0.length c0) := (zK BKg2.out 0).trans rfl; have hfzg2 := zL BKg2.out 0; have hczg8 : w24.cell? ⟨g8, 0, none⟩ = some (.slice Ao17 t16.length co17) := (zK BKg8.out 0).trans rfl; have hfzg8 := zL BKg8.out 0) | ((with_reducible refine zS (f := 31) rfl ?_); refine qB (some 111) rfl rfl Try.func31 (by kernel_rfl) rfl #[.slice Ao23 y50.length co23, .int .i64 1] rfl (by (try simp only [yiy, yjy, yky]); first | done | (rw [show y50.length = t22.length from (ObR.reads HOo23.out).1.symm] <;> rfl) | rfl | (simp only [yly, ymy]; rfl)) ?_; (with_reducible refine (qi.calls k _ _ y50 1 t69 _ ?side1 ?side2 H68.out).mono ?_); (case side1 => exact (ObR.reads HOo23.out).2.2); (case side2 => exact ObR.room HOo23.out); rintro e w25 ⟨rfl, ⟨nd, hnd⟩⟩; refine ⟨_, rfl, ?_⟩; have hb := JE hnd; (try clear hczg2 hfzg2 hczg8 hfzg8); have nOo7 := zA.mk (ObS.below HOo7.out hb); have nOo10 := zA.mk (ObR.below HOo10.out hb); have nOo13 := zA.mk (ObR.below HOo13.out hb); have nOo17 := zA.mk (ObS.below HOo17.out hb); have nOo20 := zA.mk (ObR.below HOo20.out hb); have nOo23 := zA.mk (ObR.below HOo23.out hb); have nOo30 := zA.mk (ObS.below HOo30.out hb); have nOo35 := zA.mk (ObR.below HOo35.out hb); have nOo57 := zA.mk (ObS.below HOo57.out hb); have nOo60 := zA.mk (ObR.below HOo60.out hb); have nOo63 := zA.mk (ObR.below HOo63.out hb); have nBg2 := zA.mk (zP (g := g2) (o := .cells #[.slice A0 l0.length c0] 24 (0, 0)) BKg2.out hb); have nBg8 := zA.mk (zP (g := g8) (o := .cells #[.slice Ao17 t16.length co17] 30 (0, 0)) BKg8.out hb); have nHB := zA.mk (zN HB.out hb); have nHT := zA.mk (ZB HT.out hb); clear HB HT HOo7 HOo10 HOo13 HOo17 HOo20 HOo23 HOo30 HOo35 HOo57 HOo60 HOo63 BKg2 BKg8; have HOo7 := nOo7; have HOo10 := nOo10; have HOo13 := nOo13; have HOo17 := nOo17; have HOo20 := nOo20; have HOo23 := nOo23; have HOo30 := nOo30; have HOo35 := nOo35; have HOo57 := nOo57; have HOo60 := nOo60; have HOo63 := nOo63; have BKg2 := nBg2; have BKg8 := nBg8; have HB := nHB; have HT := nHT; clear nHB nHT nOo7 nOo10 nOo13 nOo17 nOo20 nOo23 nOo30 nOo35 nOo57 nOo60 nOo63 nBg2 nBg8; (try clear hb); (try clear hnd); have hczg2 : w25.cell? ⟨g2, 0, none⟩ = some (.slice A0 l0.length c0) := (zK BKg2.out 0).trans rfl; have hfzg2 := zL BKg2.out 0; have hczg8 : w25.cell? ⟨g8, 0, none⟩ = some (.slice Ao17 t16.length co17) := (zK BKg8.out 0).trans rfl; have hfzg8 := zL BKg8.out 0))
 go_ret
 exact ⟨by first | rfl | (simp <;> rfl), HB.out⟩
end Go.Proofs.Ytfnopcbicceeaaa.P
namespace Go.Proofs.Ytfnopcbicceeaaa.Lib
set_option linter.unusedVariables false
open Go.RowKit Go.Proofs.YtfnopcbicceeaaaW.PrintWords
theorem zDQ {σ ρ : Type} (L : Nat → σ → Option ρ) (I : σ → Prop) (m : σ → Nat) (g : σ → ρ)
    (h : ∀ s, I s → (∃ K, ∀ k, K ≤ k → L (k + 1) s = some (g s)) ∨ (∃ s' K, I s' ∧ m s' < m s ∧ g s' = g s ∧ ∀ k, K ≤ k → L (k + 1) s = L k s')) :
    ∀ s, I s → Ev (fun k => L k s) (g s) := by
  have key : ∀ (n : Nat) (s : σ), m s < n → I s → Ev (fun k => L k s) (g s) := by
    intro n
    induction n with
    | zero => intro s hs; omega
    | succ n ih =>
      intro s hs hi
      rcases h s hi with ⟨K, hK⟩ | ⟨s', K, hi', hm, hg, hK⟩
      · refine ⟨K + 1, fun k hk => ?_⟩
        obtain ⟨j, rfl⟩ : ∃ j, k = j + 1 := ⟨k - 1, by omega⟩
        exact hK j (by omega)
      · obtain ⟨K', hK'⟩ := ih s' (by omega) hi'
        refine ⟨max K K' + 1, fun k hk => ?_⟩
        obtain ⟨j, rfl⟩ : ∃ j, k = j + 1 := ⟨k - 1, by omega⟩
        show L (j + 1) s = some (g s)
        rw [hK j (by omega), ← hg]
        exact hK' j (by omega)
  intro s hi
  exact key (m s + 1) s (by omega) hi
theorem JV {σ ρ : Type} (L : Nat → σ → Option ρ) (I : σ → Prop) (m : σ → Nat) (g : σ → ρ)
    (h : ∀ s, I s → (∀ k, L (k + 1) s = some (g s)) ∨ (∃ s', I s' ∧ m s' < m s ∧ g s' = g s ∧ ∀ k, L (k + 1) s = L k s')) :
    ∀ s, I s → Ev (fun k => L k s) (g s) :=
  zDQ L I m g fun s hi => by
    rcases h s hi with h1 | ⟨s', h1, h2, h3, h4⟩
    · exact .inl ⟨0, fun k _ => h1 k⟩
    · exact .inr ⟨s', 0, h1, h2, h3, fun k _ => h4 k⟩
theorem qw {x : Int} (h0 : -9223372036854775808 ≤ x) (h1 : x ≤ 9223372036854775807) : wrap64 x = x := by
  unfold wrap64; omega
theorem ZD {n : Nat} (h : n ≤ 4611686018427387904) : wrap64 ((n : Int) + 1) = ((n + 1 : Nat) : Int) := by
  rw [qw (by omega) (by omega)]; rfl
theorem zDR (xs : List Int) (n : Nat) (h : n < xs.length) : rd xs (n : Int) = xs[n] := by simp [rd, h]
theorem ZL {α : Type} {c : Prop} [Decidable c] {f g : Nat → Option α} {r : α} (h : ¬ c) (k : Ev g r) : Ev (fun n => if c then f n else g n) r := Ev.congr (fun _ => if_neg h) k
theorem qg {α : Type} {c : Prop} [Decidable c] {f g : Nat → Option α} {r : α} (h : c) (k : Ev f r) : Ev (fun n => if c then f n else g n) r := Ev.congr (fun _ => if_pos h) k
theorem Jt {α : Type} {r r' : α} (h : r = r') : Ev (fun _ => some r) r' := h ▸ Ev.now r
theorem Qx {α : Type} {o : Option α} {r : α} (h : o = some r) : Ev (fun _ => o) r := ⟨0, fun _ _ => h⟩
theorem zCz {α : Type} {g : Nat → Option α} {r : α} (h : ∀ k, g k = some r) : Ev g r := ⟨0, fun k _ => h k⟩
theorem qU {α : Type} {g f : Nat → Option α} {r : α} (h : ∀ k, g (k + 1) = f k) (k : Ev f r) : Ev g r := Ev.step h k
theorem zDt {α : Type} {f : α → Option Bool} {p : α → Bool} : ∀ (i : Nat) (l : List α), (∀ x ∈ l, f x = some (p x)) → ∃ r, zEP f i l = some r ∧ decide (0 ≤ r) = l.any p
  | i, [], _ => ⟨-1, rfl, rfl⟩
  | i, x :: xs, h => by
    rw [zBD, h x (List.mem_cons_self ..), yfy]
    cases hp : p x with
    | true => exact ⟨i, by rw [if_pos rfl], by simp [hp]⟩
    | false =>
      obtain ⟨r, h1, h2⟩ := zDt (i + 1) xs (fun y hy => h y (List.mem_cons_of_mem _ hy))
      exact ⟨r, by rw [if_neg (by simp)]; exact h1, by rw [h2]; simp [hp]⟩
theorem contO {α : Type} {f : α → Option Bool} {p : α → Bool} (l : List α) (h : ∀ x ∈ l, f x = some (p x)) : (zEP f 0 l).bind (fun i => some (decide (0 ≤ i))) = some (l.any p) := by
  obtain ⟨r, h1, h2⟩ := zDt 0 l h
  rw [h1, yfy, h2]
def QJ (a : Int) : Nat → List Int
  | 0 => []
  | n + 1 => a :: QJ (a + 1) n
theorem JW (a : Int) (n : Nat) : (QJ a n).length = n := by
  induction n generalizing a with
  | zero => rfl
  | succ n ih => simp [QJ, ih]
theorem zDS (a : Int) (n : Nat) : QJ a (n + 1) = QJ a n ++ [a + n] := by
  induction n generalizing a with
  | zero => simp [QJ]
  | succ n ih => rw [QJ, ih (a + 1)]; simp [QJ]; omega
end Go.Proofs.Ytfnopcbicceeaaa.Lib
namespace Go.Proofs.Ytfnopcbicceeaaa.P
open Go.RowKit Go.Proofs.YtfnopcbicceeaaaW.PrintWords Go.Proofs.Ytfnopcbicceeaaa.Lib
set_option linter.unusedVariables false
theorem zAZ (a b c : Int) : ZG.f a b c = some (decide (b ≤ a) && decide (a ≤ c)) := by
  unfold ZG.f
  by_cases h : b ≤ a <;> simp [h]
theorem zFl (a b c : Int) : QC.f a b c = some (decide (b ≤ a) && decide (a ≤ c)) := by
  unfold QC.f
  by_cases h : b ≤ a <;> simp [h]
theorem zDT (a : Int) : ZZ.f a = some (decide (0 ≤ a) && decide (a ≤ 23)) := by
  unfold ZZ.f
  by_cases h : 0 ≤ a
  · rw [if_pos h]; simp [h]; omega
  · rw [if_neg h]; simp [h]
theorem zF2 (a : Int) : Zr.f a = some (decide (0 ≤ a) && decide (a ≤ 23)) := by
  unfold Zr.f; rw [zAZ]; rfl
theorem zG6 {p : Int} (h0 : 0 ≤ p) (h1 : p ≤ 23) : ∃ m : Fin 24, p = (m.val : Int) := ⟨⟨p.toNat, by omega⟩, by simp; omega⟩
theorem zD0 {p : Int} (h0 : 0 ≤ p) (h1 : p ≤ 23) : Ev (fun k => zV.f k p) (ZN p) := by
  obtain ⟨m, rfl⟩ := zG6 h0 h1
  have key : ∀ m : Fin 24, zV.f 5 (m.val : Int) = some (ZN (m.val : Int)) := by decide +kernel
  exact Ev.of (fun k => zV.mono _ k) (key m)
theorem zF3 (p : Int) : (ZN p).length = 4 := rfl
theorem zAN {p f : Int} (h0 : 0 ≤ p) (h1 : p ≤ 23) (hf0 : 0 ≤ f) (hf1 : f ≤ 3) : 0 ≤ rd (ZN p) f ∧ rd (ZN p) f ≤ 3 := by
  obtain ⟨a, b, c, d⟩ := zBB p h0 h1
  exact zBm a b c d f hf0 hf1
theorem zAv {p f : Int} (h0 : 0 ≤ p) (h1 : p ≤ 23) (hf0 : 0 ≤ f) (hf1 : f ≤ 3) : Ev (fun k => ZC.f k p f) (rd (ZN p) f) := by
  refine Ev.bind (zD0 h0 h1) ?_
  exact qg hf0 (qg (by rw [zF3]; omega) (Ev.now _))
theorem zEQ {p : Int} (h0 : 0 ≤ p) (h1 : p ≤ 23) : Ev (fun k => qD.f k p) (zEM p) := by
  obtain ⟨m, rfl⟩ := zG6 h0 h1
  have key : ∀ m : Fin 24, qD.f 40 (m.val : Int) = some (zEM (m.val : Int)) := by decide +kernel
  exact Ev.of (fun k => qD.mono _ k) (key m)
theorem zF4 {q p f : Int} (h0 : 0 ≤ p) (h1 : p ≤ 23) (hf0 : 0 ≤ f) (hf1 : f ≤ 3) : ZK.f q p f = some (rd (ZN p) f) := if_pos ⟨h0, h1, hf0, hf1⟩
theorem zER {q p a : Int} (h0 : 0 ≤ p) (h1 : p ≤ 23) : qy.f q p a = some (a, zEM p) := by
  unfold qy.f QM.f
  rw [if_pos ⟨h0, h1⟩]; rfl
abbrev Tri := List (List zq)
def Small (t : Tri) : Prop := t.length ≤ 1048576 ∧ ∀ r ∈ t, r.length ≤ 1048576
def zDu (t : List (List qR)) : Prop := t.length ≤ 1048576 ∧ ∀ r ∈ t, r.length ≤ 1048576
def Fits (t : List (List qR)) : Prop := t.length ≤ 9223372036854775807 ∧ ∀ r ∈ t, r.length ≤ 9223372036854775807
theorem JF (t : List (List qR)) (n : Nat) (h : n < t.length) : ZQ t (n : Int) = t[n] := by simp [ZQ, h]
theorem Qt (t : Tri) (n : Nat) (h : n < t.length) : zE t (n : Int) = t[n] := by simp [zE, h]
theorem zCP (t : List qR) (n : Nat) (h : n < t.length) : Zt t (n : Int) = t[n] := by simp [Zt, h]
theorem zAa (t : List zq) (n : Nat) (h : n < t.length) : zG t (n : Int) = t[n] := by simp [zG, h]
theorem zBo (r : List qR) (a : Int) (h0 : 0 ≤ a) (h1 : a ≤ 1048576) (h : r.length ≤ 9223372036854775807) : Zy.f r a = some (if a - r.length < 0 then -1 else a - r.length) := by
  unfold Zy.f
  rw [qw (by omega) (by omega)]
  split <;> rfl
theorem zDU (t : List (List qR)) (h : Fits t) (hl : t.length ≤ 1048576) : ∃ r, Ev (fun k => qT.l0 k t (1048576 - t.length) 0) r ∧ (0 ≤ r → ∀ x ∈ t, x.length ≤ 1048576) := by
  have key : ∀ d n : Nat, ∀ a : Int, n + d = t.length → 0 ≤ a → a ≤ 1048576 → ∃ r, Ev (fun k => qT.l0 k t a (n : Int)) r ∧ (0 ≤ r → ∀ x ∈ t.drop n, x.length ≤ 1048576) := by
    intro d
    induction d with
    | zero =>
      intro n a hn h0 h1
      refine ⟨a, qU (f := fun _ => some a) (fun k => ?_) (Ev.now a), fun _ x hx => ?_⟩
      · simp only [qT.l0]; rw [if_neg (by omega)]
      · rw [List.drop_eq_nil_of_le (by omega)] at hx; cases hx
    | succ d ih =>
      intro n a hn h0 h1
      have hlt : n < t.length := by omega
      have hf := h.2 t[n] (List.getElem_mem hlt)
      by_cases hc : a - t[n].length < 0
      · refine ⟨-1, qU (f := fun _ => some (-1)) (fun k => ?_) (Ev.now (-1)), fun h => by omega⟩
        simp only [qT.l0]
        rw [if_pos (by omega), if_pos (by omega), JF t n hlt, zBo _ a h0 h1 hf, yfy, if_pos hc]
        rfl
      · obtain ⟨r, hr, hr2⟩ := ih (n + 1) (a - t[n].length) (by omega) (by omega) (by omega)
        refine ⟨r, qU (fun k => ?_) hr, fun h x hx => ?_⟩
        · simp only [qT.l0]
          rw [if_pos (by omega), if_pos (by omega), JF t n hlt, zBo _ a h0 h1 hf, yfy, if_neg hc, if_neg (by omega), ZD (by omega)]
        · rw [yoy hlt] at hx
          rcases List.mem_cons.1 hx with rfl | hx
          · omega
          · exact hr2 h x hx
  obtain ⟨r, hr, hr2⟩ := key t.length 0 (1048576 - t.length) (by omega) (by omega) (by omega)
  exact ⟨r, hr, fun h => by have := hr2 h; rwa [List.drop_zero] at this⟩
theorem zAO (t : List (List qR)) (h : Fits t) : ∃ r, Ev (fun k => ZU.f k t 1048576) r ∧ (¬ r < 0 → zDu t) := by
  by_cases hl : (1048576 - (t.length : Int)) < 0
  · refine ⟨-1, ?_, fun h => by omega⟩
    refine Ev.bind (a := -1) (zCz (fun k => ?_)) (qg (by omega) (Ev.now _))
    unfold qT.f
    have := h.1
    rw [qw (by omega) (by omega), if_pos hl]
  · obtain ⟨r, hr, hr2⟩ := zDU t h (by omega)
    have h2 : Ev (fun k => qT.f k t 1048576) r := by
      refine Ev.congr (fun k => ?_) hr
      unfold qT.f
      rw [qw (by omega) (by omega), if_neg hl]
    by_cases hn : r < 0
    · exact ⟨-1, Ev.bind h2 (qg hn (Ev.now _)), fun h => by omega⟩
    · exact ⟨r, Ev.bind h2 (ZL hn (Ev.now _)), fun _ => ⟨by omega, hr2 (by omega)⟩⟩
def cvF (x : qR) : zq := ⟨x.f0, x.f1⟩
def cvR (r : List qR) : List zq := r.map cvF
def cvT (t : List (List qR)) : Tri := t.map cvR
theorem zF5 {t : List (List qR)} (h : zDu t) : Small (cvT t) := by
  refine ⟨by simp [cvT]; exact h.1, fun r hr => ?_⟩
  obtain ⟨s, hs, rfl⟩ := List.mem_map.1 hr
  simp [cvR]; exact h.2 s hs
theorem zAo {α β : Type} (f : α → β) (l : List α) (z : β) (n : Nat) (h : n < l.length) :
    ((l.take n).map f ++ List.replicate (l.length - n) z).set n (f l[n]) = (l.take (n + 1)).map f ++ List.replicate (l.length - (n + 1)) z := by
  have e : l.length - n = (l.length - (n + 1)) + 1 := by omega
  rw [e, List.replicate_succ, List.set_append_right _ _ (by simp; omega)]
  have : n - ((l.take n).map f).length = 0 := by simp; omega
  rw [this, yby, List.take_succ_eq_append_getElem h, List.map_append, List.append_assoc]
  rfl
theorem zES (l : List qR) (h : l.length ≤ 1048576) : Ev (fun k => qj.f k l) (cvR l) := by
  have hl : Ev (fun k => qj.l0 k l (List.replicate l.length Jc) 0) (cvR l) := by
    refine JV (fun k (s : List zq × Int) => qj.l0 k l s.1 s.2) (fun s => ∃ n : Nat, n ≤ l.length ∧ s.2 = n ∧ s.1 = (l.take n).map cvF ++ List.replicate (l.length - n) Jc) (fun s => l.length - s.2.toNat) (fun _ => cvR l) ?_ (List.replicate l.length Jc, 0) ⟨0, by omega, rfl, by simp⟩
    rintro ⟨a, i⟩ ⟨n, hn, rfl, rfl⟩
    dsimp only
    by_cases hlt : n < l.length
    · refine .inr ⟨((l.take (n + 1)).map cvF ++ List.replicate (l.length - (n + 1)) Jc, ((n + 1 : Nat) : Int)), ⟨n + 1, by omega, rfl, rfl⟩, by simp; omega, rfl, fun k => ?_⟩
      simp only [qj.l0, Qs.f, yfy]
      rw [if_pos (by omega), if_pos (by omega), if_pos (by simp; omega), ZD (by omega), yny, zCP l n hlt]
      have := zAo cvF l Jc n hlt
      rw [← this]
      rfl
    · obtain rfl : n = l.length := by omega
      refine .inl fun k => ?_
      simp only [qj.l0]
      rw [if_neg (by omega)]
      simp [cvR]
  refine Ev.congr (fun k => ?_) hl
  unfold qj.f
  rw [if_pos (by omega), if_pos (by simp; omega), yny]
theorem zDV (l : List (List qR)) (h : zDu l) : Ev (fun k => qV.f k l) (cvT l) := by
  have hl : Ev (fun k => qV.l0 k l (List.replicate l.length []) 0) (cvT l) := by
    refine zDQ (fun k (s : Tri × Int) => qV.l0 k l s.1 s.2) (fun s => ∃ n : Nat, n ≤ l.length ∧ s.2 = n ∧ s.1 = (l.take n).map cvR ++ List.replicate (l.length - n) []) (fun s => l.length - s.2.toNat) (fun _ => cvT l) ?_ (List.replicate l.length [], 0) ⟨0, by omega, rfl, by simp⟩
    rintro ⟨a, i⟩ ⟨n, hn, rfl, rfl⟩
    dsimp only
    by_cases hlt : n < l.length
    · obtain ⟨K, hK⟩ := zES l[n] (h.2 _ (List.getElem_mem hlt))
      refine .inr ⟨((l.take (n + 1)).map cvR ++ List.replicate (l.length - (n + 1)) [], ((n + 1 : Nat) : Int)), K, ⟨n + 1, by omega, rfl, rfl⟩, by simp; omega, rfl, fun k hk => ?_⟩
      have e : qj.f k l[n] = some _ := hK k hk
      have h1 := h.1
      simp only [qV.l0]
      rw [if_pos (by omega), if_pos (by omega), JF l n hlt, e, yfy, if_pos (by simp; omega), ZD (by omega), yny, zAo cvR l [] n hlt]
    · obtain rfl : n = l.length := by omega
      refine .inl ⟨0, fun k _ => ?_⟩
      simp only [qV.l0]
      rw [if_neg (by omega)]
      simp [cvT]
  have h1 := h.1
  refine Ev.congr (fun k => ?_) hl
  unfold qV.f
  rw [if_pos (by omega), if_pos (by simp; omega), yny]
theorem zAP (l : List (List qR)) (h : zDu l) : Ev (fun k => qf.f k l) (cvT l) := Ev.bind (zDV l h) (Ev.now _)
theorem zET (l : List zq) (h : l.length ≤ 1048576) : Ev (fun k => qG.f k l l) true := by
  have hl : Ev (fun k => qG.l0 k l l 0) true := by
    refine JV (fun k (s : Int) => qG.l0 k l l s) (fun s => ∃ n : Nat, n ≤ l.length ∧ s = n) (fun s => l.length - s.toNat) (fun _ => true) ?_ 0 ⟨0, by omega, rfl⟩
    rintro i ⟨n, hn, rfl⟩
    by_cases hlt : n < l.length
    · refine .inr ⟨((n + 1 : Nat) : Int), ⟨n + 1, by omega, rfl⟩, by simp; omega, rfl, fun k => ?_⟩
      simp only [qG.l0, QY.f]
      rw [if_pos (by omega), if_pos (by omega), if_pos (by omega), if_pos trivial, if_pos trivial, yfy, if_pos rfl, ZD (by omega)]
    · refine .inl fun k => ?_
      simp only [qG.l0]
      rw [if_neg (by omega)]
  refine Ev.congr (fun k => ?_) hl
  unfold qG.f
  rw [if_pos rfl]
theorem zAQ (l : Tri) (h : Small l) : Ev (fun k => Zc.f k l l) true := by
  have hl : Ev (fun k => zy.l0 k l l 0) true := by
    refine zDQ (fun k (s : Int) => zy.l0 k l l s) (fun s => ∃ n : Nat, n ≤ l.length ∧ s = n) (fun s => l.length - s.toNat) (fun _ => true) ?_ 0 ⟨0, by omega, rfl⟩
    rintro i ⟨n, hn, rfl⟩
    by_cases hlt : n < l.length
    · obtain ⟨K, hK⟩ := zET l[n] (h.2 _ (List.getElem_mem hlt))
      refine .inr ⟨((n + 1 : Nat) : Int), K, ⟨n + 1, by omega, rfl⟩, by simp; omega, rfl, fun k hk => ?_⟩
      have e : qG.f k l[n] l[n] = some _ := hK k hk
      have h1 := h.1
      simp only [zy.l0]
      rw [if_pos (by omega), if_pos (by omega), if_pos (by omega), Qt l n hlt, e, yfy, if_pos rfl, ZD (by omega)]
    · refine .inl ⟨0, fun k _ => ?_⟩
      simp only [zy.l0]
      rw [if_neg (by omega)]
  have h2 : Ev (fun k => zy.f k l l) true := by
    refine Ev.congr (fun k => ?_) hl
    unfold zy.f
    rw [if_pos rfl]
  exact Ev.bind h2 (qg rfl (Ev.now _))
abbrev fc (t : Tri) (a f : Int) : zq := zG (zE t a) f
def zAr (t : Tri) (a f : Int) : Bool :=
  if (fc t a f).f0 = -1 then (fc t a f).f1 == 0
  else if 0 ≤ (fc t a f).f0 ∧ (fc t a f).f0 < (t.length : Int) ∧ 0 ≤ (fc t a f).f1 ∧ (fc t a f).f1 ≤ 23 then
    ((fc t (fc t a f).f0 (rd (ZN (fc t a f).f1) f)).f0 == a && (fc t (fc t a f).f0 (rd (ZN (fc t a f).f1) f)).f1 == zEM (fc t a f).f1) && !((fc t a f).f0 == a && rd (ZN (fc t a f).f1) f == f)
  else false
def JM (t : Tri) (a : Int) : Int → Nat → Bool
  | _, 0 => true
  | f, d + 1 => zAr t a f && JM t a (f + 1) d
def zA4 (t : Tri) : Int → Nat → Bool
  | _, 0 => true
  | a, d + 1 => JM t a 0 4 && zA4 t (a + 1) d
def QR (t : Tri) : Bool := decide (t.length ≤ 8) && (t.all (fun r => decide (r.length = 4)) && zA4 t 0 t.length)
section
variable {t : Tri}
theorem zGZ (h4 : ∀ r ∈ t, r.length = 4) {a : Int} (h0 : 0 ≤ a) (h1 : a < t.length) : (zE t a).length = 4 := by
  obtain ⟨n, rfl⟩ := Int.eq_ofNat_of_zero_le h0
  rw [Qt t n (by omega)]
  exact h4 _ (List.getElem_mem _)
theorem zBV (h4 : ∀ r ∈ t, r.length = 4) (hn : t.length ≤ 8) {a f : Int} (h0 : 0 ≤ a) (h1 : a < t.length) (hf0 : 0 ≤ f) (hf1 : f ≤ 3) : Ev (fun k => zT.f k t a f) (zAr t a f) := by
  have hr := zGZ h4 h0 h1
  refine Ev.congr (fun k => by unfold zT.f; rw [if_pos h0, if_pos h1, if_pos hf0, if_pos (by omega)]) ?_
  change Ev (fun k => if (fc t a f).f0 = -1 then some ((fc t a f).f1 == 0) else _) (zAr t a f)
  unfold zAr
  by_cases hb : (fc t a f).f0 = -1
  · rw [if_pos hb]; exact qg hb (Ev.now _)
  · refine ZL hb ?_
    rw [if_neg hb]
    have hix : qo.f t (fc t a f).f0 = some (decide (0 ≤ (fc t a f).f0) && decide ((fc t a f).f0 ≤ (t.length : Int) - 1)) := by
      unfold qo.f qp.f
      rw [yfy, qw (by omega) (by omega), zAZ]; rfl
    have hfalse : Ev (fun k => zT.j0 k a f true t (fc t a f).f0 (fc t a f).f1) false := qU (fun k => by rw [zT.j0, if_pos rfl]) (Ev.now false)
    refine Ev.bind (Qx hix) ?_
    by_cases hi : 0 ≤ (fc t a f).f0 ∧ (fc t a f).f0 < (t.length : Int)
    · refine qg (by simp; omega) ?_
      refine Ev.bind (Qx (zF2 _)) ?_
      by_cases hp : 0 ≤ (fc t a f).f1 ∧ (fc t a f).f1 ≤ 23
      · rw [if_pos ⟨hi.1, hi.2, hp.1, hp.2⟩]
        have e : (!(decide (0 ≤ (fc t a f).f1) && decide ((fc t a f).f1 ≤ 23))) = false := by simp [hp]
        rw [e]
        refine qU (fun k => by rw [zT.j0, if_neg (by simp), zF4 hp.1 hp.2 hf0 hf1, yfy]) ?_
        obtain ⟨hg0, hg1⟩ := zAN hp.1 hp.2 hf0 hf1
        have hr2 := zGZ h4 hi.1 hi.2
        refine qg hi.1 (qg hi.2 (qg hg0 (qg (by rw [hr2]; omega) ?_)))
        refine Ev.bind (Qx (zER hp.1 hp.2)) ?_
        change Ev (fun k => if ((fc t (fc t a f).f0 (rd (ZN (fc t a f).f1) f)).f0 == a && (fc t (fc t a f).f0 (rd (ZN (fc t a f).f1) f)).f1 == zEM (fc t a f).f1) = true then _ else _) _
        generalize ((fc t (fc t a f).f0 (rd (ZN (fc t a f).f1) f)).f0 == a && (fc t (fc t a f).f0 (rd (ZN (fc t a f).f1) f)).f1 == zEM (fc t a f).f1) = b
        cases b with
        | false => refine ZL (by simp) ?_; rw [Bool.false_and]; exact Ev.now false
        | true =>
          refine qg rfl ?_
          rw [Bool.true_and]
          by_cases ha : (fc t a f).f0 = a
          · refine qg ha (Jt ?_)
            rw [ha]; simp [bne]
          · refine ZL ha (Jt ?_)
            simp [ha]
      · rw [if_neg (by omega)]
        have e : (!(decide (0 ≤ (fc t a f).f1) && decide ((fc t a f).f1 ≤ 23))) = true := by
          rw [Bool.not_eq_true', Bool.and_eq_false_iff, decide_eq_false_iff_not, decide_eq_false_iff_not]; omega
        rw [e]
        exact hfalse
    · rw [if_neg (by omega)]
      refine ZL ?_ hfalse
      rw [Bool.and_eq_true, decide_eq_true_eq, decide_eq_true_eq]; omega
theorem zBp (h4 : ∀ r ∈ t, r.length = 4) (hn : t.length ≤ 8) {a : Int} (h0 : 0 ≤ a) (h1 : a < t.length) {R : Bool} (hR : Ev (fun k => zU.l0 k (t.length : Int) (a + 1) t) R) :
    ∀ (d : Nat) (f : Int), 0 ≤ f → f + d = 4 → Ev (fun k => zU.l1 k a (t.length : Int) a f t) (JM t a f d && R)
  | 0, f, hf, he => by
    refine qU (fun k => by rw [zU.l1, if_neg (by omega), qw (by omega) (by omega)]) ?_
    rw [JM, Bool.true_and]; exact hR
  | d + 1, f, hf, he => by
    refine qU (fun k => by rw [zU.l1, if_pos (by omega)]) ?_
    refine Ev.bind (zBV h4 hn h0 h1 hf (by omega)) ?_
    rw [JM]
    cases hg : zAr t a f with
    | false => exact ZL (by simp) (by rw [Bool.false_and, Bool.false_and]; exact Ev.now false)
    | true =>
      refine qg rfl ?_
      rw [Bool.true_and]
      exact Ev.congr (fun k => by rw [qw (by omega) (by omega)]) (zBp h4 hn h0 h1 hR d (f + 1) (by omega) (by omega))
theorem zBq (h4 : ∀ r ∈ t, r.length = 4) (hn : t.length ≤ 8) : ∀ (d : Nat) (a : Int), 0 ≤ a → a + d = t.length → Ev (fun k => zU.l0 k (t.length : Int) a t) (zA4 t a d)
  | 0, a, ha, he => by
    refine qU (fun k => by rw [zU.l0, if_neg (by omega)]) ?_
    exact Ev.now true
  | d + 1, a, ha, he => by
    refine qU (fun k => by rw [zU.l0, if_pos (by omega)]) ?_
    rw [zA4]
    exact zBp h4 hn ha (by omega) (zBq h4 hn d (a + 1) (by omega) (by omega)) 4 0 (by omega) (by omega)
theorem zCQ : t.all (fun r => decide (r.length = 4)) = true ↔ ∀ r ∈ t, r.length = 4 := by simp
theorem zF6 (h : Small t) : zh.f t = some (!(t.all fun r => decide (r.length = 4))) := by
  unfold zh.f qC.f
  rw [contO (p := fun r => !(decide (r.length = 4))) t (fun r _ => by
    show qn.f r = _
    unfold qn.f
    congr 1
    by_cases h : r.length = 4
    · simp [h]
    · have : ¬ ((r.length : Int) = 4) := by omega
      simp [h, this]), List.not_all_eq_any_not]
theorem zCR (h : Small t) : Ev (fun k => zU.f k t) (QR t) := by
  have hfalse : Ev (fun k => zU.j0 k true t) false := qU (fun k => by rw [zU.j0, if_pos rfl]) (Ev.now false)
  unfold QR
  by_cases h8 : t.length ≤ 8
  · refine Ev.congr (fun k => by unfold zU.f; rw [if_neg (by omega), zF6 h, yfy]) ?_
    rw [ygy h8, Bool.true_and]
    cases hall : t.all (fun r => decide (r.length = 4)) with
    | false => rw [Bool.false_and]; exact hfalse
    | true =>
      rw [Bool.true_and]
      refine qU (fun k => by rw [zU.j0, if_neg (by simp)]) ?_
      exact zBq (zCQ.1 hall) h8 t.length 0 (by omega) (by omega)
  · refine Ev.congr (fun k => by unfold zU.f; rw [if_pos (by omega)]) ?_
    rw [yhy h8, Bool.false_and]; exact hfalse
theorem zBr (h4 : ∀ r ∈ t, r.length = 4) (hn : t.length ≤ 8) {a : Int} (h0 : 0 ≤ a) (h1 : a < t.length) {R : Bool} (hR : Ev (fun k => zM.l1 k (a + 1) t) R) :
    ∀ (d : Nat) (f : Int), 0 ≤ f → f + d = 4 → Ev (fun k => zM.l2 k a f t) (JM t a f d && R)
  | 0, f, hf, he => by
    refine qU (fun k => by rw [zM.l2, if_neg (by omega), qw (by omega) (by omega)]) ?_
    rw [JM, Bool.true_and]; exact hR
  | d + 1, f, hf, he => by
    have hr := zGZ h4 h0 h1
    have ih : Ev (fun k => zM.l2 k a (wrap64 (f + 1)) t) (JM t a (f + 1) d && R) := Ev.congr (fun k => by rw [qw (by omega) (by omega)]) (zBr h4 hn h0 h1 hR d (f + 1) (by omega) (by omega))
    refine qU (fun k => by rw [zM.l2, if_pos (by omega), if_pos h0, if_pos h1, if_pos hf, if_pos (by omega)]) ?_
    change Ev (fun k => if (fc t a f).f0 = -1 then zM.j3 k a f ((fc t a f).f1 == 0) t (fc t a f).f0 (fc t a f).f1 else zM.j3 k a f false t (fc t a f).f0 (fc t a f).f1) _
    rw [JM]
    have hstop : ∀ b, Ev (fun k => zM.j4 k a f true t (fc t a f).f0 (fc t a f).f1) (false && b) := fun b => by
      rw [Bool.false_and]; exact qU (fun k => by rw [zM.j4, if_pos rfl]) (Ev.now false)
    have hgo : Ev (fun k => zM.j3 k a f true t (fc t a f).f0 (fc t a f).f1) (JM t a (f + 1) d && R) := qU (fun k => by rw [zM.j3, if_pos rfl]) ih
    have hrest : (¬ ((fc t a f).f0 = -1 ∧ (fc t a f).f1 = 0)) → Ev (fun k => zM.j3 k a f false t (fc t a f).f0 (fc t a f).f1) (zAr t a f && JM t a (f + 1) d && R) := by
      intro hnb
      refine qU (fun k => by rw [zM.j3, zt.f, if_neg (by simp), yfy, zFl, yfy, qw (by omega) (by omega)]) ?_
      unfold zAr
      by_cases hi : 0 ≤ (fc t a f).f0 ∧ (fc t a f).f0 < (t.length : Int)
      · refine qg (by simp; omega) ?_
        refine Ev.bind (Qx (zDT _)) ?_
        rw [if_neg (by omega)]
        by_cases hp : 0 ≤ (fc t a f).f1 ∧ (fc t a f).f1 ≤ 23
        · rw [if_pos ⟨hi.1, hi.2, hp.1, hp.2⟩]
          have e : (!(decide (0 ≤ (fc t a f).f1) && decide ((fc t a f).f1 ≤ 23))) = false := by simp [hp]
          rw [e]
          obtain ⟨hg0, hg1⟩ := zAN hp.1 hp.2 hf (by omega)
          have hr2 := zGZ h4 hi.1 hi.2
          refine qU (fun k => by rw [zM.j4, if_neg (by simp)]) ?_
          refine Ev.bind (zAv hp.1 hp.2 hf (by omega)) ?_
          refine Ev.bind (zEQ hp.1 hp.2) ?_
          refine qg hi.1 (qg hi.2 (qg hg0 (qg (by rw [hr2]; omega) ?_)))
          change Ev (fun k => if (!((fc t (fc t a f).f0 (rd (ZN (fc t a f).f1) f)).f0 == a) || !((fc t (fc t a f).f0 (rd (ZN (fc t a f).f1) f)).f1 == zEM (fc t a f).f1)) = true then _ else _) _
          generalize ((fc t (fc t a f).f0 (rd (ZN (fc t a f).f1) f)).f0 == a) = b1
          generalize ((fc t (fc t a f).f0 (rd (ZN (fc t a f).f1) f)).f1 == zEM (fc t a f).f1) = b2
          cases b1 with
          | false => exact qg rfl (by rw [Bool.false_and, Bool.false_and, Bool.false_and, Bool.false_and]; exact Ev.now false)
          | true =>
            cases b2 with
            | false => exact qg rfl (by rw [Bool.true_and, Bool.false_and, Bool.false_and, Bool.false_and]; exact Ev.now false)
            | true =>
              refine ZL (by simp) ?_
              rw [Bool.true_and, Bool.true_and]
              by_cases ha : (fc t a f).f0 = a
              · refine qg ha ?_
                by_cases hg : rd (ZN (fc t a f).f1) f = f
                · refine qg hg ?_
                  rw [ha, hg]
                  simp
                  exact Ev.now false
                · refine ZL hg ?_
                  have : (rd (ZN (fc t a f).f1) f == f) = false := by simp [hg]
                  rw [this, Bool.and_false, Bool.not_false, Bool.true_and]
                  exact ih
              · refine ZL ha ?_
                have : ((fc t a f).f0 == a) = false := by simp [ha]
                rw [this, Bool.false_and, Bool.not_false, Bool.true_and]
                exact ih
        · rw [if_neg (by omega)]
          have e : (!(decide (0 ≤ (fc t a f).f1) && decide ((fc t a f).f1 ≤ 23))) = true := by
            rw [Bool.not_eq_true', Bool.and_eq_false_iff, decide_eq_false_iff_not, decide_eq_false_iff_not]; omega
          rw [e, Bool.false_and]
          exact hstop R
      · have hg : (if (fc t a f).f0 = -1 then ((fc t a f).f1 == 0) else if 0 ≤ (fc t a f).f0 ∧ (fc t a f).f0 < (t.length : Int) ∧ 0 ≤ (fc t a f).f1 ∧ (fc t a f).f1 ≤ 23 then
            ((fc t (fc t a f).f0 (rd (ZN (fc t a f).f1) f)).f0 == a && (fc t (fc t a f).f0 (rd (ZN (fc t a f).f1) f)).f1 == zEM (fc t a f).f1) && !((fc t a f).f0 == a && rd (ZN (fc t a f).f1) f == f) else false) = false := by
          by_cases hb : (fc t a f).f0 = -1
          · rw [if_pos hb]; simp; intro h; exact hnb ⟨hb, h⟩
          · rw [if_neg hb, if_neg (by omega)]
        rw [hg, Bool.false_and]
        refine ZL ?_ (hstop R)
        rw [Bool.and_eq_true, decide_eq_true_eq, decide_eq_true_eq]; omega
    by_cases hb : (fc t a f).f0 = -1
    · refine qg hb ?_
      by_cases h0' : (fc t a f).f1 = 0
      · have e : zAr t a f = true := by unfold zAr; rw [if_pos hb]; simp [h0']
        rw [e, Bool.true_and]
        have e2 : ((fc t a f).f1 == 0) = true := by simp [h0']
        rw [e2]; exact hgo
      · have e2 : ((fc t a f).f1 == 0) = false := by simp [h0']
        rw [e2]; exact hrest (fun h => h0' h.2)
    · exact ZL hb (hrest (fun h => hb h.1))
theorem zBs (h4 : ∀ r ∈ t, r.length = 4) (hn : t.length ≤ 8) : ∀ (d : Nat) (a : Int), 0 ≤ a → a + d = t.length → Ev (fun k => zM.l1 k a t) (zA4 t a d)
  | 0, a, ha, he => by
    refine qU (fun k => by rw [zM.l1, zt.f, yfy, if_neg (by omega)]) ?_
    exact Ev.now true
  | d + 1, a, ha, he => by
    refine qU (fun k => by rw [zM.l1, zt.f, yfy, if_pos (by omega)]) ?_
    rw [zA4]
    exact zBr h4 hn ha (by omega) (zBs h4 hn d (a + 1) (by omega) (by omega)) 4 0 (by omega) (by omega)
theorem zEU (h8 : t.length ≤ 8) (d : Nat) : ∀ n : Nat, n + d = t.length → (t.all (fun r => decide (r.length = 4)) = (t.drop n).all (fun r => decide (r.length = 4))) → Ev (fun k => zM.l0 k (n : Int) t) (t.all (fun r => decide (r.length = 4)) && zA4 t 0 t.length) := by
  induction d with
  | zero =>
    intro n hn ha
    refine qU (fun k => by rw [zM.l0, if_neg (by omega)]) ?_
    have hall : t.all (fun r => decide (r.length = 4)) = true := by rw [ha, List.drop_eq_nil_of_le (by omega)]; rfl
    rw [hall, Bool.true_and]
    exact zBs (zCQ.1 hall) h8 t.length 0 (by omega) (by omega)
  | succ d ih =>
    intro n hn ha
    have hlt : n < t.length := by omega
    refine qU (fun k => by rw [zM.l0, if_pos (by omega), if_pos (by omega), Qt t n hlt]) ?_
    rw [yoy hlt, List.all_cons] at ha
    by_cases h : t[n].length = 4
    · refine qg (by omega) ?_
      refine Ev.congr (fun k => by rw [ZD (by omega)]) (ih (n + 1) (by omega) ?_)
      rw [ha, ygy h, Bool.true_and]
    · refine ZL (by omega) ?_
      rw [ha, yhy h, Bool.false_and, Bool.false_and]
      exact Ev.now false
theorem zCS (t : Tri) : Ev (fun k => zM.f k t) (QR t) := by
  refine Ev.congr (fun k => by unfold zM.f zt.f; rw [yfy]) ?_
  unfold QR
  by_cases h8 : t.length ≤ 8
  · refine ZL (by omega) ?_
    rw [ygy h8, Bool.true_and]
    exact zEU h8 t.length 0 (by omega) (by rw [List.drop_zero])
  · refine qg (by omega) ?_
    rw [yhy h8, Bool.false_and]
    exact Ev.now false
end
theorem Zh {t : Tri} (h : QR t = true) : t.length ≤ 8 ∧ (∀ r ∈ t, r.length = 4) ∧ zA4 t 0 t.length = true := by
  unfold QR at h
  rw [Bool.and_eq_true, Bool.and_eq_true, decide_eq_true_eq] at h
  exact ⟨h.1, zCQ.1 h.2.1, h.2.2⟩
theorem zF7 (t : Tri) (a : Int) (d : Nat) : ∀ f, JM t a f d = true → ∀ g, f ≤ g → g < f + d → zAr t a g = true := by
  induction d with
  | zero => intro f _ g h1 h2; omega
  | succ d ih =>
    intro f h g h1 h2
    rw [JM, Bool.and_eq_true] at h
    by_cases e : g = f
    · rw [e]; exact h.1
    · exact ih (f + 1) h.2 g (by omega) (by omega)
theorem zF8 (t : Tri) (d : Nat) : ∀ a, zA4 t a d = true → ∀ b, a ≤ b → b < a + d → ∀ g, 0 ≤ g → g ≤ 3 → zAr t b g = true := by
  induction d with
  | zero => intro a _ b h1 h2; omega
  | succ d ih =>
    intro a h b h1 h2 g hg0 hg1
    rw [zA4, Bool.and_eq_true] at h
    by_cases e : b = a
    · rw [e]; exact zF7 t a 4 0 h.1 g hg0 (by omega)
    · exact ih (a + 1) h.2 b (by omega) (by omega) g hg0 hg1
theorem zAR {t : Tri} (h : QR t = true) {a f : Int} (h0 : 0 ≤ a) (h1 : a < t.length) (hf0 : 0 ≤ f) (hf1 : f ≤ 3) :
    ((fc t a f).f0 = -1 ∧ (fc t a f).f1 = 0) ∨
    ((0 ≤ (fc t a f).f0 ∧ (fc t a f).f0 < (t.length : Int) ∧ 0 ≤ (fc t a f).f1 ∧ (fc t a f).f1 ≤ 23) ∧
      (fc t (fc t a f).f0 (rd (ZN (fc t a f).f1) f)).f0 = a ∧ (fc t (fc t a f).f0 (rd (ZN (fc t a f).f1) f)).f1 = zEM (fc t a f).f1 ∧ ¬ ((fc t a f).f0 = a ∧ rd (ZN (fc t a f).f1) f = f)) := by
  have hg := zF8 t t.length 0 (Zh h).2.2 a h0 (by omega) f hf0 hf1
  unfold zAr at hg
  by_cases hb : (fc t a f).f0 = -1
  · rw [if_pos hb] at hg
    exact .inl ⟨hb, by simpa using hg⟩
  · rw [if_neg hb] at hg
    by_cases hi : 0 ≤ (fc t a f).f0 ∧ (fc t a f).f0 < (t.length : Int) ∧ 0 ≤ (fc t a f).f1 ∧ (fc t a f).f1 ≤ 23
    · rw [if_pos hi, Bool.and_eq_true, Bool.and_eq_true, Bool.not_eq_true'] at hg
      refine .inr ⟨hi, eq_of_beq hg.1.1, eq_of_beq hg.1.2, fun hc => ?_⟩
      have := hg.2
      rw [Bool.and_eq_false_iff] at this
      rcases this with h2 | h2
      · exact absurd hc.1 (by simpa using h2)
      · exact absurd hc.2 (by simpa using h2)
    · rw [if_neg hi] at hg; cases hg
end Go.Proofs.Ytfnopcbicceeaaa.P
