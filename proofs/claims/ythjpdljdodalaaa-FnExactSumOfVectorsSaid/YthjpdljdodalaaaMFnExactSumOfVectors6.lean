/- The statement FnExactSumOfVectorsSaid, proved: part 6 of 7 (texts of this session and of the kit's print, put together and cut to what is used by a program of it). -/
import Derived.Test.YthjpdljdodalaaaMFnExactSumOfVectors5
namespace Go.Proofs.Ythjpdljdodalaaa.P
open Go.RowKit Go.Proofs.YthjpdljdodalaaaW.PrintWords Go.Proofs.YthjpdljdodalaaaW.PrintLast Go.Proofs.YthjpdljdodalaaaW.PrintMore
attribute [local go_sem] QG QH QZ Qa Zq Zr QI QJ
set_option linter.unusedVariables false
set_option linter.unusedSimpArgs false
mutual
def zm.l0 : Nat → List (List Int) → List (List Int) → Int → List (List (zu)) → Option ((List (List Int)))
 | 0, _, _, _, _ => none
 | k + 1, x3, x4, x5, x102000 => if x5 < (x4.length : Int) then (if 0 ≤ x5 then (if 0 < ((ze x4 x5).length : Int) then (if 1 < ((ze x4 x5).length : Int) then (zm.l1 k x3 x4 x5 (rd (ze x4 x5) 0) (rd (ze x4 x5) 1) 0 x102000) else (none)) else (none)) else (none)) else (some x3)
def zm.l1 : Nat → List (List Int) → List (List Int) → Int → Int → Int → Int → List (List (zu)) → Option ((List (List Int)))
 | 0, _, _, _, _, _, _, _ => none
 | k + 1, x3, x4, x5, x6, x7, x8, x102000 => if x8 < 4 then (if x8 = x7 then (zm.l1 k x3 x4 x5 x6 x7 (wrap64 (x8 + 1)) x102000) else ((zy.f x102000).bind fun t112 => (if 0 ≤ (wrap64 (7 * t112)) then (if (wrap64 (7 * t112) : Int).toNat ≤ 35184372088832 then ((some (List.replicate (wrap64 (7 * t112) : Int).toNat 0 : List Int)).bind fun y113 => ((qf.f k x102000 x6 x7 x8).bind fun bt116 => (if 0 ≤ (wrap64 ((wrap64 (7 * x6)) + x8)) then (if (wrap64 ((wrap64 (7 * x6)) + x8)) < (y113.length : Int) then ((some (y113.set ((wrap64 ((wrap64 (7 * x6)) + x8)) : Int).toNat (wrap64 ((rd y113 (wrap64 ((wrap64 (7 * x6)) + x8))) + 1)) : List Int)).bind fun y120 => ((qI.f x7 x8).bind fun t121 => (if 0 ≤ (wrap64 ((wrap64 ((wrap64 (7 * x6)) + 4)) + t121)) then (if (wrap64 ((wrap64 ((wrap64 (7 * x6)) + 4)) + t121)) < (y113.length : Int) then ((some (y120.set ((wrap64 ((wrap64 ((wrap64 (7 * x6)) + 4)) + t121)) : Int).toNat (wrap64 ((rd y120 (wrap64 ((wrap64 ((wrap64 (7 * x6)) + 4)) + t121))) + 1)) : List Int)).bind fun y123 => (if 0 ≤ (wrap64 ((wrap64 (7 * bt116.1)) + bt116.2.2)) then (if (wrap64 ((wrap64 (7 * bt116.1)) + bt116.2.2)) < (y113.length : Int) then ((some (y123.set ((wrap64 ((wrap64 (7 * bt116.1)) + bt116.2.2)) : Int).toNat (wrap64 ((rd y123 (wrap64 ((wrap64 (7 * bt116.1)) + bt116.2.2))) - 1)) : List Int)).bind fun y125 => ((qI.f bt116.2.1 bt116.2.2).bind fun t126 => (if 0 ≤ (wrap64 ((wrap64 ((wrap64 (7 * bt116.1)) + 4)) + t126)) then (if (wrap64 ((wrap64 ((wrap64 (7 * bt116.1)) + 4)) + t126)) < (y113.length : Int) then (if x3.length < 5864062014805 then (zm.l1 k (x3 ++ [(y125.set ((wrap64 ((wrap64 ((wrap64 (7 * bt116.1)) + 4)) + t126)) : Int).toNat (wrap64 ((rd y125 (wrap64 ((wrap64 ((wrap64 (7 * bt116.1)) + 4)) + t126))) - 1)))]) x4 x5 x6 x7 (wrap64 (x8 + 1)) x102000) else (none)) else (none)) else (none)))) else (none)) else (none))) else (none)) else (none)))) else (none)) else (none)))) else (none)) else (none)))) else (zm.l0 k x3 x4 (wrap64 (x5 + 1)) x102000)
end
def zm.f (k : Nat) (l0_0 : List (List (zu))) : Option ((List (List Int))) := (zq.f k l0_0).bind fun t105 => (zm.l0 k (([] : List (List Int))) t105 0 l0_0)
set_option maxHeartbeats 8000000 in
set_option maxRecDepth 100000 in
theorem zm.calls (k : Nat) (A0_0 : Option Addr) (c0_0 : Nat) (l0_0 : List (List (zu))) (r : List (List Int)) (w : World) (hr0_0 : Kd.C (Kd.slice 115 ZC) w A0_0 l0_0.length l0_0) (hc0_0 : l0_0.length ≤ c0_0) (h : zm.f k l0_0 = some r) :
 Calls Try.prog 61 #[.agg #[.slice A0_0 l0_0.length c0_0]] w fun e w' => ∃ v0_ : Value, e = .returned (v0_) ∧ Kd.S (Kd.slice 2 (Kd.int .i64)) 25 w' w.heap.size (fun _ => True) v0_ r ∧ Below w.heap.size w w' := by
 have hu30 := Try.underlying30
 have HR0_0 := zA.mk hr0_0
 have HC0_0 := zA.mk hc0_0
 clear hr0_0 hc0_0
 have HB := zA.mk (yry w.heap.size w)
 have H : ((zq.f k l0_0).bind fun t105 => (zm.l0 k (([] : List (List Int))) t105 0 l0_0)) = some r := h
 clear h
 obtain ⟨y102, hy102⟩ : ∃ y_ : List (List Int), y_ = (([] : List (List Int))) := ⟨_, rfl⟩
 replace H : ((zq.f k l0_0).bind fun t105 => (zm.l0 k y102 t105 0 l0_0)) = some r := by first | (rw [hy102]; with_reducible exact H) | (have H2_ := (yfy _ _).symm.trans H; rw [hy102]; with_reducible exact H2_) | (have H2_ := (yfy _ _).symm.trans H; with_reducible exact H2_) | with_reducible exact H | (rw [hy102]; exact H) | exact H
 have Ny102 := zA.mk hy102
 clear hy102
 replace H := ydy.mp H
 obtain ⟨t105, A20, H⟩ := H
 replace H : (zm.l0 k y102 t105 0 l0_0) = some r := H
 have A2 := zA.mk A20
 clear A20
 have H' := zA.mk H
 clear H
 go_enter Try.func61, Try.ntmps61
 go_wp2_with (first | ((with_reducible refine zj (N := 1) rfl ?_); refine zi ?hg (N := 1) ?hd (cs := #[.slice A0_0 l0_0.length c0_0]) (t := 30) ?hr ?_; (case hd => rfl); (case hg => rfl); (case hr => first | (go_simp; done) | (go_simp; rfl)); intro gb101 hg w3 hbox hb; have n0_ := zA.mk (zN (by repeat (first | (with_reducible first | exact HB.out | apply zC | apply zB | apply zD) | exact HB.out)) hb); have n1_ := zA.mk (hbox); have n2_ := zA.mk ((by rw [hg]; exact (zO (by repeat (first | (with_reducible first | exact HB.out | apply zC | apply zB | apply zD) | exact HB.out))) : w.heap.size ≤ gb101)); have n3_ := zA.mk ((by rw [hg]; exact (zO (by repeat (first | (with_reducible first | exact HB.out | apply zC | apply zB | apply zD) | exact HB.out))) : w.heap.size ≤ gb101)); clear HB; have HB := n0_; have BK101 := n1_; have GW101 := n2_; have GE101 := n3_; clear n0_ n1_ n2_ n3_; clear hb hbox hg) | ((with_reducible refine zj (N := 13) rfl ?_); refine Kd.S_lit (Kd.slice 2 (Kd.int .i64)) _ 25 ?hg (N := 13) ?hd (xs := ([] : List (List Int))) (inner := []) (ok := fun _ => True) (okp := fun _ => True) ?hr ?hp (fun _ hk => hk) trivial (yry _ _) (yqy _) (by simp) ?_; (case hd => rfl); (case hg => rfl); (case hr => first | (go_simp; done) | (go_simp; rfl)); (case hp => exact (QV.none _ _)); intro v103 w4 ho5 hb hg_ hnew_; clear hg_ hnew_; (first | rw [← Ny102.out] at ho5 | (simp only [Int.reduceToNat] at ho5; rw [← Ny102.out] at ho5)); have n0_ := zA.mk (Kd.zA1 ho5 (zO (by repeat (first | (with_reducible first | exact HB.out | apply zC | apply zB | apply zD | refine zF ?_ GE101.out) | exact HB.out)))); have n1_ := zA.mk (zP (g := gb101) (o := .cells #[.slice A0_0 l0_0.length c0_0] 30 (0, 0)) (by (with_reducible repeat (first | refine zI ?_ _ | refine zJ ?_ | refine zH ?_ _)); exact BK101.out) hb); have n2_ := zA.mk (zN (by repeat (first | (with_reducible first | exact HB.out | apply zC | apply zB | apply zD | refine zF ?_ GE101.out) | exact HB.out)) hb); clear BK101; clear HB; have HO104 := n0_; have BK101 := n1_; have HB := n2_; clear n0_ n1_ n2_; clear hb ho5; have hcz6_0 : w4.cell? ⟨gb101, 0, none⟩ = some (.slice A0_0 l0_0.length c0_0) := (zL BK101.out 0).trans rfl; have hfz6_0 := zM BK101.out 0) | ((with_reducible refine zQ (f := 102) rfl ?_); refine zt (some 15) rfl rfl Try.func102 (by kernel_rfl) rfl #[.agg #[.slice A0_0 l0_0.length c0_0]] rfl (by (try simp only [yiy, yjy, yky]); first | done | rfl | (simp only [yly, ymy]; rfl)) ?_; (with_reducible refine (zq.calls k _ _ l0_0 t105 _ ?side1 ?side2 A2.out).mono ?_); (case side1 => repeat (first | exact (Kd.za HR0_0.out HB.out) | (with_reducible refine Kd.zb ?_ _) | (with_reducible refine Kd.zc ?_ _) | (with_reducible refine Kd.zk ?_))); (case side2 => exact HC0_0.out); rintro e w7 ⟨v106, rfl, ho0, hb⟩; refine ⟨_, rfl, ?_⟩; have n0_ := zA.mk (Kd.Jr (by (with_reducible repeat (first | apply Kd.qS | apply Kd.qT | apply Kd.ql)); exact HO104.out) (Kd.S_base ho0) hb); have n1_ := zA.mk (Kd.zA1 (Kd.S_new' ho0 (Kd.S_lt (by (with_reducible repeat (first | apply Kd.qS | apply Kd.qT | apply Kd.ql)); exact HO104.out))) (zO (by repeat (first | (with_reducible first | exact HB.out | apply zC | apply zB | apply zD | refine zF ?_ GE101.out) | exact HB.out)))); have n2_ := zA.mk (zP (g := gb101) (o := .cells #[.slice A0_0 l0_0.length c0_0] 30 (0, 0)) (by (with_reducible repeat (first | refine zI ?_ _ | refine zJ ?_ | refine zH ?_ _)); exact BK101.out) hb); have n3_ := zA.mk (zN (by repeat (first | (with_reducible first | exact HB.out | apply zC | apply zB | apply zD | refine zF ?_ GE101.out) | exact HB.out)) hb); clear HO104; clear BK101; clear HB; have HO104 := n0_; have HO107 := n1_; have BK101 := n2_; have HB := n3_; clear n0_ n1_ n2_ n3_; (try clear hb); (try clear hb2); (try clear hk); (try clear hi); (try clear ho0)))
 go_loopg [3, 5] k (fun kq v3 v5 w' => ∃ (x3_1 : List (List Int)) (x5_1 : Int), v5 = .int .i64 x5_1 ∧ zA (zm.l0 kq x3_1 t105 x5_1 l0_0 = some r) ∧ zA (kq ≤ k) ∧ zA (Kd.S (Kd.slice 2 (Kd.int .i64)) 25 w' w.heap.size (fun k_ => some k_ ≠ (v106 : Value).ownBlock) v3 x3_1) ∧ zA (Kd.S (Kd.slice 2 (Kd.int .i64)) 25 w' w.heap.size (fun k_ => some k_ ≠ (v3 : Value).ownBlock) v106 t105) ∧ zA (w'.heap[gb101]? = some (.cells #[(.slice A0_0 l0_0.length c0_0)] 30 (0, 0))) ∧ zA (Below w.heap.size w w'))
 case atStart => exact ⟨(y102), (0), (by first | rfl | (simp; done) | (simp [*]; done)), H', ⟨yqy _⟩, ⟨by (with_reducible repeat (first | apply Kd.qS | apply Kd.qT | apply Kd.ql)); exact Kd.Zl HO104.out (fun _ hk => hk.2)⟩, ⟨by (with_reducible repeat (first | apply Kd.qS | apply Kd.qT | apply Kd.ql)); exact Kd.Zl HO107.out (fun _ hk => hk.2)⟩, ⟨by (with_reducible repeat (first | refine zI ?_ _ | refine zJ ?_ | refine zH ?_ _)); exact BK101.out⟩, ⟨by repeat (first | (with_reducible first | exact HB.out | apply zC | apply zB | apply zD | refine zF ?_ GE101.out) | exact HB.out)⟩⟩
 case round =>
  clear H'
  try clear c1
  try clear p2
  try clear c6
  try clear hcz6_0
  try clear hfz6_0
  obtain ⟨x3_1, x5_1, rfl, HA, HK1, HO_3, HO_4, BK101, HB⟩ := hrel
  cases gk with
  | zero => exact absurd HA.out (by simp [zm.l0])
  | succ k1 =>
   have H := HA.out
   clear HA
   simp only [zm.l0] at H
   by_cases c8 : x5_1 < (t105.length : Int)
   rotate_left
   next =>
    rw [if_neg c8] at H
    have c8b0 : decide (x5_1 < (t105.length : Int)) = false := yhy c8
    clear c8
    obtain rfl := yey H
    obtain ⟨Ao55, co55, eo55⟩ := Kd.JR HO_4.out
    subst eo55
    go_wp2
    go_ret
    exact ⟨_, by first | rfl | (simp [zR, zS] <;> rfl) | (simp [*, zR, zS] <;> rfl), by (with_reducible repeat (first | apply Kd.qS | apply Kd.qT | apply Kd.ql)); exact Kd.Zl HO_3.out (fun _ hk => trivial), by repeat (first | (with_reducible first | exact HB.out | apply zC | apply zB | apply zD | refine zF ?_ GE101.out) | exact HB.out)⟩
   rw [if_pos c8] at H
   have c8b0 : decide (x5_1 < (t105.length : Int)) = true := ygy c8
   clear c8
   by_cases c9 : 0 ≤ x5_1
   rotate_left
   next =>
    rw [if_neg c9] at H
    exact absurd H (by simp)
   rw [if_pos c9] at H
   have c9b0 : decide (0 ≤ x5_1) = true := ygy c9
   clear c9
   by_cases c10 : 0 < ((ze t105 x5_1).length : Int)
   rotate_left
   next =>
    rw [if_neg c10] at H
    exact absurd H (by simp)
   rw [if_pos c10] at H
   have c10b0 : decide (0 < ((ze t105 x5_1).length : Int)) = true := ygy c10
   have c10b1 : decide (0 < (ze t105 x5_1).length) = true := ygy (by omega)
   clear c10
   by_cases c11 : 1 < ((ze t105 x5_1).length : Int)
   rotate_left
   next =>
    rw [if_neg c11] at H
    exact absurd H (by simp)
   rw [if_pos c11] at H
   have c11b0 : decide (1 < ((ze t105 x5_1).length : Int)) = true := ygy c11
   have c11b1 : decide (1 < (ze t105 x5_1).length) = true := ygy (by omega)
   clear c11
   have H' := zA.mk H
   clear H
   obtain ⟨Ao12, co12, eo12⟩ := Kd.JR HO_4.out
   subst eo12
   have p108 : 0 ≤ (x5_1 : Int) := of_decide_eq_true (by first | (with_reducible assumption) | assumption)
   have q108 : x5_1 < (t105.length : Int) := of_decide_eq_true (by first | (with_reducible assumption) | assumption)
   obtain ⟨ad108, A108_0, c108_0, e108, hx108_0, hl108_0, hi108_0⟩ := zCG (Kd.QP HO_4.out).2.2 x5_1 p108 q108
   cases e108
   obtain ⟨ce108, hce108, hMe108, hcc108⟩ := Kd.zFK HO_4.out [] x5_1 p108 (by first | exact q108 | exact of_decide_eq_true (by first | (with_reducible assumption) | assumption) | (have e_ := (Kd.QP HO_4.out).1; omega))
   obtain ⟨ve108_0, rfl, ge108_0⟩ := hMe108
   have hv108_0 := hcc108 0 _ rfl
   rw [Nat.add_zero, show ((Kd.slice 2 (Kd.int .i64))).sz = 1 from rfl, Nat.mul_one] at hv108_0
   replace hv108_0 := yey (hv108_0.symm.trans hx108_0)
   rw [hv108_0] at ge108_0
   have HL108_0 := zA.mk (show Kd.R (Kd.int .i64) 2 _ _ _ _ (ze t105 x5_1) from ge108_0)
   clear hv108_0 ge108_0
   clear hcc108 hce108
   have HR108_0 := zA.mk hi108_0
   have HC108_0 := zA.mk hl108_0
   clear hi108_0 hl108_0
   replace p108 := eq_true p108
   replace q108 := eq_true q108
   have p109 : 0 ≤ (0 : Int) := (by omega)
   have q109 : 0 < ((ze t105 x5_1).length : Int) := of_decide_eq_true (by first | (with_reducible assumption) | assumption)
   obtain ⟨ad109, e109, hx109_0⟩ := Kd.ZF (by repeat (first | (with_reducible exact HR108_0.out) | (with_reducible refine Kd.zb ?_ _) | (with_reducible refine Kd.zc ?_ _) | (with_reducible refine Kd.zk ?_) | exact HR108_0.out)) 0 p109 q109
   cases e109
   have qi109 : (0 < (ze t105 x5_1).length) = True := eq_true (by omega)
   (try rw [show ((0 : Int)).toNat = 0 from rfl] at hx109_0)
   (try rw [Addr.add_zero'] at hx109_0)
   replace p109 := eq_true p109
   replace q109 := eq_true q109
   have p110 : 0 ≤ (x5_1 : Int) := of_decide_eq_true (by first | (with_reducible assumption) | assumption)
   have q110 : x5_1 < (t105.length : Int) := of_decide_eq_true (by first | (with_reducible assumption) | assumption)
   obtain ⟨ad110, A110_0, c110_0, e110, hx110_0, hl110_0, hi110_0⟩ := zCG (Kd.QP HO_4.out).2.2 x5_1 p110 q110
   obtain rfl : ad108 = ad110 := (by injection e110)
   obtain ⟨ce110, hce110, hMe110, hcc110⟩ := Kd.zFK HO_4.out [] x5_1 p110 (by first | exact q110 | exact of_decide_eq_true (by first | (with_reducible assumption) | assumption) | (have e_ := (Kd.QP HO_4.out).1; omega))
   obtain ⟨ve110_0, rfl, ge110_0⟩ := hMe110
   have hv110_0 := hcc110 0 _ rfl
   rw [Nat.add_zero, show ((Kd.slice 2 (Kd.int .i64))).sz = 1 from rfl, Nat.mul_one] at hv110_0
   replace hv110_0 := yey (hv110_0.symm.trans hx110_0)
   rw [hv110_0] at ge110_0
   have HL110_0 := zA.mk (show Kd.R (Kd.int .i64) 2 _ _ _ _ (ze t105 x5_1) from ge110_0)
   clear hv110_0 ge110_0
   clear hcc110 hce110
   have HR110_0 := zA.mk hi110_0
   have HC110_0 := zA.mk hl110_0
   clear hi110_0 hl110_0
   replace p110 := eq_true p110
   replace q110 := eq_true q110
   have ea_ := yey (hx108_0.symm.trans hx110_0)
   injection ea_ with ea_ en_ ec_
   subst ea_
   subst ec_
   clear en_
   have p111 : 0 ≤ (1 : Int) := (by omega)
   have q111 : 1 < ((ze t105 x5_1).length : Int) := of_decide_eq_true (by first | (with_reducible assumption) | assumption)
   obtain ⟨ad111, e111, hx111_0⟩ := Kd.ZF (by repeat (first | (with_reducible exact HR110_0.out) | (with_reducible refine Kd.zb ?_ _) | (with_reducible refine Kd.zc ?_ _) | (with_reducible refine Kd.zk ?_) | exact HR110_0.out)) 1 p111 q111
   cases e111
   (try simp only [show (1 : Int).toNat = 1 from rfl, Nat.reduceMul, Nat.reduceEqDiff, Go.Addr.add, ↓reduceIte] at hx111_0)
   have qi111 : (1 < (ze t105 x5_1).length) = True := eq_true (by omega)
   (try rw [show ((1 : Int)).toNat = 1 from rfl] at hx111_0)
   replace p111 := eq_true p111
   replace q111 := eq_true q111
   go_wp2
   go_loopg [3, 8] k1 (fun kq v3 v8 w' => ∃ (x3_2 : List (List Int)) (x8_2 : Int), v8 = .int .i64 x8_2 ∧ zA (zm.l1 kq x3_2 t105 x5_1 (rd (ze t105 x5_1) 0) (rd (ze t105 x5_1) 1) x8_2 l0_0 = some r) ∧ zA (kq ≤ k1) ∧ zA (Kd.S (Kd.slice 2 (Kd.int .i64)) 25 w' w.heap.size (fun k_ => some k_ ≠ ((.slice (some ad108) t105.length co12) : Value).ownBlock) v3 x3_2) ∧ zA (Kd.S (Kd.slice 2 (Kd.int .i64)) 25 w' w.heap.size (fun k_ => some k_ ≠ (v3 : Value).ownBlock) (.slice (some ad108) t105.length co12) t105) ∧ zA (w'.heap[gb101]? = some (.cells #[(.slice A0_0 l0_0.length c0_0)] 30 (0, 0))) ∧ zA (Below w.heap.size w w'))
   case atStart => exact ⟨(x3_1), (0), (by first | rfl | (simp; done) | (simp [*]; done)), H', ⟨yqy _⟩, ⟨by (with_reducible repeat (first | apply Kd.qS | apply Kd.qT | apply Kd.ql)); exact HO_3.out⟩, ⟨by (with_reducible repeat (first | apply Kd.qS | apply Kd.qT | apply Kd.ql)); exact HO_4.out⟩, ⟨by (with_reducible repeat (first | refine zI ?_ _ | refine zJ ?_ | refine zH ?_ _)); exact BK101.out⟩, ⟨by repeat (first | (with_reducible first | exact HB.out | apply zC | apply zB | apply zD | refine zF ?_ GE101.out) | exact HB.out)⟩⟩
   case round =>
    clear H'
    try clear c1
    try clear p1
    try clear q1
    try clear hx1
    try clear qi1
    try clear p2
    try clear c6
    try clear c8
    try clear c8b0
    try clear c9
    try clear c9b0
    try clear c10
    try clear c10b0
    try clear c10b1
    try clear p10
    try clear q10
    try clear hx10
    try clear qi10
    try clear c11
    try clear c11b0
    try clear c11b1
    try clear p11
    try clear q11
    try clear hx11
    try clear qi11
    try clear hcz6_0
    try clear hfz6_0
    try clear hx108_0
    try clear hx109_0
    try clear hx110_0
    try clear hx111_0
    try clear p108
    try clear p109
    try clear p110
    try clear p111
    try clear p2
    try clear q108
    try clear q109
    try clear q110
    try clear q111
    obtain ⟨x3_2, x8_2, rfl, HA, HK2, HO_3, HO_4, BK101, HB⟩ := hrel
    cases gk with
    | zero => exact absurd HA.out (by simp [zm.l1])
    | succ k2 =>
     have H := HA.out
     clear HA
     simp only [zm.l1] at H
     by_cases c13 : x8_2 < 4
     rotate_left
     next =>
      rw [if_neg c13] at H
      have c13b0 : decide (x8_2 < 4) = false := yhy c13
      clear c13
      have H' := zA.mk H
      clear H
      go_wp2
      go_roundg k2
      case measure => have := HK1.out; have := HK2.out; omega
      case rel => exact ⟨(x3_2), (wrap64 (x5_1 + 1)), (by first | rfl | (simp; done) | (simp [*]; done)), H', ⟨by have := HK1.out; have := HK2.out; omega⟩, ⟨by (with_reducible repeat (first | apply Kd.qS | apply Kd.qT | apply Kd.ql)); exact HO_3.out⟩, ⟨by (with_reducible repeat (first | apply Kd.qS | apply Kd.qT | apply Kd.ql)); exact HO_4.out⟩, ⟨by (with_reducible repeat (first | refine zI ?_ _ | refine zJ ?_ | refine zH ?_ _)); exact BK101.out⟩, ⟨by repeat (first | (with_reducible first | exact HB.out | apply zC | apply zB | apply zD | refine zF ?_ GE101.out) | exact HB.out)⟩⟩
     rw [if_pos c13] at H
     have c13b0 : decide (x8_2 < 4) = true := ygy c13
     clear c13
     by_cases c14 : x8_2 = (rd (ze t105 x5_1) 1)
     next =>
      rw [if_pos c14] at H
      have c14b0 : (x8_2 == (rd (ze t105 x5_1) 1)) = true := beq_iff_eq.mpr c14
      have c14b1 : (x8_2 != (rd (ze t105 x5_1) 1)) = false := bne_eq_false_iff_eq.mpr c14
      clear c14
      have H' := zA.mk H
      clear H
      go_wp2
      go_roundg k2
      case measure => have := HK1.out; have := HK2.out; omega
      case rel => exact ⟨(x3_2), (wrap64 (x8_2 + 1)), (by first | rfl | (simp; done) | (simp [*]; done)), H', ⟨by have := HK1.out; have := HK2.out; omega⟩, ⟨by (with_reducible repeat (first | apply Kd.qS | apply Kd.qT | apply Kd.ql)); exact HO_3.out⟩, ⟨by (with_reducible repeat (first | apply Kd.qS | apply Kd.qT | apply Kd.ql)); exact HO_4.out⟩, ⟨by (with_reducible repeat (first | refine zI ?_ _ | refine zJ ?_ | refine zH ?_ _)); exact BK101.out⟩, ⟨by repeat (first | (with_reducible first | exact HB.out | apply zC | apply zB | apply zD | refine zF ?_ GE101.out) | exact HB.out)⟩⟩
     next =>
      rw [if_neg c14] at H
      have c14b0 : (x8_2 == (rd (ze t105 x5_1) 1)) = false := beq_eq_false_iff_ne.mpr c14
      have c14b1 : (x8_2 != (rd (ze t105 x5_1) 1)) = true := bne_iff_ne.mpr c14
      replace H := ydy.mp H
      obtain ⟨t112, A150, H⟩ := H
      replace H : (if 0 ≤ (wrap64 (7 * t112)) then (if (wrap64 (7 * t112) : Int).toNat ≤ 35184372088832 then ((some (List.replicate (wrap64 (7 * t112) : Int).toNat 0 : List Int)).bind fun y113 => ((qf.f k2 l0_0 (rd (ze t105 x5_1) 0) (rd (ze t105 x5_1) 1) x8_2).bind fun bt116 => (if 0 ≤ (wrap64 ((wrap64 (7 * (rd (ze t105 x5_1) 0))) + x8_2)) then (if (wrap64 ((wrap64 (7 * (rd (ze t105 x5_1) 0))) + x8_2)) < (y113.length : Int) then ((some (y113.set ((wrap64 ((wrap64 (7 * (rd (ze t105 x5_1) 0))) + x8_2)) : Int).toNat (wrap64 ((rd y113 (wrap64 ((wrap64 (7 * (rd (ze t105 x5_1) 0))) + x8_2))) + 1)) : List Int)).bind fun y120 => ((qI.f (rd (ze t105 x5_1) 1) x8_2).bind fun t121 => (if 0 ≤ (wrap64 ((wrap64 ((wrap64 (7 * (rd (ze t105 x5_1) 0))) + 4)) + t121)) then (if (wrap64 ((wrap64 ((wrap64 (7 * (rd (ze t105 x5_1) 0))) + 4)) + t121)) < (y113.length : Int) then ((some (y120.set ((wrap64 ((wrap64 ((wrap64 (7 * (rd (ze t105 x5_1) 0))) + 4)) + t121)) : Int).toNat (wrap64 ((rd y120 (wrap64 ((wrap64 ((wrap64 (7 * (rd (ze t105 x5_1) 0))) + 4)) + t121))) + 1)) : List Int)).bind fun y123 => (if 0 ≤ (wrap64 ((wrap64 (7 * bt116.1)) + bt116.2.2)) then (if (wrap64 ((wrap64 (7 * bt116.1)) + bt116.2.2)) < (y113.length : Int) then ((some (y123.set ((wrap64 ((wrap64 (7 * bt116.1)) + bt116.2.2)) : Int).toNat (wrap64 ((rd y123 (wrap64 ((wrap64 (7 * bt116.1)) + bt116.2.2))) - 1)) : List Int)).bind fun y125 => ((qI.f bt116.2.1 bt116.2.2).bind fun t126 => (if 0 ≤ (wrap64 ((wrap64 ((wrap64 (7 * bt116.1)) + 4)) + t126)) then (if (wrap64 ((wrap64 ((wrap64 (7 * bt116.1)) + 4)) + t126)) < (y113.length : Int) then (if x3_2.length < 5864062014805 then (zm.l1 k2 (x3_2 ++ [(y125.set ((wrap64 ((wrap64 ((wrap64 (7 * bt116.1)) + 4)) + t126)) : Int).toNat (wrap64 ((rd y125 (wrap64 ((wrap64 ((wrap64 (7 * bt116.1)) + 4)) + t126))) - 1)))]) t105 x5_1 (rd (ze t105 x5_1) 0) (rd (ze t105 x5_1) 1) (wrap64 (x8_2 + 1)) l0_0) else (none)) else (none)) else (none)))) else (none)) else (none))) else (none)) else (none)))) else (none)) else (none)))) else (none)) else (none)) = some r := H
      have A15 := zA.mk A150
      clear A150
      obtain ⟨ji16, hji16⟩ : ∃ j_ : Int, (wrap64 (7 * t112)) = j_ := ⟨_, rfl⟩
      replace H : (if 0 ≤ (ji16) then (if (ji16 : Int).toNat ≤ 35184372088832 then ((some (List.replicate (ji16 : Int).toNat 0 : List Int)).bind fun y113 => ((qf.f k2 l0_0 (rd (ze t105 x5_1) 0) (rd (ze t105 x5_1) 1) x8_2).bind fun bt116 => (if 0 ≤ (wrap64 ((wrap64 (7 * (rd (ze t105 x5_1) 0))) + x8_2)) then (if (wrap64 ((wrap64 (7 * (rd (ze t105 x5_1) 0))) + x8_2)) < (y113.length : Int) then ((some (y113.set ((wrap64 ((wrap64 (7 * (rd (ze t105 x5_1) 0))) + x8_2)) : Int).toNat (wrap64 ((rd y113 (wrap64 ((wrap64 (7 * (rd (ze t105 x5_1) 0))) + x8_2))) + 1)) : List Int)).bind fun y120 => ((qI.f (rd (ze t105 x5_1) 1) x8_2).bind fun t121 => (if 0 ≤ (wrap64 ((wrap64 ((wrap64 (7 * (rd (ze t105 x5_1) 0))) + 4)) + t121)) then (if (wrap64 ((wrap64 ((wrap64 (7 * (rd (ze t105 x5_1) 0))) + 4)) + t121)) < (y113.length : Int) then ((some (y120.set ((wrap64 ((wrap64 ((wrap64 (7 * (rd (ze t105 x5_1) 0))) + 4)) + t121)) : Int).toNat (wrap64 ((rd y120 (wrap64 ((wrap64 ((wrap64 (7 * (rd (ze t105 x5_1) 0))) + 4)) + t121))) + 1)) : List Int)).bind fun y123 => (if 0 ≤ (wrap64 ((wrap64 (7 * bt116.1)) + bt116.2.2)) then (if (wrap64 ((wrap64 (7 * bt116.1)) + bt116.2.2)) < (y113.length : Int) then ((some (y123.set ((wrap64 ((wrap64 (7 * bt116.1)) + bt116.2.2)) : Int).toNat (wrap64 ((rd y123 (wrap64 ((wrap64 (7 * bt116.1)) + bt116.2.2))) - 1)) : List Int)).bind fun y125 => ((qI.f bt116.2.1 bt116.2.2).bind fun t126 => (if 0 ≤ (wrap64 ((wrap64 ((wrap64 (7 * bt116.1)) + 4)) + t126)) then (if (wrap64 ((wrap64 ((wrap64 (7 * bt116.1)) + 4)) + t126)) < (y113.length : Int) then (if x3_2.length < 5864062014805 then (zm.l1 k2 (x3_2 ++ [(y125.set ((wrap64 ((wrap64 ((wrap64 (7 * bt116.1)) + 4)) + t126)) : Int).toNat (wrap64 ((rd y125 (wrap64 ((wrap64 ((wrap64 (7 * bt116.1)) + 4)) + t126))) - 1)))]) t105 x5_1 (rd (ze t105 x5_1) 0) (rd (ze t105 x5_1) 1) (wrap64 (x8_2 + 1)) l0_0) else (none)) else (none)) else (none)))) else (none)) else (none))) else (none)) else (none)))) else (none)) else (none)))) else (none)) else (none)) = some r := by first | (rw [hji16] at H; exact H) | (simp only [hji16] at H ⊢; exact H)
      (try rw [hji16] at A15)
      have hji16w : (IntKind.i64.wrap (7 * t112)) = ji16 := (zV _).trans hji16
      by_cases c17 : 0 ≤ (ji16)
      rotate_left
      next =>
       rw [if_neg c17] at H
       exact absurd H (by simp)
      rw [if_pos c17] at H
      have c17b0 := eq_true c17
      have c17b1 : decide (0 ≤ (ji16)) = true := ygy c17
      clear c17
      by_cases c18 : (ji16 : Int).toNat ≤ 35184372088832
      rotate_left
      next =>
       rw [if_neg c18] at H
       exact absurd H (by simp)
      rw [if_pos c18] at H
      have c18b0 := eq_true c18
      have c18b1 : decide ((ji16 : Int).toNat ≤ 35184372088832) = true := ygy c18
      clear c18
      obtain ⟨y113, hy113⟩ : ∃ y_ : List Int, y_ = (List.replicate (ji16 : Int).toNat 0) := ⟨_, rfl⟩
      replace H : ((qf.f k2 l0_0 (rd (ze t105 x5_1) 0) (rd (ze t105 x5_1) 1) x8_2).bind fun bt116 => (if 0 ≤ (wrap64 ((wrap64 (7 * (rd (ze t105 x5_1) 0))) + x8_2)) then (if (wrap64 ((wrap64 (7 * (rd (ze t105 x5_1) 0))) + x8_2)) < (y113.length : Int) then ((some (y113.set ((wrap64 ((wrap64 (7 * (rd (ze t105 x5_1) 0))) + x8_2)) : Int).toNat (wrap64 ((rd y113 (wrap64 ((wrap64 (7 * (rd (ze t105 x5_1) 0))) + x8_2))) + 1)) : List Int)).bind fun y120 => ((qI.f (rd (ze t105 x5_1) 1) x8_2).bind fun t121 => (if 0 ≤ (wrap64 ((wrap64 ((wrap64 (7 * (rd (ze t105 x5_1) 0))) + 4)) + t121)) then (if (wrap64 ((wrap64 ((wrap64 (7 * (rd (ze t105 x5_1) 0))) + 4)) + t121)) < (y113.length : Int) then ((some (y120.set ((wrap64 ((wrap64 ((wrap64 (7 * (rd (ze t105 x5_1) 0))) + 4)) + t121)) : Int).toNat (wrap64 ((rd y120 (wrap64 ((wrap64 ((wrap64 (7 * (rd (ze t105 x5_1) 0))) + 4)) + t121))) + 1)) : List Int)).bind fun y123 => (if 0 ≤ (wrap64 ((wrap64 (7 * bt116.1)) + bt116.2.2)) then (if (wrap64 ((wrap64 (7 * bt116.1)) + bt116.2.2)) < (y113.length : Int) then ((some (y123.set ((wrap64 ((wrap64 (7 * bt116.1)) + bt116.2.2)) : Int).toNat (wrap64 ((rd y123 (wrap64 ((wrap64 (7 * bt116.1)) + bt116.2.2))) - 1)) : List Int)).bind fun y125 => ((qI.f bt116.2.1 bt116.2.2).bind fun t126 => (if 0 ≤ (wrap64 ((wrap64 ((wrap64 (7 * bt116.1)) + 4)) + t126)) then (if (wrap64 ((wrap64 ((wrap64 (7 * bt116.1)) + 4)) + t126)) < (y113.length : Int) then (if x3_2.length < 5864062014805 then (zm.l1 k2 (x3_2 ++ [(y125.set ((wrap64 ((wrap64 ((wrap64 (7 * bt116.1)) + 4)) + t126)) : Int).toNat (wrap64 ((rd y125 (wrap64 ((wrap64 ((wrap64 (7 * bt116.1)) + 4)) + t126))) - 1)))]) t105 x5_1 (rd (ze t105 x5_1) 0) (rd (ze t105 x5_1) 1) (wrap64 (x8_2 + 1)) l0_0) else (none)) else (none)) else (none)))) else (none)) else (none))) else (none)) else (none)))) else (none)) else (none))) = some r := by first | (rw [hy113]; with_reducible exact H) | (have H2_ := (yfy _ _).symm.trans H; rw [hy113]; with_reducible exact H2_) | (have H2_ := (yfy _ _).symm.trans H; with_reducible exact H2_) | with_reducible exact H | (rw [hy113]; exact H) | exact H
      have Ny113 := zA.mk hy113
      clear hy113
      replace H := ydy.mp H
      obtain ⟨⟨t116, t117, t118⟩, A190, H⟩ := H
      replace H : (if 0 ≤ (wrap64 ((wrap64 (7 * (rd (ze t105 x5_1) 0))) + x8_2)) then (if (wrap64 ((wrap64 (7 * (rd (ze t105 x5_1) 0))) + x8_2)) < (y113.length : Int) then ((some (y113.set ((wrap64 ((wrap64 (7 * (rd (ze t105 x5_1) 0))) + x8_2)) : Int).toNat (wrap64 ((rd y113 (wrap64 ((wrap64 (7 * (rd (ze t105 x5_1) 0))) + x8_2))) + 1)) : List Int)).bind fun y120 => ((qI.f (rd (ze t105 x5_1) 1) x8_2).bind fun t121 => (if 0 ≤ (wrap64 ((wrap64 ((wrap64 (7 * (rd (ze t105 x5_1) 0))) + 4)) + t121)) then (if (wrap64 ((wrap64 ((wrap64 (7 * (rd (ze t105 x5_1) 0))) + 4)) + t121)) < (y113.length : Int) then ((some (y120.set ((wrap64 ((wrap64 ((wrap64 (7 * (rd (ze t105 x5_1) 0))) + 4)) + t121)) : Int).toNat (wrap64 ((rd y120 (wrap64 ((wrap64 ((wrap64 (7 * (rd (ze t105 x5_1) 0))) + 4)) + t121))) + 1)) : List Int)).bind fun y123 => (if 0 ≤ (wrap64 ((wrap64 (7 * t116)) + t118)) then (if (wrap64 ((wrap64 (7 * t116)) + t118)) < (y113.length : Int) then ((some (y123.set ((wrap64 ((wrap64 (7 * t116)) + t118)) : Int).toNat (wrap64 ((rd y123 (wrap64 ((wrap64 (7 * t116)) + t118))) - 1)) : List Int)).bind fun y125 => ((qI.f t117 t118).bind fun t126 => (if 0 ≤ (wrap64 ((wrap64 ((wrap64 (7 * t116)) + 4)) + t126)) then (if (wrap64 ((wrap64 ((wrap64 (7 * t116)) + 4)) + t126)) < (y113.length : Int) then (if x3_2.length < 5864062014805 then (zm.l1 k2 (x3_2 ++ [(y125.set ((wrap64 ((wrap64 ((wrap64 (7 * t116)) + 4)) + t126)) : Int).toNat (wrap64 ((rd y125 (wrap64 ((wrap64 ((wrap64 (7 * t116)) + 4)) + t126))) - 1)))]) t105 x5_1 (rd (ze t105 x5_1) 0) (rd (ze t105 x5_1) 1) (wrap64 (x8_2 + 1)) l0_0) else (none)) else (none)) else (none)))) else (none)) else (none))) else (none)) else (none)))) else (none)) else (none)) = some r := H
      have A19 := zA.mk A190
      clear A190
      obtain ⟨ji20, hji20⟩ : ∃ j_ : Int, (wrap64 ((wrap64 (7 * (rd (ze t105 x5_1) 0))) + x8_2)) = j_ := ⟨_, rfl⟩
      replace H : (if 0 ≤ (ji20) then (if (ji20) < (y113.length : Int) then ((some (y113.set ((ji20) : Int).toNat (wrap64 ((rd y113 (ji20)) + 1)) : List Int)).bind fun y120 => ((qI.f (rd (ze t105 x5_1) 1) x8_2).bind fun t121 => (if 0 ≤ (wrap64 ((wrap64 ((wrap64 (7 * (rd (ze t105 x5_1) 0))) + 4)) + t121)) then (if (wrap64 ((wrap64 ((wrap64 (7 * (rd (ze t105 x5_1) 0))) + 4)) + t121)) < (y113.length : Int) then ((some (y120.set ((wrap64 ((wrap64 ((wrap64 (7 * (rd (ze t105 x5_1) 0))) + 4)) + t121)) : Int).toNat (wrap64 ((rd y120 (wrap64 ((wrap64 ((wrap64 (7 * (rd (ze t105 x5_1) 0))) + 4)) + t121))) + 1)) : List Int)).bind fun y123 => (if 0 ≤ (wrap64 ((wrap64 (7 * t116)) + t118)) then (if (wrap64 ((wrap64 (7 * t116)) + t118)) < (y113.length : Int) then ((some (y123.set ((wrap64 ((wrap64 (7 * t116)) + t118)) : Int).toNat (wrap64 ((rd y123 (wrap64 ((wrap64 (7 * t116)) + t118))) - 1)) : List Int)).bind fun y125 => ((qI.f t117 t118).bind fun t126 => (if 0 ≤ (wrap64 ((wrap64 ((wrap64 (7 * t116)) + 4)) + t126)) then (if (wrap64 ((wrap64 ((wrap64 (7 * t116)) + 4)) + t126)) < (y113.length : Int) then (if x3_2.length < 5864062014805 then (zm.l1 k2 (x3_2 ++ [(y125.set ((wrap64 ((wrap64 ((wrap64 (7 * t116)) + 4)) + t126)) : Int).toNat (wrap64 ((rd y125 (wrap64 ((wrap64 ((wrap64 (7 * t116)) + 4)) + t126))) - 1)))]) t105 x5_1 (rd (ze t105 x5_1) 0) (rd (ze t105 x5_1) 1) (wrap64 (x8_2 + 1)) l0_0) else (none)) else (none)) else (none)))) else (none)) else (none))) else (none)) else (none)))) else (none)) else (none)) = some r := by first | (rw [hji20] at H; exact H) | (simp only [hji20] at H ⊢; exact H)
      (try rw [hji20] at A15)
      (try rw [hji20] at A19)
      have hji20w : (IntKind.i64.wrap ((wrap64 (7 * (rd (ze t105 x5_1) 0))) + x8_2)) = ji20 := (zV _).trans hji20
      by_cases c21 : 0 ≤ (ji20)
      rotate_left
      next =>
       rw [if_neg c21] at H
       exact absurd H (by simp)
      rw [if_pos c21] at H
      have c21b0 : decide (0 ≤ (ji20)) = true := ygy c21
      clear c21
      by_cases c22 : (ji20) < (y113.length : Int)
      rotate_left
      next =>
       rw [if_neg c22] at H
       exact absurd H (by simp)
      rw [if_pos c22] at H
      have c22b0 : decide ((ji20) < (y113.length : Int)) = true := ygy c22
      clear c22
      obtain ⟨y120, hy120⟩ : ∃ y_ : List Int, y_ = (y113.set ((ji20) : Int).toNat (wrap64 ((rd y113 (ji20)) + 1))) := ⟨_, rfl⟩
      replace H : ((qI.f (rd (ze t105 x5_1) 1) x8_2).bind fun t121 => (if 0 ≤ (wrap64 ((wrap64 ((wrap64 (7 * (rd (ze t105 x5_1) 0))) + 4)) + t121)) then (if (wrap64 ((wrap64 ((wrap64 (7 * (rd (ze t105 x5_1) 0))) + 4)) + t121)) < (y113.length : Int) then ((some (y120.set ((wrap64 ((wrap64 ((wrap64 (7 * (rd (ze t105 x5_1) 0))) + 4)) + t121)) : Int).toNat (wrap64 ((rd y120 (wrap64 ((wrap64 ((wrap64 (7 * (rd (ze t105 x5_1) 0))) + 4)) + t121))) + 1)) : List Int)).bind fun y123 => (if 0 ≤ (wrap64 ((wrap64 (7 * t116)) + t118)) then (if (wrap64 ((wrap64 (7 * t116)) + t118)) < (y113.length : Int) then ((some (y123.set ((wrap64 ((wrap64 (7 * t116)) + t118)) : Int).toNat (wrap64 ((rd y123 (wrap64 ((wrap64 (7 * t116)) + t118))) - 1)) : List Int)).bind fun y125 => ((qI.f t117 t118).bind fun t126 => (if 0 ≤ (wrap64 ((wrap64 ((wrap64 (7 * t116)) + 4)) + t126)) then (if (wrap64 ((wrap64 ((wrap64 (7 * t116)) + 4)) + t126)) < (y113.length : Int) then (if x3_2.length < 5864062014805 then (zm.l1 k2 (x3_2 ++ [(y125.set ((wrap64 ((wrap64 ((wrap64 (7 * t116)) + 4)) + t126)) : Int).toNat (wrap64 ((rd y125 (wrap64 ((wrap64 ((wrap64 (7 * t116)) + 4)) + t126))) - 1)))]) t105 x5_1 (rd (ze t105 x5_1) 0) (rd (ze t105 x5_1) 1) (wrap64 (x8_2 + 1)) l0_0) else (none)) else (none)) else (none)))) else (none)) else (none))) else (none)) else (none))) = some r := by first | (rw [hy120]; with_reducible exact H) | (have H2_ := (yfy _ _).symm.trans H; rw [hy120]; with_reducible exact H2_) | (have H2_ := (yfy _ _).symm.trans H; with_reducible exact H2_) | with_reducible exact H | (rw [hy120]; exact H) | exact H
      have Ny120 := zA.mk hy120
      clear hy120
      replace H := ydy.mp H
      obtain ⟨t121, A240, H⟩ := H
      replace H : (if 0 ≤ (wrap64 ((wrap64 ((wrap64 (7 * (rd (ze t105 x5_1) 0))) + 4)) + t121)) then (if (wrap64 ((wrap64 ((wrap64 (7 * (rd (ze t105 x5_1) 0))) + 4)) + t121)) < (y113.length : Int) then ((some (y120.set ((wrap64 ((wrap64 ((wrap64 (7 * (rd (ze t105 x5_1) 0))) + 4)) + t121)) : Int).toNat (wrap64 ((rd y120 (wrap64 ((wrap64 ((wrap64 (7 * (rd (ze t105 x5_1) 0))) + 4)) + t121))) + 1)) : List Int)).bind fun y123 => (if 0 ≤ (wrap64 ((wrap64 (7 * t116)) + t118)) then (if (wrap64 ((wrap64 (7 * t116)) + t118)) < (y113.length : Int) then ((some (y123.set ((wrap64 ((wrap64 (7 * t116)) + t118)) : Int).toNat (wrap64 ((rd y123 (wrap64 ((wrap64 (7 * t116)) + t118))) - 1)) : List Int)).bind fun y125 => ((qI.f t117 t118).bind fun t126 => (if 0 ≤ (wrap64 ((wrap64 ((wrap64 (7 * t116)) + 4)) + t126)) then (if (wrap64 ((wrap64 ((wrap64 (7 * t116)) + 4)) + t126)) < (y113.length : Int) then (if x3_2.length < 5864062014805 then (zm.l1 k2 (x3_2 ++ [(y125.set ((wrap64 ((wrap64 ((wrap64 (7 * t116)) + 4)) + t126)) : Int).toNat (wrap64 ((rd y125 (wrap64 ((wrap64 ((wrap64 (7 * t116)) + 4)) + t126))) - 1)))]) t105 x5_1 (rd (ze t105 x5_1) 0) (rd (ze t105 x5_1) 1) (wrap64 (x8_2 + 1)) l0_0) else (none)) else (none)) else (none)))) else (none)) else (none))) else (none)) else (none)) = some r := H
      have A24 := zA.mk A240
      clear A240
      obtain ⟨ji25, hji25⟩ : ∃ j_ : Int, (wrap64 ((wrap64 ((wrap64 (7 * (rd (ze t105 x5_1) 0))) + 4)) + t121)) = j_ := ⟨_, rfl⟩
      replace H : (if 0 ≤ (ji25) then (if (ji25) < (y113.length : Int) then ((some (y120.set ((ji25) : Int).toNat (wrap64 ((rd y120 (ji25)) + 1)) : List Int)).bind fun y123 => (if 0 ≤ (wrap64 ((wrap64 (7 * t116)) + t118)) then (if (wrap64 ((wrap64 (7 * t116)) + t118)) < (y113.length : Int) then ((some (y123.set ((wrap64 ((wrap64 (7 * t116)) + t118)) : Int).toNat (wrap64 ((rd y123 (wrap64 ((wrap64 (7 * t116)) + t118))) - 1)) : List Int)).bind fun y125 => ((qI.f t117 t118).bind fun t126 => (if 0 ≤ (wrap64 ((wrap64 ((wrap64 (7 * t116)) + 4)) + t126)) then (if (wrap64 ((wrap64 ((wrap64 (7 * t116)) + 4)) + t126)) < (y113.length : Int) then (if x3_2.length < 5864062014805 then (zm.l1 k2 (x3_2 ++ [(y125.set ((wrap64 ((wrap64 ((wrap64 (7 * t116)) + 4)) + t126)) : Int).toNat (wrap64 ((rd y125 (wrap64 ((wrap64 ((wrap64 (7 * t116)) + 4)) + t126))) - 1)))]) t105 x5_1 (rd (ze t105 x5_1) 0) (rd (ze t105 x5_1) 1) (wrap64 (x8_2 + 1)) l0_0) else (none)) else (none)) else (none)))) else (none)) else (none))) else (none)) else (none)) = some r := by first | (rw [hji25] at H; exact H) | (simp only [hji25] at H ⊢; exact H)
      (try rw [hji25] at A15)
      (try rw [hji25] at A19)
      (try rw [hji25] at A24)
      have hji25w : (IntKind.i64.wrap ((wrap64 ((wrap64 (7 * (rd (ze t105 x5_1) 0))) + 4)) + t121)) = ji25 := (zV _).trans hji25
      by_cases c26 : 0 ≤ (ji25)
      rotate_left
      next =>
       rw [if_neg c26] at H
       exact absurd H (by simp)
      rw [if_pos c26] at H
      have c26b0 : decide (0 ≤ (ji25)) = true := ygy c26
      clear c26
      by_cases c27 : (ji25) < (y113.length : Int)
      rotate_left
      next =>
       rw [if_neg c27] at H
       exact absurd H (by simp)
      rw [if_pos c27] at H
      have c27b0 : decide ((ji25) < (y113.length : Int)) = true := ygy c27
      clear c27
      obtain ⟨y123, hy123⟩ : ∃ y_ : List Int, y_ = (y120.set ((ji25) : Int).toNat (wrap64 ((rd y120 (ji25)) + 1))) := ⟨_, rfl⟩
      replace H : (if 0 ≤ (wrap64 ((wrap64 (7 * t116)) + t118)) then (if (wrap64 ((wrap64 (7 * t116)) + t118)) < (y113.length : Int) then ((some (y123.set ((wrap64 ((wrap64 (7 * t116)) + t118)) : Int).toNat (wrap64 ((rd y123 (wrap64 ((wrap64 (7 * t116)) + t118))) - 1)) : List Int)).bind fun y125 => ((qI.f t117 t118).bind fun t126 => (if 0 ≤ (wrap64 ((wrap64 ((wrap64 (7 * t116)) + 4)) + t126)) then (if (wrap64 ((wrap64 ((wrap64 (7 * t116)) + 4)) + t126)) < (y113.length : Int) then (if x3_2.length < 5864062014805 then (zm.l1 k2 (x3_2 ++ [(y125.set ((wrap64 ((wrap64 ((wrap64 (7 * t116)) + 4)) + t126)) : Int).toNat (wrap64 ((rd y125 (wrap64 ((wrap64 ((wrap64 (7 * t116)) + 4)) + t126))) - 1)))]) t105 x5_1 (rd (ze t105 x5_1) 0) (rd (ze t105 x5_1) 1) (wrap64 (x8_2 + 1)) l0_0) else (none)) else (none)) else (none)))) else (none)) else (none)) = some r := by first | (rw [hy123]; with_reducible exact H) | (have H2_ := (yfy _ _).symm.trans H; rw [hy123]; with_reducible exact H2_) | (have H2_ := (yfy _ _).symm.trans H; with_reducible exact H2_) | with_reducible exact H | (rw [hy123]; exact H) | exact H
      have Ny123 := zA.mk hy123
      clear hy123
      obtain ⟨ji29, hji29⟩ : ∃ j_ : Int, (wrap64 ((wrap64 (7 * t116)) + t118)) = j_ := ⟨_, rfl⟩
      replace H : (if 0 ≤ (ji29) then (if (ji29) < (y113.length : Int) then ((some (y123.set ((ji29) : Int).toNat (wrap64 ((rd y123 (ji29)) - 1)) : List Int)).bind fun y125 => ((qI.f t117 t118).bind fun t126 => (if 0 ≤ (wrap64 ((wrap64 ((wrap64 (7 * t116)) + 4)) + t126)) then (if (wrap64 ((wrap64 ((wrap64 (7 * t116)) + 4)) + t126)) < (y113.length : Int) then (if x3_2.length < 5864062014805 then (zm.l1 k2 (x3_2 ++ [(y125.set ((wrap64 ((wrap64 ((wrap64 (7 * t116)) + 4)) + t126)) : Int).toNat (wrap64 ((rd y125 (wrap64 ((wrap64 ((wrap64 (7 * t116)) + 4)) + t126))) - 1)))]) t105 x5_1 (rd (ze t105 x5_1) 0) (rd (ze t105 x5_1) 1) (wrap64 (x8_2 + 1)) l0_0) else (none)) else (none)) else (none)))) else (none)) else (none)) = some r := by first | (rw [hji29] at H; exact H) | (simp only [hji29] at H ⊢; exact H)
      (try rw [hji29] at A15)
      (try rw [hji29] at A19)
      (try rw [hji29] at A24)
      have hji29w : (IntKind.i64.wrap ((wrap64 (7 * t116)) + t118)) = ji29 := (zV _).trans hji29
      by_cases c30 : 0 ≤ (ji29)
      rotate_left
      next =>
       rw [if_neg c30] at H
       exact absurd H (by simp)
      rw [if_pos c30] at H
      have c30b0 : decide (0 ≤ (ji29)) = true := ygy c30
      clear c30
      by_cases c31 : (ji29) < (y113.length : Int)
      rotate_left
      next =>
       rw [if_neg c31] at H
       exact absurd H (by simp)
      rw [if_pos c31] at H
      have c31b0 : decide ((ji29) < (y113.length : Int)) = true := ygy c31
      clear c31
      obtain ⟨y125, hy125⟩ : ∃ y_ : List Int, y_ = (y123.set ((ji29) : Int).toNat (wrap64 ((rd y123 (ji29)) - 1))) := ⟨_, rfl⟩
      replace H : ((qI.f t117 t118).bind fun t126 => (if 0 ≤ (wrap64 ((wrap64 ((wrap64 (7 * t116)) + 4)) + t126)) then (if (wrap64 ((wrap64 ((wrap64 (7 * t116)) + 4)) + t126)) < (y113.length : Int) then (if x3_2.length < 5864062014805 then (zm.l1 k2 (x3_2 ++ [(y125.set ((wrap64 ((wrap64 ((wrap64 (7 * t116)) + 4)) + t126)) : Int).toNat (wrap64 ((rd y125 (wrap64 ((wrap64 ((wrap64 (7 * t116)) + 4)) + t126))) - 1)))]) t105 x5_1 (rd (ze t105 x5_1) 0) (rd (ze t105 x5_1) 1) (wrap64 (x8_2 + 1)) l0_0) else (none)) else (none)) else (none))) = some r := by first | (rw [hy125]; with_reducible exact H) | (have H2_ := (yfy _ _).symm.trans H; rw [hy125]; with_reducible exact H2_) | (have H2_ := (yfy _ _).symm.trans H; with_reducible exact H2_) | with_reducible exact H | (rw [hy125]; exact H) | exact H
      have Ny125 := zA.mk hy125
      clear hy125
      replace H := ydy.mp H
      obtain ⟨t126, A330, H⟩ := H
      replace H : (if 0 ≤ (wrap64 ((wrap64 ((wrap64 (7 * t116)) + 4)) + t126)) then (if (wrap64 ((wrap64 ((wrap64 (7 * t116)) + 4)) + t126)) < (y113.length : Int) then (if x3_2.length < 5864062014805 then (zm.l1 k2 (x3_2 ++ [(y125.set ((wrap64 ((wrap64 ((wrap64 (7 * t116)) + 4)) + t126)) : Int).toNat (wrap64 ((rd y125 (wrap64 ((wrap64 ((wrap64 (7 * t116)) + 4)) + t126))) - 1)))]) t105 x5_1 (rd (ze t105 x5_1) 0) (rd (ze t105 x5_1) 1) (wrap64 (x8_2 + 1)) l0_0) else (none)) else (none)) else (none)) = some r := H
      have A33 := zA.mk A330
      clear A330
      obtain ⟨ji34, hji34⟩ : ∃ j_ : Int, (wrap64 ((wrap64 ((wrap64 (7 * t116)) + 4)) + t126)) = j_ := ⟨_, rfl⟩
      replace H : (if 0 ≤ (ji34) then (if (ji34) < (y113.length : Int) then (if x3_2.length < 5864062014805 then (zm.l1 k2 (x3_2 ++ [(y125.set ((ji34) : Int).toNat (wrap64 ((rd y125 (ji34)) - 1)))]) t105 x5_1 (rd (ze t105 x5_1) 0) (rd (ze t105 x5_1) 1) (wrap64 (x8_2 + 1)) l0_0) else (none)) else (none)) else (none)) = some r := by first | (rw [hji34] at H; exact H) | (simp only [hji34] at H ⊢; exact H)
      (try rw [hji34] at A15)
      (try rw [hji34] at A19)
      (try rw [hji34] at A24)
      (try rw [hji34] at A33)
      have hji34w : (IntKind.i64.wrap ((wrap64 ((wrap64 (7 * t116)) + 4)) + t126)) = ji34 := (zV _).trans hji34
      by_cases c35 : 0 ≤ (ji34)
      rotate_left
      next =>
       rw [if_neg c35] at H
       exact absurd H (by simp)
      rw [if_pos c35] at H
      have c35b0 : decide (0 ≤ (ji34)) = true := ygy c35
      clear c35
      by_cases c36 : (ji34) < (y113.length : Int)
      rotate_left
      next =>
       rw [if_neg c36] at H
       exact absurd H (by simp)
      rw [if_pos c36] at H
      have c36b0 : decide ((ji34) < (y113.length : Int)) = true := ygy c36
      clear c36
      obtain ⟨y128, hy128⟩ : ∃ y_ : List Int, y_ = (y125.set ((ji34) : Int).toNat (wrap64 ((rd y125 (ji34)) - 1))) := ⟨_, rfl⟩
      replace H : (if x3_2.length < 5864062014805 then (zm.l1 k2 (x3_2 ++ [y128]) t105 x5_1 (rd (ze t105 x5_1) 0) (rd (ze t105 x5_1) 1) (wrap64 (x8_2 + 1)) l0_0) else (none)) = some r := by first | (rw [hy128]; with_reducible exact H) | (have H2_ := (yfy _ _).symm.trans H; rw [hy128]; with_reducible exact H2_) | (have H2_ := (yfy _ _).symm.trans H; with_reducible exact H2_) | with_reducible exact H | (rw [hy128]; exact H) | exact H
      have Ny128 := zA.mk hy128
      clear hy128
      by_cases c38 : x3_2.length < 5864062014805
      rotate_left
      next =>
       rw [if_neg c38] at H
       exact absurd H (by simp)
      rw [if_pos c38] at H
      have LMc38 := zA.mk c38
      clear c38
      obtain ⟨y129, hy129⟩ : ∃ y_ : List (List Int), y_ = (x3_2 ++ [y128]) := ⟨_, rfl⟩
      replace H : (zm.l1 k2 y129 t105 x5_1 (rd (ze t105 x5_1) 0) (rd (ze t105 x5_1) 1) (wrap64 (x8_2 + 1)) l0_0) = some r := by first | (rw [hy129]; with_reducible exact H) | (have H2_ := (yfy _ _).symm.trans H; rw [hy129]; with_reducible exact H2_) | (have H2_ := (yfy _ _).symm.trans H; with_reducible exact H2_) | with_reducible exact H | (rw [hy129]; exact H) | exact H
      have Ny129 := zA.mk hy129
      clear hy129
      have H' := zA.mk H
      clear H
      have hcz39_0 : wr.cell? ⟨gb101, 0, none⟩ = some (.slice A0_0 l0_0.length c0_0) := (zL BK101.out 0).trans rfl
      have hfz39_0 := zM BK101.out 0
      go_wp2_with (first | ((with_reducible refine zQ (f := 59) rfl ?_); refine zt (some 42) rfl rfl Try.func59 (by kernel_rfl) rfl #[.agg #[.slice A0_0 l0_0.length c0_0]] rfl (by (try simp only [yiy, yjy, yky]); first | done | rfl | (simp only [yly, ymy]; rfl)) ?_; (with_reducible refine (zy.calls _ _ l0_0 t112 _ ?side1 ?side2 A15.out).mono ?_); (case side1 => repeat (first | exact (Kd.za HR0_0.out HB.out) | (with_reducible refine Kd.zb ?_ _) | (with_reducible refine Kd.zc ?_ _) | (with_reducible refine Kd.zk ?_))); (case side2 => exact HC0_0.out); rintro e w40 ⟨rfl, hb⟩; refine ⟨_, rfl, ?_⟩; have n0_ := zA.mk (Kd.QO (by (with_reducible repeat (first | apply Kd.qS | apply Kd.qT | apply Kd.ql)); exact HO_3.out) hb); have n1_ := zA.mk (Kd.QO (by (with_reducible repeat (first | apply Kd.qS | apply Kd.qT | apply Kd.ql)); exact HO_4.out) hb); have n2_ := zA.mk (zP (g := gb101) (o := .cells #[.slice A0_0 l0_0.length c0_0] 30 (0, 0)) (by (with_reducible repeat (first | refine zI ?_ _ | refine zJ ?_ | refine zH ?_ _)); exact BK101.out) hb); have n3_ := zA.mk (zN (by repeat (first | (with_reducible first | exact HB.out | apply zC | apply zB | apply zD | refine zF ?_ GE101.out) | exact HB.out)) hb); clear HO_3; clear HO_4; clear BK101; clear HB; have HO_3 := n0_; have HO_4 := n1_; have BK101 := n2_; have HB := n3_; clear n0_ n1_ n2_ n3_; (try clear hb); (try clear hb2); (try clear hk); (try clear hi)) | ((with_reducible refine zj (N := 44) rfl ?_); refine Kd.zCg (Kd.int .i64) _ 2 rfl (N := 44) rfl 25 _ _ rfl ji16 rfl rfl Try.underlying25 (.int .i64 0) 8 JS rfl (by decide) (by omega) 0 (ok := fun _ => True) (okp := fun _ => True) rfl (fun _ hk => hk) trivial (of_decide_eq_true (by first | (with_reducible assumption) | assumption)) (Nat.le_trans (Nat.mul_le_mul_right _ (of_decide_eq_true (by first | (with_reducible assumption) | assumption) : ji16.toNat ≤ 35184372088832)) (by omega)) (yry _ _) (yqy _) ?_; intro v114 w41 ho42 hb hg_ hnew_; clear hg_ hnew_; (first | rw [← Ny113.out] at ho42 | (simp only [Int.reduceToNat] at ho42; rw [← Ny113.out] at ho42)); have n0_ := zA.mk (Kd.Jr (by (with_reducible repeat (first | apply Kd.qS | apply Kd.qT | apply Kd.ql)); exact HO_3.out) (Kd.JJ ho42) hb); have n1_ := zA.mk (Kd.Jr (by (with_reducible repeat (first | apply Kd.qS | apply Kd.qT | apply Kd.ql)); exact HO_4.out) (Kd.JJ ho42) hb); have n2_ := zA.mk (Kd.ZR ho42 (zO (by repeat (first | (with_reducible first | exact HB.out | apply zC | apply zB | apply zD | refine zF ?_ GE101.out) | exact HB.out)))); have n3_ := zA.mk (zP (g := gb101) (o := .cells #[.slice A0_0 l0_0.length c0_0] 30 (0, 0)) (by (with_reducible repeat (first | refine zI ?_ _ | refine zJ ?_ | refine zH ?_ _)); exact BK101.out) hb); have n4_ := zA.mk (zN (by repeat (first | (with_reducible first | exact HB.out | apply zC | apply zB | apply zD | refine zF ?_ GE101.out) | exact HB.out)) hb); clear HO_3; clear HO_4; clear BK101; clear HB; have HO_3 := n0_; have HO_4 := n1_; have HO115 := n2_; have BK101 := n3_; have HB := n4_; clear n0_ n1_ n2_ n3_ n4_; clear hb ho42; have hcz43_0 : w41.cell? ⟨gb101, 0, none⟩ = some (.slice A0_0 l0_0.length c0_0) := (zL BK101.out 0).trans rfl; have hfz43_0 := zM BK101.out 0) | ((with_reducible refine zQ (f := 103) rfl ?_); refine zt (some 50) rfl rfl Try.func103 (by kernel_rfl) rfl #[.agg #[.slice A0_0 l0_0.length c0_0], .int .i64 (rd (ze t105 x5_1) 0), .int .i64 (rd (ze t105 x5_1) 1), .int .i64 x8_2] rfl (by (try simp only [yiy, yjy, yky]); first | done | rfl | (simp only [yly, ymy]; rfl)) ?_; (with_reducible refine (qf.calls k2 _ _ l0_0 (rd (ze t105 x5_1) 0) (rd (ze t105 x5_1) 1) x8_2 t116 t117 t118 _ ?side1 ?side2 A19.out).mono ?_); (case side1 => repeat (first | exact (Kd.za HR0_0.out HB.out) | (with_reducible refine Kd.zb ?_ _) | (with_reducible refine Kd.zc ?_ _) | (with_reducible refine Kd.zk ?_))); (case side2 => exact HC0_0.out); rintro e w44 ⟨rfl, hb⟩; refine ⟨_, rfl, ?_⟩; have n0_ := zA.mk (Kd.QO (by (with_reducible repeat (first | apply Kd.qS | apply Kd.qT | apply Kd.ql)); exact HO_3.out) hb); have n1_ := zA.mk (Kd.QO (by (with_reducible repeat (first | apply Kd.qS | apply Kd.qT | apply Kd.ql)); exact HO_4.out) hb); have n2_ := zA.mk (Kd.Zh (by (with_reducible repeat (first | apply Kd.zp | apply Kd.zn | apply Kd.qA)); exact HO115.out) hb); have n3_ := zA.mk (zP (g := gb101) (o := .cells #[.slice A0_0 l0_0.length c0_0] 30 (0, 0)) (by (with_reducible repeat (first | refine zI ?_ _ | refine zJ ?_ | refine zH ?_ _)); exact BK101.out) hb); have n4_ := zA.mk (zN (by repeat (first | (with_reducible first | exact HB.out | apply zC | apply zB | apply zD | refine zF ?_ GE101.out) | exact HB.out)) hb); clear HO_3; clear HO_4; clear HO115; clear BK101; clear HB; have HO_3 := n0_; have HO_4 := n1_; have HO115 := n2_; have BK101 := n3_; have HB := n4_; clear n0_ n1_ n2_ n3_ n4_; (try clear hb); (try clear hb2); (try clear hk); (try clear hi); obtain ⟨Ao45, co45, eo45⟩ := Kd.ZZ HO115.out; subst eo45; have p119 : 0 ≤ ((ji20) : Int) := of_decide_eq_true (by first | (with_reducible assumption) | assumption); have q119 : (ji20) < (y113.length : Int) := of_decide_eq_true (by first | (with_reducible assumption) | assumption); obtain ⟨ad119, e119, hx119_0⟩ := Kd.ZF (Kd.zw HO115.out).2.2 (ji20) p119 q119; cases e119; replace p119 := eq_true p119; replace q119 := eq_true q119; have p23 : 0 ≤ ((ji20) : Int) := of_decide_eq_true (by first | (with_reducible assumption) | assumption); have q23 : ((ji20) : Int) < ((y113.length : Int) : Int) := of_decide_eq_true (by first | (with_reducible assumption) | assumption); obtain ⟨go23, co23, eo23, gb23, gl23, cl23, HG23⟩ := Kd.Jv HO115.out (by omega); (first | cases eo23 | (injection eo23 with ea_ en_ ec_; (first | subst ea_ | (injection ea_ with ea_; subst ea_)); subst ec_; clear en_)); have GB23 := zA.mk gb23; have GG23 := zA.mk HG23; clear gb23 gl23 HG23; (first | simp only [add_plain] at hx119_0 | skip); obtain ⟨hx23_0, hf23_0⟩ := Kd.QA 0 HO115.out ((ji20) : Int) p23 q23; replace p23 := eq_true p23; replace q23 := eq_true q23; obtain ⟨hy46_, hz46_⟩ := Kd.QA 0 HO115.out ((ji20) : Int) (of_decide_eq_true (by first | (with_reducible assumption) | assumption)) (of_decide_eq_true (by first | (with_reducible assumption) | assumption)); have HP46 := Kd.JY HO115.out ((ji20) : Int) (wrap64 ((rd y113 (ji20)) + 1))) | ((with_reducible refine ZW (t := 2) (p := 62) rfl ?_); refine ZG (t := 2) (p := 62) (v := ?vo_w47) (w1 := (w44.setCell ⟨go23, ((ji20) : Int).toNat, none⟩ (.int .i64 (wrap64 ((rd y113 (ji20)) + 1))))) ?hg ?ho ?hn ?hr ?_; (case ho => rfl); (case hg => rfl); (case hn => rfl); (case hr => first | (go_simp; done) | (go_simp; rfl)); intro w47 hw; have hg : w44.grownBy w47 (some go23) := (by rw [hw]; exact HP46.2); have hp_ : Kd.R (Kd.int .i64) 2 w47 w.heap.size (fun _ => True) (.slice (some ⟨go23, 0, none⟩) y113.length co45) y120 := (by rw [hw, Ny120.out]; exact HP46.1); clear HP46; have n0_ := zA.mk (Kd.JQ (v := (.slice (some ⟨go23, 0, none⟩) y113.length co45)) (v1 := (.slice (some ⟨go23, 0, none⟩) y113.length co45)) (ok := (fun k_ => some k_ ≠ (.slice (some ad108) t105.length co12 : Value).ownBlock)) (by (with_reducible repeat (first | apply Kd.qS | apply Kd.qT | apply Kd.ql)); first | exact HO_3.out | exact Kd.Zl HO_3.out (fun _ hk => ⟨hk.2, hk.1⟩) | exact Kd.qb HO_3.out (fun _ hk => ⟨hk.2, hk.1⟩)) hg (.inl rfl)); have n1_ := zA.mk (Kd.JQ (v := (.slice (some ⟨go23, 0, none⟩) y113.length co45)) (v1 := (.slice (some ⟨go23, 0, none⟩) y113.length co45)) (ok := (fun k_ => some k_ ≠ (u3 : Value).ownBlock)) (by (with_reducible repeat (first | apply Kd.qS | apply Kd.qT | apply Kd.ql)); first | exact HO_4.out | exact Kd.Zl HO_4.out (fun _ hk => ⟨hk.2, hk.1⟩) | exact Kd.qb HO_4.out (fun _ hk => ⟨hk.2, hk.1⟩)) hg (.inl rfl)); have n2_ := zA.mk (ZB (g := gb101) (o := .cells #[.slice A0_0 l0_0.length c0_0] 30 (0, 0)) (by (with_reducible repeat (first | refine zI ?_ _ | refine zJ ?_ | refine zH ?_ _)); exact BK101.out) hg (Kd.R_ne HO115.out BK101.out (by decide))); have n3_ := zA.mk (hp_); have n4_ := zA.mk ((by rw [hw]; exact zF (HB.out) GB23.out : Below w.heap.size w w47)); clear HO_3; clear HO_4; clear BK101; clear HO115; clear HB; have HO_3 := n0_; have HO_4 := n1_; have BK101 := n2_; have HO115 := n3_; have HB := n4_; clear n0_ n1_ n2_ n3_ n4_; clear hg hw hp_) | ((with_reducible refine zQ (f := 104) rfl ?_); refine zt (some 69) rfl rfl Try.func104 (by kernel_rfl) rfl #[.int .i64 (rd (ze t105 x5_1) 1), .int .i64 x8_2] rfl (by (try simp only [yiy, yjy, yky]); first | done | rfl | (simp only [yly, ymy]; rfl)) ?_; (with_reducible refine (qI.calls (rd (ze t105 x5_1) 1) x8_2 t121 _ A24.out).mono ?_); rintro e w' ⟨rfl, ⟨nd, rfl⟩⟩; refine ⟨_, rfl, ?_⟩; (try (rw [zBh w47]; generalize hq_ : World.drewN w47 _ = w47; have n0_ : zA (Kd.R (Kd.int .i64) 2 w47 w.heap.size (fun _ => True) (.slice (some ⟨go23, 0, none⟩) y113.length co45) y120) := ⟨by rw [← hq_]; exact (by (with_reducible repeat (first | apply Kd.zp | apply Kd.zn | apply Kd.qA)); exact HO115.out)⟩; have n1_ : zA (Kd.S (Kd.slice 2 (Kd.int .i64)) 25 w47 w.heap.size (fun k_ => some k_ ≠ (.slice (some ⟨go23, 0, none⟩) y113.length co45 : Value).ownBlock ∧ some k_ ≠ (.slice (some ad108) t105.length co12 : Value).ownBlock) u3 x3_2) := ⟨by rw [← hq_]; exact (by (with_reducible repeat (first | apply Kd.qS | apply Kd.qT | apply Kd.ql)); exact Kd.Zl HO_3.out (fun _ hk => ⟨hk.2, hk.1⟩))⟩; have n2_ : zA (Kd.S (Kd.slice 2 (Kd.int .i64)) 25 w47 w.heap.size (fun k_ => some k_ ≠ (.slice (some ⟨go23, 0, none⟩) y113.length co45 : Value).ownBlock ∧ some k_ ≠ (u3 : Value).ownBlock) (.slice (some ad108) t105.length co12) t105) := ⟨by rw [← hq_]; exact (by (with_reducible repeat (first | apply Kd.qS | apply Kd.qT | apply Kd.ql)); exact Kd.Zl HO_4.out (fun _ hk => ⟨hk.2, hk.1⟩))⟩; have n3_ : zA (w47.heap[gb101]? = some (.cells #[.slice A0_0 l0_0.length c0_0] 30 (0, 0))) := ⟨by rw [← hq_]; exact (by (with_reducible repeat (first | refine zI ?_ _ | refine zJ ?_ | refine zH ?_ _)); exact BK101.out)⟩; have n4_ : zA (Below w.heap.size w w47) := ⟨by rw [← hq_]; exact (by repeat (first | (with_reducible first | exact HB.out | apply zC | apply zB | apply zD | refine zF ?_ GE101.out) | exact HB.out))⟩; clear HO115 HO_3 HO_4 BK101 HB hq_; have HO115 := n0_; have HO_3 := n1_; have HO_4 := n2_; have BK101 := n3_; have HB := n4_; clear n0_ n1_ n2_ n3_ n4_)); have p122 : 0 ≤ ((ji25) : Int) := of_decide_eq_true (by first | (with_reducible assumption) | assumption); have q122 : (ji25) < (y120.length : Int) := (by have h_ : ((ji25) : Int) < ((y113.length : Int) : Int) := of_decide_eq_true (by first | (with_reducible assumption) | assumption); first | (have e_ := (Kd.zw HO115.out).1; omega) | simpa only [Ny120.out, List.length_set] using h_); have ql122 : (((ji25) : Int) < ((y113.length : Int) : Int)) = True := eq_true (of_decide_eq_true (by first | (with_reducible assumption) | assumption)); obtain ⟨ad122, e122, hx122_0⟩ := Kd.ZF (Kd.zw HO115.out).2.2 (ji25) p122 q122; obtain rfl : (⟨go23, 0, none⟩ : Addr) = ad122 := (by injection e122); (first | simp only [add_plain] at hx122_0 | simp only [zCh] at hx122_0 | simp only [Addr.add, Nat.zero_add] at hx122_0 | skip); replace p122 := eq_true p122; replace q122 := eq_true q122; have p28 : 0 ≤ ((ji25) : Int) := of_decide_eq_true (by first | (with_reducible assumption) | assumption); have q28 : ((ji25) : Int) < ((y113.length : Int) : Int) := of_decide_eq_true (by first | (with_reducible assumption) | assumption); obtain ⟨hx28_0, hf28_0⟩ := Kd.QA 0 HO115.out ((ji25) : Int) p28 q28; replace p28 := eq_true p28; replace q28 := eq_true q28; obtain ⟨hy48_, hz48_⟩ := Kd.QA 0 HO115.out ((ji25) : Int) (of_decide_eq_true (by first | (with_reducible assumption) | assumption)) (of_decide_eq_true (by first | (with_reducible assumption) | assumption)); have HP48 := Kd.JY HO115.out ((ji25) : Int) (wrap64 ((rd y120 (ji25)) + 1))) | ((with_reducible refine ZW (t := 2) (p := 74) rfl ?_); refine ZG (t := 2) (p := 74) (v := ?vo_w49) (w1 := (w47.setCell ⟨go23, ((ji25) : Int).toNat, none⟩ (.int .i64 (wrap64 ((rd y120 (ji25)) + 1))))) ?hg ?ho ?hn ?hr ?_; (case ho => rfl); (case hg => rfl); (case hn => rfl); (case hr => first | (go_simp; done) | (go_simp; rfl)); intro w49 hw; have hg : w47.grownBy w49 (some go23) := (by rw [hw]; exact HP48.2); have hp_ : Kd.R (Kd.int .i64) 2 w49 w.heap.size (fun _ => True) (.slice (some ⟨go23, 0, none⟩) y113.length co45) y123 := (by rw [hw, Ny123.out]; exact HP48.1); clear HP48; have n0_ := zA.mk (Kd.JQ (v := (.slice (some ⟨go23, 0, none⟩) y113.length co45)) (v1 := (.slice (some ⟨go23, 0, none⟩) y113.length co45)) (ok := (fun k_ => some k_ ≠ (.slice (some ad108) t105.length co12 : Value).ownBlock)) (by (with_reducible repeat (first | apply Kd.qS | apply Kd.qT | apply Kd.ql)); first | exact HO_3.out | exact Kd.Zl HO_3.out (fun _ hk => ⟨hk.2, hk.1⟩) | exact Kd.qb HO_3.out (fun _ hk => ⟨hk.2, hk.1⟩)) hg (.inl rfl)); have n1_ := zA.mk (Kd.JQ (v := (.slice (some ⟨go23, 0, none⟩) y113.length co45)) (v1 := (.slice (some ⟨go23, 0, none⟩) y113.length co45)) (ok := (fun k_ => some k_ ≠ (u3 : Value).ownBlock)) (by (with_reducible repeat (first | apply Kd.qS | apply Kd.qT | apply Kd.ql)); first | exact HO_4.out | exact Kd.Zl HO_4.out (fun _ hk => ⟨hk.2, hk.1⟩) | exact Kd.qb HO_4.out (fun _ hk => ⟨hk.2, hk.1⟩)) hg (.inl rfl)); have n2_ := zA.mk (ZB (g := gb101) (o := .cells #[.slice A0_0 l0_0.length c0_0] 30 (0, 0)) (by (with_reducible repeat (first | refine zI ?_ _ | refine zJ ?_ | refine zH ?_ _)); exact BK101.out) hg (Kd.R_ne HO115.out BK101.out (by decide))); have n3_ := zA.mk (hp_); have n4_ := zA.mk ((by rw [hw]; exact zF (HB.out) GB23.out : Below w.heap.size w w49)); clear HO_3; clear HO_4; clear BK101; clear HO115; clear HB; have HO_3 := n0_; have HO_4 := n1_; have BK101 := n2_; have HO115 := n3_; have HB := n4_; clear n0_ n1_ n2_ n3_ n4_; clear hg hw hp_; have p124 : 0 ≤ ((ji29) : Int) := of_decide_eq_true (by first | (with_reducible assumption) | assumption); have q124 : (ji29) < (y123.length : Int) := (by have h_ : ((ji29) : Int) < ((y113.length : Int) : Int) := of_decide_eq_true (by first | (with_reducible assumption) | assumption); first | (have e_ := (Kd.zw HO115.out).1; omega) | simpa only [Ny120.out, Ny123.out, List.length_set] using h_); have ql124 : (((ji29) : Int) < ((y113.length : Int) : Int)) = True := eq_true (of_decide_eq_true (by first | (with_reducible assumption) | assumption)); obtain ⟨ad124, e124, hx124_0⟩ := Kd.ZF (Kd.zw HO115.out).2.2 (ji29) p124 q124; obtain rfl : (⟨go23, 0, none⟩ : Addr) = ad124 := (by injection e124); (first | simp only [add_plain] at hx124_0 | simp only [zCh] at hx124_0 | simp only [Addr.add, Nat.zero_add] at hx124_0 | skip); replace p124 := eq_true p124; replace q124 := eq_true q124; have p32 : 0 ≤ ((ji29) : Int) := of_decide_eq_true (by first | (with_reducible assumption) | assumption); have q32 : ((ji29) : Int) < ((y113.length : Int) : Int) := of_decide_eq_true (by first | (with_reducible assumption) | assumption); obtain ⟨hx32_0, hf32_0⟩ := Kd.QA 0 HO115.out ((ji29) : Int) p32 q32; replace p32 := eq_true p32; replace q32 := eq_true q32; obtain ⟨hy50_, hz50_⟩ := Kd.QA 0 HO115.out ((ji29) : Int) (of_decide_eq_true (by first | (with_reducible assumption) | assumption)) (of_decide_eq_true (by first | (with_reducible assumption) | assumption)); have HP50 := Kd.JY HO115.out ((ji29) : Int) (wrap64 ((rd y123 (ji29)) - 1))) | ((with_reducible refine ZW (t := 2) (p := 83) rfl ?_); refine ZG (t := 2) (p := 83) (v := ?vo_w51) (w1 := (w49.setCell ⟨go23, ((ji29) : Int).toNat, none⟩ (.int .i64 (wrap64 ((rd y123 (ji29)) - 1))))) ?hg ?ho ?hn ?hr ?_; (case ho => rfl); (case hg => rfl); (case hn => rfl); (case hr => first | (go_simp; done) | (go_simp; rfl)); intro w51 hw; have hg : w49.grownBy w51 (some go23) := (by rw [hw]; exact HP50.2); have hp_ : Kd.R (Kd.int .i64) 2 w51 w.heap.size (fun _ => True) (.slice (some ⟨go23, 0, none⟩) y113.length co45) y125 := (by rw [hw, Ny125.out]; exact HP50.1); clear HP50; have n0_ := zA.mk (Kd.JQ (v := (.slice (some ⟨go23, 0, none⟩) y113.length co45)) (v1 := (.slice (some ⟨go23, 0, none⟩) y113.length co45)) (ok := (fun k_ => some k_ ≠ (.slice (some ad108) t105.length co12 : Value).ownBlock)) (by (with_reducible repeat (first | apply Kd.qS | apply Kd.qT | apply Kd.ql)); first | exact HO_3.out | exact Kd.Zl HO_3.out (fun _ hk => ⟨hk.2, hk.1⟩) | exact Kd.qb HO_3.out (fun _ hk => ⟨hk.2, hk.1⟩)) hg (.inl rfl)); have n1_ := zA.mk (Kd.JQ (v := (.slice (some ⟨go23, 0, none⟩) y113.length co45)) (v1 := (.slice (some ⟨go23, 0, none⟩) y113.length co45)) (ok := (fun k_ => some k_ ≠ (u3 : Value).ownBlock)) (by (with_reducible repeat (first | apply Kd.qS | apply Kd.qT | apply Kd.ql)); first | exact HO_4.out | exact Kd.Zl HO_4.out (fun _ hk => ⟨hk.2, hk.1⟩) | exact Kd.qb HO_4.out (fun _ hk => ⟨hk.2, hk.1⟩)) hg (.inl rfl)); have n2_ := zA.mk (ZB (g := gb101) (o := .cells #[.slice A0_0 l0_0.length c0_0] 30 (0, 0)) (by (with_reducible repeat (first | refine zI ?_ _ | refine zJ ?_ | refine zH ?_ _)); exact BK101.out) hg (Kd.R_ne HO115.out BK101.out (by decide))); have n3_ := zA.mk (hp_); have n4_ := zA.mk ((by rw [hw]; exact zF (HB.out) GB23.out : Below w.heap.size w w51)); clear HO_3; clear HO_4; clear BK101; clear HO115; clear HB; have HO_3 := n0_; have HO_4 := n1_; have BK101 := n2_; have HO115 := n3_; have HB := n4_; clear n0_ n1_ n2_ n3_ n4_; clear hg hw hp_) | ((with_reducible refine zQ (f := 104) rfl ?_); refine zt (some 90) rfl rfl Try.func104 (by kernel_rfl) rfl #[.int .i64 t117, .int .i64 t118] rfl (by (try simp only [yiy, yjy, yky]); first | done | rfl | (simp only [yly, ymy]; rfl)) ?_; (with_reducible refine (qI.calls t117 t118 t126 _ A33.out).mono ?_); rintro e w' ⟨rfl, ⟨nd, rfl⟩⟩; refine ⟨_, rfl, ?_⟩; (try (rw [zBh w51]; generalize hq_ : World.drewN w51 _ = w51; have n0_ : zA (Kd.R (Kd.int .i64) 2 w51 w.heap.size (fun _ => True) (.slice (some ⟨go23, 0, none⟩) y113.length co45) y125) := ⟨by rw [← hq_]; exact (by (with_reducible repeat (first | apply Kd.zp | apply Kd.zn | apply Kd.qA)); exact HO115.out)⟩; have n1_ : zA (Kd.S (Kd.slice 2 (Kd.int .i64)) 25 w51 w.heap.size (fun k_ => some k_ ≠ (.slice (some ⟨go23, 0, none⟩) y113.length co45 : Value).ownBlock ∧ some k_ ≠ (.slice (some ad108) t105.length co12 : Value).ownBlock) u3 x3_2) := ⟨by rw [← hq_]; exact (by (with_reducible repeat (first | apply Kd.qS | apply Kd.qT | apply Kd.ql)); exact Kd.Zl HO_3.out (fun _ hk => ⟨hk.2, hk.1⟩))⟩; have n2_ : zA (Kd.S (Kd.slice 2 (Kd.int .i64)) 25 w51 w.heap.size (fun k_ => some k_ ≠ (.slice (some ⟨go23, 0, none⟩) y113.length co45 : Value).ownBlock ∧ some k_ ≠ (u3 : Value).ownBlock) (.slice (some ad108) t105.length co12) t105) := ⟨by rw [← hq_]; exact (by (with_reducible repeat (first | apply Kd.qS | apply Kd.qT | apply Kd.ql)); exact Kd.Zl HO_4.out (fun _ hk => ⟨hk.2, hk.1⟩))⟩; have n3_ : zA (w51.heap[gb101]? = some (.cells #[.slice A0_0 l0_0.length c0_0] 30 (0, 0))) := ⟨by rw [← hq_]; exact (by (with_reducible repeat (first | refine zI ?_ _ | refine zJ ?_ | refine zH ?_ _)); exact BK101.out)⟩; have n4_ : zA (Below w.heap.size w w51) := ⟨by rw [← hq_]; exact (by repeat (first | (with_reducible first | exact HB.out | apply zC | apply zB | apply zD | refine zF ?_ GE101.out) | exact HB.out))⟩; clear HO115 HO_3 HO_4 BK101 HB hq_; have HO115 := n0_; have HO_3 := n1_; have HO_4 := n2_; have BK101 := n3_; have HB := n4_; clear n0_ n1_ n2_ n3_ n4_)); have p127 : 0 ≤ ((ji34) : Int) := of_decide_eq_true (by first | (with_reducible assumption) | assumption); have q127 : (ji34) < (y125.length : Int) := (by have h_ : ((ji34) : Int) < ((y113.length : Int) : Int) := of_decide_eq_true (by first | (with_reducible assumption) | assumption); first | (have e_ := (Kd.zw HO115.out).1; omega) | simpa only [Ny120.out, Ny123.out, Ny125.out, List.length_set] using h_); have ql127 : (((ji34) : Int) < ((y113.length : Int) : Int)) = True := eq_true (of_decide_eq_true (by first | (with_reducible assumption) | assumption)); obtain ⟨ad127, e127, hx127_0⟩ := Kd.ZF (Kd.zw HO115.out).2.2 (ji34) p127 q127; obtain rfl : (⟨go23, 0, none⟩ : Addr) = ad127 := (by injection e127); (first | simp only [add_plain] at hx127_0 | simp only [zCh] at hx127_0 | simp only [Addr.add, Nat.zero_add] at hx127_0 | skip); replace p127 := eq_true p127; replace q127 := eq_true q127; have p37 : 0 ≤ ((ji34) : Int) := of_decide_eq_true (by first | (with_reducible assumption) | assumption); have q37 : ((ji34) : Int) < ((y113.length : Int) : Int) := of_decide_eq_true (by first | (with_reducible assumption) | assumption); obtain ⟨hx37_0, hf37_0⟩ := Kd.QA 0 HO115.out ((ji34) : Int) p37 q37; replace p37 := eq_true p37; replace q37 := eq_true q37; obtain ⟨hy52_, hz52_⟩ := Kd.QA 0 HO115.out ((ji34) : Int) (of_decide_eq_true (by first | (with_reducible assumption) | assumption)) (of_decide_eq_true (by first | (with_reducible assumption) | assumption)); have HP52 := Kd.JY HO115.out ((ji34) : Int) (wrap64 ((rd y125 (ji34)) - 1))) | ((with_reducible refine ZW (t := 2) (p := 95) rfl ?_); refine ZG (t := 2) (p := 95) (v := ?vo_w53) (w1 := (w51.setCell ⟨go23, ((ji34) : Int).toNat, none⟩ (.int .i64 (wrap64 ((rd y125 (ji34)) - 1))))) ?hg ?ho ?hn ?hr ?_; (case ho => rfl); (case hg => rfl); (case hn => rfl); (case hr => first | (go_simp; done) | (go_simp; rfl)); intro w53 hw; have hg : w51.grownBy w53 (some go23) := (by rw [hw]; exact HP52.2); have hp_ : Kd.R (Kd.int .i64) 2 w53 w.heap.size (fun _ => True) (.slice (some ⟨go23, 0, none⟩) y113.length co45) y128 := (by rw [hw, Ny128.out]; exact HP52.1); clear HP52; have n0_ := zA.mk (Kd.JQ (v := (.slice (some ⟨go23, 0, none⟩) y113.length co45)) (v1 := (.slice (some ⟨go23, 0, none⟩) y113.length co45)) (ok := (fun k_ => some k_ ≠ (.slice (some ad108) t105.length co12 : Value).ownBlock)) (by (with_reducible repeat (first | apply Kd.qS | apply Kd.qT | apply Kd.ql)); first | exact HO_3.out | exact Kd.Zl HO_3.out (fun _ hk => ⟨hk.2, hk.1⟩) | exact Kd.qb HO_3.out (fun _ hk => ⟨hk.2, hk.1⟩)) hg (.inl rfl)); have n1_ := zA.mk (Kd.JQ (v := (.slice (some ⟨go23, 0, none⟩) y113.length co45)) (v1 := (.slice (some ⟨go23, 0, none⟩) y113.length co45)) (ok := (fun k_ => some k_ ≠ (u3 : Value).ownBlock)) (by (with_reducible repeat (first | apply Kd.qS | apply Kd.qT | apply Kd.ql)); first | exact HO_4.out | exact Kd.Zl HO_4.out (fun _ hk => ⟨hk.2, hk.1⟩) | exact Kd.qb HO_4.out (fun _ hk => ⟨hk.2, hk.1⟩)) hg (.inl rfl)); have n2_ := zA.mk (ZB (g := gb101) (o := .cells #[.slice A0_0 l0_0.length c0_0] 30 (0, 0)) (by (with_reducible repeat (first | refine zI ?_ _ | refine zJ ?_ | refine zH ?_ _)); exact BK101.out) hg (Kd.R_ne HO115.out BK101.out (by decide))); have n3_ := zA.mk (hp_); have n4_ := zA.mk ((by rw [hw]; exact zF (HB.out) GB23.out : Below w.heap.size w w53)); clear HO_3; clear HO_4; clear BK101; clear HO115; clear HB; have HO_3 := n0_; have HO_4 := n1_; have BK101 := n2_; have HO115 := n3_; have HB := n4_; clear n0_ n1_ n2_ n3_ n4_; clear hg hw hp_) | ((with_reducible refine Zm (b := .append) (xs := #[.tmp 96, .tmp 98]) rfl ?_); at_builtin; refine Kd.zCD (Kd.slice 2 (Kd.int .i64)) (w0 := w) w.heap.size rfl (.tmp 96) (.tmp 98) 54 25 (.slice none 0 0) 24 rfl Try.underlying54 zEk rfl (by decide) (by omega) u3 x3_2 y128 [.slice (some ⟨go23, 0, none⟩) y113.length co45] (fun k_ => some k_ ≠ (.slice (some ad108) t105.length co12 : Value).ownBlock) (fun k_ => some k_ = (.slice (some ⟨go23, 0, none⟩) y113.length co45 : Value).ownBlock) rfl rfl ?aP (fun k_ hk_ => ((Kd.qb (ok' := fun k_ => ((fun k_ => some k_ ≠ (.slice (some ad108) t105.length co12 : Value).ownBlock)) k_ ∧ some k_ ≠ (u3 : Value).ownBlock) (Kd.Qg (Kd.Qg (HO115.out) (Kd.JF HO_4.out) (by decide)) (Kd.JF HO_3.out) (by decide)) (fun k_ hk => ⟨hk.1.2, hk.2⟩))).1 k_ hk_.symm) ?aF ?aO ?aB ?aS ?aL ?_; (case aP => exact Kd.zFE (Kd.qb (Kd.Qu rfl (Kd.qb (ok' := fun k_ => ((fun k_ => some k_ ≠ (.slice (some ad108) t105.length co12 : Value).ownBlock)) k_ ∧ some k_ ≠ (u3 : Value).ownBlock) (Kd.Qg (Kd.Qg (HO115.out) (Kd.JF HO_4.out) (by decide)) (Kd.JF HO_3.out) (by decide)) (fun k_ hk => ⟨hk.1.2, hk.2⟩))) (fun _ h_ => h_))); (case aB => exact (by repeat (first | (with_reducible first | exact HB.out | apply zC | apply zB | apply zD | refine zF ?_ GE101.out) | exact HB.out))); (case aF => exact (fun k_ hk => Kd.Jg (Kd.S_lt (by (with_reducible repeat (first | apply Kd.qS | apply Kd.qT | apply Kd.ql)); exact HO_4.out)) k_ hk)); (case aO => exact (by (with_reducible repeat (first | apply Kd.qS | apply Kd.qT | apply Kd.ql)); exact Kd.Zl HO_3.out (fun k_ hk => ⟨hk.1, fun e_ => hk.2 e_⟩))); (case aS => exact (zO (by repeat (first | (with_reducible first | exact HB.out | apply zC | apply zB | apply zD | refine zF ?_ GE101.out) | exact HB.out)))); (case aL => have := LMc38.out; omega); intro v130 w54 ho hb hg hat; rw [← Ny129.out] at ho; have n0_ := zA.mk (Kd.JQ (ok := (fun k_ => some k_ ≠ (.slice (some ⟨go23, 0, none⟩) y113.length co45 : Value).ownBlock)) (by (with_reducible repeat (first | apply Kd.qS | apply Kd.qT | apply Kd.ql)); exact Kd.Zl HO_4.out (fun _ hk => ⟨hk.2, hk.1⟩)) hg hat); have n1_ := zA.mk (ZB (g := gb101) (o := .cells #[.slice A0_0 l0_0.length c0_0] 30 (0, 0)) (by (with_reducible repeat (first | refine zI ?_ _ | refine zJ ?_ | refine zH ?_ _)); exact BK101.out) hg (Kd.S_ne HO_3.out BK101.out (by decide))); have n2_ := zA.mk (hb); have n3_ := zA.mk (ho); clear HO_4; clear BK101; clear HB; clear HO_3; clear HO115; have HO_4 := n0_; have BK101 := n1_; have HB := n2_; have HO131 := n3_; clear n0_ n1_ n2_ n3_; clear ho hb hg hat))
      go_roundg k2
      case measure => have := HK1.out; have := HK2.out; omega
      case rel => exact ⟨(y129), (wrap64 (x8_2 + 1)), (by first | rfl | (simp; done) | (simp [*]; done)), H', ⟨by have := HK1.out; have := HK2.out; omega⟩, ⟨by (with_reducible repeat (first | apply Kd.qS | apply Kd.qT | apply Kd.ql)); exact HO131.out⟩, ⟨by (with_reducible repeat (first | apply Kd.qS | apply Kd.qT | apply Kd.ql)); exact Kd.Zl HO_4.out (fun _ hk => hk.2)⟩, ⟨by (with_reducible repeat (first | refine zI ?_ _ | refine zJ ?_ | refine zH ?_ _)); exact BK101.out⟩, ⟨by repeat (first | (with_reducible first | exact HB.out | apply zC | apply zB | apply zD | refine zF ?_ GE101.out) | exact HB.out)⟩⟩
mutual
def zd.j0 : Nat → List Int → Bool → List (List (zu)) → Option (Bool)
 | 0, _, _, _ => none
 | k + 1, x1, x18, x102000 => if x18 = true then (some false) else (zd.l0 k x1 0 x102000)
def zd.l0 : Nat → List Int → Int → List (List (zu)) → Option (Bool)
 | 0, _, _, _ => none
 | k + 1, x1, x5, x102000 => if x5 < (x1.length : Int) then (if 0 ≤ x5 then ((Qd.f (rd x1 x5) 0 1000).bind fun t105 => (if t105 = true then (zd.l0 k x1 (wrap64 (x5 + 1)) x102000) else (some false))) else (none)) else ((zm.f k x102000).bind fun t106 => (zd.l1 k x1 t106 0))
def zd.l1 : Nat → List Int → List (List Int) → Int → Option (Bool)
 | 0, _, _, _ => none
 | k + 1, x1, x6, x7 => if x7 < (x6.length : Int) then (if 0 ≤ x7 then ((ZH.f k (ze x6 x7) x1).bind fun t110 => (if t110 = 0 then (zd.l1 k x1 x6 (wrap64 (x7 + 1))) else (some false))) else (none)) else (some true)
end
def zd.f (k : Nat) (l0_0 : List (List (zu))) (l1 : List Int) : Option (Bool) := (ZP.f k l0_0).bind fun t102 => (if t102 = 0 then ((zy.f l0_0).bind fun t103 => (zd.j0 k l1 ((l1.length : Int) != (wrap64 (7 * t103))) l0_0)) else (zd.j0 k l1 true l0_0))
set_option maxHeartbeats 8000000 in
set_option maxRecDepth 100000 in
theorem zd.calls (k : Nat) (A0_0 : Option Addr) (c0_0 : Nat) (l0_0 : List (List (zu))) (A1 : Option Addr) (c1 : Nat) (l1 : List Int) (r : Bool) (w : World) (hr0_0 : Kd.C (Kd.slice 115 ZC) w A0_0 l0_0.length l0_0) (hc0_0 : l0_0.length ≤ c0_0) (hr1 : Kd.C (Kd.int .i64) w A1 l1.length l1) (hc1 : l1.length ≤ c1) (h : zd.f k l0_0 l1 = some r) :
 Calls Try.prog 16 #[.agg #[.slice A0_0 l0_0.length c0_0], .slice A1 l1.length c1] w fun e w' => e = .returned (.bool r) ∧ Below w.heap.size w w' := by
 have hu30 := Try.underlying30
 have HR0_0 := zA.mk hr0_0
 have HC0_0 := zA.mk hc0_0
 clear hr0_0 hc0_0
 have HR1 := zA.mk hr1
 have HC1 := zA.mk hc1
 clear hr1 hc1
 have HB := zA.mk (yry w.heap.size w)
 have H : ((ZP.f k l0_0).bind fun t102 => (if t102 = 0 then ((zy.f l0_0).bind fun t103 => (zd.j0 k l1 ((l1.length : Int) != (wrap64 (7 * t103))) l0_0)) else (zd.j0 k l1 true l0_0))) = some r := h
 clear h
 have HC3 := zA.mk H
 clear H
 go_enter Try.func16, Try.ntmps16
 go_upto_region 1 with (first | ((with_reducible refine zj (N := 2) rfl ?_); (try (refine zE1 (by rfl) ?_; dsimp only)); refine zi ?hg (N := 2) ?hd (cs := #[.slice A0_0 l0_0.length c0_0]) (t := 30) ?hr ?_; (case hd => rfl); (case hg => rfl); (case hr => first | (go_simp; done) | (go_simp; rfl)); intro gb101 hg w4 hbox hb; have n0_ := zA.mk (zN (by repeat (first | (with_reducible first | exact HB.out | apply zC | apply zB | apply zD) | exact HB.out)) hb); have n1_ := zA.mk (hbox); have n2_ := zA.mk ((by rw [hg]; exact (zO (by repeat (first | (with_reducible first | exact HB.out | apply zC | apply zB | apply zD) | exact HB.out))) : w.heap.size ≤ gb101)); have n3_ := zA.mk ((by rw [hg]; exact (zO (by repeat (first | (with_reducible first | exact HB.out | apply zC | apply zB | apply zD) | exact HB.out))) : w.heap.size ≤ gb101)); clear HB; have HB := n0_; have BK101 := n1_; have GW101 := n2_; have GE101 := n3_; clear n0_ n1_ n2_ n3_; clear hb hbox hg))
 (try simp only [Act.put, yay, yby, ycy])
 go_cut [18] (fun v18 wc => ∃ (kq : Nat) (x18_2 : Bool), v18 = .bool x18_2 ∧ zA (zd.j0 kq l1 x18_2 l0_0 = some r) ∧ zA (kq ≤ k) ∧ zA (wc.heap[gb101]? = some (.cells #[(.slice A0_0 l0_0.length c0_0)] 30 (0, 0))) ∧ zA (Below w.heap.size w wc))
 case first =>
  have H := HC3.out
  clear HC3
  replace H := ydy.mp H
  obtain ⟨t102, A50, H⟩ := H
  replace H : (if t102 = 0 then ((zy.f l0_0).bind fun t103 => (zd.j0 k l1 ((l1.length : Int) != (wrap64 (7 * t103))) l0_0)) else (zd.j0 k l1 true l0_0)) = some r := H
  have A5 := zA.mk A50
  clear A50
  by_cases c6 : t102 = 0
  rotate_left
  next =>
   rw [if_neg c6] at H
   have c6b0 : (t102 == 0) = false := beq_eq_false_iff_ne.mpr c6
   have c6b1 : (t102 != 0) = true := bne_iff_ne.mpr c6
   (first | rw [c6b0] | (simp only [zV, zW]; rw [c6b0]) | skip)
   have H' := zA.mk H
   clear H
   have hcz12_0 : w4.cell? ⟨gb101, 0, none⟩ = some (.slice A0_0 l0_0.length c0_0) := (zL BK101.out 0).trans rfl
   have hfz12_0 := zM BK101.out 0
   go_wp2_with (first | ((with_reducible refine zQ (f := 58) rfl ?_); refine zt (some 9) rfl rfl Try.func58 (by kernel_rfl) rfl #[.agg #[.slice A0_0 l0_0.length c0_0]] rfl (by (try simp only [yiy, yjy, yky]); first | done | rfl | (simp only [yly, ymy]; rfl)) ?_; (with_reducible refine (ZP.calls k _ _ l0_0 t102 _ ?side1 ?side2 A5.out).mono ?_); (case side1 => repeat (first | exact (Kd.za HR0_0.out HB.out) | (with_reducible refine Kd.zb ?_ _) | (with_reducible refine Kd.zc ?_ _) | (with_reducible refine Kd.zk ?_))); (case side2 => exact HC0_0.out); rintro e w13 ⟨rfl, hb⟩; refine ⟨_, rfl, ?_⟩; have n0_ := zA.mk (zP (g := gb101) (o := .cells #[.slice A0_0 l0_0.length c0_0] 30 (0, 0)) (by (with_reducible repeat (first | refine zI ?_ _ | refine zJ ?_ | refine zH ?_ _)); exact BK101.out) hb); have n1_ := zA.mk (zN (by repeat (first | (with_reducible first | exact HB.out | apply zC | apply zB | apply zD | refine zF ?_ GE101.out) | exact HB.out)) hb); clear BK101; clear HB; have BK101 := n0_; have HB := n1_; clear n0_ n1_; (try clear hb); (try clear hb2); (try clear hk); (try clear hi)))
   go_meet
   case rel => exact ⟨_, (true), (by first | rfl | (simp; done) | (simp [*]; done)), H', ⟨by first | omega | exact yqy _⟩, ⟨by (with_reducible repeat (first | refine zI ?_ _ | refine zJ ?_ | refine zH ?_ _)); exact BK101.out⟩, ⟨by repeat (first | (with_reducible first | exact HB.out | apply zC | apply zB | apply zD | refine zF ?_ GE101.out) | exact HB.out)⟩⟩
  rw [if_pos c6] at H
  have c6b0 : (t102 == 0) = true := beq_iff_eq.mpr c6
  have c6b1 : (t102 != 0) = false := bne_eq_false_iff_eq.mpr c6
  clear c6
  (first | rw [c6b0] | (simp only [zV, zW]; rw [c6b0]) | skip)
  replace H := ydy.mp H
  obtain ⟨t103, A70, H⟩ := H
  replace H : (zd.j0 k l1 ((l1.length : Int) != (wrap64 (7 * t103))) l0_0) = some r := H
  have A7 := zA.mk A70
  clear A70
  have H' := zA.mk H
  clear H
  have hcz8_0 : w4.cell? ⟨gb101, 0, none⟩ = some (.slice A0_0 l0_0.length c0_0) := (zL BK101.out 0).trans rfl
  have hfz8_0 := zM BK101.out 0
  go_wp2_with (first | ((with_reducible refine zQ (f := 58) rfl ?_); refine zt (some 9) rfl rfl Try.func58 (by kernel_rfl) rfl #[.agg #[.slice A0_0 l0_0.length c0_0]] rfl (by (try simp only [yiy, yjy, yky]); first | done | rfl | (simp only [yly, ymy]; rfl)) ?_; (with_reducible refine (ZP.calls k _ _ l0_0 t102 _ ?side1 ?side2 A5.out).mono ?_); (case side1 => repeat (first | exact (Kd.za HR0_0.out HB.out) | (with_reducible refine Kd.zb ?_ _) | (with_reducible refine Kd.zc ?_ _) | (with_reducible refine Kd.zk ?_))); (case side2 => exact HC0_0.out); rintro e w9 ⟨rfl, hb⟩; refine ⟨_, rfl, ?_⟩; have n0_ := zA.mk (zP (g := gb101) (o := .cells #[.slice A0_0 l0_0.length c0_0] 30 (0, 0)) (by (with_reducible repeat (first | refine zI ?_ _ | refine zJ ?_ | refine zH ?_ _)); exact BK101.out) hb); have n1_ := zA.mk (zN (by repeat (first | (with_reducible first | exact HB.out | apply zC | apply zB | apply zD | refine zF ?_ GE101.out) | exact HB.out)) hb); clear BK101; clear HB; have BK101 := n0_; have HB := n1_; clear n0_ n1_; (try clear hb); (try clear hb2); (try clear hk); (try clear hi); have hcz10_0 : w9.cell? ⟨gb101, 0, none⟩ = some (.slice A0_0 l0_0.length c0_0) := (zL BK101.out 0).trans rfl; have hfz10_0 := zM BK101.out 0) | (go_at_call 59; (with_reducible refine (zy.calls _ _ l0_0 t103 _ ?side1 ?side2 A7.out).mono ?_); (case side1 => repeat (first | exact (Kd.za HR0_0.out HB.out) | (with_reducible refine Kd.zb ?_ _) | (with_reducible refine Kd.zc ?_ _) | (with_reducible refine Kd.zk ?_))); (case side2 => exact HC0_0.out); rintro e w11 ⟨rfl, hb⟩; have n0_ := zA.mk (zP (g := gb101) (o := .cells #[.slice A0_0 l0_0.length c0_0] 30 (0, 0)) (by (with_reducible repeat (first | refine zI ?_ _ | refine zJ ?_ | refine zH ?_ _)); exact BK101.out) hb); have n1_ := zA.mk (zN (by repeat (first | (with_reducible first | exact HB.out | apply zC | apply zB | apply zD | refine zF ?_ GE101.out) | exact HB.out)) hb); clear BK101; clear HB; have BK101 := n0_; have HB := n1_; clear n0_ n1_; (try clear hb); (try clear hb2); (try clear hk); (try clear hi)))
  go_meet
  case rel => exact ⟨_, (((l1.length : Int) != (wrap64 (7 * t103)))), (by first | rfl | (simp; done) | (simp [*]; done)), H', ⟨by first | omega | exact yqy _⟩, ⟨by (with_reducible repeat (first | refine zI ?_ _ | refine zJ ?_ | refine zH ?_ _)); exact BK101.out⟩, ⟨by repeat (first | (with_reducible first | exact HB.out | apply zC | apply zB | apply zD | refine zF ?_ GE101.out) | exact HB.out)⟩⟩
 case rest =>
  clear HC3
  try clear c1
  try clear p2
  try clear c5
  try clear c6
  try clear c6b0
  try clear c6b1
  try clear p6
  try clear hcz10_0
  try clear hcz12_0
  try clear hcz8_0
  try clear hfz10_0
  try clear hfz12_0
  try clear hfz8_0
  obtain ⟨kq, x18_2, rfl, HA, HJ2, BK101, HB⟩ := hcut
  cases kq with
  | zero => exact absurd HA.out (by simp [zd.j0])
  | succ kj2 =>
   have H := HA.out
   clear HA
   simp only [zd.j0] at H
   by_cases c14 : x18_2 = true
   next =>
    subst c14
    have H1 : (some false) = some r := by rw [if_pos rfl] at H; exact H
    clear H
    have H := H1
    clear H1
    obtain rfl := yey H
    go_wp2
    go_ret
    exact ⟨by first | rfl | (simp [zR, zS] <;> rfl) | (simp [*, zR, zS] <;> rfl), by repeat (first | (with_reducible first | exact HB.out | apply zC | apply zB | apply zD | refine zF ?_ GE101.out) | exact HB.out)⟩
   next =>
    replace c14 := Bool.eq_false_iff.mpr c14
    subst c14
    have H1 : (zd.l0 kj2 l1 0 l0_0) = some r := by rw [if_neg (show ¬ (false = true) by decide)] at H; exact H
    clear H
    have H := H1
    clear H1
    have H' := zA.mk H
    clear H
    go_wp2
    go_loopg [5] kj2 (fun kq v5 w' => ∃ (x5_2 : Int), v5 = .int .i64 x5_2 ∧ zA (zd.l0 kq l1 x5_2 l0_0 = some r) ∧ zA (kq ≤ kj2) ∧ zA (w'.heap[gb101]? = some (.cells #[(.slice A0_0 l0_0.length c0_0)] 30 (0, 0))) ∧ zA (Below w.heap.size w w'))
    case atStart => exact ⟨(0), (by first | rfl | (simp; done) | (simp [*]; done)), H', ⟨yqy _⟩, ⟨by (with_reducible repeat (first | refine zI ?_ _ | refine zJ ?_ | refine zH ?_ _)); exact BK101.out⟩, ⟨by repeat (first | (with_reducible first | exact HB.out | apply zC | apply zB | apply zD | refine zF ?_ GE101.out) | exact HB.out)⟩⟩
    case round =>
     clear H'
     try clear c1
     try clear p2
     try clear c5
     try clear c6
     try clear c6b0
     try clear c6b1
     try clear p6
     try clear c14
     try clear hcz10_0
     try clear hcz12_0
     try clear hcz8_0
     try clear hfz10_0
     try clear hfz12_0
     try clear hfz8_0
     try clear p2
     try clear p6
     obtain ⟨x5_2, rfl, HA, HK2, BK101, HB⟩ := hrel
     cases gk with
     | zero => exact absurd HA.out (by simp [zd.l0])
     | succ k2 =>
      have H := HA.out
      clear HA
      simp only [zd.l0] at H
      by_cases c15 : x5_2 < (l1.length : Int)
      next =>
       rw [if_pos c15] at H
       have c15b0 : decide (x5_2 < (l1.length : Int)) = true := ygy c15
       clear c15
       by_cases c16 : 0 ≤ x5_2
       rotate_left
       next =>
        rw [if_neg c16] at H
        exact absurd H (by simp)
       rw [if_pos c16] at H
       have c16b0 : decide (0 ≤ x5_2) = true := ygy c16
       clear c16
       replace H := ydy.mp H
       obtain ⟨t105, A170, H⟩ := H
       replace H : (if t105 = true then (zd.l0 k2 l1 (wrap64 (x5_2 + 1)) l0_0) else (some false)) = some r := H
       have A17 := zA.mk A170
       clear A170
       by_cases c18 : t105 = true
       rotate_left
       next =>
        replace c18 := Bool.eq_false_iff.mpr c18
        subst c18
        have H1 : (some false) = some r := by rw [if_neg (show ¬ (false = true) by decide)] at H; exact H
        clear H
        have H := H1
        clear H1
        obtain rfl := yey H
        have p104 : 0 ≤ (x5_2 : Int) := of_decide_eq_true (by first | (with_reducible assumption) | assumption)
        have q104 : x5_2 < (l1.length : Int) := of_decide_eq_true (by first | (with_reducible assumption) | assumption)
        obtain ⟨ad104, e104, hx104_0⟩ := Kd.ZF HR1.out x5_2 p104 q104
        cases e104
        replace hx104_0 := (HB.out.cell (ypy w _ hx104_0)).trans hx104_0
        replace p104 := eq_true p104
        replace q104 := eq_true q104
        go_wp2_with (first | ((with_reducible refine zQ (f := 60) rfl ?_); refine zt (some 29) rfl rfl Try.func60 (by kernel_rfl) rfl #[.int .i64 (rd l1 x5_2), .int .i64 0, .int .i64 1000] rfl (by (try simp only [yiy, yjy, yky]); first | done | rfl | (simp only [yly, ymy]; rfl)) ?_; (with_reducible refine (Qd.calls (rd l1 x5_2) 0 1000 false _ A17.out).mono ?_); rintro e w' ⟨rfl, ⟨nd, rfl⟩⟩; refine ⟨_, rfl, ?_⟩))
        go_ret
        exact ⟨by first | rfl | (simp [zR, zS] <;> rfl) | (simp [*, zR, zS] <;> rfl), by repeat (first | (with_reducible first | exact HB.out | apply zC | apply zB | apply zD | refine zF ?_ GE101.out) | exact HB.out)⟩
       subst c18
       have H1 : (zd.l0 k2 l1 (wrap64 (x5_2 + 1)) l0_0) = some r := by rw [if_pos rfl] at H; exact H
       clear H
       have H := H1
       clear H1
       have H' := zA.mk H
       clear H
       have p104 : 0 ≤ (x5_2 : Int) := of_decide_eq_true (by first | (with_reducible assumption) | assumption)
       have q104 : x5_2 < (l1.length : Int) := of_decide_eq_true (by first | (with_reducible assumption) | assumption)
       obtain ⟨ad104, e104, hx104_0⟩ := Kd.ZF HR1.out x5_2 p104 q104
       cases e104
       replace hx104_0 := (HB.out.cell (ypy w _ hx104_0)).trans hx104_0
       replace p104 := eq_true p104
       replace q104 := eq_true q104
       go_wp2_with (first | ((with_reducible refine zQ (f := 60) rfl ?_); refine zt (some 29) rfl rfl Try.func60 (by kernel_rfl) rfl #[.int .i64 (rd l1 x5_2), .int .i64 0, .int .i64 1000] rfl (by (try simp only [yiy, yjy, yky]); first | done | rfl | (simp only [yly, ymy]; rfl)) ?_; (with_reducible refine (Qd.calls (rd l1 x5_2) 0 1000 true _ A17.out).mono ?_); rintro e w' ⟨rfl, ⟨nd, rfl⟩⟩; refine ⟨_, rfl, ?_⟩))
       go_roundg k2
       case measure => have := HJ2.out; have := HK2.out; omega
       case rel => exact ⟨(wrap64 (x5_2 + 1)), (by first | rfl | (simp; done) | (simp [*]; done)), H', ⟨by have := HJ2.out; have := HK2.out; omega⟩, ⟨by (with_reducible repeat (first | refine zI ?_ _ | refine zJ ?_ | refine zH ?_ _)); exact BK101.out⟩, ⟨by repeat (first | (with_reducible first | exact HB.out | apply zC | apply zB | apply zD | refine zF ?_ GE101.out) | exact HB.out)⟩⟩
      next =>
       rw [if_neg c15] at H
       have c15b0 : decide (x5_2 < (l1.length : Int)) = false := yhy c15
       clear c15
       replace H := ydy.mp H
       obtain ⟨t106, A190, H⟩ := H
       replace H : (zd.l1 k2 l1 t106 0) = some r := H
       have A19 := zA.mk A190
       clear A190
       have H' := zA.mk H
       clear H
       have hcz20_0 : wr.cell? ⟨gb101, 0, none⟩ = some (.slice A0_0 l0_0.length c0_0) := (zL BK101.out 0).trans rfl
       have hfz20_0 := zM BK101.out 0
       go_wp2_with (first | ((with_reducible refine zQ (f := 61) rfl ?_); refine zt (some 32) rfl rfl Try.func61 (by kernel_rfl) rfl #[.agg #[.slice A0_0 l0_0.length c0_0]] rfl (by (try simp only [yiy, yjy, yky]); first | done | rfl | (simp only [yly, ymy]; rfl)) ?_; (with_reducible refine (zm.calls k2 _ _ l0_0 t106 _ ?side1 ?side2 A19.out).mono ?_); (case side1 => repeat (first | exact (Kd.za HR0_0.out HB.out) | (with_reducible refine Kd.zb ?_ _) | (with_reducible refine Kd.zc ?_ _) | (with_reducible refine Kd.zk ?_))); (case side2 => exact HC0_0.out); rintro e w21 ⟨v107, rfl, ho0, hb⟩; refine ⟨_, rfl, ?_⟩; have n0_ := zA.mk (Kd.zA1 ho0 (zO (by repeat (first | (with_reducible first | exact HB.out | apply zC | apply zB | apply zD | refine zF ?_ GE101.out) | exact HB.out)))); have n1_ := zA.mk (zP (g := gb101) (o := .cells #[.slice A0_0 l0_0.length c0_0] 30 (0, 0)) (by (with_reducible repeat (first | refine zI ?_ _ | refine zJ ?_ | refine zH ?_ _)); exact BK101.out) hb); have n2_ := zA.mk (zN (by repeat (first | (with_reducible first | exact HB.out | apply zC | apply zB | apply zD | refine zF ?_ GE101.out) | exact HB.out)) hb); clear BK101; clear HB; have HO108 := n0_; have BK101 := n1_; have HB := n2_; clear n0_ n1_ n2_; (try clear hb); (try clear hb2); (try clear hk); (try clear hi); (try clear ho0)))
       go_loopg [7] k2 (fun kq v7 w' => ∃ (x7_3 : Int), v7 = .int .i64 x7_3 ∧ zA (zd.l1 kq l1 t106 x7_3 = some r) ∧ zA (kq ≤ k2) ∧ zA (Kd.S (Kd.slice 2 (Kd.int .i64)) 25 w' w.heap.size (fun _ => True) v107 t106) ∧ zA (w'.heap[gb101]? = some (.cells #[(.slice A0_0 l0_0.length c0_0)] 30 (0, 0))) ∧ zA (Below w.heap.size w w'))
       case atStart => exact ⟨(0), (by first | rfl | (simp; done) | (simp [*]; done)), H', ⟨yqy _⟩, ⟨by (with_reducible repeat (first | apply Kd.qS | apply Kd.qT | apply Kd.ql)); exact HO108.out⟩, ⟨by (with_reducible repeat (first | refine zI ?_ _ | refine zJ ?_ | refine zH ?_ _)); exact BK101.out⟩, ⟨by repeat (first | (with_reducible first | exact HB.out | apply zC | apply zB | apply zD | refine zF ?_ GE101.out) | exact HB.out)⟩⟩
       case round =>
        clear H'
        try clear c1
        try clear p1
        try clear q1
        try clear hx1
        try clear p2
        try clear c5
        try clear c6
        try clear c6b0
        try clear c6b1
        try clear p6
        try clear p10
        try clear q10
        try clear hx10
        try clear c14
        try clear c15
        try clear c15b0
        try clear c16
        try clear c16b0
        try clear c18
        try clear hcz10_0
        try clear hcz12_0
        try clear hcz20_0
        try clear hcz8_0
        try clear hfz10_0
        try clear hfz12_0
        try clear hfz20_0
        try clear hfz8_0
        try clear hx104_0
        try clear p104
        try clear p2
        try clear p6
        try clear q104
        obtain ⟨x7_3, rfl, HA, HK3, HO_6, BK101, HB⟩ := hrel
        cases gk with
        | zero => exact absurd HA.out (by simp [zd.l1])
        | succ k3 =>
         have H := HA.out
         clear HA
         simp only [zd.l1] at H
         by_cases c22 : x7_3 < (t106.length : Int)
         rotate_left
         next =>
          rw [if_neg c22] at H
          have c22b0 : decide (x7_3 < (t106.length : Int)) = false := yhy c22
          clear c22
          obtain rfl := yey H
          obtain ⟨Ao28, co28, eo28⟩ := Kd.JR HO_6.out
          subst eo28
          go_wp2
          go_ret
          exact ⟨by first | rfl | (simp [zR, zS] <;> rfl) | (simp [*, zR, zS] <;> rfl), by repeat (first | (with_reducible first | exact HB.out | apply zC | apply zB | apply zD | refine zF ?_ GE101.out) | exact HB.out)⟩
         rw [if_pos c22] at H
         have c22b0 : decide (x7_3 < (t106.length : Int)) = true := ygy c22
         clear c22
         by_cases c23 : 0 ≤ x7_3
         rotate_left
         next =>
          rw [if_neg c23] at H
          exact absurd H (by simp)
         rw [if_pos c23] at H
         have c23b0 : decide (0 ≤ x7_3) = true := ygy c23
         clear c23
         replace H := ydy.mp H
         obtain ⟨t110, A240, H⟩ := H
         replace H : (if t110 = 0 then (zd.l1 k3 l1 t106 (wrap64 (x7_3 + 1))) else (some false)) = some r := H
         have A24 := zA.mk A240
         clear A240
         by_cases c25 : t110 = 0
         rotate_left
         next =>
          rw [if_neg c25] at H
          have c25b0 : (t110 == 0) = false := beq_eq_false_iff_ne.mpr c25
          have c25b1 : (t110 != 0) = true := bne_iff_ne.mpr c25
          obtain rfl := yey H
          obtain ⟨Ao27, co27, eo27⟩ := Kd.JR HO_6.out
          subst eo27
          have p109 : 0 ≤ (x7_3 : Int) := of_decide_eq_true (by first | (with_reducible assumption) | assumption)
          have q109 : x7_3 < (t106.length : Int) := of_decide_eq_true (by first | (with_reducible assumption) | assumption)
          obtain ⟨ad109, A109_0, c109_0, e109, hx109_0, hl109_0, hi109_0⟩ := zCG (Kd.QP HO_6.out).2.2 x7_3 p109 q109
          cases e109
          obtain ⟨ce109, hce109, hMe109, hcc109⟩ := Kd.zFK HO_6.out [] x7_3 p109 (by first | exact q109 | exact of_decide_eq_true (by first | (with_reducible assumption) | assumption) | (have e_ := (Kd.QP HO_6.out).1; omega))
          obtain ⟨ve109_0, rfl, ge109_0⟩ := hMe109
          have hv109_0 := hcc109 0 _ rfl
          rw [Nat.add_zero, show ((Kd.slice 2 (Kd.int .i64))).sz = 1 from rfl, Nat.mul_one] at hv109_0
          replace hv109_0 := yey (hv109_0.symm.trans hx109_0)
          rw [hv109_0] at ge109_0
          have HL109_0 := zA.mk (show Kd.R (Kd.int .i64) 2 _ _ _ _ (ze t106 x7_3) from ge109_0)
          clear hv109_0 ge109_0
          clear hcc109 hce109
          have HR109_0 := zA.mk hi109_0
          have HC109_0 := zA.mk hl109_0
          clear hi109_0 hl109_0
          replace p109 := eq_true p109
          replace q109 := eq_true q109
          go_wp2_with (first | ((with_reducible refine zQ (f := 62) rfl ?_); refine zt (some 44) rfl rfl Try.func62 (by kernel_rfl) rfl #[.slice A109_0 (ze t106 x7_3).length c109_0, .slice A1 l1.length c1] rfl (by (try simp only [yiy, yjy, yky]); first | done | rfl | (simp only [yly, ymy]; rfl)) ?_; (with_reducible refine (ZH.calls k3 _ _ (ze t106 x7_3) _ _ l1 t110 _ ?side1 ?side2 ?side3 ?side4 A24.out).mono ?_); (case side1 => repeat (first | exact (by repeat (first | (with_reducible exact HR109_0.out) | (with_reducible refine Kd.zb ?_ _) | (with_reducible refine Kd.zc ?_ _) | (with_reducible refine Kd.zk ?_) | exact HR109_0.out)) | (with_reducible refine Kd.zb ?_ _) | (with_reducible refine Kd.zc ?_ _) | (with_reducible refine Kd.zk ?_))); (case side2 => exact HC109_0.out); (case side3 => repeat (first | exact (Kd.za HR1.out HB.out) | (with_reducible refine Kd.zb ?_ _) | (with_reducible refine Kd.zc ?_ _) | (with_reducible refine Kd.zk ?_))); (case side4 => exact HC1.out); rintro e w' ⟨rfl, ⟨nd, rfl⟩⟩; refine ⟨_, rfl, ?_⟩))
          go_ret
          exact ⟨by first | rfl | (simp [zR, zS] <;> rfl) | (simp [*, zR, zS] <;> rfl), by repeat (first | (with_reducible first | exact HB.out | apply zC | apply zB | apply zD | refine zF ?_ GE101.out) | exact HB.out)⟩
         rw [if_pos c25] at H
         have c25b0 : (t110 == 0) = true := beq_iff_eq.mpr c25
         have c25b1 : (t110 != 0) = false := bne_eq_false_iff_eq.mpr c25
         clear c25
         have H' := zA.mk H
         clear H
         obtain ⟨Ao26, co26, eo26⟩ := Kd.JR HO_6.out
         subst eo26
         have p109 : 0 ≤ (x7_3 : Int) := of_decide_eq_true (by first | (with_reducible assumption) | assumption)
         have q109 : x7_3 < (t106.length : Int) := of_decide_eq_true (by first | (with_reducible assumption) | assumption)
         obtain ⟨ad109, A109_0, c109_0, e109, hx109_0, hl109_0, hi109_0⟩ := zCG (Kd.QP HO_6.out).2.2 x7_3 p109 q109
         cases e109
         obtain ⟨ce109, hce109, hMe109, hcc109⟩ := Kd.zFK HO_6.out [] x7_3 p109 (by first | exact q109 | exact of_decide_eq_true (by first | (with_reducible assumption) | assumption) | (have e_ := (Kd.QP HO_6.out).1; omega))
         obtain ⟨ve109_0, rfl, ge109_0⟩ := hMe109
         have hv109_0 := hcc109 0 _ rfl
         rw [Nat.add_zero, show ((Kd.slice 2 (Kd.int .i64))).sz = 1 from rfl, Nat.mul_one] at hv109_0
         replace hv109_0 := yey (hv109_0.symm.trans hx109_0)
         rw [hv109_0] at ge109_0
         have HL109_0 := zA.mk (show Kd.R (Kd.int .i64) 2 _ _ _ _ (ze t106 x7_3) from ge109_0)
         clear hv109_0 ge109_0
         clear hcc109 hce109
         have HR109_0 := zA.mk hi109_0
         have HC109_0 := zA.mk hl109_0
         clear hi109_0 hl109_0
         replace p109 := eq_true p109
         replace q109 := eq_true q109
         go_wp2_with (first | ((with_reducible refine zQ (f := 62) rfl ?_); refine zt (some 44) rfl rfl Try.func62 (by kernel_rfl) rfl #[.slice A109_0 (ze t106 x7_3).length c109_0, .slice A1 l1.length c1] rfl (by (try simp only [yiy, yjy, yky]); first | done | rfl | (simp only [yly, ymy]; rfl)) ?_; (with_reducible refine (ZH.calls k3 _ _ (ze t106 x7_3) _ _ l1 t110 _ ?side1 ?side2 ?side3 ?side4 A24.out).mono ?_); (case side1 => repeat (first | exact (by repeat (first | (with_reducible exact HR109_0.out) | (with_reducible refine Kd.zb ?_ _) | (with_reducible refine Kd.zc ?_ _) | (with_reducible refine Kd.zk ?_) | exact HR109_0.out)) | (with_reducible refine Kd.zb ?_ _) | (with_reducible refine Kd.zc ?_ _) | (with_reducible refine Kd.zk ?_))); (case side2 => exact HC109_0.out); (case side3 => repeat (first | exact (Kd.za HR1.out HB.out) | (with_reducible refine Kd.zb ?_ _) | (with_reducible refine Kd.zc ?_ _) | (with_reducible refine Kd.zk ?_))); (case side4 => exact HC1.out); rintro e w' ⟨rfl, ⟨nd, rfl⟩⟩; refine ⟨_, rfl, ?_⟩))
         go_roundg k3
         case measure => have := HJ2.out; have := HK2.out; have := HK3.out; omega
         case rel => exact ⟨(wrap64 (x7_3 + 1)), (by first | rfl | (simp; done) | (simp [*]; done)), H', ⟨by have := HJ2.out; have := HK2.out; have := HK3.out; omega⟩, ⟨by (with_reducible repeat (first | apply Kd.qS | apply Kd.qT | apply Kd.ql)); exact HO_6.out⟩, ⟨by (with_reducible repeat (first | refine zI ?_ _ | refine zJ ?_ | refine zH ?_ _)); exact BK101.out⟩, ⟨by repeat (first | (with_reducible first | exact HB.out | apply zC | apply zB | apply zD | refine zF ?_ GE101.out) | exact HB.out)⟩⟩
mutual
def qB.l0 : Nat → List Int → Int → Option (Bool)
  | 0, _, _ => none
  | k + 1, x0, x3 => if (wrap64 (x3 + 7)) ≤ (x0.length : Int) then (qB.l1 k x0 x3 0 4) else (some true)
def qB.l1 : Nat → List Int → Int → Int → Int → Option (Bool)
  | 0, _, _, _, _ => none
  | k + 1, x0, x3, x4, x5 => if x5 < 7 then (if 0 ≤ (wrap64 (x3 + x5)) then (if (wrap64 (x3 + x5)) < (x0.length : Int) then (if (rd x0 (wrap64 (x3 + x5))) > 0 then (qB.l1 k x0 x3 (wrap64 (x4 + 1)) (wrap64 (x5 + 1))) else (qB.l1 k x0 x3 x4 (wrap64 (x5 + 1)))) else (none)) else (none)) else (if x4 > 1 then (some false) else (qB.l0 k x0 (wrap64 (x3 + 7))))
end
def qB.f (k : Nat) (l0 : List Int) : Option (Bool) := qB.l0 k l0 0
set_option maxHeartbeats 8000000 in
set_option maxRecDepth 100000 in
theorem qB.calls (k : Nat) (A0 : Option Addr) (c0 : Nat) (l0 : List Int) (r : Bool) (w : World) (hr0 : Kd.C (Kd.int .i64) w A0 l0.length l0) (hc0 : l0.length ≤ c0) (h : qB.f k l0 = some r) :
    Calls Try.prog 69 #[.slice A0 l0.length c0] w fun e w' => e = .returned (.bool r) ∧ zh w w' := by
  have HR0 := zA.mk hr0
  have HC0 := zA.mk hc0
  clear hr0 hc0
  have H : (qB.l0 k l0 0) = some r := h
  clear h
  have H' := zA.mk H
  clear H
  go_enter Try.func69, Try.ntmps69
  go_wp2
  go_loopg [3] k (fun kq v3 w' => ∃ (x3_1 : Int), v3 = .int .i64 x3_1 ∧ zA (qB.l0 kq l0 x3_1 = some r) ∧ zA (kq ≤ k) ∧ zh w w')
  case atStart => exact ⟨(0), (by first | rfl | (simp; done) | (simp [*]; done)), H', ⟨yqy _⟩, by repeat (first | exact zh.refl _ | apply zh.step)⟩
  case round =>
    clear H'
    obtain ⟨x3_1, rfl, HA, HK1, ⟨m1, rfl⟩⟩ := hrel
    cases gk with
    | zero => exact absurd HA.out (by simp [qB.l0])
    | succ k1 =>
      have H := HA.out
      clear HA
      simp only [qB.l0] at H
      by_cases c2 : (wrap64 (x3_1 + 7)) ≤ (l0.length : Int)
      · rw [if_pos c2] at H
        have c2b0 : decide ((wrap64 (x3_1 + 7)) ≤ (l0.length : Int)) = true := ygy c2
        clear c2
        have H' := zA.mk H
        clear H
        go_wp2
        go_loopg [4, 5] k1 (fun kq v4 v5 w' => ∃ (x4_2 : Int) (x5_2 : Int), v4 = .int .i64 x4_2 ∧ v5 = .int .i64 x5_2 ∧ zA (qB.l1 kq l0 x3_1 x4_2 x5_2 = some r) ∧ zA (kq ≤ k1) ∧ zh w w')
        case atStart => exact ⟨(0), (4), (by first | rfl | (simp; done) | (simp [*]; done)), (by first | rfl | (simp; done) | (simp [*]; done)), H', ⟨yqy _⟩, by repeat (first | exact zh.refl _ | apply zh.step)⟩
        case round =>
          clear H'
          try clear c2
          try clear c2b0
          try clear p2
          obtain ⟨x4_2, x5_2, rfl, rfl, HA, HK2, ⟨m2, rfl⟩⟩ := hrel
          cases gk with
          | zero => exact absurd HA.out (by simp [qB.l1])
          | succ k2 =>
            have H := HA.out
            clear HA
            simp only [qB.l1] at H
            by_cases c3 : x5_2 < 7
            · rw [if_pos c3] at H
              have c3b0 : decide (x5_2 < 7) = true := ygy c3
              clear c3
              obtain ⟨ji4, hji4⟩ : ∃ j_ : Int, (wrap64 (x3_1 + x5_2)) = j_ := ⟨_, rfl⟩
              replace H : (if 0 ≤ (ji4) then (if (ji4) < (l0.length : Int) then (if (rd l0 (ji4)) > 0 then (qB.l1 k2 l0 x3_1 (wrap64 (x4_2 + 1)) (wrap64 (x5_2 + 1))) else (qB.l1 k2 l0 x3_1 x4_2 (wrap64 (x5_2 + 1)))) else (none)) else (none)) = some r := by first | (rw [hji4] at H; exact H) | (simp only [hji4] at H ⊢; exact H)
              have hji4w : (IntKind.i64.wrap (x3_1 + x5_2)) = ji4 := (zV _).trans hji4
              by_cases c5 : 0 ≤ (ji4)
              · rw [if_pos c5] at H
                have c5b0 : decide (0 ≤ (ji4)) = true := ygy c5
                clear c5
                by_cases c6 : (ji4) < (l0.length : Int)
                · rw [if_pos c6] at H
                  have c6b0 : decide ((ji4) < (l0.length : Int)) = true := ygy c6
                  clear c6
                  by_cases c7 : (rd l0 (ji4)) > 0
                  · rw [if_pos c7] at H
                    have c7b0 : decide (0 < (rd l0 (ji4))) = true := ygy c7
                    clear c7
                    have H' := zA.mk H
                    clear H
                    have p101 : 0 ≤ ((ji4) : Int) := of_decide_eq_true (by first | (with_reducible assumption) | assumption)
                    have q101 : (ji4) < (l0.length : Int) := of_decide_eq_true (by first | (with_reducible assumption) | assumption)
                    obtain ⟨ad101, e101, hx101_0⟩ := Kd.ZF HR0.out (ji4) p101 q101
                    cases e101
                    replace p101 := eq_true p101
                    replace q101 := eq_true q101
                    go_wp2
                    go_roundg k2
                    case measure => have := HK1.out; have := HK2.out; omega
                    case rel => exact ⟨(wrap64 (x4_2 + 1)), (wrap64 (x5_2 + 1)), (by first | rfl | (simp; done) | (simp [*]; done)), (by first | rfl | (simp; done) | (simp [*]; done)), H', ⟨by have := HK1.out; have := HK2.out; omega⟩, by repeat (first | exact zh.refl _ | apply zh.step)⟩
                  · rw [if_neg c7] at H
                    have c7b0 : decide (0 < (rd l0 (ji4))) = false := yhy c7
                    clear c7
                    have H' := zA.mk H
                    clear H
                    have p101 : 0 ≤ ((ji4) : Int) := of_decide_eq_true (by first | (with_reducible assumption) | assumption)
                    have q101 : (ji4) < (l0.length : Int) := of_decide_eq_true (by first | (with_reducible assumption) | assumption)
                    obtain ⟨ad101, e101, hx101_0⟩ := Kd.ZF HR0.out (ji4) p101 q101
                    cases e101
                    replace p101 := eq_true p101
                    replace q101 := eq_true q101
                    go_wp2
                    go_roundg k2
                    case measure => have := HK1.out; have := HK2.out; omega
                    case rel => exact ⟨(x4_2), (wrap64 (x5_2 + 1)), (by first | rfl | (simp; done) | (simp [*]; done)), (by first | rfl | (simp; done) | (simp [*]; done)), H', ⟨by have := HK1.out; have := HK2.out; omega⟩, by repeat (first | exact zh.refl _ | apply zh.step)⟩
                · rw [if_neg c6] at H
                  exact absurd H (by simp)
              · rw [if_neg c5] at H
                exact absurd H (by simp)
            · rw [if_neg c3] at H
              have c3b0 : decide (x5_2 < 7) = false := yhy c3
              clear c3
              by_cases c8 : x4_2 > 1
              · rw [if_pos c8] at H
                have c8b0 : decide (1 < x4_2) = true := ygy c8
                clear c8
                obtain rfl := yey H
                go_wp2
                go_ret
                exact ⟨by first | rfl | (simp; done) | (simp [*]; done), by repeat (first | exact zh.refl _ | apply zh.step)⟩
              · rw [if_neg c8] at H
                have c8b0 : decide (1 < x4_2) = false := yhy c8
                clear c8
                have H' := zA.mk H
                clear H
                go_wp2
                go_roundg k2
                case measure => have := HK1.out; have := HK2.out; omega
                case rel => exact ⟨(wrap64 (x3_1 + 7)), (by first | rfl | (simp; done) | (simp [*]; done)), H', ⟨by have := HK1.out; have := HK2.out; omega⟩, by repeat (first | exact zh.refl _ | apply zh.step)⟩
      · rw [if_neg c2] at H
        have c2b0 : decide ((wrap64 (x3_1 + 7)) ≤ (l0.length : Int)) = false := yhy c2
        clear c2
        obtain rfl := yey H
        go_wp2
        go_ret
        exact ⟨by first | rfl | (simp; done) | (simp [*]; done), by repeat (first | exact zh.refl _ | apply zh.step)⟩
def qc.f (k : Nat) (l0_0 : List (List (zu))) (l1 : List Int) : Option (Bool) := (zd.f k l0_0 l1).bind fun t102 => (if t102 = true then ((qB.f k l1).bind fun t103 => (some t103)) else (some false))
set_option maxHeartbeats 8000000 in
set_option maxRecDepth 100000 in
theorem qc.calls (k : Nat) (A0_0 : Option Addr) (c0_0 : Nat) (l0_0 : List (List (zu))) (A1 : Option Addr) (c1 : Nat) (l1 : List Int) (r : Bool) (w : World) (hr0_0 : Kd.C (Kd.slice 115 ZC) w A0_0 l0_0.length l0_0) (hc0_0 : l0_0.length ≤ c0_0) (hr1 : Kd.C (Kd.int .i64) w A1 l1.length l1) (hc1 : l1.length ≤ c1) (h : qc.f k l0_0 l1 = some r) :
    Calls Try.prog 28 #[.agg #[.slice A0_0 l0_0.length c0_0], .slice A1 l1.length c1] w fun e w' => e = .returned (.bool r) ∧ Below w.heap.size w w' := by
  have hu30 := Try.underlying30
  have HR0_0 := zA.mk hr0_0
  have HC0_0 := zA.mk hc0_0
  clear hr0_0 hc0_0
  have HR1 := zA.mk hr1
  have HC1 := zA.mk hc1
  clear hr1 hc1
  have HB := zA.mk (yry w.heap.size w)
  have H : ((zd.f k l0_0 l1).bind fun t102 => (if t102 = true then ((qB.f k l1).bind fun t103 => (some t103)) else (some false))) = some r := h
  clear h
  replace H := ydy.mp H
  obtain ⟨t102, A30, H⟩ := H
  replace H : (if t102 = true then ((qB.f k l1).bind fun t103 => (some t103)) else (some false)) = some r := H
  have A3 := zA.mk A30
  clear A30
  by_cases c4 : t102 = true
  · subst c4
    have H1 : ((qB.f k l1).bind fun t103 => (some t103)) = some r := by rw [if_pos rfl] at H; exact H
    clear H
    have H := H1
    clear H1
    replace H := ydy.mp H
    obtain ⟨t103, A50, H⟩ := H
    replace H : (some t103) = some r := H
    have A5 := zA.mk A50
    clear A50
    obtain rfl := yey H
    go_enter Try.func28, Try.ntmps28
    go_wp2_with (first | ((with_reducible refine zj (N := 2) rfl ?_); refine zi ?hg (N := 2) ?hd (cs := #[.slice A0_0 l0_0.length c0_0]) (t := 30) ?hr ?_; (case hd => rfl); (case hg => rfl); (case hr => first | (go_simp; done) | (go_simp; rfl)); intro gb101 hg w6 hbox hb; have n0_ := zA.mk (zN (by repeat (first | (with_reducible first | exact HB.out | apply zC | apply zB | apply zD) | exact HB.out)) hb); have n1_ := zA.mk (hbox); have n2_ := zA.mk ((by rw [hg]; exact (zO (by repeat (first | (with_reducible first | exact HB.out | apply zC | apply zB | apply zD) | exact HB.out))) : w.heap.size ≤ gb101)); have n3_ := zA.mk ((by rw [hg]; exact (zO (by repeat (first | (with_reducible first | exact HB.out | apply zC | apply zB | apply zD) | exact HB.out))) : w.heap.size ≤ gb101)); clear HB; have HB := n0_; have BK101 := n1_; have GW101 := n2_; have GE101 := n3_; clear n0_ n1_ n2_ n3_; clear hb hbox hg; have hcz7_0 : w6.cell? ⟨gb101, 0, none⟩ = some (.slice A0_0 l0_0.length c0_0) := (zL BK101.out 0).trans rfl; have hfz7_0 := zM BK101.out 0) | ((with_reducible refine zQ (f := 16) rfl ?_); refine zt (some 7) rfl rfl Try.func16 (by kernel_rfl) rfl #[.agg #[.slice A0_0 l0_0.length c0_0], .slice A1 l1.length c1] rfl (by (try simp only [yiy, yjy, yky]); first | done | rfl | (simp only [yly, ymy]; rfl)) ?_; (with_reducible refine (zd.calls k _ _ l0_0 _ _ l1 true _ ?side1 ?side2 ?side3 ?side4 A3.out).mono ?_); (case side1 => repeat (first | exact (Kd.za HR0_0.out HB.out) | (with_reducible refine Kd.zb ?_ _) | (with_reducible refine Kd.zc ?_ _) | (with_reducible refine Kd.zk ?_))); (case side2 => exact HC0_0.out); (case side3 => repeat (first | exact (Kd.za HR1.out HB.out) | (with_reducible refine Kd.zb ?_ _) | (with_reducible refine Kd.zc ?_ _) | (with_reducible refine Kd.zk ?_))); (case side4 => exact HC1.out); rintro e w8 ⟨rfl, hb⟩; refine ⟨_, rfl, ?_⟩; have n0_ := zA.mk (zP (g := gb101) (o := .cells #[.slice A0_0 l0_0.length c0_0] 30 (0, 0)) (by (with_reducible repeat (first | refine zI ?_ _ | refine zJ ?_ | refine zH ?_ _)); exact BK101.out) hb); have n1_ := zA.mk (zN (by repeat (first | (with_reducible first | exact HB.out | apply zC | apply zB | apply zD | refine zF ?_ GE101.out) | exact HB.out)) hb); clear BK101; clear HB; have BK101 := n0_; have HB := n1_; clear n0_ n1_; (try clear hb); (try clear hb2); (try clear hk); (try clear hi)) | (go_at_call 69; (with_reducible refine (qB.calls k _ _ l1 t103 _ ?side1 ?side2 A5.out).mono ?_); (case side1 => repeat (first | exact (Kd.za HR1.out HB.out) | (with_reducible refine Kd.zb ?_ _) | (with_reducible refine Kd.zc ?_ _) | (with_reducible refine Kd.zk ?_))); (case side2 => exact HC1.out); rintro e w' ⟨rfl, ⟨nd, rfl⟩⟩))
    go_ret
    exact ⟨by first | rfl | (simp [zR, zS] <;> rfl) | (simp [*, zR, zS] <;> rfl), by repeat (first | (with_reducible first | exact HB.out | apply zC | apply zB | apply zD | refine zF ?_ GE101.out) | exact HB.out)⟩
  · replace c4 := Bool.eq_false_iff.mpr c4
    subst c4
    have H1 : (some false) = some r := by rw [if_neg (show ¬ (false = true) by decide)] at H; exact H
    clear H
    have H := H1
    clear H1
    obtain rfl := yey H
    go_enter Try.func28, Try.ntmps28
    go_wp2_with (first | ((with_reducible refine zj (N := 2) rfl ?_); refine zi ?hg (N := 2) ?hd (cs := #[.slice A0_0 l0_0.length c0_0]) (t := 30) ?hr ?_; (case hd => rfl); (case hg => rfl); (case hr => first | (go_simp; done) | (go_simp; rfl)); intro gb101 hg w9 hbox hb; have n0_ := zA.mk (zN (by repeat (first | (with_reducible first | exact HB.out | apply zC | apply zB | apply zD) | exact HB.out)) hb); have n1_ := zA.mk (hbox); have n2_ := zA.mk ((by rw [hg]; exact (zO (by repeat (first | (with_reducible first | exact HB.out | apply zC | apply zB | apply zD) | exact HB.out))) : w.heap.size ≤ gb101)); have n3_ := zA.mk ((by rw [hg]; exact (zO (by repeat (first | (with_reducible first | exact HB.out | apply zC | apply zB | apply zD) | exact HB.out))) : w.heap.size ≤ gb101)); clear HB; have HB := n0_; have BK101 := n1_; have GW101 := n2_; have GE101 := n3_; clear n0_ n1_ n2_ n3_; clear hb hbox hg; have hcz10_0 : w9.cell? ⟨gb101, 0, none⟩ = some (.slice A0_0 l0_0.length c0_0) := (zL BK101.out 0).trans rfl; have hfz10_0 := zM BK101.out 0) | ((with_reducible refine zQ (f := 16) rfl ?_); refine zt (some 7) rfl rfl Try.func16 (by kernel_rfl) rfl #[.agg #[.slice A0_0 l0_0.length c0_0], .slice A1 l1.length c1] rfl (by (try simp only [yiy, yjy, yky]); first | done | rfl | (simp only [yly, ymy]; rfl)) ?_; (with_reducible refine (zd.calls k _ _ l0_0 _ _ l1 false _ ?side1 ?side2 ?side3 ?side4 A3.out).mono ?_); (case side1 => repeat (first | exact (Kd.za HR0_0.out HB.out) | (with_reducible refine Kd.zb ?_ _) | (with_reducible refine Kd.zc ?_ _) | (with_reducible refine Kd.zk ?_))); (case side2 => exact HC0_0.out); (case side3 => repeat (first | exact (Kd.za HR1.out HB.out) | (with_reducible refine Kd.zb ?_ _) | (with_reducible refine Kd.zc ?_ _) | (with_reducible refine Kd.zk ?_))); (case side4 => exact HC1.out); rintro e w11 ⟨rfl, hb⟩; refine ⟨_, rfl, ?_⟩; have n0_ := zA.mk (zP (g := gb101) (o := .cells #[.slice A0_0 l0_0.length c0_0] 30 (0, 0)) (by (with_reducible repeat (first | refine zI ?_ _ | refine zJ ?_ | refine zH ?_ _)); exact BK101.out) hb); have n1_ := zA.mk (zN (by repeat (first | (with_reducible first | exact HB.out | apply zC | apply zB | apply zD | refine zF ?_ GE101.out) | exact HB.out)) hb); clear BK101; clear HB; have BK101 := n0_; have HB := n1_; clear n0_ n1_; (try clear hb); (try clear hb2); (try clear hk); (try clear hi)))
    go_ret
    exact ⟨by first | rfl | (simp [zR, zS] <;> rfl) | (simp [*, zR, zS] <;> rfl), by repeat (first | (with_reducible first | exact HB.out | apply zC | apply zB | apply zD | refine zF ?_ GE101.out) | exact HB.out)⟩
def zx.l0 : Nat → List Int → List Int → Int → List Int → Int → Option (List Int)
  | 0, _, _, _, _, _ => none
  | k + 1, x0, x1, x2, x7, x8 => if x8 < (x0.length : Int) then (if 0 ≤ x8 then (if x8 < (x1.length : Int) then (if x7.length < 17592186044416 then (zx.l0 k x0 x1 x2 (x7 ++ [wrap64 ((rd x0 x8) + (wrap64 (x2 * (rd x1 x8))))]) (wrap64 (x8 + 1))) else (none)) else (none)) else (none)) else (some x7)
def zx.f (k : Nat) (l0 : List Int) (l1 : List Int) (a2 : Int) : Option (List Int) := zx.l0 k l0 l1 a2 (([] : List Int)) 0
def zx.T5 : Bool × List (List Nat × List Nat) := (true, [([], []), ([], []), ([], []), ([1, 2], [1, 2]), ([3], [3]), ([], []), ([], []), ([], []), ([6, 7], [6, 7]), ([8], [8]), ([5, 9], [5, 9]), ([4, 10], [4, 10]), ([11], [11]), ([0, 12], [0, 12]), ([13, 13, 0, 1, 2, 3, 4, 5, 6, 7, 8, 9, 10, 11, 12, 13], [0, 13])])
def zx.B5 : List Nat := [0, 0, 0, 6, 14, 0, 0, 0, 192, 448, 992, 2046, 4094, 8191, 16383]
theorem zx.tab5 : zAQ .any (opsOf Try.f71 5) = zx.T5 := by kernel_rfl
theorem zx.bits5 : Qj zx.T5.2 zx.B5 = true := by kernel_rfl
set_option maxHeartbeats 8000000 in
set_option maxRecDepth 100000 in
theorem zx.calls (k : Nat) (A0 : Option Addr) (c0 : Nat) (l0 : List Int) (A1 : Option Addr) (c1 : Nat) (l1 : List Int) (a2 : Int) (r : List Int) (w : World) (hr0 : Kd.C (Kd.int .i64) w A0 l0.length l0) (hc0 : l0.length ≤ c0) (hr1 : Kd.C (Kd.int .i64) w A1 l1.length l1) (hc1 : l1.length ≤ c1) (h : zx.f k l0 l1 a2 = some r) :
    Calls Try.prog 71 #[.slice A0 l0.length c0, .slice A1 l1.length c1, .int .i64 a2] w fun e w' => ∃ v0_ : Value, e = .returned (v0_) ∧ Kd.R (Kd.int .i64) 2 w' w.heap.size (fun _ => True) v0_ r ∧ Below w.heap.size w w' := by
  have HR0 := zA.mk hr0
  have HC0 := zA.mk hc0
  clear hr0 hc0
  have HR1 := zA.mk hr1
  have HC1 := zA.mk hc1
  clear hr1 hc1
  have HB := zA.mk (yry w.heap.size w)
  have H : (zx.l0 k l0 l1 a2 (([] : List Int)) 0) = some r := h
  clear h
  obtain ⟨y101, hy101⟩ : ∃ y_ : List Int, y_ = (([] : List Int)) := ⟨_, rfl⟩
  replace H : (zx.l0 k l0 l1 a2 y101 0) = some r := by first | (rw [hy101]; with_reducible exact H) | (have H2_ := (yfy _ _).symm.trans H; rw [hy101]; with_reducible exact H2_) | (have H2_ := (yfy _ _).symm.trans H; with_reducible exact H2_) | with_reducible exact H | (rw [hy101]; exact H) | exact H
  have Ny101 := zA.mk hy101
  clear hy101
  have H' := zA.mk H
  clear H
  go_enter Try.func71, Try.ntmps71
  go_wp2_with (first | ((with_reducible refine zj (N := 9) rfl ?_); refine Kd.zC8 (Kd.int .i64) _ 2 ?hg (N := 9) ?hd (xs := ([] : List Int)) (inner := []) (ok := fun _ => True) (okp := fun _ => True) ?hr ?hp (fun _ hk => hk) trivial (yry _ _) (yqy _) (by simp) ?_; (case hd => rfl); (case hg => rfl); (case hr => first | (go_simp; done) | (go_simp; rfl)); (case hp => exact (QV.none _ _)); intro v102 w4 ho5 hb hg_ hnew_; clear hg_ hnew_; (first | rw [← Ny101.out] at ho5 | (simp only [Int.reduceToNat] at ho5; rw [← Ny101.out] at ho5)); have n0_ := zA.mk (Kd.ZR ho5 (zO (by repeat (first | (with_reducible first | exact HB.out | apply zC | apply zB | apply zD) | exact HB.out)))); have n1_ := zA.mk (zN (by repeat (first | (with_reducible first | exact HB.out | apply zC | apply zB | apply zD) | exact HB.out)) hb); clear HB; have HO103 := n0_; have HB := n1_; clear n0_ n1_; clear hb ho5))
  go_loopg [7, 8] k (fun kq v7 v8 w' => ∃ (x7_1 : List Int) (x8_1 : Int), v8 = .int .i64 x8_1 ∧ zA (zx.l0 kq l0 l1 a2 x7_1 x8_1 = some r) ∧ zA (kq ≤ k) ∧ zA (Kd.R (Kd.int .i64) 2 w' w.heap.size (fun _ => True) v7 x7_1) ∧ zA (Below w.heap.size w w'))
  case atStart => exact ⟨(y101), (0), (by first | rfl | (simp; done) | (simp [*]; done)), H', ⟨yqy _⟩, ⟨by (with_reducible repeat (first | apply Kd.zp | apply Kd.zn | apply Kd.qA)); exact HO103.out⟩, ⟨by repeat (first | (with_reducible first | exact HB.out | apply zC | apply zB | apply zD) | exact HB.out)⟩⟩
  case round =>
    clear H'
    try clear c1
    try clear p2
    obtain ⟨x7_1, x8_1, rfl, HA, HK1, HO_7, HB⟩ := hrel
    cases gk with
    | zero => exact absurd HA.out (by simp [zx.l0])
    | succ k1 =>
      have H := HA.out
      clear HA
      simp only [zx.l0] at H
      by_cases c6 : x8_1 < (l0.length : Int)
      · rw [if_pos c6] at H
        have c6b0 : decide (x8_1 < (l0.length : Int)) = true := ygy c6
        clear c6
        by_cases c7 : 0 ≤ x8_1
        · rw [if_pos c7] at H
          have c7b0 : decide (0 ≤ x8_1) = true := ygy c7
          clear c7
          by_cases c8 : x8_1 < (l1.length : Int)
          · rw [if_pos c8] at H
            have c8b0 : decide (x8_1 < (l1.length : Int)) = true := ygy c8
            clear c8
            by_cases c9 : x7_1.length < 17592186044416
            · rw [if_pos c9] at H
              have LMc9 := zA.mk c9
              clear c9
              obtain ⟨y106, hy106⟩ : ∃ y_ : List Int, y_ = (x7_1 ++ [wrap64 ((rd l0 x8_1) + (wrap64 (a2 * (rd l1 x8_1))))]) := ⟨_, rfl⟩
              replace H : (zx.l0 k1 l0 l1 a2 y106 (wrap64 (x8_1 + 1))) = some r := by first | (rw [hy106]; with_reducible exact H) | (have H2_ := (yfy _ _).symm.trans H; rw [hy106]; with_reducible exact H2_) | (have H2_ := (yfy _ _).symm.trans H; with_reducible exact H2_) | with_reducible exact H | (rw [hy106]; exact H) | exact H
              have Ny106 := zA.mk hy106
              clear hy106
              have H' := zA.mk H
              clear H
              try go_wp2
              have n0_ := zA.mk (Kd.qA HO_7.out)
              have n1_ := zA.mk (zD HB.out)
              clear HO_7
              clear HB
              have HO_7 := n0_
              have HB := n1_
              clear n0_ n1_
              have p104 : 0 ≤ (x8_1 : Int) := of_decide_eq_true (by first | (with_reducible assumption) | assumption)
              have q104 : x8_1 < (l0.length : Int) := of_decide_eq_true (by first | (with_reducible assumption) | assumption)
              obtain ⟨ad104, e104, hx104_0⟩ := Kd.ZF HR0.out x8_1 p104 q104
              have hw104_0 := hx104_0
              cases e104
              replace hx104_0 := (HB.out.cell (ypy w _ hx104_0)).trans hx104_0
              replace p104 := eq_true p104
              replace q104 := eq_true q104
              have p105 : 0 ≤ (x8_1 : Int) := of_decide_eq_true (by first | (with_reducible assumption) | assumption)
              have q105 : x8_1 < (l1.length : Int) := of_decide_eq_true (by first | (with_reducible assumption) | assumption)
              obtain ⟨ad105, e105, hx105_0⟩ := Kd.ZF HR1.out x8_1 p105 q105
              have hw105_0 := hx105_0
              cases e105
              replace hx105_0 := (HB.out.cell (ypy w _ hx105_0)).trans hx105_0
              replace p105 := eq_true p105
              replace q105 := eq_true q105
              refine QD (n := 15) (S := fun w' => w'.cell? (ad104.add (x8_1).toNat) = some (.int .i64 (rd l0 x8_1)) ∧ w'.cell? (ad105.add (x8_1).toNat) = some (.int .i64 (rd l1 x8_1))) (ds := []) #[false, false, false, false, false, false, false, false, false, false, false, false, false, false, false] (by kernel_rfl) rfl rfl ⟨((HB.out.cell (ypy w _ hw104_0)).trans hw104_0), ((HB.out.cell (ypy w _ hw105_0)).trans hw105_0)⟩ (fun hHeld => ?_); refine Zf zx.tab5 zx.bits5 (fun HT_ HW_ => ?_)
              generalize wr.drew = w10 at HO_7 HB hx104_0 hx105_0 hHeld ⊢
              refine zg (i := 0) (N := some 16) (v := ?_) (a' := ?_) #[true, false, false, false, false, false, false, false, false, false, false, false, false, false, false] rfl rfl (zY HT_.out (by kernel_rfl)) (fun _ _ _ h => h) (Or.inl ⟨by rfl, ?_⟩) ?_ ?_
              rotate_left
              · intro w'
                go_simp
                with_reducible rfl
              rotate_left
              · simp only [Act.put, yay, yby, ycy, zV, zW]
                rfl
              refine zg (i := 1) (N := some 17) (v := ?_) (a' := ?_) #[true, true, false, false, false, false, false, false, false, false, false, false, false, false, false] rfl rfl (zY HT_.out (by kernel_rfl)) (fun _ _ _ h => h) (Or.inl ⟨by rfl, ?_⟩) ?_ ?_
              rotate_left
              · intro w'
                go_simp
                with_reducible rfl
              rotate_left
              · simp only [Act.put, yay, yby, ycy, zV, zW]
                rfl
              refine zg (i := 2) (N := some 18) (v := ?_) (a' := ?_) #[true, true, true, false, false, false, false, false, false, false, false, false, false, false, false] rfl rfl (zY HT_.out (by kernel_rfl)) (fun _ _ _ h => h) (Or.inl ⟨by rfl, ?_⟩) ?_ ?_
              rotate_left
              · intro w'
                go_simp
                with_reducible rfl
              rotate_left
              · simp only [Act.put, yay, yby, ycy, zV, zW]
                rfl
              refine zg (i := 3) (N := some 19) (v := ?_) (a' := ?_) #[true, true, true, true, false, false, false, false, false, false, false, false, false, false, false] rfl rfl (zY HT_.out (by kernel_rfl)) (fun _ _ _ h => h) (Or.inl ⟨by rfl, ?_⟩) ?_ ?_
              rotate_left
              · intro w'
                go_simp
                with_reducible rfl
              rotate_left
              · simp only [Act.put, yay, yby, ycy, zV, zW]
                rfl
              refine zg (i := 5) (N := some 21) (v := ?_) (a' := ?_) #[true, true, true, true, false, true, false, false, false, false, false, false, false, false, false] rfl rfl (zY HT_.out (by kernel_rfl)) (fun _ _ _ h => h) (Or.inl ⟨by rfl, ?_⟩) ?_ ?_
              rotate_left
              · intro w'
                go_simp
                with_reducible rfl
              rotate_left
              · simp only [Act.put, yay, yby, ycy, zV, zW]
                rfl
              refine zg (i := 6) (N := some 22) (v := ?_) (a' := ?_) #[true, true, true, true, false, true, true, false, false, false, false, false, false, false, false] rfl rfl (zY HT_.out (by kernel_rfl)) (fun _ _ _ h => h) (Or.inl ⟨by rfl, ?_⟩) ?_ ?_
              rotate_left
              · intro w'
                go_simp
                with_reducible rfl
              rotate_left
              · simp only [Act.put, yay, yby, ycy, zV, zW]
                rfl
              refine zg (i := 7) (N := some 23) (v := ?_) (a' := ?_) #[true, true, true, true, false, true, true, true, false, false, false, false, false, false, false] rfl rfl (zY HT_.out (by kernel_rfl)) (fun _ _ _ h => h) (Or.inl ⟨by rfl, ?_⟩) ?_ ?_
              rotate_left
              · intro w'
                go_simp
                with_reducible rfl
              rotate_left
              · simp only [Act.put, yay, yby, ycy, zV, zW]
                rfl
              refine zg (i := 8) (N := some 24) (v := ?_) (a' := ?_) #[true, true, true, true, false, true, true, true, true, false, false, false, false, false, false] rfl rfl (zY HT_.out (by kernel_rfl)) (fun _ _ _ h => h) (Or.inl ⟨by rfl, ?_⟩) ?_ ?_
              rotate_left
              · intro w'
                go_simp
                with_reducible rfl
              rotate_left
              · simp only [Act.put, yay, yby, ycy, zV, zW]
                rfl
              refine qz (i := 4) (N := some 20) (v := ?_) (a' := ?_) #[true, true, true, true, true, true, true, true, true, false, false, false, false, false, false] rfl rfl (qK HT_.out HW_.out (by kernel_rfl)) (fun _ _ _ h => h) (Or.inl ⟨by rfl, ?_⟩) hHeld ?_ ?_
              rotate_left
              · rintro w' ⟨s0, s1⟩
                go_simp
                with_reducible rfl
              rotate_left
              · simp only [Act.put, yay, yby, ycy, zV, zW]
                rfl
              refine qz (i := 9) (N := some 25) (v := ?_) (a' := ?_) #[true, true, true, true, true, true, true, true, true, true, false, false, false, false, false] rfl rfl (qK HT_.out HW_.out (by kernel_rfl)) (fun _ _ _ h => h) (Or.inl ⟨by rfl, ?_⟩) hHeld ?_ ?_
              rotate_left
              · rintro w' ⟨s0, s1⟩
                go_simp
                with_reducible rfl
              rotate_left
              · simp only [Act.put, yay, yby, ycy, zV, zW]
                rfl
              refine zg (i := 10) (N := some 26) (v := ?_) (a' := ?_) #[true, true, true, true, true, true, true, true, true, true, true, false, false, false, false] rfl rfl (zY HT_.out (by kernel_rfl)) (fun _ _ _ h => h) (Or.inl ⟨by rfl, ?_⟩) ?_ ?_
              rotate_left
              · intro w'
                go_simp
                with_reducible rfl
              rotate_left
              · simp only [Act.put, yay, yby, ycy, zV, zW]
                rfl
              refine zg (i := 11) (N := some 27) (v := ?_) (a' := ?_) #[true, true, true, true, true, true, true, true, true, true, true, true, false, false, false] rfl rfl (zY HT_.out (by kernel_rfl)) (fun _ _ _ h => h) (Or.inl ⟨by rfl, ?_⟩) ?_ ?_
              rotate_left
              · intro w'
                go_simp
                with_reducible rfl
              rotate_left
              · simp only [Act.put, yay, yby, ycy, zV, zW]
                rfl
              refine zAj (i := 12) (N := some 28) #[true, true, true, true, true, true, true, true, true, true, true, true, true, false, false] rfl rfl (QN HT_.out (by kernel_rfl)) (by decide) (fun K hK => ?_)
              refine value_ (w1 := ?_) (v := ?_) (by rfl) rfl ?_ ?_
              rotate_left 2
              · go_simp
                constructor
                · rfl
                · rfl
              refine hK.out _ _ ⟨(World.cell?_alloc_lt _ _ _ (ypy _ _ (((HB.out.cell (ypy w _ hw104_0)).trans hw104_0)))).trans (((HB.out.cell (ypy w _ hw104_0)).trans hw104_0)), (World.cell?_alloc_lt _ _ _ (ypy _ _ (((HB.out.cell (ypy w _ hw105_0)).trans hw105_0)))).trans (((HB.out.cell (ypy w _ hw105_0)).trans hw105_0))⟩ (fun hHeld => ?_)
              clear hK K
              refine QY (a' := ?_) ?_ ?_
              rotate_left
              · show Act.put _ (some 28) _ = _
                simp only [Act.put, yay, yby, ycy, zV, zW]
                rfl
              refine zAj (i := 13) (N := some 29) #[true, true, true, true, true, true, true, true, true, true, true, true, true, true, false] rfl rfl (QN HT_.out (by kernel_rfl)) (by decide) (fun K hK => ?_)
              refine Kd.zC6 (Kd.int .i64) (w0 := w) w.heap.size (by rfl) (.tmp 16) (.tmp 28) 25 2 (.int .i64 0) 8 rfl Try.underlying25 JS rfl (by decide) (by omega) u7 x7_1 (wrap64 ((rd l0 x8_1) + (wrap64 (a2 * (rd l1 x8_1))))) [.int .i64 (wrap64 ((rd l0 x8_1) + (wrap64 (a2 * (rd l1 x8_1)))))] (fun _ => True) (fun _ => False) rfl rfl ?aP (fun _ hk => hk.elim) ?aF ?aO ?aB ?aS ?aL ?_
              (case aP => exact rfl)
              (case aB => exact (by repeat (first | (with_reducible first | exact HB.out | apply zC | apply zB | apply zD) | exact HB.out)))
              (case aF => exact (fun _ _ => trivial))
              (case aO => exact (by (with_reducible repeat (first | apply Kd.zp | apply Kd.zn | apply Kd.qA)); exact HO_7.out))
              (case aS => exact (zO (by repeat (first | (with_reducible first | exact HB.out | apply zC | apply zB | apply zD) | exact HB.out))))
              (case aL => have := LMc9.out; omega)
              intro v107 w11 ho hb hg hat
              rw [← Ny106.out] at ho
              have n0_ := zA.mk (hb)
              have n1_ := zA.mk (ho)
              clear HB
              clear HO_7
              have HB := n0_
              have HO108 := n1_
              clear n0_ n1_
              clear ho hb hg hat
              refine hK.out _ _ ⟨((HB.out.cell (ypy w _ hw104_0)).trans hw104_0), ((HB.out.cell (ypy w _ hw105_0)).trans hw105_0)⟩ (fun hHeld => ?_)
              clear hK K
              refine QY (a' := ?_) ?_ ?_
              rotate_left
              · show Act.put _ (some 29) _ = _
                simp only [Act.put, yay, yby, ycy, zV, zW]
                rfl
              refine zg (i := 14) (N := some 7) (v := ?_) (a' := ?_) #[true, true, true, true, true, true, true, true, true, true, true, true, true, true, true] rfl rfl (zY HT_.out (by kernel_rfl)) (fun _ _ _ h => h) (Or.inl ⟨by rfl, ?_⟩) ?_ ?_
              rotate_left
              · intro w'
                go_simp
                with_reducible rfl
              rotate_left
              · simp only [Act.put, yay, yby, ycy, zV, zW]
                rfl
              refine Qt (QE HT_.out (by kernel_rfl)) ?_
              try go_wp2
              go_roundg k1
              case measure => have := HK1.out; omega
              case rel => exact ⟨(y106), (wrap64 (x8_1 + 1)), (by first | rfl | (simp; done) | (simp [*]; done)), H', ⟨by have := HK1.out; omega⟩, ⟨by (with_reducible repeat (first | apply Kd.zp | apply Kd.zn | apply Kd.qA)); exact HO108.out⟩, ⟨by repeat (first | (with_reducible first | exact HB.out | apply zC | apply zB | apply zD) | exact HB.out)⟩⟩
            · rw [if_neg c9] at H
              exact absurd H (by simp)
          · rw [if_neg c8] at H
            exact absurd H (by simp)
        · rw [if_neg c7] at H
          exact absurd H (by simp)
      · rw [if_neg c6] at H
        have c6b0 : decide (x8_1 < (l0.length : Int)) = false := yhy c6
        clear c6
        obtain rfl := yey H
        go_wp2
        go_ret
        exact ⟨_, by first | rfl | (simp [zR, zS] <;> rfl) | (simp [*, zR, zS] <;> rfl), by (with_reducible repeat (first | apply Kd.zp | apply Kd.zn | apply Kd.qA)); exact HO_7.out, by repeat (first | (with_reducible first | exact HB.out | apply zC | apply zB | apply zD) | exact HB.out)⟩
def ZD.f (k : Nat) (l0_0 : List (List (zu))) (l1 : List Int) (l2 : List Int) : Option (Bool) := (qc.f k l0_0 l1).bind fun t102 => (if t102 = true then ((qc.f k l0_0 l2).bind fun t103 => (if t103 = true then ((zx.f k l1 l2 1).bind fun t104 => ((qB.f k t104).bind fun t107 => (some t107))) else (some false))) else (some false))
set_option maxHeartbeats 8000000 in
set_option maxRecDepth 100000 in
theorem ZD.calls (k : Nat) (A0_0 : Option Addr) (c0_0 : Nat) (l0_0 : List (List (zu))) (A1 : Option Addr) (c1 : Nat) (l1 : List Int) (A2 : Option Addr) (c2 : Nat) (l2 : List Int) (r : Bool) (w : World) (hr0_0 : Kd.C (Kd.slice 115 ZC) w A0_0 l0_0.length l0_0) (hc0_0 : l0_0.length ≤ c0_0) (hr1 : Kd.C (Kd.int .i64) w A1 l1.length l1) (hc1 : l1.length ≤ c1) (hr2 : Kd.C (Kd.int .i64) w A2 l2.length l2) (hc2 : l2.length ≤ c2) (h : ZD.f k l0_0 l1 l2 = some r) :
    Calls Try.prog 30 #[.agg #[.slice A0_0 l0_0.length c0_0], .slice A1 l1.length c1, .slice A2 l2.length c2] w fun e w' => e = .returned (.bool r) ∧ Below w.heap.size w w' := by
  have hu30 := Try.underlying30
  have HR0_0 := zA.mk hr0_0
  have HC0_0 := zA.mk hc0_0
  clear hr0_0 hc0_0
  have HR1 := zA.mk hr1
  have HC1 := zA.mk hc1
  clear hr1 hc1
  have HR2 := zA.mk hr2
  have HC2 := zA.mk hc2
  clear hr2 hc2
  have HB := zA.mk (yry w.heap.size w)
  have H : ((qc.f k l0_0 l1).bind fun t102 => (if t102 = true then ((qc.f k l0_0 l2).bind fun t103 => (if t103 = true then ((zx.f k l1 l2 1).bind fun t104 => ((qB.f k t104).bind fun t107 => (some t107))) else (some false))) else (some false))) = some r := h
  clear h
  replace H := ydy.mp H
  obtain ⟨t102, A40, H⟩ := H
  replace H : (if t102 = true then ((qc.f k l0_0 l2).bind fun t103 => (if t103 = true then ((zx.f k l1 l2 1).bind fun t104 => ((qB.f k t104).bind fun t107 => (some t107))) else (some false))) else (some false)) = some r := H
  have A4 := zA.mk A40
  clear A40
  by_cases c5 : t102 = true
  · subst c5
    have H1 : ((qc.f k l0_0 l2).bind fun t103 => (if t103 = true then ((zx.f k l1 l2 1).bind fun t104 => ((qB.f k t104).bind fun t107 => (some t107))) else (some false))) = some r := by rw [if_pos rfl] at H; exact H
    clear H
    have H := H1
    clear H1
    replace H := ydy.mp H
    obtain ⟨t103, A60, H⟩ := H
    replace H : (if t103 = true then ((zx.f k l1 l2 1).bind fun t104 => ((qB.f k t104).bind fun t107 => (some t107))) else (some false)) = some r := H
    have A6 := zA.mk A60
    clear A60
    by_cases c7 : t103 = true
    · subst c7
      have H1 : ((zx.f k l1 l2 1).bind fun t104 => ((qB.f k t104).bind fun t107 => (some t107))) = some r := by rw [if_pos rfl] at H; exact H
      clear H
      have H := H1
      clear H1
      replace H := ydy.mp H
      obtain ⟨t104, A80, H⟩ := H
      replace H : ((qB.f k t104).bind fun t107 => (some t107)) = some r := H
      have A8 := zA.mk A80
      clear A80
      replace H := ydy.mp H
      obtain ⟨t107, A90, H⟩ := H
      replace H : (some t107) = some r := H
      have A9 := zA.mk A90
      clear A90
      obtain rfl := yey H
      go_enter Try.func30, Try.ntmps30
      go_wp2_with (first | ((with_reducible refine zj (N := 3) rfl ?_); refine zi ?hg (N := 3) ?hd (cs := #[.slice A0_0 l0_0.length c0_0]) (t := 30) ?hr ?_; (case hd => rfl); (case hg => rfl); (case hr => first | (go_simp; done) | (go_simp; rfl)); intro gb101 hg w10 hbox hb; have n0_ := zA.mk (zN (by repeat (first | (with_reducible first | exact HB.out | apply zC | apply zB | apply zD) | exact HB.out)) hb); have n1_ := zA.mk (hbox); have n2_ := zA.mk ((by rw [hg]; exact (zO (by repeat (first | (with_reducible first | exact HB.out | apply zC | apply zB | apply zD) | exact HB.out))) : w.heap.size ≤ gb101)); have n3_ := zA.mk ((by rw [hg]; exact (zO (by repeat (first | (with_reducible first | exact HB.out | apply zC | apply zB | apply zD) | exact HB.out))) : w.heap.size ≤ gb101)); clear HB; have HB := n0_; have BK101 := n1_; have GW101 := n2_; have GE101 := n3_; clear n0_ n1_ n2_ n3_; clear hb hbox hg; have hcz11_0 : w10.cell? ⟨gb101, 0, none⟩ = some (.slice A0_0 l0_0.length c0_0) := (zL BK101.out 0).trans rfl; have hfz11_0 := zM BK101.out 0) | ((with_reducible refine zQ (f := 28) rfl ?_); refine zt (some 9) rfl rfl Try.func28 (by kernel_rfl) rfl #[.agg #[.slice A0_0 l0_0.length c0_0], .slice A1 l1.length c1] rfl (by (try simp only [yiy, yjy, yky]); first | done | rfl | (simp only [yly, ymy]; rfl)) ?_; (with_reducible refine (qc.calls k _ _ l0_0 _ _ l1 true _ ?side1 ?side2 ?side3 ?side4 A4.out).mono ?_); (case side1 => repeat (first | exact (Kd.za HR0_0.out HB.out) | (with_reducible refine Kd.zb ?_ _) | (with_reducible refine Kd.zc ?_ _) | (with_reducible refine Kd.zk ?_))); (case side2 => exact HC0_0.out); (case side3 => repeat (first | exact (Kd.za HR1.out HB.out) | (with_reducible refine Kd.zb ?_ _) | (with_reducible refine Kd.zc ?_ _) | (with_reducible refine Kd.zk ?_))); (case side4 => exact HC1.out); rintro e w12 ⟨rfl, hb⟩; refine ⟨_, rfl, ?_⟩; have n0_ := zA.mk (zP (g := gb101) (o := .cells #[.slice A0_0 l0_0.length c0_0] 30 (0, 0)) (by (with_reducible repeat (first | refine zI ?_ _ | refine zJ ?_ | refine zH ?_ _)); exact BK101.out) hb); have n1_ := zA.mk (zN (by repeat (first | (with_reducible first | exact HB.out | apply zC | apply zB | apply zD | refine zF ?_ GE101.out) | exact HB.out)) hb); clear BK101; clear HB; have BK101 := n0_; have HB := n1_; clear n0_ n1_; (try clear hb); (try clear hb2); (try clear hk); (try clear hi); have hcz13_0 : w12.cell? ⟨gb101, 0, none⟩ = some (.slice A0_0 l0_0.length c0_0) := (zL BK101.out 0).trans rfl; have hfz13_0 := zM BK101.out 0) | (go_at_call 28; (with_reducible refine (qc.calls k _ _ l0_0 _ _ l2 true _ ?side1 ?side2 ?side3 ?side4 A6.out).mono ?_); (case side1 => repeat (first | exact (Kd.za HR0_0.out HB.out) | (with_reducible refine Kd.zb ?_ _) | (with_reducible refine Kd.zc ?_ _) | (with_reducible refine Kd.zk ?_))); (case side2 => exact HC0_0.out); (case side3 => repeat (first | exact (Kd.za HR2.out HB.out) | (with_reducible refine Kd.zb ?_ _) | (with_reducible refine Kd.zc ?_ _) | (with_reducible refine Kd.zk ?_))); (case side4 => exact HC2.out); rintro e w14 ⟨rfl, hb⟩; have n0_ := zA.mk (zP (g := gb101) (o := .cells #[.slice A0_0 l0_0.length c0_0] 30 (0, 0)) (by (with_reducible repeat (first | refine zI ?_ _ | refine zJ ?_ | refine zH ?_ _)); exact BK101.out) hb); have n1_ := zA.mk (zN (by repeat (first | (with_reducible first | exact HB.out | apply zC | apply zB | apply zD | refine zF ?_ GE101.out) | exact HB.out)) hb); clear BK101; clear HB; have BK101 := n0_; have HB := n1_; clear n0_ n1_; (try clear hb); (try clear hb2); (try clear hk); (try clear hi)) | (go_at_call 71; (with_reducible refine (zx.calls k _ _ l1 _ _ l2 1 t104 _ ?side1 ?side2 ?side3 ?side4 A8.out).mono ?_); (case side1 => repeat (first | exact (Kd.za HR1.out HB.out) | (with_reducible refine Kd.zb ?_ _) | (with_reducible refine Kd.zc ?_ _) | (with_reducible refine Kd.zk ?_))); (case side2 => exact HC1.out); (case side3 => repeat (first | exact (Kd.za HR2.out HB.out) | (with_reducible refine Kd.zb ?_ _) | (with_reducible refine Kd.zc ?_ _) | (with_reducible refine Kd.zk ?_))); (case side4 => exact HC2.out); rintro e w15 ⟨v105, rfl, ho0, hb⟩; have n0_ := zA.mk (Kd.ZR ho0 (zO (by repeat (first | (with_reducible first | exact HB.out | apply zC | apply zB | apply zD | refine zF ?_ GE101.out) | exact HB.out)))); have n1_ := zA.mk (zP (g := gb101) (o := .cells #[.slice A0_0 l0_0.length c0_0] 30 (0, 0)) (by (with_reducible repeat (first | refine zI ?_ _ | refine zJ ?_ | refine zH ?_ _)); exact BK101.out) hb); have n2_ := zA.mk (zN (by repeat (first | (with_reducible first | exact HB.out | apply zC | apply zB | apply zD | refine zF ?_ GE101.out) | exact HB.out)) hb); clear BK101; clear HB; have HO106 := n0_; have BK101 := n1_; have HB := n2_; clear n0_ n1_ n2_; (try clear hb); (try clear hb2); (try clear hk); (try clear hi); (try clear ho0); obtain ⟨Ao16, co16, eo16⟩ := Kd.ZZ HO106.out; subst eo16) | (go_at_call 69; (with_reducible refine (qB.calls k _ _ t104 t107 _ ?side1 ?side2 A9.out).mono ?_); (case side1 => repeat (first | exact (Kd.zw HO106.out).2.2 | (with_reducible refine Kd.zb ?_ _) | (with_reducible refine Kd.zc ?_ _) | (with_reducible refine Kd.zk ?_))); (case side2 => exact (Kd.zw HO106.out).2.1); rintro e w' ⟨rfl, ⟨nd, rfl⟩⟩))
      go_ret
      exact ⟨by first | rfl | (simp [zR, zS] <;> rfl) | (simp [*, zR, zS] <;> rfl), by repeat (first | (with_reducible first | exact HB.out | apply zC | apply zB | apply zD | refine zF ?_ GE101.out) | exact HB.out)⟩
    · replace c7 := Bool.eq_false_iff.mpr c7
      subst c7
      have H1 : (some false) = some r := by rw [if_neg (show ¬ (false = true) by decide)] at H; exact H
      clear H
      have H := H1
      clear H1
      obtain rfl := yey H
      go_enter Try.func30, Try.ntmps30
      go_wp2_with (first | ((with_reducible refine zj (N := 3) rfl ?_); refine zi ?hg (N := 3) ?hd (cs := #[.slice A0_0 l0_0.length c0_0]) (t := 30) ?hr ?_; (case hd => rfl); (case hg => rfl); (case hr => first | (go_simp; done) | (go_simp; rfl)); intro gb101 hg w17 hbox hb; have n0_ := zA.mk (zN (by repeat (first | (with_reducible first | exact HB.out | apply zC | apply zB | apply zD) | exact HB.out)) hb); have n1_ := zA.mk (hbox); have n2_ := zA.mk ((by rw [hg]; exact (zO (by repeat (first | (with_reducible first | exact HB.out | apply zC | apply zB | apply zD) | exact HB.out))) : w.heap.size ≤ gb101)); have n3_ := zA.mk ((by rw [hg]; exact (zO (by repeat (first | (with_reducible first | exact HB.out | apply zC | apply zB | apply zD) | exact HB.out))) : w.heap.size ≤ gb101)); clear HB; have HB := n0_; have BK101 := n1_; have GW101 := n2_; have GE101 := n3_; clear n0_ n1_ n2_ n3_; clear hb hbox hg; have hcz18_0 : w17.cell? ⟨gb101, 0, none⟩ = some (.slice A0_0 l0_0.length c0_0) := (zL BK101.out 0).trans rfl; have hfz18_0 := zM BK101.out 0) | ((with_reducible refine zQ (f := 28) rfl ?_); refine zt (some 9) rfl rfl Try.func28 (by kernel_rfl) rfl #[.agg #[.slice A0_0 l0_0.length c0_0], .slice A1 l1.length c1] rfl (by (try simp only [yiy, yjy, yky]); first | done | rfl | (simp only [yly, ymy]; rfl)) ?_; (with_reducible refine (qc.calls k _ _ l0_0 _ _ l1 true _ ?side1 ?side2 ?side3 ?side4 A4.out).mono ?_); (case side1 => repeat (first | exact (Kd.za HR0_0.out HB.out) | (with_reducible refine Kd.zb ?_ _) | (with_reducible refine Kd.zc ?_ _) | (with_reducible refine Kd.zk ?_))); (case side2 => exact HC0_0.out); (case side3 => repeat (first | exact (Kd.za HR1.out HB.out) | (with_reducible refine Kd.zb ?_ _) | (with_reducible refine Kd.zc ?_ _) | (with_reducible refine Kd.zk ?_))); (case side4 => exact HC1.out); rintro e w19 ⟨rfl, hb⟩; refine ⟨_, rfl, ?_⟩; have n0_ := zA.mk (zP (g := gb101) (o := .cells #[.slice A0_0 l0_0.length c0_0] 30 (0, 0)) (by (with_reducible repeat (first | refine zI ?_ _ | refine zJ ?_ | refine zH ?_ _)); exact BK101.out) hb); have n1_ := zA.mk (zN (by repeat (first | (with_reducible first | exact HB.out | apply zC | apply zB | apply zD | refine zF ?_ GE101.out) | exact HB.out)) hb); clear BK101; clear HB; have BK101 := n0_; have HB := n1_; clear n0_ n1_; (try clear hb); (try clear hb2); (try clear hk); (try clear hi); have hcz20_0 : w19.cell? ⟨gb101, 0, none⟩ = some (.slice A0_0 l0_0.length c0_0) := (zL BK101.out 0).trans rfl; have hfz20_0 := zM BK101.out 0) | (go_at_call 28; (with_reducible refine (qc.calls k _ _ l0_0 _ _ l2 false _ ?side1 ?side2 ?side3 ?side4 A6.out).mono ?_); (case side1 => repeat (first | exact (Kd.za HR0_0.out HB.out) | (with_reducible refine Kd.zb ?_ _) | (with_reducible refine Kd.zc ?_ _) | (with_reducible refine Kd.zk ?_))); (case side2 => exact HC0_0.out); (case side3 => repeat (first | exact (Kd.za HR2.out HB.out) | (with_reducible refine Kd.zb ?_ _) | (with_reducible refine Kd.zc ?_ _) | (with_reducible refine Kd.zk ?_))); (case side4 => exact HC2.out); rintro e w21 ⟨rfl, hb⟩; have n0_ := zA.mk (zP (g := gb101) (o := .cells #[.slice A0_0 l0_0.length c0_0] 30 (0, 0)) (by (with_reducible repeat (first | refine zI ?_ _ | refine zJ ?_ | refine zH ?_ _)); exact BK101.out) hb); have n1_ := zA.mk (zN (by repeat (first | (with_reducible first | exact HB.out | apply zC | apply zB | apply zD | refine zF ?_ GE101.out) | exact HB.out)) hb); clear BK101; clear HB; have BK101 := n0_; have HB := n1_; clear n0_ n1_; (try clear hb); (try clear hb2); (try clear hk); (try clear hi)))
      go_ret
      exact ⟨by first | rfl | (simp [zR, zS] <;> rfl) | (simp [*, zR, zS] <;> rfl), by repeat (first | (with_reducible first | exact HB.out | apply zC | apply zB | apply zD | refine zF ?_ GE101.out) | exact HB.out)⟩
  · replace c5 := Bool.eq_false_iff.mpr c5
    subst c5
    have H1 : (some false) = some r := by rw [if_neg (show ¬ (false = true) by decide)] at H; exact H
    clear H
    have H := H1
    clear H1
    obtain rfl := yey H
    go_enter Try.func30, Try.ntmps30
    go_wp2_with (first | ((with_reducible refine zj (N := 3) rfl ?_); refine zi ?hg (N := 3) ?hd (cs := #[.slice A0_0 l0_0.length c0_0]) (t := 30) ?hr ?_; (case hd => rfl); (case hg => rfl); (case hr => first | (go_simp; done) | (go_simp; rfl)); intro gb101 hg w22 hbox hb; have n0_ := zA.mk (zN (by repeat (first | (with_reducible first | exact HB.out | apply zC | apply zB | apply zD) | exact HB.out)) hb); have n1_ := zA.mk (hbox); have n2_ := zA.mk ((by rw [hg]; exact (zO (by repeat (first | (with_reducible first | exact HB.out | apply zC | apply zB | apply zD) | exact HB.out))) : w.heap.size ≤ gb101)); have n3_ := zA.mk ((by rw [hg]; exact (zO (by repeat (first | (with_reducible first | exact HB.out | apply zC | apply zB | apply zD) | exact HB.out))) : w.heap.size ≤ gb101)); clear HB; have HB := n0_; have BK101 := n1_; have GW101 := n2_; have GE101 := n3_; clear n0_ n1_ n2_ n3_; clear hb hbox hg; have hcz23_0 : w22.cell? ⟨gb101, 0, none⟩ = some (.slice A0_0 l0_0.length c0_0) := (zL BK101.out 0).trans rfl; have hfz23_0 := zM BK101.out 0) | ((with_reducible refine zQ (f := 28) rfl ?_); refine zt (some 9) rfl rfl Try.func28 (by kernel_rfl) rfl #[.agg #[.slice A0_0 l0_0.length c0_0], .slice A1 l1.length c1] rfl (by (try simp only [yiy, yjy, yky]); first | done | rfl | (simp only [yly, ymy]; rfl)) ?_; (with_reducible refine (qc.calls k _ _ l0_0 _ _ l1 false _ ?side1 ?side2 ?side3 ?side4 A4.out).mono ?_); (case side1 => repeat (first | exact (Kd.za HR0_0.out HB.out) | (with_reducible refine Kd.zb ?_ _) | (with_reducible refine Kd.zc ?_ _) | (with_reducible refine Kd.zk ?_))); (case side2 => exact HC0_0.out); (case side3 => repeat (first | exact (Kd.za HR1.out HB.out) | (with_reducible refine Kd.zb ?_ _) | (with_reducible refine Kd.zc ?_ _) | (with_reducible refine Kd.zk ?_))); (case side4 => exact HC1.out); rintro e w24 ⟨rfl, hb⟩; refine ⟨_, rfl, ?_⟩; have n0_ := zA.mk (zP (g := gb101) (o := .cells #[.slice A0_0 l0_0.length c0_0] 30 (0, 0)) (by (with_reducible repeat (first | refine zI ?_ _ | refine zJ ?_ | refine zH ?_ _)); exact BK101.out) hb); have n1_ := zA.mk (zN (by repeat (first | (with_reducible first | exact HB.out | apply zC | apply zB | apply zD | refine zF ?_ GE101.out) | exact HB.out)) hb); clear BK101; clear HB; have BK101 := n0_; have HB := n1_; clear n0_ n1_; (try clear hb); (try clear hb2); (try clear hk); (try clear hi)))
    go_ret
    exact ⟨by first | rfl | (simp [zR, zS] <;> rfl) | (simp [*, zR, zS] <;> rfl), by repeat (first | (with_reducible first | exact HB.out | apply zC | apply zB | apply zD | refine zF ?_ GE101.out) | exact HB.out)⟩
def Zt.f (k : Nat) (l0_0 : List (List (zu))) (l1 : List Int) (l2 : List Int) : Option (List Int × Int) := (ZP.f k l0_0).bind fun t102 => (if t102 = 0 then ((ZD.f k l0_0 l1 l2).bind fun t103 => (if t103 = true then ((zx.f k l1 l2 1).bind fun t104 => ((zd.f k l0_0 t104).bind fun t107 => (if t107 = true then (some (t104, 0)) else (some (([] : List Int), 3))))) else (some (([] : List Int), 5)))) else (some (([] : List Int), t102)))
set_option maxHeartbeats 8000000 in
set_option maxRecDepth 100000 in
theorem Zt.calls (k : Nat) (A0_0 : Option Addr) (c0_0 : Nat) (l0_0 : List (List (zu))) (A1 : Option Addr) (c1 : Nat) (l1 : List Int) (A2 : Option Addr) (c2 : Nat) (l2 : List Int) (r1 : List Int) (r2 : Int) (w : World) (hr0_0 : Kd.C (Kd.slice 115 ZC) w A0_0 l0_0.length l0_0) (hc0_0 : l0_0.length ≤ c0_0) (hr1 : Kd.C (Kd.int .i64) w A1 l1.length l1) (hc1 : l1.length ≤ c1) (hr2 : Kd.C (Kd.int .i64) w A2 l2.length l2) (hc2 : l2.length ≤ c2) (h : Zt.f k l0_0 l1 l2 = some (r1, r2)) :
 Calls Try.prog 42 #[.agg #[.slice A0_0 l0_0.length c0_0], .slice A1 l1.length c1, .slice A2 l2.length c2] w fun e w' => ∃ v0_ : Value, e = .returned (.tuple #[v0_, .int .i64 r2]) ∧ Kd.R (Kd.int .i64) 2 w' w.heap.size (fun _ => True) v0_ r1 ∧ Below w.heap.size w w' := by
 have hu30 := Try.underlying30
 have HR0_0 := zA.mk hr0_0
 have HC0_0 := zA.mk hc0_0
 clear hr0_0 hc0_0
 have HR1 := zA.mk hr1
 have HC1 := zA.mk hc1
 clear hr1 hc1
 have HR2 := zA.mk hr2
 have HC2 := zA.mk hc2
 clear hr2 hc2
 have HB := zA.mk (yry w.heap.size w)
 have H : ((ZP.f k l0_0).bind fun t102 => (if t102 = 0 then ((ZD.f k l0_0 l1 l2).bind fun t103 => (if t103 = true then ((zx.f k l1 l2 1).bind fun t104 => ((zd.f k l0_0 t104).bind fun t107 => (if t107 = true then (some (t104, 0)) else (some (([] : List Int), 3))))) else (some (([] : List Int), 5)))) else (some (([] : List Int), t102)))) = some (r1, r2) := h
 clear h
 replace H := ydy.mp H
 obtain ⟨t102, A40, H⟩ := H
 replace H : (if t102 = 0 then ((ZD.f k l0_0 l1 l2).bind fun t103 => (if t103 = true then ((zx.f k l1 l2 1).bind fun t104 => ((zd.f k l0_0 t104).bind fun t107 => (if t107 = true then (some (t104, 0)) else (some (([] : List Int), 3))))) else (some (([] : List Int), 5)))) else (some (([] : List Int), t102))) = some (r1, r2) := H
 have A4 := zA.mk A40
 clear A40
 by_cases c5 : t102 = 0
 rotate_left
 next =>
  rw [if_neg c5] at H
  have c5b0 : (t102 == 0) = false := beq_eq_false_iff_ne.mpr c5
  have c5b1 : (t102 != 0) = true := bne_iff_ne.mpr c5
  simp only [Option.some.injEq, Prod.mk.injEq] at H
  obtain ⟨rfl, rfl⟩ := H
  go_enter Try.func42, Try.ntmps42
  go_wp2_with (first | ((with_reducible refine zj (N := 3) rfl ?_); refine zi ?hg (N := 3) ?hd (cs := #[.slice A0_0 l0_0.length c0_0]) (t := 30) ?hr ?_; (case hd => rfl); (case hg => rfl); (case hr => first | (go_simp; done) | (go_simp; rfl)); intro gb101 hg w34 hbox hb; have n0_ := zA.mk (zN (by repeat (first | (with_reducible first | exact HB.out | apply zC | apply zB | apply zD) | exact HB.out)) hb); have n1_ := zA.mk (hbox); have n2_ := zA.mk ((by rw [hg]; exact (zO (by repeat (first | (with_reducible first | exact HB.out | apply zC | apply zB | apply zD) | exact HB.out))) : w.heap.size ≤ gb101)); have n3_ := zA.mk ((by rw [hg]; exact (zO (by repeat (first | (with_reducible first | exact HB.out | apply zC | apply zB | apply zD) | exact HB.out))) : w.heap.size ≤ gb101)); clear HB; have HB := n0_; have BK101 := n1_; have GW101 := n2_; have GE101 := n3_; clear n0_ n1_ n2_ n3_; clear hb hbox hg; have hcz35_0 : w34.cell? ⟨gb101, 0, none⟩ = some (.slice A0_0 l0_0.length c0_0) := (zL BK101.out 0).trans rfl; have hfz35_0 := zM BK101.out 0) | ((with_reducible refine zQ (f := 58) rfl ?_); refine zt (some 11) rfl rfl Try.func58 (by kernel_rfl) rfl #[.agg #[.slice A0_0 l0_0.length c0_0]] rfl (by (try simp only [yiy, yjy, yky]); first | done | rfl | (simp only [yly, ymy]; rfl)) ?_; (with_reducible refine (ZP.calls k _ _ l0_0 t102 _ ?side1 ?side2 A4.out).mono ?_); (case side1 => repeat (first | exact (Kd.za HR0_0.out HB.out) | (with_reducible refine Kd.zb ?_ _) | (with_reducible refine Kd.zc ?_ _) | (with_reducible refine Kd.zk ?_))); (case side2 => exact HC0_0.out); rintro e w36 ⟨rfl, hb⟩; refine ⟨_, rfl, ?_⟩; have n0_ := zA.mk (zP (g := gb101) (o := .cells #[.slice A0_0 l0_0.length c0_0] 30 (0, 0)) (by (with_reducible repeat (first | refine zI ?_ _ | refine zJ ?_ | refine zH ?_ _)); exact BK101.out) hb); have n1_ := zA.mk (zN (by repeat (first | (with_reducible first | exact HB.out | apply zC | apply zB | apply zD | refine zF ?_ GE101.out) | exact HB.out)) hb); clear BK101; clear HB; have BK101 := n0_; have HB := n1_; clear n0_ n1_; (try clear hb); (try clear hb2); (try clear hk); (try clear hi)))
  go_ret2
  exact ⟨_, by first | rfl | (simp [zR, zS] <;> rfl) | (simp [*, zR, zS] <;> rfl), by first | exact Kd.zA9 _ _ _ _ _ | exact Kd.zCo _ _ _ _ _ | exact Kd.zCp _ _ _ _ _ | exact Kd.zCi _ _ _ _ _ | exact Kd.zCn _ _ _ _ _, by repeat (first | (with_reducible first | exact HB.out | apply zC | apply zB | apply zD | refine zF ?_ GE101.out) | exact HB.out)⟩
 rw [if_pos c5] at H
 have c5b0 : (t102 == 0) = true := beq_iff_eq.mpr c5
 have c5b1 : (t102 != 0) = false := bne_eq_false_iff_eq.mpr c5
 clear c5
 replace H := ydy.mp H
 obtain ⟨t103, A60, H⟩ := H
 replace H : (if t103 = true then ((zx.f k l1 l2 1).bind fun t104 => ((zd.f k l0_0 t104).bind fun t107 => (if t107 = true then (some (t104, 0)) else (some (([] : List Int), 3))))) else (some (([] : List Int), 5))) = some (r1, r2) := H
 have A6 := zA.mk A60
 clear A60
 by_cases c7 : t103 = true
 rotate_left
 next =>
  replace c7 := Bool.eq_false_iff.mpr c7
  subst c7
  have H1 : (some (([] : List Int), 5)) = some (r1, r2) := by rw [if_neg (show ¬ (false = true) by decide)] at H; exact H
  clear H
  have H := H1
  clear H1
  simp only [Option.some.injEq, Prod.mk.injEq] at H
  obtain ⟨rfl, rfl⟩ := H
  go_enter Try.func42, Try.ntmps42
  go_wp2_with (first | ((with_reducible refine zj (N := 3) rfl ?_); refine zi ?hg (N := 3) ?hd (cs := #[.slice A0_0 l0_0.length c0_0]) (t := 30) ?hr ?_; (case hd => rfl); (case hg => rfl); (case hr => first | (go_simp; done) | (go_simp; rfl)); intro gb101 hg w29 hbox hb; have n0_ := zA.mk (zN (by repeat (first | (with_reducible first | exact HB.out | apply zC | apply zB | apply zD) | exact HB.out)) hb); have n1_ := zA.mk (hbox); have n2_ := zA.mk ((by rw [hg]; exact (zO (by repeat (first | (with_reducible first | exact HB.out | apply zC | apply zB | apply zD) | exact HB.out))) : w.heap.size ≤ gb101)); have n3_ := zA.mk ((by rw [hg]; exact (zO (by repeat (first | (with_reducible first | exact HB.out | apply zC | apply zB | apply zD) | exact HB.out))) : w.heap.size ≤ gb101)); clear HB; have HB := n0_; have BK101 := n1_; have GW101 := n2_; have GE101 := n3_; clear n0_ n1_ n2_ n3_; clear hb hbox hg; have hcz30_0 : w29.cell? ⟨gb101, 0, none⟩ = some (.slice A0_0 l0_0.length c0_0) := (zL BK101.out 0).trans rfl; have hfz30_0 := zM BK101.out 0) | ((with_reducible refine zQ (f := 58) rfl ?_); refine zt (some 11) rfl rfl Try.func58 (by kernel_rfl) rfl #[.agg #[.slice A0_0 l0_0.length c0_0]] rfl (by (try simp only [yiy, yjy, yky]); first | done | rfl | (simp only [yly, ymy]; rfl)) ?_; (with_reducible refine (ZP.calls k _ _ l0_0 t102 _ ?side1 ?side2 A4.out).mono ?_); (case side1 => repeat (first | exact (Kd.za HR0_0.out HB.out) | (with_reducible refine Kd.zb ?_ _) | (with_reducible refine Kd.zc ?_ _) | (with_reducible refine Kd.zk ?_))); (case side2 => exact HC0_0.out); rintro e w31 ⟨rfl, hb⟩; refine ⟨_, rfl, ?_⟩; have n0_ := zA.mk (zP (g := gb101) (o := .cells #[.slice A0_0 l0_0.length c0_0] 30 (0, 0)) (by (with_reducible repeat (first | refine zI ?_ _ | refine zJ ?_ | refine zH ?_ _)); exact BK101.out) hb); have n1_ := zA.mk (zN (by repeat (first | (with_reducible first | exact HB.out | apply zC | apply zB | apply zD | refine zF ?_ GE101.out) | exact HB.out)) hb); clear BK101; clear HB; have BK101 := n0_; have HB := n1_; clear n0_ n1_; (try clear hb); (try clear hb2); (try clear hk); (try clear hi); have hcz32_0 : w31.cell? ⟨gb101, 0, none⟩ = some (.slice A0_0 l0_0.length c0_0) := (zL BK101.out 0).trans rfl; have hfz32_0 := zM BK101.out 0) | ((with_reducible refine zQ (f := 30) rfl ?_); refine zt (some 18) rfl rfl Try.func30 (by kernel_rfl) rfl #[.agg #[.slice A0_0 l0_0.length c0_0], .slice A1 l1.length c1, .slice A2 l2.length c2] rfl (by (try simp only [yiy, yjy, yky]); first | done | rfl | (simp only [yly, ymy]; rfl)) ?_; (with_reducible refine (ZD.calls k _ _ l0_0 _ _ l1 _ _ l2 false _ ?side1 ?side2 ?side3 ?side4 ?side5 ?side6 A6.out).mono ?_); (case side1 => repeat (first | exact (Kd.za HR0_0.out HB.out) | (with_reducible refine Kd.zb ?_ _) | (with_reducible refine Kd.zc ?_ _) | (with_reducible refine Kd.zk ?_))); (case side2 => exact HC0_0.out); (case side3 => repeat (first | exact (Kd.za HR1.out HB.out) | (with_reducible refine Kd.zb ?_ _) | (with_reducible refine Kd.zc ?_ _) | (with_reducible refine Kd.zk ?_))); (case side4 => exact HC1.out); (case side5 => repeat (first | exact (Kd.za HR2.out HB.out) | (with_reducible refine Kd.zb ?_ _) | (with_reducible refine Kd.zc ?_ _) | (with_reducible refine Kd.zk ?_))); (case side6 => exact HC2.out); rintro e w33 ⟨rfl, hb⟩; refine ⟨_, rfl, ?_⟩; have n0_ := zA.mk (zP (g := gb101) (o := .cells #[.slice A0_0 l0_0.length c0_0] 30 (0, 0)) (by (with_reducible repeat (first | refine zI ?_ _ | refine zJ ?_ | refine zH ?_ _)); exact BK101.out) hb); have n1_ := zA.mk (zN (by repeat (first | (with_reducible first | exact HB.out | apply zC | apply zB | apply zD | refine zF ?_ GE101.out) | exact HB.out)) hb); clear BK101; clear HB; have BK101 := n0_; have HB := n1_; clear n0_ n1_; (try clear hb); (try clear hb2); (try clear hk); (try clear hi)))
  go_ret2
  exact ⟨_, by first | rfl | (simp [zR, zS] <;> rfl) | (simp [*, zR, zS] <;> rfl), by first | exact Kd.zA9 _ _ _ _ _ | exact Kd.zCo _ _ _ _ _ | exact Kd.zCp _ _ _ _ _ | exact Kd.zCi _ _ _ _ _ | exact Kd.zCn _ _ _ _ _, by repeat (first | (with_reducible first | exact HB.out | apply zC | apply zB | apply zD | refine zF ?_ GE101.out) | exact HB.out)⟩
 subst c7
 have H1 : ((zx.f k l1 l2 1).bind fun t104 => ((zd.f k l0_0 t104).bind fun t107 => (if t107 = true then (some (t104, 0)) else (some (([] : List Int), 3))))) = some (r1, r2) := by rw [if_pos rfl] at H; exact H
 clear H
 have H := H1
 clear H1
 replace H := ydy.mp H
 obtain ⟨t104, A80, H⟩ := H
 replace H : ((zd.f k l0_0 t104).bind fun t107 => (if t107 = true then (some (t104, 0)) else (some (([] : List Int), 3)))) = some (r1, r2) := H
 have A8 := zA.mk A80
 clear A80
 replace H := ydy.mp H
 obtain ⟨t107, A90, H⟩ := H
 replace H : (if t107 = true then (some (t104, 0)) else (some (([] : List Int), 3))) = some (r1, r2) := H
 have A9 := zA.mk A90
 clear A90
 by_cases c10 : t107 = true
 next =>
  subst c10
  have H1 : (some (t104, 0)) = some (r1, r2) := by rw [if_pos rfl] at H; exact H
  clear H
  have H := H1
  clear H1
  simp only [Option.some.injEq, Prod.mk.injEq] at H
  obtain ⟨rfl, rfl⟩ := H
  go_enter Try.func42, Try.ntmps42
  go_wp2_with (first | ((with_reducible refine zj (N := 3) rfl ?_); refine zi ?hg (N := 3) ?hd (cs := #[.slice A0_0 l0_0.length c0_0]) (t := 30) ?hr ?_; (case hd => rfl); (case hg => rfl); (case hr => first | (go_simp; done) | (go_simp; rfl)); intro gb101 hg w11 hbox hb; have n0_ := zA.mk (zN (by repeat (first | (with_reducible first | exact HB.out | apply zC | apply zB | apply zD) | exact HB.out)) hb); have n1_ := zA.mk (hbox); have n2_ := zA.mk ((by rw [hg]; exact (zO (by repeat (first | (with_reducible first | exact HB.out | apply zC | apply zB | apply zD) | exact HB.out))) : w.heap.size ≤ gb101)); have n3_ := zA.mk ((by rw [hg]; exact (zO (by repeat (first | (with_reducible first | exact HB.out | apply zC | apply zB | apply zD) | exact HB.out))) : w.heap.size ≤ gb101)); clear HB; have HB := n0_; have BK101 := n1_; have GW101 := n2_; have GE101 := n3_; clear n0_ n1_ n2_ n3_; clear hb hbox hg; have hcz12_0 : w11.cell? ⟨gb101, 0, none⟩ = some (.slice A0_0 l0_0.length c0_0) := (zL BK101.out 0).trans rfl; have hfz12_0 := zM BK101.out 0) | ((with_reducible refine zQ (f := 58) rfl ?_); refine zt (some 11) rfl rfl Try.func58 (by kernel_rfl) rfl #[.agg #[.slice A0_0 l0_0.length c0_0]] rfl (by (try simp only [yiy, yjy, yky]); first | done | rfl | (simp only [yly, ymy]; rfl)) ?_; (with_reducible refine (ZP.calls k _ _ l0_0 t102 _ ?side1 ?side2 A4.out).mono ?_); (case side1 => repeat (first | exact (Kd.za HR0_0.out HB.out) | (with_reducible refine Kd.zb ?_ _) | (with_reducible refine Kd.zc ?_ _) | (with_reducible refine Kd.zk ?_))); (case side2 => exact HC0_0.out); rintro e w13 ⟨rfl, hb⟩; refine ⟨_, rfl, ?_⟩; have n0_ := zA.mk (zP (g := gb101) (o := .cells #[.slice A0_0 l0_0.length c0_0] 30 (0, 0)) (by (with_reducible repeat (first | refine zI ?_ _ | refine zJ ?_ | refine zH ?_ _)); exact BK101.out) hb); have n1_ := zA.mk (zN (by repeat (first | (with_reducible first | exact HB.out | apply zC | apply zB | apply zD | refine zF ?_ GE101.out) | exact HB.out)) hb); clear BK101; clear HB; have BK101 := n0_; have HB := n1_; clear n0_ n1_; (try clear hb); (try clear hb2); (try clear hk); (try clear hi); have hcz14_0 : w13.cell? ⟨gb101, 0, none⟩ = some (.slice A0_0 l0_0.length c0_0) := (zL BK101.out 0).trans rfl; have hfz14_0 := zM BK101.out 0) | ((with_reducible refine zQ (f := 30) rfl ?_); refine zt (some 18) rfl rfl Try.func30 (by kernel_rfl) rfl #[.agg #[.slice A0_0 l0_0.length c0_0], .slice A1 l1.length c1, .slice A2 l2.length c2] rfl (by (try simp only [yiy, yjy, yky]); first | done | rfl | (simp only [yly, ymy]; rfl)) ?_; (with_reducible refine (ZD.calls k _ _ l0_0 _ _ l1 _ _ l2 true _ ?side1 ?side2 ?side3 ?side4 ?side5 ?side6 A6.out).mono ?_); (case side1 => repeat (first | exact (Kd.za HR0_0.out HB.out) | (with_reducible refine Kd.zb ?_ _) | (with_reducible refine Kd.zc ?_ _) | (with_reducible refine Kd.zk ?_))); (case side2 => exact HC0_0.out); (case side3 => repeat (first | exact (Kd.za HR1.out HB.out) | (with_reducible refine Kd.zb ?_ _) | (with_reducible refine Kd.zc ?_ _) | (with_reducible refine Kd.zk ?_))); (case side4 => exact HC1.out); (case side5 => repeat (first | exact (Kd.za HR2.out HB.out) | (with_reducible refine Kd.zb ?_ _) | (with_reducible refine Kd.zc ?_ _) | (with_reducible refine Kd.zk ?_))); (case side6 => exact HC2.out); rintro e w15 ⟨rfl, hb⟩; refine ⟨_, rfl, ?_⟩; have n0_ := zA.mk (zP (g := gb101) (o := .cells #[.slice A0_0 l0_0.length c0_0] 30 (0, 0)) (by (with_reducible repeat (first | refine zI ?_ _ | refine zJ ?_ | refine zH ?_ _)); exact BK101.out) hb); have n1_ := zA.mk (zN (by repeat (first | (with_reducible first | exact HB.out | apply zC | apply zB | apply zD | refine zF ?_ GE101.out) | exact HB.out)) hb); clear BK101; clear HB; have BK101 := n0_; have HB := n1_; clear n0_ n1_; (try clear hb); (try clear hb2); (try clear hk); (try clear hi)) | ((with_reducible refine zQ (f := 71) rfl ?_); refine zt (some 22) rfl rfl Try.func71 (by kernel_rfl) rfl #[.slice A1 l1.length c1, .slice A2 l2.length c2, .int .i64 1] rfl (by (try simp only [yiy, yjy, yky]); first | done | rfl | (simp only [yly, ymy]; rfl)) ?_; (with_reducible refine (zx.calls k _ _ l1 _ _ l2 1 t104 _ ?side1 ?side2 ?side3 ?side4 A8.out).mono ?_); (case side1 => repeat (first | exact (Kd.za HR1.out HB.out) | (with_reducible refine Kd.zb ?_ _) | (with_reducible refine Kd.zc ?_ _) | (with_reducible refine Kd.zk ?_))); (case side2 => exact HC1.out); (case side3 => repeat (first | exact (Kd.za HR2.out HB.out) | (with_reducible refine Kd.zb ?_ _) | (with_reducible refine Kd.zc ?_ _) | (with_reducible refine Kd.zk ?_))); (case side4 => exact HC2.out); rintro e w16 ⟨v105, rfl, ho0, hb⟩; refine ⟨_, rfl, ?_⟩; have n0_ := zA.mk (Kd.ZR ho0 (zO (by repeat (first | (with_reducible first | exact HB.out | apply zC | apply zB | apply zD | refine zF ?_ GE101.out) | exact HB.out)))); have n1_ := zA.mk (zP (g := gb101) (o := .cells #[.slice A0_0 l0_0.length c0_0] 30 (0, 0)) (by (with_reducible repeat (first | refine zI ?_ _ | refine zJ ?_ | refine zH ?_ _)); exact BK101.out) hb); have n2_ := zA.mk (zN (by repeat (first | (with_reducible first | exact HB.out | apply zC | apply zB | apply zD | refine zF ?_ GE101.out) | exact HB.out)) hb); clear BK101; clear HB; have HO106 := n0_; have BK101 := n1_; have HB := n2_; clear n0_ n1_ n2_; (try clear hb); (try clear hb2); (try clear hk); (try clear hi); (try clear ho0); have hcz17_0 : w16.cell? ⟨gb101, 0, none⟩ = some (.slice A0_0 l0_0.length c0_0) := (zL BK101.out 0).trans rfl; have hfz17_0 := zM BK101.out 0; obtain ⟨Ao18, co18, eo18⟩ := Kd.ZZ HO106.out; subst eo18) | ((with_reducible refine zQ (f := 16) rfl ?_); refine zt (some 25) rfl rfl Try.func16 (by kernel_rfl) rfl #[.agg #[.slice A0_0 l0_0.length c0_0], .slice Ao18 t104.length co18] rfl (by (try simp only [yiy, yjy, yky]); first | done | rfl | (simp only [yly, ymy]; rfl)) ?_; (with_reducible refine (zd.calls k _ _ l0_0 _ _ t104 true _ ?side1 ?side2 ?side3 ?side4 A9.out).mono ?_); (case side1 => repeat (first | exact (Kd.za HR0_0.out HB.out) | (with_reducible refine Kd.zb ?_ _) | (with_reducible refine Kd.zc ?_ _) | (with_reducible refine Kd.zk ?_))); (case side2 => exact HC0_0.out); (case side3 => repeat (first | exact (Kd.zw HO106.out).2.2 | (with_reducible refine Kd.zb ?_ _) | (with_reducible refine Kd.zc ?_ _) | (with_reducible refine Kd.zk ?_))); (case side4 => exact (Kd.zw HO106.out).2.1); rintro e w19 ⟨rfl, hb⟩; refine ⟨_, rfl, ?_⟩; have n0_ := zA.mk (Kd.Zh (by (with_reducible repeat (first | apply Kd.zp | apply Kd.zn | apply Kd.qA)); exact HO106.out) hb); have n1_ := zA.mk (zP (g := gb101) (o := .cells #[.slice A0_0 l0_0.length c0_0] 30 (0, 0)) (by (with_reducible repeat (first | refine zI ?_ _ | refine zJ ?_ | refine zH ?_ _)); exact BK101.out) hb); have n2_ := zA.mk (zN (by repeat (first | (with_reducible first | exact HB.out | apply zC | apply zB | apply zD | refine zF ?_ GE101.out) | exact HB.out)) hb); clear HO106; clear BK101; clear HB; have HO106 := n0_; have BK101 := n1_; have HB := n2_; clear n0_ n1_ n2_; (try clear hb); (try clear hb2); (try clear hk); (try clear hi)))
  go_ret2
  exact ⟨_, by first | rfl | (simp [zR, zS] <;> rfl) | (simp [*, zR, zS] <;> rfl), by (with_reducible repeat (first | apply Kd.zp | apply Kd.zn | apply Kd.qA)); exact HO106.out, by repeat (first | (with_reducible first | exact HB.out | apply zC | apply zB | apply zD | refine zF ?_ GE101.out) | exact HB.out)⟩
 next =>
  replace c10 := Bool.eq_false_iff.mpr c10
  subst c10
  have H1 : (some (([] : List Int), 3)) = some (r1, r2) := by rw [if_neg (show ¬ (false = true) by decide)] at H; exact H
  clear H
  have H := H1
  clear H1
  simp only [Option.some.injEq, Prod.mk.injEq] at H
  obtain ⟨rfl, rfl⟩ := H
  go_enter Try.func42, Try.ntmps42
  go_wp2_with (first | ((with_reducible refine zj (N := 3) rfl ?_); refine zi ?hg (N := 3) ?hd (cs := #[.slice A0_0 l0_0.length c0_0]) (t := 30) ?hr ?_; (case hd => rfl); (case hg => rfl); (case hr => first | (go_simp; done) | (go_simp; rfl)); intro gb101 hg w20 hbox hb; have n0_ := zA.mk (zN (by repeat (first | (with_reducible first | exact HB.out | apply zC | apply zB | apply zD) | exact HB.out)) hb); have n1_ := zA.mk (hbox); have n2_ := zA.mk ((by rw [hg]; exact (zO (by repeat (first | (with_reducible first | exact HB.out | apply zC | apply zB | apply zD) | exact HB.out))) : w.heap.size ≤ gb101)); have n3_ := zA.mk ((by rw [hg]; exact (zO (by repeat (first | (with_reducible first | exact HB.out | apply zC | apply zB | apply zD) | exact HB.out))) : w.heap.size ≤ gb101)); clear HB; have HB := n0_; have BK101 := n1_; have GW101 := n2_; have GE101 := n3_; clear n0_ n1_ n2_ n3_; clear hb hbox hg; have hcz21_0 : w20.cell? ⟨gb101, 0, none⟩ = some (.slice A0_0 l0_0.length c0_0) := (zL BK101.out 0).trans rfl; have hfz21_0 := zM BK101.out 0) | ((with_reducible refine zQ (f := 58) rfl ?_); refine zt (some 11) rfl rfl Try.func58 (by kernel_rfl) rfl #[.agg #[.slice A0_0 l0_0.length c0_0]] rfl (by (try simp only [yiy, yjy, yky]); first | done | rfl | (simp only [yly, ymy]; rfl)) ?_; (with_reducible refine (ZP.calls k _ _ l0_0 t102 _ ?side1 ?side2 A4.out).mono ?_); (case side1 => repeat (first | exact (Kd.za HR0_0.out HB.out) | (with_reducible refine Kd.zb ?_ _) | (with_reducible refine Kd.zc ?_ _) | (with_reducible refine Kd.zk ?_))); (case side2 => exact HC0_0.out); rintro e w22 ⟨rfl, hb⟩; refine ⟨_, rfl, ?_⟩; have n0_ := zA.mk (zP (g := gb101) (o := .cells #[.slice A0_0 l0_0.length c0_0] 30 (0, 0)) (by (with_reducible repeat (first | refine zI ?_ _ | refine zJ ?_ | refine zH ?_ _)); exact BK101.out) hb); have n1_ := zA.mk (zN (by repeat (first | (with_reducible first | exact HB.out | apply zC | apply zB | apply zD | refine zF ?_ GE101.out) | exact HB.out)) hb); clear BK101; clear HB; have BK101 := n0_; have HB := n1_; clear n0_ n1_; (try clear hb); (try clear hb2); (try clear hk); (try clear hi); have hcz23_0 : w22.cell? ⟨gb101, 0, none⟩ = some (.slice A0_0 l0_0.length c0_0) := (zL BK101.out 0).trans rfl; have hfz23_0 := zM BK101.out 0) | ((with_reducible refine zQ (f := 30) rfl ?_); refine zt (some 18) rfl rfl Try.func30 (by kernel_rfl) rfl #[.agg #[.slice A0_0 l0_0.length c0_0], .slice A1 l1.length c1, .slice A2 l2.length c2] rfl (by (try simp only [yiy, yjy, yky]); first | done | rfl | (simp only [yly, ymy]; rfl)) ?_; (with_reducible refine (ZD.calls k _ _ l0_0 _ _ l1 _ _ l2 true _ ?side1 ?side2 ?side3 ?side4 ?side5 ?side6 A6.out).mono ?_); (case side1 => repeat (first | exact (Kd.za HR0_0.out HB.out) | (with_reducible refine Kd.zb ?_ _) | (with_reducible refine Kd.zc ?_ _) | (with_reducible refine Kd.zk ?_))); (case side2 => exact HC0_0.out); (case side3 => repeat (first | exact (Kd.za HR1.out HB.out) | (with_reducible refine Kd.zb ?_ _) | (with_reducible refine Kd.zc ?_ _) | (with_reducible refine Kd.zk ?_))); (case side4 => exact HC1.out); (case side5 => repeat (first | exact (Kd.za HR2.out HB.out) | (with_reducible refine Kd.zb ?_ _) | (with_reducible refine Kd.zc ?_ _) | (with_reducible refine Kd.zk ?_))); (case side6 => exact HC2.out); rintro e w24 ⟨rfl, hb⟩; refine ⟨_, rfl, ?_⟩; have n0_ := zA.mk (zP (g := gb101) (o := .cells #[.slice A0_0 l0_0.length c0_0] 30 (0, 0)) (by (with_reducible repeat (first | refine zI ?_ _ | refine zJ ?_ | refine zH ?_ _)); exact BK101.out) hb); have n1_ := zA.mk (zN (by repeat (first | (with_reducible first | exact HB.out | apply zC | apply zB | apply zD | refine zF ?_ GE101.out) | exact HB.out)) hb); clear BK101; clear HB; have BK101 := n0_; have HB := n1_; clear n0_ n1_; (try clear hb); (try clear hb2); (try clear hk); (try clear hi)) | ((with_reducible refine zQ (f := 71) rfl ?_); refine zt (some 22) rfl rfl Try.func71 (by kernel_rfl) rfl #[.slice A1 l1.length c1, .slice A2 l2.length c2, .int .i64 1] rfl (by (try simp only [yiy, yjy, yky]); first | done | rfl | (simp only [yly, ymy]; rfl)) ?_; (with_reducible refine (zx.calls k _ _ l1 _ _ l2 1 t104 _ ?side1 ?side2 ?side3 ?side4 A8.out).mono ?_); (case side1 => repeat (first | exact (Kd.za HR1.out HB.out) | (with_reducible refine Kd.zb ?_ _) | (with_reducible refine Kd.zc ?_ _) | (with_reducible refine Kd.zk ?_))); (case side2 => exact HC1.out); (case side3 => repeat (first | exact (Kd.za HR2.out HB.out) | (with_reducible refine Kd.zb ?_ _) | (with_reducible refine Kd.zc ?_ _) | (with_reducible refine Kd.zk ?_))); (case side4 => exact HC2.out); rintro e w25 ⟨v105, rfl, ho0, hb⟩; refine ⟨_, rfl, ?_⟩; have n0_ := zA.mk (Kd.ZR ho0 (zO (by repeat (first | (with_reducible first | exact HB.out | apply zC | apply zB | apply zD | refine zF ?_ GE101.out) | exact HB.out)))); have n1_ := zA.mk (zP (g := gb101) (o := .cells #[.slice A0_0 l0_0.length c0_0] 30 (0, 0)) (by (with_reducible repeat (first | refine zI ?_ _ | refine zJ ?_ | refine zH ?_ _)); exact BK101.out) hb); have n2_ := zA.mk (zN (by repeat (first | (with_reducible first | exact HB.out | apply zC | apply zB | apply zD | refine zF ?_ GE101.out) | exact HB.out)) hb); clear BK101; clear HB; have HO106 := n0_; have BK101 := n1_; have HB := n2_; clear n0_ n1_ n2_; (try clear hb); (try clear hb2); (try clear hk); (try clear hi); (try clear ho0); have hcz26_0 : w25.cell? ⟨gb101, 0, none⟩ = some (.slice A0_0 l0_0.length c0_0) := (zL BK101.out 0).trans rfl; have hfz26_0 := zM BK101.out 0; obtain ⟨Ao27, co27, eo27⟩ := Kd.ZZ HO106.out; subst eo27) | ((with_reducible refine zQ (f := 16) rfl ?_); refine zt (some 25) rfl rfl Try.func16 (by kernel_rfl) rfl #[.agg #[.slice A0_0 l0_0.length c0_0], .slice Ao27 t104.length co27] rfl (by (try simp only [yiy, yjy, yky]); first | done | rfl | (simp only [yly, ymy]; rfl)) ?_; (with_reducible refine (zd.calls k _ _ l0_0 _ _ t104 false _ ?side1 ?side2 ?side3 ?side4 A9.out).mono ?_); (case side1 => repeat (first | exact (Kd.za HR0_0.out HB.out) | (with_reducible refine Kd.zb ?_ _) | (with_reducible refine Kd.zc ?_ _) | (with_reducible refine Kd.zk ?_))); (case side2 => exact HC0_0.out); (case side3 => repeat (first | exact (Kd.zw HO106.out).2.2 | (with_reducible refine Kd.zb ?_ _) | (with_reducible refine Kd.zc ?_ _) | (with_reducible refine Kd.zk ?_))); (case side4 => exact (Kd.zw HO106.out).2.1); rintro e w28 ⟨rfl, hb⟩; refine ⟨_, rfl, ?_⟩; have n0_ := zA.mk (Kd.Zh (by (with_reducible repeat (first | apply Kd.zp | apply Kd.zn | apply Kd.qA)); exact HO106.out) hb); have n1_ := zA.mk (zP (g := gb101) (o := .cells #[.slice A0_0 l0_0.length c0_0] 30 (0, 0)) (by (with_reducible repeat (first | refine zI ?_ _ | refine zJ ?_ | refine zH ?_ _)); exact BK101.out) hb); have n2_ := zA.mk (zN (by repeat (first | (with_reducible first | exact HB.out | apply zC | apply zB | apply zD | refine zF ?_ GE101.out) | exact HB.out)) hb); clear HO106; clear BK101; clear HB; have HO106 := n0_; have BK101 := n1_; have HB := n2_; clear n0_ n1_ n2_; (try clear hb); (try clear hb2); (try clear hk); (try clear hi)))
  go_ret2
  exact ⟨_, by first | rfl | (simp [zR, zS] <;> rfl) | (simp [*, zR, zS] <;> rfl), by first | exact Kd.zA9 _ _ _ _ _ | exact Kd.zCo _ _ _ _ _ | exact Kd.zCp _ _ _ _ _ | exact Kd.zCi _ _ _ _ _ | exact Kd.zCn _ _ _ _ _, by repeat (first | (with_reducible first | exact HB.out | apply zC | apply zB | apply zD | refine zF ?_ GE101.out) | exact HB.out)⟩
end Go.Proofs.Ythjpdljdodalaaa.P
namespace Go.Proofs.Ythjpdljdodalaaa.Lib
open Go.RowKit Go.Proofs.YthjpdljdodalaaaW.PrintWords
set_option linter.unusedVariables false
section
variable {α : Type} {d : Kd α} {e b lo hi lo2 hi2 T : Nat} {w w' W : World} {v : Value} {xs ys : List α}
def ObS (d : Kd α) (e b : Nat) (w : World) (lo hi : Nat) (v : Value) (xs : List α) : Prop := hi ≤ w.heap.size ∧ Kd.S d e w b (fun k => lo ≤ k ∧ k < hi) v xs
def ObR (d : Kd α) (e b : Nat) (w : World) (lo hi : Nat) (v : Value) (xs : List α) : Prop := hi ≤ w.heap.size ∧ Kd.R d e w b (fun k => lo ≤ k ∧ k < hi) v xs
theorem size_set (w : World) (g i : Nat) (u : Value) : w.heap.size ≤ (w.setCell ⟨g, i, none⟩ u).heap.size := ((yry 0 w).setCell (Nat.zero_le _) u).size
theorem ObS.made (ho : Kd.S d e w' W.heap.size (fun _ => True) v xs) (hb : Below W.heap.size W w') (hT : T ≤ W.heap.size) (hB : b ≤ W.heap.size) : ∃ lo hi, (T ≤ lo ∧ lo ≤ hi) ∧ hi ≤ w'.heap.size ∧ ObS d e b w' lo hi v xs :=
  ⟨W.heap.size, w'.heap.size, ⟨hT, hb.size⟩, yqy _, yqy _, Kd.zA1 (Kd.Zl (Kd.zEh ho) (fun k hk => ⟨hk.2.1, hk.2.2.1⟩)) hB⟩
theorem ObR.made (ho : Kd.R d e w' W.heap.size (fun _ => True) v xs) (hb : Below W.heap.size W w') (hT : T ≤ W.heap.size) (hB : b ≤ W.heap.size) : ∃ lo hi, (T ≤ lo ∧ lo ≤ hi) ∧ hi ≤ w'.heap.size ∧ ObR d e b w' lo hi v xs :=
  ⟨W.heap.size, w'.heap.size, ⟨hT, hb.size⟩, yqy _, yqy _, Kd.ZR (Kd.qb (Kd.QX ho) (fun k hk => ⟨hk.2.1, hk.2.2.1⟩)) hB⟩
theorem ObS.below (h : ObS d e b w lo hi v xs) (hb : Below w.heap.size w w') : ObS d e b w' lo hi v xs := ⟨Nat.le_trans h.1 hb.size, Kd.QO h.2 hb⟩
theorem ObR.below (h : ObR d e b w lo hi v xs) (hb : Below w.heap.size w w') : ObR d e b w' lo hi v xs := ⟨Nat.le_trans h.1 hb.size, Kd.Zh h.2 hb⟩
theorem ObS.drew (h : ObS d e b w lo hi v xs) : ObS d e b w.drew lo hi v xs := ⟨h.1, Kd.ql h.2⟩
theorem ObR.drew (h : ObR d e b w lo hi v xs) : ObR d e b w.drew lo hi v xs := ⟨h.1, Kd.qA h.2⟩
theorem ObS.far {g i : Nat} (h : ObS d e b w lo hi v xs) (hg : g < lo ∨ hi ≤ g) (u : Value) : ObS d e b (w.setCell ⟨g, i, none⟩ u) lo hi v xs :=
  ⟨Nat.le_trans h.1 (size_set _ _ _ _), Kd.zB9 h.2 (fun k hk => by show k ≠ g; have := hk.1; have := hk.2; omega) u⟩
theorem ObR.far {g i : Nat} (h : ObR d e b w lo hi v xs) (hg : g < lo ∨ hi ≤ g) (u : Value) : ObR d e b (w.setCell ⟨g, i, none⟩ u) lo hi v xs :=
  ⟨Nat.le_trans h.1 (size_set _ _ _ _), Kd.zCe h.2 (fun k hk => by show k ≠ g; have := hk.1; have := hk.2; omega) u⟩
theorem ObS.kept (h : ObS d e b w lo hi v xs) (hk : Kept w w' (fun k => lo2 ≤ k ∧ k < hi2)) (hd : hi ≤ lo2 ∨ hi2 ≤ lo) : ObS d e b w' lo hi v xs :=
  ⟨Nat.le_trans h.1 hk.1, Kd.S_kept h.2 hk (fun k h1 h2 => by have := h1.1; have := h1.2; have := h2.1; have := h2.2; omega)⟩
theorem ObR.kept (h : ObR d e b w lo hi v xs) (hk : Kept w w' (fun k => lo2 ≤ k ∧ k < hi2)) (hd : hi ≤ lo2 ∨ hi2 ≤ lo) : ObR d e b w' lo hi v xs :=
  ⟨Nat.le_trans h.1 hk.1, Kd.R_kept h.2 hk (fun k h1 h2 => by have := h1.1; have := h1.2; have := h2.1; have := h2.2; omega)⟩
theorem ObS.slice (h : ObS d e b w lo hi v xs) : ∃ A c, v = .slice A xs.length c := Kd.JR h.2
theorem ObR.slice (h : ObR d e b w lo hi v xs) : ∃ A c, v = .slice A xs.length c := Kd.ZZ h.2
theorem ObS.reads {A : Option Addr} {n c : Nat} (h : ObS d e b w lo hi (.slice A n c) xs) : n = xs.length ∧ n ≤ c ∧ d.C w A xs.length xs := Kd.QP h.2
theorem ObR.reads {A : Option Addr} {n c : Nat} (h : ObR d e b w lo hi (.slice A n c) xs) : n = xs.length ∧ n ≤ c ∧ d.C w A xs.length xs := Kd.zw h.2
theorem ObS.room {A : Option Addr} {n c : Nat} (h : ObS d e b w lo hi (.slice A n c) xs) : xs.length ≤ c := by have := h.reads; omega
theorem ObR.room {A : Option Addr} {n c : Nat} (h : ObR d e b w lo hi (.slice A n c) xs) : xs.length ≤ c := by have := h.reads; omega
theorem ObR.marked {ok' : Nat → Prop} (h : ObR d e b w lo hi v xs) (hE : d.E = []) (hy : Kd.R d e w' b ok' v ys) (hs : w.heap.size ≤ w'.heap.size) : ObR d e b w' lo hi v ys :=
  ⟨Nat.le_trans h.1 hs, Kd.zFo hE hy (fun k e => h.2.1 k e)⟩
theorem ObS.marked (h : ObS d e b w lo hi v xs) (hy : Kd.S d e w' b (fun k => lo ≤ k ∧ k < hi) v ys) (hs : w.heap.size ≤ w'.heap.size) : ObS d e b w' lo hi v ys := ⟨Nat.le_trans h.1 hs, hy⟩
theorem ObR.range (h : ObR d e b w lo hi v xs) (hk : Kept w w' (fun k_ => some k_ = v.ownBlock)) : Kept w w' (fun k => lo ≤ k ∧ k < hi) := hk.mono (fun k e => h.2.1 k e.symm)
theorem ObS.row (h : ObS d e b w lo hi v xs) : Kd.S d e w b (fun k => lo ≤ k ∧ k < hi) v xs := h.2
theorem ObR.row (h : ObR d e b w lo hi v xs) : Kd.R d e w b (fun k => lo ≤ k ∧ k < hi) v xs := h.2
theorem Zn {n : Nat} (h : w' = w.drewN n) : Below w.heap.size w w' := h ▸ zB (yry _ _) n
theorem qt (h : T ≤ w.heap.size) (hb : Below w.heap.size w w') : T ≤ w'.heap.size := Nat.le_trans h hb.size
theorem zFY (h : T ≤ w.heap.size) : T ≤ w.drew.heap.size := h
theorem zEq {g i : Nat} {u : Value} (h : T ≤ w.heap.size) : T ≤ (w.setCell ⟨g, i, none⟩ u).heap.size := Nat.le_trans h (size_set _ _ _ _)
end
end Go.Proofs.Ythjpdljdodalaaa.Lib
