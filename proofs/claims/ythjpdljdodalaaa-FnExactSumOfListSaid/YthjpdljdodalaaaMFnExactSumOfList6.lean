/- The statement FnExactSumOfListSaid, proved: part 6 of 7 (texts of this session and of the kit's print, put together and cut to what is used by a program of it). -/
import Derived.Test.YthjpdljdodalaaaMFnExactSumOfList5
namespace Go.Proofs.Ythjpdljdodalaaa.P
open Go.RowKit Go.Proofs.YthjpdljdodalaaaW.PrintWords Go.Proofs.YthjpdljdodalaaaW.PrintLast Go.Proofs.YthjpdljdodalaaaW.PrintMore
attribute [local go_sem] QS QT Qz JA QD QE QU QV
set_option linter.unusedVariables false
set_option linter.unusedSimpArgs false
mutual
def ze.l0 : Nat → List (List Int) → List (List Int) → Int → List (List (zq)) → Option ((List (List Int)))
 | 0, _, _, _, _ => none
 | k + 1, x3, x4, x5, x102000 => if x5 < (x4.length : Int) then (if 0 ≤ x5 then (if 0 < ((zV x4 x5).length : Int) then (if 1 < ((zV x4 x5).length : Int) then (ze.l1 k x3 x4 x5 (rd (zV x4 x5) 0) (rd (zV x4 x5) 1) 0 x102000) else (none)) else (none)) else (none)) else (some x3)
def ze.l1 : Nat → List (List Int) → List (List Int) → Int → Int → Int → Int → List (List (zq)) → Option ((List (List Int)))
 | 0, _, _, _, _, _, _, _ => none
 | k + 1, x3, x4, x5, x6, x7, x8, x102000 => if x8 < 4 then (if x8 = x7 then (ze.l1 k x3 x4 x5 x6 x7 (wrap64 (x8 + 1)) x102000) else ((zt.f x102000).bind fun t112 => (if 0 ≤ (wrap64 (7 * t112)) then (if (wrap64 (7 * t112) : Int).toNat ≤ 35184372088832 then ((some (List.replicate (wrap64 (7 * t112) : Int).toNat 0 : List Int)).bind fun y113 => ((qe.f k x102000 x6 x7 x8).bind fun bt116 => (if 0 ≤ (wrap64 ((wrap64 (7 * x6)) + x8)) then (if (wrap64 ((wrap64 (7 * x6)) + x8)) < (y113.length : Int) then ((some (y113.set ((wrap64 ((wrap64 (7 * x6)) + x8)) : Int).toNat (wrap64 ((rd y113 (wrap64 ((wrap64 (7 * x6)) + x8))) + 1)) : List Int)).bind fun y120 => ((qE.f x7 x8).bind fun t121 => (if 0 ≤ (wrap64 ((wrap64 ((wrap64 (7 * x6)) + 4)) + t121)) then (if (wrap64 ((wrap64 ((wrap64 (7 * x6)) + 4)) + t121)) < (y113.length : Int) then ((some (y120.set ((wrap64 ((wrap64 ((wrap64 (7 * x6)) + 4)) + t121)) : Int).toNat (wrap64 ((rd y120 (wrap64 ((wrap64 ((wrap64 (7 * x6)) + 4)) + t121))) + 1)) : List Int)).bind fun y123 => (if 0 ≤ (wrap64 ((wrap64 (7 * bt116.1)) + bt116.2.2)) then (if (wrap64 ((wrap64 (7 * bt116.1)) + bt116.2.2)) < (y113.length : Int) then ((some (y123.set ((wrap64 ((wrap64 (7 * bt116.1)) + bt116.2.2)) : Int).toNat (wrap64 ((rd y123 (wrap64 ((wrap64 (7 * bt116.1)) + bt116.2.2))) - 1)) : List Int)).bind fun y125 => ((qE.f bt116.2.1 bt116.2.2).bind fun t126 => (if 0 ≤ (wrap64 ((wrap64 ((wrap64 (7 * bt116.1)) + 4)) + t126)) then (if (wrap64 ((wrap64 ((wrap64 (7 * bt116.1)) + 4)) + t126)) < (y113.length : Int) then (if x3.length < 5864062014805 then (ze.l1 k (x3 ++ [(y125.set ((wrap64 ((wrap64 ((wrap64 (7 * bt116.1)) + 4)) + t126)) : Int).toNat (wrap64 ((rd y125 (wrap64 ((wrap64 ((wrap64 (7 * bt116.1)) + 4)) + t126))) - 1)))]) x4 x5 x6 x7 (wrap64 (x8 + 1)) x102000) else (none)) else (none)) else (none)))) else (none)) else (none))) else (none)) else (none)))) else (none)) else (none)))) else (none)) else (none)))) else (ze.l0 k x3 x4 (wrap64 (x5 + 1)) x102000)
end
def ze.f (k : Nat) (l0_0 : List (List (zq))) : Option ((List (List Int))) := (zj.f k l0_0).bind fun t105 => (ze.l0 k (([] : List (List Int))) t105 0 l0_0)
set_option maxHeartbeats 8000000 in
set_option maxRecDepth 100000 in
theorem ze.calls (k : Nat) (A0_0 : Option Addr) (c0_0 : Nat) (l0_0 : List (List (zq))) (r : List (List Int)) (w : World) (hr0_0 : Kd.C (Kd.slice 115 ZB) w A0_0 l0_0.length l0_0) (hc0_0 : l0_0.length ≤ c0_0) (h : ze.f k l0_0 = some r) :
 Calls Try.prog 61 #[.agg #[.slice A0_0 l0_0.length c0_0]] w fun e w' => ∃ v0_ : Value, e = .returned (v0_) ∧ Kd.S (Kd.slice 2 (Kd.int .i64)) 25 w' w.heap.size (fun _ => True) v0_ r ∧ Below w.heap.size w w' := by
 have hu30 := Try.underlying30
 have HR0_0 := zA.mk hr0_0
 have HC0_0 := zA.mk hc0_0
 clear hr0_0 hc0_0
 have HB := zA.mk (yry w.heap.size w)
 have H : ((zj.f k l0_0).bind fun t105 => (ze.l0 k (([] : List (List Int))) t105 0 l0_0)) = some r := h
 clear h
 obtain ⟨y102, hy102⟩ : ∃ y_ : List (List Int), y_ = (([] : List (List Int))) := ⟨_, rfl⟩
 replace H : ((zj.f k l0_0).bind fun t105 => (ze.l0 k y102 t105 0 l0_0)) = some r := by first | (rw [hy102]; with_reducible exact H) | (have H2_ := (yfy _ _).symm.trans H; rw [hy102]; with_reducible exact H2_) | (have H2_ := (yfy _ _).symm.trans H; with_reducible exact H2_) | with_reducible exact H | (rw [hy102]; exact H) | exact H
 have Ny102 := zA.mk hy102
 clear hy102
 replace H := ydy.mp H
 obtain ⟨t105, A20, H⟩ := H
 replace H : (ze.l0 k y102 t105 0 l0_0) = some r := H
 have A2 := zA.mk A20
 clear A20
 have H' := zA.mk H
 clear H
 go_enter Try.func61, Try.ntmps61
 go_wp2_with (first | ((with_reducible refine zm (N := 1) rfl ?_); refine zo ?hg (N := 1) ?hd (cs := #[.slice A0_0 l0_0.length c0_0]) (t := 30) ?hr ?_; (case hd => rfl); (case hg => rfl); (case hr => first | (go_simp; done) | (go_simp; rfl)); intro gb101 hg w3 hbox hb; have n0_ := zA.mk (zN (by repeat (first | (with_reducible first | exact HB.out | apply zC | apply zB | apply zD) | exact HB.out)) hb); have n1_ := zA.mk (hbox); have n2_ := zA.mk ((by rw [hg]; exact (zO (by repeat (first | (with_reducible first | exact HB.out | apply zC | apply zB | apply zD) | exact HB.out))) : w.heap.size ≤ gb101)); have n3_ := zA.mk ((by rw [hg]; exact (zO (by repeat (first | (with_reducible first | exact HB.out | apply zC | apply zB | apply zD) | exact HB.out))) : w.heap.size ≤ gb101)); clear HB; have HB := n0_; have BK101 := n1_; have GW101 := n2_; have GE101 := n3_; clear n0_ n1_ n2_ n3_; clear hb hbox hg) | ((with_reducible refine zm (N := 13) rfl ?_); refine Kd.S_lit (Kd.slice 2 (Kd.int .i64)) _ 25 ?hg (N := 13) ?hd (xs := ([] : List (List Int))) (inner := []) (ok := fun _ => True) (okp := fun _ => True) ?hr ?hp (fun _ hk => hk) trivial (yry _ _) (yqy _) (by simp) ?_; (case hd => rfl); (case hg => rfl); (case hr => first | (go_simp; done) | (go_simp; rfl)); (case hp => exact (QY.none _ _)); intro v103 w4 ho5 hb hg_ hnew_; clear hg_ hnew_; (first | rw [← Ny102.out] at ho5 | (simp only [Int.reduceToNat] at ho5; rw [← Ny102.out] at ho5)); have n0_ := zA.mk (Kd.Jt ho5 (zO (by repeat (first | (with_reducible first | exact HB.out | apply zC | apply zB | apply zD | refine zF ?_ GE101.out) | exact HB.out)))); have n1_ := zA.mk (zP (g := gb101) (o := .cells #[.slice A0_0 l0_0.length c0_0] 30 (0, 0)) (by (with_reducible repeat (first | refine zI ?_ _ | refine zJ ?_ | refine zH ?_ _)); exact BK101.out) hb); have n2_ := zA.mk (zN (by repeat (first | (with_reducible first | exact HB.out | apply zC | apply zB | apply zD | refine zF ?_ GE101.out) | exact HB.out)) hb); clear BK101; clear HB; have HO104 := n0_; have BK101 := n1_; have HB := n2_; clear n0_ n1_ n2_; clear hb ho5; have hcz6_0 : w4.cell? ⟨gb101, 0, none⟩ = some (.slice A0_0 l0_0.length c0_0) := (zK BK101.out 0).trans rfl; have hfz6_0 := zM BK101.out 0) | ((with_reducible refine zT (f := 102) rfl ?_); refine qH (some 15) rfl rfl Try.func102 (by kernel_rfl) rfl #[.agg #[.slice A0_0 l0_0.length c0_0]] rfl (by (try simp only [yiy, yjy, yky]); first | done | rfl | (simp only [yly, ymy]; rfl)) ?_; (with_reducible refine (zj.calls k _ _ l0_0 t105 _ ?side1 ?side2 A2.out).mono ?_); (case side1 => repeat (first | exact (Kd.zl HR0_0.out HB.out) | (with_reducible refine Kd.zh ?_ _) | (with_reducible refine Kd.zi ?_ _) | (with_reducible refine Kd.qA ?_))); (case side2 => exact HC0_0.out); rintro e w7 ⟨v106, rfl, ho0, hb⟩; refine ⟨_, rfl, ?_⟩; have n0_ := zA.mk (Kd.Jb (by (with_reducible repeat (first | apply Kd.qJ | apply Kd.qK | apply Kd.qf)); exact HO104.out) (Kd.S_base ho0) hb); have n1_ := zA.mk (Kd.Jt (Kd.S_new' ho0 (Kd.S_lt (by (with_reducible repeat (first | apply Kd.qJ | apply Kd.qK | apply Kd.qf)); exact HO104.out))) (zO (by repeat (first | (with_reducible first | exact HB.out | apply zC | apply zB | apply zD | refine zF ?_ GE101.out) | exact HB.out)))); have n2_ := zA.mk (zP (g := gb101) (o := .cells #[.slice A0_0 l0_0.length c0_0] 30 (0, 0)) (by (with_reducible repeat (first | refine zI ?_ _ | refine zJ ?_ | refine zH ?_ _)); exact BK101.out) hb); have n3_ := zA.mk (zN (by repeat (first | (with_reducible first | exact HB.out | apply zC | apply zB | apply zD | refine zF ?_ GE101.out) | exact HB.out)) hb); clear HO104; clear BK101; clear HB; have HO104 := n0_; have HO107 := n1_; have BK101 := n2_; have HB := n3_; clear n0_ n1_ n2_ n3_; (try clear hb); (try clear hb2); (try clear hk); (try clear hi); (try clear ho0)))
 go_loopg [3, 5] k (fun kq v3 v5 w' => ∃ (x3_1 : List (List Int)) (x5_1 : Int), v5 = .int .i64 x5_1 ∧ zA (ze.l0 kq x3_1 t105 x5_1 l0_0 = some r) ∧ zA (kq ≤ k) ∧ zA (Kd.S (Kd.slice 2 (Kd.int .i64)) 25 w' w.heap.size (fun k_ => some k_ ≠ (v106 : Value).ownBlock) v3 x3_1) ∧ zA (Kd.S (Kd.slice 2 (Kd.int .i64)) 25 w' w.heap.size (fun k_ => some k_ ≠ (v3 : Value).ownBlock) v106 t105) ∧ zA (w'.heap[gb101]? = some (.cells #[(.slice A0_0 l0_0.length c0_0)] 30 (0, 0))) ∧ zA (Below w.heap.size w w'))
 case atStart => exact ⟨(y102), (0), (by first | rfl | (simp; done) | (simp [*]; done)), H', ⟨yqy _⟩, ⟨by (with_reducible repeat (first | apply Kd.qJ | apply Kd.qK | apply Kd.qf)); exact Kd.Zk HO104.out (fun _ hk => hk.2)⟩, ⟨by (with_reducible repeat (first | apply Kd.qJ | apply Kd.qK | apply Kd.qf)); exact Kd.Zk HO107.out (fun _ hk => hk.2)⟩, ⟨by (with_reducible repeat (first | refine zI ?_ _ | refine zJ ?_ | refine zH ?_ _)); exact BK101.out⟩, ⟨by repeat (first | (with_reducible first | exact HB.out | apply zC | apply zB | apply zD | refine zF ?_ GE101.out) | exact HB.out)⟩⟩
 case round =>
  clear H'
  try clear c1
  try clear p2
  try clear c6
  try clear hcz6_0
  try clear hfz6_0
  obtain ⟨x3_1, x5_1, rfl, HA, HK1, HO_3, HO_4, BK101, HB⟩ := hrel
  cases gk with
  | zero => exact absurd HA.out (by simp [ze.l0])
  | succ k1 =>
   have H := HA.out
   clear HA
   simp only [ze.l0] at H
   by_cases c8 : x5_1 < (t105.length : Int)
   rotate_left
   next =>
    rw [if_neg c8] at H
    have c8b0 : decide (x5_1 < (t105.length : Int)) = false := yhy c8
    clear c8
    obtain rfl := yey H
    obtain ⟨Ao55, co55, eo55⟩ := Kd.JO HO_4.out
    subst eo55
    go_wp2
    go_ret
    exact ⟨_, by first | rfl | (simp [zQ, zR] <;> rfl) | (simp [*, zQ, zR] <;> rfl), by (with_reducible repeat (first | apply Kd.qJ | apply Kd.qK | apply Kd.qf)); exact Kd.Zk HO_3.out (fun _ hk => trivial), by repeat (first | (with_reducible first | exact HB.out | apply zC | apply zB | apply zD | refine zF ?_ GE101.out) | exact HB.out)⟩
   rw [if_pos c8] at H
   have c8b0 : decide (x5_1 < (t105.length : Int)) = true := ygy c8
   clear c8
   by_cases c9 : 0 ≤ x5_1
   rotate_left
   next =>
    rw [if_neg c9] at H
    exact absurd H (by simp)
   rw [if_pos c9] at H
   have c9b0 : decide (0 ≤ x5_1) = true := ygy c9
   clear c9
   by_cases c10 : 0 < ((zV t105 x5_1).length : Int)
   rotate_left
   next =>
    rw [if_neg c10] at H
    exact absurd H (by simp)
   rw [if_pos c10] at H
   have c10b0 : decide (0 < ((zV t105 x5_1).length : Int)) = true := ygy c10
   have c10b1 : decide (0 < (zV t105 x5_1).length) = true := ygy (by omega)
   clear c10
   by_cases c11 : 1 < ((zV t105 x5_1).length : Int)
   rotate_left
   next =>
    rw [if_neg c11] at H
    exact absurd H (by simp)
   rw [if_pos c11] at H
   have c11b0 : decide (1 < ((zV t105 x5_1).length : Int)) = true := ygy c11
   have c11b1 : decide (1 < (zV t105 x5_1).length) = true := ygy (by omega)
   clear c11
   have H' := zA.mk H
   clear H
   obtain ⟨Ao12, co12, eo12⟩ := Kd.JO HO_4.out
   subst eo12
   have p108 : 0 ≤ (x5_1 : Int) := of_decide_eq_true (by first | (with_reducible assumption) | assumption)
   have q108 : x5_1 < (t105.length : Int) := of_decide_eq_true (by first | (with_reducible assumption) | assumption)
   obtain ⟨ad108, A108_0, c108_0, e108, hx108_0, hl108_0, hi108_0⟩ := QM (Kd.Zt HO_4.out).2.2 x5_1 p108 q108
   cases e108
   obtain ⟨ce108, hce108, hMe108, hcc108⟩ := Kd.zFk HO_4.out [] x5_1 p108 (by first | exact q108 | exact of_decide_eq_true (by first | (with_reducible assumption) | assumption) | (have e_ := (Kd.Zt HO_4.out).1; omega))
   obtain ⟨ve108_0, rfl, ge108_0⟩ := hMe108
   have hv108_0 := hcc108 0 _ rfl
   rw [Nat.add_zero, show ((Kd.slice 2 (Kd.int .i64))).sz = 1 from rfl, Nat.mul_one] at hv108_0
   replace hv108_0 := yey (hv108_0.symm.trans hx108_0)
   rw [hv108_0] at ge108_0
   have HL108_0 := zA.mk (show Kd.R (Kd.int .i64) 2 _ _ _ _ (zV t105 x5_1) from ge108_0)
   clear hv108_0 ge108_0
   clear hcc108 hce108
   have HR108_0 := zA.mk hi108_0
   have HC108_0 := zA.mk hl108_0
   clear hi108_0 hl108_0
   replace p108 := eq_true p108
   replace q108 := eq_true q108
   have p109 : 0 ≤ (0 : Int) := (by omega)
   have q109 : 0 < ((zV t105 x5_1).length : Int) := of_decide_eq_true (by first | (with_reducible assumption) | assumption)
   obtain ⟨ad109, e109, hx109_0⟩ := Kd.ZD (by repeat (first | (with_reducible exact HR108_0.out) | (with_reducible refine Kd.zh ?_ _) | (with_reducible refine Kd.zi ?_ _) | (with_reducible refine Kd.qA ?_) | exact HR108_0.out)) 0 p109 q109
   cases e109
   have qi109 : (0 < (zV t105 x5_1).length) = True := eq_true (by omega)
   (try rw [show ((0 : Int)).toNat = 0 from rfl] at hx109_0)
   (try rw [Addr.add_zero'] at hx109_0)
   replace p109 := eq_true p109
   replace q109 := eq_true q109
   have p110 : 0 ≤ (x5_1 : Int) := of_decide_eq_true (by first | (with_reducible assumption) | assumption)
   have q110 : x5_1 < (t105.length : Int) := of_decide_eq_true (by first | (with_reducible assumption) | assumption)
   obtain ⟨ad110, A110_0, c110_0, e110, hx110_0, hl110_0, hi110_0⟩ := QM (Kd.Zt HO_4.out).2.2 x5_1 p110 q110
   obtain rfl : ad108 = ad110 := (by injection e110)
   obtain ⟨ce110, hce110, hMe110, hcc110⟩ := Kd.zFk HO_4.out [] x5_1 p110 (by first | exact q110 | exact of_decide_eq_true (by first | (with_reducible assumption) | assumption) | (have e_ := (Kd.Zt HO_4.out).1; omega))
   obtain ⟨ve110_0, rfl, ge110_0⟩ := hMe110
   have hv110_0 := hcc110 0 _ rfl
   rw [Nat.add_zero, show ((Kd.slice 2 (Kd.int .i64))).sz = 1 from rfl, Nat.mul_one] at hv110_0
   replace hv110_0 := yey (hv110_0.symm.trans hx110_0)
   rw [hv110_0] at ge110_0
   have HL110_0 := zA.mk (show Kd.R (Kd.int .i64) 2 _ _ _ _ (zV t105 x5_1) from ge110_0)
   clear hv110_0 ge110_0
   clear hcc110 hce110
   have HR110_0 := zA.mk hi110_0
   have HC110_0 := zA.mk hl110_0
   clear hi110_0 hl110_0
   replace p110 := eq_true p110
   replace q110 := eq_true q110
   have ea_ := yey (hx108_0.symm.trans hx110_0)
   injection ea_ with ea_ en_ ec_
   subst ea_
   subst ec_
   clear en_
   have p111 : 0 ≤ (1 : Int) := (by omega)
   have q111 : 1 < ((zV t105 x5_1).length : Int) := of_decide_eq_true (by first | (with_reducible assumption) | assumption)
   obtain ⟨ad111, e111, hx111_0⟩ := Kd.ZD (by repeat (first | (with_reducible exact HR110_0.out) | (with_reducible refine Kd.zh ?_ _) | (with_reducible refine Kd.zi ?_ _) | (with_reducible refine Kd.qA ?_) | exact HR110_0.out)) 1 p111 q111
   cases e111
   (try simp only [show (1 : Int).toNat = 1 from rfl, Nat.reduceMul, Nat.reduceEqDiff, Go.Addr.add, ↓reduceIte] at hx111_0)
   have qi111 : (1 < (zV t105 x5_1).length) = True := eq_true (by omega)
   (try rw [show ((1 : Int)).toNat = 1 from rfl] at hx111_0)
   replace p111 := eq_true p111
   replace q111 := eq_true q111
   go_wp2
   go_loopg [3, 8] k1 (fun kq v3 v8 w' => ∃ (x3_2 : List (List Int)) (x8_2 : Int), v8 = .int .i64 x8_2 ∧ zA (ze.l1 kq x3_2 t105 x5_1 (rd (zV t105 x5_1) 0) (rd (zV t105 x5_1) 1) x8_2 l0_0 = some r) ∧ zA (kq ≤ k1) ∧ zA (Kd.S (Kd.slice 2 (Kd.int .i64)) 25 w' w.heap.size (fun k_ => some k_ ≠ ((.slice (some ad108) t105.length co12) : Value).ownBlock) v3 x3_2) ∧ zA (Kd.S (Kd.slice 2 (Kd.int .i64)) 25 w' w.heap.size (fun k_ => some k_ ≠ (v3 : Value).ownBlock) (.slice (some ad108) t105.length co12) t105) ∧ zA (w'.heap[gb101]? = some (.cells #[(.slice A0_0 l0_0.length c0_0)] 30 (0, 0))) ∧ zA (Below w.heap.size w w'))
   case atStart => exact ⟨(x3_1), (0), (by first | rfl | (simp; done) | (simp [*]; done)), H', ⟨yqy _⟩, ⟨by (with_reducible repeat (first | apply Kd.qJ | apply Kd.qK | apply Kd.qf)); exact HO_3.out⟩, ⟨by (with_reducible repeat (first | apply Kd.qJ | apply Kd.qK | apply Kd.qf)); exact HO_4.out⟩, ⟨by (with_reducible repeat (first | refine zI ?_ _ | refine zJ ?_ | refine zH ?_ _)); exact BK101.out⟩, ⟨by repeat (first | (with_reducible first | exact HB.out | apply zC | apply zB | apply zD | refine zF ?_ GE101.out) | exact HB.out)⟩⟩
   case round =>
    clear H'
    try clear c1
    try clear p1
    try clear q1
    try clear hx1
    try clear qi1
    try clear p2
    try clear c6
    try clear c8
    try clear c8b0
    try clear c9
    try clear c9b0
    try clear c10
    try clear c10b0
    try clear c10b1
    try clear p10
    try clear q10
    try clear hx10
    try clear qi10
    try clear c11
    try clear c11b0
    try clear c11b1
    try clear p11
    try clear q11
    try clear hx11
    try clear qi11
    try clear hcz6_0
    try clear hfz6_0
    try clear hx108_0
    try clear hx109_0
    try clear hx110_0
    try clear hx111_0
    try clear p108
    try clear p109
    try clear p110
    try clear p111
    try clear p2
    try clear q108
    try clear q109
    try clear q110
    try clear q111
    obtain ⟨x3_2, x8_2, rfl, HA, HK2, HO_3, HO_4, BK101, HB⟩ := hrel
    cases gk with
    | zero => exact absurd HA.out (by simp [ze.l1])
    | succ k2 =>
     have H := HA.out
     clear HA
     simp only [ze.l1] at H
     by_cases c13 : x8_2 < 4
     rotate_left
     next =>
      rw [if_neg c13] at H
      have c13b0 : decide (x8_2 < 4) = false := yhy c13
      clear c13
      have H' := zA.mk H
      clear H
      go_wp2
      go_roundg k2
      case measure => have := HK1.out; have := HK2.out; omega
      case rel => exact ⟨(x3_2), (wrap64 (x5_1 + 1)), (by first | rfl | (simp; done) | (simp [*]; done)), H', ⟨by have := HK1.out; have := HK2.out; omega⟩, ⟨by (with_reducible repeat (first | apply Kd.qJ | apply Kd.qK | apply Kd.qf)); exact HO_3.out⟩, ⟨by (with_reducible repeat (first | apply Kd.qJ | apply Kd.qK | apply Kd.qf)); exact HO_4.out⟩, ⟨by (with_reducible repeat (first | refine zI ?_ _ | refine zJ ?_ | refine zH ?_ _)); exact BK101.out⟩, ⟨by repeat (first | (with_reducible first | exact HB.out | apply zC | apply zB | apply zD | refine zF ?_ GE101.out) | exact HB.out)⟩⟩
     rw [if_pos c13] at H
     have c13b0 : decide (x8_2 < 4) = true := ygy c13
     clear c13
     by_cases c14 : x8_2 = (rd (zV t105 x5_1) 1)
     next =>
      rw [if_pos c14] at H
      have c14b0 : (x8_2 == (rd (zV t105 x5_1) 1)) = true := beq_iff_eq.mpr c14
      have c14b1 : (x8_2 != (rd (zV t105 x5_1) 1)) = false := bne_eq_false_iff_eq.mpr c14
      clear c14
      have H' := zA.mk H
      clear H
      go_wp2
      go_roundg k2
      case measure => have := HK1.out; have := HK2.out; omega
      case rel => exact ⟨(x3_2), (wrap64 (x8_2 + 1)), (by first | rfl | (simp; done) | (simp [*]; done)), H', ⟨by have := HK1.out; have := HK2.out; omega⟩, ⟨by (with_reducible repeat (first | apply Kd.qJ | apply Kd.qK | apply Kd.qf)); exact HO_3.out⟩, ⟨by (with_reducible repeat (first | apply Kd.qJ | apply Kd.qK | apply Kd.qf)); exact HO_4.out⟩, ⟨by (with_reducible repeat (first | refine zI ?_ _ | refine zJ ?_ | refine zH ?_ _)); exact BK101.out⟩, ⟨by repeat (first | (with_reducible first | exact HB.out | apply zC | apply zB | apply zD | refine zF ?_ GE101.out) | exact HB.out)⟩⟩
     next =>
      rw [if_neg c14] at H
      have c14b0 : (x8_2 == (rd (zV t105 x5_1) 1)) = false := beq_eq_false_iff_ne.mpr c14
      have c14b1 : (x8_2 != (rd (zV t105 x5_1) 1)) = true := bne_iff_ne.mpr c14
      replace H := ydy.mp H
      obtain ⟨t112, A150, H⟩ := H
      replace H : (if 0 ≤ (wrap64 (7 * t112)) then (if (wrap64 (7 * t112) : Int).toNat ≤ 35184372088832 then ((some (List.replicate (wrap64 (7 * t112) : Int).toNat 0 : List Int)).bind fun y113 => ((qe.f k2 l0_0 (rd (zV t105 x5_1) 0) (rd (zV t105 x5_1) 1) x8_2).bind fun bt116 => (if 0 ≤ (wrap64 ((wrap64 (7 * (rd (zV t105 x5_1) 0))) + x8_2)) then (if (wrap64 ((wrap64 (7 * (rd (zV t105 x5_1) 0))) + x8_2)) < (y113.length : Int) then ((some (y113.set ((wrap64 ((wrap64 (7 * (rd (zV t105 x5_1) 0))) + x8_2)) : Int).toNat (wrap64 ((rd y113 (wrap64 ((wrap64 (7 * (rd (zV t105 x5_1) 0))) + x8_2))) + 1)) : List Int)).bind fun y120 => ((qE.f (rd (zV t105 x5_1) 1) x8_2).bind fun t121 => (if 0 ≤ (wrap64 ((wrap64 ((wrap64 (7 * (rd (zV t105 x5_1) 0))) + 4)) + t121)) then (if (wrap64 ((wrap64 ((wrap64 (7 * (rd (zV t105 x5_1) 0))) + 4)) + t121)) < (y113.length : Int) then ((some (y120.set ((wrap64 ((wrap64 ((wrap64 (7 * (rd (zV t105 x5_1) 0))) + 4)) + t121)) : Int).toNat (wrap64 ((rd y120 (wrap64 ((wrap64 ((wrap64 (7 * (rd (zV t105 x5_1) 0))) + 4)) + t121))) + 1)) : List Int)).bind fun y123 => (if 0 ≤ (wrap64 ((wrap64 (7 * bt116.1)) + bt116.2.2)) then (if (wrap64 ((wrap64 (7 * bt116.1)) + bt116.2.2)) < (y113.length : Int) then ((some (y123.set ((wrap64 ((wrap64 (7 * bt116.1)) + bt116.2.2)) : Int).toNat (wrap64 ((rd y123 (wrap64 ((wrap64 (7 * bt116.1)) + bt116.2.2))) - 1)) : List Int)).bind fun y125 => ((qE.f bt116.2.1 bt116.2.2).bind fun t126 => (if 0 ≤ (wrap64 ((wrap64 ((wrap64 (7 * bt116.1)) + 4)) + t126)) then (if (wrap64 ((wrap64 ((wrap64 (7 * bt116.1)) + 4)) + t126)) < (y113.length : Int) then (if x3_2.length < 5864062014805 then (ze.l1 k2 (x3_2 ++ [(y125.set ((wrap64 ((wrap64 ((wrap64 (7 * bt116.1)) + 4)) + t126)) : Int).toNat (wrap64 ((rd y125 (wrap64 ((wrap64 ((wrap64 (7 * bt116.1)) + 4)) + t126))) - 1)))]) t105 x5_1 (rd (zV t105 x5_1) 0) (rd (zV t105 x5_1) 1) (wrap64 (x8_2 + 1)) l0_0) else (none)) else (none)) else (none)))) else (none)) else (none))) else (none)) else (none)))) else (none)) else (none)))) else (none)) else (none)) = some r := H
      have A15 := zA.mk A150
      clear A150
      obtain ⟨ji16, hji16⟩ : ∃ j_ : Int, (wrap64 (7 * t112)) = j_ := ⟨_, rfl⟩
      replace H : (if 0 ≤ (ji16) then (if (ji16 : Int).toNat ≤ 35184372088832 then ((some (List.replicate (ji16 : Int).toNat 0 : List Int)).bind fun y113 => ((qe.f k2 l0_0 (rd (zV t105 x5_1) 0) (rd (zV t105 x5_1) 1) x8_2).bind fun bt116 => (if 0 ≤ (wrap64 ((wrap64 (7 * (rd (zV t105 x5_1) 0))) + x8_2)) then (if (wrap64 ((wrap64 (7 * (rd (zV t105 x5_1) 0))) + x8_2)) < (y113.length : Int) then ((some (y113.set ((wrap64 ((wrap64 (7 * (rd (zV t105 x5_1) 0))) + x8_2)) : Int).toNat (wrap64 ((rd y113 (wrap64 ((wrap64 (7 * (rd (zV t105 x5_1) 0))) + x8_2))) + 1)) : List Int)).bind fun y120 => ((qE.f (rd (zV t105 x5_1) 1) x8_2).bind fun t121 => (if 0 ≤ (wrap64 ((wrap64 ((wrap64 (7 * (rd (zV t105 x5_1) 0))) + 4)) + t121)) then (if (wrap64 ((wrap64 ((wrap64 (7 * (rd (zV t105 x5_1) 0))) + 4)) + t121)) < (y113.length : Int) then ((some (y120.set ((wrap64 ((wrap64 ((wrap64 (7 * (rd (zV t105 x5_1) 0))) + 4)) + t121)) : Int).toNat (wrap64 ((rd y120 (wrap64 ((wrap64 ((wrap64 (7 * (rd (zV t105 x5_1) 0))) + 4)) + t121))) + 1)) : List Int)).bind fun y123 => (if 0 ≤ (wrap64 ((wrap64 (7 * bt116.1)) + bt116.2.2)) then (if (wrap64 ((wrap64 (7 * bt116.1)) + bt116.2.2)) < (y113.length : Int) then ((some (y123.set ((wrap64 ((wrap64 (7 * bt116.1)) + bt116.2.2)) : Int).toNat (wrap64 ((rd y123 (wrap64 ((wrap64 (7 * bt116.1)) + bt116.2.2))) - 1)) : List Int)).bind fun y125 => ((qE.f bt116.2.1 bt116.2.2).bind fun t126 => (if 0 ≤ (wrap64 ((wrap64 ((wrap64 (7 * bt116.1)) + 4)) + t126)) then (if (wrap64 ((wrap64 ((wrap64 (7 * bt116.1)) + 4)) + t126)) < (y113.length : Int) then (if x3_2.length < 5864062014805 then (ze.l1 k2 (x3_2 ++ [(y125.set ((wrap64 ((wrap64 ((wrap64 (7 * bt116.1)) + 4)) + t126)) : Int).toNat (wrap64 ((rd y125 (wrap64 ((wrap64 ((wrap64 (7 * bt116.1)) + 4)) + t126))) - 1)))]) t105 x5_1 (rd (zV t105 x5_1) 0) (rd (zV t105 x5_1) 1) (wrap64 (x8_2 + 1)) l0_0) else (none)) else (none)) else (none)))) else (none)) else (none))) else (none)) else (none)))) else (none)) else (none)))) else (none)) else (none)) = some r := by first | (rw [hji16] at H; exact H) | (simp only [hji16] at H ⊢; exact H)
      (try rw [hji16] at A15)
      have hji16w : (IntKind.i64.wrap (7 * t112)) = ji16 := (zY _).trans hji16
      by_cases c17 : 0 ≤ (ji16)
      rotate_left
      next =>
       rw [if_neg c17] at H
       exact absurd H (by simp)
      rw [if_pos c17] at H
      have c17b0 := eq_true c17
      have c17b1 : decide (0 ≤ (ji16)) = true := ygy c17
      clear c17
      by_cases c18 : (ji16 : Int).toNat ≤ 35184372088832
      rotate_left
      next =>
       rw [if_neg c18] at H
       exact absurd H (by simp)
      rw [if_pos c18] at H
      have c18b0 := eq_true c18
      have c18b1 : decide ((ji16 : Int).toNat ≤ 35184372088832) = true := ygy c18
      clear c18
      obtain ⟨y113, hy113⟩ : ∃ y_ : List Int, y_ = (List.replicate (ji16 : Int).toNat 0) := ⟨_, rfl⟩
      replace H : ((qe.f k2 l0_0 (rd (zV t105 x5_1) 0) (rd (zV t105 x5_1) 1) x8_2).bind fun bt116 => (if 0 ≤ (wrap64 ((wrap64 (7 * (rd (zV t105 x5_1) 0))) + x8_2)) then (if (wrap64 ((wrap64 (7 * (rd (zV t105 x5_1) 0))) + x8_2)) < (y113.length : Int) then ((some (y113.set ((wrap64 ((wrap64 (7 * (rd (zV t105 x5_1) 0))) + x8_2)) : Int).toNat (wrap64 ((rd y113 (wrap64 ((wrap64 (7 * (rd (zV t105 x5_1) 0))) + x8_2))) + 1)) : List Int)).bind fun y120 => ((qE.f (rd (zV t105 x5_1) 1) x8_2).bind fun t121 => (if 0 ≤ (wrap64 ((wrap64 ((wrap64 (7 * (rd (zV t105 x5_1) 0))) + 4)) + t121)) then (if (wrap64 ((wrap64 ((wrap64 (7 * (rd (zV t105 x5_1) 0))) + 4)) + t121)) < (y113.length : Int) then ((some (y120.set ((wrap64 ((wrap64 ((wrap64 (7 * (rd (zV t105 x5_1) 0))) + 4)) + t121)) : Int).toNat (wrap64 ((rd y120 (wrap64 ((wrap64 ((wrap64 (7 * (rd (zV t105 x5_1) 0))) + 4)) + t121))) + 1)) : List Int)).bind fun y123 => (if 0 ≤ (wrap64 ((wrap64 (7 * bt116.1)) + bt116.2.2)) then (if (wrap64 ((wrap64 (7 * bt116.1)) + bt116.2.2)) < (y113.length : Int) then ((some (y123.set ((wrap64 ((wrap64 (7 * bt116.1)) + bt116.2.2)) : Int).toNat (wrap64 ((rd y123 (wrap64 ((wrap64 (7 * bt116.1)) + bt116.2.2))) - 1)) : List Int)).bind fun y125 => ((qE.f bt116.2.1 bt116.2.2).bind fun t126 => (if 0 ≤ (wrap64 ((wrap64 ((wrap64 (7 * bt116.1)) + 4)) + t126)) then (if (wrap64 ((wrap64 ((wrap64 (7 * bt116.1)) + 4)) + t126)) < (y113.length : Int) then (if x3_2.length < 5864062014805 then (ze.l1 k2 (x3_2 ++ [(y125.set ((wrap64 ((wrap64 ((wrap64 (7 * bt116.1)) + 4)) + t126)) : Int).toNat (wrap64 ((rd y125 (wrap64 ((wrap64 ((wrap64 (7 * bt116.1)) + 4)) + t126))) - 1)))]) t105 x5_1 (rd (zV t105 x5_1) 0) (rd (zV t105 x5_1) 1) (wrap64 (x8_2 + 1)) l0_0) else (none)) else (none)) else (none)))) else (none)) else (none))) else (none)) else (none)))) else (none)) else (none))) = some r := by first | (rw [hy113]; with_reducible exact H) | (have H2_ := (yfy _ _).symm.trans H; rw [hy113]; with_reducible exact H2_) | (have H2_ := (yfy _ _).symm.trans H; with_reducible exact H2_) | with_reducible exact H | (rw [hy113]; exact H) | exact H
      have Ny113 := zA.mk hy113
      clear hy113
      replace H := ydy.mp H
      obtain ⟨⟨t116, t117, t118⟩, A190, H⟩ := H
      replace H : (if 0 ≤ (wrap64 ((wrap64 (7 * (rd (zV t105 x5_1) 0))) + x8_2)) then (if (wrap64 ((wrap64 (7 * (rd (zV t105 x5_1) 0))) + x8_2)) < (y113.length : Int) then ((some (y113.set ((wrap64 ((wrap64 (7 * (rd (zV t105 x5_1) 0))) + x8_2)) : Int).toNat (wrap64 ((rd y113 (wrap64 ((wrap64 (7 * (rd (zV t105 x5_1) 0))) + x8_2))) + 1)) : List Int)).bind fun y120 => ((qE.f (rd (zV t105 x5_1) 1) x8_2).bind fun t121 => (if 0 ≤ (wrap64 ((wrap64 ((wrap64 (7 * (rd (zV t105 x5_1) 0))) + 4)) + t121)) then (if (wrap64 ((wrap64 ((wrap64 (7 * (rd (zV t105 x5_1) 0))) + 4)) + t121)) < (y113.length : Int) then ((some (y120.set ((wrap64 ((wrap64 ((wrap64 (7 * (rd (zV t105 x5_1) 0))) + 4)) + t121)) : Int).toNat (wrap64 ((rd y120 (wrap64 ((wrap64 ((wrap64 (7 * (rd (zV t105 x5_1) 0))) + 4)) + t121))) + 1)) : List Int)).bind fun y123 => (if 0 ≤ (wrap64 ((wrap64 (7 * t116)) + t118)) then (if (wrap64 ((wrap64 (7 * t116)) + t118)) < (y113.length : Int) then ((some (y123.set ((wrap64 ((wrap64 (7 * t116)) + t118)) : Int).toNat (wrap64 ((rd y123 (wrap64 ((wrap64 (7 * t116)) + t118))) - 1)) : List Int)).bind fun y125 => ((qE.f t117 t118).bind fun t126 => (if 0 ≤ (wrap64 ((wrap64 ((wrap64 (7 * t116)) + 4)) + t126)) then (if (wrap64 ((wrap64 ((wrap64 (7 * t116)) + 4)) + t126)) < (y113.length : Int) then (if x3_2.length < 5864062014805 then (ze.l1 k2 (x3_2 ++ [(y125.set ((wrap64 ((wrap64 ((wrap64 (7 * t116)) + 4)) + t126)) : Int).toNat (wrap64 ((rd y125 (wrap64 ((wrap64 ((wrap64 (7 * t116)) + 4)) + t126))) - 1)))]) t105 x5_1 (rd (zV t105 x5_1) 0) (rd (zV t105 x5_1) 1) (wrap64 (x8_2 + 1)) l0_0) else (none)) else (none)) else (none)))) else (none)) else (none))) else (none)) else (none)))) else (none)) else (none)) = some r := H
      have A19 := zA.mk A190
      clear A190
      obtain ⟨ji20, hji20⟩ : ∃ j_ : Int, (wrap64 ((wrap64 (7 * (rd (zV t105 x5_1) 0))) + x8_2)) = j_ := ⟨_, rfl⟩
      replace H : (if 0 ≤ (ji20) then (if (ji20) < (y113.length : Int) then ((some (y113.set ((ji20) : Int).toNat (wrap64 ((rd y113 (ji20)) + 1)) : List Int)).bind fun y120 => ((qE.f (rd (zV t105 x5_1) 1) x8_2).bind fun t121 => (if 0 ≤ (wrap64 ((wrap64 ((wrap64 (7 * (rd (zV t105 x5_1) 0))) + 4)) + t121)) then (if (wrap64 ((wrap64 ((wrap64 (7 * (rd (zV t105 x5_1) 0))) + 4)) + t121)) < (y113.length : Int) then ((some (y120.set ((wrap64 ((wrap64 ((wrap64 (7 * (rd (zV t105 x5_1) 0))) + 4)) + t121)) : Int).toNat (wrap64 ((rd y120 (wrap64 ((wrap64 ((wrap64 (7 * (rd (zV t105 x5_1) 0))) + 4)) + t121))) + 1)) : List Int)).bind fun y123 => (if 0 ≤ (wrap64 ((wrap64 (7 * t116)) + t118)) then (if (wrap64 ((wrap64 (7 * t116)) + t118)) < (y113.length : Int) then ((some (y123.set ((wrap64 ((wrap64 (7 * t116)) + t118)) : Int).toNat (wrap64 ((rd y123 (wrap64 ((wrap64 (7 * t116)) + t118))) - 1)) : List Int)).bind fun y125 => ((qE.f t117 t118).bind fun t126 => (if 0 ≤ (wrap64 ((wrap64 ((wrap64 (7 * t116)) + 4)) + t126)) then (if (wrap64 ((wrap64 ((wrap64 (7 * t116)) + 4)) + t126)) < (y113.length : Int) then (if x3_2.length < 5864062014805 then (ze.l1 k2 (x3_2 ++ [(y125.set ((wrap64 ((wrap64 ((wrap64 (7 * t116)) + 4)) + t126)) : Int).toNat (wrap64 ((rd y125 (wrap64 ((wrap64 ((wrap64 (7 * t116)) + 4)) + t126))) - 1)))]) t105 x5_1 (rd (zV t105 x5_1) 0) (rd (zV t105 x5_1) 1) (wrap64 (x8_2 + 1)) l0_0) else (none)) else (none)) else (none)))) else (none)) else (none))) else (none)) else (none)))) else (none)) else (none)) = some r := by first | (rw [hji20] at H; exact H) | (simp only [hji20] at H ⊢; exact H)
      (try rw [hji20] at A15)
      (try rw [hji20] at A19)
      have hji20w : (IntKind.i64.wrap ((wrap64 (7 * (rd (zV t105 x5_1) 0))) + x8_2)) = ji20 := (zY _).trans hji20
      by_cases c21 : 0 ≤ (ji20)
      rotate_left
      next =>
       rw [if_neg c21] at H
       exact absurd H (by simp)
      rw [if_pos c21] at H
      have c21b0 : decide (0 ≤ (ji20)) = true := ygy c21
      clear c21
      by_cases c22 : (ji20) < (y113.length : Int)
      rotate_left
      next =>
       rw [if_neg c22] at H
       exact absurd H (by simp)
      rw [if_pos c22] at H
      have c22b0 : decide ((ji20) < (y113.length : Int)) = true := ygy c22
      clear c22
      obtain ⟨y120, hy120⟩ : ∃ y_ : List Int, y_ = (y113.set ((ji20) : Int).toNat (wrap64 ((rd y113 (ji20)) + 1))) := ⟨_, rfl⟩
      replace H : ((qE.f (rd (zV t105 x5_1) 1) x8_2).bind fun t121 => (if 0 ≤ (wrap64 ((wrap64 ((wrap64 (7 * (rd (zV t105 x5_1) 0))) + 4)) + t121)) then (if (wrap64 ((wrap64 ((wrap64 (7 * (rd (zV t105 x5_1) 0))) + 4)) + t121)) < (y113.length : Int) then ((some (y120.set ((wrap64 ((wrap64 ((wrap64 (7 * (rd (zV t105 x5_1) 0))) + 4)) + t121)) : Int).toNat (wrap64 ((rd y120 (wrap64 ((wrap64 ((wrap64 (7 * (rd (zV t105 x5_1) 0))) + 4)) + t121))) + 1)) : List Int)).bind fun y123 => (if 0 ≤ (wrap64 ((wrap64 (7 * t116)) + t118)) then (if (wrap64 ((wrap64 (7 * t116)) + t118)) < (y113.length : Int) then ((some (y123.set ((wrap64 ((wrap64 (7 * t116)) + t118)) : Int).toNat (wrap64 ((rd y123 (wrap64 ((wrap64 (7 * t116)) + t118))) - 1)) : List Int)).bind fun y125 => ((qE.f t117 t118).bind fun t126 => (if 0 ≤ (wrap64 ((wrap64 ((wrap64 (7 * t116)) + 4)) + t126)) then (if (wrap64 ((wrap64 ((wrap64 (7 * t116)) + 4)) + t126)) < (y113.length : Int) then (if x3_2.length < 5864062014805 then (ze.l1 k2 (x3_2 ++ [(y125.set ((wrap64 ((wrap64 ((wrap64 (7 * t116)) + 4)) + t126)) : Int).toNat (wrap64 ((rd y125 (wrap64 ((wrap64 ((wrap64 (7 * t116)) + 4)) + t126))) - 1)))]) t105 x5_1 (rd (zV t105 x5_1) 0) (rd (zV t105 x5_1) 1) (wrap64 (x8_2 + 1)) l0_0) else (none)) else (none)) else (none)))) else (none)) else (none))) else (none)) else (none))) = some r := by first | (rw [hy120]; with_reducible exact H) | (have H2_ := (yfy _ _).symm.trans H; rw [hy120]; with_reducible exact H2_) | (have H2_ := (yfy _ _).symm.trans H; with_reducible exact H2_) | with_reducible exact H | (rw [hy120]; exact H) | exact H
      have Ny120 := zA.mk hy120
      clear hy120
      replace H := ydy.mp H
      obtain ⟨t121, A240, H⟩ := H
      replace H : (if 0 ≤ (wrap64 ((wrap64 ((wrap64 (7 * (rd (zV t105 x5_1) 0))) + 4)) + t121)) then (if (wrap64 ((wrap64 ((wrap64 (7 * (rd (zV t105 x5_1) 0))) + 4)) + t121)) < (y113.length : Int) then ((some (y120.set ((wrap64 ((wrap64 ((wrap64 (7 * (rd (zV t105 x5_1) 0))) + 4)) + t121)) : Int).toNat (wrap64 ((rd y120 (wrap64 ((wrap64 ((wrap64 (7 * (rd (zV t105 x5_1) 0))) + 4)) + t121))) + 1)) : List Int)).bind fun y123 => (if 0 ≤ (wrap64 ((wrap64 (7 * t116)) + t118)) then (if (wrap64 ((wrap64 (7 * t116)) + t118)) < (y113.length : Int) then ((some (y123.set ((wrap64 ((wrap64 (7 * t116)) + t118)) : Int).toNat (wrap64 ((rd y123 (wrap64 ((wrap64 (7 * t116)) + t118))) - 1)) : List Int)).bind fun y125 => ((qE.f t117 t118).bind fun t126 => (if 0 ≤ (wrap64 ((wrap64 ((wrap64 (7 * t116)) + 4)) + t126)) then (if (wrap64 ((wrap64 ((wrap64 (7 * t116)) + 4)) + t126)) < (y113.length : Int) then (if x3_2.length < 5864062014805 then (ze.l1 k2 (x3_2 ++ [(y125.set ((wrap64 ((wrap64 ((wrap64 (7 * t116)) + 4)) + t126)) : Int).toNat (wrap64 ((rd y125 (wrap64 ((wrap64 ((wrap64 (7 * t116)) + 4)) + t126))) - 1)))]) t105 x5_1 (rd (zV t105 x5_1) 0) (rd (zV t105 x5_1) 1) (wrap64 (x8_2 + 1)) l0_0) else (none)) else (none)) else (none)))) else (none)) else (none))) else (none)) else (none)) = some r := H
      have A24 := zA.mk A240
      clear A240
      obtain ⟨ji25, hji25⟩ : ∃ j_ : Int, (wrap64 ((wrap64 ((wrap64 (7 * (rd (zV t105 x5_1) 0))) + 4)) + t121)) = j_ := ⟨_, rfl⟩
      replace H : (if 0 ≤ (ji25) then (if (ji25) < (y113.length : Int) then ((some (y120.set ((ji25) : Int).toNat (wrap64 ((rd y120 (ji25)) + 1)) : List Int)).bind fun y123 => (if 0 ≤ (wrap64 ((wrap64 (7 * t116)) + t118)) then (if (wrap64 ((wrap64 (7 * t116)) + t118)) < (y113.length : Int) then ((some (y123.set ((wrap64 ((wrap64 (7 * t116)) + t118)) : Int).toNat (wrap64 ((rd y123 (wrap64 ((wrap64 (7 * t116)) + t118))) - 1)) : List Int)).bind fun y125 => ((qE.f t117 t118).bind fun t126 => (if 0 ≤ (wrap64 ((wrap64 ((wrap64 (7 * t116)) + 4)) + t126)) then (if (wrap64 ((wrap64 ((wrap64 (7 * t116)) + 4)) + t126)) < (y113.length : Int) then (if x3_2.length < 5864062014805 then (ze.l1 k2 (x3_2 ++ [(y125.set ((wrap64 ((wrap64 ((wrap64 (7 * t116)) + 4)) + t126)) : Int).toNat (wrap64 ((rd y125 (wrap64 ((wrap64 ((wrap64 (7 * t116)) + 4)) + t126))) - 1)))]) t105 x5_1 (rd (zV t105 x5_1) 0) (rd (zV t105 x5_1) 1) (wrap64 (x8_2 + 1)) l0_0) else (none)) else (none)) else (none)))) else (none)) else (none))) else (none)) else (none)) = some r := by first | (rw [hji25] at H; exact H) | (simp only [hji25] at H ⊢; exact H)
      (try rw [hji25] at A15)
      (try rw [hji25] at A19)
      (try rw [hji25] at A24)
      have hji25w : (IntKind.i64.wrap ((wrap64 ((wrap64 (7 * (rd (zV t105 x5_1) 0))) + 4)) + t121)) = ji25 := (zY _).trans hji25
      by_cases c26 : 0 ≤ (ji25)
      rotate_left
      next =>
       rw [if_neg c26] at H
       exact absurd H (by simp)
      rw [if_pos c26] at H
      have c26b0 : decide (0 ≤ (ji25)) = true := ygy c26
      clear c26
      by_cases c27 : (ji25) < (y113.length : Int)
      rotate_left
      next =>
       rw [if_neg c27] at H
       exact absurd H (by simp)
      rw [if_pos c27] at H
      have c27b0 : decide ((ji25) < (y113.length : Int)) = true := ygy c27
      clear c27
      obtain ⟨y123, hy123⟩ : ∃ y_ : List Int, y_ = (y120.set ((ji25) : Int).toNat (wrap64 ((rd y120 (ji25)) + 1))) := ⟨_, rfl⟩
      replace H : (if 0 ≤ (wrap64 ((wrap64 (7 * t116)) + t118)) then (if (wrap64 ((wrap64 (7 * t116)) + t118)) < (y113.length : Int) then ((some (y123.set ((wrap64 ((wrap64 (7 * t116)) + t118)) : Int).toNat (wrap64 ((rd y123 (wrap64 ((wrap64 (7 * t116)) + t118))) - 1)) : List Int)).bind fun y125 => ((qE.f t117 t118).bind fun t126 => (if 0 ≤ (wrap64 ((wrap64 ((wrap64 (7 * t116)) + 4)) + t126)) then (if (wrap64 ((wrap64 ((wrap64 (7 * t116)) + 4)) + t126)) < (y113.length : Int) then (if x3_2.length < 5864062014805 then (ze.l1 k2 (x3_2 ++ [(y125.set ((wrap64 ((wrap64 ((wrap64 (7 * t116)) + 4)) + t126)) : Int).toNat (wrap64 ((rd y125 (wrap64 ((wrap64 ((wrap64 (7 * t116)) + 4)) + t126))) - 1)))]) t105 x5_1 (rd (zV t105 x5_1) 0) (rd (zV t105 x5_1) 1) (wrap64 (x8_2 + 1)) l0_0) else (none)) else (none)) else (none)))) else (none)) else (none)) = some r := by first | (rw [hy123]; with_reducible exact H) | (have H2_ := (yfy _ _).symm.trans H; rw [hy123]; with_reducible exact H2_) | (have H2_ := (yfy _ _).symm.trans H; with_reducible exact H2_) | with_reducible exact H | (rw [hy123]; exact H) | exact H
      have Ny123 := zA.mk hy123
      clear hy123
      obtain ⟨ji29, hji29⟩ : ∃ j_ : Int, (wrap64 ((wrap64 (7 * t116)) + t118)) = j_ := ⟨_, rfl⟩
      replace H : (if 0 ≤ (ji29) then (if (ji29) < (y113.length : Int) then ((some (y123.set ((ji29) : Int).toNat (wrap64 ((rd y123 (ji29)) - 1)) : List Int)).bind fun y125 => ((qE.f t117 t118).bind fun t126 => (if 0 ≤ (wrap64 ((wrap64 ((wrap64 (7 * t116)) + 4)) + t126)) then (if (wrap64 ((wrap64 ((wrap64 (7 * t116)) + 4)) + t126)) < (y113.length : Int) then (if x3_2.length < 5864062014805 then (ze.l1 k2 (x3_2 ++ [(y125.set ((wrap64 ((wrap64 ((wrap64 (7 * t116)) + 4)) + t126)) : Int).toNat (wrap64 ((rd y125 (wrap64 ((wrap64 ((wrap64 (7 * t116)) + 4)) + t126))) - 1)))]) t105 x5_1 (rd (zV t105 x5_1) 0) (rd (zV t105 x5_1) 1) (wrap64 (x8_2 + 1)) l0_0) else (none)) else (none)) else (none)))) else (none)) else (none)) = some r := by first | (rw [hji29] at H; exact H) | (simp only [hji29] at H ⊢; exact H)
      (try rw [hji29] at A15)
      (try rw [hji29] at A19)
      (try rw [hji29] at A24)
      have hji29w : (IntKind.i64.wrap ((wrap64 (7 * t116)) + t118)) = ji29 := (zY _).trans hji29
      by_cases c30 : 0 ≤ (ji29)
      rotate_left
      next =>
       rw [if_neg c30] at H
       exact absurd H (by simp)
      rw [if_pos c30] at H
      have c30b0 : decide (0 ≤ (ji29)) = true := ygy c30
      clear c30
      by_cases c31 : (ji29) < (y113.length : Int)
      rotate_left
      next =>
       rw [if_neg c31] at H
       exact absurd H (by simp)
      rw [if_pos c31] at H
      have c31b0 : decide ((ji29) < (y113.length : Int)) = true := ygy c31
      clear c31
      obtain ⟨y125, hy125⟩ : ∃ y_ : List Int, y_ = (y123.set ((ji29) : Int).toNat (wrap64 ((rd y123 (ji29)) - 1))) := ⟨_, rfl⟩
      replace H : ((qE.f t117 t118).bind fun t126 => (if 0 ≤ (wrap64 ((wrap64 ((wrap64 (7 * t116)) + 4)) + t126)) then (if (wrap64 ((wrap64 ((wrap64 (7 * t116)) + 4)) + t126)) < (y113.length : Int) then (if x3_2.length < 5864062014805 then (ze.l1 k2 (x3_2 ++ [(y125.set ((wrap64 ((wrap64 ((wrap64 (7 * t116)) + 4)) + t126)) : Int).toNat (wrap64 ((rd y125 (wrap64 ((wrap64 ((wrap64 (7 * t116)) + 4)) + t126))) - 1)))]) t105 x5_1 (rd (zV t105 x5_1) 0) (rd (zV t105 x5_1) 1) (wrap64 (x8_2 + 1)) l0_0) else (none)) else (none)) else (none))) = some r := by first | (rw [hy125]; with_reducible exact H) | (have H2_ := (yfy _ _).symm.trans H; rw [hy125]; with_reducible exact H2_) | (have H2_ := (yfy _ _).symm.trans H; with_reducible exact H2_) | with_reducible exact H | (rw [hy125]; exact H) | exact H
      have Ny125 := zA.mk hy125
      clear hy125
      replace H := ydy.mp H
      obtain ⟨t126, A330, H⟩ := H
      replace H : (if 0 ≤ (wrap64 ((wrap64 ((wrap64 (7 * t116)) + 4)) + t126)) then (if (wrap64 ((wrap64 ((wrap64 (7 * t116)) + 4)) + t126)) < (y113.length : Int) then (if x3_2.length < 5864062014805 then (ze.l1 k2 (x3_2 ++ [(y125.set ((wrap64 ((wrap64 ((wrap64 (7 * t116)) + 4)) + t126)) : Int).toNat (wrap64 ((rd y125 (wrap64 ((wrap64 ((wrap64 (7 * t116)) + 4)) + t126))) - 1)))]) t105 x5_1 (rd (zV t105 x5_1) 0) (rd (zV t105 x5_1) 1) (wrap64 (x8_2 + 1)) l0_0) else (none)) else (none)) else (none)) = some r := H
      have A33 := zA.mk A330
      clear A330
      obtain ⟨ji34, hji34⟩ : ∃ j_ : Int, (wrap64 ((wrap64 ((wrap64 (7 * t116)) + 4)) + t126)) = j_ := ⟨_, rfl⟩
      replace H : (if 0 ≤ (ji34) then (if (ji34) < (y113.length : Int) then (if x3_2.length < 5864062014805 then (ze.l1 k2 (x3_2 ++ [(y125.set ((ji34) : Int).toNat (wrap64 ((rd y125 (ji34)) - 1)))]) t105 x5_1 (rd (zV t105 x5_1) 0) (rd (zV t105 x5_1) 1) (wrap64 (x8_2 + 1)) l0_0) else (none)) else (none)) else (none)) = some r := by first | (rw [hji34] at H; exact H) | (simp only [hji34] at H ⊢; exact H)
      (try rw [hji34] at A15)
      (try rw [hji34] at A19)
      (try rw [hji34] at A24)
      (try rw [hji34] at A33)
      have hji34w : (IntKind.i64.wrap ((wrap64 ((wrap64 (7 * t116)) + 4)) + t126)) = ji34 := (zY _).trans hji34
      by_cases c35 : 0 ≤ (ji34)
      rotate_left
      next =>
       rw [if_neg c35] at H
       exact absurd H (by simp)
      rw [if_pos c35] at H
      have c35b0 : decide (0 ≤ (ji34)) = true := ygy c35
      clear c35
      by_cases c36 : (ji34) < (y113.length : Int)
      rotate_left
      next =>
       rw [if_neg c36] at H
       exact absurd H (by simp)
      rw [if_pos c36] at H
      have c36b0 : decide ((ji34) < (y113.length : Int)) = true := ygy c36
      clear c36
      obtain ⟨y128, hy128⟩ : ∃ y_ : List Int, y_ = (y125.set ((ji34) : Int).toNat (wrap64 ((rd y125 (ji34)) - 1))) := ⟨_, rfl⟩
      replace H : (if x3_2.length < 5864062014805 then (ze.l1 k2 (x3_2 ++ [y128]) t105 x5_1 (rd (zV t105 x5_1) 0) (rd (zV t105 x5_1) 1) (wrap64 (x8_2 + 1)) l0_0) else (none)) = some r := by first | (rw [hy128]; with_reducible exact H) | (have H2_ := (yfy _ _).symm.trans H; rw [hy128]; with_reducible exact H2_) | (have H2_ := (yfy _ _).symm.trans H; with_reducible exact H2_) | with_reducible exact H | (rw [hy128]; exact H) | exact H
      have Ny128 := zA.mk hy128
      clear hy128
      by_cases c38 : x3_2.length < 5864062014805
      rotate_left
      next =>
       rw [if_neg c38] at H
       exact absurd H (by simp)
      rw [if_pos c38] at H
      have LMc38 := zA.mk c38
      clear c38
      obtain ⟨y129, hy129⟩ : ∃ y_ : List (List Int), y_ = (x3_2 ++ [y128]) := ⟨_, rfl⟩
      replace H : (ze.l1 k2 y129 t105 x5_1 (rd (zV t105 x5_1) 0) (rd (zV t105 x5_1) 1) (wrap64 (x8_2 + 1)) l0_0) = some r := by first | (rw [hy129]; with_reducible exact H) | (have H2_ := (yfy _ _).symm.trans H; rw [hy129]; with_reducible exact H2_) | (have H2_ := (yfy _ _).symm.trans H; with_reducible exact H2_) | with_reducible exact H | (rw [hy129]; exact H) | exact H
      have Ny129 := zA.mk hy129
      clear hy129
      have H' := zA.mk H
      clear H
      have hcz39_0 : wr.cell? ⟨gb101, 0, none⟩ = some (.slice A0_0 l0_0.length c0_0) := (zK BK101.out 0).trans rfl
      have hfz39_0 := zM BK101.out 0
      go_wp2_with (first | ((with_reducible refine zT (f := 59) rfl ?_); refine qH (some 42) rfl rfl Try.func59 (by kernel_rfl) rfl #[.agg #[.slice A0_0 l0_0.length c0_0]] rfl (by (try simp only [yiy, yjy, yky]); first | done | rfl | (simp only [yly, ymy]; rfl)) ?_; (with_reducible refine (zt.calls _ _ l0_0 t112 _ ?side1 ?side2 A15.out).mono ?_); (case side1 => repeat (first | exact (Kd.zl HR0_0.out HB.out) | (with_reducible refine Kd.zh ?_ _) | (with_reducible refine Kd.zi ?_ _) | (with_reducible refine Kd.qA ?_))); (case side2 => exact HC0_0.out); rintro e w40 ⟨rfl, hb⟩; refine ⟨_, rfl, ?_⟩; have n0_ := zA.mk (Kd.QL (by (with_reducible repeat (first | apply Kd.qJ | apply Kd.qK | apply Kd.qf)); exact HO_3.out) hb); have n1_ := zA.mk (Kd.QL (by (with_reducible repeat (first | apply Kd.qJ | apply Kd.qK | apply Kd.qf)); exact HO_4.out) hb); have n2_ := zA.mk (zP (g := gb101) (o := .cells #[.slice A0_0 l0_0.length c0_0] 30 (0, 0)) (by (with_reducible repeat (first | refine zI ?_ _ | refine zJ ?_ | refine zH ?_ _)); exact BK101.out) hb); have n3_ := zA.mk (zN (by repeat (first | (with_reducible first | exact HB.out | apply zC | apply zB | apply zD | refine zF ?_ GE101.out) | exact HB.out)) hb); clear HO_3; clear HO_4; clear BK101; clear HB; have HO_3 := n0_; have HO_4 := n1_; have BK101 := n2_; have HB := n3_; clear n0_ n1_ n2_ n3_; (try clear hb); (try clear hb2); (try clear hk); (try clear hi)) | ((with_reducible refine zm (N := 44) rfl ?_); refine Kd.zBA (Kd.int .i64) _ 2 rfl (N := 44) rfl 25 _ _ rfl ji16 rfl rfl Try.underlying25 (.int .i64 0) 8 JP rfl (by decide) (by omega) 0 (ok := fun _ => True) (okp := fun _ => True) rfl (fun _ hk => hk) trivial (of_decide_eq_true (by first | (with_reducible assumption) | assumption)) (Nat.le_trans (Nat.mul_le_mul_right _ (of_decide_eq_true (by first | (with_reducible assumption) | assumption) : ji16.toNat ≤ 35184372088832)) (by omega)) (yry _ _) (yqy _) ?_; intro v114 w41 ho42 hb hg_ hnew_; clear hg_ hnew_; (first | rw [← Ny113.out] at ho42 | (simp only [Int.reduceToNat] at ho42; rw [← Ny113.out] at ho42)); have n0_ := zA.mk (Kd.Jb (by (with_reducible repeat (first | apply Kd.qJ | apply Kd.qK | apply Kd.qf)); exact HO_3.out) (Kd.Qw ho42) hb); have n1_ := zA.mk (Kd.Jb (by (with_reducible repeat (first | apply Kd.qJ | apply Kd.qK | apply Kd.qf)); exact HO_4.out) (Kd.Qw ho42) hb); have n2_ := zA.mk (Kd.ZU ho42 (zO (by repeat (first | (with_reducible first | exact HB.out | apply zC | apply zB | apply zD | refine zF ?_ GE101.out) | exact HB.out)))); have n3_ := zA.mk (zP (g := gb101) (o := .cells #[.slice A0_0 l0_0.length c0_0] 30 (0, 0)) (by (with_reducible repeat (first | refine zI ?_ _ | refine zJ ?_ | refine zH ?_ _)); exact BK101.out) hb); have n4_ := zA.mk (zN (by repeat (first | (with_reducible first | exact HB.out | apply zC | apply zB | apply zD | refine zF ?_ GE101.out) | exact HB.out)) hb); clear HO_3; clear HO_4; clear BK101; clear HB; have HO_3 := n0_; have HO_4 := n1_; have HO115 := n2_; have BK101 := n3_; have HB := n4_; clear n0_ n1_ n2_ n3_ n4_; clear hb ho42; have hcz43_0 : w41.cell? ⟨gb101, 0, none⟩ = some (.slice A0_0 l0_0.length c0_0) := (zK BK101.out 0).trans rfl; have hfz43_0 := zM BK101.out 0) | ((with_reducible refine zT (f := 103) rfl ?_); refine qH (some 50) rfl rfl Try.func103 (by kernel_rfl) rfl #[.agg #[.slice A0_0 l0_0.length c0_0], .int .i64 (rd (zV t105 x5_1) 0), .int .i64 (rd (zV t105 x5_1) 1), .int .i64 x8_2] rfl (by (try simp only [yiy, yjy, yky]); first | done | rfl | (simp only [yly, ymy]; rfl)) ?_; (with_reducible refine (qe.calls k2 _ _ l0_0 (rd (zV t105 x5_1) 0) (rd (zV t105 x5_1) 1) x8_2 t116 t117 t118 _ ?side1 ?side2 A19.out).mono ?_); (case side1 => repeat (first | exact (Kd.zl HR0_0.out HB.out) | (with_reducible refine Kd.zh ?_ _) | (with_reducible refine Kd.zi ?_ _) | (with_reducible refine Kd.qA ?_))); (case side2 => exact HC0_0.out); rintro e w44 ⟨rfl, hb⟩; refine ⟨_, rfl, ?_⟩; have n0_ := zA.mk (Kd.QL (by (with_reducible repeat (first | apply Kd.qJ | apply Kd.qK | apply Kd.qf)); exact HO_3.out) hb); have n1_ := zA.mk (Kd.QL (by (with_reducible repeat (first | apply Kd.qJ | apply Kd.qK | apply Kd.qf)); exact HO_4.out) hb); have n2_ := zA.mk (Kd.Zp (by (with_reducible repeat (first | apply Kd.zg | apply Kd.zf | apply Kd.zu)); exact HO115.out) hb); have n3_ := zA.mk (zP (g := gb101) (o := .cells #[.slice A0_0 l0_0.length c0_0] 30 (0, 0)) (by (with_reducible repeat (first | refine zI ?_ _ | refine zJ ?_ | refine zH ?_ _)); exact BK101.out) hb); have n4_ := zA.mk (zN (by repeat (first | (with_reducible first | exact HB.out | apply zC | apply zB | apply zD | refine zF ?_ GE101.out) | exact HB.out)) hb); clear HO_3; clear HO_4; clear HO115; clear BK101; clear HB; have HO_3 := n0_; have HO_4 := n1_; have HO115 := n2_; have BK101 := n3_; have HB := n4_; clear n0_ n1_ n2_ n3_ n4_; (try clear hb); (try clear hb2); (try clear hk); (try clear hi); obtain ⟨Ao45, co45, eo45⟩ := Kd.ZN HO115.out; subst eo45; have p119 : 0 ≤ ((ji20) : Int) := of_decide_eq_true (by first | (with_reducible assumption) | assumption); have q119 : (ji20) < (y113.length : Int) := of_decide_eq_true (by first | (with_reducible assumption) | assumption); obtain ⟨ad119, e119, hx119_0⟩ := Kd.ZD (Kd.zv HO115.out).2.2 (ji20) p119 q119; cases e119; replace p119 := eq_true p119; replace q119 := eq_true q119; have p23 : 0 ≤ ((ji20) : Int) := of_decide_eq_true (by first | (with_reducible assumption) | assumption); have q23 : ((ji20) : Int) < ((y113.length : Int) : Int) := of_decide_eq_true (by first | (with_reducible assumption) | assumption); obtain ⟨go23, co23, eo23, gb23, gl23, cl23, HG23⟩ := Kd.zA7 HO115.out (by omega); (first | cases eo23 | (injection eo23 with ea_ en_ ec_; (first | subst ea_ | (injection ea_ with ea_; subst ea_)); subst ec_; clear en_)); have GB23 := zA.mk gb23; have GG23 := zA.mk HG23; clear gb23 gl23 HG23; (first | simp only [add_plain] at hx119_0 | skip); obtain ⟨hx23_0, hf23_0⟩ := Kd.QA 0 HO115.out ((ji20) : Int) p23 q23; replace p23 := eq_true p23; replace q23 := eq_true q23; obtain ⟨hy46_, hz46_⟩ := Kd.QA 0 HO115.out ((ji20) : Int) (of_decide_eq_true (by first | (with_reducible assumption) | assumption)) (of_decide_eq_true (by first | (with_reducible assumption) | assumption)); have HP46 := Kd.Jh HO115.out ((ji20) : Int) (wrap64 ((rd y113 (ji20)) + 1))) | ((with_reducible refine ZK (t := 2) (p := 62) rfl ?_); refine ZE (t := 2) (p := 62) (v := ?vo_w47) (w1 := (w44.setCell ⟨go23, ((ji20) : Int).toNat, none⟩ (.int .i64 (wrap64 ((rd y113 (ji20)) + 1))))) ?hg ?ho ?hn ?hr ?_; (case ho => rfl); (case hg => rfl); (case hn => rfl); (case hr => first | (go_simp; done) | (go_simp; rfl)); intro w47 hw; have hg : w44.grownBy w47 (some go23) := (by rw [hw]; exact HP46.2); have hp_ : Kd.R (Kd.int .i64) 2 w47 w.heap.size (fun _ => True) (.slice (some ⟨go23, 0, none⟩) y113.length co45) y120 := (by rw [hw, Ny120.out]; exact HP46.1); clear HP46; have n0_ := zA.mk (Kd.Jc (v := (.slice (some ⟨go23, 0, none⟩) y113.length co45)) (v1 := (.slice (some ⟨go23, 0, none⟩) y113.length co45)) (ok := (fun k_ => some k_ ≠ (.slice (some ad108) t105.length co12 : Value).ownBlock)) (by (with_reducible repeat (first | apply Kd.qJ | apply Kd.qK | apply Kd.qf)); first | exact HO_3.out | exact Kd.Zk HO_3.out (fun _ hk => ⟨hk.2, hk.1⟩) | exact Kd.qW HO_3.out (fun _ hk => ⟨hk.2, hk.1⟩)) hg (.inl rfl)); have n1_ := zA.mk (Kd.Jc (v := (.slice (some ⟨go23, 0, none⟩) y113.length co45)) (v1 := (.slice (some ⟨go23, 0, none⟩) y113.length co45)) (ok := (fun k_ => some k_ ≠ (u3 : Value).ownBlock)) (by (with_reducible repeat (first | apply Kd.qJ | apply Kd.qK | apply Kd.qf)); first | exact HO_4.out | exact Kd.Zk HO_4.out (fun _ hk => ⟨hk.2, hk.1⟩) | exact Kd.qW HO_4.out (fun _ hk => ⟨hk.2, hk.1⟩)) hg (.inl rfl)); have n2_ := zA.mk (ZA (g := gb101) (o := .cells #[.slice A0_0 l0_0.length c0_0] 30 (0, 0)) (by (with_reducible repeat (first | refine zI ?_ _ | refine zJ ?_ | refine zH ?_ _)); exact BK101.out) hg (Kd.R_ne HO115.out BK101.out (by decide))); have n3_ := zA.mk (hp_); have n4_ := zA.mk ((by rw [hw]; exact zF (HB.out) GB23.out : Below w.heap.size w w47)); clear HO_3; clear HO_4; clear BK101; clear HO115; clear HB; have HO_3 := n0_; have HO_4 := n1_; have BK101 := n2_; have HO115 := n3_; have HB := n4_; clear n0_ n1_ n2_ n3_ n4_; clear hg hw hp_) | ((with_reducible refine zT (f := 104) rfl ?_); refine qH (some 69) rfl rfl Try.func104 (by kernel_rfl) rfl #[.int .i64 (rd (zV t105 x5_1) 1), .int .i64 x8_2] rfl (by (try simp only [yiy, yjy, yky]); first | done | rfl | (simp only [yly, ymy]; rfl)) ?_; (with_reducible refine (qE.calls (rd (zV t105 x5_1) 1) x8_2 t121 _ A24.out).mono ?_); rintro e w' ⟨rfl, ⟨nd, rfl⟩⟩; refine ⟨_, rfl, ?_⟩; (try (rw [zBs w47]; generalize hq_ : World.drewN w47 _ = w47; have n0_ : zA (Kd.R (Kd.int .i64) 2 w47 w.heap.size (fun _ => True) (.slice (some ⟨go23, 0, none⟩) y113.length co45) y120) := ⟨by rw [← hq_]; exact (by (with_reducible repeat (first | apply Kd.zg | apply Kd.zf | apply Kd.zu)); exact HO115.out)⟩; have n1_ : zA (Kd.S (Kd.slice 2 (Kd.int .i64)) 25 w47 w.heap.size (fun k_ => some k_ ≠ (.slice (some ⟨go23, 0, none⟩) y113.length co45 : Value).ownBlock ∧ some k_ ≠ (.slice (some ad108) t105.length co12 : Value).ownBlock) u3 x3_2) := ⟨by rw [← hq_]; exact (by (with_reducible repeat (first | apply Kd.qJ | apply Kd.qK | apply Kd.qf)); exact Kd.Zk HO_3.out (fun _ hk => ⟨hk.2, hk.1⟩))⟩; have n2_ : zA (Kd.S (Kd.slice 2 (Kd.int .i64)) 25 w47 w.heap.size (fun k_ => some k_ ≠ (.slice (some ⟨go23, 0, none⟩) y113.length co45 : Value).ownBlock ∧ some k_ ≠ (u3 : Value).ownBlock) (.slice (some ad108) t105.length co12) t105) := ⟨by rw [← hq_]; exact (by (with_reducible repeat (first | apply Kd.qJ | apply Kd.qK | apply Kd.qf)); exact Kd.Zk HO_4.out (fun _ hk => ⟨hk.2, hk.1⟩))⟩; have n3_ : zA (w47.heap[gb101]? = some (.cells #[.slice A0_0 l0_0.length c0_0] 30 (0, 0))) := ⟨by rw [← hq_]; exact (by (with_reducible repeat (first | refine zI ?_ _ | refine zJ ?_ | refine zH ?_ _)); exact BK101.out)⟩; have n4_ : zA (Below w.heap.size w w47) := ⟨by rw [← hq_]; exact (by repeat (first | (with_reducible first | exact HB.out | apply zC | apply zB | apply zD | refine zF ?_ GE101.out) | exact HB.out))⟩; clear HO115 HO_3 HO_4 BK101 HB hq_; have HO115 := n0_; have HO_3 := n1_; have HO_4 := n2_; have BK101 := n3_; have HB := n4_; clear n0_ n1_ n2_ n3_ n4_)); have p122 : 0 ≤ ((ji25) : Int) := of_decide_eq_true (by first | (with_reducible assumption) | assumption); have q122 : (ji25) < (y120.length : Int) := (by have h_ : ((ji25) : Int) < ((y113.length : Int) : Int) := of_decide_eq_true (by first | (with_reducible assumption) | assumption); first | (have e_ := (Kd.zv HO115.out).1; omega) | simpa only [Ny120.out, List.length_set] using h_); have ql122 : (((ji25) : Int) < ((y113.length : Int) : Int)) = True := eq_true (of_decide_eq_true (by first | (with_reducible assumption) | assumption)); obtain ⟨ad122, e122, hx122_0⟩ := Kd.ZD (Kd.zv HO115.out).2.2 (ji25) p122 q122; obtain rfl : (⟨go23, 0, none⟩ : Addr) = ad122 := (by injection e122); (first | simp only [add_plain] at hx122_0 | simp only [zCr] at hx122_0 | simp only [Addr.add, Nat.zero_add] at hx122_0 | skip); replace p122 := eq_true p122; replace q122 := eq_true q122; have p28 : 0 ≤ ((ji25) : Int) := of_decide_eq_true (by first | (with_reducible assumption) | assumption); have q28 : ((ji25) : Int) < ((y113.length : Int) : Int) := of_decide_eq_true (by first | (with_reducible assumption) | assumption); obtain ⟨hx28_0, hf28_0⟩ := Kd.QA 0 HO115.out ((ji25) : Int) p28 q28; replace p28 := eq_true p28; replace q28 := eq_true q28; obtain ⟨hy48_, hz48_⟩ := Kd.QA 0 HO115.out ((ji25) : Int) (of_decide_eq_true (by first | (with_reducible assumption) | assumption)) (of_decide_eq_true (by first | (with_reducible assumption) | assumption)); have HP48 := Kd.Jh HO115.out ((ji25) : Int) (wrap64 ((rd y120 (ji25)) + 1))) | ((with_reducible refine ZK (t := 2) (p := 74) rfl ?_); refine ZE (t := 2) (p := 74) (v := ?vo_w49) (w1 := (w47.setCell ⟨go23, ((ji25) : Int).toNat, none⟩ (.int .i64 (wrap64 ((rd y120 (ji25)) + 1))))) ?hg ?ho ?hn ?hr ?_; (case ho => rfl); (case hg => rfl); (case hn => rfl); (case hr => first | (go_simp; done) | (go_simp; rfl)); intro w49 hw; have hg : w47.grownBy w49 (some go23) := (by rw [hw]; exact HP48.2); have hp_ : Kd.R (Kd.int .i64) 2 w49 w.heap.size (fun _ => True) (.slice (some ⟨go23, 0, none⟩) y113.length co45) y123 := (by rw [hw, Ny123.out]; exact HP48.1); clear HP48; have n0_ := zA.mk (Kd.Jc (v := (.slice (some ⟨go23, 0, none⟩) y113.length co45)) (v1 := (.slice (some ⟨go23, 0, none⟩) y113.length co45)) (ok := (fun k_ => some k_ ≠ (.slice (some ad108) t105.length co12 : Value).ownBlock)) (by (with_reducible repeat (first | apply Kd.qJ | apply Kd.qK | apply Kd.qf)); first | exact HO_3.out | exact Kd.Zk HO_3.out (fun _ hk => ⟨hk.2, hk.1⟩) | exact Kd.qW HO_3.out (fun _ hk => ⟨hk.2, hk.1⟩)) hg (.inl rfl)); have n1_ := zA.mk (Kd.Jc (v := (.slice (some ⟨go23, 0, none⟩) y113.length co45)) (v1 := (.slice (some ⟨go23, 0, none⟩) y113.length co45)) (ok := (fun k_ => some k_ ≠ (u3 : Value).ownBlock)) (by (with_reducible repeat (first | apply Kd.qJ | apply Kd.qK | apply Kd.qf)); first | exact HO_4.out | exact Kd.Zk HO_4.out (fun _ hk => ⟨hk.2, hk.1⟩) | exact Kd.qW HO_4.out (fun _ hk => ⟨hk.2, hk.1⟩)) hg (.inl rfl)); have n2_ := zA.mk (ZA (g := gb101) (o := .cells #[.slice A0_0 l0_0.length c0_0] 30 (0, 0)) (by (with_reducible repeat (first | refine zI ?_ _ | refine zJ ?_ | refine zH ?_ _)); exact BK101.out) hg (Kd.R_ne HO115.out BK101.out (by decide))); have n3_ := zA.mk (hp_); have n4_ := zA.mk ((by rw [hw]; exact zF (HB.out) GB23.out : Below w.heap.size w w49)); clear HO_3; clear HO_4; clear BK101; clear HO115; clear HB; have HO_3 := n0_; have HO_4 := n1_; have BK101 := n2_; have HO115 := n3_; have HB := n4_; clear n0_ n1_ n2_ n3_ n4_; clear hg hw hp_; have p124 : 0 ≤ ((ji29) : Int) := of_decide_eq_true (by first | (with_reducible assumption) | assumption); have q124 : (ji29) < (y123.length : Int) := (by have h_ : ((ji29) : Int) < ((y113.length : Int) : Int) := of_decide_eq_true (by first | (with_reducible assumption) | assumption); first | (have e_ := (Kd.zv HO115.out).1; omega) | simpa only [Ny120.out, Ny123.out, List.length_set] using h_); have ql124 : (((ji29) : Int) < ((y113.length : Int) : Int)) = True := eq_true (of_decide_eq_true (by first | (with_reducible assumption) | assumption)); obtain ⟨ad124, e124, hx124_0⟩ := Kd.ZD (Kd.zv HO115.out).2.2 (ji29) p124 q124; obtain rfl : (⟨go23, 0, none⟩ : Addr) = ad124 := (by injection e124); (first | simp only [add_plain] at hx124_0 | simp only [zCr] at hx124_0 | simp only [Addr.add, Nat.zero_add] at hx124_0 | skip); replace p124 := eq_true p124; replace q124 := eq_true q124; have p32 : 0 ≤ ((ji29) : Int) := of_decide_eq_true (by first | (with_reducible assumption) | assumption); have q32 : ((ji29) : Int) < ((y113.length : Int) : Int) := of_decide_eq_true (by first | (with_reducible assumption) | assumption); obtain ⟨hx32_0, hf32_0⟩ := Kd.QA 0 HO115.out ((ji29) : Int) p32 q32; replace p32 := eq_true p32; replace q32 := eq_true q32; obtain ⟨hy50_, hz50_⟩ := Kd.QA 0 HO115.out ((ji29) : Int) (of_decide_eq_true (by first | (with_reducible assumption) | assumption)) (of_decide_eq_true (by first | (with_reducible assumption) | assumption)); have HP50 := Kd.Jh HO115.out ((ji29) : Int) (wrap64 ((rd y123 (ji29)) - 1))) | ((with_reducible refine ZK (t := 2) (p := 83) rfl ?_); refine ZE (t := 2) (p := 83) (v := ?vo_w51) (w1 := (w49.setCell ⟨go23, ((ji29) : Int).toNat, none⟩ (.int .i64 (wrap64 ((rd y123 (ji29)) - 1))))) ?hg ?ho ?hn ?hr ?_; (case ho => rfl); (case hg => rfl); (case hn => rfl); (case hr => first | (go_simp; done) | (go_simp; rfl)); intro w51 hw; have hg : w49.grownBy w51 (some go23) := (by rw [hw]; exact HP50.2); have hp_ : Kd.R (Kd.int .i64) 2 w51 w.heap.size (fun _ => True) (.slice (some ⟨go23, 0, none⟩) y113.length co45) y125 := (by rw [hw, Ny125.out]; exact HP50.1); clear HP50; have n0_ := zA.mk (Kd.Jc (v := (.slice (some ⟨go23, 0, none⟩) y113.length co45)) (v1 := (.slice (some ⟨go23, 0, none⟩) y113.length co45)) (ok := (fun k_ => some k_ ≠ (.slice (some ad108) t105.length co12 : Value).ownBlock)) (by (with_reducible repeat (first | apply Kd.qJ | apply Kd.qK | apply Kd.qf)); first | exact HO_3.out | exact Kd.Zk HO_3.out (fun _ hk => ⟨hk.2, hk.1⟩) | exact Kd.qW HO_3.out (fun _ hk => ⟨hk.2, hk.1⟩)) hg (.inl rfl)); have n1_ := zA.mk (Kd.Jc (v := (.slice (some ⟨go23, 0, none⟩) y113.length co45)) (v1 := (.slice (some ⟨go23, 0, none⟩) y113.length co45)) (ok := (fun k_ => some k_ ≠ (u3 : Value).ownBlock)) (by (with_reducible repeat (first | apply Kd.qJ | apply Kd.qK | apply Kd.qf)); first | exact HO_4.out | exact Kd.Zk HO_4.out (fun _ hk => ⟨hk.2, hk.1⟩) | exact Kd.qW HO_4.out (fun _ hk => ⟨hk.2, hk.1⟩)) hg (.inl rfl)); have n2_ := zA.mk (ZA (g := gb101) (o := .cells #[.slice A0_0 l0_0.length c0_0] 30 (0, 0)) (by (with_reducible repeat (first | refine zI ?_ _ | refine zJ ?_ | refine zH ?_ _)); exact BK101.out) hg (Kd.R_ne HO115.out BK101.out (by decide))); have n3_ := zA.mk (hp_); have n4_ := zA.mk ((by rw [hw]; exact zF (HB.out) GB23.out : Below w.heap.size w w51)); clear HO_3; clear HO_4; clear BK101; clear HO115; clear HB; have HO_3 := n0_; have HO_4 := n1_; have BK101 := n2_; have HO115 := n3_; have HB := n4_; clear n0_ n1_ n2_ n3_ n4_; clear hg hw hp_) | ((with_reducible refine zT (f := 104) rfl ?_); refine qH (some 90) rfl rfl Try.func104 (by kernel_rfl) rfl #[.int .i64 t117, .int .i64 t118] rfl (by (try simp only [yiy, yjy, yky]); first | done | rfl | (simp only [yly, ymy]; rfl)) ?_; (with_reducible refine (qE.calls t117 t118 t126 _ A33.out).mono ?_); rintro e w' ⟨rfl, ⟨nd, rfl⟩⟩; refine ⟨_, rfl, ?_⟩; (try (rw [zBs w51]; generalize hq_ : World.drewN w51 _ = w51; have n0_ : zA (Kd.R (Kd.int .i64) 2 w51 w.heap.size (fun _ => True) (.slice (some ⟨go23, 0, none⟩) y113.length co45) y125) := ⟨by rw [← hq_]; exact (by (with_reducible repeat (first | apply Kd.zg | apply Kd.zf | apply Kd.zu)); exact HO115.out)⟩; have n1_ : zA (Kd.S (Kd.slice 2 (Kd.int .i64)) 25 w51 w.heap.size (fun k_ => some k_ ≠ (.slice (some ⟨go23, 0, none⟩) y113.length co45 : Value).ownBlock ∧ some k_ ≠ (.slice (some ad108) t105.length co12 : Value).ownBlock) u3 x3_2) := ⟨by rw [← hq_]; exact (by (with_reducible repeat (first | apply Kd.qJ | apply Kd.qK | apply Kd.qf)); exact Kd.Zk HO_3.out (fun _ hk => ⟨hk.2, hk.1⟩))⟩; have n2_ : zA (Kd.S (Kd.slice 2 (Kd.int .i64)) 25 w51 w.heap.size (fun k_ => some k_ ≠ (.slice (some ⟨go23, 0, none⟩) y113.length co45 : Value).ownBlock ∧ some k_ ≠ (u3 : Value).ownBlock) (.slice (some ad108) t105.length co12) t105) := ⟨by rw [← hq_]; exact (by (with_reducible repeat (first | apply Kd.qJ | apply Kd.qK | apply Kd.qf)); exact Kd.Zk HO_4.out (fun _ hk => ⟨hk.2, hk.1⟩))⟩; have n3_ : zA (w51.heap[gb101]? = some (.cells #[.slice A0_0 l0_0.length c0_0] 30 (0, 0))) := ⟨by rw [← hq_]; exact (by (with_reducible repeat (first | refine zI ?_ _ | refine zJ ?_ | refine zH ?_ _)); exact BK101.out)⟩; have n4_ : zA (Below w.heap.size w w51) := ⟨by rw [← hq_]; exact (by repeat (first | (with_reducible first | exact HB.out | apply zC | apply zB | apply zD | refine zF ?_ GE101.out) | exact HB.out))⟩; clear HO115 HO_3 HO_4 BK101 HB hq_; have HO115 := n0_; have HO_3 := n1_; have HO_4 := n2_; have BK101 := n3_; have HB := n4_; clear n0_ n1_ n2_ n3_ n4_)); have p127 : 0 ≤ ((ji34) : Int) := of_decide_eq_true (by first | (with_reducible assumption) | assumption); have q127 : (ji34) < (y125.length : Int) := (by have h_ : ((ji34) : Int) < ((y113.length : Int) : Int) := of_decide_eq_true (by first | (with_reducible assumption) | assumption); first | (have e_ := (Kd.zv HO115.out).1; omega) | simpa only [Ny120.out, Ny123.out, Ny125.out, List.length_set] using h_); have ql127 : (((ji34) : Int) < ((y113.length : Int) : Int)) = True := eq_true (of_decide_eq_true (by first | (with_reducible assumption) | assumption)); obtain ⟨ad127, e127, hx127_0⟩ := Kd.ZD (Kd.zv HO115.out).2.2 (ji34) p127 q127; obtain rfl : (⟨go23, 0, none⟩ : Addr) = ad127 := (by injection e127); (first | simp only [add_plain] at hx127_0 | simp only [zCr] at hx127_0 | simp only [Addr.add, Nat.zero_add] at hx127_0 | skip); replace p127 := eq_true p127; replace q127 := eq_true q127; have p37 : 0 ≤ ((ji34) : Int) := of_decide_eq_true (by first | (with_reducible assumption) | assumption); have q37 : ((ji34) : Int) < ((y113.length : Int) : Int) := of_decide_eq_true (by first | (with_reducible assumption) | assumption); obtain ⟨hx37_0, hf37_0⟩ := Kd.QA 0 HO115.out ((ji34) : Int) p37 q37; replace p37 := eq_true p37; replace q37 := eq_true q37; obtain ⟨hy52_, hz52_⟩ := Kd.QA 0 HO115.out ((ji34) : Int) (of_decide_eq_true (by first | (with_reducible assumption) | assumption)) (of_decide_eq_true (by first | (with_reducible assumption) | assumption)); have HP52 := Kd.Jh HO115.out ((ji34) : Int) (wrap64 ((rd y125 (ji34)) - 1))) | ((with_reducible refine ZK (t := 2) (p := 95) rfl ?_); refine ZE (t := 2) (p := 95) (v := ?vo_w53) (w1 := (w51.setCell ⟨go23, ((ji34) : Int).toNat, none⟩ (.int .i64 (wrap64 ((rd y125 (ji34)) - 1))))) ?hg ?ho ?hn ?hr ?_; (case ho => rfl); (case hg => rfl); (case hn => rfl); (case hr => first | (go_simp; done) | (go_simp; rfl)); intro w53 hw; have hg : w51.grownBy w53 (some go23) := (by rw [hw]; exact HP52.2); have hp_ : Kd.R (Kd.int .i64) 2 w53 w.heap.size (fun _ => True) (.slice (some ⟨go23, 0, none⟩) y113.length co45) y128 := (by rw [hw, Ny128.out]; exact HP52.1); clear HP52; have n0_ := zA.mk (Kd.Jc (v := (.slice (some ⟨go23, 0, none⟩) y113.length co45)) (v1 := (.slice (some ⟨go23, 0, none⟩) y113.length co45)) (ok := (fun k_ => some k_ ≠ (.slice (some ad108) t105.length co12 : Value).ownBlock)) (by (with_reducible repeat (first | apply Kd.qJ | apply Kd.qK | apply Kd.qf)); first | exact HO_3.out | exact Kd.Zk HO_3.out (fun _ hk => ⟨hk.2, hk.1⟩) | exact Kd.qW HO_3.out (fun _ hk => ⟨hk.2, hk.1⟩)) hg (.inl rfl)); have n1_ := zA.mk (Kd.Jc (v := (.slice (some ⟨go23, 0, none⟩) y113.length co45)) (v1 := (.slice (some ⟨go23, 0, none⟩) y113.length co45)) (ok := (fun k_ => some k_ ≠ (u3 : Value).ownBlock)) (by (with_reducible repeat (first | apply Kd.qJ | apply Kd.qK | apply Kd.qf)); first | exact HO_4.out | exact Kd.Zk HO_4.out (fun _ hk => ⟨hk.2, hk.1⟩) | exact Kd.qW HO_4.out (fun _ hk => ⟨hk.2, hk.1⟩)) hg (.inl rfl)); have n2_ := zA.mk (ZA (g := gb101) (o := .cells #[.slice A0_0 l0_0.length c0_0] 30 (0, 0)) (by (with_reducible repeat (first | refine zI ?_ _ | refine zJ ?_ | refine zH ?_ _)); exact BK101.out) hg (Kd.R_ne HO115.out BK101.out (by decide))); have n3_ := zA.mk (hp_); have n4_ := zA.mk ((by rw [hw]; exact zF (HB.out) GB23.out : Below w.heap.size w w53)); clear HO_3; clear HO_4; clear BK101; clear HO115; clear HB; have HO_3 := n0_; have HO_4 := n1_; have BK101 := n2_; have HO115 := n3_; have HB := n4_; clear n0_ n1_ n2_ n3_ n4_; clear hg hw hp_) | ((with_reducible refine Zn (b := .append) (xs := #[.tmp 96, .tmp 98]) rfl ?_); at_builtin; refine Kd.zCQ (Kd.slice 2 (Kd.int .i64)) (w0 := w) w.heap.size rfl (.tmp 96) (.tmp 98) 54 25 (.slice none 0 0) 24 rfl Try.underlying54 zDs rfl (by decide) (by omega) u3 x3_2 y128 [.slice (some ⟨go23, 0, none⟩) y113.length co45] (fun k_ => some k_ ≠ (.slice (some ad108) t105.length co12 : Value).ownBlock) (fun k_ => some k_ = (.slice (some ⟨go23, 0, none⟩) y113.length co45 : Value).ownBlock) rfl rfl ?aP (fun k_ hk_ => ((Kd.qW (ok' := fun k_ => ((fun k_ => some k_ ≠ (.slice (some ad108) t105.length co12 : Value).ownBlock)) k_ ∧ some k_ ≠ (u3 : Value).ownBlock) (Kd.QO (Kd.QO (HO115.out) (Kd.Qm HO_4.out) (by decide)) (Kd.Qm HO_3.out) (by decide)) (fun k_ hk => ⟨hk.1.2, hk.2⟩))).1 k_ hk_.symm) ?aF ?aO ?aB ?aS ?aL ?_; (case aP => exact Kd.zEs (Kd.qW (Kd.Qy rfl (Kd.qW (ok' := fun k_ => ((fun k_ => some k_ ≠ (.slice (some ad108) t105.length co12 : Value).ownBlock)) k_ ∧ some k_ ≠ (u3 : Value).ownBlock) (Kd.QO (Kd.QO (HO115.out) (Kd.Qm HO_4.out) (by decide)) (Kd.Qm HO_3.out) (by decide)) (fun k_ hk => ⟨hk.1.2, hk.2⟩))) (fun _ h_ => h_))); (case aB => exact (by repeat (first | (with_reducible first | exact HB.out | apply zC | apply zB | apply zD | refine zF ?_ GE101.out) | exact HB.out))); (case aF => exact (fun k_ hk => Kd.Jq (Kd.S_lt (by (with_reducible repeat (first | apply Kd.qJ | apply Kd.qK | apply Kd.qf)); exact HO_4.out)) k_ hk)); (case aO => exact (by (with_reducible repeat (first | apply Kd.qJ | apply Kd.qK | apply Kd.qf)); exact Kd.Zk HO_3.out (fun k_ hk => ⟨hk.1, fun e_ => hk.2 e_⟩))); (case aS => exact (zO (by repeat (first | (with_reducible first | exact HB.out | apply zC | apply zB | apply zD | refine zF ?_ GE101.out) | exact HB.out)))); (case aL => have := LMc38.out; omega); intro v130 w54 ho hb hg hat; rw [← Ny129.out] at ho; have n0_ := zA.mk (Kd.Jc (ok := (fun k_ => some k_ ≠ (.slice (some ⟨go23, 0, none⟩) y113.length co45 : Value).ownBlock)) (by (with_reducible repeat (first | apply Kd.qJ | apply Kd.qK | apply Kd.qf)); exact Kd.Zk HO_4.out (fun _ hk => ⟨hk.2, hk.1⟩)) hg hat); have n1_ := zA.mk (ZA (g := gb101) (o := .cells #[.slice A0_0 l0_0.length c0_0] 30 (0, 0)) (by (with_reducible repeat (first | refine zI ?_ _ | refine zJ ?_ | refine zH ?_ _)); exact BK101.out) hg (Kd.S_ne HO_3.out BK101.out (by decide))); have n2_ := zA.mk (hb); have n3_ := zA.mk (ho); clear HO_4; clear BK101; clear HB; clear HO_3; clear HO115; have HO_4 := n0_; have BK101 := n1_; have HB := n2_; have HO131 := n3_; clear n0_ n1_ n2_ n3_; clear ho hb hg hat))
      go_roundg k2
      case measure => have := HK1.out; have := HK2.out; omega
      case rel => exact ⟨(y129), (wrap64 (x8_2 + 1)), (by first | rfl | (simp; done) | (simp [*]; done)), H', ⟨by have := HK1.out; have := HK2.out; omega⟩, ⟨by (with_reducible repeat (first | apply Kd.qJ | apply Kd.qK | apply Kd.qf)); exact HO131.out⟩, ⟨by (with_reducible repeat (first | apply Kd.qJ | apply Kd.qK | apply Kd.qf)); exact Kd.Zk HO_4.out (fun _ hk => hk.2)⟩, ⟨by (with_reducible repeat (first | refine zI ?_ _ | refine zJ ?_ | refine zH ?_ _)); exact BK101.out⟩, ⟨by repeat (first | (with_reducible first | exact HB.out | apply zC | apply zB | apply zD | refine zF ?_ GE101.out) | exact HB.out)⟩⟩
mutual
def zc.j0 : Nat → List Int → Bool → List (List (zq)) → Option (Bool)
 | 0, _, _, _ => none
 | k + 1, x1, x18, x102000 => if x18 = true then (some false) else (zc.l0 k x1 0 x102000)
def zc.l0 : Nat → List Int → Int → List (List (zq)) → Option (Bool)
 | 0, _, _, _ => none
 | k + 1, x1, x5, x102000 => if x5 < (x1.length : Int) then (if 0 ≤ x5 then ((Qg.f (rd x1 x5) 0 1000).bind fun t105 => (if t105 = true then (zc.l0 k x1 (wrap64 (x5 + 1)) x102000) else (some false))) else (none)) else ((ze.f k x102000).bind fun t106 => (zc.l1 k x1 t106 0))
def zc.l1 : Nat → List Int → List (List Int) → Int → Option (Bool)
 | 0, _, _, _ => none
 | k + 1, x1, x6, x7 => if x7 < (x6.length : Int) then (if 0 ≤ x7 then ((ZG.f k (zV x6 x7) x1).bind fun t110 => (if t110 = 0 then (zc.l1 k x1 x6 (wrap64 (x7 + 1))) else (some false))) else (none)) else (some true)
end
def zc.f (k : Nat) (l0_0 : List (List (zq))) (l1 : List Int) : Option (Bool) := (Zd.f k l0_0).bind fun t102 => (if t102 = 0 then ((zt.f l0_0).bind fun t103 => (zc.j0 k l1 ((l1.length : Int) != (wrap64 (7 * t103))) l0_0)) else (zc.j0 k l1 true l0_0))
set_option maxHeartbeats 8000000 in
set_option maxRecDepth 100000 in
theorem zc.calls (k : Nat) (A0_0 : Option Addr) (c0_0 : Nat) (l0_0 : List (List (zq))) (A1 : Option Addr) (c1 : Nat) (l1 : List Int) (r : Bool) (w : World) (hr0_0 : Kd.C (Kd.slice 115 ZB) w A0_0 l0_0.length l0_0) (hc0_0 : l0_0.length ≤ c0_0) (hr1 : Kd.C (Kd.int .i64) w A1 l1.length l1) (hc1 : l1.length ≤ c1) (h : zc.f k l0_0 l1 = some r) :
 Calls Try.prog 16 #[.agg #[.slice A0_0 l0_0.length c0_0], .slice A1 l1.length c1] w fun e w' => e = .returned (.bool r) ∧ Below w.heap.size w w' := by
 have hu30 := Try.underlying30
 have HR0_0 := zA.mk hr0_0
 have HC0_0 := zA.mk hc0_0
 clear hr0_0 hc0_0
 have HR1 := zA.mk hr1
 have HC1 := zA.mk hc1
 clear hr1 hc1
 have HB := zA.mk (yry w.heap.size w)
 have H : ((Zd.f k l0_0).bind fun t102 => (if t102 = 0 then ((zt.f l0_0).bind fun t103 => (zc.j0 k l1 ((l1.length : Int) != (wrap64 (7 * t103))) l0_0)) else (zc.j0 k l1 true l0_0))) = some r := h
 clear h
 have HC3 := zA.mk H
 clear H
 go_enter Try.func16, Try.ntmps16
 go_upto_region 1 with (first | ((with_reducible refine zm (N := 2) rfl ?_); (try (refine zEK (by rfl) ?_; dsimp only)); refine zo ?hg (N := 2) ?hd (cs := #[.slice A0_0 l0_0.length c0_0]) (t := 30) ?hr ?_; (case hd => rfl); (case hg => rfl); (case hr => first | (go_simp; done) | (go_simp; rfl)); intro gb101 hg w4 hbox hb; have n0_ := zA.mk (zN (by repeat (first | (with_reducible first | exact HB.out | apply zC | apply zB | apply zD) | exact HB.out)) hb); have n1_ := zA.mk (hbox); have n2_ := zA.mk ((by rw [hg]; exact (zO (by repeat (first | (with_reducible first | exact HB.out | apply zC | apply zB | apply zD) | exact HB.out))) : w.heap.size ≤ gb101)); have n3_ := zA.mk ((by rw [hg]; exact (zO (by repeat (first | (with_reducible first | exact HB.out | apply zC | apply zB | apply zD) | exact HB.out))) : w.heap.size ≤ gb101)); clear HB; have HB := n0_; have BK101 := n1_; have GW101 := n2_; have GE101 := n3_; clear n0_ n1_ n2_ n3_; clear hb hbox hg))
 (try simp only [Act.put, yay, yby, ycy])
 go_cut [18] (fun v18 wc => ∃ (kq : Nat) (x18_2 : Bool), v18 = .bool x18_2 ∧ zA (zc.j0 kq l1 x18_2 l0_0 = some r) ∧ zA (kq ≤ k) ∧ zA (wc.heap[gb101]? = some (.cells #[(.slice A0_0 l0_0.length c0_0)] 30 (0, 0))) ∧ zA (Below w.heap.size w wc))
 case first =>
  have H := HC3.out
  clear HC3
  replace H := ydy.mp H
  obtain ⟨t102, A50, H⟩ := H
  replace H : (if t102 = 0 then ((zt.f l0_0).bind fun t103 => (zc.j0 k l1 ((l1.length : Int) != (wrap64 (7 * t103))) l0_0)) else (zc.j0 k l1 true l0_0)) = some r := H
  have A5 := zA.mk A50
  clear A50
  by_cases c6 : t102 = 0
  rotate_left
  next =>
   rw [if_neg c6] at H
   have c6b0 : (t102 == 0) = false := beq_eq_false_iff_ne.mpr c6
   have c6b1 : (t102 != 0) = true := bne_iff_ne.mpr c6
   (first | rw [c6b0] | (simp only [zY, zZ]; rw [c6b0]) | skip)
   have H' := zA.mk H
   clear H
   have hcz12_0 : w4.cell? ⟨gb101, 0, none⟩ = some (.slice A0_0 l0_0.length c0_0) := (zK BK101.out 0).trans rfl
   have hfz12_0 := zM BK101.out 0
   go_wp2_with (first | ((with_reducible refine zT (f := 58) rfl ?_); refine qH (some 9) rfl rfl Try.func58 (by kernel_rfl) rfl #[.agg #[.slice A0_0 l0_0.length c0_0]] rfl (by (try simp only [yiy, yjy, yky]); first | done | rfl | (simp only [yly, ymy]; rfl)) ?_; (with_reducible refine (Zd.calls k _ _ l0_0 t102 _ ?side1 ?side2 A5.out).mono ?_); (case side1 => repeat (first | exact (Kd.zl HR0_0.out HB.out) | (with_reducible refine Kd.zh ?_ _) | (with_reducible refine Kd.zi ?_ _) | (with_reducible refine Kd.qA ?_))); (case side2 => exact HC0_0.out); rintro e w13 ⟨rfl, hb⟩; refine ⟨_, rfl, ?_⟩; have n0_ := zA.mk (zP (g := gb101) (o := .cells #[.slice A0_0 l0_0.length c0_0] 30 (0, 0)) (by (with_reducible repeat (first | refine zI ?_ _ | refine zJ ?_ | refine zH ?_ _)); exact BK101.out) hb); have n1_ := zA.mk (zN (by repeat (first | (with_reducible first | exact HB.out | apply zC | apply zB | apply zD | refine zF ?_ GE101.out) | exact HB.out)) hb); clear BK101; clear HB; have BK101 := n0_; have HB := n1_; clear n0_ n1_; (try clear hb); (try clear hb2); (try clear hk); (try clear hi)))
   go_meet
   case rel => exact ⟨_, (true), (by first | rfl | (simp; done) | (simp [*]; done)), H', ⟨by first | omega | exact yqy _⟩, ⟨by (with_reducible repeat (first | refine zI ?_ _ | refine zJ ?_ | refine zH ?_ _)); exact BK101.out⟩, ⟨by repeat (first | (with_reducible first | exact HB.out | apply zC | apply zB | apply zD | refine zF ?_ GE101.out) | exact HB.out)⟩⟩
  rw [if_pos c6] at H
  have c6b0 : (t102 == 0) = true := beq_iff_eq.mpr c6
  have c6b1 : (t102 != 0) = false := bne_eq_false_iff_eq.mpr c6
  clear c6
  (first | rw [c6b0] | (simp only [zY, zZ]; rw [c6b0]) | skip)
  replace H := ydy.mp H
  obtain ⟨t103, A70, H⟩ := H
  replace H : (zc.j0 k l1 ((l1.length : Int) != (wrap64 (7 * t103))) l0_0) = some r := H
  have A7 := zA.mk A70
  clear A70
  have H' := zA.mk H
  clear H
  have hcz8_0 : w4.cell? ⟨gb101, 0, none⟩ = some (.slice A0_0 l0_0.length c0_0) := (zK BK101.out 0).trans rfl
  have hfz8_0 := zM BK101.out 0
  go_wp2_with (first | ((with_reducible refine zT (f := 58) rfl ?_); refine qH (some 9) rfl rfl Try.func58 (by kernel_rfl) rfl #[.agg #[.slice A0_0 l0_0.length c0_0]] rfl (by (try simp only [yiy, yjy, yky]); first | done | rfl | (simp only [yly, ymy]; rfl)) ?_; (with_reducible refine (Zd.calls k _ _ l0_0 t102 _ ?side1 ?side2 A5.out).mono ?_); (case side1 => repeat (first | exact (Kd.zl HR0_0.out HB.out) | (with_reducible refine Kd.zh ?_ _) | (with_reducible refine Kd.zi ?_ _) | (with_reducible refine Kd.qA ?_))); (case side2 => exact HC0_0.out); rintro e w9 ⟨rfl, hb⟩; refine ⟨_, rfl, ?_⟩; have n0_ := zA.mk (zP (g := gb101) (o := .cells #[.slice A0_0 l0_0.length c0_0] 30 (0, 0)) (by (with_reducible repeat (first | refine zI ?_ _ | refine zJ ?_ | refine zH ?_ _)); exact BK101.out) hb); have n1_ := zA.mk (zN (by repeat (first | (with_reducible first | exact HB.out | apply zC | apply zB | apply zD | refine zF ?_ GE101.out) | exact HB.out)) hb); clear BK101; clear HB; have BK101 := n0_; have HB := n1_; clear n0_ n1_; (try clear hb); (try clear hb2); (try clear hk); (try clear hi); have hcz10_0 : w9.cell? ⟨gb101, 0, none⟩ = some (.slice A0_0 l0_0.length c0_0) := (zK BK101.out 0).trans rfl; have hfz10_0 := zM BK101.out 0) | (go_at_call 59; (with_reducible refine (zt.calls _ _ l0_0 t103 _ ?side1 ?side2 A7.out).mono ?_); (case side1 => repeat (first | exact (Kd.zl HR0_0.out HB.out) | (with_reducible refine Kd.zh ?_ _) | (with_reducible refine Kd.zi ?_ _) | (with_reducible refine Kd.qA ?_))); (case side2 => exact HC0_0.out); rintro e w11 ⟨rfl, hb⟩; have n0_ := zA.mk (zP (g := gb101) (o := .cells #[.slice A0_0 l0_0.length c0_0] 30 (0, 0)) (by (with_reducible repeat (first | refine zI ?_ _ | refine zJ ?_ | refine zH ?_ _)); exact BK101.out) hb); have n1_ := zA.mk (zN (by repeat (first | (with_reducible first | exact HB.out | apply zC | apply zB | apply zD | refine zF ?_ GE101.out) | exact HB.out)) hb); clear BK101; clear HB; have BK101 := n0_; have HB := n1_; clear n0_ n1_; (try clear hb); (try clear hb2); (try clear hk); (try clear hi)))
  go_meet
  case rel => exact ⟨_, (((l1.length : Int) != (wrap64 (7 * t103)))), (by first | rfl | (simp; done) | (simp [*]; done)), H', ⟨by first | omega | exact yqy _⟩, ⟨by (with_reducible repeat (first | refine zI ?_ _ | refine zJ ?_ | refine zH ?_ _)); exact BK101.out⟩, ⟨by repeat (first | (with_reducible first | exact HB.out | apply zC | apply zB | apply zD | refine zF ?_ GE101.out) | exact HB.out)⟩⟩
 case rest =>
  clear HC3
  try clear c1
  try clear p2
  try clear c5
  try clear c6
  try clear c6b0
  try clear c6b1
  try clear p6
  try clear hcz10_0
  try clear hcz12_0
  try clear hcz8_0
  try clear hfz10_0
  try clear hfz12_0
  try clear hfz8_0
  obtain ⟨kq, x18_2, rfl, HA, HJ2, BK101, HB⟩ := hcut
  cases kq with
  | zero => exact absurd HA.out (by simp [zc.j0])
  | succ kj2 =>
   have H := HA.out
   clear HA
   simp only [zc.j0] at H
   by_cases c14 : x18_2 = true
   next =>
    subst c14
    have H1 : (some false) = some r := by rw [if_pos rfl] at H; exact H
    clear H
    have H := H1
    clear H1
    obtain rfl := yey H
    go_wp2
    go_ret
    exact ⟨by first | rfl | (simp [zQ, zR] <;> rfl) | (simp [*, zQ, zR] <;> rfl), by repeat (first | (with_reducible first | exact HB.out | apply zC | apply zB | apply zD | refine zF ?_ GE101.out) | exact HB.out)⟩
   next =>
    replace c14 := Bool.eq_false_iff.mpr c14
    subst c14
    have H1 : (zc.l0 kj2 l1 0 l0_0) = some r := by rw [if_neg (show ¬ (false = true) by decide)] at H; exact H
    clear H
    have H := H1
    clear H1
    have H' := zA.mk H
    clear H
    go_wp2
    go_loopg [5] kj2 (fun kq v5 w' => ∃ (x5_2 : Int), v5 = .int .i64 x5_2 ∧ zA (zc.l0 kq l1 x5_2 l0_0 = some r) ∧ zA (kq ≤ kj2) ∧ zA (w'.heap[gb101]? = some (.cells #[(.slice A0_0 l0_0.length c0_0)] 30 (0, 0))) ∧ zA (Below w.heap.size w w'))
    case atStart => exact ⟨(0), (by first | rfl | (simp; done) | (simp [*]; done)), H', ⟨yqy _⟩, ⟨by (with_reducible repeat (first | refine zI ?_ _ | refine zJ ?_ | refine zH ?_ _)); exact BK101.out⟩, ⟨by repeat (first | (with_reducible first | exact HB.out | apply zC | apply zB | apply zD | refine zF ?_ GE101.out) | exact HB.out)⟩⟩
    case round =>
     clear H'
     try clear c1
     try clear p2
     try clear c5
     try clear c6
     try clear c6b0
     try clear c6b1
     try clear p6
     try clear c14
     try clear hcz10_0
     try clear hcz12_0
     try clear hcz8_0
     try clear hfz10_0
     try clear hfz12_0
     try clear hfz8_0
     try clear p2
     try clear p6
     obtain ⟨x5_2, rfl, HA, HK2, BK101, HB⟩ := hrel
     cases gk with
     | zero => exact absurd HA.out (by simp [zc.l0])
     | succ k2 =>
      have H := HA.out
      clear HA
      simp only [zc.l0] at H
      by_cases c15 : x5_2 < (l1.length : Int)
      next =>
       rw [if_pos c15] at H
       have c15b0 : decide (x5_2 < (l1.length : Int)) = true := ygy c15
       clear c15
       by_cases c16 : 0 ≤ x5_2
       rotate_left
       next =>
        rw [if_neg c16] at H
        exact absurd H (by simp)
       rw [if_pos c16] at H
       have c16b0 : decide (0 ≤ x5_2) = true := ygy c16
       clear c16
       replace H := ydy.mp H
       obtain ⟨t105, A170, H⟩ := H
       replace H : (if t105 = true then (zc.l0 k2 l1 (wrap64 (x5_2 + 1)) l0_0) else (some false)) = some r := H
       have A17 := zA.mk A170
       clear A170
       by_cases c18 : t105 = true
       rotate_left
       next =>
        replace c18 := Bool.eq_false_iff.mpr c18
        subst c18
        have H1 : (some false) = some r := by rw [if_neg (show ¬ (false = true) by decide)] at H; exact H
        clear H
        have H := H1
        clear H1
        obtain rfl := yey H
        have p104 : 0 ≤ (x5_2 : Int) := of_decide_eq_true (by first | (with_reducible assumption) | assumption)
        have q104 : x5_2 < (l1.length : Int) := of_decide_eq_true (by first | (with_reducible assumption) | assumption)
        obtain ⟨ad104, e104, hx104_0⟩ := Kd.ZD HR1.out x5_2 p104 q104
        cases e104
        replace hx104_0 := (HB.out.cell (ypy w _ hx104_0)).trans hx104_0
        replace p104 := eq_true p104
        replace q104 := eq_true q104
        go_wp2_with (first | ((with_reducible refine zT (f := 60) rfl ?_); refine qH (some 29) rfl rfl Try.func60 (by kernel_rfl) rfl #[.int .i64 (rd l1 x5_2), .int .i64 0, .int .i64 1000] rfl (by (try simp only [yiy, yjy, yky]); first | done | rfl | (simp only [yly, ymy]; rfl)) ?_; (with_reducible refine (Qg.calls (rd l1 x5_2) 0 1000 false _ A17.out).mono ?_); rintro e w' ⟨rfl, ⟨nd, rfl⟩⟩; refine ⟨_, rfl, ?_⟩))
        go_ret
        exact ⟨by first | rfl | (simp [zQ, zR] <;> rfl) | (simp [*, zQ, zR] <;> rfl), by repeat (first | (with_reducible first | exact HB.out | apply zC | apply zB | apply zD | refine zF ?_ GE101.out) | exact HB.out)⟩
       subst c18
       have H1 : (zc.l0 k2 l1 (wrap64 (x5_2 + 1)) l0_0) = some r := by rw [if_pos rfl] at H; exact H
       clear H
       have H := H1
       clear H1
       have H' := zA.mk H
       clear H
       have p104 : 0 ≤ (x5_2 : Int) := of_decide_eq_true (by first | (with_reducible assumption) | assumption)
       have q104 : x5_2 < (l1.length : Int) := of_decide_eq_true (by first | (with_reducible assumption) | assumption)
       obtain ⟨ad104, e104, hx104_0⟩ := Kd.ZD HR1.out x5_2 p104 q104
       cases e104
       replace hx104_0 := (HB.out.cell (ypy w _ hx104_0)).trans hx104_0
       replace p104 := eq_true p104
       replace q104 := eq_true q104
       go_wp2_with (first | ((with_reducible refine zT (f := 60) rfl ?_); refine qH (some 29) rfl rfl Try.func60 (by kernel_rfl) rfl #[.int .i64 (rd l1 x5_2), .int .i64 0, .int .i64 1000] rfl (by (try simp only [yiy, yjy, yky]); first | done | rfl | (simp only [yly, ymy]; rfl)) ?_; (with_reducible refine (Qg.calls (rd l1 x5_2) 0 1000 true _ A17.out).mono ?_); rintro e w' ⟨rfl, ⟨nd, rfl⟩⟩; refine ⟨_, rfl, ?_⟩))
       go_roundg k2
       case measure => have := HJ2.out; have := HK2.out; omega
       case rel => exact ⟨(wrap64 (x5_2 + 1)), (by first | rfl | (simp; done) | (simp [*]; done)), H', ⟨by have := HJ2.out; have := HK2.out; omega⟩, ⟨by (with_reducible repeat (first | refine zI ?_ _ | refine zJ ?_ | refine zH ?_ _)); exact BK101.out⟩, ⟨by repeat (first | (with_reducible first | exact HB.out | apply zC | apply zB | apply zD | refine zF ?_ GE101.out) | exact HB.out)⟩⟩
      next =>
       rw [if_neg c15] at H
       have c15b0 : decide (x5_2 < (l1.length : Int)) = false := yhy c15
       clear c15
       replace H := ydy.mp H
       obtain ⟨t106, A190, H⟩ := H
       replace H : (zc.l1 k2 l1 t106 0) = some r := H
       have A19 := zA.mk A190
       clear A190
       have H' := zA.mk H
       clear H
       have hcz20_0 : wr.cell? ⟨gb101, 0, none⟩ = some (.slice A0_0 l0_0.length c0_0) := (zK BK101.out 0).trans rfl
       have hfz20_0 := zM BK101.out 0
       go_wp2_with (first | ((with_reducible refine zT (f := 61) rfl ?_); refine qH (some 32) rfl rfl Try.func61 (by kernel_rfl) rfl #[.agg #[.slice A0_0 l0_0.length c0_0]] rfl (by (try simp only [yiy, yjy, yky]); first | done | rfl | (simp only [yly, ymy]; rfl)) ?_; (with_reducible refine (ze.calls k2 _ _ l0_0 t106 _ ?side1 ?side2 A19.out).mono ?_); (case side1 => repeat (first | exact (Kd.zl HR0_0.out HB.out) | (with_reducible refine Kd.zh ?_ _) | (with_reducible refine Kd.zi ?_ _) | (with_reducible refine Kd.qA ?_))); (case side2 => exact HC0_0.out); rintro e w21 ⟨v107, rfl, ho0, hb⟩; refine ⟨_, rfl, ?_⟩; have n0_ := zA.mk (Kd.Jt ho0 (zO (by repeat (first | (with_reducible first | exact HB.out | apply zC | apply zB | apply zD | refine zF ?_ GE101.out) | exact HB.out)))); have n1_ := zA.mk (zP (g := gb101) (o := .cells #[.slice A0_0 l0_0.length c0_0] 30 (0, 0)) (by (with_reducible repeat (first | refine zI ?_ _ | refine zJ ?_ | refine zH ?_ _)); exact BK101.out) hb); have n2_ := zA.mk (zN (by repeat (first | (with_reducible first | exact HB.out | apply zC | apply zB | apply zD | refine zF ?_ GE101.out) | exact HB.out)) hb); clear BK101; clear HB; have HO108 := n0_; have BK101 := n1_; have HB := n2_; clear n0_ n1_ n2_; (try clear hb); (try clear hb2); (try clear hk); (try clear hi); (try clear ho0)))
       go_loopg [7] k2 (fun kq v7 w' => ∃ (x7_3 : Int), v7 = .int .i64 x7_3 ∧ zA (zc.l1 kq l1 t106 x7_3 = some r) ∧ zA (kq ≤ k2) ∧ zA (Kd.S (Kd.slice 2 (Kd.int .i64)) 25 w' w.heap.size (fun _ => True) v107 t106) ∧ zA (w'.heap[gb101]? = some (.cells #[(.slice A0_0 l0_0.length c0_0)] 30 (0, 0))) ∧ zA (Below w.heap.size w w'))
       case atStart => exact ⟨(0), (by first | rfl | (simp; done) | (simp [*]; done)), H', ⟨yqy _⟩, ⟨by (with_reducible repeat (first | apply Kd.qJ | apply Kd.qK | apply Kd.qf)); exact HO108.out⟩, ⟨by (with_reducible repeat (first | refine zI ?_ _ | refine zJ ?_ | refine zH ?_ _)); exact BK101.out⟩, ⟨by repeat (first | (with_reducible first | exact HB.out | apply zC | apply zB | apply zD | refine zF ?_ GE101.out) | exact HB.out)⟩⟩
       case round =>
        clear H'
        try clear c1
        try clear p1
        try clear q1
        try clear hx1
        try clear p2
        try clear c5
        try clear c6
        try clear c6b0
        try clear c6b1
        try clear p6
        try clear p10
        try clear q10
        try clear hx10
        try clear c14
        try clear c15
        try clear c15b0
        try clear c16
        try clear c16b0
        try clear c18
        try clear hcz10_0
        try clear hcz12_0
        try clear hcz20_0
        try clear hcz8_0
        try clear hfz10_0
        try clear hfz12_0
        try clear hfz20_0
        try clear hfz8_0
        try clear hx104_0
        try clear p104
        try clear p2
        try clear p6
        try clear q104
        obtain ⟨x7_3, rfl, HA, HK3, HO_6, BK101, HB⟩ := hrel
        cases gk with
        | zero => exact absurd HA.out (by simp [zc.l1])
        | succ k3 =>
         have H := HA.out
         clear HA
         simp only [zc.l1] at H
         by_cases c22 : x7_3 < (t106.length : Int)
         rotate_left
         next =>
          rw [if_neg c22] at H
          have c22b0 : decide (x7_3 < (t106.length : Int)) = false := yhy c22
          clear c22
          obtain rfl := yey H
          obtain ⟨Ao28, co28, eo28⟩ := Kd.JO HO_6.out
          subst eo28
          go_wp2
          go_ret
          exact ⟨by first | rfl | (simp [zQ, zR] <;> rfl) | (simp [*, zQ, zR] <;> rfl), by repeat (first | (with_reducible first | exact HB.out | apply zC | apply zB | apply zD | refine zF ?_ GE101.out) | exact HB.out)⟩
         rw [if_pos c22] at H
         have c22b0 : decide (x7_3 < (t106.length : Int)) = true := ygy c22
         clear c22
         by_cases c23 : 0 ≤ x7_3
         rotate_left
         next =>
          rw [if_neg c23] at H
          exact absurd H (by simp)
         rw [if_pos c23] at H
         have c23b0 : decide (0 ≤ x7_3) = true := ygy c23
         clear c23
         replace H := ydy.mp H
         obtain ⟨t110, A240, H⟩ := H
         replace H : (if t110 = 0 then (zc.l1 k3 l1 t106 (wrap64 (x7_3 + 1))) else (some false)) = some r := H
         have A24 := zA.mk A240
         clear A240
         by_cases c25 : t110 = 0
         rotate_left
         next =>
          rw [if_neg c25] at H
          have c25b0 : (t110 == 0) = false := beq_eq_false_iff_ne.mpr c25
          have c25b1 : (t110 != 0) = true := bne_iff_ne.mpr c25
          obtain rfl := yey H
          obtain ⟨Ao27, co27, eo27⟩ := Kd.JO HO_6.out
          subst eo27
          have p109 : 0 ≤ (x7_3 : Int) := of_decide_eq_true (by first | (with_reducible assumption) | assumption)
          have q109 : x7_3 < (t106.length : Int) := of_decide_eq_true (by first | (with_reducible assumption) | assumption)
          obtain ⟨ad109, A109_0, c109_0, e109, hx109_0, hl109_0, hi109_0⟩ := QM (Kd.Zt HO_6.out).2.2 x7_3 p109 q109
          cases e109
          obtain ⟨ce109, hce109, hMe109, hcc109⟩ := Kd.zFk HO_6.out [] x7_3 p109 (by first | exact q109 | exact of_decide_eq_true (by first | (with_reducible assumption) | assumption) | (have e_ := (Kd.Zt HO_6.out).1; omega))
          obtain ⟨ve109_0, rfl, ge109_0⟩ := hMe109
          have hv109_0 := hcc109 0 _ rfl
          rw [Nat.add_zero, show ((Kd.slice 2 (Kd.int .i64))).sz = 1 from rfl, Nat.mul_one] at hv109_0
          replace hv109_0 := yey (hv109_0.symm.trans hx109_0)
          rw [hv109_0] at ge109_0
          have HL109_0 := zA.mk (show Kd.R (Kd.int .i64) 2 _ _ _ _ (zV t106 x7_3) from ge109_0)
          clear hv109_0 ge109_0
          clear hcc109 hce109
          have HR109_0 := zA.mk hi109_0
          have HC109_0 := zA.mk hl109_0
          clear hi109_0 hl109_0
          replace p109 := eq_true p109
          replace q109 := eq_true q109
          go_wp2_with (first | ((with_reducible refine zT (f := 62) rfl ?_); refine qH (some 44) rfl rfl Try.func62 (by kernel_rfl) rfl #[.slice A109_0 (zV t106 x7_3).length c109_0, .slice A1 l1.length c1] rfl (by (try simp only [yiy, yjy, yky]); first | done | rfl | (simp only [yly, ymy]; rfl)) ?_; (with_reducible refine (ZG.calls k3 _ _ (zV t106 x7_3) _ _ l1 t110 _ ?side1 ?side2 ?side3 ?side4 A24.out).mono ?_); (case side1 => repeat (first | exact (by repeat (first | (with_reducible exact HR109_0.out) | (with_reducible refine Kd.zh ?_ _) | (with_reducible refine Kd.zi ?_ _) | (with_reducible refine Kd.qA ?_) | exact HR109_0.out)) | (with_reducible refine Kd.zh ?_ _) | (with_reducible refine Kd.zi ?_ _) | (with_reducible refine Kd.qA ?_))); (case side2 => exact HC109_0.out); (case side3 => repeat (first | exact (Kd.zl HR1.out HB.out) | (with_reducible refine Kd.zh ?_ _) | (with_reducible refine Kd.zi ?_ _) | (with_reducible refine Kd.qA ?_))); (case side4 => exact HC1.out); rintro e w' ⟨rfl, ⟨nd, rfl⟩⟩; refine ⟨_, rfl, ?_⟩))
          go_ret
          exact ⟨by first | rfl | (simp [zQ, zR] <;> rfl) | (simp [*, zQ, zR] <;> rfl), by repeat (first | (with_reducible first | exact HB.out | apply zC | apply zB | apply zD | refine zF ?_ GE101.out) | exact HB.out)⟩
         rw [if_pos c25] at H
         have c25b0 : (t110 == 0) = true := beq_iff_eq.mpr c25
         have c25b1 : (t110 != 0) = false := bne_eq_false_iff_eq.mpr c25
         clear c25
         have H' := zA.mk H
         clear H
         obtain ⟨Ao26, co26, eo26⟩ := Kd.JO HO_6.out
         subst eo26
         have p109 : 0 ≤ (x7_3 : Int) := of_decide_eq_true (by first | (with_reducible assumption) | assumption)
         have q109 : x7_3 < (t106.length : Int) := of_decide_eq_true (by first | (with_reducible assumption) | assumption)
         obtain ⟨ad109, A109_0, c109_0, e109, hx109_0, hl109_0, hi109_0⟩ := QM (Kd.Zt HO_6.out).2.2 x7_3 p109 q109
         cases e109
         obtain ⟨ce109, hce109, hMe109, hcc109⟩ := Kd.zFk HO_6.out [] x7_3 p109 (by first | exact q109 | exact of_decide_eq_true (by first | (with_reducible assumption) | assumption) | (have e_ := (Kd.Zt HO_6.out).1; omega))
         obtain ⟨ve109_0, rfl, ge109_0⟩ := hMe109
         have hv109_0 := hcc109 0 _ rfl
         rw [Nat.add_zero, show ((Kd.slice 2 (Kd.int .i64))).sz = 1 from rfl, Nat.mul_one] at hv109_0
         replace hv109_0 := yey (hv109_0.symm.trans hx109_0)
         rw [hv109_0] at ge109_0
         have HL109_0 := zA.mk (show Kd.R (Kd.int .i64) 2 _ _ _ _ (zV t106 x7_3) from ge109_0)
         clear hv109_0 ge109_0
         clear hcc109 hce109
         have HR109_0 := zA.mk hi109_0
         have HC109_0 := zA.mk hl109_0
         clear hi109_0 hl109_0
         replace p109 := eq_true p109
         replace q109 := eq_true q109
         go_wp2_with (first | ((with_reducible refine zT (f := 62) rfl ?_); refine qH (some 44) rfl rfl Try.func62 (by kernel_rfl) rfl #[.slice A109_0 (zV t106 x7_3).length c109_0, .slice A1 l1.length c1] rfl (by (try simp only [yiy, yjy, yky]); first | done | rfl | (simp only [yly, ymy]; rfl)) ?_; (with_reducible refine (ZG.calls k3 _ _ (zV t106 x7_3) _ _ l1 t110 _ ?side1 ?side2 ?side3 ?side4 A24.out).mono ?_); (case side1 => repeat (first | exact (by repeat (first | (with_reducible exact HR109_0.out) | (with_reducible refine Kd.zh ?_ _) | (with_reducible refine Kd.zi ?_ _) | (with_reducible refine Kd.qA ?_) | exact HR109_0.out)) | (with_reducible refine Kd.zh ?_ _) | (with_reducible refine Kd.zi ?_ _) | (with_reducible refine Kd.qA ?_))); (case side2 => exact HC109_0.out); (case side3 => repeat (first | exact (Kd.zl HR1.out HB.out) | (with_reducible refine Kd.zh ?_ _) | (with_reducible refine Kd.zi ?_ _) | (with_reducible refine Kd.qA ?_))); (case side4 => exact HC1.out); rintro e w' ⟨rfl, ⟨nd, rfl⟩⟩; refine ⟨_, rfl, ?_⟩))
         go_roundg k3
         case measure => have := HJ2.out; have := HK2.out; have := HK3.out; omega
         case rel => exact ⟨(wrap64 (x7_3 + 1)), (by first | rfl | (simp; done) | (simp [*]; done)), H', ⟨by have := HJ2.out; have := HK2.out; have := HK3.out; omega⟩, ⟨by (with_reducible repeat (first | apply Kd.qJ | apply Kd.qK | apply Kd.qf)); exact HO_6.out⟩, ⟨by (with_reducible repeat (first | refine zI ?_ _ | refine zJ ?_ | refine zH ?_ _)); exact BK101.out⟩, ⟨by repeat (first | (with_reducible first | exact HB.out | apply zC | apply zB | apply zD | refine zF ?_ GE101.out) | exact HB.out)⟩⟩
mutual
def qM.l0 : Nat → List Int → Int → Option (Bool)
  | 0, _, _ => none
  | k + 1, x0, x3 => if (wrap64 (x3 + 7)) ≤ (x0.length : Int) then (qM.l1 k x0 x3 0 4) else (some true)
def qM.l1 : Nat → List Int → Int → Int → Int → Option (Bool)
  | 0, _, _, _, _ => none
  | k + 1, x0, x3, x4, x5 => if x5 < 7 then (if 0 ≤ (wrap64 (x3 + x5)) then (if (wrap64 (x3 + x5)) < (x0.length : Int) then (if (rd x0 (wrap64 (x3 + x5))) > 0 then (qM.l1 k x0 x3 (wrap64 (x4 + 1)) (wrap64 (x5 + 1))) else (qM.l1 k x0 x3 x4 (wrap64 (x5 + 1)))) else (none)) else (none)) else (if x4 > 1 then (some false) else (qM.l0 k x0 (wrap64 (x3 + 7))))
end
def qM.f (k : Nat) (l0 : List Int) : Option (Bool) := qM.l0 k l0 0
set_option maxHeartbeats 8000000 in
set_option maxRecDepth 100000 in
theorem qM.calls (k : Nat) (A0 : Option Addr) (c0 : Nat) (l0 : List Int) (r : Bool) (w : World) (hr0 : Kd.C (Kd.int .i64) w A0 l0.length l0) (hc0 : l0.length ≤ c0) (h : qM.f k l0 = some r) :
    Calls Try.prog 69 #[.slice A0 l0.length c0] w fun e w' => e = .returned (.bool r) ∧ zX w w' := by
  have HR0 := zA.mk hr0
  have HC0 := zA.mk hc0
  clear hr0 hc0
  have H : (qM.l0 k l0 0) = some r := h
  clear h
  have H' := zA.mk H
  clear H
  go_enter Try.func69, Try.ntmps69
  go_wp2
  go_loopg [3] k (fun kq v3 w' => ∃ (x3_1 : Int), v3 = .int .i64 x3_1 ∧ zA (qM.l0 kq l0 x3_1 = some r) ∧ zA (kq ≤ k) ∧ zX w w')
  case atStart => exact ⟨(0), (by first | rfl | (simp; done) | (simp [*]; done)), H', ⟨yqy _⟩, by repeat (first | exact zX.refl _ | apply zX.step)⟩
  case round =>
    clear H'
    obtain ⟨x3_1, rfl, HA, HK1, ⟨m1, rfl⟩⟩ := hrel
    cases gk with
    | zero => exact absurd HA.out (by simp [qM.l0])
    | succ k1 =>
      have H := HA.out
      clear HA
      simp only [qM.l0] at H
      by_cases c2 : (wrap64 (x3_1 + 7)) ≤ (l0.length : Int)
      · rw [if_pos c2] at H
        have c2b0 : decide ((wrap64 (x3_1 + 7)) ≤ (l0.length : Int)) = true := ygy c2
        clear c2
        have H' := zA.mk H
        clear H
        go_wp2
        go_loopg [4, 5] k1 (fun kq v4 v5 w' => ∃ (x4_2 : Int) (x5_2 : Int), v4 = .int .i64 x4_2 ∧ v5 = .int .i64 x5_2 ∧ zA (qM.l1 kq l0 x3_1 x4_2 x5_2 = some r) ∧ zA (kq ≤ k1) ∧ zX w w')
        case atStart => exact ⟨(0), (4), (by first | rfl | (simp; done) | (simp [*]; done)), (by first | rfl | (simp; done) | (simp [*]; done)), H', ⟨yqy _⟩, by repeat (first | exact zX.refl _ | apply zX.step)⟩
        case round =>
          clear H'
          try clear c2
          try clear c2b0
          try clear p2
          obtain ⟨x4_2, x5_2, rfl, rfl, HA, HK2, ⟨m2, rfl⟩⟩ := hrel
          cases gk with
          | zero => exact absurd HA.out (by simp [qM.l1])
          | succ k2 =>
            have H := HA.out
            clear HA
            simp only [qM.l1] at H
            by_cases c3 : x5_2 < 7
            · rw [if_pos c3] at H
              have c3b0 : decide (x5_2 < 7) = true := ygy c3
              clear c3
              obtain ⟨ji4, hji4⟩ : ∃ j_ : Int, (wrap64 (x3_1 + x5_2)) = j_ := ⟨_, rfl⟩
              replace H : (if 0 ≤ (ji4) then (if (ji4) < (l0.length : Int) then (if (rd l0 (ji4)) > 0 then (qM.l1 k2 l0 x3_1 (wrap64 (x4_2 + 1)) (wrap64 (x5_2 + 1))) else (qM.l1 k2 l0 x3_1 x4_2 (wrap64 (x5_2 + 1)))) else (none)) else (none)) = some r := by first | (rw [hji4] at H; exact H) | (simp only [hji4] at H ⊢; exact H)
              have hji4w : (IntKind.i64.wrap (x3_1 + x5_2)) = ji4 := (zY _).trans hji4
              by_cases c5 : 0 ≤ (ji4)
              · rw [if_pos c5] at H
                have c5b0 : decide (0 ≤ (ji4)) = true := ygy c5
                clear c5
                by_cases c6 : (ji4) < (l0.length : Int)
                · rw [if_pos c6] at H
                  have c6b0 : decide ((ji4) < (l0.length : Int)) = true := ygy c6
                  clear c6
                  by_cases c7 : (rd l0 (ji4)) > 0
                  · rw [if_pos c7] at H
                    have c7b0 : decide (0 < (rd l0 (ji4))) = true := ygy c7
                    clear c7
                    have H' := zA.mk H
                    clear H
                    have p101 : 0 ≤ ((ji4) : Int) := of_decide_eq_true (by first | (with_reducible assumption) | assumption)
                    have q101 : (ji4) < (l0.length : Int) := of_decide_eq_true (by first | (with_reducible assumption) | assumption)
                    obtain ⟨ad101, e101, hx101_0⟩ := Kd.ZD HR0.out (ji4) p101 q101
                    cases e101
                    replace p101 := eq_true p101
                    replace q101 := eq_true q101
                    go_wp2
                    go_roundg k2
                    case measure => have := HK1.out; have := HK2.out; omega
                    case rel => exact ⟨(wrap64 (x4_2 + 1)), (wrap64 (x5_2 + 1)), (by first | rfl | (simp; done) | (simp [*]; done)), (by first | rfl | (simp; done) | (simp [*]; done)), H', ⟨by have := HK1.out; have := HK2.out; omega⟩, by repeat (first | exact zX.refl _ | apply zX.step)⟩
                  · rw [if_neg c7] at H
                    have c7b0 : decide (0 < (rd l0 (ji4))) = false := yhy c7
                    clear c7
                    have H' := zA.mk H
                    clear H
                    have p101 : 0 ≤ ((ji4) : Int) := of_decide_eq_true (by first | (with_reducible assumption) | assumption)
                    have q101 : (ji4) < (l0.length : Int) := of_decide_eq_true (by first | (with_reducible assumption) | assumption)
                    obtain ⟨ad101, e101, hx101_0⟩ := Kd.ZD HR0.out (ji4) p101 q101
                    cases e101
                    replace p101 := eq_true p101
                    replace q101 := eq_true q101
                    go_wp2
                    go_roundg k2
                    case measure => have := HK1.out; have := HK2.out; omega
                    case rel => exact ⟨(x4_2), (wrap64 (x5_2 + 1)), (by first | rfl | (simp; done) | (simp [*]; done)), (by first | rfl | (simp; done) | (simp [*]; done)), H', ⟨by have := HK1.out; have := HK2.out; omega⟩, by repeat (first | exact zX.refl _ | apply zX.step)⟩
                · rw [if_neg c6] at H
                  exact absurd H (by simp)
              · rw [if_neg c5] at H
                exact absurd H (by simp)
            · rw [if_neg c3] at H
              have c3b0 : decide (x5_2 < 7) = false := yhy c3
              clear c3
              by_cases c8 : x4_2 > 1
              · rw [if_pos c8] at H
                have c8b0 : decide (1 < x4_2) = true := ygy c8
                clear c8
                obtain rfl := yey H
                go_wp2
                go_ret
                exact ⟨by first | rfl | (simp; done) | (simp [*]; done), by repeat (first | exact zX.refl _ | apply zX.step)⟩
              · rw [if_neg c8] at H
                have c8b0 : decide (1 < x4_2) = false := yhy c8
                clear c8
                have H' := zA.mk H
                clear H
                go_wp2
                go_roundg k2
                case measure => have := HK1.out; have := HK2.out; omega
                case rel => exact ⟨(wrap64 (x3_1 + 7)), (by first | rfl | (simp; done) | (simp [*]; done)), H', ⟨by have := HK1.out; have := HK2.out; omega⟩, by repeat (first | exact zX.refl _ | apply zX.step)⟩
      · rw [if_neg c2] at H
        have c2b0 : decide ((wrap64 (x3_1 + 7)) ≤ (l0.length : Int)) = false := yhy c2
        clear c2
        obtain rfl := yey H
        go_wp2
        go_ret
        exact ⟨by first | rfl | (simp; done) | (simp [*]; done), by repeat (first | exact zX.refl _ | apply zX.step)⟩
def ZX.f (k : Nat) (l0_0 : List (List (zq))) (l1 : List Int) : Option (Bool) := (zc.f k l0_0 l1).bind fun t102 => (if t102 = true then ((qM.f k l1).bind fun t103 => (some t103)) else (some false))
set_option maxHeartbeats 8000000 in
set_option maxRecDepth 100000 in
theorem ZX.calls (k : Nat) (A0_0 : Option Addr) (c0_0 : Nat) (l0_0 : List (List (zq))) (A1 : Option Addr) (c1 : Nat) (l1 : List Int) (r : Bool) (w : World) (hr0_0 : Kd.C (Kd.slice 115 ZB) w A0_0 l0_0.length l0_0) (hc0_0 : l0_0.length ≤ c0_0) (hr1 : Kd.C (Kd.int .i64) w A1 l1.length l1) (hc1 : l1.length ≤ c1) (h : ZX.f k l0_0 l1 = some r) :
    Calls Try.prog 28 #[.agg #[.slice A0_0 l0_0.length c0_0], .slice A1 l1.length c1] w fun e w' => e = .returned (.bool r) ∧ Below w.heap.size w w' := by
  have hu30 := Try.underlying30
  have HR0_0 := zA.mk hr0_0
  have HC0_0 := zA.mk hc0_0
  clear hr0_0 hc0_0
  have HR1 := zA.mk hr1
  have HC1 := zA.mk hc1
  clear hr1 hc1
  have HB := zA.mk (yry w.heap.size w)
  have H : ((zc.f k l0_0 l1).bind fun t102 => (if t102 = true then ((qM.f k l1).bind fun t103 => (some t103)) else (some false))) = some r := h
  clear h
  replace H := ydy.mp H
  obtain ⟨t102, A30, H⟩ := H
  replace H : (if t102 = true then ((qM.f k l1).bind fun t103 => (some t103)) else (some false)) = some r := H
  have A3 := zA.mk A30
  clear A30
  by_cases c4 : t102 = true
  · subst c4
    have H1 : ((qM.f k l1).bind fun t103 => (some t103)) = some r := by rw [if_pos rfl] at H; exact H
    clear H
    have H := H1
    clear H1
    replace H := ydy.mp H
    obtain ⟨t103, A50, H⟩ := H
    replace H : (some t103) = some r := H
    have A5 := zA.mk A50
    clear A50
    obtain rfl := yey H
    go_enter Try.func28, Try.ntmps28
    go_wp2_with (first | ((with_reducible refine zm (N := 2) rfl ?_); refine zo ?hg (N := 2) ?hd (cs := #[.slice A0_0 l0_0.length c0_0]) (t := 30) ?hr ?_; (case hd => rfl); (case hg => rfl); (case hr => first | (go_simp; done) | (go_simp; rfl)); intro gb101 hg w6 hbox hb; have n0_ := zA.mk (zN (by repeat (first | (with_reducible first | exact HB.out | apply zC | apply zB | apply zD) | exact HB.out)) hb); have n1_ := zA.mk (hbox); have n2_ := zA.mk ((by rw [hg]; exact (zO (by repeat (first | (with_reducible first | exact HB.out | apply zC | apply zB | apply zD) | exact HB.out))) : w.heap.size ≤ gb101)); have n3_ := zA.mk ((by rw [hg]; exact (zO (by repeat (first | (with_reducible first | exact HB.out | apply zC | apply zB | apply zD) | exact HB.out))) : w.heap.size ≤ gb101)); clear HB; have HB := n0_; have BK101 := n1_; have GW101 := n2_; have GE101 := n3_; clear n0_ n1_ n2_ n3_; clear hb hbox hg; have hcz7_0 : w6.cell? ⟨gb101, 0, none⟩ = some (.slice A0_0 l0_0.length c0_0) := (zK BK101.out 0).trans rfl; have hfz7_0 := zM BK101.out 0) | ((with_reducible refine zT (f := 16) rfl ?_); refine qH (some 7) rfl rfl Try.func16 (by kernel_rfl) rfl #[.agg #[.slice A0_0 l0_0.length c0_0], .slice A1 l1.length c1] rfl (by (try simp only [yiy, yjy, yky]); first | done | rfl | (simp only [yly, ymy]; rfl)) ?_; (with_reducible refine (zc.calls k _ _ l0_0 _ _ l1 true _ ?side1 ?side2 ?side3 ?side4 A3.out).mono ?_); (case side1 => repeat (first | exact (Kd.zl HR0_0.out HB.out) | (with_reducible refine Kd.zh ?_ _) | (with_reducible refine Kd.zi ?_ _) | (with_reducible refine Kd.qA ?_))); (case side2 => exact HC0_0.out); (case side3 => repeat (first | exact (Kd.zl HR1.out HB.out) | (with_reducible refine Kd.zh ?_ _) | (with_reducible refine Kd.zi ?_ _) | (with_reducible refine Kd.qA ?_))); (case side4 => exact HC1.out); rintro e w8 ⟨rfl, hb⟩; refine ⟨_, rfl, ?_⟩; have n0_ := zA.mk (zP (g := gb101) (o := .cells #[.slice A0_0 l0_0.length c0_0] 30 (0, 0)) (by (with_reducible repeat (first | refine zI ?_ _ | refine zJ ?_ | refine zH ?_ _)); exact BK101.out) hb); have n1_ := zA.mk (zN (by repeat (first | (with_reducible first | exact HB.out | apply zC | apply zB | apply zD | refine zF ?_ GE101.out) | exact HB.out)) hb); clear BK101; clear HB; have BK101 := n0_; have HB := n1_; clear n0_ n1_; (try clear hb); (try clear hb2); (try clear hk); (try clear hi)) | (go_at_call 69; (with_reducible refine (qM.calls k _ _ l1 t103 _ ?side1 ?side2 A5.out).mono ?_); (case side1 => repeat (first | exact (Kd.zl HR1.out HB.out) | (with_reducible refine Kd.zh ?_ _) | (with_reducible refine Kd.zi ?_ _) | (with_reducible refine Kd.qA ?_))); (case side2 => exact HC1.out); rintro e w' ⟨rfl, ⟨nd, rfl⟩⟩))
    go_ret
    exact ⟨by first | rfl | (simp [zQ, zR] <;> rfl) | (simp [*, zQ, zR] <;> rfl), by repeat (first | (with_reducible first | exact HB.out | apply zC | apply zB | apply zD | refine zF ?_ GE101.out) | exact HB.out)⟩
  · replace c4 := Bool.eq_false_iff.mpr c4
    subst c4
    have H1 : (some false) = some r := by rw [if_neg (show ¬ (false = true) by decide)] at H; exact H
    clear H
    have H := H1
    clear H1
    obtain rfl := yey H
    go_enter Try.func28, Try.ntmps28
    go_wp2_with (first | ((with_reducible refine zm (N := 2) rfl ?_); refine zo ?hg (N := 2) ?hd (cs := #[.slice A0_0 l0_0.length c0_0]) (t := 30) ?hr ?_; (case hd => rfl); (case hg => rfl); (case hr => first | (go_simp; done) | (go_simp; rfl)); intro gb101 hg w9 hbox hb; have n0_ := zA.mk (zN (by repeat (first | (with_reducible first | exact HB.out | apply zC | apply zB | apply zD) | exact HB.out)) hb); have n1_ := zA.mk (hbox); have n2_ := zA.mk ((by rw [hg]; exact (zO (by repeat (first | (with_reducible first | exact HB.out | apply zC | apply zB | apply zD) | exact HB.out))) : w.heap.size ≤ gb101)); have n3_ := zA.mk ((by rw [hg]; exact (zO (by repeat (first | (with_reducible first | exact HB.out | apply zC | apply zB | apply zD) | exact HB.out))) : w.heap.size ≤ gb101)); clear HB; have HB := n0_; have BK101 := n1_; have GW101 := n2_; have GE101 := n3_; clear n0_ n1_ n2_ n3_; clear hb hbox hg; have hcz10_0 : w9.cell? ⟨gb101, 0, none⟩ = some (.slice A0_0 l0_0.length c0_0) := (zK BK101.out 0).trans rfl; have hfz10_0 := zM BK101.out 0) | ((with_reducible refine zT (f := 16) rfl ?_); refine qH (some 7) rfl rfl Try.func16 (by kernel_rfl) rfl #[.agg #[.slice A0_0 l0_0.length c0_0], .slice A1 l1.length c1] rfl (by (try simp only [yiy, yjy, yky]); first | done | rfl | (simp only [yly, ymy]; rfl)) ?_; (with_reducible refine (zc.calls k _ _ l0_0 _ _ l1 false _ ?side1 ?side2 ?side3 ?side4 A3.out).mono ?_); (case side1 => repeat (first | exact (Kd.zl HR0_0.out HB.out) | (with_reducible refine Kd.zh ?_ _) | (with_reducible refine Kd.zi ?_ _) | (with_reducible refine Kd.qA ?_))); (case side2 => exact HC0_0.out); (case side3 => repeat (first | exact (Kd.zl HR1.out HB.out) | (with_reducible refine Kd.zh ?_ _) | (with_reducible refine Kd.zi ?_ _) | (with_reducible refine Kd.qA ?_))); (case side4 => exact HC1.out); rintro e w11 ⟨rfl, hb⟩; refine ⟨_, rfl, ?_⟩; have n0_ := zA.mk (zP (g := gb101) (o := .cells #[.slice A0_0 l0_0.length c0_0] 30 (0, 0)) (by (with_reducible repeat (first | refine zI ?_ _ | refine zJ ?_ | refine zH ?_ _)); exact BK101.out) hb); have n1_ := zA.mk (zN (by repeat (first | (with_reducible first | exact HB.out | apply zC | apply zB | apply zD | refine zF ?_ GE101.out) | exact HB.out)) hb); clear BK101; clear HB; have BK101 := n0_; have HB := n1_; clear n0_ n1_; (try clear hb); (try clear hb2); (try clear hk); (try clear hi)))
    go_ret
    exact ⟨by first | rfl | (simp [zQ, zR] <;> rfl) | (simp [*, zQ, zR] <;> rfl), by repeat (first | (with_reducible first | exact HB.out | apply zC | apply zB | apply zD | refine zF ?_ GE101.out) | exact HB.out)⟩
def qP.l0 : Nat → List Int → List Int → Int → List Int → Int → Option (List Int)
  | 0, _, _, _, _, _ => none
  | k + 1, x0, x1, x2, x7, x8 => if x8 < (x0.length : Int) then (if 0 ≤ x8 then (if x8 < (x1.length : Int) then (if x7.length < 17592186044416 then (qP.l0 k x0 x1 x2 (x7 ++ [wrap64 ((rd x0 x8) + (wrap64 (x2 * (rd x1 x8))))]) (wrap64 (x8 + 1))) else (none)) else (none)) else (none)) else (some x7)
def qP.f (k : Nat) (l0 : List Int) (l1 : List Int) (a2 : Int) : Option (List Int) := qP.l0 k l0 l1 a2 (([] : List Int)) 0
def qP.T5 : Bool × List (List Nat × List Nat) := (true, [([], []), ([], []), ([], []), ([1, 2], [1, 2]), ([3], [3]), ([], []), ([], []), ([], []), ([6, 7], [6, 7]), ([8], [8]), ([5, 9], [5, 9]), ([4, 10], [4, 10]), ([11], [11]), ([0, 12], [0, 12]), ([13, 13, 0, 1, 2, 3, 4, 5, 6, 7, 8, 9, 10, 11, 12, 13], [0, 13])])
def qP.B5 : List Nat := [0, 0, 0, 6, 14, 0, 0, 0, 192, 448, 992, 2046, 4094, 8191, 16383]
theorem qP.tab5 : zAf .any (opsOf Try.f71 5) = qP.T5 := by kernel_rfl
theorem qP.bits5 : Qx qP.T5.2 qP.B5 = true := by kernel_rfl
set_option maxHeartbeats 8000000 in
set_option maxRecDepth 100000 in
theorem qP.calls (k : Nat) (A0 : Option Addr) (c0 : Nat) (l0 : List Int) (A1 : Option Addr) (c1 : Nat) (l1 : List Int) (a2 : Int) (r : List Int) (w : World) (hr0 : Kd.C (Kd.int .i64) w A0 l0.length l0) (hc0 : l0.length ≤ c0) (hr1 : Kd.C (Kd.int .i64) w A1 l1.length l1) (hc1 : l1.length ≤ c1) (h : qP.f k l0 l1 a2 = some r) :
    Calls Try.prog 71 #[.slice A0 l0.length c0, .slice A1 l1.length c1, .int .i64 a2] w fun e w' => ∃ v0_ : Value, e = .returned (v0_) ∧ Kd.R (Kd.int .i64) 2 w' w.heap.size (fun _ => True) v0_ r ∧ Below w.heap.size w w' := by
  have HR0 := zA.mk hr0
  have HC0 := zA.mk hc0
  clear hr0 hc0
  have HR1 := zA.mk hr1
  have HC1 := zA.mk hc1
  clear hr1 hc1
  have HB := zA.mk (yry w.heap.size w)
  have H : (qP.l0 k l0 l1 a2 (([] : List Int)) 0) = some r := h
  clear h
  obtain ⟨y101, hy101⟩ : ∃ y_ : List Int, y_ = (([] : List Int)) := ⟨_, rfl⟩
  replace H : (qP.l0 k l0 l1 a2 y101 0) = some r := by first | (rw [hy101]; with_reducible exact H) | (have H2_ := (yfy _ _).symm.trans H; rw [hy101]; with_reducible exact H2_) | (have H2_ := (yfy _ _).symm.trans H; with_reducible exact H2_) | with_reducible exact H | (rw [hy101]; exact H) | exact H
  have Ny101 := zA.mk hy101
  clear hy101
  have H' := zA.mk H
  clear H
  go_enter Try.func71, Try.ntmps71
  go_wp2_with (first | ((with_reducible refine zm (N := 9) rfl ?_); refine Kd.zCL (Kd.int .i64) _ 2 ?hg (N := 9) ?hd (xs := ([] : List Int)) (inner := []) (ok := fun _ => True) (okp := fun _ => True) ?hr ?hp (fun _ hk => hk) trivial (yry _ _) (yqy _) (by simp) ?_; (case hd => rfl); (case hg => rfl); (case hr => first | (go_simp; done) | (go_simp; rfl)); (case hp => exact (QY.none _ _)); intro v102 w4 ho5 hb hg_ hnew_; clear hg_ hnew_; (first | rw [← Ny101.out] at ho5 | (simp only [Int.reduceToNat] at ho5; rw [← Ny101.out] at ho5)); have n0_ := zA.mk (Kd.ZU ho5 (zO (by repeat (first | (with_reducible first | exact HB.out | apply zC | apply zB | apply zD) | exact HB.out)))); have n1_ := zA.mk (zN (by repeat (first | (with_reducible first | exact HB.out | apply zC | apply zB | apply zD) | exact HB.out)) hb); clear HB; have HO103 := n0_; have HB := n1_; clear n0_ n1_; clear hb ho5))
  go_loopg [7, 8] k (fun kq v7 v8 w' => ∃ (x7_1 : List Int) (x8_1 : Int), v8 = .int .i64 x8_1 ∧ zA (qP.l0 kq l0 l1 a2 x7_1 x8_1 = some r) ∧ zA (kq ≤ k) ∧ zA (Kd.R (Kd.int .i64) 2 w' w.heap.size (fun _ => True) v7 x7_1) ∧ zA (Below w.heap.size w w'))
  case atStart => exact ⟨(y101), (0), (by first | rfl | (simp; done) | (simp [*]; done)), H', ⟨yqy _⟩, ⟨by (with_reducible repeat (first | apply Kd.zg | apply Kd.zf | apply Kd.zu)); exact HO103.out⟩, ⟨by repeat (first | (with_reducible first | exact HB.out | apply zC | apply zB | apply zD) | exact HB.out)⟩⟩
  case round =>
    clear H'
    try clear c1
    try clear p2
    obtain ⟨x7_1, x8_1, rfl, HA, HK1, HO_7, HB⟩ := hrel
    cases gk with
    | zero => exact absurd HA.out (by simp [qP.l0])
    | succ k1 =>
      have H := HA.out
      clear HA
      simp only [qP.l0] at H
      by_cases c6 : x8_1 < (l0.length : Int)
      · rw [if_pos c6] at H
        have c6b0 : decide (x8_1 < (l0.length : Int)) = true := ygy c6
        clear c6
        by_cases c7 : 0 ≤ x8_1
        · rw [if_pos c7] at H
          have c7b0 : decide (0 ≤ x8_1) = true := ygy c7
          clear c7
          by_cases c8 : x8_1 < (l1.length : Int)
          · rw [if_pos c8] at H
            have c8b0 : decide (x8_1 < (l1.length : Int)) = true := ygy c8
            clear c8
            by_cases c9 : x7_1.length < 17592186044416
            · rw [if_pos c9] at H
              have LMc9 := zA.mk c9
              clear c9
              obtain ⟨y106, hy106⟩ : ∃ y_ : List Int, y_ = (x7_1 ++ [wrap64 ((rd l0 x8_1) + (wrap64 (a2 * (rd l1 x8_1))))]) := ⟨_, rfl⟩
              replace H : (qP.l0 k1 l0 l1 a2 y106 (wrap64 (x8_1 + 1))) = some r := by first | (rw [hy106]; with_reducible exact H) | (have H2_ := (yfy _ _).symm.trans H; rw [hy106]; with_reducible exact H2_) | (have H2_ := (yfy _ _).symm.trans H; with_reducible exact H2_) | with_reducible exact H | (rw [hy106]; exact H) | exact H
              have Ny106 := zA.mk hy106
              clear hy106
              have H' := zA.mk H
              clear H
              try go_wp2
              have n0_ := zA.mk (Kd.zu HO_7.out)
              have n1_ := zA.mk (zD HB.out)
              clear HO_7
              clear HB
              have HO_7 := n0_
              have HB := n1_
              clear n0_ n1_
              have p104 : 0 ≤ (x8_1 : Int) := of_decide_eq_true (by first | (with_reducible assumption) | assumption)
              have q104 : x8_1 < (l0.length : Int) := of_decide_eq_true (by first | (with_reducible assumption) | assumption)
              obtain ⟨ad104, e104, hx104_0⟩ := Kd.ZD HR0.out x8_1 p104 q104
              have hw104_0 := hx104_0
              cases e104
              replace hx104_0 := (HB.out.cell (ypy w _ hx104_0)).trans hx104_0
              replace p104 := eq_true p104
              replace q104 := eq_true q104
              have p105 : 0 ≤ (x8_1 : Int) := of_decide_eq_true (by first | (with_reducible assumption) | assumption)
              have q105 : x8_1 < (l1.length : Int) := of_decide_eq_true (by first | (with_reducible assumption) | assumption)
              obtain ⟨ad105, e105, hx105_0⟩ := Kd.ZD HR1.out x8_1 p105 q105
              have hw105_0 := hx105_0
              cases e105
              replace hx105_0 := (HB.out.cell (ypy w _ hx105_0)).trans hx105_0
              replace p105 := eq_true p105
              replace q105 := eq_true q105
              refine QN (n := 15) (S := fun w' => w'.cell? (ad104.add (x8_1).toNat) = some (.int .i64 (rd l0 x8_1)) ∧ w'.cell? (ad105.add (x8_1).toNat) = some (.int .i64 (rd l1 x8_1))) (ds := []) #[false, false, false, false, false, false, false, false, false, false, false, false, false, false, false] (by kernel_rfl) rfl rfl ⟨((HB.out.cell (ypy w _ hw104_0)).trans hw104_0), ((HB.out.cell (ypy w _ hw105_0)).trans hw105_0)⟩ (fun hHeld => ?_); refine Zr qP.tab5 qP.bits5 (fun HT_ HW_ => ?_)
              generalize wr.drew = w10 at HO_7 HB hx104_0 hx105_0 hHeld ⊢
              refine zp (i := 0) (N := some 16) (v := ?_) (a' := ?_) #[true, false, false, false, false, false, false, false, false, false, false, false, false, false, false] rfl rfl (zk HT_.out (by kernel_rfl)) (fun _ _ _ h => h) (Or.inl ⟨by rfl, ?_⟩) ?_ ?_
              rotate_left
              · intro w'
                go_simp
                with_reducible rfl
              rotate_left
              · simp only [Act.put, yay, yby, ycy, zY, zZ]
                rfl
              refine zp (i := 1) (N := some 17) (v := ?_) (a' := ?_) #[true, true, false, false, false, false, false, false, false, false, false, false, false, false, false] rfl rfl (zk HT_.out (by kernel_rfl)) (fun _ _ _ h => h) (Or.inl ⟨by rfl, ?_⟩) ?_ ?_
              rotate_left
              · intro w'
                go_simp
                with_reducible rfl
              rotate_left
              · simp only [Act.put, yay, yby, ycy, zY, zZ]
                rfl
              refine zp (i := 2) (N := some 18) (v := ?_) (a' := ?_) #[true, true, true, false, false, false, false, false, false, false, false, false, false, false, false] rfl rfl (zk HT_.out (by kernel_rfl)) (fun _ _ _ h => h) (Or.inl ⟨by rfl, ?_⟩) ?_ ?_
              rotate_left
              · intro w'
                go_simp
                with_reducible rfl
              rotate_left
              · simp only [Act.put, yay, yby, ycy, zY, zZ]
                rfl
              refine zp (i := 3) (N := some 19) (v := ?_) (a' := ?_) #[true, true, true, true, false, false, false, false, false, false, false, false, false, false, false] rfl rfl (zk HT_.out (by kernel_rfl)) (fun _ _ _ h => h) (Or.inl ⟨by rfl, ?_⟩) ?_ ?_
              rotate_left
              · intro w'
                go_simp
                with_reducible rfl
              rotate_left
              · simp only [Act.put, yay, yby, ycy, zY, zZ]
                rfl
              refine zp (i := 5) (N := some 21) (v := ?_) (a' := ?_) #[true, true, true, true, false, true, false, false, false, false, false, false, false, false, false] rfl rfl (zk HT_.out (by kernel_rfl)) (fun _ _ _ h => h) (Or.inl ⟨by rfl, ?_⟩) ?_ ?_
              rotate_left
              · intro w'
                go_simp
                with_reducible rfl
              rotate_left
              · simp only [Act.put, yay, yby, ycy, zY, zZ]
                rfl
              refine zp (i := 6) (N := some 22) (v := ?_) (a' := ?_) #[true, true, true, true, false, true, true, false, false, false, false, false, false, false, false] rfl rfl (zk HT_.out (by kernel_rfl)) (fun _ _ _ h => h) (Or.inl ⟨by rfl, ?_⟩) ?_ ?_
              rotate_left
              · intro w'
                go_simp
                with_reducible rfl
              rotate_left
              · simp only [Act.put, yay, yby, ycy, zY, zZ]
                rfl
              refine zp (i := 7) (N := some 23) (v := ?_) (a' := ?_) #[true, true, true, true, false, true, true, true, false, false, false, false, false, false, false] rfl rfl (zk HT_.out (by kernel_rfl)) (fun _ _ _ h => h) (Or.inl ⟨by rfl, ?_⟩) ?_ ?_
              rotate_left
              · intro w'
                go_simp
                with_reducible rfl
              rotate_left
              · simp only [Act.put, yay, yby, ycy, zY, zZ]
                rfl
              refine zp (i := 8) (N := some 24) (v := ?_) (a' := ?_) #[true, true, true, true, false, true, true, true, true, false, false, false, false, false, false] rfl rfl (zk HT_.out (by kernel_rfl)) (fun _ _ _ h => h) (Or.inl ⟨by rfl, ?_⟩) ?_ ?_
              rotate_left
              · intro w'
                go_simp
                with_reducible rfl
              rotate_left
              · simp only [Act.put, yay, yby, ycy, zY, zZ]
                rfl
              refine ZT (i := 4) (N := some 20) (v := ?_) (a' := ?_) #[true, true, true, true, true, true, true, true, true, false, false, false, false, false, false] rfl rfl (qp HT_.out HW_.out (by kernel_rfl)) (fun _ _ _ h => h) (Or.inl ⟨by rfl, ?_⟩) hHeld ?_ ?_
              rotate_left
              · rintro w' ⟨s0, s1⟩
                go_simp
                with_reducible rfl
              rotate_left
              · simp only [Act.put, yay, yby, ycy, zY, zZ]
                rfl
              refine ZT (i := 9) (N := some 25) (v := ?_) (a' := ?_) #[true, true, true, true, true, true, true, true, true, true, false, false, false, false, false] rfl rfl (qp HT_.out HW_.out (by kernel_rfl)) (fun _ _ _ h => h) (Or.inl ⟨by rfl, ?_⟩) hHeld ?_ ?_
              rotate_left
              · rintro w' ⟨s0, s1⟩
                go_simp
                with_reducible rfl
              rotate_left
              · simp only [Act.put, yay, yby, ycy, zY, zZ]
                rfl
              refine zp (i := 10) (N := some 26) (v := ?_) (a' := ?_) #[true, true, true, true, true, true, true, true, true, true, true, false, false, false, false] rfl rfl (zk HT_.out (by kernel_rfl)) (fun _ _ _ h => h) (Or.inl ⟨by rfl, ?_⟩) ?_ ?_
              rotate_left
              · intro w'
                go_simp
                with_reducible rfl
              rotate_left
              · simp only [Act.put, yay, yby, ycy, zY, zZ]
                rfl
              refine zp (i := 11) (N := some 27) (v := ?_) (a' := ?_) #[true, true, true, true, true, true, true, true, true, true, true, true, false, false, false] rfl rfl (zk HT_.out (by kernel_rfl)) (fun _ _ _ h => h) (Or.inl ⟨by rfl, ?_⟩) ?_ ?_
              rotate_left
              · intro w'
                go_simp
                with_reducible rfl
              rotate_left
              · simp only [Act.put, yay, yby, ycy, zY, zZ]
                rfl
              refine zAb (i := 12) (N := some 28) #[true, true, true, true, true, true, true, true, true, true, true, true, true, false, false] rfl rfl (QK HT_.out (by kernel_rfl)) (by decide) (fun K hK => ?_)
              refine value_ (w1 := ?_) (v := ?_) (by rfl) rfl ?_ ?_
              rotate_left 2
              · go_simp
                constructor
                · rfl
                · rfl
              refine hK.out _ _ ⟨(World.cell?_alloc_lt _ _ _ (ypy _ _ (((HB.out.cell (ypy w _ hw104_0)).trans hw104_0)))).trans (((HB.out.cell (ypy w _ hw104_0)).trans hw104_0)), (World.cell?_alloc_lt _ _ _ (ypy _ _ (((HB.out.cell (ypy w _ hw105_0)).trans hw105_0)))).trans (((HB.out.cell (ypy w _ hw105_0)).trans hw105_0))⟩ (fun hHeld => ?_)
              clear hK K
              refine QQ (a' := ?_) ?_ ?_
              rotate_left
              · show Act.put _ (some 28) _ = _
                simp only [Act.put, yay, yby, ycy, zY, zZ]
                rfl
              refine zAb (i := 13) (N := some 29) #[true, true, true, true, true, true, true, true, true, true, true, true, true, true, false] rfl rfl (QK HT_.out (by kernel_rfl)) (by decide) (fun K hK => ?_)
              refine Kd.zCJ (Kd.int .i64) (w0 := w) w.heap.size (by rfl) (.tmp 16) (.tmp 28) 25 2 (.int .i64 0) 8 rfl Try.underlying25 JP rfl (by decide) (by omega) u7 x7_1 (wrap64 ((rd l0 x8_1) + (wrap64 (a2 * (rd l1 x8_1))))) [.int .i64 (wrap64 ((rd l0 x8_1) + (wrap64 (a2 * (rd l1 x8_1)))))] (fun _ => True) (fun _ => False) rfl rfl ?aP (fun _ hk => hk.elim) ?aF ?aO ?aB ?aS ?aL ?_
              (case aP => exact rfl)
              (case aB => exact (by repeat (first | (with_reducible first | exact HB.out | apply zC | apply zB | apply zD) | exact HB.out)))
              (case aF => exact (fun _ _ => trivial))
              (case aO => exact (by (with_reducible repeat (first | apply Kd.zg | apply Kd.zf | apply Kd.zu)); exact HO_7.out))
              (case aS => exact (zO (by repeat (first | (with_reducible first | exact HB.out | apply zC | apply zB | apply zD) | exact HB.out))))
              (case aL => have := LMc9.out; omega)
              intro v107 w11 ho hb hg hat
              rw [← Ny106.out] at ho
              have n0_ := zA.mk (hb)
              have n1_ := zA.mk (ho)
              clear HB
              clear HO_7
              have HB := n0_
              have HO108 := n1_
              clear n0_ n1_
              clear ho hb hg hat
              refine hK.out _ _ ⟨((HB.out.cell (ypy w _ hw104_0)).trans hw104_0), ((HB.out.cell (ypy w _ hw105_0)).trans hw105_0)⟩ (fun hHeld => ?_)
              clear hK K
              refine QQ (a' := ?_) ?_ ?_
              rotate_left
              · show Act.put _ (some 29) _ = _
                simp only [Act.put, yay, yby, ycy, zY, zZ]
                rfl
              refine zp (i := 14) (N := some 7) (v := ?_) (a' := ?_) #[true, true, true, true, true, true, true, true, true, true, true, true, true, true, true] rfl rfl (zk HT_.out (by kernel_rfl)) (fun _ _ _ h => h) (Or.inl ⟨by rfl, ?_⟩) ?_ ?_
              rotate_left
              · intro w'
                go_simp
                with_reducible rfl
              rotate_left
              · simp only [Act.put, yay, yby, ycy, zY, zZ]
                rfl
              refine JN (Qc HT_.out (by kernel_rfl)) ?_
              try go_wp2
              go_roundg k1
              case measure => have := HK1.out; omega
              case rel => exact ⟨(y106), (wrap64 (x8_1 + 1)), (by first | rfl | (simp; done) | (simp [*]; done)), H', ⟨by have := HK1.out; omega⟩, ⟨by (with_reducible repeat (first | apply Kd.zg | apply Kd.zf | apply Kd.zu)); exact HO108.out⟩, ⟨by repeat (first | (with_reducible first | exact HB.out | apply zC | apply zB | apply zD) | exact HB.out)⟩⟩
            · rw [if_neg c9] at H
              exact absurd H (by simp)
          · rw [if_neg c8] at H
            exact absurd H (by simp)
        · rw [if_neg c7] at H
          exact absurd H (by simp)
      · rw [if_neg c6] at H
        have c6b0 : decide (x8_1 < (l0.length : Int)) = false := yhy c6
        clear c6
        obtain rfl := yey H
        go_wp2
        go_ret
        exact ⟨_, by first | rfl | (simp [zQ, zR] <;> rfl) | (simp [*, zQ, zR] <;> rfl), by (with_reducible repeat (first | apply Kd.zg | apply Kd.zf | apply Kd.zu)); exact HO_7.out, by repeat (first | (with_reducible first | exact HB.out | apply zC | apply zB | apply zD) | exact HB.out)⟩
mutual
def zb.l0 : Nat → List (List Int) → Int → List (List (zq)) → Option (List Int × Int)
 | 0, _, _, _ => none
 | k + 1, x1, x7, x102000 => if x7 < (x1.length : Int) then (if 0 ≤ x7 then ((ZX.f k x102000 (zV x1 x7)).bind fun t104 => (if t104 = true then (zb.l0 k x1 (wrap64 (x7 + 1)) x102000) else (some (([] : List Int), 5)))) else (none)) else (if 0 ≤ (wrap64 (7 * (x102000.length : Int))) then (if (wrap64 (7 * (x102000.length : Int)) : Int).toNat ≤ 35184372088832 then (zb.l1 k x1 (List.replicate (wrap64 (7 * (x102000.length : Int)) : Int).toNat 0) 0) else (none)) else (none))
def zb.l1 : Nat → List (List Int) → List Int → Int → Option (List Int × Int)
 | 0, _, _, _ => none
 | k + 1, x1, x8, x9 => if x9 < (x1.length : Int) then (if 0 ≤ x9 then ((qP.f k x8 (zV x1 x9) 1).bind fun t109 => (zb.l2 k x1 t109 x9 0)) else (none)) else (some (x8, 0))
def zb.l2 : Nat → List (List Int) → List Int → Int → Int → Option (List Int × Int)
 | 0, _, _, _, _ => none
 | k + 1, x1, x8, x9, x10 => if x10 < (x8.length : Int) then (if 0 ≤ x10 then (if (rd x8 x10) > 1000 then (some (([] : List Int), 3)) else (zb.l2 k x1 x8 x9 (wrap64 (x10 + 1)))) else (none)) else (zb.l1 k x1 x8 (wrap64 (x9 + 1)))
end
def zb.f (k : Nat) (l0_0 : List (List (zq))) (l1 : List (List Int)) : Option (List Int × Int) := (Zd.f k l0_0).bind fun t102 => (if t102 = 0 then (zb.l0 k l1 0 l0_0) else (some (([] : List Int), t102)))
set_option maxHeartbeats 8000000 in
set_option maxRecDepth 100000 in
theorem zb.calls (k : Nat) (A0_0 : Option Addr) (c0_0 : Nat) (l0_0 : List (List (zq))) (A1 : Option Addr) (c1 : Nat) (l1 : List (List Int)) (r1 : List Int) (r2 : Int) (w : World) (hr0_0 : Kd.C (Kd.slice 115 ZB) w A0_0 l0_0.length l0_0) (hc0_0 : l0_0.length ≤ c0_0) (hr1 : Kd.C (Kd.slice 2 (Kd.int .i64)) w A1 l1.length l1) (hc1 : l1.length ≤ c1) (h : zb.f k l0_0 l1 = some (r1, r2)) :
 Calls Try.prog 45 #[.agg #[.slice A0_0 l0_0.length c0_0], .slice A1 l1.length c1] w fun e w' => ∃ v0_ : Value, e = .returned (.tuple #[v0_, .int .i64 r2]) ∧ Kd.R (Kd.int .i64) 2 w' w.heap.size (fun _ => True) v0_ r1 ∧ Below w.heap.size w w' := by
 have hu30 := Try.underlying30
 have HR0_0 := zA.mk hr0_0
 have HC0_0 := zA.mk hc0_0
 clear hr0_0 hc0_0
 have HR1 := zA.mk hr1
 have HC1 := zA.mk hc1
 clear hr1 hc1
 have HB := zA.mk (yry w.heap.size w)
 have H : ((Zd.f k l0_0).bind fun t102 => (if t102 = 0 then (zb.l0 k l1 0 l0_0) else (some (([] : List Int), t102)))) = some (r1, r2) := h
 clear h
 replace H := ydy.mp H
 obtain ⟨t102, A30, H⟩ := H
 replace H : (if t102 = 0 then (zb.l0 k l1 0 l0_0) else (some (([] : List Int), t102))) = some (r1, r2) := H
 have A3 := zA.mk A30
 clear A30
 by_cases c4 : t102 = 0
 rotate_left
 next =>
  rw [if_neg c4] at H
  have c4b0 : (t102 == 0) = false := beq_eq_false_iff_ne.mpr c4
  have c4b1 : (t102 != 0) = true := bne_iff_ne.mpr c4
  simp only [Option.some.injEq, Prod.mk.injEq] at H
  obtain ⟨rfl, rfl⟩ := H
  go_enter Try.func45, Try.ntmps45
  go_wp2_with (first | ((with_reducible refine zm (N := 2) rfl ?_); refine zo ?hg (N := 2) ?hd (cs := #[.slice A0_0 l0_0.length c0_0]) (t := 30) ?hr ?_; (case hd => rfl); (case hg => rfl); (case hr => first | (go_simp; done) | (go_simp; rfl)); intro gb101 hg w33 hbox hb; have n0_ := zA.mk (zN (by repeat (first | (with_reducible first | exact HB.out | apply zC | apply zB | apply zD) | exact HB.out)) hb); have n1_ := zA.mk (hbox); have n2_ := zA.mk ((by rw [hg]; exact (zO (by repeat (first | (with_reducible first | exact HB.out | apply zC | apply zB | apply zD) | exact HB.out))) : w.heap.size ≤ gb101)); have n3_ := zA.mk ((by rw [hg]; exact (zO (by repeat (first | (with_reducible first | exact HB.out | apply zC | apply zB | apply zD) | exact HB.out))) : w.heap.size ≤ gb101)); clear HB; have HB := n0_; have BK101 := n1_; have GW101 := n2_; have GE101 := n3_; clear n0_ n1_ n2_ n3_; clear hb hbox hg; have hcz34_0 : w33.cell? ⟨gb101, 0, none⟩ = some (.slice A0_0 l0_0.length c0_0) := (zK BK101.out 0).trans rfl; have hfz34_0 := zM BK101.out 0) | ((with_reducible refine zT (f := 58) rfl ?_); refine qH (some 12) rfl rfl Try.func58 (by kernel_rfl) rfl #[.agg #[.slice A0_0 l0_0.length c0_0]] rfl (by (try simp only [yiy, yjy, yky]); first | done | rfl | (simp only [yly, ymy]; rfl)) ?_; (with_reducible refine (Zd.calls k _ _ l0_0 t102 _ ?side1 ?side2 A3.out).mono ?_); (case side1 => repeat (first | exact (Kd.zl HR0_0.out HB.out) | (with_reducible refine Kd.zh ?_ _) | (with_reducible refine Kd.zi ?_ _) | (with_reducible refine Kd.qA ?_))); (case side2 => exact HC0_0.out); rintro e w35 ⟨rfl, hb⟩; refine ⟨_, rfl, ?_⟩; have n0_ := zA.mk (zP (g := gb101) (o := .cells #[.slice A0_0 l0_0.length c0_0] 30 (0, 0)) (by (with_reducible repeat (first | refine zI ?_ _ | refine zJ ?_ | refine zH ?_ _)); exact BK101.out) hb); have n1_ := zA.mk (zN (by repeat (first | (with_reducible first | exact HB.out | apply zC | apply zB | apply zD | refine zF ?_ GE101.out) | exact HB.out)) hb); clear BK101; clear HB; have BK101 := n0_; have HB := n1_; clear n0_ n1_; (try clear hb); (try clear hb2); (try clear hk); (try clear hi)))
  go_ret2
  exact ⟨_, by first | rfl | (simp [zQ, zR] <;> rfl) | (simp [*, zQ, zR] <;> rfl), by first | exact Kd.zA9 _ _ _ _ _ | exact Kd.zF9 _ _ _ _ _ | exact Kd.zFB _ _ _ _ _ | exact Kd.zEv _ _ _ _ _ | exact Kd.zF4 _ _ _ _ _, by repeat (first | (with_reducible first | exact HB.out | apply zC | apply zB | apply zD | refine zF ?_ GE101.out) | exact HB.out)⟩
 rw [if_pos c4] at H
 have c4b0 : (t102 == 0) = true := beq_iff_eq.mpr c4
 have c4b1 : (t102 != 0) = false := bne_eq_false_iff_eq.mpr c4
 clear c4
 have H' := zA.mk H
 clear H
 go_enter Try.func45, Try.ntmps45
 go_wp2_with (first | ((with_reducible refine zm (N := 2) rfl ?_); refine zo ?hg (N := 2) ?hd (cs := #[.slice A0_0 l0_0.length c0_0]) (t := 30) ?hr ?_; (case hd => rfl); (case hg => rfl); (case hr => first | (go_simp; done) | (go_simp; rfl)); intro gb101 hg w5 hbox hb; have n0_ := zA.mk (zN (by repeat (first | (with_reducible first | exact HB.out | apply zC | apply zB | apply zD) | exact HB.out)) hb); have n1_ := zA.mk (hbox); have n2_ := zA.mk ((by rw [hg]; exact (zO (by repeat (first | (with_reducible first | exact HB.out | apply zC | apply zB | apply zD) | exact HB.out))) : w.heap.size ≤ gb101)); have n3_ := zA.mk ((by rw [hg]; exact (zO (by repeat (first | (with_reducible first | exact HB.out | apply zC | apply zB | apply zD) | exact HB.out))) : w.heap.size ≤ gb101)); clear HB; have HB := n0_; have BK101 := n1_; have GW101 := n2_; have GE101 := n3_; clear n0_ n1_ n2_ n3_; clear hb hbox hg; have hcz6_0 : w5.cell? ⟨gb101, 0, none⟩ = some (.slice A0_0 l0_0.length c0_0) := (zK BK101.out 0).trans rfl; have hfz6_0 := zM BK101.out 0) | ((with_reducible refine zT (f := 58) rfl ?_); refine qH (some 12) rfl rfl Try.func58 (by kernel_rfl) rfl #[.agg #[.slice A0_0 l0_0.length c0_0]] rfl (by (try simp only [yiy, yjy, yky]); first | done | rfl | (simp only [yly, ymy]; rfl)) ?_; (with_reducible refine (Zd.calls k _ _ l0_0 t102 _ ?side1 ?side2 A3.out).mono ?_); (case side1 => repeat (first | exact (Kd.zl HR0_0.out HB.out) | (with_reducible refine Kd.zh ?_ _) | (with_reducible refine Kd.zi ?_ _) | (with_reducible refine Kd.qA ?_))); (case side2 => exact HC0_0.out); rintro e w7 ⟨rfl, hb⟩; refine ⟨_, rfl, ?_⟩; have n0_ := zA.mk (zP (g := gb101) (o := .cells #[.slice A0_0 l0_0.length c0_0] 30 (0, 0)) (by (with_reducible repeat (first | refine zI ?_ _ | refine zJ ?_ | refine zH ?_ _)); exact BK101.out) hb); have n1_ := zA.mk (zN (by repeat (first | (with_reducible first | exact HB.out | apply zC | apply zB | apply zD | refine zF ?_ GE101.out) | exact HB.out)) hb); clear BK101; clear HB; have BK101 := n0_; have HB := n1_; clear n0_ n1_; (try clear hb); (try clear hb2); (try clear hk); (try clear hi)))
 go_loopg [7] k (fun kq v7 w' => ∃ (x7_1 : Int), v7 = .int .i64 x7_1 ∧ zA (zb.l0 kq l1 x7_1 l0_0 = some (r1, r2)) ∧ zA (kq ≤ k) ∧ zA (w'.heap[gb101]? = some (.cells #[(.slice A0_0 l0_0.length c0_0)] 30 (0, 0))) ∧ zA (Below w.heap.size w w'))
 case atStart => exact ⟨(0), (by first | rfl | (simp; done) | (simp [*]; done)), H', ⟨yqy _⟩, ⟨by (with_reducible repeat (first | refine zI ?_ _ | refine zJ ?_ | refine zH ?_ _)); exact BK101.out⟩, ⟨by repeat (first | (with_reducible first | exact HB.out | apply zC | apply zB | apply zD | refine zF ?_ GE101.out) | exact HB.out)⟩⟩
 case round =>
  clear H'
  try clear c1
  try clear p2
  try clear c4
  try clear c4b0
  try clear c4b1
  try clear c5
  try clear hcz6_0
  try clear hfz6_0
  obtain ⟨x7_1, rfl, HA, HK1, BK101, HB⟩ := hrel
  cases gk with
  | zero => exact absurd HA.out (by simp [zb.l0])
  | succ k1 =>
   have H := HA.out
   clear HA
   simp only [zb.l0] at H
   by_cases c8 : x7_1 < (l1.length : Int)
   rotate_left
   next =>
    rw [if_neg c8] at H
    have c8b0 : decide (x7_1 < (l1.length : Int)) = false := yhy c8
    clear c8
    obtain ⟨ji16, hji16⟩ : ∃ j_ : Int, (wrap64 (7 * (l0_0.length : Int))) = j_ := ⟨_, rfl⟩
    replace H : (if 0 ≤ (ji16) then (if (ji16 : Int).toNat ≤ 35184372088832 then (zb.l1 k1 l1 (List.replicate (ji16 : Int).toNat 0) 0) else (none)) else (none)) = some (r1, r2) := by first | (rw [hji16] at H; exact H) | (simp only [hji16] at H ⊢; exact H)
    have hji16w : (IntKind.i64.wrap (7 * (l0_0.length : Int))) = ji16 := (zY _).trans hji16
    by_cases c17 : 0 ≤ (ji16)
    rotate_left
    next =>
     rw [if_neg c17] at H
     exact absurd H (by simp)
    rw [if_pos c17] at H
    have c17b0 := eq_true c17
    have c17b1 : decide (0 ≤ (ji16)) = true := ygy c17
    clear c17
    by_cases c18 : (ji16 : Int).toNat ≤ 35184372088832
    rotate_left
    next =>
     rw [if_neg c18] at H
     exact absurd H (by simp)
    rw [if_pos c18] at H
    have c18b0 := eq_true c18
    have c18b1 : decide ((ji16 : Int).toNat ≤ 35184372088832) = true := ygy c18
    clear c18
    obtain ⟨y105, hy105⟩ : ∃ y_ : List Int, y_ = (List.replicate (ji16 : Int).toNat 0) := ⟨_, rfl⟩
    replace H : (zb.l1 k1 l1 y105 0) = some (r1, r2) := by first | (rw [hy105]; with_reducible exact H) | (have H2_ := (yfy _ _).symm.trans H; rw [hy105]; with_reducible exact H2_) | (have H2_ := (yfy _ _).symm.trans H; with_reducible exact H2_) | with_reducible exact H | (rw [hy105]; exact H) | exact H
    have Ny105 := zA.mk hy105
    clear hy105
    have H' := zA.mk H
    clear H
    have hcz19_0 : wr.cell? ⟨gb101, 0, none⟩ = some (.slice A0_0 l0_0.length c0_0) := (zK BK101.out 0).trans rfl
    have hfz19_0 := zM BK101.out 0
    go_wp2_with (first | ((with_reducible refine zm (N := 33) rfl ?_); refine Kd.zBA (Kd.int .i64) _ 2 rfl (N := 33) rfl 25 _ _ rfl ji16 rfl rfl Try.underlying25 (.int .i64 0) 8 JP rfl (by decide) (by omega) 0 (ok := fun _ => True) (okp := fun _ => True) rfl (fun _ hk => hk) trivial (of_decide_eq_true (by first | (with_reducible assumption) | assumption)) (Nat.le_trans (Nat.mul_le_mul_right _ (of_decide_eq_true (by first | (with_reducible assumption) | assumption) : ji16.toNat ≤ 35184372088832)) (by omega)) (yry _ _) (yqy _) ?_; intro v106 w20 ho21 hb hg_ hnew_; clear hg_ hnew_; (first | rw [← Ny105.out] at ho21 | (simp only [Int.reduceToNat] at ho21; rw [← Ny105.out] at ho21)); have n0_ := zA.mk (Kd.ZU ho21 (zO (by repeat (first | (with_reducible first | exact HB.out | apply zC | apply zB | apply zD | refine zF ?_ GE101.out) | exact HB.out)))); have n1_ := zA.mk (zP (g := gb101) (o := .cells #[.slice A0_0 l0_0.length c0_0] 30 (0, 0)) (by (with_reducible repeat (first | refine zI ?_ _ | refine zJ ?_ | refine zH ?_ _)); exact BK101.out) hb); have n2_ := zA.mk (zN (by repeat (first | (with_reducible first | exact HB.out | apply zC | apply zB | apply zD | refine zF ?_ GE101.out) | exact HB.out)) hb); clear BK101; clear HB; have HO107 := n0_; have BK101 := n1_; have HB := n2_; clear n0_ n1_ n2_; clear hb ho21))
    go_loopg [8, 9] k1 (fun kq v8 v9 w' => ∃ (x8_2 : List Int) (x9_2 : Int), v9 = .int .i64 x9_2 ∧ zA (zb.l1 kq l1 x8_2 x9_2 = some (r1, r2)) ∧ zA (kq ≤ k1) ∧ zA (Kd.R (Kd.int .i64) 2 w' w.heap.size (fun _ => True) v8 x8_2) ∧ zA (w'.heap[gb101]? = some (.cells #[(.slice A0_0 l0_0.length c0_0)] 30 (0, 0))) ∧ zA (Below w.heap.size w w'))
    case atStart => exact ⟨(y105), (0), (by first | rfl | (simp; done) | (simp [*]; done)), H', ⟨yqy _⟩, ⟨by (with_reducible repeat (first | apply Kd.zg | apply Kd.zf | apply Kd.zu)); exact HO107.out⟩, ⟨by (with_reducible repeat (first | refine zI ?_ _ | refine zJ ?_ | refine zH ?_ _)); exact BK101.out⟩, ⟨by repeat (first | (with_reducible first | exact HB.out | apply zC | apply zB | apply zD | refine zF ?_ GE101.out) | exact HB.out)⟩⟩
    case round =>
     clear H'
     try clear c1
     try clear p1
     try clear q1
     try clear hx1
     try clear c2
     try clear p2
     try clear c4
     try clear c4b0
     try clear c4b1
     try clear c5
     try clear p6
     try clear c8
     try clear c8b0
     try clear c9
     try clear c9b0
     try clear c10
     try clear p10
     try clear q10
     try clear hx10
     try clear c11
     try clear c17
     try clear c17b0
     try clear c17b1
     try clear c18
     try clear c18b0
     try clear c18b1
     try clear hcz19_0
     try clear hcz6_0
     try clear hfz19_0
     try clear hfz6_0
     try clear hx103_0
     try clear p103
     try clear p2
     try clear q103
     obtain ⟨x8_2, x9_2, rfl, HA, HK2, HO_8, BK101, HB⟩ := hrel
     cases gk with
     | zero => exact absurd HA.out (by simp [zb.l1])
     | succ k2 =>
      have H := HA.out
      clear HA
      simp only [zb.l1] at H
      by_cases c22 : x9_2 < (l1.length : Int)
      rotate_left
      next =>
       rw [if_neg c22] at H
       have c22b0 : decide (x9_2 < (l1.length : Int)) = false := yhy c22
       clear c22
       simp only [Option.some.injEq, Prod.mk.injEq] at H
       obtain ⟨rfl, rfl⟩ := H
       go_wp2
       go_ret2
       exact ⟨_, by first | rfl | (simp [zQ, zR] <;> rfl) | (simp only [← hji16]; first | rfl | (simp [zQ, zR] <;> rfl)) | (simp [*, zQ, zR] <;> rfl), by (with_reducible repeat (first | apply Kd.zg | apply Kd.zf | apply Kd.zu)); exact HO_8.out, by repeat (first | (with_reducible first | exact HB.out | apply zC | apply zB | apply zD | refine zF ?_ GE101.out) | exact HB.out)⟩
      rw [if_pos c22] at H
      have c22b0 : decide (x9_2 < (l1.length : Int)) = true := ygy c22
      clear c22
      by_cases c23 : 0 ≤ x9_2
      rotate_left
      next =>
       rw [if_neg c23] at H
       exact absurd H (by simp)
      rw [if_pos c23] at H
      have c23b0 : decide (0 ≤ x9_2) = true := ygy c23
      clear c23
      replace H := ydy.mp H
      obtain ⟨t109, A240, H⟩ := H
      replace H : (zb.l2 k2 l1 t109 x9_2 0) = some (r1, r2) := H
      have A24 := zA.mk A240
      clear A240
      have H' := zA.mk H
      clear H
      have p108 : 0 ≤ (x9_2 : Int) := of_decide_eq_true (by first | (with_reducible assumption) | assumption)
      have q108 : x9_2 < (l1.length : Int) := of_decide_eq_true (by first | (with_reducible assumption) | assumption)
      obtain ⟨ad108, A108_0, c108_0, e108, hx108_0, hl108_0, hi108_0⟩ := QM HR1.out x9_2 p108 q108
      cases e108
      replace hx108_0 := (HB.out.cell (ypy w _ hx108_0)).trans hx108_0
      have HR108_0 := zA.mk hi108_0
      have HC108_0 := zA.mk hl108_0
      clear hi108_0 hl108_0
      replace p108 := eq_true p108
      replace q108 := eq_true q108
      obtain ⟨Ao25, co25, eo25⟩ := Kd.ZN HO_8.out
      subst eo25
      go_wp2_with (first | ((with_reducible refine zT (f := 71) rfl ?_); refine qH (some 45) rfl rfl Try.func71 (by kernel_rfl) rfl #[.slice Ao25 x8_2.length co25, .slice A108_0 (zV l1 x9_2).length c108_0, .int .i64 1] rfl (by (try simp only [yiy, yjy, yky]); first | done | rfl | (simp only [yly, ymy]; rfl)) ?_; (with_reducible refine (qP.calls k2 _ _ x8_2 _ _ (zV l1 x9_2) 1 t109 _ ?side1 ?side2 ?side3 ?side4 A24.out).mono ?_); (case side1 => repeat (first | exact (Kd.zv HO_8.out).2.2 | (with_reducible refine Kd.zh ?_ _) | (with_reducible refine Kd.zi ?_ _) | (with_reducible refine Kd.qA ?_))); (case side2 => exact (Kd.zv HO_8.out).2.1); (case side3 => repeat (first | exact (Kd.zl HR108_0.out HB.out) | (with_reducible refine Kd.zh ?_ _) | (with_reducible refine Kd.zi ?_ _) | (with_reducible refine Kd.qA ?_))); (case side4 => exact HC108_0.out); rintro e w26 ⟨v110, rfl, ho0, hb⟩; refine ⟨_, rfl, ?_⟩; have n0_ := zA.mk (Kd.JI (by (with_reducible repeat (first | apply Kd.zg | apply Kd.zf | apply Kd.zu)); exact HO_8.out) (Kd.Qw ho0) hb); have n1_ := zA.mk (Kd.ZU (Kd.zAt ho0 (Kd.zBZ (by (with_reducible repeat (first | apply Kd.zg | apply Kd.zf | apply Kd.zu)); exact HO_8.out))) (zO (by repeat (first | (with_reducible first | exact HB.out | apply zC | apply zB | apply zD | refine zF ?_ GE101.out) | exact HB.out)))); have n2_ := zA.mk (zP (g := gb101) (o := .cells #[.slice A0_0 l0_0.length c0_0] 30 (0, 0)) (by (with_reducible repeat (first | refine zI ?_ _ | refine zJ ?_ | refine zH ?_ _)); exact BK101.out) hb); have n3_ := zA.mk (zN (by repeat (first | (with_reducible first | exact HB.out | apply zC | apply zB | apply zD | refine zF ?_ GE101.out) | exact HB.out)) hb); clear HO_8; clear BK101; clear HB; have HO_8 := n0_; have HO111 := n1_; have BK101 := n2_; have HB := n3_; clear n0_ n1_ n2_ n3_; (try clear hb); (try clear hb2); (try clear hk); (try clear hi); (try clear ho0)))
      go_loopg [10] k2 (fun kq v10 w' => ∃ (x10_3 : Int), v10 = .int .i64 x10_3 ∧ zA (zb.l2 kq l1 t109 x9_2 x10_3 = some (r1, r2)) ∧ zA (kq ≤ k2) ∧ zA (Kd.R (Kd.int .i64) 2 w' w.heap.size (fun _ => True) v110 t109) ∧ zA (w'.heap[gb101]? = some (.cells #[(.slice A0_0 l0_0.length c0_0)] 30 (0, 0))) ∧ zA (Below w.heap.size w w'))
      case atStart => exact ⟨(0), (by first | rfl | (simp; done) | (simp [*]; done)), H', ⟨yqy _⟩, ⟨by (with_reducible repeat (first | apply Kd.zg | apply Kd.zf | apply Kd.zu)); exact Kd.qW HO111.out (fun _ hk => trivial)⟩, ⟨by (with_reducible repeat (first | refine zI ?_ _ | refine zJ ?_ | refine zH ?_ _)); exact BK101.out⟩, ⟨by repeat (first | (with_reducible first | exact HB.out | apply zC | apply zB | apply zD | refine zF ?_ GE101.out) | exact HB.out)⟩⟩
      case round =>
       clear H'
       try clear c1
       try clear p1
       try clear q1
       try clear hx1
       try clear c2
       try clear p2
       try clear c4
       try clear c4b0
       try clear c4b1
       try clear c5
       try clear p6
       try clear c7
       try clear c8
       try clear c8b0
       try clear c9
       try clear c9b0
       try clear c10
       try clear p10
       try clear q10
       try clear hx10
       try clear c11
       try clear c17
       try clear c17b0
       try clear c17b1
       try clear c18
       try clear c18b0
       try clear c18b1
       try clear c22
       try clear c22b0
       try clear c23
       try clear c23b0
       try clear hcz19_0
       try clear hcz6_0
       try clear hfz19_0
       try clear hfz6_0
       try clear hx103_0
       try clear hx108_0
       try clear p1
       try clear p10
       try clear p103
       try clear p108
       try clear p2
       try clear p6
       try clear q1
       try clear q10
       try clear q103
       try clear q108
       obtain ⟨x10_3, rfl, HA, HK3, HO_8, BK101, HB⟩ := hrel
       cases gk with
       | zero => exact absurd HA.out (by simp [zb.l2])
       | succ k3 =>
        have H := HA.out
        clear HA
        simp only [zb.l2] at H
        by_cases c27 : x10_3 < (t109.length : Int)
        rotate_left
        next =>
         rw [if_neg c27] at H
         have c27b0 : decide (x10_3 < (t109.length : Int)) = false := yhy c27
         clear c27
         have H' := zA.mk H
         clear H
         obtain ⟨Ao32, co32, eo32⟩ := Kd.ZN HO_8.out
         subst eo32
         go_wp2
         go_roundg k3
         case measure => have := HK1.out; have := HK2.out; have := HK3.out; omega
         case rel => exact ⟨(t109), (wrap64 (x9_2 + 1)), (by first | rfl | (simp; done) | (simp [*]; done)), H', ⟨by have := HK1.out; have := HK2.out; have := HK3.out; omega⟩, ⟨by (with_reducible repeat (first | apply Kd.zg | apply Kd.zf | apply Kd.zu)); exact HO_8.out⟩, ⟨by (with_reducible repeat (first | refine zI ?_ _ | refine zJ ?_ | refine zH ?_ _)); exact BK101.out⟩, ⟨by repeat (first | (with_reducible first | exact HB.out | apply zC | apply zB | apply zD | refine zF ?_ GE101.out) | exact HB.out)⟩⟩
        rw [if_pos c27] at H
        have c27b0 : decide (x10_3 < (t109.length : Int)) = true := ygy c27
        clear c27
        by_cases c28 : 0 ≤ x10_3
        rotate_left
        next =>
         rw [if_neg c28] at H
         exact absurd H (by simp)
        rw [if_pos c28] at H
        have c28b0 : decide (0 ≤ x10_3) = true := ygy c28
        clear c28
        by_cases c29 : (rd t109 x10_3) > 1000
        next =>
         rw [if_pos c29] at H
         have c29b0 : decide (1000 < (rd t109 x10_3)) = true := ygy c29
         clear c29
         simp only [Option.some.injEq, Prod.mk.injEq] at H
         obtain ⟨rfl, rfl⟩ := H
         obtain ⟨Ao30, co30, eo30⟩ := Kd.ZN HO_8.out
         subst eo30
         have p112 : 0 ≤ (x10_3 : Int) := of_decide_eq_true (by first | (with_reducible assumption) | assumption)
         have q112 : x10_3 < (t109.length : Int) := of_decide_eq_true (by first | (with_reducible assumption) | assumption)
         obtain ⟨ad112, e112, hx112_0⟩ := Kd.ZD (Kd.zv HO_8.out).2.2 x10_3 p112 q112
         cases e112
         replace p112 := eq_true p112
         replace q112 := eq_true q112
         go_wp2
         go_ret2
         exact ⟨_, by first | rfl | (simp [zQ, zR] <;> rfl) | (simp only [← hji16]; first | rfl | (simp [zQ, zR] <;> rfl)) | (simp [*, zQ, zR] <;> rfl), by first | exact Kd.zA9 _ _ _ _ _ | exact Kd.zF9 _ _ _ _ _ | exact Kd.zFB _ _ _ _ _ | exact Kd.zEv _ _ _ _ _ | exact Kd.zF4 _ _ _ _ _, by repeat (first | (with_reducible first | exact HB.out | apply zC | apply zB | apply zD | refine zF ?_ GE101.out) | exact HB.out)⟩
        next =>
         rw [if_neg c29] at H
         have c29b0 : decide (1000 < (rd t109 x10_3)) = false := yhy c29
         clear c29
         have H' := zA.mk H
         clear H
         obtain ⟨Ao31, co31, eo31⟩ := Kd.ZN HO_8.out
         subst eo31
         have p112 : 0 ≤ (x10_3 : Int) := of_decide_eq_true (by first | (with_reducible assumption) | assumption)
         have q112 : x10_3 < (t109.length : Int) := of_decide_eq_true (by first | (with_reducible assumption) | assumption)
         obtain ⟨ad112, e112, hx112_0⟩ := Kd.ZD (Kd.zv HO_8.out).2.2 x10_3 p112 q112
         cases e112
         replace p112 := eq_true p112
         replace q112 := eq_true q112
         go_wp2
         go_roundg k3
         case measure => have := HK1.out; have := HK2.out; have := HK3.out; omega
         case rel => exact ⟨(wrap64 (x10_3 + 1)), (by first | rfl | (simp; done) | (simp [*]; done)), H', ⟨by have := HK1.out; have := HK2.out; have := HK3.out; omega⟩, ⟨by (with_reducible repeat (first | apply Kd.zg | apply Kd.zf | apply Kd.zu)); exact HO_8.out⟩, ⟨by (with_reducible repeat (first | refine zI ?_ _ | refine zJ ?_ | refine zH ?_ _)); exact BK101.out⟩, ⟨by repeat (first | (with_reducible first | exact HB.out | apply zC | apply zB | apply zD | refine zF ?_ GE101.out) | exact HB.out)⟩⟩
   rw [if_pos c8] at H
   have c8b0 : decide (x7_1 < (l1.length : Int)) = true := ygy c8
   clear c8
   by_cases c9 : 0 ≤ x7_1
   rotate_left
   next =>
    rw [if_neg c9] at H
    exact absurd H (by simp)
   rw [if_pos c9] at H
   have c9b0 : decide (0 ≤ x7_1) = true := ygy c9
   clear c9
   replace H := ydy.mp H
   obtain ⟨t104, A100, H⟩ := H
   replace H : (if t104 = true then (zb.l0 k1 l1 (wrap64 (x7_1 + 1)) l0_0) else (some (([] : List Int), 5))) = some (r1, r2) := H
   have A10 := zA.mk A100
   clear A100
   by_cases c11 : t104 = true
   next =>
    subst c11
    have H1 : (zb.l0 k1 l1 (wrap64 (x7_1 + 1)) l0_0) = some (r1, r2) := by rw [if_pos rfl] at H; exact H
    clear H
    have H := H1
    clear H1
    have H' := zA.mk H
    clear H
    try go_wp2
    have n0_ := zA.mk (zJ BK101.out)
    have n1_ := zA.mk (zD HB.out)
    clear BK101
    clear HB
    have BK101 := n0_
    have HB := n1_
    clear n0_ n1_
    have p103 : 0 ≤ (x7_1 : Int) := of_decide_eq_true (by first | (with_reducible assumption) | assumption)
    have q103 : x7_1 < (l1.length : Int) := of_decide_eq_true (by first | (with_reducible assumption) | assumption)
    obtain ⟨ad103, A103_0, c103_0, e103, hx103_0, hl103_0, hi103_0⟩ := QM HR1.out x7_1 p103 q103
    have hw103_0 := hx103_0
    cases e103
    replace hx103_0 := (HB.out.cell (ypy w _ hx103_0)).trans hx103_0
    have HR103_0 := zA.mk hi103_0
    have HC103_0 := zA.mk hl103_0
    clear hi103_0 hl103_0
    replace p103 := eq_true p103
    replace q103 := eq_true q103
    refine QN (n := 7) (S := fun w' => w'.cell? ⟨gb101, 0, none⟩ = some (.slice A0_0 l0_0.length c0_0) ∧ w'.cell? (ad103.add (x7_1).toNat) = some (.slice A103_0 (zV l1 x7_1).length c103_0)) (ds := []) #[false, false, false, false, false, false, false] (by kernel_rfl) rfl rfl ⟨(zK BK101.out 0).trans rfl, ((HB.out.cell (ypy w _ hw103_0)).trans hw103_0)⟩ (fun hHeld => ?_)
    generalize wr.drew = w12 at BK101 HB HR103_0 hx103_0 hHeld ⊢
    refine zp (i := 1) (N := some 23) (v := ?_) (a' := ?_) #[false, true, false, false, false, false, false] rfl rfl (by kernel_rfl) (fun _ _ _ h => h) (Or.inl ⟨by rfl, ?_⟩) ?_ ?_
    rotate_left
    next =>
     intro w'
     go_simp
     with_reducible rfl
    rotate_left
    next =>
     simp only [Act.put, yay, yby, ycy, zY, zZ]
     rfl
    refine zp (i := 2) (N := some 24) (v := ?_) (a' := ?_) #[false, true, true, false, false, false, false] rfl rfl (by kernel_rfl) (fun _ _ _ h => h) (Or.inl ⟨by rfl, ?_⟩) ?_ ?_
    rotate_left
    next =>
     intro w'
     go_simp
     with_reducible rfl
    rotate_left
    next =>
     simp only [Act.put, yay, yby, ycy, zY, zZ]
     rfl
    refine zp (i := 3) (N := some 25) (v := ?_) (a' := ?_) #[false, true, true, true, false, false, false] rfl rfl (by kernel_rfl) (fun _ _ _ h => h) (Or.inl ⟨by rfl, ?_⟩) ?_ ?_
    rotate_left
    next =>
     intro w'
     go_simp
     with_reducible rfl
    rotate_left
    next =>
     simp only [Act.put, yay, yby, ycy, zY, zZ]
     rfl
    refine ZT (i := 0) (N := some 22) (v := ?_) (a' := ?_) #[true, true, true, true, false, false, false] rfl rfl (by kernel_rfl) (fun _ _ _ h => h) (Or.inl ⟨by rfl, ?_⟩) hHeld ?_ ?_
    rotate_left
    next =>
     rintro w' ⟨s0, s1⟩
     go_simp
     with_reducible rfl
    rotate_left
    next =>
     simp only [Act.put, yay, yby, ycy, zY, zZ]
     rfl
    refine ZT (i := 4) (N := some 26) (v := ?_) (a' := ?_) #[true, true, true, true, true, false, false] rfl rfl (by kernel_rfl) (fun _ _ _ h => h) (Or.inl ⟨by rfl, ?_⟩) hHeld ?_ ?_
    rotate_left
    next =>
     rintro w' ⟨s0, s1⟩
     go_simp
     with_reducible rfl
    rotate_left
    next =>
     simp only [Act.put, yay, yby, ycy, zY, zZ]
     rfl
    refine zAb (i := 5) (N := some 27) #[true, true, true, true, true, true, false] rfl rfl (by kernel_rfl) (by decide) (fun K hK => ?_)
    refine JU Try.func28 (by kernel_rfl) rfl #[.agg #[.slice A0_0 l0_0.length c0_0], .slice A103_0 (zV l1 x7_1).length c103_0] (by rfl) rfl rfl (by (try simp only [yiy, yjy, yky]); first | done | rfl | (simp only [yly, ymy]; rfl)) ?_
    with_reducible refine (ZX.calls k1 _ _ l0_0 _ _ (zV l1 x7_1) true _ ?side1 ?side2 ?side3 ?side4 A10.out).mono ?_
    (case side1 => repeat (first | exact (Kd.zl HR0_0.out HB.out) | (with_reducible refine Kd.zh ?_ _) | (with_reducible refine Kd.zi ?_ _) | (with_reducible refine Kd.qA ?_)))
    (case side2 => exact HC0_0.out)
    (case side3 => repeat (first | exact (Kd.zl HR103_0.out HB.out) | (with_reducible refine Kd.zh ?_ _) | (with_reducible refine Kd.zi ?_ _) | (with_reducible refine Kd.qA ?_)))
    (case side4 => exact HC103_0.out)
    rintro e w13 ⟨rfl, hb⟩
    refine ⟨_, rfl, ?_⟩
    have n0_ := zA.mk (zP (g := gb101) (o := .cells #[.slice A0_0 l0_0.length c0_0] 30 (0, 0)) (by (with_reducible repeat (first | refine zI ?_ _ | refine zJ ?_ | refine zH ?_ _)); exact BK101.out) hb)
    have n1_ := zA.mk (zN (by repeat (first | (with_reducible first | exact HB.out | apply zC | apply zB | apply zD | refine zF ?_ GE101.out) | exact HB.out)) hb)
    clear BK101
    clear HB
    have BK101 := n0_
    have HB := n1_
    clear n0_ n1_
    (try clear hb)
    (try clear hb2)
    (try clear hk)
    (try clear hi)
    refine hK.out _ _ ⟨(zK BK101.out 0).trans rfl, ((HB.out.cell (ypy w _ hw103_0)).trans hw103_0)⟩ (fun hHeld => ?_)
    clear hK K
    refine QQ (a' := ?_) ?_ ?_
    rotate_left
    next =>
     show Act.put _ (some 27) _ = _
     simp only [Act.put, yay, yby, ycy, zY, zZ]
     rfl
    refine zp (i := 6) (N := some 28) (v := ?_) (a' := ?_) #[true, true, true, true, true, true, true] rfl rfl (by kernel_rfl) (fun _ _ _ h => h) (Or.inl ⟨by rfl, ?_⟩) ?_ ?_
    rotate_left
    next =>
     intro w'
     go_simp
     with_reducible rfl
    rotate_left
    next =>
     simp only [Act.put, yay, yby, ycy, zY, zZ]
     rfl
    refine JN (by kernel_rfl) ?_
    try go_wp2
    go_roundg k1
    case measure => have := HK1.out; omega
    case rel => exact ⟨(wrap64 (x7_1 + 1)), (by first | rfl | (simp; done) | (simp [*]; done)), H', ⟨by have := HK1.out; omega⟩, ⟨by (with_reducible repeat (first | refine zI ?_ _ | refine zJ ?_ | refine zH ?_ _)); exact BK101.out⟩, ⟨by repeat (first | (with_reducible first | exact HB.out | apply zC | apply zB | apply zD | refine zF ?_ GE101.out) | exact HB.out)⟩⟩
   next =>
    replace c11 := Bool.eq_false_iff.mpr c11
    subst c11
    have H1 : (some (([] : List Int), 5)) = some (r1, r2) := by rw [if_neg (show ¬ (false = true) by decide)] at H; exact H
    clear H
    have H := H1
    clear H1
    simp only [Option.some.injEq, Prod.mk.injEq] at H
    obtain ⟨rfl, rfl⟩ := H
    try go_wp2
    have n0_ := zA.mk (zJ BK101.out)
    have n1_ := zA.mk (zD HB.out)
    clear BK101
    clear HB
    have BK101 := n0_
    have HB := n1_
    clear n0_ n1_
    have p103 : 0 ≤ (x7_1 : Int) := of_decide_eq_true (by first | (with_reducible assumption) | assumption)
    have q103 : x7_1 < (l1.length : Int) := of_decide_eq_true (by first | (with_reducible assumption) | assumption)
    obtain ⟨ad103, A103_0, c103_0, e103, hx103_0, hl103_0, hi103_0⟩ := QM HR1.out x7_1 p103 q103
    have hw103_0 := hx103_0
    cases e103
    replace hx103_0 := (HB.out.cell (ypy w _ hx103_0)).trans hx103_0
    have HR103_0 := zA.mk hi103_0
    have HC103_0 := zA.mk hl103_0
    clear hi103_0 hl103_0
    replace p103 := eq_true p103
    replace q103 := eq_true q103
    refine QN (n := 7) (S := fun w' => w'.cell? ⟨gb101, 0, none⟩ = some (.slice A0_0 l0_0.length c0_0) ∧ w'.cell? (ad103.add (x7_1).toNat) = some (.slice A103_0 (zV l1 x7_1).length c103_0)) (ds := []) #[false, false, false, false, false, false, false] (by kernel_rfl) rfl rfl ⟨(zK BK101.out 0).trans rfl, ((HB.out.cell (ypy w _ hw103_0)).trans hw103_0)⟩ (fun hHeld => ?_)
    generalize wr.drew = w14 at BK101 HB HR103_0 hx103_0 hHeld ⊢
    refine zp (i := 1) (N := some 23) (v := ?_) (a' := ?_) #[false, true, false, false, false, false, false] rfl rfl (by kernel_rfl) (fun _ _ _ h => h) (Or.inl ⟨by rfl, ?_⟩) ?_ ?_
    rotate_left
    next =>
     intro w'
     go_simp
     with_reducible rfl
    rotate_left
    next =>
     simp only [Act.put, yay, yby, ycy, zY, zZ]
     rfl
    refine zp (i := 2) (N := some 24) (v := ?_) (a' := ?_) #[false, true, true, false, false, false, false] rfl rfl (by kernel_rfl) (fun _ _ _ h => h) (Or.inl ⟨by rfl, ?_⟩) ?_ ?_
    rotate_left
    next =>
     intro w'
     go_simp
     with_reducible rfl
    rotate_left
    next =>
     simp only [Act.put, yay, yby, ycy, zY, zZ]
     rfl
    refine zp (i := 3) (N := some 25) (v := ?_) (a' := ?_) #[false, true, true, true, false, false, false] rfl rfl (by kernel_rfl) (fun _ _ _ h => h) (Or.inl ⟨by rfl, ?_⟩) ?_ ?_
    rotate_left
    next =>
     intro w'
     go_simp
     with_reducible rfl
    rotate_left
    next =>
     simp only [Act.put, yay, yby, ycy, zY, zZ]
     rfl
    refine ZT (i := 0) (N := some 22) (v := ?_) (a' := ?_) #[true, true, true, true, false, false, false] rfl rfl (by kernel_rfl) (fun _ _ _ h => h) (Or.inl ⟨by rfl, ?_⟩) hHeld ?_ ?_
    rotate_left
    next =>
     rintro w' ⟨s0, s1⟩
     go_simp
     with_reducible rfl
    rotate_left
    next =>
     simp only [Act.put, yay, yby, ycy, zY, zZ]
     rfl
    refine ZT (i := 4) (N := some 26) (v := ?_) (a' := ?_) #[true, true, true, true, true, false, false] rfl rfl (by kernel_rfl) (fun _ _ _ h => h) (Or.inl ⟨by rfl, ?_⟩) hHeld ?_ ?_
    rotate_left
    next =>
     rintro w' ⟨s0, s1⟩
     go_simp
     with_reducible rfl
    rotate_left
    next =>
     simp only [Act.put, yay, yby, ycy, zY, zZ]
     rfl
    refine zAb (i := 5) (N := some 27) #[true, true, true, true, true, true, false] rfl rfl (by kernel_rfl) (by decide) (fun K hK => ?_)
    refine JU Try.func28 (by kernel_rfl) rfl #[.agg #[.slice A0_0 l0_0.length c0_0], .slice A103_0 (zV l1 x7_1).length c103_0] (by rfl) rfl rfl (by (try simp only [yiy, yjy, yky]); first | done | rfl | (simp only [yly, ymy]; rfl)) ?_
    with_reducible refine (ZX.calls k1 _ _ l0_0 _ _ (zV l1 x7_1) false _ ?side1 ?side2 ?side3 ?side4 A10.out).mono ?_
    (case side1 => repeat (first | exact (Kd.zl HR0_0.out HB.out) | (with_reducible refine Kd.zh ?_ _) | (with_reducible refine Kd.zi ?_ _) | (with_reducible refine Kd.qA ?_)))
    (case side2 => exact HC0_0.out)
    (case side3 => repeat (first | exact (Kd.zl HR103_0.out HB.out) | (with_reducible refine Kd.zh ?_ _) | (with_reducible refine Kd.zi ?_ _) | (with_reducible refine Kd.qA ?_)))
    (case side4 => exact HC103_0.out)
    rintro e w15 ⟨rfl, hb⟩
    refine ⟨_, rfl, ?_⟩
    have n0_ := zA.mk (zP (g := gb101) (o := .cells #[.slice A0_0 l0_0.length c0_0] 30 (0, 0)) (by (with_reducible repeat (first | refine zI ?_ _ | refine zJ ?_ | refine zH ?_ _)); exact BK101.out) hb)
    have n1_ := zA.mk (zN (by repeat (first | (with_reducible first | exact HB.out | apply zC | apply zB | apply zD | refine zF ?_ GE101.out) | exact HB.out)) hb)
    clear BK101
    clear HB
    have BK101 := n0_
    have HB := n1_
    clear n0_ n1_
    (try clear hb)
    (try clear hb2)
    (try clear hk)
    (try clear hi)
    refine hK.out _ _ ⟨(zK BK101.out 0).trans rfl, ((HB.out.cell (ypy w _ hw103_0)).trans hw103_0)⟩ (fun hHeld => ?_)
    clear hK K
    refine QQ (a' := ?_) ?_ ?_
    rotate_left
    next =>
     show Act.put _ (some 27) _ = _
     simp only [Act.put, yay, yby, ycy, zY, zZ]
     rfl
    refine zp (i := 6) (N := some 28) (v := ?_) (a' := ?_) #[true, true, true, true, true, true, true] rfl rfl (by kernel_rfl) (fun _ _ _ h => h) (Or.inl ⟨by rfl, ?_⟩) ?_ ?_
    rotate_left
    next =>
     intro w'
     go_simp
     with_reducible rfl
    rotate_left
    next =>
     simp only [Act.put, yay, yby, ycy, zY, zZ]
     rfl
    refine JN (by kernel_rfl) ?_
    try go_wp2
    go_ret2
    exact ⟨_, by first | rfl | (simp [zQ, zR] <;> rfl) | (simp [*, zQ, zR] <;> rfl), by first | exact Kd.zA9 _ _ _ _ _ | exact Kd.zF9 _ _ _ _ _ | exact Kd.zFB _ _ _ _ _ | exact Kd.zEv _ _ _ _ _ | exact Kd.zF4 _ _ _ _ _, by repeat (first | (with_reducible first | exact HB.out | apply zC | apply zB | apply zD | refine zF ?_ GE101.out) | exact HB.out)⟩
end Go.Proofs.Ythjpdljdodalaaa.P
namespace Go.Proofs.Ythjpdljdodalaaa.Lib
open Go.RowKit Go.Proofs.YthjpdljdodalaaaW.PrintWords
set_option linter.unusedVariables false
section
variable {α : Type} {d : Kd α} {e b lo hi lo2 hi2 T : Nat} {w w' W : World} {v : Value} {xs ys : List α}
def ObS (d : Kd α) (e b : Nat) (w : World) (lo hi : Nat) (v : Value) (xs : List α) : Prop := hi ≤ w.heap.size ∧ Kd.S d e w b (fun k => lo ≤ k ∧ k < hi) v xs
def ObR (d : Kd α) (e b : Nat) (w : World) (lo hi : Nat) (v : Value) (xs : List α) : Prop := hi ≤ w.heap.size ∧ Kd.R d e w b (fun k => lo ≤ k ∧ k < hi) v xs
theorem size_set (w : World) (g i : Nat) (u : Value) : w.heap.size ≤ (w.setCell ⟨g, i, none⟩ u).heap.size := ((yry 0 w).setCell (Nat.zero_le _) u).size
theorem ObS.made (ho : Kd.S d e w' W.heap.size (fun _ => True) v xs) (hb : Below W.heap.size W w') (hT : T ≤ W.heap.size) (hB : b ≤ W.heap.size) : ∃ lo hi, (T ≤ lo ∧ lo ≤ hi) ∧ hi ≤ w'.heap.size ∧ ObS d e b w' lo hi v xs :=
  ⟨W.heap.size, w'.heap.size, ⟨hT, hb.size⟩, yqy _, yqy _, Kd.Jt (Kd.Zk (Kd.zF5 ho) (fun k hk => ⟨hk.2.1, hk.2.2.1⟩)) hB⟩
theorem ObR.made (ho : Kd.R d e w' W.heap.size (fun _ => True) v xs) (hb : Below W.heap.size W w') (hT : T ≤ W.heap.size) (hB : b ≤ W.heap.size) : ∃ lo hi, (T ≤ lo ∧ lo ≤ hi) ∧ hi ≤ w'.heap.size ∧ ObR d e b w' lo hi v xs :=
  ⟨W.heap.size, w'.heap.size, ⟨hT, hb.size⟩, yqy _, yqy _, Kd.ZU (Kd.qW (Kd.Qb ho) (fun k hk => ⟨hk.2.1, hk.2.2.1⟩)) hB⟩
theorem ObS.below (h : ObS d e b w lo hi v xs) (hb : Below w.heap.size w w') : ObS d e b w' lo hi v xs := ⟨Nat.le_trans h.1 hb.size, Kd.QL h.2 hb⟩
theorem ObR.below (h : ObR d e b w lo hi v xs) (hb : Below w.heap.size w w') : ObR d e b w' lo hi v xs := ⟨Nat.le_trans h.1 hb.size, Kd.Zp h.2 hb⟩
theorem ObS.drew (h : ObS d e b w lo hi v xs) : ObS d e b w.drew lo hi v xs := ⟨h.1, Kd.qf h.2⟩
theorem ObR.drew (h : ObR d e b w lo hi v xs) : ObR d e b w.drew lo hi v xs := ⟨h.1, Kd.zu h.2⟩
theorem ObS.far {g i : Nat} (h : ObS d e b w lo hi v xs) (hg : g < lo ∨ hi ≤ g) (u : Value) : ObS d e b (w.setCell ⟨g, i, none⟩ u) lo hi v xs :=
  ⟨Nat.le_trans h.1 (size_set _ _ _ _), Kd.zBH h.2 (fun k hk => by show k ≠ g; have := hk.1; have := hk.2; omega) u⟩
theorem ObR.far {g i : Nat} (h : ObR d e b w lo hi v xs) (hg : g < lo ∨ hi ≤ g) (u : Value) : ObR d e b (w.setCell ⟨g, i, none⟩ u) lo hi v xs :=
  ⟨Nat.le_trans h.1 (size_set _ _ _ _), Kd.zCp h.2 (fun k hk => by show k ≠ g; have := hk.1; have := hk.2; omega) u⟩
theorem ObS.kept (h : ObS d e b w lo hi v xs) (hk : Kept w w' (fun k => lo2 ≤ k ∧ k < hi2)) (hd : hi ≤ lo2 ∨ hi2 ≤ lo) : ObS d e b w' lo hi v xs :=
  ⟨Nat.le_trans h.1 hk.1, Kd.S_kept h.2 hk (fun k h1 h2 => by have := h1.1; have := h1.2; have := h2.1; have := h2.2; omega)⟩
theorem ObR.kept (h : ObR d e b w lo hi v xs) (hk : Kept w w' (fun k => lo2 ≤ k ∧ k < hi2)) (hd : hi ≤ lo2 ∨ hi2 ≤ lo) : ObR d e b w' lo hi v xs :=
  ⟨Nat.le_trans h.1 hk.1, Kd.R_kept h.2 hk (fun k h1 h2 => by have := h1.1; have := h1.2; have := h2.1; have := h2.2; omega)⟩
theorem ObS.slice (h : ObS d e b w lo hi v xs) : ∃ A c, v = .slice A xs.length c := Kd.JO h.2
theorem ObR.slice (h : ObR d e b w lo hi v xs) : ∃ A c, v = .slice A xs.length c := Kd.ZN h.2
theorem ObS.reads {A : Option Addr} {n c : Nat} (h : ObS d e b w lo hi (.slice A n c) xs) : n = xs.length ∧ n ≤ c ∧ d.C w A xs.length xs := Kd.Zt h.2
theorem ObR.reads {A : Option Addr} {n c : Nat} (h : ObR d e b w lo hi (.slice A n c) xs) : n = xs.length ∧ n ≤ c ∧ d.C w A xs.length xs := Kd.zv h.2
theorem ObS.room {A : Option Addr} {n c : Nat} (h : ObS d e b w lo hi (.slice A n c) xs) : xs.length ≤ c := by have := h.reads; omega
theorem ObR.room {A : Option Addr} {n c : Nat} (h : ObR d e b w lo hi (.slice A n c) xs) : xs.length ≤ c := by have := h.reads; omega
theorem ObR.marked {ok' : Nat → Prop} (h : ObR d e b w lo hi v xs) (hE : d.E = []) (hy : Kd.R d e w' b ok' v ys) (hs : w.heap.size ≤ w'.heap.size) : ObR d e b w' lo hi v ys :=
  ⟨Nat.le_trans h.1 hs, Kd.zFA hE hy (fun k e => h.2.1 k e)⟩
theorem ObS.marked (h : ObS d e b w lo hi v xs) (hy : Kd.S d e w' b (fun k => lo ≤ k ∧ k < hi) v ys) (hs : w.heap.size ≤ w'.heap.size) : ObS d e b w' lo hi v ys := ⟨Nat.le_trans h.1 hs, hy⟩
theorem ObR.range (h : ObR d e b w lo hi v xs) (hk : Kept w w' (fun k_ => some k_ = v.ownBlock)) : Kept w w' (fun k => lo ≤ k ∧ k < hi) := hk.mono (fun k e => h.2.1 k e.symm)
theorem ObS.row (h : ObS d e b w lo hi v xs) : Kd.S d e w b (fun k => lo ≤ k ∧ k < hi) v xs := h.2
theorem ObR.row (h : ObR d e b w lo hi v xs) : Kd.R d e w b (fun k => lo ≤ k ∧ k < hi) v xs := h.2
theorem Zj {n : Nat} (h : w' = w.drewN n) : Below w.heap.size w w' := h ▸ zB (yry _ _) n
theorem qu (h : T ≤ w.heap.size) (hb : Below w.heap.size w w') : T ≤ w'.heap.size := Nat.le_trans h hb.size
theorem zFv (h : T ≤ w.heap.size) : T ≤ w.drew.heap.size := h
theorem zFH {g i : Nat} {u : Value} (h : T ≤ w.heap.size) : T ≤ (w.setCell ⟨g, i, none⟩ u).heap.size := Nat.le_trans h (size_set _ _ _ _)
end
end Go.Proofs.Ythjpdljdodalaaa.Lib
namespace Go.Proofs.Ythjpdljdodalaaa.P
open Go.RowKit Go.Proofs.YthjpdljdodalaaaW.PrintWords Go.Proofs.YthjpdljdodalaaaW.PrintLast Go.Proofs.YthjpdljdodalaaaW.PrintMore
attribute [local go_sem] QS QT Qz JA QD QE QU QV
set_option linter.unusedVariables false
set_option linter.unusedSimpArgs false
open Go.Proofs.Ythjpdljdodalaaa.Lib
def Ze.f (k : Nat) (l0 : List (List (qR))) (l1 : List (List Int)) : Option Bool := (ZF.f k l0 1048576).bind fun t2 => if t2 < 0 then some true else (qS.f k l1 t2).bind fun t5 => if t5 < 0 then some true else (qh.f k l0).bind fun t8 => (qG.f k l1).bind fun t11 => (zb.f k t8 t11).bind fun bt6 => (qh.f k l0).bind fun t18 => (qG.f k l1).bind fun t21 => (Zi.f k t18 t21).bind fun bt9 => (qD.f k bt9.1 bt6.1).bind fun t28 => if t28 = true then if bt9.2 = bt6.2 then (qh.f k l0).bind fun t31 => (Zf.f k t18 t31).bind fun t34 => if t34 = true then (qG.f k l1).bind fun t36 => (qX.f k t21 t36).bind fun t39 => if t39 = true then (ZW.f k t18 1).bind fun bt19 => (qo.f k t21 bt19.1).bind fun bt20 => if bt20.1 < 0 then some false else (qD.f k bt9.1 bt6.1).bind fun t48 => if t48 = true then if bt9.2 = bt6.2 then (qQ.f k bt9.1 1).bind fun bt25 => (qU.f k bt25.2 1).bind fun t54 => if t54 < 0 then some false else if t54 = bt25.1 then (qh.f k l0).bind fun t58 => (qG.f k l1).bind fun t61 => (Zi.f k t58 t61).bind fun bt31 => (qD.f k bt31.1 bt6.1).bind fun t68 => if t68 = true then if bt31.2 = bt6.2 then (qU.f k bt25.2 1).bind fun t71 => if t71 < 0 then some false else if t71 = bt25.1 then some true else some false else some false else some false else some false else some false else some false else some false else some false else some false else some false
set_option maxHeartbeats 8000000 in
set_option maxRecDepth 100000 in
theorem Ze.calls (k : Nat) (A0 : Option Addr) (c0 : Nat) (l0 : List (List (qR))) (A1 : Option Addr) (c1 : Nat) (l1 : List (List Int)) (w : World) (hr0 : Kd.C (Kd.slice 136 QH) w A0 l0.length l0) (hc0 : l0.length ≤ c0) (hr1 : Kd.C (Kd.slice 2 (Kd.int .i64)) w A1 l1.length l1) (hc1 : l1.length ≤ c1) (h : Ze.f k l0 l1 = some true) :
 Calls Try.prog 12 #[.agg #[.slice A0 l0.length c0], .slice A1 l1.length c1] w fun e w' => e = .returned (.bool true) ∧ Below w.heap.size w w' := by
 have hu24 := Try.underlying24
 have hu30 := Try.underlying30
 have HR0 := zA.mk hr0
 have HC0 := zA.mk hc0
 have HR1 := zA.mk hr1
 have HC1 := zA.mk hc1
 clear hr0 hc0 hr1 hc1
 have HB := zA.mk (yry w.heap.size w)
 have HT := zA.mk (yqy w.heap.size)
 have H := h
 clear h
 unfold Ze.f at H
 obtain ⟨t2, H10, H⟩ := ydy.mp H
 have H1 := zA.mk H10
 clear H10
 by_cases cC3 : t2 < 0
 next =>
  have dC3 : decide (t2 < 0) = true := ygy cC3
  clear cC3 H
  go_enter Try.func12, Try.ntmps12
  try go_wp2_with (first | ((with_reducible refine zm (N := 2) rfl ?_); refine zo ?hg (N := 2) ?hd (cs := #[.slice A0 l0.length c0]) (t := 24) ?hr ?_; (case hd => rfl); (case hg => rfl); (case hr => first | (go_simp; done) | (go_simp; rfl)); intro g2 hg w1 hbox hb; have HNg2 := zA.mk (by rw [hg]; exact HT.out : w.heap.size ≤ g2); have HXg2 := zA.mk (show g2 + 1 ≤ w1.heap.size from qi hbox); have nHB := zA.mk (zN HB.out hb); have nHT := zA.mk (qu HT.out hb); clear HB HT  ; have HB := nHB; have HT := nHT; clear nHB nHT  ; clear HT; have HT := HXg2; clear HXg2; have BKg2 := zA.mk hbox; clear hg hbox hb; have hczg2 : w1.cell? ⟨g2, 0, none⟩ = some (.slice A0 l0.length c0) := (zK BKg2.out 0).trans rfl; have hfzg2 := zM BKg2.out 0) | ((with_reducible refine zT (f := 15) rfl ?_); refine qH (some 19) rfl rfl Try.func15 (by kernel_rfl) rfl #[.agg #[.slice A0 l0.length c0], .int .i64 1048576] rfl (by (try simp only [yiy, yjy, yky]); first | done | rfl | (simp only [yly, ymy]; rfl)) ?_; (with_reducible refine (ZF.calls k _ _ l0 1048576 t2 _ ?side1 ?side2 H1.out).mono ?_); (case side1 => exact Kd.zl HR0.out HB.out); (case side2 => exact HC0.out); rintro e w2 ⟨rfl, hb⟩; refine ⟨_, rfl, ?_⟩; (try clear hczg2 hfzg2); have nBg2 := zA.mk (zP (g := g2) (o := .cells #[.slice A0 l0.length c0] 24 (0, 0)) BKg2.out hb); have nHB := zA.mk (zN HB.out hb); have nHT := zA.mk (qu HT.out hb); clear HB HT  BKg2; have BKg2 := nBg2; have HB := nHB; have HT := nHT; clear nHB nHT  nBg2; (try clear hb); (try clear hnd); have hczg2 : w2.cell? ⟨g2, 0, none⟩ = some (.slice A0 l0.length c0) := (zK BKg2.out 0).trans rfl; have hfzg2 := zM BKg2.out 0))
  go_ret
  exact ⟨by first | rfl | (simp <;> rfl), HB.out⟩
 rw [if_neg cC3] at H
 have dC3 : decide (t2 < 0) = false := yhy cC3
 clear cC3
 obtain ⟨t5, H40, H⟩ := ydy.mp H
 have H4 := zA.mk H40
 clear H40
 by_cases cC6 : t5 < 0
 next =>
  have dC6 : decide (t5 < 0) = true := ygy cC6
  clear cC6 H
  go_enter Try.func12, Try.ntmps12
  try go_wp2_with (first | ((with_reducible refine zm (N := 2) rfl ?_); refine zo ?hg (N := 2) ?hd (cs := #[.slice A0 l0.length c0]) (t := 24) ?hr ?_; (case hd => rfl); (case hg => rfl); (case hr => first | (go_simp; done) | (go_simp; rfl)); intro g2 hg w1 hbox hb; have HNg2 := zA.mk (by rw [hg]; exact HT.out : w.heap.size ≤ g2); have HXg2 := zA.mk (show g2 + 1 ≤ w1.heap.size from qi hbox); have nHB := zA.mk (zN HB.out hb); have nHT := zA.mk (qu HT.out hb); clear HB HT  ; have HB := nHB; have HT := nHT; clear nHB nHT  ; clear HT; have HT := HXg2; clear HXg2; have BKg2 := zA.mk hbox; clear hg hbox hb; have hczg2 : w1.cell? ⟨g2, 0, none⟩ = some (.slice A0 l0.length c0) := (zK BKg2.out 0).trans rfl; have hfzg2 := zM BKg2.out 0) | ((with_reducible refine zT (f := 15) rfl ?_); refine qH (some 19) rfl rfl Try.func15 (by kernel_rfl) rfl #[.agg #[.slice A0 l0.length c0], .int .i64 1048576] rfl (by (try simp only [yiy, yjy, yky]); first | done | rfl | (simp only [yly, ymy]; rfl)) ?_; (with_reducible refine (ZF.calls k _ _ l0 1048576 t2 _ ?side1 ?side2 H1.out).mono ?_); (case side1 => exact Kd.zl HR0.out HB.out); (case side2 => exact HC0.out); rintro e w2 ⟨rfl, hb⟩; refine ⟨_, rfl, ?_⟩; (try clear hczg2 hfzg2); have nBg2 := zA.mk (zP (g := g2) (o := .cells #[.slice A0 l0.length c0] 24 (0, 0)) BKg2.out hb); have nHB := zA.mk (zN HB.out hb); have nHT := zA.mk (qu HT.out hb); clear HB HT  BKg2; have BKg2 := nBg2; have HB := nHB; have HT := nHT; clear nHB nHT  nBg2; (try clear hb); (try clear hnd); have hczg2 : w2.cell? ⟨g2, 0, none⟩ = some (.slice A0 l0.length c0) := (zK BKg2.out 0).trans rfl; have hfzg2 := zM BKg2.out 0) | ((with_reducible refine zT (f := 44) rfl ?_); refine qH (some 24) rfl rfl Try.func44 (by kernel_rfl) rfl #[.slice A1 l1.length c1, .int .i64 t2] rfl (by (try simp only [yiy, yjy, yky]); first | done | rfl | (simp only [yly, ymy]; rfl)) ?_; (with_reducible refine (qS.calls k _ _ l1 t2 t5 _ ?side1 ?side2 H4.out).mono ?_); (case side1 => exact Kd.zl HR1.out HB.out); (case side2 => exact HC1.out); rintro e w3 ⟨rfl, ⟨nd, hnd⟩⟩; refine ⟨_, rfl, ?_⟩; have hb := Zj hnd; (try clear hczg2 hfzg2); have nBg2 := zA.mk (zP (g := g2) (o := .cells #[.slice A0 l0.length c0] 24 (0, 0)) BKg2.out hb); have nHB := zA.mk (zN HB.out hb); have nHT := zA.mk (qu HT.out hb); clear HB HT  BKg2; have BKg2 := nBg2; have HB := nHB; have HT := nHT; clear nHB nHT  nBg2; (try clear hb); (try clear hnd); have hczg2 : w3.cell? ⟨g2, 0, none⟩ = some (.slice A0 l0.length c0) := (zK BKg2.out 0).trans rfl; have hfzg2 := zM BKg2.out 0))
  go_ret
  exact ⟨by first | rfl | (simp <;> rfl), HB.out⟩
 rw [if_neg cC6] at H
 have dC6 : decide (t5 < 0) = false := yhy cC6
 clear cC6
 obtain ⟨t8, H70, H⟩ := ydy.mp H
 have H7 := zA.mk H70
 clear H70
 obtain ⟨t11, H100, H⟩ := ydy.mp H
 have H10 := zA.mk H100
 clear H100
 obtain ⟨⟨t14, t16⟩, H130, H⟩ := ydy.mp H
 have H13 := zA.mk H130
 clear H130
 obtain ⟨t18, H170, H⟩ := ydy.mp H
 have H17 := zA.mk H170
 clear H170
 obtain ⟨t21, H200, H⟩ := ydy.mp H
 have H20 := zA.mk H200
 clear H200
 obtain ⟨⟨t24, t26⟩, H230, H⟩ := ydy.mp H
 have H23 := zA.mk H230
 clear H230
 obtain ⟨t28, H270, H⟩ := ydy.mp H
 obtain rfl : t28 = true := by cases t28 with | true => rfl | false => exact absurd H (by simp)
 replace H := H
 have H27 := zA.mk H270
 clear H270
 rw [if_pos rfl] at H
 have cC29 : t26 = t16 := by by_cases c_ : t26 = t16; exact c_; rw [if_neg c_] at H; cases H
 rw [if_pos cC29] at H
 have dC29 : (t26 != t16) = false := by rw [cC29]; exact bne_self_eq_false _
 clear cC29
 obtain ⟨t31, H300, H⟩ := ydy.mp H
 have H30 := zA.mk H300
 clear H300
 obtain ⟨t34, H330, H⟩ := ydy.mp H
 obtain rfl : t34 = true := by cases t34 with | true => rfl | false => exact absurd H (by simp)
 replace H := H
 have H33 := zA.mk H330
 clear H330
 rw [if_pos rfl] at H
 obtain ⟨t36, H350, H⟩ := ydy.mp H
 have H35 := zA.mk H350
 clear H350
 obtain ⟨t39, H380, H⟩ := ydy.mp H
 obtain rfl : t39 = true := by cases t39 with | true => rfl | false => exact absurd H (by simp)
 replace H := H
 have H38 := zA.mk H380
 clear H380
 rw [if_pos rfl] at H
 obtain ⟨⟨m41, y42⟩, H400, H⟩ := ydy.mp H
 have H40 := zA.mk H400
 clear H400
 dsimp only at H
 obtain ⟨⟨m44, y45⟩, H430, H⟩ := ydy.mp H
 have H43 := zA.mk H430
 clear H430
 dsimp only at H
 have cC46 : ¬ (m44 < 0) := fun c_ => by rw [if_pos c_] at H; cases H
 rw [if_neg cC46] at H
 have dC46 : decide (m44 < 0) = false := yhy cC46
 clear cC46
 obtain ⟨t48, H470, H⟩ := ydy.mp H
 obtain rfl : t48 = true := by cases t48 with | true => rfl | false => exact absurd H (by simp)
 replace H := H
 have H47 := zA.mk H470
 clear H470
 rw [if_pos rfl] at H
 have cC49 : t26 = t16 := by by_cases c_ : t26 = t16; exact c_; rw [if_neg c_] at H; cases H
 rw [if_pos cC49] at H
 have dC49 : (t26 != t16) = false := by rw [cC49]; exact bne_self_eq_false _
 clear cC49
 obtain ⟨⟨m51, y52⟩, H500, H⟩ := ydy.mp H
 have H50 := zA.mk H500
 clear H500
 dsimp only at H
 obtain ⟨t54, H530, H⟩ := ydy.mp H
 have H53 := zA.mk H530
 clear H530
 have cC55 : ¬ (t54 < 0) := fun c_ => by rw [if_pos c_] at H; cases H
 rw [if_neg cC55] at H
 have dC55 : decide (t54 < 0) = false := yhy cC55
 clear cC55
 have cC56 : t54 = m51 := by by_cases c_ : t54 = m51; exact c_; rw [if_neg c_] at H; cases H
 rw [if_pos cC56] at H
 have dC56 : (t54 != m51) = false := by rw [cC56]; exact bne_self_eq_false _
 clear cC56
 obtain ⟨t58, H570, H⟩ := ydy.mp H
 have H57 := zA.mk H570
 clear H570
 obtain ⟨t61, H600, H⟩ := ydy.mp H
 have H60 := zA.mk H600
 clear H600
 obtain ⟨⟨t64, t66⟩, H630, H⟩ := ydy.mp H
 have H63 := zA.mk H630
 clear H630
 obtain ⟨t68, H670, H⟩ := ydy.mp H
 obtain rfl : t68 = true := by cases t68 with | true => rfl | false => exact absurd H (by simp)
 replace H := H
 have H67 := zA.mk H670
 clear H670
 rw [if_pos rfl] at H
 have cC69 : t66 = t16 := by by_cases c_ : t66 = t16; exact c_; rw [if_neg c_] at H; cases H
 rw [if_pos cC69] at H
 have dC69 : (t66 != t16) = false := by rw [cC69]; exact bne_self_eq_false _
 clear cC69
 obtain ⟨t71, H700, H⟩ := ydy.mp H
 have H70 := zA.mk H700
 clear H700
 have cC72 : ¬ (t71 < 0) := fun c_ => by rw [if_pos c_] at H; cases H
 rw [if_neg cC72] at H
 have dC72 : decide (t71 < 0) = false := yhy cC72
 clear cC72
 have cC73 : t71 = m51 := by by_cases c_ : t71 = m51; exact c_; rw [if_neg c_] at H; cases H
 rw [if_pos cC73] at H
 have dC73 : (t71 != m51) = false := by rw [cC73]; exact bne_self_eq_false _
 clear cC73
 clear H
 go_enter Try.func12, Try.ntmps12
 try go_wp2_with (first | ((with_reducible refine zm (N := 2) rfl ?_); refine zo ?hg (N := 2) ?hd (cs := #[.slice A0 l0.length c0]) (t := 24) ?hr ?_; (case hd => rfl); (case hg => rfl); (case hr => first | (go_simp; done) | (go_simp; rfl)); intro g2 hg w1 hbox hb; have HNg2 := zA.mk (by rw [hg]; exact HT.out : w.heap.size ≤ g2); have HXg2 := zA.mk (show g2 + 1 ≤ w1.heap.size from qi hbox); have nHB := zA.mk (zN HB.out hb); have nHT := zA.mk (qu HT.out hb); clear HB HT  ; have HB := nHB; have HT := nHT; clear nHB nHT  ; clear HT; have HT := HXg2; clear HXg2; have BKg2 := zA.mk hbox; clear hg hbox hb; have hczg2 : w1.cell? ⟨g2, 0, none⟩ = some (.slice A0 l0.length c0) := (zK BKg2.out 0).trans rfl; have hfzg2 := zM BKg2.out 0) | ((with_reducible refine zT (f := 15) rfl ?_); refine qH (some 19) rfl rfl Try.func15 (by kernel_rfl) rfl #[.agg #[.slice A0 l0.length c0], .int .i64 1048576] rfl (by (try simp only [yiy, yjy, yky]); first | done | rfl | (simp only [yly, ymy]; rfl)) ?_; (with_reducible refine (ZF.calls k _ _ l0 1048576 t2 _ ?side1 ?side2 H1.out).mono ?_); (case side1 => exact Kd.zl HR0.out HB.out); (case side2 => exact HC0.out); rintro e w2 ⟨rfl, hb⟩; refine ⟨_, rfl, ?_⟩; (try clear hczg2 hfzg2); have nBg2 := zA.mk (zP (g := g2) (o := .cells #[.slice A0 l0.length c0] 24 (0, 0)) BKg2.out hb); have nHB := zA.mk (zN HB.out hb); have nHT := zA.mk (qu HT.out hb); clear HB HT  BKg2; have BKg2 := nBg2; have HB := nHB; have HT := nHT; clear nHB nHT  nBg2; (try clear hb); (try clear hnd); have hczg2 : w2.cell? ⟨g2, 0, none⟩ = some (.slice A0 l0.length c0) := (zK BKg2.out 0).trans rfl; have hfzg2 := zM BKg2.out 0) | ((with_reducible refine zT (f := 44) rfl ?_); refine qH (some 24) rfl rfl Try.func44 (by kernel_rfl) rfl #[.slice A1 l1.length c1, .int .i64 t2] rfl (by (try simp only [yiy, yjy, yky]); first | done | rfl | (simp only [yly, ymy]; rfl)) ?_; (with_reducible refine (qS.calls k _ _ l1 t2 t5 _ ?side1 ?side2 H4.out).mono ?_); (case side1 => exact Kd.zl HR1.out HB.out); (case side2 => exact HC1.out); rintro e w3 ⟨rfl, ⟨nd, hnd⟩⟩; refine ⟨_, rfl, ?_⟩; have hb := Zj hnd; (try clear hczg2 hfzg2); have nBg2 := zA.mk (zP (g := g2) (o := .cells #[.slice A0 l0.length c0] 24 (0, 0)) BKg2.out hb); have nHB := zA.mk (zN HB.out hb); have nHT := zA.mk (qu HT.out hb); clear HB HT  BKg2; have BKg2 := nBg2; have HB := nHB; have HT := nHT; clear nHB nHT  nBg2; (try clear hb); (try clear hnd); have hczg2 : w3.cell? ⟨g2, 0, none⟩ = some (.slice A0 l0.length c0) := (zK BKg2.out 0).trans rfl; have hfzg2 := zM BKg2.out 0) | ((with_reducible refine zT (f := 17) rfl ?_); refine qH (some 29) rfl rfl Try.func17 (by kernel_rfl) rfl #[.agg #[.slice A0 l0.length c0]] rfl (by (try simp only [yiy, yjy, yky]); first | done | rfl | (simp only [yly, ymy]; rfl)) ?_; (with_reducible refine (qh.calls k _ _ l0 t8 _ ?side1 ?side2 H7.out).mono ?_); (case side1 => exact Kd.zl HR0.out HB.out); (case side2 => exact HC0.out); rintro e w4 ⟨vo9, rfl, ho0, hb⟩; refine ⟨_, rfl, ?_⟩; (try clear hczg2 hfzg2); obtain ⟨loo9, hio9, hno9⟩ := ObS.made ho0 hb HT.out (zO HB.out); have nBg2 := zA.mk (zP (g := g2) (o := .cells #[.slice A0 l0.length c0] 24 (0, 0)) BKg2.out hb); have nHB := zA.mk (zN HB.out hb); have nHT := zA.mk (qu HT.out hb); clear HB HT  BKg2; have BKg2 := nBg2; have HB := nHB; have HT := nHT; clear nHB nHT  nBg2; have HNo9 := zA.mk hno9.1; clear HT; have HT := zA.mk hno9.2.1; have HOo9 := zA.mk hno9.2.2; clear hno9 ho0; obtain ⟨Ao9, co9, eeo9⟩ := HOo9.out.slice; subst eeo9; (try clear hb); (try clear hnd); have hczg2 : w4.cell? ⟨g2, 0, none⟩ = some (.slice A0 l0.length c0) := (zK BKg2.out 0).trans rfl; have hfzg2 := zM BKg2.out 0) | ((with_reducible refine zT (f := 46) rfl ?_); refine qH (some 31) rfl rfl Try.func46 (by kernel_rfl) rfl #[.slice A1 l1.length c1] rfl (by (try simp only [yiy, yjy, yky]); first | done | rfl | (simp only [yly, ymy]; rfl)) ?_; (with_reducible refine (qG.calls k _ _ l1 t11 _ ?side1 ?side2 H10.out).mono ?_); (case side1 => exact Kd.zl HR1.out HB.out); (case side2 => exact HC1.out); rintro e w5 ⟨vo12, rfl, ho0, hb⟩; refine ⟨_, rfl, ?_⟩; (try clear hczg2 hfzg2); obtain ⟨loo12, hio12, hno12⟩ := ObS.made ho0 hb HT.out (zO HB.out); have nOo9 := zA.mk (ObS.below HOo9.out hb); have nBg2 := zA.mk (zP (g := g2) (o := .cells #[.slice A0 l0.length c0] 24 (0, 0)) BKg2.out hb); have nHB := zA.mk (zN HB.out hb); have nHT := zA.mk (qu HT.out hb); clear HB HT HOo9 BKg2; have HOo9 := nOo9; have BKg2 := nBg2; have HB := nHB; have HT := nHT; clear nHB nHT nOo9 nBg2; have HNo12 := zA.mk hno12.1; clear HT; have HT := zA.mk hno12.2.1; have HOo12 := zA.mk hno12.2.2; clear hno12 ho0; obtain ⟨Ao12, co12, eeo12⟩ := HOo12.out.slice; subst eeo12; (try clear hb); (try clear hnd); have hczg2 : w5.cell? ⟨g2, 0, none⟩ = some (.slice A0 l0.length c0) := (zK BKg2.out 0).trans rfl; have hfzg2 := zM BKg2.out 0) | ((with_reducible refine zT (f := 45) rfl ?_); refine qH (some 32) rfl rfl Try.func45 (by kernel_rfl) rfl #[.agg #[.slice Ao9 t8.length co9], .slice Ao12 t11.length co12] rfl (by (try simp only [yiy, yjy, yky]); first | done | rfl | (simp only [yly, ymy]; rfl)) ?_; (with_reducible refine (zb.calls k _ _ t8 _ _ t11 t14 t16 _ ?side1 ?side2 ?side3 ?side4 H13.out).mono ?_); (case side1 => exact (ObS.reads HOo9.out).2.2); (case side2 => exact ObS.room HOo9.out); (case side3 => exact (ObS.reads HOo12.out).2.2); (case side4 => exact ObS.room HOo12.out); rintro e w6 ⟨vo15, rfl, ho0, hb⟩; refine ⟨_, rfl, ?_⟩; (try clear hczg2 hfzg2); obtain ⟨loo15, hio15, hno15⟩ := ObR.made ho0 hb HT.out (zO HB.out); have nOo9 := zA.mk (ObS.below HOo9.out hb); have nOo12 := zA.mk (ObS.below HOo12.out hb); have nBg2 := zA.mk (zP (g := g2) (o := .cells #[.slice A0 l0.length c0] 24 (0, 0)) BKg2.out hb); have nHB := zA.mk (zN HB.out hb); have nHT := zA.mk (qu HT.out hb); clear HB HT HOo9 HOo12 BKg2; have HOo9 := nOo9; have HOo12 := nOo12; have BKg2 := nBg2; have HB := nHB; have HT := nHT; clear nHB nHT nOo9 nOo12 nBg2; have HNo15 := zA.mk hno15.1; clear HT; have HT := zA.mk hno15.2.1; have HOo15 := zA.mk hno15.2.2; clear hno15 ho0; obtain ⟨Ao15, co15, eeo15⟩ := HOo15.out.slice; subst eeo15; (try clear hb); (try clear hnd); have hczg2 : w6.cell? ⟨g2, 0, none⟩ = some (.slice A0 l0.length c0) := (zK BKg2.out 0).trans rfl; have hfzg2 := zM BKg2.out 0) | ((with_reducible refine zT (f := 17) rfl ?_); refine qH (some 36) rfl rfl Try.func17 (by kernel_rfl) rfl #[.agg #[.slice A0 l0.length c0]] rfl (by (try simp only [yiy, yjy, yky]); first | done | rfl | (simp only [yly, ymy]; rfl)) ?_; (with_reducible refine (qh.calls k _ _ l0 t18 _ ?side1 ?side2 H17.out).mono ?_); (case side1 => exact Kd.zl HR0.out HB.out); (case side2 => exact HC0.out); rintro e w7 ⟨vo19, rfl, ho0, hb⟩; refine ⟨_, rfl, ?_⟩; (try clear hczg2 hfzg2); obtain ⟨loo19, hio19, hno19⟩ := ObS.made ho0 hb HT.out (zO HB.out); have nOo9 := zA.mk (ObS.below HOo9.out hb); have nOo12 := zA.mk (ObS.below HOo12.out hb); have nOo15 := zA.mk (ObR.below HOo15.out hb); have nBg2 := zA.mk (zP (g := g2) (o := .cells #[.slice A0 l0.length c0] 24 (0, 0)) BKg2.out hb); have nHB := zA.mk (zN HB.out hb); have nHT := zA.mk (qu HT.out hb); clear HB HT HOo9 HOo12 HOo15 BKg2; have HOo9 := nOo9; have HOo12 := nOo12; have HOo15 := nOo15; have BKg2 := nBg2; have HB := nHB; have HT := nHT; clear nHB nHT nOo9 nOo12 nOo15 nBg2; have HNo19 := zA.mk hno19.1; clear HT; have HT := zA.mk hno19.2.1; have HOo19 := zA.mk hno19.2.2; clear hno19 ho0; obtain ⟨Ao19, co19, eeo19⟩ := HOo19.out.slice; subst eeo19; (try clear hb); (try clear hnd); have hczg2 : w7.cell? ⟨g2, 0, none⟩ = some (.slice A0 l0.length c0) := (zK BKg2.out 0).trans rfl; have hfzg2 := zM BKg2.out 0) | ((with_reducible refine zm (N := 8) rfl ?_); refine zo ?hg (N := 8) ?hd (cs := #[.slice none 0 0]) (t := 30) ?hr ?_; (case hd => rfl); (case hg => rfl); (case hr => first | (go_simp; done) | (go_simp; rfl)); intro g8 hg w8 hbox hb; (try clear hczg2 hfzg2); have HNg8 := zA.mk (by rw [hg]; exact HT.out : hio19 ≤ g8); have HXg8 := zA.mk (show g8 + 1 ≤ w8.heap.size from qi hbox); have nOo9 := zA.mk (ObS.below HOo9.out hb); have nOo12 := zA.mk (ObS.below HOo12.out hb); have nOo15 := zA.mk (ObR.below HOo15.out hb); have nOo19 := zA.mk (ObS.below HOo19.out hb); have nBg2 := zA.mk (zP (g := g2) (o := .cells #[.slice A0 l0.length c0] 24 (0, 0)) BKg2.out hb); have nHB := zA.mk (zN HB.out hb); have nHT := zA.mk (qu HT.out hb); clear HB HT HOo9 HOo12 HOo15 HOo19 BKg2; have HOo9 := nOo9; have HOo12 := nOo12; have HOo15 := nOo15; have HOo19 := nOo19; have BKg2 := nBg2; have HB := nHB; have HT := nHT; clear nHB nHT nOo9 nOo12 nOo15 nOo19 nBg2; clear HT; have HT := HXg8; clear HXg8; have BKg8 := zA.mk hbox; clear hg hbox hb; have hnbg8_g2 : g8 ≠ g2 := (by have := HNg2.out; have := HNo9.out; have := HNo12.out; have := HNo15.out; have := HNo19.out; have := HNg8.out; omega); have hnbg2_g8 : g2 ≠ g8 := (by have := HNg2.out; have := HNo9.out; have := HNo12.out; have := HNo15.out; have := HNo19.out; have := HNg8.out; omega); have hczg2 : w8.cell? ⟨g2, 0, none⟩ = some (.slice A0 l0.length c0) := (zK BKg2.out 0).trans rfl; have hfzg2 := zM BKg2.out 0; have hczg8 : w8.cell? ⟨g8, 0, none⟩ = some (.slice none 0 0) := (zK BKg8.out 0).trans rfl; have hfzg8 := zM BKg8.out 0) | ((with_reducible refine zT (f := 46) rfl ?_); refine qH (some 38) rfl rfl Try.func46 (by kernel_rfl) rfl #[.slice A1 l1.length c1] rfl (by (try simp only [yiy, yjy, yky]); first | done | rfl | (simp only [yly, ymy]; rfl)) ?_; (with_reducible refine (qG.calls k _ _ l1 t21 _ ?side1 ?side2 H20.out).mono ?_); (case side1 => exact Kd.zl HR1.out (zF HB.out (show w.heap.size ≤ g8 from (by have := HNg2.out; have := HNo9.out; have := HNo12.out; have := HNo15.out; have := HNo19.out; have := HNg8.out; omega)))); (case side2 => exact HC1.out); rintro e w9 ⟨vo22, rfl, ho0, hb⟩; refine ⟨_, rfl, ?_⟩; (try clear hczg2 hfzg2 hczg8 hfzg8); obtain ⟨loo22, hio22, hno22⟩ := ObS.made ho0 hb (zFH HT.out) (zO (zF HB.out (show w.heap.size ≤ g8 from (by have := HNg2.out; have := HNo9.out; have := HNo12.out; have := HNo15.out; have := HNo19.out; have := HNg8.out; omega)))); have nOo9 := zA.mk (ObS.below (ObS.far (g := g8) (i := 0) HOo9.out (by have := HNg2.out; have := HNo9.out; have := HNo12.out; have := HNo15.out; have := HNo19.out; have := HNg8.out; omega) _) hb); have nOo12 := zA.mk (ObS.below (ObS.far (g := g8) (i := 0) HOo12.out (by have := HNg2.out; have := HNo9.out; have := HNo12.out; have := HNo15.out; have := HNo19.out; have := HNg8.out; omega) _) hb); have nOo15 := zA.mk (ObR.below (ObR.far (g := g8) (i := 0) HOo15.out (by have := HNg2.out; have := HNo9.out; have := HNo12.out; have := HNo15.out; have := HNo19.out; have := HNg8.out; omega) _) hb); have nOo19 := zA.mk (ObS.below (ObS.far (g := g8) (i := 0) HOo19.out (by have := HNg2.out; have := HNo9.out; have := HNo12.out; have := HNo15.out; have := HNo19.out; have := HNg8.out; omega) _) hb); have nBg2 := zA.mk (zP (g := g2) (o := .cells #[.slice A0 l0.length c0] 24 (0, 0)) (qZ (p := ⟨g8, 0, none⟩) BKg2.out (show g2 ≠ g8 from (by have := HNg2.out; have := HNo9.out; have := HNo12.out; have := HNo15.out; have := HNo19.out; have := HNg8.out; omega)) _) hb); have nBg8 := zA.mk (zP (g := g8) (o := .cells #[.slice Ao19 t18.length co19] 30 (0, 0)) (qg (cs := #[.slice none 0 0]) BKg8.out 0 _ rfl) hb); have nHB := zA.mk (zN (zF HB.out (show w.heap.size ≤ g8 from (by have := HNg2.out; have := HNo9.out; have := HNo12.out; have := HNo15.out; have := HNo19.out; have := HNg8.out; omega))) hb); have nHT := zA.mk (qu (zFH HT.out) hb); clear HB HT HOo9 HOo12 HOo15 HOo19 BKg2 BKg8; have HOo9 := nOo9; have HOo12 := nOo12; have HOo15 := nOo15; have HOo19 := nOo19; have BKg2 := nBg2; have BKg8 := nBg8; have HB := nHB; have HT := nHT; clear nHB nHT nOo9 nOo12 nOo15 nOo19 nBg2 nBg8; have HNo22 := zA.mk hno22.1; clear HT; have HT := zA.mk hno22.2.1; have HOo22 := zA.mk hno22.2.2; clear hno22 ho0; obtain ⟨Ao22, co22, eeo22⟩ := HOo22.out.slice; subst eeo22; (try clear hb); (try clear hnd); have hczg2 : w9.cell? ⟨g2, 0, none⟩ = some (.slice A0 l0.length c0) := (zK BKg2.out 0).trans rfl; have hfzg2 := zM BKg2.out 0; have hczg8 : w9.cell? ⟨g8, 0, none⟩ = some (.slice Ao19 t18.length co19) := (zK BKg8.out 0).trans rfl; have hfzg8 := zM BKg8.out 0) | ((with_reducible refine zT (f := 47) rfl ?_); refine qH (some 42) rfl rfl Try.func47 (by kernel_rfl) rfl #[.agg #[.slice Ao19 t18.length co19], .slice Ao22 t21.length co22] rfl (by (try simp only [yiy, yjy, yky]); first | done | rfl | (simp only [yly, ymy]; rfl)) ?_; (with_reducible refine (Zi.calls k _ _ t18 _ _ t21 t24 t26 _ ?side1 ?side2 ?side3 ?side4 H23.out).mono ?_); (case side1 => exact (ObS.reads HOo19.out).2.2); (case side2 => exact ObS.room HOo19.out); (case side3 => exact (ObS.reads HOo22.out).2.2); (case side4 => exact ObS.room HOo22.out); rintro e w10 ⟨vo25, rfl, ho0, hb⟩; refine ⟨_, rfl, ?_⟩; (try clear hczg2 hfzg2 hczg8 hfzg8); obtain ⟨loo25, hio25, hno25⟩ := ObR.made ho0 hb HT.out (zO HB.out); have nOo9 := zA.mk (ObS.below HOo9.out hb); have nOo12 := zA.mk (ObS.below HOo12.out hb); have nOo15 := zA.mk (ObR.below HOo15.out hb); have nOo19 := zA.mk (ObS.below HOo19.out hb); have nOo22 := zA.mk (ObS.below HOo22.out hb); have nBg2 := zA.mk (zP (g := g2) (o := .cells #[.slice A0 l0.length c0] 24 (0, 0)) BKg2.out hb); have nBg8 := zA.mk (zP (g := g8) (o := .cells #[.slice Ao19 t18.length co19] 30 (0, 0)) BKg8.out hb); have nHB := zA.mk (zN HB.out hb); have nHT := zA.mk (qu HT.out hb); clear HB HT HOo9 HOo12 HOo15 HOo19 HOo22 BKg2 BKg8; have HOo9 := nOo9; have HOo12 := nOo12; have HOo15 := nOo15; have HOo19 := nOo19; have HOo22 := nOo22; have BKg2 := nBg2; have BKg8 := nBg8; have HB := nHB; have HT := nHT; clear nHB nHT nOo9 nOo12 nOo15 nOo19 nOo22 nBg2 nBg8; have HNo25 := zA.mk hno25.1; clear HT; have HT := zA.mk hno25.2.1; have HOo25 := zA.mk hno25.2.2; clear hno25 ho0; obtain ⟨Ao25, co25, eeo25⟩ := HOo25.out.slice; subst eeo25; (try clear hb); (try clear hnd); have hczg2 : w10.cell? ⟨g2, 0, none⟩ = some (.slice A0 l0.length c0) := (zK BKg2.out 0).trans rfl; have hfzg2 := zM BKg2.out 0; have hczg8 : w10.cell? ⟨g8, 0, none⟩ = some (.slice Ao19 t18.length co19) := (zK BKg8.out 0).trans rfl; have hfzg8 := zM BKg8.out 0) | ((with_reducible refine zT (f := 21) rfl ?_); refine qH (some 47) rfl rfl Try.func21 (by kernel_rfl) rfl #[.slice Ao25 t24.length co25, .slice Ao15 t14.length co15] rfl (by (try simp only [yiy, yjy, yky]); first | done | rfl | (simp only [yly, ymy]; rfl)) ?_; (with_reducible refine (qD.calls k _ _ t24 _ _ t14 true _ ?side1 ?side2 ?side3 ?side4 H27.out).mono ?_); (case side1 => exact (ObR.reads HOo25.out).2.2); (case side2 => exact ObR.room HOo25.out); (case side3 => exact (ObR.reads HOo15.out).2.2); (case side4 => exact ObR.room HOo15.out); rintro e w11 ⟨rfl, ⟨nd, hnd⟩⟩; refine ⟨_, rfl, ?_⟩; have hb := Zj hnd; (try clear hczg2 hfzg2 hczg8 hfzg8); have nOo9 := zA.mk (ObS.below HOo9.out hb); have nOo12 := zA.mk (ObS.below HOo12.out hb); have nOo15 := zA.mk (ObR.below HOo15.out hb); have nOo19 := zA.mk (ObS.below HOo19.out hb); have nOo22 := zA.mk (ObS.below HOo22.out hb); have nOo25 := zA.mk (ObR.below HOo25.out hb); have nBg2 := zA.mk (zP (g := g2) (o := .cells #[.slice A0 l0.length c0] 24 (0, 0)) BKg2.out hb); have nBg8 := zA.mk (zP (g := g8) (o := .cells #[.slice Ao19 t18.length co19] 30 (0, 0)) BKg8.out hb); have nHB := zA.mk (zN HB.out hb); have nHT := zA.mk (qu HT.out hb); clear HB HT HOo9 HOo12 HOo15 HOo19 HOo22 HOo25 BKg2 BKg8; have HOo9 := nOo9; have HOo12 := nOo12; have HOo15 := nOo15; have HOo19 := nOo19; have HOo22 := nOo22; have HOo25 := nOo25; have BKg2 := nBg2; have BKg8 := nBg8; have HB := nHB; have HT := nHT; clear nHB nHT nOo9 nOo12 nOo15 nOo19 nOo22 nOo25 nBg2 nBg8; (try clear hb); (try clear hnd); have hczg2 : w11.cell? ⟨g2, 0, none⟩ = some (.slice A0 l0.length c0) := (zK BKg2.out 0).trans rfl; have hfzg2 := zM BKg2.out 0; have hczg8 : w11.cell? ⟨g8, 0, none⟩ = some (.slice Ao19 t18.length co19) := (zK BKg8.out 0).trans rfl; have hfzg8 := zM BKg8.out 0))
 (try clear hczg2 hfzg2 hczg8 hfzg8)
 have nOo9 := zA.mk (ObS.drew HOo9.out)
 have nOo12 := zA.mk (ObS.drew HOo12.out)
 have nOo15 := zA.mk (ObR.drew HOo15.out)
 have nOo19 := zA.mk (ObS.drew HOo19.out)
 have nOo22 := zA.mk (ObS.drew HOo22.out)
 have nOo25 := zA.mk (ObR.drew HOo25.out)
 have nBg2 := zA.mk (zJ BKg2.out)
 have nBg8 := zA.mk (zJ BKg8.out)
 have nHB := zA.mk (zD HB.out)
 have nHT := zA.mk (zFv HT.out)
 clear HB HT HOo9 HOo12 HOo15 HOo19 HOo22 HOo25 BKg2 BKg8
 have HOo9 := nOo9
 have HOo12 := nOo12
 have HOo15 := nOo15
 have HOo19 := nOo19
 have HOo22 := nOo22
 have HOo25 := nOo25
 have BKg2 := nBg2
 have BKg8 := nBg8
 have HB := nHB
 have HT := nHT
 clear nHB nHT nOo9 nOo12 nOo15 nOo19 nOo22 nOo25 nBg2 nBg8
 refine QN (n := 5) (S := fun w' => w'.cell? ⟨g8, 0, none⟩ = some (.slice Ao19 t18.length co19) ∧ w'.cell? ⟨g2, 0, none⟩ = some (.slice A0 l0.length c0)) (ds := []) #[false, false, false, false, false] (by kernel_rfl) rfl rfl ⟨(zK BKg8.out 0).trans rfl, (zK BKg2.out 0).trans rfl⟩ (fun hHeld => ?_)
 generalize hdr_ : World.drew _ = w12 at HOo9 HOo12 HOo15 HOo19 HOo22 HOo25 BKg2 BKg8 HB HT hHeld ⊢
 (try clear hdr_)
 refine ZT (i := 0) (N := some 54) (v := ?_) (a' := ?_) #[true, false, false, false, false] rfl rfl (by kernel_rfl) (fun _ _ _ h => h) (Or.inl ⟨by rfl, ?_⟩) hHeld ?_ ?_
 rotate_left
 next =>
  rintro w' ⟨s0, s1⟩
  go_simp
  with_reducible rfl
 rotate_left
 next =>
  simp only [Act.put, yay, yby, ycy, zY, zZ]
  rfl
 refine ZT (i := 1) (N := some 55) (v := ?_) (a' := ?_) #[true, true, false, false, false] rfl rfl (by kernel_rfl) (fun _ _ _ h => h) (Or.inl ⟨by rfl, ?_⟩) hHeld ?_ ?_
 rotate_left
 next =>
  rintro w' ⟨s0, s1⟩
  go_simp
  with_reducible rfl
 rotate_left
 next =>
  simp only [Act.put, yay, yby, ycy, zY, zZ]
  rfl
 refine zAb (i := 2) (N := some 56) #[true, true, true, false, false] rfl rfl (by kernel_rfl) (by decide) (fun K hK => ?_)
 refine JU Try.func17 (by kernel_rfl) rfl #[.agg #[.slice A0 l0.length c0]] (by rfl) rfl rfl (by (try simp only [yiy, yjy, yky]); first | done | rfl | (simp only [yly, ymy]; rfl)) ?_
 with_reducible refine (qh.calls k _ _ l0 t31 _ ?side1 ?side2 H30.out).mono ?_
 (case side1 => exact Kd.zl HR0.out HB.out)
 (case side2 => exact HC0.out)
 rintro e w13 ⟨vo32, rfl, ho0, hb⟩
 refine ⟨_, rfl, ?_⟩
 (try clear hczg2 hfzg2 hczg8 hfzg8)
 obtain ⟨loo32, hio32, hno32⟩ := ObS.made ho0 hb HT.out (zO HB.out)
 have nOo9 := zA.mk (ObS.below HOo9.out hb)
 have nOo12 := zA.mk (ObS.below HOo12.out hb)
 have nOo15 := zA.mk (ObR.below HOo15.out hb)
 have nOo19 := zA.mk (ObS.below HOo19.out hb)
 have nOo22 := zA.mk (ObS.below HOo22.out hb)
 have nOo25 := zA.mk (ObR.below HOo25.out hb)
 have nBg2 := zA.mk (zP (g := g2) (o := .cells #[.slice A0 l0.length c0] 24 (0, 0)) BKg2.out hb)
 have nBg8 := zA.mk (zP (g := g8) (o := .cells #[.slice Ao19 t18.length co19] 30 (0, 0)) BKg8.out hb)
 have nHB := zA.mk (zN HB.out hb)
 have nHT := zA.mk (qu HT.out hb)
 clear HB HT HOo9 HOo12 HOo15 HOo19 HOo22 HOo25 BKg2 BKg8
 have HOo9 := nOo9
 have HOo12 := nOo12
 have HOo15 := nOo15
 have HOo19 := nOo19
 have HOo22 := nOo22
 have HOo25 := nOo25
 have BKg2 := nBg2
 have BKg8 := nBg8
 have HB := nHB
 have HT := nHT
 clear nHB nHT nOo9 nOo12 nOo15 nOo19 nOo22 nOo25 nBg2 nBg8
 have HNo32 := zA.mk hno32.1
 clear HT
 have HT := zA.mk hno32.2.1
 have HOo32 := zA.mk hno32.2.2
 clear hno32 ho0
 obtain ⟨Ao32, co32, eeo32⟩ := HOo32.out.slice
 subst eeo32
 (try clear hb)
 (try clear hnd)
 refine hK.out _ _ ⟨(zK BKg8.out 0).trans rfl, (zK BKg2.out 0).trans rfl⟩ (fun hHeld => ?_)
 clear hK K
 refine QQ (a' := ?_) ?_ ?_
 rotate_left
 next =>
  show Act.put _ (some 56) _ = _
  simp only [Act.put, yay, yby, ycy, zY, zZ]
  rfl
 refine zAb (i := 3) (N := some 57) #[true, true, true, true, false] rfl rfl (by kernel_rfl) (by decide) (fun K hK => ?_)
 refine JU Try.func20 (by kernel_rfl) rfl #[.agg #[.slice Ao19 t18.length co19], .agg #[.slice Ao32 t31.length co32]] (by rfl) rfl rfl (by (try simp only [yiy, yjy, yky]); first | done | rfl | (simp only [yly, ymy]; rfl)) ?_
 with_reducible refine (Zf.calls k _ _ t18 _ _ t31 true _ ?side1 ?side2 ?side3 ?side4 H33.out).mono ?_
 (case side1 => exact (ObS.reads HOo19.out).2.2)
 (case side2 => exact ObS.room HOo19.out)
 (case side3 => exact (ObS.reads HOo32.out).2.2)
 (case side4 => exact ObS.room HOo32.out)
 rintro e w14 ⟨rfl, hb⟩
 refine ⟨_, rfl, ?_⟩
 (try clear hczg2 hfzg2 hczg8 hfzg8)
 have nOo9 := zA.mk (ObS.below HOo9.out hb)
 have nOo12 := zA.mk (ObS.below HOo12.out hb)
 have nOo15 := zA.mk (ObR.below HOo15.out hb)
 have nOo19 := zA.mk (ObS.below HOo19.out hb)
 have nOo22 := zA.mk (ObS.below HOo22.out hb)
 have nOo25 := zA.mk (ObR.below HOo25.out hb)
 have nOo32 := zA.mk (ObS.below HOo32.out hb)
 have nBg2 := zA.mk (zP (g := g2) (o := .cells #[.slice A0 l0.length c0] 24 (0, 0)) BKg2.out hb)
 have nBg8 := zA.mk (zP (g := g8) (o := .cells #[.slice Ao19 t18.length co19] 30 (0, 0)) BKg8.out hb)
 have nHB := zA.mk (zN HB.out hb)
 have nHT := zA.mk (qu HT.out hb)
 clear HB HT HOo9 HOo12 HOo15 HOo19 HOo22 HOo25 HOo32 BKg2 BKg8
 have HOo9 := nOo9
 have HOo12 := nOo12
 have HOo15 := nOo15
 have HOo19 := nOo19
 have HOo22 := nOo22
 have HOo25 := nOo25
 have HOo32 := nOo32
 have BKg2 := nBg2
 have BKg8 := nBg8
 have HB := nHB
 have HT := nHT
 clear nHB nHT nOo9 nOo12 nOo15 nOo19 nOo22 nOo25 nOo32 nBg2 nBg8
 (try clear hb)
 (try clear hnd)
 refine hK.out _ _ ⟨(zK BKg8.out 0).trans rfl, (zK BKg2.out 0).trans rfl⟩ (fun hHeld => ?_)
 clear hK K
 refine QQ (a' := ?_) ?_ ?_
 rotate_left
 next =>
  show Act.put _ (some 57) _ = _
  simp only [Act.put, yay, yby, ycy, zY, zZ]
  rfl
 refine zp (i := 4) (N := some 58) (v := ?_) (a' := ?_) #[true, true, true, true, true] rfl rfl (by kernel_rfl) (fun _ _ _ h => h) (Or.inl ⟨by rfl, ?_⟩) ?_ ?_
 rotate_left
 next =>
  intro w'
  go_simp
  with_reducible rfl
 rotate_left
 next =>
  simp only [Act.put, yay, yby, ycy, zY, zZ]
  rfl
 refine JN (by kernel_rfl) ?_
 have hczg2 : w14.cell? ⟨g2, 0, none⟩ = some (.slice A0 l0.length c0) := (zK BKg2.out 0).trans rfl
 have hfzg2 := zM BKg2.out 0
 have hczg8 : w14.cell? ⟨g8, 0, none⟩ = some (.slice Ao19 t18.length co19) := (zK BKg8.out 0).trans rfl
 have hfzg8 := zM BKg8.out 0
 try go_wp2_with (first | ((with_reducible refine zT (f := 46) rfl ?_); refine qH (some 61) rfl rfl Try.func46 (by kernel_rfl) rfl #[.slice A1 l1.length c1] rfl (by (try simp only [yiy, yjy, yky]); first | done | rfl | (simp only [yly, ymy]; rfl)) ?_; (with_reducible refine (qG.calls k _ _ l1 t36 _ ?side1 ?side2 H35.out).mono ?_); (case side1 => exact Kd.zl HR1.out HB.out); (case side2 => exact HC1.out); rintro e w15 ⟨vo37, rfl, ho0, hb⟩; refine ⟨_, rfl, ?_⟩; (try clear hczg2 hfzg2 hczg8 hfzg8); obtain ⟨loo37, hio37, hno37⟩ := ObS.made ho0 hb HT.out (zO HB.out); have nOo9 := zA.mk (ObS.below HOo9.out hb); have nOo12 := zA.mk (ObS.below HOo12.out hb); have nOo15 := zA.mk (ObR.below HOo15.out hb); have nOo19 := zA.mk (ObS.below HOo19.out hb); have nOo22 := zA.mk (ObS.below HOo22.out hb); have nOo25 := zA.mk (ObR.below HOo25.out hb); have nOo32 := zA.mk (ObS.below HOo32.out hb); have nBg2 := zA.mk (zP (g := g2) (o := .cells #[.slice A0 l0.length c0] 24 (0, 0)) BKg2.out hb); have nBg8 := zA.mk (zP (g := g8) (o := .cells #[.slice Ao19 t18.length co19] 30 (0, 0)) BKg8.out hb); have nHB := zA.mk (zN HB.out hb); have nHT := zA.mk (qu HT.out hb); clear HB HT HOo9 HOo12 HOo15 HOo19 HOo22 HOo25 HOo32 BKg2 BKg8; have HOo9 := nOo9; have HOo12 := nOo12; have HOo15 := nOo15; have HOo19 := nOo19; have HOo22 := nOo22; have HOo25 := nOo25; have HOo32 := nOo32; have BKg2 := nBg2; have BKg8 := nBg8; have HB := nHB; have HT := nHT; clear nHB nHT nOo9 nOo12 nOo15 nOo19 nOo22 nOo25 nOo32 nBg2 nBg8; have HNo37 := zA.mk hno37.1; clear HT; have HT := zA.mk hno37.2.1; have HOo37 := zA.mk hno37.2.2; clear hno37 ho0; obtain ⟨Ao37, co37, eeo37⟩ := HOo37.out.slice; subst eeo37; (try clear hb); (try clear hnd); have hczg2 : w15.cell? ⟨g2, 0, none⟩ = some (.slice A0 l0.length c0) := (zK BKg2.out 0).trans rfl; have hfzg2 := zM BKg2.out 0; have hczg8 : w15.cell? ⟨g8, 0, none⟩ = some (.slice Ao19 t18.length co19) := (zK BKg8.out 0).trans rfl; have hfzg8 := zM BKg8.out 0) | ((with_reducible refine zT (f := 48) rfl ?_); refine qH (some 62) rfl rfl Try.func48 (by kernel_rfl) rfl #[.slice Ao22 t21.length co22, .slice Ao37 t36.length co37] rfl (by (try simp only [yiy, yjy, yky]); first | done | rfl | (simp only [yly, ymy]; rfl)) ?_; (with_reducible refine (qX.calls k _ _ t21 _ _ t36 true _ ?side1 ?side2 ?side3 ?side4 H38.out).mono ?_); (case side1 => exact (ObS.reads HOo22.out).2.2); (case side2 => exact ObS.room HOo22.out); (case side3 => exact (ObS.reads HOo37.out).2.2); (case side4 => exact ObS.room HOo37.out); rintro e w16 ⟨rfl, ⟨nd, hnd⟩⟩; refine ⟨_, rfl, ?_⟩; have hb := Zj hnd; (try clear hczg2 hfzg2 hczg8 hfzg8); have nOo9 := zA.mk (ObS.below HOo9.out hb); have nOo12 := zA.mk (ObS.below HOo12.out hb); have nOo15 := zA.mk (ObR.below HOo15.out hb); have nOo19 := zA.mk (ObS.below HOo19.out hb); have nOo22 := zA.mk (ObS.below HOo22.out hb); have nOo25 := zA.mk (ObR.below HOo25.out hb); have nOo32 := zA.mk (ObS.below HOo32.out hb); have nOo37 := zA.mk (ObS.below HOo37.out hb); have nBg2 := zA.mk (zP (g := g2) (o := .cells #[.slice A0 l0.length c0] 24 (0, 0)) BKg2.out hb); have nBg8 := zA.mk (zP (g := g8) (o := .cells #[.slice Ao19 t18.length co19] 30 (0, 0)) BKg8.out hb); have nHB := zA.mk (zN HB.out hb); have nHT := zA.mk (qu HT.out hb); clear HB HT HOo9 HOo12 HOo15 HOo19 HOo22 HOo25 HOo32 HOo37 BKg2 BKg8; have HOo9 := nOo9; have HOo12 := nOo12; have HOo15 := nOo15; have HOo19 := nOo19; have HOo22 := nOo22; have HOo25 := nOo25; have HOo32 := nOo32; have HOo37 := nOo37; have BKg2 := nBg2; have BKg8 := nBg8; have HB := nHB; have HT := nHT; clear nHB nHT nOo9 nOo12 nOo15 nOo19 nOo22 nOo25 nOo32 nOo37 nBg2 nBg8; (try clear hb); (try clear hnd); have hczg2 : w16.cell? ⟨g2, 0, none⟩ = some (.slice A0 l0.length c0) := (zK BKg2.out 0).trans rfl; have hfzg2 := zM BKg2.out 0; have hczg8 : w16.cell? ⟨g8, 0, none⟩ = some (.slice Ao19 t18.length co19) := (zK BKg8.out 0).trans rfl; have hfzg8 := zM BKg8.out 0) | ((with_reducible refine zT (f := 25) rfl ?_); refine qH (some 66) rfl rfl Try.func25 (by kernel_rfl) rfl #[.agg #[.slice Ao19 t18.length co19], .int .i64 1] rfl (by (try simp only [yiy, yjy, yky]); first | done | rfl | (simp only [yly, ymy]; rfl)) ?_; (with_reducible refine (ZW.calls k (fun k_ => loo19 ≤ k_ ∧ k_ < hio19) (.slice Ao19 t18.length co19) t18 1 m41 y42 w _ HB.out (ObS.row HOo19.out) H40.out).mono ?_); rintro e w17 ⟨rfl, hy, hb, hk0⟩; refine ⟨_, rfl, ?_⟩; have hk := hk0; have nM := zA.mk (ObS.marked HOo19.out hy hk.1); (try clear hczg2 hfzg2 hczg8 hfzg8); have nOo9 := zA.mk (ObS.kept HOo9.out hk (by have := HNg2.out; have := HNo9.out; have := HNo12.out; have := HNo15.out; have := HNo19.out; have := HNg8.out; have := HNo22.out; have := HNo25.out; have := HNo32.out; have := HNo37.out; omega)); have nOo12 := zA.mk (ObS.kept HOo12.out hk (by have := HNg2.out; have := HNo9.out; have := HNo12.out; have := HNo15.out; have := HNo19.out; have := HNg8.out; have := HNo22.out; have := HNo25.out; have := HNo32.out; have := HNo37.out; omega)); have nOo15 := zA.mk (ObR.kept HOo15.out hk (by have := HNg2.out; have := HNo9.out; have := HNo12.out; have := HNo15.out; have := HNo19.out; have := HNg8.out; have := HNo22.out; have := HNo25.out; have := HNo32.out; have := HNo37.out; omega)); have nOo22 := zA.mk (ObS.kept HOo22.out hk (by have := HNg2.out; have := HNo9.out; have := HNo12.out; have := HNo15.out; have := HNo19.out; have := HNg8.out; have := HNo22.out; have := HNo25.out; have := HNo32.out; have := HNo37.out; omega)); have nOo25 := zA.mk (ObR.kept HOo25.out hk (by have := HNg2.out; have := HNo9.out; have := HNo12.out; have := HNo15.out; have := HNo19.out; have := HNg8.out; have := HNo22.out; have := HNo25.out; have := HNo32.out; have := HNo37.out; omega)); have nOo32 := zA.mk (ObS.kept HOo32.out hk (by have := HNg2.out; have := HNo9.out; have := HNo12.out; have := HNo15.out; have := HNo19.out; have := HNg8.out; have := HNo22.out; have := HNo25.out; have := HNo32.out; have := HNo37.out; omega)); have nOo37 := zA.mk (ObS.kept HOo37.out hk (by have := HNg2.out; have := HNo9.out; have := HNo12.out; have := HNo15.out; have := HNo19.out; have := HNg8.out; have := HNo22.out; have := HNo25.out; have := HNo32.out; have := HNo37.out; omega)); have nBg2 := zA.mk (zA3 (g := g2) (o := .cells #[.slice A0 l0.length c0] 24 (0, 0)) BKg2.out hk (fun h_ => by have h1_ := h_.1; have h2_ := h_.2; have := HNg2.out; have := HNo9.out; have := HNo12.out; have := HNo15.out; have := HNo19.out; have := HNg8.out; have := HNo22.out; have := HNo25.out; have := HNo32.out; have := HNo37.out; omega)); have nBg8 := zA.mk (zA3 (g := g8) (o := .cells #[.slice Ao19 t18.length co19] 30 (0, 0)) BKg8.out hk (fun h_ => by have h1_ := h_.1; have h2_ := h_.2; have := HNg2.out; have := HNo9.out; have := HNo12.out; have := HNo15.out; have := HNo19.out; have := HNg8.out; have := HNo22.out; have := HNo25.out; have := HNo32.out; have := HNo37.out; omega)); have nHT := zA.mk (Nat.le_trans HT.out hk.1); clear HB HT HOo9 HOo12 HOo15 HOo19 HOo22 HOo25 HOo32 HOo37 BKg2 BKg8; have HOo9 := nOo9; have HOo12 := nOo12; have HOo15 := nOo15; have HOo19 := nM; have HOo22 := nOo22; have HOo25 := nOo25; have HOo32 := nOo32; have HOo37 := nOo37; have BKg2 := nBg2; have BKg8 := nBg8; have HB := zA.mk hb; have HT := nHT; (try clear hy); clear hb hk0 hk nM nHT nOo9 nOo12 nOo15 nOo22 nOo25 nOo32 nOo37 nBg2 nBg8; have hczg2 : w17.cell? ⟨g2, 0, none⟩ = some (.slice A0 l0.length c0) := (zK BKg2.out 0).trans rfl; have hfzg2 := zM BKg2.out 0; have hczg8 : w17.cell? ⟨g8, 0, none⟩ = some (.slice Ao19 t18.length co19) := (zK BKg8.out 0).trans rfl; have hfzg8 := zM BKg8.out 0) | ((with_reducible refine zT (f := 49) rfl ?_); refine qH (some 69) rfl rfl Try.func49 (by kernel_rfl) rfl #[.slice Ao22 t21.length co22, .int .i64 m41] rfl (by (try simp only [yiy, yjy, yky]); first | done | rfl | (simp only [yly, ymy]; rfl)) ?_; (with_reducible refine (qo.calls k (fun k_ => loo22 ≤ k_ ∧ k_ < hio22) (.slice Ao22 t21.length co22) t21 m41 m44 y45 w _ HB.out (ObS.row HOo22.out) H43.out).mono ?_); rintro e w18 ⟨rfl, hy, hb, hk0⟩; refine ⟨_, rfl, ?_⟩; have hk := hk0; have nM := zA.mk (ObS.marked HOo22.out hy hk.1); (try clear hczg2 hfzg2 hczg8 hfzg8); have nOo9 := zA.mk (ObS.kept HOo9.out hk (by have := HNg2.out; have := HNo9.out; have := HNo12.out; have := HNo15.out; have := HNo19.out; have := HNg8.out; have := HNo22.out; have := HNo25.out; have := HNo32.out; have := HNo37.out; omega)); have nOo12 := zA.mk (ObS.kept HOo12.out hk (by have := HNg2.out; have := HNo9.out; have := HNo12.out; have := HNo15.out; have := HNo19.out; have := HNg8.out; have := HNo22.out; have := HNo25.out; have := HNo32.out; have := HNo37.out; omega)); have nOo15 := zA.mk (ObR.kept HOo15.out hk (by have := HNg2.out; have := HNo9.out; have := HNo12.out; have := HNo15.out; have := HNo19.out; have := HNg8.out; have := HNo22.out; have := HNo25.out; have := HNo32.out; have := HNo37.out; omega)); have nOo19 := zA.mk (ObS.kept HOo19.out hk (by have := HNg2.out; have := HNo9.out; have := HNo12.out; have := HNo15.out; have := HNo19.out; have := HNg8.out; have := HNo22.out; have := HNo25.out; have := HNo32.out; have := HNo37.out; omega)); have nOo25 := zA.mk (ObR.kept HOo25.out hk (by have := HNg2.out; have := HNo9.out; have := HNo12.out; have := HNo15.out; have := HNo19.out; have := HNg8.out; have := HNo22.out; have := HNo25.out; have := HNo32.out; have := HNo37.out; omega)); have nOo32 := zA.mk (ObS.kept HOo32.out hk (by have := HNg2.out; have := HNo9.out; have := HNo12.out; have := HNo15.out; have := HNo19.out; have := HNg8.out; have := HNo22.out; have := HNo25.out; have := HNo32.out; have := HNo37.out; omega)); have nOo37 := zA.mk (ObS.kept HOo37.out hk (by have := HNg2.out; have := HNo9.out; have := HNo12.out; have := HNo15.out; have := HNo19.out; have := HNg8.out; have := HNo22.out; have := HNo25.out; have := HNo32.out; have := HNo37.out; omega)); have nBg2 := zA.mk (zA3 (g := g2) (o := .cells #[.slice A0 l0.length c0] 24 (0, 0)) BKg2.out hk (fun h_ => by have h1_ := h_.1; have h2_ := h_.2; have := HNg2.out; have := HNo9.out; have := HNo12.out; have := HNo15.out; have := HNo19.out; have := HNg8.out; have := HNo22.out; have := HNo25.out; have := HNo32.out; have := HNo37.out; omega)); have nBg8 := zA.mk (zA3 (g := g8) (o := .cells #[.slice Ao19 t18.length co19] 30 (0, 0)) BKg8.out hk (fun h_ => by have h1_ := h_.1; have h2_ := h_.2; have := HNg2.out; have := HNo9.out; have := HNo12.out; have := HNo15.out; have := HNo19.out; have := HNg8.out; have := HNo22.out; have := HNo25.out; have := HNo32.out; have := HNo37.out; omega)); have nHT := zA.mk (Nat.le_trans HT.out hk.1); clear HB HT HOo9 HOo12 HOo15 HOo19 HOo22 HOo25 HOo32 HOo37 BKg2 BKg8; have HOo9 := nOo9; have HOo12 := nOo12; have HOo15 := nOo15; have HOo19 := nOo19; have HOo22 := nM; have HOo25 := nOo25; have HOo32 := nOo32; have HOo37 := nOo37; have BKg2 := nBg2; have BKg8 := nBg8; have HB := zA.mk hb; have HT := nHT; (try clear hy); clear hb hk0 hk nM nHT nOo9 nOo12 nOo15 nOo19 nOo25 nOo32 nOo37 nBg2 nBg8; have hczg2 : w18.cell? ⟨g2, 0, none⟩ = some (.slice A0 l0.length c0) := (zK BKg2.out 0).trans rfl; have hfzg2 := zM BKg2.out 0; have hczg8 : w18.cell? ⟨g8, 0, none⟩ = some (.slice Ao19 t18.length co19) := (zK BKg8.out 0).trans rfl; have hfzg8 := zM BKg8.out 0))
 try go_wp2_with (first | (go_at_call 21; (with_reducible refine (qD.calls k _ _ t24 _ _ t14 true _ ?side1 ?side2 ?side3 ?side4 H47.out).mono ?_); (case side1 => exact (ObR.reads HOo25.out).2.2); (case side2 => exact ObR.room HOo25.out); (case side3 => exact (ObR.reads HOo15.out).2.2); (case side4 => exact ObR.room HOo15.out); rintro e w19 ⟨rfl, ⟨nd, hnd⟩⟩; have hb := Zj hnd; (try clear hczg2 hfzg2 hczg8 hfzg8); have nOo9 := zA.mk (ObS.below HOo9.out hb); have nOo12 := zA.mk (ObS.below HOo12.out hb); have nOo15 := zA.mk (ObR.below HOo15.out hb); have nOo19 := zA.mk (ObS.below HOo19.out hb); have nOo22 := zA.mk (ObS.below HOo22.out hb); have nOo25 := zA.mk (ObR.below HOo25.out hb); have nOo32 := zA.mk (ObS.below HOo32.out hb); have nOo37 := zA.mk (ObS.below HOo37.out hb); have nBg2 := zA.mk (zP (g := g2) (o := .cells #[.slice A0 l0.length c0] 24 (0, 0)) BKg2.out hb); have nBg8 := zA.mk (zP (g := g8) (o := .cells #[.slice Ao19 t18.length co19] 30 (0, 0)) BKg8.out hb); have nHB := zA.mk (zN HB.out hb); have nHT := zA.mk (qu HT.out hb); clear HB HT HOo9 HOo12 HOo15 HOo19 HOo22 HOo25 HOo32 HOo37 BKg2 BKg8; have HOo9 := nOo9; have HOo12 := nOo12; have HOo15 := nOo15; have HOo19 := nOo19; have HOo22 := nOo22; have HOo25 := nOo25; have HOo32 := nOo32; have HOo37 := nOo37; have BKg2 := nBg2; have BKg8 := nBg8; have HB := nHB; have HT := nHT; clear nHB nHT nOo9 nOo12 nOo15 nOo19 nOo22 nOo25 nOo32 nOo37 nBg2 nBg8; (try clear hb); (try clear hnd); have hczg2 : w19.cell? ⟨g2, 0, none⟩ = some (.slice A0 l0.length c0) := (zK BKg2.out 0).trans rfl; have hfzg2 := zM BKg2.out 0; have hczg8 : w19.cell? ⟨g8, 0, none⟩ = some (.slice Ao19 t18.length co19) := (zK BKg8.out 0).trans rfl; have hfzg8 := zM BKg8.out 0) | ((with_reducible refine zT (f := 34) rfl ?_); refine qH (some 85) rfl rfl Try.func34 (by kernel_rfl) rfl #[.slice Ao25 t24.length co25, .int .i64 1] rfl (by (try simp only [yiy, yjy, yky]); first | done | rfl | (simp only [yly, ymy]; rfl)) ?_; (with_reducible refine (qQ.calls k (fun k_ => some k_ = (.slice Ao25 t24.length co25 : Value).ownBlock) (.slice Ao25 t24.length co25) t24 1 m51 y52 w _ HB.out (Kd.Qy rfl (ObR.row HOo25.out)) H50.out).mono ?_); rintro e w20 ⟨rfl, hy, hb, hk0⟩; refine ⟨_, rfl, ?_⟩; have hk := ObR.range HOo25.out hk0; have nM := zA.mk (ObR.marked HOo25.out rfl hy hk.1); (try clear hczg2 hfzg2 hczg8 hfzg8); have nOo9 := zA.mk (ObS.kept HOo9.out hk (by have := HNg2.out; have := HNo9.out; have := HNo12.out; have := HNo15.out; have := HNo19.out; have := HNg8.out; have := HNo22.out; have := HNo25.out; have := HNo32.out; have := HNo37.out; omega)); have nOo12 := zA.mk (ObS.kept HOo12.out hk (by have := HNg2.out; have := HNo9.out; have := HNo12.out; have := HNo15.out; have := HNo19.out; have := HNg8.out; have := HNo22.out; have := HNo25.out; have := HNo32.out; have := HNo37.out; omega)); have nOo15 := zA.mk (ObR.kept HOo15.out hk (by have := HNg2.out; have := HNo9.out; have := HNo12.out; have := HNo15.out; have := HNo19.out; have := HNg8.out; have := HNo22.out; have := HNo25.out; have := HNo32.out; have := HNo37.out; omega)); have nOo19 := zA.mk (ObS.kept HOo19.out hk (by have := HNg2.out; have := HNo9.out; have := HNo12.out; have := HNo15.out; have := HNo19.out; have := HNg8.out; have := HNo22.out; have := HNo25.out; have := HNo32.out; have := HNo37.out; omega)); have nOo22 := zA.mk (ObS.kept HOo22.out hk (by have := HNg2.out; have := HNo9.out; have := HNo12.out; have := HNo15.out; have := HNo19.out; have := HNg8.out; have := HNo22.out; have := HNo25.out; have := HNo32.out; have := HNo37.out; omega)); have nOo32 := zA.mk (ObS.kept HOo32.out hk (by have := HNg2.out; have := HNo9.out; have := HNo12.out; have := HNo15.out; have := HNo19.out; have := HNg8.out; have := HNo22.out; have := HNo25.out; have := HNo32.out; have := HNo37.out; omega)); have nOo37 := zA.mk (ObS.kept HOo37.out hk (by have := HNg2.out; have := HNo9.out; have := HNo12.out; have := HNo15.out; have := HNo19.out; have := HNg8.out; have := HNo22.out; have := HNo25.out; have := HNo32.out; have := HNo37.out; omega)); have nBg2 := zA.mk (zA3 (g := g2) (o := .cells #[.slice A0 l0.length c0] 24 (0, 0)) BKg2.out hk (fun h_ => by have h1_ := h_.1; have h2_ := h_.2; have := HNg2.out; have := HNo9.out; have := HNo12.out; have := HNo15.out; have := HNo19.out; have := HNg8.out; have := HNo22.out; have := HNo25.out; have := HNo32.out; have := HNo37.out; omega)); have nBg8 := zA.mk (zA3 (g := g8) (o := .cells #[.slice Ao19 t18.length co19] 30 (0, 0)) BKg8.out hk (fun h_ => by have h1_ := h_.1; have h2_ := h_.2; have := HNg2.out; have := HNo9.out; have := HNo12.out; have := HNo15.out; have := HNo19.out; have := HNg8.out; have := HNo22.out; have := HNo25.out; have := HNo32.out; have := HNo37.out; omega)); have nHT := zA.mk (Nat.le_trans HT.out hk.1); clear HB HT HOo9 HOo12 HOo15 HOo19 HOo22 HOo25 HOo32 HOo37 BKg2 BKg8; have HOo9 := nOo9; have HOo12 := nOo12; have HOo15 := nOo15; have HOo19 := nOo19; have HOo22 := nOo22; have HOo25 := nM; have HOo32 := nOo32; have HOo37 := nOo37; have BKg2 := nBg2; have BKg8 := nBg8; have HB := zA.mk hb; have HT := nHT; (try clear hy); clear hb hk0 hk nM nHT nOo9 nOo12 nOo15 nOo19 nOo22 nOo32 nOo37 nBg2 nBg8; have hczg2 : w20.cell? ⟨g2, 0, none⟩ = some (.slice A0 l0.length c0) := (zK BKg2.out 0).trans rfl; have hfzg2 := zM BKg2.out 0; have hczg8 : w20.cell? ⟨g8, 0, none⟩ = some (.slice Ao19 t18.length co19) := (zK BKg8.out 0).trans rfl; have hfzg8 := zM BKg8.out 0) | ((with_reducible refine zT (f := 35) rfl ?_); refine qH (some 88) rfl rfl Try.func35 (by kernel_rfl) rfl #[.slice Ao25 y52.length co25, .int .i64 1] rfl (by (try simp only [yiy, yjy, yky]); first | done | (rw [show y52.length = t24.length from (ObR.reads HOo25.out).1.symm] <;> rfl) | rfl | (simp only [yly, ymy]; rfl)) ?_; (with_reducible refine (qU.calls k _ _ y52 1 t54 _ ?side1 ?side2 H53.out).mono ?_); (case side1 => exact (ObR.reads HOo25.out).2.2); (case side2 => exact ObR.room HOo25.out); rintro e w21 ⟨rfl, ⟨nd, hnd⟩⟩; refine ⟨_, rfl, ?_⟩; have hb := Zj hnd; (try clear hczg2 hfzg2 hczg8 hfzg8); have nOo9 := zA.mk (ObS.below HOo9.out hb); have nOo12 := zA.mk (ObS.below HOo12.out hb); have nOo15 := zA.mk (ObR.below HOo15.out hb); have nOo19 := zA.mk (ObS.below HOo19.out hb); have nOo22 := zA.mk (ObS.below HOo22.out hb); have nOo25 := zA.mk (ObR.below HOo25.out hb); have nOo32 := zA.mk (ObS.below HOo32.out hb); have nOo37 := zA.mk (ObS.below HOo37.out hb); have nBg2 := zA.mk (zP (g := g2) (o := .cells #[.slice A0 l0.length c0] 24 (0, 0)) BKg2.out hb); have nBg8 := zA.mk (zP (g := g8) (o := .cells #[.slice Ao19 t18.length co19] 30 (0, 0)) BKg8.out hb); have nHB := zA.mk (zN HB.out hb); have nHT := zA.mk (qu HT.out hb); clear HB HT HOo9 HOo12 HOo15 HOo19 HOo22 HOo25 HOo32 HOo37 BKg2 BKg8; have HOo9 := nOo9; have HOo12 := nOo12; have HOo15 := nOo15; have HOo19 := nOo19; have HOo22 := nOo22; have HOo25 := nOo25; have HOo32 := nOo32; have HOo37 := nOo37; have BKg2 := nBg2; have BKg8 := nBg8; have HB := nHB; have HT := nHT; clear nHB nHT nOo9 nOo12 nOo15 nOo19 nOo22 nOo25 nOo32 nOo37 nBg2 nBg8; (try clear hb); (try clear hnd); have hczg2 : w21.cell? ⟨g2, 0, none⟩ = some (.slice A0 l0.length c0) := (zK BKg2.out 0).trans rfl; have hfzg2 := zM BKg2.out 0; have hczg8 : w21.cell? ⟨g8, 0, none⟩ = some (.slice Ao19 t18.length co19) := (zK BKg8.out 0).trans rfl; have hfzg8 := zM BKg8.out 0) | ((with_reducible refine zT (f := 17) rfl ?_); refine qH (some 96) rfl rfl Try.func17 (by kernel_rfl) rfl #[.agg #[.slice A0 l0.length c0]] rfl (by (try simp only [yiy, yjy, yky]); first | done | rfl | (simp only [yly, ymy]; rfl)) ?_; (with_reducible refine (qh.calls k _ _ l0 t58 _ ?side1 ?side2 H57.out).mono ?_); (case side1 => exact Kd.zl HR0.out HB.out); (case side2 => exact HC0.out); rintro e w22 ⟨vo59, rfl, ho0, hb⟩; refine ⟨_, rfl, ?_⟩; (try clear hczg2 hfzg2 hczg8 hfzg8); obtain ⟨loo59, hio59, hno59⟩ := ObS.made ho0 hb HT.out (zO HB.out); have nOo9 := zA.mk (ObS.below HOo9.out hb); have nOo12 := zA.mk (ObS.below HOo12.out hb); have nOo15 := zA.mk (ObR.below HOo15.out hb); have nOo19 := zA.mk (ObS.below HOo19.out hb); have nOo22 := zA.mk (ObS.below HOo22.out hb); have nOo25 := zA.mk (ObR.below HOo25.out hb); have nOo32 := zA.mk (ObS.below HOo32.out hb); have nOo37 := zA.mk (ObS.below HOo37.out hb); have nBg2 := zA.mk (zP (g := g2) (o := .cells #[.slice A0 l0.length c0] 24 (0, 0)) BKg2.out hb); have nBg8 := zA.mk (zP (g := g8) (o := .cells #[.slice Ao19 t18.length co19] 30 (0, 0)) BKg8.out hb); have nHB := zA.mk (zN HB.out hb); have nHT := zA.mk (qu HT.out hb); clear HB HT HOo9 HOo12 HOo15 HOo19 HOo22 HOo25 HOo32 HOo37 BKg2 BKg8; have HOo9 := nOo9; have HOo12 := nOo12; have HOo15 := nOo15; have HOo19 := nOo19; have HOo22 := nOo22; have HOo25 := nOo25; have HOo32 := nOo32; have HOo37 := nOo37; have BKg2 := nBg2; have BKg8 := nBg8; have HB := nHB; have HT := nHT; clear nHB nHT nOo9 nOo12 nOo15 nOo19 nOo22 nOo25 nOo32 nOo37 nBg2 nBg8; have HNo59 := zA.mk hno59.1; clear HT; have HT := zA.mk hno59.2.1; have HOo59 := zA.mk hno59.2.2; clear hno59 ho0; obtain ⟨Ao59, co59, eeo59⟩ := HOo59.out.slice; subst eeo59; (try clear hb); (try clear hnd); have hczg2 : w22.cell? ⟨g2, 0, none⟩ = some (.slice A0 l0.length c0) := (zK BKg2.out 0).trans rfl; have hfzg2 := zM BKg2.out 0; have hczg8 : w22.cell? ⟨g8, 0, none⟩ = some (.slice Ao19 t18.length co19) := (zK BKg8.out 0).trans rfl; have hfzg8 := zM BKg8.out 0) | ((with_reducible refine zT (f := 46) rfl ?_); refine qH (some 98) rfl rfl Try.func46 (by kernel_rfl) rfl #[.slice A1 l1.length c1] rfl (by (try simp only [yiy, yjy, yky]); first | done | rfl | (simp only [yly, ymy]; rfl)) ?_; (with_reducible refine (qG.calls k _ _ l1 t61 _ ?side1 ?side2 H60.out).mono ?_); (case side1 => exact Kd.zl HR1.out HB.out); (case side2 => exact HC1.out); rintro e w23 ⟨vo62, rfl, ho0, hb⟩; refine ⟨_, rfl, ?_⟩; (try clear hczg2 hfzg2 hczg8 hfzg8); obtain ⟨loo62, hio62, hno62⟩ := ObS.made ho0 hb HT.out (zO HB.out); have nOo9 := zA.mk (ObS.below HOo9.out hb); have nOo12 := zA.mk (ObS.below HOo12.out hb); have nOo15 := zA.mk (ObR.below HOo15.out hb); have nOo19 := zA.mk (ObS.below HOo19.out hb); have nOo22 := zA.mk (ObS.below HOo22.out hb); have nOo25 := zA.mk (ObR.below HOo25.out hb); have nOo32 := zA.mk (ObS.below HOo32.out hb); have nOo37 := zA.mk (ObS.below HOo37.out hb); have nOo59 := zA.mk (ObS.below HOo59.out hb); have nBg2 := zA.mk (zP (g := g2) (o := .cells #[.slice A0 l0.length c0] 24 (0, 0)) BKg2.out hb); have nBg8 := zA.mk (zP (g := g8) (o := .cells #[.slice Ao19 t18.length co19] 30 (0, 0)) BKg8.out hb); have nHB := zA.mk (zN HB.out hb); have nHT := zA.mk (qu HT.out hb); clear HB HT HOo9 HOo12 HOo15 HOo19 HOo22 HOo25 HOo32 HOo37 HOo59 BKg2 BKg8; have HOo9 := nOo9; have HOo12 := nOo12; have HOo15 := nOo15; have HOo19 := nOo19; have HOo22 := nOo22; have HOo25 := nOo25; have HOo32 := nOo32; have HOo37 := nOo37; have HOo59 := nOo59; have BKg2 := nBg2; have BKg8 := nBg8; have HB := nHB; have HT := nHT; clear nHB nHT nOo9 nOo12 nOo15 nOo19 nOo22 nOo25 nOo32 nOo37 nOo59 nBg2 nBg8; have HNo62 := zA.mk hno62.1; clear HT; have HT := zA.mk hno62.2.1; have HOo62 := zA.mk hno62.2.2; clear hno62 ho0; obtain ⟨Ao62, co62, eeo62⟩ := HOo62.out.slice; subst eeo62; (try clear hb); (try clear hnd); have hczg2 : w23.cell? ⟨g2, 0, none⟩ = some (.slice A0 l0.length c0) := (zK BKg2.out 0).trans rfl; have hfzg2 := zM BKg2.out 0; have hczg8 : w23.cell? ⟨g8, 0, none⟩ = some (.slice Ao19 t18.length co19) := (zK BKg8.out 0).trans rfl; have hfzg8 := zM BKg8.out 0) | ((with_reducible refine zT (f := 47) rfl ?_); refine qH (some 99) rfl rfl Try.func47 (by kernel_rfl) rfl #[.agg #[.slice Ao59 t58.length co59], .slice Ao62 t61.length co62] rfl (by (try simp only [yiy, yjy, yky]); first | done | rfl | (simp only [yly, ymy]; rfl)) ?_; (with_reducible refine (Zi.calls k _ _ t58 _ _ t61 t64 t66 _ ?side1 ?side2 ?side3 ?side4 H63.out).mono ?_); (case side1 => exact (ObS.reads HOo59.out).2.2); (case side2 => exact ObS.room HOo59.out); (case side3 => exact (ObS.reads HOo62.out).2.2); (case side4 => exact ObS.room HOo62.out); rintro e w24 ⟨vo65, rfl, ho0, hb⟩; refine ⟨_, rfl, ?_⟩; (try clear hczg2 hfzg2 hczg8 hfzg8); obtain ⟨loo65, hio65, hno65⟩ := ObR.made ho0 hb HT.out (zO HB.out); have nOo9 := zA.mk (ObS.below HOo9.out hb); have nOo12 := zA.mk (ObS.below HOo12.out hb); have nOo15 := zA.mk (ObR.below HOo15.out hb); have nOo19 := zA.mk (ObS.below HOo19.out hb); have nOo22 := zA.mk (ObS.below HOo22.out hb); have nOo25 := zA.mk (ObR.below HOo25.out hb); have nOo32 := zA.mk (ObS.below HOo32.out hb); have nOo37 := zA.mk (ObS.below HOo37.out hb); have nOo59 := zA.mk (ObS.below HOo59.out hb); have nOo62 := zA.mk (ObS.below HOo62.out hb); have nBg2 := zA.mk (zP (g := g2) (o := .cells #[.slice A0 l0.length c0] 24 (0, 0)) BKg2.out hb); have nBg8 := zA.mk (zP (g := g8) (o := .cells #[.slice Ao19 t18.length co19] 30 (0, 0)) BKg8.out hb); have nHB := zA.mk (zN HB.out hb); have nHT := zA.mk (qu HT.out hb); clear HB HT HOo9 HOo12 HOo15 HOo19 HOo22 HOo25 HOo32 HOo37 HOo59 HOo62 BKg2 BKg8; have HOo9 := nOo9; have HOo12 := nOo12; have HOo15 := nOo15; have HOo19 := nOo19; have HOo22 := nOo22; have HOo25 := nOo25; have HOo32 := nOo32; have HOo37 := nOo37; have HOo59 := nOo59; have HOo62 := nOo62; have BKg2 := nBg2; have BKg8 := nBg8; have HB := nHB; have HT := nHT; clear nHB nHT nOo9 nOo12 nOo15 nOo19 nOo22 nOo25 nOo32 nOo37 nOo59 nOo62 nBg2 nBg8; have HNo65 := zA.mk hno65.1; clear HT; have HT := zA.mk hno65.2.1; have HOo65 := zA.mk hno65.2.2; clear hno65 ho0; obtain ⟨Ao65, co65, eeo65⟩ := HOo65.out.slice; subst eeo65; (try clear hb); (try clear hnd); have hczg2 : w24.cell? ⟨g2, 0, none⟩ = some (.slice A0 l0.length c0) := (zK BKg2.out 0).trans rfl; have hfzg2 := zM BKg2.out 0; have hczg8 : w24.cell? ⟨g8, 0, none⟩ = some (.slice Ao19 t18.length co19) := (zK BKg8.out 0).trans rfl; have hfzg8 := zM BKg8.out 0) | ((with_reducible refine zT (f := 21) rfl ?_); refine qH (some 104) rfl rfl Try.func21 (by kernel_rfl) rfl #[.slice Ao65 t64.length co65, .slice Ao15 t14.length co15] rfl (by (try simp only [yiy, yjy, yky]); first | done | rfl | (simp only [yly, ymy]; rfl)) ?_; (with_reducible refine (qD.calls k _ _ t64 _ _ t14 true _ ?side1 ?side2 ?side3 ?side4 H67.out).mono ?_); (case side1 => exact (ObR.reads HOo65.out).2.2); (case side2 => exact ObR.room HOo65.out); (case side3 => exact (ObR.reads HOo15.out).2.2); (case side4 => exact ObR.room HOo15.out); rintro e w25 ⟨rfl, ⟨nd, hnd⟩⟩; refine ⟨_, rfl, ?_⟩; have hb := Zj hnd; (try clear hczg2 hfzg2 hczg8 hfzg8); have nOo9 := zA.mk (ObS.below HOo9.out hb); have nOo12 := zA.mk (ObS.below HOo12.out hb); have nOo15 := zA.mk (ObR.below HOo15.out hb); have nOo19 := zA.mk (ObS.below HOo19.out hb); have nOo22 := zA.mk (ObS.below HOo22.out hb); have nOo25 := zA.mk (ObR.below HOo25.out hb); have nOo32 := zA.mk (ObS.below HOo32.out hb); have nOo37 := zA.mk (ObS.below HOo37.out hb); have nOo59 := zA.mk (ObS.below HOo59.out hb); have nOo62 := zA.mk (ObS.below HOo62.out hb); have nOo65 := zA.mk (ObR.below HOo65.out hb); have nBg2 := zA.mk (zP (g := g2) (o := .cells #[.slice A0 l0.length c0] 24 (0, 0)) BKg2.out hb); have nBg8 := zA.mk (zP (g := g8) (o := .cells #[.slice Ao19 t18.length co19] 30 (0, 0)) BKg8.out hb); have nHB := zA.mk (zN HB.out hb); have nHT := zA.mk (qu HT.out hb); clear HB HT HOo9 HOo12 HOo15 HOo19 HOo22 HOo25 HOo32 HOo37 HOo59 HOo62 HOo65 BKg2 BKg8; have HOo9 := nOo9; have HOo12 := nOo12; have HOo15 := nOo15; have HOo19 := nOo19; have HOo22 := nOo22; have HOo25 := nOo25; have HOo32 := nOo32; have HOo37 := nOo37; have HOo59 := nOo59; have HOo62 := nOo62; have HOo65 := nOo65; have BKg2 := nBg2; have BKg8 := nBg8; have HB := nHB; have HT := nHT; clear nHB nHT nOo9 nOo12 nOo15 nOo19 nOo22 nOo25 nOo32 nOo37 nOo59 nOo62 nOo65 nBg2 nBg8; (try clear hb); (try clear hnd); have hczg2 : w25.cell? ⟨g2, 0, none⟩ = some (.slice A0 l0.length c0) := (zK BKg2.out 0).trans rfl; have hfzg2 := zM BKg2.out 0; have hczg8 : w25.cell? ⟨g8, 0, none⟩ = some (.slice Ao19 t18.length co19) := (zK BKg8.out 0).trans rfl; have hfzg8 := zM BKg8.out 0) | ((with_reducible refine zT (f := 35) rfl ?_); refine qH (some 113) rfl rfl Try.func35 (by kernel_rfl) rfl #[.slice Ao25 y52.length co25, .int .i64 1] rfl (by (try simp only [yiy, yjy, yky]); first | done | (rw [show y52.length = t24.length from (ObR.reads HOo25.out).1.symm] <;> rfl) | rfl | (simp only [yly, ymy]; rfl)) ?_; (with_reducible refine (qU.calls k _ _ y52 1 t71 _ ?side1 ?side2 H70.out).mono ?_); (case side1 => exact (ObR.reads HOo25.out).2.2); (case side2 => exact ObR.room HOo25.out); rintro e w26 ⟨rfl, ⟨nd, hnd⟩⟩; refine ⟨_, rfl, ?_⟩; have hb := Zj hnd; (try clear hczg2 hfzg2 hczg8 hfzg8); have nOo9 := zA.mk (ObS.below HOo9.out hb); have nOo12 := zA.mk (ObS.below HOo12.out hb); have nOo15 := zA.mk (ObR.below HOo15.out hb); have nOo19 := zA.mk (ObS.below HOo19.out hb); have nOo22 := zA.mk (ObS.below HOo22.out hb); have nOo25 := zA.mk (ObR.below HOo25.out hb); have nOo32 := zA.mk (ObS.below HOo32.out hb); have nOo37 := zA.mk (ObS.below HOo37.out hb); have nOo59 := zA.mk (ObS.below HOo59.out hb); have nOo62 := zA.mk (ObS.below HOo62.out hb); have nOo65 := zA.mk (ObR.below HOo65.out hb); have nBg2 := zA.mk (zP (g := g2) (o := .cells #[.slice A0 l0.length c0] 24 (0, 0)) BKg2.out hb); have nBg8 := zA.mk (zP (g := g8) (o := .cells #[.slice Ao19 t18.length co19] 30 (0, 0)) BKg8.out hb); have nHB := zA.mk (zN HB.out hb); have nHT := zA.mk (qu HT.out hb); clear HB HT HOo9 HOo12 HOo15 HOo19 HOo22 HOo25 HOo32 HOo37 HOo59 HOo62 HOo65 BKg2 BKg8; have HOo9 := nOo9; have HOo12 := nOo12; have HOo15 := nOo15; have HOo19 := nOo19; have HOo22 := nOo22; have HOo25 := nOo25; have HOo32 := nOo32; have HOo37 := nOo37; have HOo59 := nOo59; have HOo62 := nOo62; have HOo65 := nOo65; have BKg2 := nBg2; have BKg8 := nBg8; have HB := nHB; have HT := nHT; clear nHB nHT nOo9 nOo12 nOo15 nOo19 nOo22 nOo25 nOo32 nOo37 nOo59 nOo62 nOo65 nBg2 nBg8; (try clear hb); (try clear hnd); have hczg2 : w26.cell? ⟨g2, 0, none⟩ = some (.slice A0 l0.length c0) := (zK BKg2.out 0).trans rfl; have hfzg2 := zM BKg2.out 0; have hczg8 : w26.cell? ⟨g8, 0, none⟩ = some (.slice Ao19 t18.length co19) := (zK BKg8.out 0).trans rfl; have hfzg8 := zM BKg8.out 0))
 go_ret
 exact ⟨by first | rfl | (simp <;> rfl), HB.out⟩
end Go.Proofs.Ythjpdljdodalaaa.P
namespace Go.Proofs.Ythjpdljdodalaaa.Lib
set_option linter.unusedVariables false
open Go.RowKit Go.Proofs.YthjpdljdodalaaaW.PrintWords
theorem zBN {σ ρ : Type} (L : Nat → σ → Option ρ) (I : σ → Prop) (m : σ → Nat) (g : σ → ρ)
    (h : ∀ s, I s → (∃ K, ∀ k, K ≤ k → L (k + 1) s = some (g s)) ∨ (∃ s' K, I s' ∧ m s' < m s ∧ g s' = g s ∧ ∀ k, K ≤ k → L (k + 1) s = L k s')) :
    ∀ s, I s → Ev (fun k => L k s) (g s) := by
  have key : ∀ (n : Nat) (s : σ), m s < n → I s → Ev (fun k => L k s) (g s) := by
    intro n
    induction n with
    | zero => intro s hs; omega
    | succ n ih =>
      intro s hs hi
      rcases h s hi with ⟨K, hK⟩ | ⟨s', K, hi', hm, hg, hK⟩
      · refine ⟨K + 1, fun k hk => ?_⟩
        obtain ⟨j, rfl⟩ : ∃ j, k = j + 1 := ⟨k - 1, by omega⟩
        exact hK j (by omega)
      · obtain ⟨K', hK'⟩ := ih s' (by omega) hi'
        refine ⟨max K K' + 1, fun k hk => ?_⟩
        obtain ⟨j, rfl⟩ : ∃ j, k = j + 1 := ⟨k - 1, by omega⟩
        show L (j + 1) s = some (g s)
        rw [hK j (by omega), ← hg]
        exact hK' j (by omega)
  intro s hi
  exact key (m s + 1) s (by omega) hi
theorem Qu {σ ρ : Type} (L : Nat → σ → Option ρ) (I : σ → Prop) (m : σ → Nat) (g : σ → ρ)
    (h : ∀ s, I s → (∀ k, L (k + 1) s = some (g s)) ∨ (∃ s', I s' ∧ m s' < m s ∧ g s' = g s ∧ ∀ k, L (k + 1) s = L k s')) :
    ∀ s, I s → Ev (fun k => L k s) (g s) :=
  zBN L I m g fun s hi => by
    rcases h s hi with h1 | ⟨s', h1, h2, h3, h4⟩
    · exact .inl ⟨0, fun k _ => h1 k⟩
    · exact .inr ⟨s', 0, h1, h2, h3, fun k _ => h4 k⟩
theorem qt {x : Int} (h0 : -9223372036854775808 ≤ x) (h1 : x ≤ 9223372036854775807) : wrap64 x = x := by
  unfold wrap64; omega
theorem qv {n : Nat} (h : n ≤ 4611686018427387904) : wrap64 ((n : Int) + 1) = ((n + 1 : Nat) : Int) := by
  rw [qt (by omega) (by omega)]; rfl
theorem rd_nat (xs : List Int) (n : Nat) : rd xs (n : Int) = xs.getD n 0 := by simp [rd]
theorem zAC (xs : List Int) (n : Nat) (h : n < xs.length) : rd xs (n : Int) = xs[n] := by simp [rd, h]
theorem ZY {α : Type} {c : Prop} [Decidable c] {f g : Nat → Option α} {r : α} (h : ¬ c) (k : Ev g r) : Ev (fun n => if c then f n else g n) r := Ev.congr (fun _ => if_neg h) k
theorem qq {α : Type} {c : Prop} [Decidable c] {f g : Nat → Option α} {r : α} (h : c) (k : Ev f r) : Ev (fun n => if c then f n else g n) r := Ev.congr (fun _ => if_pos h) k
theorem Qq {α : Type} {r r' : α} (h : r = r') : Ev (fun _ => some r) r' := h ▸ Ev.now r
theorem JL {α : Type} {o : Option α} {r : α} (h : o = some r) : Ev (fun _ => o) r := ⟨0, fun _ _ => h⟩
theorem zAQ {α : Type} {g : Nat → Option α} {r : α} (h : ∀ k, g k = some r) : Ev g r := ⟨0, fun k _ => h k⟩
theorem qV {α : Type} {g f : Nat → Option α} {r : α} (h : ∀ k, g (k + 1) = f k) (k : Ev f r) : Ev g r := Ev.step h k
theorem zE2 {α : Type} {f : α → Option Bool} {p : α → Bool} : ∀ (i : Nat) (l : List α), (∀ x ∈ l, f x = some (p x)) → ∃ r, zEV f i l = some r ∧ decide (0 ≤ r) = l.any p
  | i, [], _ => ⟨-1, rfl, rfl⟩
  | i, x :: xs, h => by
    rw [zBM, h x (List.mem_cons_self ..), yfy]
    cases hp : p x with
    | true => exact ⟨i, by rw [if_pos rfl], by simp [hp]⟩
    | false =>
      obtain ⟨r, h1, h2⟩ := zE2 (i + 1) xs (fun y hy => h y (List.mem_cons_of_mem _ hy))
      exact ⟨r, by rw [if_neg (by simp)]; exact h1, by rw [h2]; simp [hp]⟩
theorem contO {α : Type} {f : α → Option Bool} {p : α → Bool} (l : List α) (h : ∀ x ∈ l, f x = some (p x)) : (zEV f 0 l).bind (fun i => some (decide (0 ≤ i))) = some (l.any p) := by
  obtain ⟨r, h1, h2⟩ := zE2 0 l h
  rw [h1, yfy, h2]
def Zg (a : Int) : Nat → List Int
  | 0 => []
  | n + 1 => a :: Zg (a + 1) n
theorem QW (a : Int) (n : Nat) : (Zg a n).length = n := by
  induction n generalizing a with
  | zero => rfl
  | succ n ih => simp [Zg, ih]
theorem zEW (a : Int) (n i : Nat) (h : i < n) : (Zg a n).getD i 0 = a + i := by
  induction n generalizing a i with
  | zero => omega
  | succ n ih =>
    cases i with
    | zero => simp [Zg]
    | succ i => simp only [Zg, List.getD_cons_succ]; rw [ih (a + 1) i (by omega)]; omega
theorem zDa (a : Int) (n : Nat) : Zg a (n + 1) = Zg a n ++ [a + n] := by
  induction n generalizing a with
  | zero => simp [Zg]
  | succ n ih => rw [Zg, ih (a + 1)]; simp [Zg]; omega
end Go.Proofs.Ythjpdljdodalaaa.Lib
namespace Go.Proofs.Ythjpdljdodalaaa.P
open Go.RowKit Go.Proofs.YthjpdljdodalaaaW.PrintWords Go.Proofs.Ythjpdljdodalaaa.Lib
set_option linter.unusedVariables false
theorem zAj (a b c : Int) : ZH.f a b c = some (decide (b ≤ a) && decide (a ≤ c)) := by
  unfold ZH.f
  by_cases h : b ≤ a <;> simp [h]
theorem zFw (a b c : Int) : QJ.f a b c = some (decide (b ≤ a) && decide (a ≤ c)) := by
  unfold QJ.f
  by_cases h : b ≤ a <;> simp [h]
theorem zDb (a : Int) : ZZ.f a = some (decide (0 ≤ a) && decide (a ≤ 23)) := by
  unfold ZZ.f
  by_cases h : 0 ≤ a
  · rw [if_pos h]; simp [h]; omega
  · rw [if_neg h]; simp [h]
theorem zFI (a : Int) : Zw.f a = some (decide (0 ≤ a) && decide (a ≤ 23)) := by
  unfold Zw.f; rw [zAj]; rfl
theorem zGH {p : Int} (h0 : 0 ≤ p) (h1 : p ≤ 23) : ∃ m : Fin 24, p = (m.val : Int) := ⟨⟨p.toNat, by omega⟩, by simp; omega⟩
theorem zD4 {p : Int} (h0 : 0 ≤ p) (h1 : p ≤ 23) : Ev (fun k => zW.f k p) (ZM p) := by
  obtain ⟨m, rfl⟩ := zGH h0 h1
  have key : ∀ m : Fin 24, zW.f 5 (m.val : Int) = some (ZM (m.val : Int)) := by decide +kernel
  exact Ev.of (fun k => zW.mono _ k) (key m)
theorem zFJ (p : Int) : (ZM p).length = 4 := rfl
theorem zAR {p f : Int} (h0 : 0 ≤ p) (h1 : p ≤ 23) (hf0 : 0 ≤ f) (hf1 : f ≤ 3) : 0 ≤ rd (ZM p) f ∧ rd (ZM p) f ≤ 3 := by
  obtain ⟨a, b, c, d⟩ := zBK p h0 h1
  exact zBv a b c d f hf0 hf1
theorem zB7 {p f : Int} (h0 : 0 ≤ p) (h1 : p ≤ 23) (hf0 : 0 ≤ f) (hf1 : f ≤ 3) : Ev (fun k => ZC.f k p f) (rd (ZM p) f) := by
  refine Ev.bind (zD4 h0 h1) ?_
  exact qq hf0 (qq (by rw [zFJ]; omega) (Ev.now _))
theorem zEX {p : Int} (h0 : 0 ≤ p) (h1 : p ≤ 23) : Ev (fun k => qC.f k p) (zES p) := by
  obtain ⟨m, rfl⟩ := zGH h0 h1
  have key : ∀ m : Fin 24, qC.f 40 (m.val : Int) = some (zES (m.val : Int)) := by decide +kernel
  exact Ev.of (fun k => qC.mono _ k) (key m)
theorem zFK {q p f : Int} (h0 : 0 ≤ p) (h1 : p ≤ 23) (hf0 : 0 ≤ f) (hf1 : f ≤ 3) : ZJ.f q p f = some (rd (ZM p) f) := if_pos ⟨h0, h1, hf0, hf1⟩
theorem zEY {q p a : Int} (h0 : 0 ≤ p) (h1 : p ≤ 23) : qz.f q p a = some (a, zES p) := by
  unfold qz.f QP.f
  rw [if_pos ⟨h0, h1⟩]; rfl
abbrev Tri := List (List zq)
def Small (t : Tri) : Prop := t.length ≤ 1048576 ∧ ∀ r ∈ t, r.length ≤ 1048576
def zE3 (t : List (List qR)) : Prop := t.length ≤ 1048576 ∧ ∀ r ∈ t, r.length ≤ 1048576
def Fits (t : List (List qR)) : Prop := t.length ≤ 9223372036854775807 ∧ ∀ r ∈ t, r.length ≤ 9223372036854775807
theorem JQ (t : List (List qR)) (n : Nat) (h : n < t.length) : ZO t (n : Int) = t[n] := by simp [ZO, h]
theorem JF (t : Tri) (n : Nat) (h : n < t.length) : zE t (n : Int) = t[n] := by simp [zE, h]
theorem zCZ (t : List qR) (n : Nat) (h : n < t.length) : Zz t (n : Int) = t[n] := by simp [Zz, h]
theorem zAk (t : List zq) (n : Nat) (h : n < t.length) : zG t (n : Int) = t[n] := by simp [zG, h]
theorem zBx (r : List qR) (a : Int) (h0 : 0 ≤ a) (h1 : a ≤ 1048576) (h : r.length ≤ 9223372036854775807) : QG.f r a = some (if a - r.length < 0 then -1 else a - r.length) := by
  unfold QG.f
  rw [qt (by omega) (by omega)]
  split <;> rfl
def cvF (x : qR) : zq := ⟨x.f0, x.f1⟩
def cvR (r : List qR) : List zq := r.map cvF
def cvT (t : List (List qR)) : Tri := t.map cvR
theorem zFL {t : List (List qR)} (h : zE3 t) : Small (cvT t) := by
  refine ⟨by simp [cvT]; exact h.1, fun r hr => ?_⟩
  obtain ⟨s, hs, rfl⟩ := List.mem_map.1 hr
  simp [cvR]; exact h.2 s hs
theorem zA1 {α β : Type} (f : α → β) (l : List α) (z : β) (n : Nat) (h : n < l.length) :
    ((l.take n).map f ++ List.replicate (l.length - n) z).set n (f l[n]) = (l.take (n + 1)).map f ++ List.replicate (l.length - (n + 1)) z := by
  have e : l.length - n = (l.length - (n + 1)) + 1 := by omega
  rw [e, List.replicate_succ, List.set_append_right _ _ (by simp; omega)]
  have : n - ((l.take n).map f).length = 0 := by simp; omega
  rw [this, yby, List.take_succ_eq_append_getElem h, List.map_append, List.append_assoc]
  rfl
theorem zEZ (l : List qR) (h : l.length ≤ 1048576) : Ev (fun k => qj.f k l) (cvR l) := by
  have hl : Ev (fun k => qj.l0 k l (List.replicate l.length Jm) 0) (cvR l) := by
    refine Qu (fun k (s : List zq × Int) => qj.l0 k l s.1 s.2) (fun s => ∃ n : Nat, n ≤ l.length ∧ s.2 = n ∧ s.1 = (l.take n).map cvF ++ List.replicate (l.length - n) Jm) (fun s => l.length - s.2.toNat) (fun _ => cvR l) ?_ (List.replicate l.length Jm, 0) ⟨0, by omega, rfl, by simp⟩
    rintro ⟨a, i⟩ ⟨n, hn, rfl, rfl⟩
    dsimp only
    by_cases hlt : n < l.length
    · refine .inr ⟨((l.take (n + 1)).map cvF ++ List.replicate (l.length - (n + 1)) Jm, ((n + 1 : Nat) : Int)), ⟨n + 1, by omega, rfl, rfl⟩, by simp; omega, rfl, fun k => ?_⟩
      simp only [qj.l0, JE.f, yfy]
      rw [if_pos (by omega), if_pos (by omega), if_pos (by simp; omega), qv (by omega), yny, zCZ l n hlt]
      have := zA1 cvF l Jm n hlt
      rw [← this]
      rfl
    · obtain rfl : n = l.length := by omega
      refine .inl fun k => ?_
      simp only [qj.l0]
      rw [if_neg (by omega)]
      simp [cvR]
  refine Ev.congr (fun k => ?_) hl
  unfold qj.f
  rw [if_pos (by omega), if_pos (by simp; omega), yny]
theorem zDc (l : List (List qR)) (h : zE3 l) : Ev (fun k => qY.f k l) (cvT l) := by
  have hl : Ev (fun k => qY.l0 k l (List.replicate l.length []) 0) (cvT l) := by
    refine zBN (fun k (s : Tri × Int) => qY.l0 k l s.1 s.2) (fun s => ∃ n : Nat, n ≤ l.length ∧ s.2 = n ∧ s.1 = (l.take n).map cvR ++ List.replicate (l.length - n) []) (fun s => l.length - s.2.toNat) (fun _ => cvT l) ?_ (List.replicate l.length [], 0) ⟨0, by omega, rfl, by simp⟩
    rintro ⟨a, i⟩ ⟨n, hn, rfl, rfl⟩
    dsimp only
    by_cases hlt : n < l.length
    · obtain ⟨K, hK⟩ := zEZ l[n] (h.2 _ (List.getElem_mem hlt))
      refine .inr ⟨((l.take (n + 1)).map cvR ++ List.replicate (l.length - (n + 1)) [], ((n + 1 : Nat) : Int)), K, ⟨n + 1, by omega, rfl, rfl⟩, by simp; omega, rfl, fun k hk => ?_⟩
      have e : qj.f k l[n] = some _ := hK k hk
      have h1 := h.1
      simp only [qY.l0]
      rw [if_pos (by omega), if_pos (by omega), JQ l n hlt, e, yfy, if_pos (by simp; omega), qv (by omega), yny, zA1 cvR l [] n hlt]
    · obtain rfl : n = l.length := by omega
      refine .inl ⟨0, fun k _ => ?_⟩
      simp only [qY.l0]
      rw [if_neg (by omega)]
      simp [cvT]
  have h1 := h.1
  refine Ev.congr (fun k => ?_) hl
  unfold qY.f
  rw [if_pos (by omega), if_pos (by simp; omega), yny]
theorem zAS (l : List (List qR)) (h : zE3 l) : Ev (fun k => qh.f k l) (cvT l) := Ev.bind (zDc l h) (Ev.now _)
theorem zEa (l : List zq) (h : l.length ≤ 1048576) : Ev (fun k => qF.f k l l) true := by
  have hl : Ev (fun k => qF.l0 k l l 0) true := by
    refine Qu (fun k (s : Int) => qF.l0 k l l s) (fun s => ∃ n : Nat, n ≤ l.length ∧ s = n) (fun s => l.length - s.toNat) (fun _ => true) ?_ 0 ⟨0, by omega, rfl⟩
    rintro i ⟨n, hn, rfl⟩
    by_cases hlt : n < l.length
    · refine .inr ⟨((n + 1 : Nat) : Int), ⟨n + 1, by omega, rfl⟩, by simp; omega, rfl, fun k => ?_⟩
      simp only [qF.l0, Qf.f]
      rw [if_pos (by omega), if_pos (by omega), if_pos (by omega), if_pos trivial, if_pos trivial, yfy, if_pos rfl, qv (by omega)]
    · refine .inl fun k => ?_
      simp only [qF.l0]
      rw [if_neg (by omega)]
  refine Ev.congr (fun k => ?_) hl
  unfold qF.f
  rw [if_pos rfl]
theorem zAT (l : Tri) (h : Small l) : Ev (fun k => Zf.f k l l) true := by
  have hl : Ev (fun k => zy.l0 k l l 0) true := by
    refine zBN (fun k (s : Int) => zy.l0 k l l s) (fun s => ∃ n : Nat, n ≤ l.length ∧ s = n) (fun s => l.length - s.toNat) (fun _ => true) ?_ 0 ⟨0, by omega, rfl⟩
    rintro i ⟨n, hn, rfl⟩
    by_cases hlt : n < l.length
    · obtain ⟨K, hK⟩ := zEa l[n] (h.2 _ (List.getElem_mem hlt))
      refine .inr ⟨((n + 1 : Nat) : Int), K, ⟨n + 1, by omega, rfl⟩, by simp; omega, rfl, fun k hk => ?_⟩
      have e : qF.f k l[n] l[n] = some _ := hK k hk
      have h1 := h.1
      simp only [zy.l0]
      rw [if_pos (by omega), if_pos (by omega), if_pos (by omega), JF l n hlt, e, yfy, if_pos rfl, qv (by omega)]
    · refine .inl ⟨0, fun k _ => ?_⟩
      simp only [zy.l0]
      rw [if_neg (by omega)]
  have h2 : Ev (fun k => zy.f k l l) true := by
    refine Ev.congr (fun k => ?_) hl
    unfold zy.f
    rw [if_pos rfl]
  exact Ev.bind h2 (qq rfl (Ev.now _))
end Go.Proofs.Ythjpdljdodalaaa.P
