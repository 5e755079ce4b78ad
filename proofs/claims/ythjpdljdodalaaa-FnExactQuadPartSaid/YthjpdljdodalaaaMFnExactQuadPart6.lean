/- The statement FnExactQuadPartSaid, proved: part 6 of 7 (texts of this session and of the kit's print, put together and cut to what is used by a program of it). -/
import Derived.Test.YthjpdljdodalaaaMFnExactQuadPart5
namespace Go.Proofs.Ythjpdljdodalaaa.P
open Go.RowKit Go.Proofs.YthjpdljdodalaaaW.PrintWords Go.Proofs.YthjpdljdodalaaaW.PrintLast Go.Proofs.YthjpdljdodalaaaW.PrintMore
attribute [local go_sem] QP QQ Ql Qm Zx Zy QR QS
set_option linter.unusedVariables false
set_option linter.unusedSimpArgs false
mutual
def zg.l0 : Nat → List (List Int) → Int → List (List (zq)) → Option ((List (List Int)))
 | 0, _, _, _ => none
 | k + 1, x3, x4, x102000 => (zr.f x102000).bind fun t105 => (if x4 < t105 then (zg.l1 k x3 x4 0 x102000) else (some x3))
def zg.l1 : Nat → List (List Int) → Int → Int → List (List (zq)) → Option ((List (List Int)))
 | 0, _, _, _, _ => none
 | k + 1, x3, x4, x5, x102000 => if x5 < 4 then (if 0 ≤ x4 then (if x4 < (x102000.length : Int) then (if 0 ≤ x5 then (if x5 < ((zE x102000 x4).length : Int) then (if ((zG (zE x102000 x4) x5).f0) > x4 then (if x3.length < 5864062014805 then (zg.l1 k (x3 ++ [(([x4, x5] : List Int))]) x4 (wrap64 (x5 + 1)) x102000) else (none)) else (if ((zG (zE x102000 x4) x5).f0) = x4 then ((qp.f k ((zG (zE x102000 x4) x5).f1) x5).bind fun t115 => (if t115 > x5 then (if x3.length < 5864062014805 then (zg.l1 k (x3 ++ [(([x4, x5] : List Int))]) x4 (wrap64 (x5 + 1)) x102000) else (none)) else (zg.l1 k x3 x4 (wrap64 (x5 + 1)) x102000))) else (zg.l1 k x3 x4 (wrap64 (x5 + 1)) x102000))) else (none)) else (none)) else (none)) else (none)) else (zg.l0 k x3 (wrap64 (x4 + 1)) x102000)
end
def zg.f (k : Nat) (l0_0 : List (List (zq))) : Option ((List (List Int))) := zg.l0 k (([] : List (List Int))) 0 l0_0
set_option maxHeartbeats 8000000 in
set_option maxRecDepth 100000 in
theorem zg.calls (k : Nat) (A0_0 : Option Addr) (c0_0 : Nat) (l0_0 : List (List (zq))) (r : List (List Int)) (w : World) (hr0_0 : Kd.C (Kd.slice 115 qq) w A0_0 l0_0.length l0_0) (hc0_0 : l0_0.length ≤ c0_0) (h : zg.f k l0_0 = some r) :
 Calls Try.prog 102 #[.agg #[.slice A0_0 l0_0.length c0_0]] w fun e w' => ∃ v0_ : Value, e = .returned (v0_) ∧ Kd.S (Kd.slice 2 (Kd.int .i64)) 25 w' w.heap.size (fun _ => True) v0_ r ∧ Below w.heap.size w w' := by
 have hu30 := Try.underlying30
 have hu115 := Try.underlying115
 have HR0_0 := zA.mk hr0_0
 have HC0_0 := zA.mk hc0_0
 clear hr0_0 hc0_0
 have HB := zA.mk (yry w.heap.size w)
 have H : (zg.l0 k (([] : List (List Int))) 0 l0_0) = some r := h
 clear h
 obtain ⟨y102, hy102⟩ : ∃ y_ : List (List Int), y_ = (([] : List (List Int))) := ⟨_, rfl⟩
 replace H : (zg.l0 k y102 0 l0_0) = some r := by first | (rw [hy102]; with_reducible exact H) | (have H2_ := (yfy _ _).symm.trans H; rw [hy102]; with_reducible exact H2_) | (have H2_ := (yfy _ _).symm.trans H; with_reducible exact H2_) | with_reducible exact H | (rw [hy102]; exact H) | exact H
 have Ny102 := zA.mk hy102
 clear hy102
 have H' := zA.mk H
 clear H
 go_enter Try.func102, Try.ntmps102
 go_wp2_with (first | ((with_reducible refine zj (N := 1) rfl ?_); refine zl ?hg (N := 1) ?hd (cs := #[.slice A0_0 l0_0.length c0_0]) (t := 30) ?hr ?_; (case hd => rfl); (case hg => rfl); (case hr => first | (go_simp; done) | (go_simp; rfl)); intro gb101 hg w2 hbox hb; have n0_ := zA.mk (zN (by repeat (first | (with_reducible first | exact HB.out | apply zC | apply zB | apply zD) | exact HB.out)) hb); have n1_ := zA.mk (hbox); have n2_ := zA.mk ((by rw [hg]; exact (zO (by repeat (first | (with_reducible first | exact HB.out | apply zC | apply zB | apply zD) | exact HB.out))) : w.heap.size ≤ gb101)); have n3_ := zA.mk ((by rw [hg]; exact (zO (by repeat (first | (with_reducible first | exact HB.out | apply zC | apply zB | apply zD) | exact HB.out))) : w.heap.size ≤ gb101)); clear HB; have HB := n0_; have BK101 := n1_; have GW101 := n2_; have GE101 := n3_; clear n0_ n1_ n2_ n3_; clear hb hbox hg) | ((with_reducible refine zj (N := 7) rfl ?_); refine Kd.S_lit (Kd.slice 2 (Kd.int .i64)) _ 25 ?hg (N := 7) ?hd (xs := ([] : List (List Int))) (inner := []) (ok := fun _ => True) (okp := fun _ => True) ?hr ?hp (fun _ hk => hk) trivial (yry _ _) (yqy _) (by simp) ?_; (case hd => rfl); (case hg => rfl); (case hr => first | (go_simp; done) | (go_simp; rfl)); (case hp => exact (QB.none _ _)); intro v103 w3 ho4 hb hg_ hnew_; clear hg_ hnew_; (first | rw [← Ny102.out] at ho4 | (simp only [Int.reduceToNat] at ho4; rw [← Ny102.out] at ho4)); have n0_ := zA.mk (Kd.Jb ho4 (zO (by repeat (first | (with_reducible first | exact HB.out | apply zC | apply zB | apply zD | refine zF ?_ GE101.out) | exact HB.out)))); have n1_ := zA.mk (zP (g := gb101) (o := .cells #[.slice A0_0 l0_0.length c0_0] 30 (0, 0)) (by (with_reducible repeat (first | refine zI ?_ _ | refine zK ?_ | refine zH ?_ _)); exact BK101.out) hb); have n2_ := zA.mk (zN (by repeat (first | (with_reducible first | exact HB.out | apply zC | apply zB | apply zD | refine zF ?_ GE101.out) | exact HB.out)) hb); clear BK101; clear HB; have HO104 := n0_; have BK101 := n1_; have HB := n2_; clear n0_ n1_ n2_; clear hb ho4))
 go_loopg [3, 4] k (fun kq v3 v4 w' => ∃ (x3_1 : List (List Int)) (x4_1 : Int), v4 = .int .i64 x4_1 ∧ zA (zg.l0 kq x3_1 x4_1 l0_0 = some r) ∧ zA (kq ≤ k) ∧ zA (Kd.S (Kd.slice 2 (Kd.int .i64)) 25 w' w.heap.size (fun _ => True) v3 x3_1) ∧ zA (w'.heap[gb101]? = some (.cells #[(.slice A0_0 l0_0.length c0_0)] 30 (0, 0))) ∧ zA (Below w.heap.size w w'))
 case atStart => exact ⟨(y102), (0), (by first | rfl | (simp; done) | (simp [*]; done)), H', ⟨yqy _⟩, ⟨by (with_reducible repeat (first | apply Kd.qK | apply Kd.qL | apply Kd.qb)); exact HO104.out⟩, ⟨by (with_reducible repeat (first | refine zI ?_ _ | refine zK ?_ | refine zH ?_ _)); exact BK101.out⟩, ⟨by repeat (first | (with_reducible first | exact HB.out | apply zC | apply zB | apply zD | refine zF ?_ GE101.out) | exact HB.out)⟩⟩
 case round =>
  clear H'
  try clear c1
  try clear p2
  obtain ⟨x3_1, x4_1, rfl, HA, HK1, HO_3, BK101, HB⟩ := hrel
  cases gk with
  | zero => exact absurd HA.out (by simp [zg.l0])
  | succ k1 =>
   have H := HA.out
   clear HA
   simp only [zg.l0] at H
   replace H := ydy.mp H
   obtain ⟨t105, A50, H⟩ := H
   replace H : (if x4_1 < t105 then (zg.l1 k1 x3_1 x4_1 0 l0_0) else (some x3_1)) = some r := H
   have A5 := zA.mk A50
   clear A50
   by_cases c6 : x4_1 < t105
   next =>
    rw [if_pos c6] at H
    have c6b0 : decide (x4_1 < t105) = true := ygy c6
    clear c6
    have H' := zA.mk H
    clear H
    have hcz7_0 : wr.cell? ⟨gb101, 0, none⟩ = some (.slice A0_0 l0_0.length c0_0) := (zL BK101.out 0).trans rfl
    have hfz7_0 := zM BK101.out 0
    go_wp2_with (first | ((with_reducible refine zU (f := 59) rfl ?_); refine qF (some 10) rfl rfl Try.func59 (by kernel_rfl) rfl #[.agg #[.slice A0_0 l0_0.length c0_0]] rfl (by (try simp only [yiy, yjy, yky]); first | done | rfl | (simp only [yly, ymy]; rfl)) ?_; (with_reducible refine (zr.calls _ _ l0_0 t105 _ ?side1 ?side2 A5.out).mono ?_); (case side1 => repeat (first | exact (Kd.zn HR0_0.out HB.out) | (with_reducible refine Kd.zo ?_ _) | (with_reducible refine Kd.zp ?_ _) | (with_reducible refine Kd.qH ?_))); (case side2 => exact HC0_0.out); rintro e w8 ⟨rfl, hb⟩; refine ⟨_, rfl, ?_⟩; have n0_ := zA.mk (Kd.Zw (by (with_reducible repeat (first | apply Kd.qK | apply Kd.qL | apply Kd.qb)); exact HO_3.out) hb); have n1_ := zA.mk (zP (g := gb101) (o := .cells #[.slice A0_0 l0_0.length c0_0] 30 (0, 0)) (by (with_reducible repeat (first | refine zI ?_ _ | refine zK ?_ | refine zH ?_ _)); exact BK101.out) hb); have n2_ := zA.mk (zN (by repeat (first | (with_reducible first | exact HB.out | apply zC | apply zB | apply zD | refine zF ?_ GE101.out) | exact HB.out)) hb); clear HO_3; clear BK101; clear HB; have HO_3 := n0_; have BK101 := n1_; have HB := n2_; clear n0_ n1_ n2_; (try clear hb); (try clear hb2); (try clear hk); (try clear hi)))
    go_loopg [3, 5] k1 (fun kq v3 v5 w' => ∃ (x3_2 : List (List Int)) (x5_2 : Int), v5 = .int .i64 x5_2 ∧ zA (zg.l1 kq x3_2 x4_1 x5_2 l0_0 = some r) ∧ zA (kq ≤ k1) ∧ zA (Kd.S (Kd.slice 2 (Kd.int .i64)) 25 w' w.heap.size (fun _ => True) v3 x3_2) ∧ zA (w'.heap[gb101]? = some (.cells #[(.slice A0_0 l0_0.length c0_0)] 30 (0, 0))) ∧ zA (Below w.heap.size w w'))
    case atStart => exact ⟨(x3_1), (0), (by first | rfl | (simp; done) | (simp [*]; done)), H', ⟨yqy _⟩, ⟨by (with_reducible repeat (first | apply Kd.qK | apply Kd.qL | apply Kd.qb)); exact HO_3.out⟩, ⟨by (with_reducible repeat (first | refine zI ?_ _ | refine zK ?_ | refine zH ?_ _)); exact BK101.out⟩, ⟨by repeat (first | (with_reducible first | exact HB.out | apply zC | apply zB | apply zD | refine zF ?_ GE101.out) | exact HB.out)⟩⟩
    case round =>
     clear H'
     try clear c1
     try clear p2
     try clear c5
     try clear c6
     try clear c6b0
     try clear hcz7_0
     try clear hfz7_0
     try clear p2
     obtain ⟨x3_2, x5_2, rfl, HA, HK2, HO_3, BK101, HB⟩ := hrel
     cases gk with
     | zero => exact absurd HA.out (by simp [zg.l1])
     | succ k2 =>
      have H := HA.out
      clear HA
      simp only [zg.l1] at H
      by_cases c9 : x5_2 < 4
      next =>
       rw [if_pos c9] at H
       have c9b0 : decide (x5_2 < 4) = true := ygy c9
       clear c9
       by_cases c10 : 0 ≤ x4_1
       next =>
        rw [if_pos c10] at H
        have c10b0 : decide (0 ≤ x4_1) = true := ygy c10
        clear c10
        by_cases c11 : x4_1 < (l0_0.length : Int)
        next =>
         rw [if_pos c11] at H
         have c11b0 : decide (x4_1 < (l0_0.length : Int)) = true := ygy c11
         clear c11
         by_cases c12 : 0 ≤ x5_2
         next =>
          rw [if_pos c12] at H
          have c12b0 : decide (0 ≤ x5_2) = true := ygy c12
          clear c12
          by_cases c13 : x5_2 < ((zE l0_0 x4_1).length : Int)
          next =>
           rw [if_pos c13] at H
           have c13b0 : decide (x5_2 < ((zE l0_0 x4_1).length : Int)) = true := ygy c13
           clear c13
           by_cases c14 : ((zG (zE l0_0 x4_1) x5_2).f0) > x4_1
           next =>
            rw [if_pos c14] at H
            have c14b0 : decide (x4_1 < ((zG (zE l0_0 x4_1) x5_2).f0)) = true := ygy c14
            clear c14
            obtain ⟨y109, hy109⟩ : ∃ y_ : List Int, y_ = (([x4_1, x5_2] : List Int)) := ⟨_, rfl⟩
            replace H : (if x3_2.length < 5864062014805 then (zg.l1 k2 (x3_2 ++ [y109]) x4_1 (wrap64 (x5_2 + 1)) l0_0) else (none)) = some r := by first | (rw [hy109]; with_reducible exact H) | (have H2_ := (yfy _ _).symm.trans H; rw [hy109]; with_reducible exact H2_) | (have H2_ := (yfy _ _).symm.trans H; with_reducible exact H2_) | with_reducible exact H | (rw [hy109]; exact H) | exact H
            have Ny109 := zA.mk hy109
            clear hy109
            by_cases c15 : x3_2.length < 5864062014805
            next =>
             rw [if_pos c15] at H
             have LMc15 := zA.mk c15
             clear c15
             obtain ⟨y112, hy112⟩ : ∃ y_ : List (List Int), y_ = (x3_2 ++ [y109]) := ⟨_, rfl⟩
             replace H : (zg.l1 k2 y112 x4_1 (wrap64 (x5_2 + 1)) l0_0) = some r := by first | (rw [hy112]; with_reducible exact H) | (have H2_ := (yfy _ _).symm.trans H; rw [hy112]; with_reducible exact H2_) | (have H2_ := (yfy _ _).symm.trans H; with_reducible exact H2_) | with_reducible exact H | (rw [hy112]; exact H) | exact H
             have Ny112 := zA.mk hy112
             clear hy112
             have H' := zA.mk H
             clear H
             have hcz16_0 : wr.cell? ⟨gb101, 0, none⟩ = some (.slice A0_0 l0_0.length c0_0) := (zL BK101.out 0).trans rfl
             have hfz16_0 := zM BK101.out 0
             have p106 : 0 ≤ (x4_1 : Int) := of_decide_eq_true (by first | (with_reducible assumption) | assumption)
             have q106 : x4_1 < (l0_0.length : Int) := of_decide_eq_true (by first | (with_reducible assumption) | assumption)
             obtain ⟨ad106, A106_0, c106_0, e106, hx106_0, hl106_0, hi106_0⟩ := ZD HR0_0.out x4_1 p106 q106
             cases e106
             replace hx106_0 := (HB.out.cell (ypy w _ hx106_0)).trans hx106_0
             have HR106_0 := zA.mk hi106_0
             have HC106_0 := zA.mk hl106_0
             clear hi106_0 hl106_0
             replace p106 := eq_true p106
             replace q106 := eq_true q106
             have p107 : 0 ≤ (x5_2 : Int) := of_decide_eq_true (by first | (with_reducible assumption) | assumption)
             have q107 : x5_2 < ((zE l0_0 x4_1).length : Int) := of_decide_eq_true (by first | (with_reducible assumption) | assumption)
             obtain ⟨ad107, e107, hx107_0, hx107_1⟩ := Zb HR106_0.out x5_2 p107 q107
             cases e107
             replace hx107_0 := (HB.out.cell (ypy w _ hx107_0)).trans hx107_0
             replace hx107_1 := (HB.out.cell (ypy w _ hx107_1)).trans hx107_1
             replace p107 := eq_true p107
             replace q107 := eq_true q107
             go_wp2_with (first | ((with_reducible refine zj (N := 6) rfl ?_); refine zl ?hg (N := 6) ?hd (cs := #[.int .i64 0, .int .i64 0]) (t := 115) ?hr ?_; (case hd => rfl); (case hg => rfl); (case hr => first | (go_simp; done) | (go_simp; rfl)); intro gb108 hg w17 hbox hb; have n0_ := zA.mk (Kd.Zw (by (with_reducible repeat (first | apply Kd.qK | apply Kd.qL | apply Kd.qb)); exact HO_3.out) hb); have n1_ := zA.mk (zP (g := gb101) (o := .cells #[.slice (some ad106) l0_0.length c0_0] 30 (0, 0)) (by (with_reducible repeat (first | refine zI ?_ _ | refine zK ?_ | refine zH ?_ _)); exact BK101.out) hb); have n2_ := zA.mk (zN (by repeat (first | (with_reducible first | exact HB.out | apply zC | apply zB | apply zD | refine zF ?_ GE101.out) | exact HB.out)) hb); have n3_ := zA.mk (hbox); have n4_ := zA.mk ((by rw [hg]; exact (zO (by repeat (first | (with_reducible first | exact HB.out | apply zC | apply zB | apply zD | refine zF ?_ GE101.out) | exact HB.out))) : w.heap.size ≤ gb108)); have n5_ := zA.mk ((by rw [hg]; exact (zO (by repeat (first | (with_reducible first | exact HB.out | apply zC | apply zB | apply zD | refine zF ?_ GE101.out) | exact HB.out))) : w.heap.size ≤ gb108)); have n6_ := zA.mk ((by rw [hg]; exact Nat.ne_of_lt (qZ (g := gb101) (o := .cells #[.slice (some ad106) l0_0.length c0_0] 30 (0, 0)) (by (with_reducible repeat (first | refine zI ?_ _ | refine zK ?_ | refine zH ?_ _)); exact BK101.out)) : gb101 ≠ gb108)); have n7_ := zA.mk ((by rw [hg]; exact Nat.ne_of_gt (qZ (g := gb101) (o := .cells #[.slice (some ad106) l0_0.length c0_0] 30 (0, 0)) (by (with_reducible repeat (first | refine zI ?_ _ | refine zK ?_ | refine zH ?_ _)); exact BK101.out)) : gb108 ≠ gb101)); clear HO_3; clear BK101; clear HB; have HO_3 := n0_; have BK101 := n1_; have HB := n2_; have BK108 := n3_; have GW108 := n4_; have GE108 := n5_; have NB101_108 := n6_; have NB108_101 := n7_; clear n0_ n1_ n2_ n3_ n4_ n5_ n6_ n7_; clear hb hbox hg; have hnb18 := NB108_101.out; have hnc18 := NB101_108.out; have hcz19_0 : w17.cell? ⟨gb108, 0, none⟩ = some (.int .i64 0) := (zL BK108.out 0).trans rfl; have hcz19_1 : w17.cell? ⟨gb108, 1, none⟩ = some (.int .i64 0) := (zL BK108.out 1).trans rfl; have hfz19_0 := zM BK108.out 0; have hfz19_1 := zM BK108.out 1) | ((with_reducible refine zj (N := 47) rfl ?_); refine Kd.zC8 (Kd.int .i64) _ 2 ?hg (N := 47) ?hd (xs := ([x4_1, x5_2] : List Int)) (inner := [.int .i64 x4_1, .int .i64 x5_2]) (ok := fun _ => True) (okp := fun _ => True) ?hr ?hp (fun _ hk => hk) trivial (yry _ _) (yqy _) (by simp) ?_; (case hd => rfl); (case hg => rfl); (case hr => first | (go_simp; done) | (go_simp; rfl)); (case hp => exact (QB.one (show Kd.M (Kd.int .i64) _ _ _ x4_1 [.int .i64 x4_1] from rfl) (QB.one (show Kd.M (Kd.int .i64) _ _ _ x5_2 [.int .i64 x5_2] from rfl) (QB.none _ _)))); intro v110 w20 ho21 hb hg_ hnew_; clear hg_ hnew_; (first | rw [← Ny109.out] at ho21 | (simp only [Int.reduceToNat] at ho21; rw [← Ny109.out] at ho21)); have n0_ := zA.mk (Kd.JU (by (with_reducible repeat (first | apply Kd.qK | apply Kd.qL | apply Kd.qb)); exact (Kd.ZX (Kd.zAe (p := ⟨gb108, 1, none⟩) (Kd.zAe (p := ⟨gb108, 0, none⟩) (Kd.zA5 HO_3.out BK108.out (by decide)) (fun _ hk => hk.2) (.int .i64 ((zG (zE l0_0 x4_1) x5_2).f0))) (fun _ hk => hk.2) (.int .i64 ((zG (zE l0_0 x4_1) x5_2).f1))) (fun _ h_ => h_.1))) (Kd.QT ho21) hb); have n1_ := zA.mk (Kd.ZM ho21 (zO (by repeat (first | (with_reducible first | exact HB.out | apply zC | apply zB | apply zD | refine zF ?_ GE101.out | refine zF ?_ GE108.out) | exact HB.out)))); have n2_ := zA.mk (zP (g := gb101) (o := .cells #[.slice (some ad106) l0_0.length c0_0] 30 (0, 0)) (by (with_reducible repeat (first | refine zI ?_ _ | refine zK ?_ | refine zH ?_ _)); refine qU ?_ NB101_108.out _; (with_reducible repeat (first | refine zI ?_ _ | refine zK ?_ | refine zH ?_ _)); refine qU ?_ NB101_108.out _; (with_reducible repeat (first | refine zI ?_ _ | refine zK ?_ | refine zH ?_ _)); exact BK101.out) hb); have n3_ := zA.mk (zP (g := gb108) (o := .cells #[.int .i64 ((zG (zE l0_0 x4_1) x5_2).f0), .int .i64 ((zG (zE l0_0 x4_1) x5_2).f1)] 115 (0, 0)) (by (with_reducible repeat (first | refine zI ?_ _ | refine zK ?_ | refine zH ?_ _)); refine qX (cs := #[.int .i64 ((zG (zE l0_0 x4_1) x5_2).f0), .int .i64 0]) ?_ 1 _ rfl; (with_reducible repeat (first | refine zI ?_ _ | refine zK ?_ | refine zH ?_ _)); refine qX (cs := #[.int .i64 0, .int .i64 0]) ?_ 0 _ rfl; (with_reducible repeat (first | refine zI ?_ _ | refine zK ?_ | refine zH ?_ _)); exact BK108.out) hb); have n4_ := zA.mk (zN (by repeat (first | (with_reducible first | exact HB.out | apply zC | apply zB | apply zD | refine zF ?_ GE101.out | refine zF ?_ GE108.out) | exact HB.out)) hb); clear HO_3; clear BK101; clear BK108; clear HB; have HO_3 := n0_; have HO111 := n1_; have BK101 := n2_; have BK108 := n3_; have HB := n4_; clear n0_ n1_ n2_ n3_ n4_; clear hb ho21; obtain ⟨Ao23, co23, eo23⟩ := Kd.ZU HO111.out; subst eo23) | ((with_reducible refine Zp (b := .append) (xs := #[.tmp 44, .tmp 48]) rfl ?_); at_builtin; refine Kd.zBf (Kd.slice 2 (Kd.int .i64)) (w0 := w) w.heap.size rfl (.tmp 44) (.tmp 48) 54 25 (.slice none 0 0) 24 rfl Try.underlying54 zE8 rfl (by decide) (by omega) u3 x3_2 y109 [.slice Ao23 y109.length co23] (fun _ => True) (fun k_ => some k_ = (.slice Ao23 y109.length co23 : Value).ownBlock) rfl rfl ?aP (fun k_ hk_ => ((Kd.qR (ok' := fun k_ => ((fun _ => True)) k_ ∧ some k_ ≠ (u3 : Value).ownBlock) (Kd.QO (HO111.out) (Kd.Qk HO_3.out) (by decide)) (fun k_ hk => ⟨trivial, hk.2⟩))).1 k_ hk_.symm) ?aF ?aO ?aB ?aS ?aL ?_; (case aP => exact Kd.zEY (Kd.qR (Kd.Qj rfl (Kd.qR (ok' := fun k_ => ((fun _ => True)) k_ ∧ some k_ ≠ (u3 : Value).ownBlock) (Kd.QO (HO111.out) (Kd.Qk HO_3.out) (by decide)) (fun k_ hk => ⟨trivial, hk.2⟩))) (fun _ h_ => h_))); (case aB => exact (by repeat (first | (with_reducible first | exact HB.out | apply zC | apply zB | apply zD | refine zF ?_ GE101.out | refine zF ?_ GE108.out) | exact HB.out))); (case aF => exact (fun _ _ => trivial)); (case aO => exact (by (with_reducible repeat (first | apply Kd.qK | apply Kd.qL | apply Kd.qb)); exact Kd.ZX HO_3.out (fun k_ hk => ⟨trivial, fun e_ => hk.2 e_⟩))); (case aS => exact (zO (by repeat (first | (with_reducible first | exact HB.out | apply zC | apply zB | apply zD | refine zF ?_ GE101.out | refine zF ?_ GE108.out) | exact HB.out)))); (case aL => have := LMc15.out; omega); intro v113 w22 ho hb hg hat; rw [← Ny112.out] at ho; have n0_ := zA.mk (qm (g := gb101) (o := .cells #[.slice (some ad106) l0_0.length c0_0] 30 (0, 0)) (by (with_reducible repeat (first | refine zI ?_ _ | refine zK ?_ | refine zH ?_ _)); exact BK101.out) hg (Kd.S_ne HO_3.out BK101.out (by decide))); have n1_ := zA.mk (qm (g := gb108) (o := .cells #[.int .i64 ((zG (zE l0_0 x4_1) x5_2).f0), .int .i64 ((zG (zE l0_0 x4_1) x5_2).f1)] 115 (0, 0)) (by (with_reducible repeat (first | refine zI ?_ _ | refine zK ?_ | refine zH ?_ _)); exact BK108.out) hg (Kd.S_ne HO_3.out BK108.out (by decide))); have n2_ := zA.mk (hb); have n3_ := zA.mk (ho); clear BK101; clear BK108; clear HB; clear HO_3; clear HO111; have BK101 := n0_; have BK108 := n1_; have HB := n2_; have HO114 := n3_; clear n0_ n1_ n2_ n3_; clear ho hb hg hat))
             go_roundg k2
             case measure => have := HK1.out; have := HK2.out; omega
             case rel => exact ⟨(y112), (wrap64 (x5_2 + 1)), (by first | rfl | (simp; done) | (simp [*]; done)), H', ⟨by have := HK1.out; have := HK2.out; omega⟩, ⟨by (with_reducible repeat (first | apply Kd.qK | apply Kd.qL | apply Kd.qb)); exact HO114.out⟩, ⟨by (with_reducible repeat (first | refine zI ?_ _ | refine zK ?_ | refine zH ?_ _)); exact BK101.out⟩, ⟨by repeat (first | (with_reducible first | exact HB.out | apply zC | apply zB | apply zD | refine zF ?_ GE101.out | refine zF ?_ GE108.out) | exact HB.out)⟩⟩
            next =>
             rw [if_neg c15] at H
             exact absurd H (by simp)
           next =>
            rw [if_neg c14] at H
            have c14b0 : decide (x4_1 < ((zG (zE l0_0 x4_1) x5_2).f0)) = false := yhy c14
            clear c14
            by_cases c24 : ((zG (zE l0_0 x4_1) x5_2).f0) = x4_1
            next =>
             rw [if_pos c24] at H
             have c24b0 : (((zG (zE l0_0 x4_1) x5_2).f0) == x4_1) = true := beq_iff_eq.mpr c24
             have c24b1 : (((zG (zE l0_0 x4_1) x5_2).f0) != x4_1) = false := bne_eq_false_iff_eq.mpr c24
             clear c24
             replace H := ydy.mp H
             obtain ⟨t115, A250, H⟩ := H
             replace H : (if t115 > x5_2 then (if x3_2.length < 5864062014805 then (zg.l1 k2 (x3_2 ++ [(([x4_1, x5_2] : List Int))]) x4_1 (wrap64 (x5_2 + 1)) l0_0) else (none)) else (zg.l1 k2 x3_2 x4_1 (wrap64 (x5_2 + 1)) l0_0)) = some r := H
             have A25 := zA.mk A250
             clear A250
             by_cases c26 : t115 > x5_2
             next =>
              rw [if_pos c26] at H
              have c26b0 : decide (x5_2 < t115) = true := ygy c26
              clear c26
              obtain ⟨y116, hy116⟩ : ∃ y_ : List Int, y_ = (([x4_1, x5_2] : List Int)) := ⟨_, rfl⟩
              replace H : (if x3_2.length < 5864062014805 then (zg.l1 k2 (x3_2 ++ [y116]) x4_1 (wrap64 (x5_2 + 1)) l0_0) else (none)) = some r := by first | (rw [hy116]; with_reducible exact H) | (have H2_ := (yfy _ _).symm.trans H; rw [hy116]; with_reducible exact H2_) | (have H2_ := (yfy _ _).symm.trans H; with_reducible exact H2_) | with_reducible exact H | (rw [hy116]; exact H) | exact H
              have Ny116 := zA.mk hy116
              clear hy116
              by_cases c27 : x3_2.length < 5864062014805
              next =>
               rw [if_pos c27] at H
               have LMc27 := zA.mk c27
               clear c27
               obtain ⟨y119, hy119⟩ : ∃ y_ : List (List Int), y_ = (x3_2 ++ [y116]) := ⟨_, rfl⟩
               replace H : (zg.l1 k2 y119 x4_1 (wrap64 (x5_2 + 1)) l0_0) = some r := by first | (rw [hy119]; with_reducible exact H) | (have H2_ := (yfy _ _).symm.trans H; rw [hy119]; with_reducible exact H2_) | (have H2_ := (yfy _ _).symm.trans H; with_reducible exact H2_) | with_reducible exact H | (rw [hy119]; exact H) | exact H
               have Ny119 := zA.mk hy119
               clear hy119
               have H' := zA.mk H
               clear H
               have hcz28_0 : wr.cell? ⟨gb101, 0, none⟩ = some (.slice A0_0 l0_0.length c0_0) := (zL BK101.out 0).trans rfl
               have hfz28_0 := zM BK101.out 0
               have p106 : 0 ≤ (x4_1 : Int) := of_decide_eq_true (by first | (with_reducible assumption) | assumption)
               have q106 : x4_1 < (l0_0.length : Int) := of_decide_eq_true (by first | (with_reducible assumption) | assumption)
               obtain ⟨ad106, A106_0, c106_0, e106, hx106_0, hl106_0, hi106_0⟩ := ZD HR0_0.out x4_1 p106 q106
               cases e106
               replace hx106_0 := (HB.out.cell (ypy w _ hx106_0)).trans hx106_0
               have HR106_0 := zA.mk hi106_0
               have HC106_0 := zA.mk hl106_0
               clear hi106_0 hl106_0
               replace p106 := eq_true p106
               replace q106 := eq_true q106
               have p107 : 0 ≤ (x5_2 : Int) := of_decide_eq_true (by first | (with_reducible assumption) | assumption)
               have q107 : x5_2 < ((zE l0_0 x4_1).length : Int) := of_decide_eq_true (by first | (with_reducible assumption) | assumption)
               obtain ⟨ad107, e107, hx107_0, hx107_1⟩ := Zb HR106_0.out x5_2 p107 q107
               cases e107
               replace hx107_0 := (HB.out.cell (ypy w _ hx107_0)).trans hx107_0
               replace hx107_1 := (HB.out.cell (ypy w _ hx107_1)).trans hx107_1
               replace p107 := eq_true p107
               replace q107 := eq_true q107
               go_wp2_with (first | ((with_reducible refine zj (N := 6) rfl ?_); refine zl ?hg (N := 6) ?hd (cs := #[.int .i64 0, .int .i64 0]) (t := 115) ?hr ?_; (case hd => rfl); (case hg => rfl); (case hr => first | (go_simp; done) | (go_simp; rfl)); intro gb108 hg w29 hbox hb; have n0_ := zA.mk (Kd.Zw (by (with_reducible repeat (first | apply Kd.qK | apply Kd.qL | apply Kd.qb)); exact HO_3.out) hb); have n1_ := zA.mk (zP (g := gb101) (o := .cells #[.slice (some ad106) l0_0.length c0_0] 30 (0, 0)) (by (with_reducible repeat (first | refine zI ?_ _ | refine zK ?_ | refine zH ?_ _)); exact BK101.out) hb); have n2_ := zA.mk (zN (by repeat (first | (with_reducible first | exact HB.out | apply zC | apply zB | apply zD | refine zF ?_ GE101.out) | exact HB.out)) hb); have n3_ := zA.mk (hbox); have n4_ := zA.mk ((by rw [hg]; exact (zO (by repeat (first | (with_reducible first | exact HB.out | apply zC | apply zB | apply zD | refine zF ?_ GE101.out) | exact HB.out))) : w.heap.size ≤ gb108)); have n5_ := zA.mk ((by rw [hg]; exact (zO (by repeat (first | (with_reducible first | exact HB.out | apply zC | apply zB | apply zD | refine zF ?_ GE101.out) | exact HB.out))) : w.heap.size ≤ gb108)); have n6_ := zA.mk ((by rw [hg]; exact Nat.ne_of_lt (qZ (g := gb101) (o := .cells #[.slice (some ad106) l0_0.length c0_0] 30 (0, 0)) (by (with_reducible repeat (first | refine zI ?_ _ | refine zK ?_ | refine zH ?_ _)); exact BK101.out)) : gb101 ≠ gb108)); have n7_ := zA.mk ((by rw [hg]; exact Nat.ne_of_gt (qZ (g := gb101) (o := .cells #[.slice (some ad106) l0_0.length c0_0] 30 (0, 0)) (by (with_reducible repeat (first | refine zI ?_ _ | refine zK ?_ | refine zH ?_ _)); exact BK101.out)) : gb108 ≠ gb101)); clear HO_3; clear BK101; clear HB; have HO_3 := n0_; have BK101 := n1_; have HB := n2_; have BK108 := n3_; have GW108 := n4_; have GE108 := n5_; have NB101_108 := n6_; have NB108_101 := n7_; clear n0_ n1_ n2_ n3_ n4_ n5_ n6_ n7_; clear hb hbox hg; have hnb30 := NB108_101.out; have hnc30 := NB101_108.out; have hcz31_0 : w29.cell? ⟨gb108, 0, none⟩ = some (.int .i64 0) := (zL BK108.out 0).trans rfl; have hcz31_1 : w29.cell? ⟨gb108, 1, none⟩ = some (.int .i64 0) := (zL BK108.out 1).trans rfl; have hfz31_0 := zM BK108.out 0; have hfz31_1 := zM BK108.out 1) | (go_at_call 121; (with_reducible refine (qp.calls k2 ((zG (zE l0_0 x4_1) x5_2).f1) x5_2 t115 _ A25.out).mono ?_); rintro e w32 ⟨rfl, hb⟩; have n0_ := zA.mk (Kd.Zw (by (with_reducible repeat (first | apply Kd.qK | apply Kd.qL | apply Kd.qb)); exact (Kd.ZX (Kd.zAe (p := ⟨gb108, 1, none⟩) (Kd.zAe (p := ⟨gb108, 0, none⟩) (Kd.zA5 HO_3.out BK108.out (by decide)) (fun _ hk => hk.2) (.int .i64 ((zG (zE l0_0 x4_1) x5_2).f0))) (fun _ hk => hk.2) (.int .i64 ((zG (zE l0_0 x4_1) x5_2).f1))) (fun _ h_ => h_.1))) hb); have n1_ := zA.mk (zP (g := gb101) (o := .cells #[.slice (some ad106) l0_0.length c0_0] 30 (0, 0)) (by (with_reducible repeat (first | refine zI ?_ _ | refine zK ?_ | refine zH ?_ _)); refine qU ?_ NB101_108.out _; (with_reducible repeat (first | refine zI ?_ _ | refine zK ?_ | refine zH ?_ _)); refine qU ?_ NB101_108.out _; (with_reducible repeat (first | refine zI ?_ _ | refine zK ?_ | refine zH ?_ _)); exact BK101.out) hb); have n2_ := zA.mk (zP (g := gb108) (o := .cells #[.int .i64 ((zG (zE l0_0 x4_1) x5_2).f0), .int .i64 ((zG (zE l0_0 x4_1) x5_2).f1)] 115 (0, 0)) (by (with_reducible repeat (first | refine zI ?_ _ | refine zK ?_ | refine zH ?_ _)); refine qX (cs := #[.int .i64 ((zG (zE l0_0 x4_1) x5_2).f0), .int .i64 0]) ?_ 1 _ rfl; (with_reducible repeat (first | refine zI ?_ _ | refine zK ?_ | refine zH ?_ _)); refine qX (cs := #[.int .i64 0, .int .i64 0]) ?_ 0 _ rfl; (with_reducible repeat (first | refine zI ?_ _ | refine zK ?_ | refine zH ?_ _)); exact BK108.out) hb); have n3_ := zA.mk (zN (by repeat (first | (with_reducible first | exact HB.out | apply zC | apply zB | apply zD | refine zF ?_ GE101.out | refine zF ?_ GE108.out) | exact HB.out)) hb); clear HO_3; clear BK101; clear BK108; clear HB; have HO_3 := n0_; have BK101 := n1_; have BK108 := n2_; have HB := n3_; clear n0_ n1_ n2_ n3_; (try clear hb); (try clear hb2); (try clear hk); (try clear hi)) | ((with_reducible refine zj (N := 47) rfl ?_); refine Kd.zC8 (Kd.int .i64) _ 2 ?hg (N := 47) ?hd (xs := ([x4_1, x5_2] : List Int)) (inner := [.int .i64 x4_1, .int .i64 x5_2]) (ok := fun _ => True) (okp := fun _ => True) ?hr ?hp (fun _ hk => hk) trivial (yry _ _) (yqy _) (by simp) ?_; (case hd => rfl); (case hg => rfl); (case hr => first | (go_simp; done) | (go_simp; rfl)); (case hp => exact (QB.one (show Kd.M (Kd.int .i64) _ _ _ x4_1 [.int .i64 x4_1] from rfl) (QB.one (show Kd.M (Kd.int .i64) _ _ _ x5_2 [.int .i64 x5_2] from rfl) (QB.none _ _)))); intro v117 w33 ho34 hb hg_ hnew_; clear hg_ hnew_; (first | rw [← Ny116.out] at ho34 | (simp only [Int.reduceToNat] at ho34; rw [← Ny116.out] at ho34)); have n0_ := zA.mk (Kd.JU (by (with_reducible repeat (first | apply Kd.qK | apply Kd.qL | apply Kd.qb)); exact HO_3.out) (Kd.QT ho34) hb); have n1_ := zA.mk (Kd.ZM ho34 (zO (by repeat (first | (with_reducible first | exact HB.out | apply zC | apply zB | apply zD | refine zF ?_ GE101.out | refine zF ?_ GE108.out) | exact HB.out)))); have n2_ := zA.mk (zP (g := gb101) (o := .cells #[.slice (some ad106) l0_0.length c0_0] 30 (0, 0)) (by (with_reducible repeat (first | refine zI ?_ _ | refine zK ?_ | refine zH ?_ _)); exact BK101.out) hb); have n3_ := zA.mk (zP (g := gb108) (o := .cells #[.int .i64 ((zG (zE l0_0 x4_1) x5_2).f0), .int .i64 ((zG (zE l0_0 x4_1) x5_2).f1)] 115 (0, 0)) (by (with_reducible repeat (first | refine zI ?_ _ | refine zK ?_ | refine zH ?_ _)); exact BK108.out) hb); have n4_ := zA.mk (zN (by repeat (first | (with_reducible first | exact HB.out | apply zC | apply zB | apply zD | refine zF ?_ GE101.out | refine zF ?_ GE108.out) | exact HB.out)) hb); clear HO_3; clear BK101; clear BK108; clear HB; have HO_3 := n0_; have HO118 := n1_; have BK101 := n2_; have BK108 := n3_; have HB := n4_; clear n0_ n1_ n2_ n3_ n4_; clear hb ho34; obtain ⟨Ao36, co36, eo36⟩ := Kd.ZU HO118.out; subst eo36) | ((with_reducible refine Zp (b := .append) (xs := #[.tmp 44, .tmp 48]) rfl ?_); at_builtin; refine Kd.zBf (Kd.slice 2 (Kd.int .i64)) (w0 := w) w.heap.size rfl (.tmp 44) (.tmp 48) 54 25 (.slice none 0 0) 24 rfl Try.underlying54 zE8 rfl (by decide) (by omega) u3 x3_2 y116 [.slice Ao36 y116.length co36] (fun _ => True) (fun k_ => some k_ = (.slice Ao36 y116.length co36 : Value).ownBlock) rfl rfl ?aP (fun k_ hk_ => ((Kd.qR (ok' := fun k_ => ((fun _ => True)) k_ ∧ some k_ ≠ (u3 : Value).ownBlock) (Kd.QO (HO118.out) (Kd.Qk HO_3.out) (by decide)) (fun k_ hk => ⟨trivial, hk.2⟩))).1 k_ hk_.symm) ?aF ?aO ?aB ?aS ?aL ?_; (case aP => exact Kd.zEY (Kd.qR (Kd.Qj rfl (Kd.qR (ok' := fun k_ => ((fun _ => True)) k_ ∧ some k_ ≠ (u3 : Value).ownBlock) (Kd.QO (HO118.out) (Kd.Qk HO_3.out) (by decide)) (fun k_ hk => ⟨trivial, hk.2⟩))) (fun _ h_ => h_))); (case aB => exact (by repeat (first | (with_reducible first | exact HB.out | apply zC | apply zB | apply zD | refine zF ?_ GE101.out | refine zF ?_ GE108.out) | exact HB.out))); (case aF => exact (fun _ _ => trivial)); (case aO => exact (by (with_reducible repeat (first | apply Kd.qK | apply Kd.qL | apply Kd.qb)); exact Kd.ZX HO_3.out (fun k_ hk => ⟨trivial, fun e_ => hk.2 e_⟩))); (case aS => exact (zO (by repeat (first | (with_reducible first | exact HB.out | apply zC | apply zB | apply zD | refine zF ?_ GE101.out | refine zF ?_ GE108.out) | exact HB.out)))); (case aL => have := LMc27.out; omega); intro v120 w35 ho hb hg hat; rw [← Ny119.out] at ho; have n0_ := zA.mk (qm (g := gb101) (o := .cells #[.slice (some ad106) l0_0.length c0_0] 30 (0, 0)) (by (with_reducible repeat (first | refine zI ?_ _ | refine zK ?_ | refine zH ?_ _)); exact BK101.out) hg (Kd.S_ne HO_3.out BK101.out (by decide))); have n1_ := zA.mk (qm (g := gb108) (o := .cells #[.int .i64 ((zG (zE l0_0 x4_1) x5_2).f0), .int .i64 ((zG (zE l0_0 x4_1) x5_2).f1)] 115 (0, 0)) (by (with_reducible repeat (first | refine zI ?_ _ | refine zK ?_ | refine zH ?_ _)); exact BK108.out) hg (Kd.S_ne HO_3.out BK108.out (by decide))); have n2_ := zA.mk (hb); have n3_ := zA.mk (ho); clear BK101; clear BK108; clear HB; clear HO_3; clear HO118; have BK101 := n0_; have BK108 := n1_; have HB := n2_; have HO121 := n3_; clear n0_ n1_ n2_ n3_; clear ho hb hg hat))
               go_roundg k2
               case measure => have := HK1.out; have := HK2.out; omega
               case rel => exact ⟨(y119), (wrap64 (x5_2 + 1)), (by first | rfl | (simp; done) | (simp [*]; done)), H', ⟨by have := HK1.out; have := HK2.out; omega⟩, ⟨by (with_reducible repeat (first | apply Kd.qK | apply Kd.qL | apply Kd.qb)); exact HO121.out⟩, ⟨by (with_reducible repeat (first | refine zI ?_ _ | refine zK ?_ | refine zH ?_ _)); exact BK101.out⟩, ⟨by repeat (first | (with_reducible first | exact HB.out | apply zC | apply zB | apply zD | refine zF ?_ GE101.out | refine zF ?_ GE108.out) | exact HB.out)⟩⟩
              next =>
               rw [if_neg c27] at H
               exact absurd H (by simp)
             next =>
              rw [if_neg c26] at H
              have c26b0 : decide (x5_2 < t115) = false := yhy c26
              clear c26
              have H' := zA.mk H
              clear H
              have hcz37_0 : wr.cell? ⟨gb101, 0, none⟩ = some (.slice A0_0 l0_0.length c0_0) := (zL BK101.out 0).trans rfl
              have hfz37_0 := zM BK101.out 0
              have p106 : 0 ≤ (x4_1 : Int) := of_decide_eq_true (by first | (with_reducible assumption) | assumption)
              have q106 : x4_1 < (l0_0.length : Int) := of_decide_eq_true (by first | (with_reducible assumption) | assumption)
              obtain ⟨ad106, A106_0, c106_0, e106, hx106_0, hl106_0, hi106_0⟩ := ZD HR0_0.out x4_1 p106 q106
              cases e106
              replace hx106_0 := (HB.out.cell (ypy w _ hx106_0)).trans hx106_0
              have HR106_0 := zA.mk hi106_0
              have HC106_0 := zA.mk hl106_0
              clear hi106_0 hl106_0
              replace p106 := eq_true p106
              replace q106 := eq_true q106
              have p107 : 0 ≤ (x5_2 : Int) := of_decide_eq_true (by first | (with_reducible assumption) | assumption)
              have q107 : x5_2 < ((zE l0_0 x4_1).length : Int) := of_decide_eq_true (by first | (with_reducible assumption) | assumption)
              obtain ⟨ad107, e107, hx107_0, hx107_1⟩ := Zb HR106_0.out x5_2 p107 q107
              cases e107
              replace hx107_0 := (HB.out.cell (ypy w _ hx107_0)).trans hx107_0
              replace hx107_1 := (HB.out.cell (ypy w _ hx107_1)).trans hx107_1
              replace p107 := eq_true p107
              replace q107 := eq_true q107
              go_wp2_with (first | ((with_reducible refine zj (N := 6) rfl ?_); refine zl ?hg (N := 6) ?hd (cs := #[.int .i64 0, .int .i64 0]) (t := 115) ?hr ?_; (case hd => rfl); (case hg => rfl); (case hr => first | (go_simp; done) | (go_simp; rfl)); intro gb108 hg w38 hbox hb; have n0_ := zA.mk (Kd.Zw (by (with_reducible repeat (first | apply Kd.qK | apply Kd.qL | apply Kd.qb)); exact HO_3.out) hb); have n1_ := zA.mk (zP (g := gb101) (o := .cells #[.slice (some ad106) l0_0.length c0_0] 30 (0, 0)) (by (with_reducible repeat (first | refine zI ?_ _ | refine zK ?_ | refine zH ?_ _)); exact BK101.out) hb); have n2_ := zA.mk (zN (by repeat (first | (with_reducible first | exact HB.out | apply zC | apply zB | apply zD | refine zF ?_ GE101.out) | exact HB.out)) hb); have n3_ := zA.mk (hbox); have n4_ := zA.mk ((by rw [hg]; exact (zO (by repeat (first | (with_reducible first | exact HB.out | apply zC | apply zB | apply zD | refine zF ?_ GE101.out) | exact HB.out))) : w.heap.size ≤ gb108)); have n5_ := zA.mk ((by rw [hg]; exact (zO (by repeat (first | (with_reducible first | exact HB.out | apply zC | apply zB | apply zD | refine zF ?_ GE101.out) | exact HB.out))) : w.heap.size ≤ gb108)); have n6_ := zA.mk ((by rw [hg]; exact Nat.ne_of_lt (qZ (g := gb101) (o := .cells #[.slice (some ad106) l0_0.length c0_0] 30 (0, 0)) (by (with_reducible repeat (first | refine zI ?_ _ | refine zK ?_ | refine zH ?_ _)); exact BK101.out)) : gb101 ≠ gb108)); have n7_ := zA.mk ((by rw [hg]; exact Nat.ne_of_gt (qZ (g := gb101) (o := .cells #[.slice (some ad106) l0_0.length c0_0] 30 (0, 0)) (by (with_reducible repeat (first | refine zI ?_ _ | refine zK ?_ | refine zH ?_ _)); exact BK101.out)) : gb108 ≠ gb101)); clear HO_3; clear BK101; clear HB; have HO_3 := n0_; have BK101 := n1_; have HB := n2_; have BK108 := n3_; have GW108 := n4_; have GE108 := n5_; have NB101_108 := n6_; have NB108_101 := n7_; clear n0_ n1_ n2_ n3_ n4_ n5_ n6_ n7_; clear hb hbox hg; have hnb39 := NB108_101.out; have hnc39 := NB101_108.out; have hcz40_0 : w38.cell? ⟨gb108, 0, none⟩ = some (.int .i64 0) := (zL BK108.out 0).trans rfl; have hcz40_1 : w38.cell? ⟨gb108, 1, none⟩ = some (.int .i64 0) := (zL BK108.out 1).trans rfl; have hfz40_0 := zM BK108.out 0; have hfz40_1 := zM BK108.out 1) | (go_at_call 121; (with_reducible refine (qp.calls k2 ((zG (zE l0_0 x4_1) x5_2).f1) x5_2 t115 _ A25.out).mono ?_); rintro e w41 ⟨rfl, hb⟩; have n0_ := zA.mk (Kd.Zw (by (with_reducible repeat (first | apply Kd.qK | apply Kd.qL | apply Kd.qb)); exact (Kd.ZX (Kd.zAe (p := ⟨gb108, 1, none⟩) (Kd.zAe (p := ⟨gb108, 0, none⟩) (Kd.zA5 HO_3.out BK108.out (by decide)) (fun _ hk => hk.2) (.int .i64 ((zG (zE l0_0 x4_1) x5_2).f0))) (fun _ hk => hk.2) (.int .i64 ((zG (zE l0_0 x4_1) x5_2).f1))) (fun _ h_ => h_.1))) hb); have n1_ := zA.mk (zP (g := gb101) (o := .cells #[.slice (some ad106) l0_0.length c0_0] 30 (0, 0)) (by (with_reducible repeat (first | refine zI ?_ _ | refine zK ?_ | refine zH ?_ _)); refine qU ?_ NB101_108.out _; (with_reducible repeat (first | refine zI ?_ _ | refine zK ?_ | refine zH ?_ _)); refine qU ?_ NB101_108.out _; (with_reducible repeat (first | refine zI ?_ _ | refine zK ?_ | refine zH ?_ _)); exact BK101.out) hb); have n2_ := zA.mk (zP (g := gb108) (o := .cells #[.int .i64 ((zG (zE l0_0 x4_1) x5_2).f0), .int .i64 ((zG (zE l0_0 x4_1) x5_2).f1)] 115 (0, 0)) (by (with_reducible repeat (first | refine zI ?_ _ | refine zK ?_ | refine zH ?_ _)); refine qX (cs := #[.int .i64 ((zG (zE l0_0 x4_1) x5_2).f0), .int .i64 0]) ?_ 1 _ rfl; (with_reducible repeat (first | refine zI ?_ _ | refine zK ?_ | refine zH ?_ _)); refine qX (cs := #[.int .i64 0, .int .i64 0]) ?_ 0 _ rfl; (with_reducible repeat (first | refine zI ?_ _ | refine zK ?_ | refine zH ?_ _)); exact BK108.out) hb); have n3_ := zA.mk (zN (by repeat (first | (with_reducible first | exact HB.out | apply zC | apply zB | apply zD | refine zF ?_ GE101.out | refine zF ?_ GE108.out) | exact HB.out)) hb); clear HO_3; clear BK101; clear BK108; clear HB; have HO_3 := n0_; have BK101 := n1_; have BK108 := n2_; have HB := n3_; clear n0_ n1_ n2_ n3_; (try clear hb); (try clear hb2); (try clear hk); (try clear hi)))
              go_roundg k2
              case measure => have := HK1.out; have := HK2.out; omega
              case rel => exact ⟨(x3_2), (wrap64 (x5_2 + 1)), (by first | rfl | (simp; done) | (simp [*]; done)), H', ⟨by have := HK1.out; have := HK2.out; omega⟩, ⟨by (with_reducible repeat (first | apply Kd.qK | apply Kd.qL | apply Kd.qb)); exact HO_3.out⟩, ⟨by (with_reducible repeat (first | refine zI ?_ _ | refine zK ?_ | refine zH ?_ _)); exact BK101.out⟩, ⟨by repeat (first | (with_reducible first | exact HB.out | apply zC | apply zB | apply zD | refine zF ?_ GE101.out | refine zF ?_ GE108.out) | exact HB.out)⟩⟩
            next =>
             rw [if_neg c24] at H
             have c24b0 : (((zG (zE l0_0 x4_1) x5_2).f0) == x4_1) = false := beq_eq_false_iff_ne.mpr c24
             have c24b1 : (((zG (zE l0_0 x4_1) x5_2).f0) != x4_1) = true := bne_iff_ne.mpr c24
             have H' := zA.mk H
             clear H
             have hcz42_0 : wr.cell? ⟨gb101, 0, none⟩ = some (.slice A0_0 l0_0.length c0_0) := (zL BK101.out 0).trans rfl
             have hfz42_0 := zM BK101.out 0
             have p106 : 0 ≤ (x4_1 : Int) := of_decide_eq_true (by first | (with_reducible assumption) | assumption)
             have q106 : x4_1 < (l0_0.length : Int) := of_decide_eq_true (by first | (with_reducible assumption) | assumption)
             obtain ⟨ad106, A106_0, c106_0, e106, hx106_0, hl106_0, hi106_0⟩ := ZD HR0_0.out x4_1 p106 q106
             cases e106
             replace hx106_0 := (HB.out.cell (ypy w _ hx106_0)).trans hx106_0
             have HR106_0 := zA.mk hi106_0
             have HC106_0 := zA.mk hl106_0
             clear hi106_0 hl106_0
             replace p106 := eq_true p106
             replace q106 := eq_true q106
             have p107 : 0 ≤ (x5_2 : Int) := of_decide_eq_true (by first | (with_reducible assumption) | assumption)
             have q107 : x5_2 < ((zE l0_0 x4_1).length : Int) := of_decide_eq_true (by first | (with_reducible assumption) | assumption)
             obtain ⟨ad107, e107, hx107_0, hx107_1⟩ := Zb HR106_0.out x5_2 p107 q107
             cases e107
             replace hx107_0 := (HB.out.cell (ypy w _ hx107_0)).trans hx107_0
             replace hx107_1 := (HB.out.cell (ypy w _ hx107_1)).trans hx107_1
             replace p107 := eq_true p107
             replace q107 := eq_true q107
             go_wp2_with (first | ((with_reducible refine zj (N := 6) rfl ?_); refine zl ?hg (N := 6) ?hd (cs := #[.int .i64 0, .int .i64 0]) (t := 115) ?hr ?_; (case hd => rfl); (case hg => rfl); (case hr => first | (go_simp; done) | (go_simp; rfl)); intro gb108 hg w43 hbox hb; have n0_ := zA.mk (Kd.Zw (by (with_reducible repeat (first | apply Kd.qK | apply Kd.qL | apply Kd.qb)); exact HO_3.out) hb); have n1_ := zA.mk (zP (g := gb101) (o := .cells #[.slice (some ad106) l0_0.length c0_0] 30 (0, 0)) (by (with_reducible repeat (first | refine zI ?_ _ | refine zK ?_ | refine zH ?_ _)); exact BK101.out) hb); have n2_ := zA.mk (zN (by repeat (first | (with_reducible first | exact HB.out | apply zC | apply zB | apply zD | refine zF ?_ GE101.out) | exact HB.out)) hb); have n3_ := zA.mk (hbox); have n4_ := zA.mk ((by rw [hg]; exact (zO (by repeat (first | (with_reducible first | exact HB.out | apply zC | apply zB | apply zD | refine zF ?_ GE101.out) | exact HB.out))) : w.heap.size ≤ gb108)); have n5_ := zA.mk ((by rw [hg]; exact (zO (by repeat (first | (with_reducible first | exact HB.out | apply zC | apply zB | apply zD | refine zF ?_ GE101.out) | exact HB.out))) : w.heap.size ≤ gb108)); have n6_ := zA.mk ((by rw [hg]; exact Nat.ne_of_lt (qZ (g := gb101) (o := .cells #[.slice (some ad106) l0_0.length c0_0] 30 (0, 0)) (by (with_reducible repeat (first | refine zI ?_ _ | refine zK ?_ | refine zH ?_ _)); exact BK101.out)) : gb101 ≠ gb108)); have n7_ := zA.mk ((by rw [hg]; exact Nat.ne_of_gt (qZ (g := gb101) (o := .cells #[.slice (some ad106) l0_0.length c0_0] 30 (0, 0)) (by (with_reducible repeat (first | refine zI ?_ _ | refine zK ?_ | refine zH ?_ _)); exact BK101.out)) : gb108 ≠ gb101)); clear HO_3; clear BK101; clear HB; have HO_3 := n0_; have BK101 := n1_; have HB := n2_; have BK108 := n3_; have GW108 := n4_; have GE108 := n5_; have NB101_108 := n6_; have NB108_101 := n7_; clear n0_ n1_ n2_ n3_ n4_ n5_ n6_ n7_; clear hb hbox hg; have hnb44 := NB108_101.out; have hnc44 := NB101_108.out; have hcz45_0 : w43.cell? ⟨gb108, 0, none⟩ = some (.int .i64 0) := (zL BK108.out 0).trans rfl; have hcz45_1 : w43.cell? ⟨gb108, 1, none⟩ = some (.int .i64 0) := (zL BK108.out 1).trans rfl; have hfz45_0 := zM BK108.out 0; have hfz45_1 := zM BK108.out 1))
             go_roundg k2
             case measure => have := HK1.out; have := HK2.out; omega
             case rel => exact ⟨(x3_2), (wrap64 (x5_2 + 1)), (by first | rfl | (simp; done) | (simp [*]; done)), H', ⟨by have := HK1.out; have := HK2.out; omega⟩, ⟨by (with_reducible repeat (first | apply Kd.qK | apply Kd.qL | apply Kd.qb)); exact Kd.ZX (Kd.zAe (p := ⟨gb108, 1, none⟩) (Kd.zAe (p := ⟨gb108, 0, none⟩) (Kd.zA5 HO_3.out BK108.out (by decide)) (fun _ hk => hk.2) (.int .i64 ((zG (zE l0_0 x4_1) x5_2).f0))) (fun _ hk => hk.2) (.int .i64 ((zG (zE l0_0 x4_1) x5_2).f1))) (fun _ hk => trivial)⟩, ⟨by (with_reducible repeat (first | refine zI ?_ _ | refine zK ?_ | refine zH ?_ _)); refine qU ?_ NB101_108.out _; (with_reducible repeat (first | refine zI ?_ _ | refine zK ?_ | refine zH ?_ _)); refine qU ?_ NB101_108.out _; (with_reducible repeat (first | refine zI ?_ _ | refine zK ?_ | refine zH ?_ _)); exact BK101.out⟩, ⟨by repeat (first | (with_reducible first | exact HB.out | apply zC | apply zB | apply zD | refine zF ?_ GE101.out | refine zF ?_ GE108.out) | exact HB.out)⟩⟩
          next =>
           rw [if_neg c13] at H
           exact absurd H (by simp)
         next =>
          rw [if_neg c12] at H
          exact absurd H (by simp)
        next =>
         rw [if_neg c11] at H
         exact absurd H (by simp)
       next =>
        rw [if_neg c10] at H
        exact absurd H (by simp)
      next =>
       rw [if_neg c9] at H
       have c9b0 : decide (x5_2 < 4) = false := yhy c9
       clear c9
       have H' := zA.mk H
       clear H
       go_wp2
       go_roundg k2
       case measure => have := HK1.out; have := HK2.out; omega
       case rel => exact ⟨(x3_2), (wrap64 (x4_1 + 1)), (by first | rfl | (simp; done) | (simp [*]; done)), H', ⟨by have := HK1.out; have := HK2.out; omega⟩, ⟨by (with_reducible repeat (first | apply Kd.qK | apply Kd.qL | apply Kd.qb)); exact HO_3.out⟩, ⟨by (with_reducible repeat (first | refine zI ?_ _ | refine zK ?_ | refine zH ?_ _)); exact BK101.out⟩, ⟨by repeat (first | (with_reducible first | exact HB.out | apply zC | apply zB | apply zD | refine zF ?_ GE101.out) | exact HB.out)⟩⟩
   next =>
    rw [if_neg c6] at H
    have c6b0 : decide (x4_1 < t105) = false := yhy c6
    clear c6
    obtain rfl := yey H
    have hcz46_0 : wr.cell? ⟨gb101, 0, none⟩ = some (.slice A0_0 l0_0.length c0_0) := (zL BK101.out 0).trans rfl
    have hfz46_0 := zM BK101.out 0
    go_wp2_with (first | ((with_reducible refine zU (f := 59) rfl ?_); refine qF (some 10) rfl rfl Try.func59 (by kernel_rfl) rfl #[.agg #[.slice A0_0 l0_0.length c0_0]] rfl (by (try simp only [yiy, yjy, yky]); first | done | rfl | (simp only [yly, ymy]; rfl)) ?_; (with_reducible refine (zr.calls _ _ l0_0 t105 _ ?side1 ?side2 A5.out).mono ?_); (case side1 => repeat (first | exact (Kd.zn HR0_0.out HB.out) | (with_reducible refine Kd.zo ?_ _) | (with_reducible refine Kd.zp ?_ _) | (with_reducible refine Kd.qH ?_))); (case side2 => exact HC0_0.out); rintro e w47 ⟨rfl, hb⟩; refine ⟨_, rfl, ?_⟩; have n0_ := zA.mk (Kd.Zw (by (with_reducible repeat (first | apply Kd.qK | apply Kd.qL | apply Kd.qb)); exact HO_3.out) hb); have n1_ := zA.mk (zP (g := gb101) (o := .cells #[.slice A0_0 l0_0.length c0_0] 30 (0, 0)) (by (with_reducible repeat (first | refine zI ?_ _ | refine zK ?_ | refine zH ?_ _)); exact BK101.out) hb); have n2_ := zA.mk (zN (by repeat (first | (with_reducible first | exact HB.out | apply zC | apply zB | apply zD | refine zF ?_ GE101.out) | exact HB.out)) hb); clear HO_3; clear BK101; clear HB; have HO_3 := n0_; have BK101 := n1_; have HB := n2_; clear n0_ n1_ n2_; (try clear hb); (try clear hb2); (try clear hk); (try clear hi)))
    go_ret
    exact ⟨_, by first | rfl | (simp [zS, zT] <;> rfl) | (simp [*, zS, zT] <;> rfl), by (with_reducible repeat (first | apply Kd.qK | apply Kd.qL | apply Kd.qb)); exact HO_3.out, by repeat (first | (with_reducible first | exact HB.out | apply zC | apply zB | apply zD | refine zF ?_ GE101.out) | exact HB.out)⟩
mutual
def zf.l0 : Nat → List (List Int) → List (List Int) → Int → List (List (zq)) → Option ((List (List Int)))
 | 0, _, _, _, _ => none
 | k + 1, x3, x4, x5, x102000 => if x5 < (x4.length : Int) then (if 0 ≤ x5 then (if 0 < ((zZ x4 x5).length : Int) then (if 1 < ((zZ x4 x5).length : Int) then (zf.l1 k x3 x4 x5 (rd (zZ x4 x5) 0) (rd (zZ x4 x5) 1) 0 x102000) else (none)) else (none)) else (none)) else (some x3)
def zf.l1 : Nat → List (List Int) → List (List Int) → Int → Int → Int → Int → List (List (zq)) → Option ((List (List Int)))
 | 0, _, _, _, _, _, _, _ => none
 | k + 1, x3, x4, x5, x6, x7, x8, x102000 => if x8 < 4 then (if x8 = x7 then (zf.l1 k x3 x4 x5 x6 x7 (wrap64 (x8 + 1)) x102000) else ((zr.f x102000).bind fun t112 => (if 0 ≤ (wrap64 (7 * t112)) then (if (wrap64 (7 * t112) : Int).toNat ≤ 35184372088832 then ((some (List.replicate (wrap64 (7 * t112) : Int).toNat 0 : List Int)).bind fun y113 => ((qW.f k x102000 x6 x7 x8).bind fun bt116 => (if 0 ≤ (wrap64 ((wrap64 (7 * x6)) + x8)) then (if (wrap64 ((wrap64 (7 * x6)) + x8)) < (y113.length : Int) then ((some (y113.set ((wrap64 ((wrap64 (7 * x6)) + x8)) : Int).toNat (wrap64 ((rd y113 (wrap64 ((wrap64 (7 * x6)) + x8))) + 1)) : List Int)).bind fun y120 => ((qC.f x7 x8).bind fun t121 => (if 0 ≤ (wrap64 ((wrap64 ((wrap64 (7 * x6)) + 4)) + t121)) then (if (wrap64 ((wrap64 ((wrap64 (7 * x6)) + 4)) + t121)) < (y113.length : Int) then ((some (y120.set ((wrap64 ((wrap64 ((wrap64 (7 * x6)) + 4)) + t121)) : Int).toNat (wrap64 ((rd y120 (wrap64 ((wrap64 ((wrap64 (7 * x6)) + 4)) + t121))) + 1)) : List Int)).bind fun y123 => (if 0 ≤ (wrap64 ((wrap64 (7 * bt116.1)) + bt116.2.2)) then (if (wrap64 ((wrap64 (7 * bt116.1)) + bt116.2.2)) < (y113.length : Int) then ((some (y123.set ((wrap64 ((wrap64 (7 * bt116.1)) + bt116.2.2)) : Int).toNat (wrap64 ((rd y123 (wrap64 ((wrap64 (7 * bt116.1)) + bt116.2.2))) - 1)) : List Int)).bind fun y125 => ((qC.f bt116.2.1 bt116.2.2).bind fun t126 => (if 0 ≤ (wrap64 ((wrap64 ((wrap64 (7 * bt116.1)) + 4)) + t126)) then (if (wrap64 ((wrap64 ((wrap64 (7 * bt116.1)) + 4)) + t126)) < (y113.length : Int) then (if x3.length < 5864062014805 then (zf.l1 k (x3 ++ [(y125.set ((wrap64 ((wrap64 ((wrap64 (7 * bt116.1)) + 4)) + t126)) : Int).toNat (wrap64 ((rd y125 (wrap64 ((wrap64 ((wrap64 (7 * bt116.1)) + 4)) + t126))) - 1)))]) x4 x5 x6 x7 (wrap64 (x8 + 1)) x102000) else (none)) else (none)) else (none)))) else (none)) else (none))) else (none)) else (none)))) else (none)) else (none)))) else (none)) else (none)))) else (zf.l0 k x3 x4 (wrap64 (x5 + 1)) x102000)
end
def zf.f (k : Nat) (l0_0 : List (List (zq))) : Option ((List (List Int))) := (zg.f k l0_0).bind fun t105 => (zf.l0 k (([] : List (List Int))) t105 0 l0_0)
set_option maxHeartbeats 8000000 in
set_option maxRecDepth 100000 in
theorem zf.calls (k : Nat) (A0_0 : Option Addr) (c0_0 : Nat) (l0_0 : List (List (zq))) (r : List (List Int)) (w : World) (hr0_0 : Kd.C (Kd.slice 115 qq) w A0_0 l0_0.length l0_0) (hc0_0 : l0_0.length ≤ c0_0) (h : zf.f k l0_0 = some r) :
 Calls Try.prog 61 #[.agg #[.slice A0_0 l0_0.length c0_0]] w fun e w' => ∃ v0_ : Value, e = .returned (v0_) ∧ Kd.S (Kd.slice 2 (Kd.int .i64)) 25 w' w.heap.size (fun _ => True) v0_ r ∧ Below w.heap.size w w' := by
 have hu30 := Try.underlying30
 have HR0_0 := zA.mk hr0_0
 have HC0_0 := zA.mk hc0_0
 clear hr0_0 hc0_0
 have HB := zA.mk (yry w.heap.size w)
 have H : ((zg.f k l0_0).bind fun t105 => (zf.l0 k (([] : List (List Int))) t105 0 l0_0)) = some r := h
 clear h
 obtain ⟨y102, hy102⟩ : ∃ y_ : List (List Int), y_ = (([] : List (List Int))) := ⟨_, rfl⟩
 replace H : ((zg.f k l0_0).bind fun t105 => (zf.l0 k y102 t105 0 l0_0)) = some r := by first | (rw [hy102]; with_reducible exact H) | (have H2_ := (yfy _ _).symm.trans H; rw [hy102]; with_reducible exact H2_) | (have H2_ := (yfy _ _).symm.trans H; with_reducible exact H2_) | with_reducible exact H | (rw [hy102]; exact H) | exact H
 have Ny102 := zA.mk hy102
 clear hy102
 replace H := ydy.mp H
 obtain ⟨t105, A20, H⟩ := H
 replace H : (zf.l0 k y102 t105 0 l0_0) = some r := H
 have A2 := zA.mk A20
 clear A20
 have H' := zA.mk H
 clear H
 go_enter Try.func61, Try.ntmps61
 go_wp2_with (first | ((with_reducible refine zj (N := 1) rfl ?_); refine zl ?hg (N := 1) ?hd (cs := #[.slice A0_0 l0_0.length c0_0]) (t := 30) ?hr ?_; (case hd => rfl); (case hg => rfl); (case hr => first | (go_simp; done) | (go_simp; rfl)); intro gb101 hg w3 hbox hb; have n0_ := zA.mk (zN (by repeat (first | (with_reducible first | exact HB.out | apply zC | apply zB | apply zD) | exact HB.out)) hb); have n1_ := zA.mk (hbox); have n2_ := zA.mk ((by rw [hg]; exact (zO (by repeat (first | (with_reducible first | exact HB.out | apply zC | apply zB | apply zD) | exact HB.out))) : w.heap.size ≤ gb101)); have n3_ := zA.mk ((by rw [hg]; exact (zO (by repeat (first | (with_reducible first | exact HB.out | apply zC | apply zB | apply zD) | exact HB.out))) : w.heap.size ≤ gb101)); clear HB; have HB := n0_; have BK101 := n1_; have GW101 := n2_; have GE101 := n3_; clear n0_ n1_ n2_ n3_; clear hb hbox hg) | ((with_reducible refine zj (N := 13) rfl ?_); refine Kd.S_lit (Kd.slice 2 (Kd.int .i64)) _ 25 ?hg (N := 13) ?hd (xs := ([] : List (List Int))) (inner := []) (ok := fun _ => True) (okp := fun _ => True) ?hr ?hp (fun _ hk => hk) trivial (yry _ _) (yqy _) (by simp) ?_; (case hd => rfl); (case hg => rfl); (case hr => first | (go_simp; done) | (go_simp; rfl)); (case hp => exact (QB.none _ _)); intro v103 w4 ho5 hb hg_ hnew_; clear hg_ hnew_; (first | rw [← Ny102.out] at ho5 | (simp only [Int.reduceToNat] at ho5; rw [← Ny102.out] at ho5)); have n0_ := zA.mk (Kd.Jb ho5 (zO (by repeat (first | (with_reducible first | exact HB.out | apply zC | apply zB | apply zD | refine zF ?_ GE101.out) | exact HB.out)))); have n1_ := zA.mk (zP (g := gb101) (o := .cells #[.slice A0_0 l0_0.length c0_0] 30 (0, 0)) (by (with_reducible repeat (first | refine zI ?_ _ | refine zK ?_ | refine zH ?_ _)); exact BK101.out) hb); have n2_ := zA.mk (zN (by repeat (first | (with_reducible first | exact HB.out | apply zC | apply zB | apply zD | refine zF ?_ GE101.out) | exact HB.out)) hb); clear BK101; clear HB; have HO104 := n0_; have BK101 := n1_; have HB := n2_; clear n0_ n1_ n2_; clear hb ho5; have hcz6_0 : w4.cell? ⟨gb101, 0, none⟩ = some (.slice A0_0 l0_0.length c0_0) := (zL BK101.out 0).trans rfl; have hfz6_0 := zM BK101.out 0) | ((with_reducible refine zU (f := 102) rfl ?_); refine qF (some 15) rfl rfl Try.func102 (by kernel_rfl) rfl #[.agg #[.slice A0_0 l0_0.length c0_0]] rfl (by (try simp only [yiy, yjy, yky]); first | done | rfl | (simp only [yly, ymy]; rfl)) ?_; (with_reducible refine (zg.calls k _ _ l0_0 t105 _ ?side1 ?side2 A2.out).mono ?_); (case side1 => repeat (first | exact (Kd.zn HR0_0.out HB.out) | (with_reducible refine Kd.zo ?_ _) | (with_reducible refine Kd.zp ?_ _) | (with_reducible refine Kd.qH ?_))); (case side2 => exact HC0_0.out); rintro e w7 ⟨v106, rfl, ho0, hb⟩; refine ⟨_, rfl, ?_⟩; have n0_ := zA.mk (Kd.JU (by (with_reducible repeat (first | apply Kd.qK | apply Kd.qL | apply Kd.qb)); exact HO104.out) (Kd.S_base ho0) hb); have n1_ := zA.mk (Kd.Jb (Kd.S_new' ho0 (Kd.S_lt (by (with_reducible repeat (first | apply Kd.qK | apply Kd.qL | apply Kd.qb)); exact HO104.out))) (zO (by repeat (first | (with_reducible first | exact HB.out | apply zC | apply zB | apply zD | refine zF ?_ GE101.out) | exact HB.out)))); have n2_ := zA.mk (zP (g := gb101) (o := .cells #[.slice A0_0 l0_0.length c0_0] 30 (0, 0)) (by (with_reducible repeat (first | refine zI ?_ _ | refine zK ?_ | refine zH ?_ _)); exact BK101.out) hb); have n3_ := zA.mk (zN (by repeat (first | (with_reducible first | exact HB.out | apply zC | apply zB | apply zD | refine zF ?_ GE101.out) | exact HB.out)) hb); clear HO104; clear BK101; clear HB; have HO104 := n0_; have HO107 := n1_; have BK101 := n2_; have HB := n3_; clear n0_ n1_ n2_ n3_; (try clear hb); (try clear hb2); (try clear hk); (try clear hi); (try clear ho0)))
 go_loopg [3, 5] k (fun kq v3 v5 w' => ∃ (x3_1 : List (List Int)) (x5_1 : Int), v5 = .int .i64 x5_1 ∧ zA (zf.l0 kq x3_1 t105 x5_1 l0_0 = some r) ∧ zA (kq ≤ k) ∧ zA (Kd.S (Kd.slice 2 (Kd.int .i64)) 25 w' w.heap.size (fun k_ => some k_ ≠ (v106 : Value).ownBlock) v3 x3_1) ∧ zA (Kd.S (Kd.slice 2 (Kd.int .i64)) 25 w' w.heap.size (fun k_ => some k_ ≠ (v3 : Value).ownBlock) v106 t105) ∧ zA (w'.heap[gb101]? = some (.cells #[(.slice A0_0 l0_0.length c0_0)] 30 (0, 0))) ∧ zA (Below w.heap.size w w'))
 case atStart => exact ⟨(y102), (0), (by first | rfl | (simp; done) | (simp [*]; done)), H', ⟨yqy _⟩, ⟨by (with_reducible repeat (first | apply Kd.qK | apply Kd.qL | apply Kd.qb)); exact Kd.ZX HO104.out (fun _ hk => hk.2)⟩, ⟨by (with_reducible repeat (first | apply Kd.qK | apply Kd.qL | apply Kd.qb)); exact Kd.ZX HO107.out (fun _ hk => hk.2)⟩, ⟨by (with_reducible repeat (first | refine zI ?_ _ | refine zK ?_ | refine zH ?_ _)); exact BK101.out⟩, ⟨by repeat (first | (with_reducible first | exact HB.out | apply zC | apply zB | apply zD | refine zF ?_ GE101.out) | exact HB.out)⟩⟩
 case round =>
  clear H'
  try clear c1
  try clear p2
  try clear c6
  try clear hcz6_0
  try clear hfz6_0
  obtain ⟨x3_1, x5_1, rfl, HA, HK1, HO_3, HO_4, BK101, HB⟩ := hrel
  cases gk with
  | zero => exact absurd HA.out (by simp [zf.l0])
  | succ k1 =>
   have H := HA.out
   clear HA
   simp only [zf.l0] at H
   by_cases c8 : x5_1 < (t105.length : Int)
   next =>
    rw [if_pos c8] at H
    have c8b0 : decide (x5_1 < (t105.length : Int)) = true := ygy c8
    clear c8
    by_cases c9 : 0 ≤ x5_1
    next =>
     rw [if_pos c9] at H
     have c9b0 : decide (0 ≤ x5_1) = true := ygy c9
     clear c9
     by_cases c10 : 0 < ((zZ t105 x5_1).length : Int)
     next =>
      rw [if_pos c10] at H
      have c10b0 : decide (0 < ((zZ t105 x5_1).length : Int)) = true := ygy c10
      have c10b1 : decide (0 < (zZ t105 x5_1).length) = true := ygy (by omega)
      clear c10
      by_cases c11 : 1 < ((zZ t105 x5_1).length : Int)
      next =>
       rw [if_pos c11] at H
       have c11b0 : decide (1 < ((zZ t105 x5_1).length : Int)) = true := ygy c11
       have c11b1 : decide (1 < (zZ t105 x5_1).length) = true := ygy (by omega)
       clear c11
       have H' := zA.mk H
       clear H
       obtain ⟨Ao12, co12, eo12⟩ := Kd.Qw HO_4.out
       subst eo12
       have p108 : 0 ≤ (x5_1 : Int) := of_decide_eq_true (by first | (with_reducible assumption) | assumption)
       have q108 : x5_1 < (t105.length : Int) := of_decide_eq_true (by first | (with_reducible assumption) | assumption)
       obtain ⟨ad108, A108_0, c108_0, e108, hx108_0, hl108_0, hi108_0⟩ := zBi (Kd.Zz HO_4.out).2.2 x5_1 p108 q108
       cases e108
       obtain ⟨ce108, hce108, hMe108, hcc108⟩ := Kd.zEe HO_4.out [] x5_1 p108 (by first | exact q108 | exact of_decide_eq_true (by first | (with_reducible assumption) | assumption) | (have e_ := (Kd.Zz HO_4.out).1; omega))
       obtain ⟨ve108_0, rfl, ge108_0⟩ := hMe108
       have hv108_0 := hcc108 0 _ rfl
       rw [Nat.add_zero, show ((Kd.slice 2 (Kd.int .i64))).sz = 1 from rfl, Nat.mul_one] at hv108_0
       replace hv108_0 := yey (hv108_0.symm.trans hx108_0)
       rw [hv108_0] at ge108_0
       have HL108_0 := zA.mk (show Kd.R (Kd.int .i64) 2 _ _ _ _ (zZ t105 x5_1) from ge108_0)
       clear hv108_0 ge108_0
       clear hcc108 hce108
       have HR108_0 := zA.mk hi108_0
       have HC108_0 := zA.mk hl108_0
       clear hi108_0 hl108_0
       replace p108 := eq_true p108
       replace q108 := eq_true q108
       have p109 : 0 ≤ (0 : Int) := (by omega)
       have q109 : 0 < ((zZ t105 x5_1).length : Int) := of_decide_eq_true (by first | (with_reducible assumption) | assumption)
       obtain ⟨ad109, e109, hx109_0⟩ := Kd.ZB (by repeat (first | (with_reducible exact HR108_0.out) | (with_reducible refine Kd.zo ?_ _) | (with_reducible refine Kd.zp ?_ _) | (with_reducible refine Kd.qH ?_) | exact HR108_0.out)) 0 p109 q109
       cases e109
       have qi109 : (0 < (zZ t105 x5_1).length) = True := eq_true (by omega)
       (try rw [show ((0 : Int)).toNat = 0 from rfl] at hx109_0)
       (try rw [Addr.add_zero'] at hx109_0)
       replace p109 := eq_true p109
       replace q109 := eq_true q109
       have p110 : 0 ≤ (x5_1 : Int) := of_decide_eq_true (by first | (with_reducible assumption) | assumption)
       have q110 : x5_1 < (t105.length : Int) := of_decide_eq_true (by first | (with_reducible assumption) | assumption)
       obtain ⟨ad110, A110_0, c110_0, e110, hx110_0, hl110_0, hi110_0⟩ := zBi (Kd.Zz HO_4.out).2.2 x5_1 p110 q110
       obtain rfl : ad108 = ad110 := (by injection e110)
       obtain ⟨ce110, hce110, hMe110, hcc110⟩ := Kd.zEe HO_4.out [] x5_1 p110 (by first | exact q110 | exact of_decide_eq_true (by first | (with_reducible assumption) | assumption) | (have e_ := (Kd.Zz HO_4.out).1; omega))
       obtain ⟨ve110_0, rfl, ge110_0⟩ := hMe110
       have hv110_0 := hcc110 0 _ rfl
       rw [Nat.add_zero, show ((Kd.slice 2 (Kd.int .i64))).sz = 1 from rfl, Nat.mul_one] at hv110_0
       replace hv110_0 := yey (hv110_0.symm.trans hx110_0)
       rw [hv110_0] at ge110_0
       have HL110_0 := zA.mk (show Kd.R (Kd.int .i64) 2 _ _ _ _ (zZ t105 x5_1) from ge110_0)
       clear hv110_0 ge110_0
       clear hcc110 hce110
       have HR110_0 := zA.mk hi110_0
       have HC110_0 := zA.mk hl110_0
       clear hi110_0 hl110_0
       replace p110 := eq_true p110
       replace q110 := eq_true q110
       have ea_ := yey (hx108_0.symm.trans hx110_0)
       injection ea_ with ea_ en_ ec_
       subst ea_
       subst ec_
       clear en_
       have p111 : 0 ≤ (1 : Int) := (by omega)
       have q111 : 1 < ((zZ t105 x5_1).length : Int) := of_decide_eq_true (by first | (with_reducible assumption) | assumption)
       obtain ⟨ad111, e111, hx111_0⟩ := Kd.ZB (by repeat (first | (with_reducible exact HR110_0.out) | (with_reducible refine Kd.zo ?_ _) | (with_reducible refine Kd.zp ?_ _) | (with_reducible refine Kd.qH ?_) | exact HR110_0.out)) 1 p111 q111
       cases e111
       (try simp only [show (1 : Int).toNat = 1 from rfl, Nat.reduceMul, Nat.reduceEqDiff, Go.Addr.add, ↓reduceIte] at hx111_0)
       have qi111 : (1 < (zZ t105 x5_1).length) = True := eq_true (by omega)
       (try rw [show ((1 : Int)).toNat = 1 from rfl] at hx111_0)
       replace p111 := eq_true p111
       replace q111 := eq_true q111
       go_wp2
       go_loopg [3, 8] k1 (fun kq v3 v8 w' => ∃ (x3_2 : List (List Int)) (x8_2 : Int), v8 = .int .i64 x8_2 ∧ zA (zf.l1 kq x3_2 t105 x5_1 (rd (zZ t105 x5_1) 0) (rd (zZ t105 x5_1) 1) x8_2 l0_0 = some r) ∧ zA (kq ≤ k1) ∧ zA (Kd.S (Kd.slice 2 (Kd.int .i64)) 25 w' w.heap.size (fun k_ => some k_ ≠ ((.slice (some ad108) t105.length co12) : Value).ownBlock) v3 x3_2) ∧ zA (Kd.S (Kd.slice 2 (Kd.int .i64)) 25 w' w.heap.size (fun k_ => some k_ ≠ (v3 : Value).ownBlock) (.slice (some ad108) t105.length co12) t105) ∧ zA (w'.heap[gb101]? = some (.cells #[(.slice A0_0 l0_0.length c0_0)] 30 (0, 0))) ∧ zA (Below w.heap.size w w'))
       case atStart => exact ⟨(x3_1), (0), (by first | rfl | (simp; done) | (simp [*]; done)), H', ⟨yqy _⟩, ⟨by (with_reducible repeat (first | apply Kd.qK | apply Kd.qL | apply Kd.qb)); exact HO_3.out⟩, ⟨by (with_reducible repeat (first | apply Kd.qK | apply Kd.qL | apply Kd.qb)); exact HO_4.out⟩, ⟨by (with_reducible repeat (first | refine zI ?_ _ | refine zK ?_ | refine zH ?_ _)); exact BK101.out⟩, ⟨by repeat (first | (with_reducible first | exact HB.out | apply zC | apply zB | apply zD | refine zF ?_ GE101.out) | exact HB.out)⟩⟩
       case round =>
        clear H'
        try clear c1
        try clear p1
        try clear q1
        try clear hx1
        try clear qi1
        try clear p2
        try clear c6
        try clear c8
        try clear c8b0
        try clear c9
        try clear c9b0
        try clear c10
        try clear c10b0
        try clear c10b1
        try clear p10
        try clear q10
        try clear hx10
        try clear qi10
        try clear c11
        try clear c11b0
        try clear c11b1
        try clear p11
        try clear q11
        try clear hx11
        try clear qi11
        try clear hcz6_0
        try clear hfz6_0
        try clear hx108_0
        try clear hx109_0
        try clear hx110_0
        try clear hx111_0
        try clear p108
        try clear p109
        try clear p110
        try clear p111
        try clear p2
        try clear q108
        try clear q109
        try clear q110
        try clear q111
        obtain ⟨x3_2, x8_2, rfl, HA, HK2, HO_3, HO_4, BK101, HB⟩ := hrel
        cases gk with
        | zero => exact absurd HA.out (by simp [zf.l1])
        | succ k2 =>
         have H := HA.out
         clear HA
         simp only [zf.l1] at H
         by_cases c13 : x8_2 < 4
         next =>
          rw [if_pos c13] at H
          have c13b0 : decide (x8_2 < 4) = true := ygy c13
          clear c13
          by_cases c14 : x8_2 = (rd (zZ t105 x5_1) 1)
          next =>
           rw [if_pos c14] at H
           have c14b0 : (x8_2 == (rd (zZ t105 x5_1) 1)) = true := beq_iff_eq.mpr c14
           have c14b1 : (x8_2 != (rd (zZ t105 x5_1) 1)) = false := bne_eq_false_iff_eq.mpr c14
           clear c14
           have H' := zA.mk H
           clear H
           go_wp2
           go_roundg k2
           case measure => have := HK1.out; have := HK2.out; omega
           case rel => exact ⟨(x3_2), (wrap64 (x8_2 + 1)), (by first | rfl | (simp; done) | (simp [*]; done)), H', ⟨by have := HK1.out; have := HK2.out; omega⟩, ⟨by (with_reducible repeat (first | apply Kd.qK | apply Kd.qL | apply Kd.qb)); exact HO_3.out⟩, ⟨by (with_reducible repeat (first | apply Kd.qK | apply Kd.qL | apply Kd.qb)); exact HO_4.out⟩, ⟨by (with_reducible repeat (first | refine zI ?_ _ | refine zK ?_ | refine zH ?_ _)); exact BK101.out⟩, ⟨by repeat (first | (with_reducible first | exact HB.out | apply zC | apply zB | apply zD | refine zF ?_ GE101.out) | exact HB.out)⟩⟩
          next =>
           rw [if_neg c14] at H
           have c14b0 : (x8_2 == (rd (zZ t105 x5_1) 1)) = false := beq_eq_false_iff_ne.mpr c14
           have c14b1 : (x8_2 != (rd (zZ t105 x5_1) 1)) = true := bne_iff_ne.mpr c14
           replace H := ydy.mp H
           obtain ⟨t112, A150, H⟩ := H
           replace H : (if 0 ≤ (wrap64 (7 * t112)) then (if (wrap64 (7 * t112) : Int).toNat ≤ 35184372088832 then ((some (List.replicate (wrap64 (7 * t112) : Int).toNat 0 : List Int)).bind fun y113 => ((qW.f k2 l0_0 (rd (zZ t105 x5_1) 0) (rd (zZ t105 x5_1) 1) x8_2).bind fun bt116 => (if 0 ≤ (wrap64 ((wrap64 (7 * (rd (zZ t105 x5_1) 0))) + x8_2)) then (if (wrap64 ((wrap64 (7 * (rd (zZ t105 x5_1) 0))) + x8_2)) < (y113.length : Int) then ((some (y113.set ((wrap64 ((wrap64 (7 * (rd (zZ t105 x5_1) 0))) + x8_2)) : Int).toNat (wrap64 ((rd y113 (wrap64 ((wrap64 (7 * (rd (zZ t105 x5_1) 0))) + x8_2))) + 1)) : List Int)).bind fun y120 => ((qC.f (rd (zZ t105 x5_1) 1) x8_2).bind fun t121 => (if 0 ≤ (wrap64 ((wrap64 ((wrap64 (7 * (rd (zZ t105 x5_1) 0))) + 4)) + t121)) then (if (wrap64 ((wrap64 ((wrap64 (7 * (rd (zZ t105 x5_1) 0))) + 4)) + t121)) < (y113.length : Int) then ((some (y120.set ((wrap64 ((wrap64 ((wrap64 (7 * (rd (zZ t105 x5_1) 0))) + 4)) + t121)) : Int).toNat (wrap64 ((rd y120 (wrap64 ((wrap64 ((wrap64 (7 * (rd (zZ t105 x5_1) 0))) + 4)) + t121))) + 1)) : List Int)).bind fun y123 => (if 0 ≤ (wrap64 ((wrap64 (7 * bt116.1)) + bt116.2.2)) then (if (wrap64 ((wrap64 (7 * bt116.1)) + bt116.2.2)) < (y113.length : Int) then ((some (y123.set ((wrap64 ((wrap64 (7 * bt116.1)) + bt116.2.2)) : Int).toNat (wrap64 ((rd y123 (wrap64 ((wrap64 (7 * bt116.1)) + bt116.2.2))) - 1)) : List Int)).bind fun y125 => ((qC.f bt116.2.1 bt116.2.2).bind fun t126 => (if 0 ≤ (wrap64 ((wrap64 ((wrap64 (7 * bt116.1)) + 4)) + t126)) then (if (wrap64 ((wrap64 ((wrap64 (7 * bt116.1)) + 4)) + t126)) < (y113.length : Int) then (if x3_2.length < 5864062014805 then (zf.l1 k2 (x3_2 ++ [(y125.set ((wrap64 ((wrap64 ((wrap64 (7 * bt116.1)) + 4)) + t126)) : Int).toNat (wrap64 ((rd y125 (wrap64 ((wrap64 ((wrap64 (7 * bt116.1)) + 4)) + t126))) - 1)))]) t105 x5_1 (rd (zZ t105 x5_1) 0) (rd (zZ t105 x5_1) 1) (wrap64 (x8_2 + 1)) l0_0) else (none)) else (none)) else (none)))) else (none)) else (none))) else (none)) else (none)))) else (none)) else (none)))) else (none)) else (none)) = some r := H
           have A15 := zA.mk A150
           clear A150
           obtain ⟨ji16, hji16⟩ : ∃ j_ : Int, (wrap64 (7 * t112)) = j_ := ⟨_, rfl⟩
           replace H : (if 0 ≤ (ji16) then (if (ji16 : Int).toNat ≤ 35184372088832 then ((some (List.replicate (ji16 : Int).toNat 0 : List Int)).bind fun y113 => ((qW.f k2 l0_0 (rd (zZ t105 x5_1) 0) (rd (zZ t105 x5_1) 1) x8_2).bind fun bt116 => (if 0 ≤ (wrap64 ((wrap64 (7 * (rd (zZ t105 x5_1) 0))) + x8_2)) then (if (wrap64 ((wrap64 (7 * (rd (zZ t105 x5_1) 0))) + x8_2)) < (y113.length : Int) then ((some (y113.set ((wrap64 ((wrap64 (7 * (rd (zZ t105 x5_1) 0))) + x8_2)) : Int).toNat (wrap64 ((rd y113 (wrap64 ((wrap64 (7 * (rd (zZ t105 x5_1) 0))) + x8_2))) + 1)) : List Int)).bind fun y120 => ((qC.f (rd (zZ t105 x5_1) 1) x8_2).bind fun t121 => (if 0 ≤ (wrap64 ((wrap64 ((wrap64 (7 * (rd (zZ t105 x5_1) 0))) + 4)) + t121)) then (if (wrap64 ((wrap64 ((wrap64 (7 * (rd (zZ t105 x5_1) 0))) + 4)) + t121)) < (y113.length : Int) then ((some (y120.set ((wrap64 ((wrap64 ((wrap64 (7 * (rd (zZ t105 x5_1) 0))) + 4)) + t121)) : Int).toNat (wrap64 ((rd y120 (wrap64 ((wrap64 ((wrap64 (7 * (rd (zZ t105 x5_1) 0))) + 4)) + t121))) + 1)) : List Int)).bind fun y123 => (if 0 ≤ (wrap64 ((wrap64 (7 * bt116.1)) + bt116.2.2)) then (if (wrap64 ((wrap64 (7 * bt116.1)) + bt116.2.2)) < (y113.length : Int) then ((some (y123.set ((wrap64 ((wrap64 (7 * bt116.1)) + bt116.2.2)) : Int).toNat (wrap64 ((rd y123 (wrap64 ((wrap64 (7 * bt116.1)) + bt116.2.2))) - 1)) : List Int)).bind fun y125 => ((qC.f bt116.2.1 bt116.2.2).bind fun t126 => (if 0 ≤ (wrap64 ((wrap64 ((wrap64 (7 * bt116.1)) + 4)) + t126)) then (if (wrap64 ((wrap64 ((wrap64 (7 * bt116.1)) + 4)) + t126)) < (y113.length : Int) then (if x3_2.length < 5864062014805 then (zf.l1 k2 (x3_2 ++ [(y125.set ((wrap64 ((wrap64 ((wrap64 (7 * bt116.1)) + 4)) + t126)) : Int).toNat (wrap64 ((rd y125 (wrap64 ((wrap64 ((wrap64 (7 * bt116.1)) + 4)) + t126))) - 1)))]) t105 x5_1 (rd (zZ t105 x5_1) 0) (rd (zZ t105 x5_1) 1) (wrap64 (x8_2 + 1)) l0_0) else (none)) else (none)) else (none)))) else (none)) else (none))) else (none)) else (none)))) else (none)) else (none)))) else (none)) else (none)) = some r := by first | (rw [hji16] at H; exact H) | (simp only [hji16] at H ⊢; exact H)
           (try rw [hji16] at A15)
           have hji16w : (IntKind.i64.wrap (7 * t112)) = ji16 := (zV _).trans hji16
           by_cases c17 : 0 ≤ (ji16)
           next =>
            rw [if_pos c17] at H
            have c17b0 := eq_true c17
            have c17b1 : decide (0 ≤ (ji16)) = true := ygy c17
            clear c17
            by_cases c18 : (ji16 : Int).toNat ≤ 35184372088832
            next =>
             rw [if_pos c18] at H
             have c18b0 := eq_true c18
             have c18b1 : decide ((ji16 : Int).toNat ≤ 35184372088832) = true := ygy c18
             clear c18
             obtain ⟨y113, hy113⟩ : ∃ y_ : List Int, y_ = (List.replicate (ji16 : Int).toNat 0) := ⟨_, rfl⟩
             replace H : ((qW.f k2 l0_0 (rd (zZ t105 x5_1) 0) (rd (zZ t105 x5_1) 1) x8_2).bind fun bt116 => (if 0 ≤ (wrap64 ((wrap64 (7 * (rd (zZ t105 x5_1) 0))) + x8_2)) then (if (wrap64 ((wrap64 (7 * (rd (zZ t105 x5_1) 0))) + x8_2)) < (y113.length : Int) then ((some (y113.set ((wrap64 ((wrap64 (7 * (rd (zZ t105 x5_1) 0))) + x8_2)) : Int).toNat (wrap64 ((rd y113 (wrap64 ((wrap64 (7 * (rd (zZ t105 x5_1) 0))) + x8_2))) + 1)) : List Int)).bind fun y120 => ((qC.f (rd (zZ t105 x5_1) 1) x8_2).bind fun t121 => (if 0 ≤ (wrap64 ((wrap64 ((wrap64 (7 * (rd (zZ t105 x5_1) 0))) + 4)) + t121)) then (if (wrap64 ((wrap64 ((wrap64 (7 * (rd (zZ t105 x5_1) 0))) + 4)) + t121)) < (y113.length : Int) then ((some (y120.set ((wrap64 ((wrap64 ((wrap64 (7 * (rd (zZ t105 x5_1) 0))) + 4)) + t121)) : Int).toNat (wrap64 ((rd y120 (wrap64 ((wrap64 ((wrap64 (7 * (rd (zZ t105 x5_1) 0))) + 4)) + t121))) + 1)) : List Int)).bind fun y123 => (if 0 ≤ (wrap64 ((wrap64 (7 * bt116.1)) + bt116.2.2)) then (if (wrap64 ((wrap64 (7 * bt116.1)) + bt116.2.2)) < (y113.length : Int) then ((some (y123.set ((wrap64 ((wrap64 (7 * bt116.1)) + bt116.2.2)) : Int).toNat (wrap64 ((rd y123 (wrap64 ((wrap64 (7 * bt116.1)) + bt116.2.2))) - 1)) : List Int)).bind fun y125 => ((qC.f bt116.2.1 bt116.2.2).bind fun t126 => (if 0 ≤ (wrap64 ((wrap64 ((wrap64 (7 * bt116.1)) + 4)) + t126)) then (if (wrap64 ((wrap64 ((wrap64 (7 * bt116.1)) + 4)) + t126)) < (y113.length : Int) then (if x3_2.length < 5864062014805 then (zf.l1 k2 (x3_2 ++ [(y125.set ((wrap64 ((wrap64 ((wrap64 (7 * bt116.1)) + 4)) + t126)) : Int).toNat (wrap64 ((rd y125 (wrap64 ((wrap64 ((wrap64 (7 * bt116.1)) + 4)) + t126))) - 1)))]) t105 x5_1 (rd (zZ t105 x5_1) 0) (rd (zZ t105 x5_1) 1) (wrap64 (x8_2 + 1)) l0_0) else (none)) else (none)) else (none)))) else (none)) else (none))) else (none)) else (none)))) else (none)) else (none))) = some r := by first | (rw [hy113]; with_reducible exact H) | (have H2_ := (yfy _ _).symm.trans H; rw [hy113]; with_reducible exact H2_) | (have H2_ := (yfy _ _).symm.trans H; with_reducible exact H2_) | with_reducible exact H | (rw [hy113]; exact H) | exact H
             have Ny113 := zA.mk hy113
             clear hy113
             replace H := ydy.mp H
             obtain ⟨⟨t116, t117, t118⟩, A190, H⟩ := H
             replace H : (if 0 ≤ (wrap64 ((wrap64 (7 * (rd (zZ t105 x5_1) 0))) + x8_2)) then (if (wrap64 ((wrap64 (7 * (rd (zZ t105 x5_1) 0))) + x8_2)) < (y113.length : Int) then ((some (y113.set ((wrap64 ((wrap64 (7 * (rd (zZ t105 x5_1) 0))) + x8_2)) : Int).toNat (wrap64 ((rd y113 (wrap64 ((wrap64 (7 * (rd (zZ t105 x5_1) 0))) + x8_2))) + 1)) : List Int)).bind fun y120 => ((qC.f (rd (zZ t105 x5_1) 1) x8_2).bind fun t121 => (if 0 ≤ (wrap64 ((wrap64 ((wrap64 (7 * (rd (zZ t105 x5_1) 0))) + 4)) + t121)) then (if (wrap64 ((wrap64 ((wrap64 (7 * (rd (zZ t105 x5_1) 0))) + 4)) + t121)) < (y113.length : Int) then ((some (y120.set ((wrap64 ((wrap64 ((wrap64 (7 * (rd (zZ t105 x5_1) 0))) + 4)) + t121)) : Int).toNat (wrap64 ((rd y120 (wrap64 ((wrap64 ((wrap64 (7 * (rd (zZ t105 x5_1) 0))) + 4)) + t121))) + 1)) : List Int)).bind fun y123 => (if 0 ≤ (wrap64 ((wrap64 (7 * t116)) + t118)) then (if (wrap64 ((wrap64 (7 * t116)) + t118)) < (y113.length : Int) then ((some (y123.set ((wrap64 ((wrap64 (7 * t116)) + t118)) : Int).toNat (wrap64 ((rd y123 (wrap64 ((wrap64 (7 * t116)) + t118))) - 1)) : List Int)).bind fun y125 => ((qC.f t117 t118).bind fun t126 => (if 0 ≤ (wrap64 ((wrap64 ((wrap64 (7 * t116)) + 4)) + t126)) then (if (wrap64 ((wrap64 ((wrap64 (7 * t116)) + 4)) + t126)) < (y113.length : Int) then (if x3_2.length < 5864062014805 then (zf.l1 k2 (x3_2 ++ [(y125.set ((wrap64 ((wrap64 ((wrap64 (7 * t116)) + 4)) + t126)) : Int).toNat (wrap64 ((rd y125 (wrap64 ((wrap64 ((wrap64 (7 * t116)) + 4)) + t126))) - 1)))]) t105 x5_1 (rd (zZ t105 x5_1) 0) (rd (zZ t105 x5_1) 1) (wrap64 (x8_2 + 1)) l0_0) else (none)) else (none)) else (none)))) else (none)) else (none))) else (none)) else (none)))) else (none)) else (none)) = some r := H
             have A19 := zA.mk A190
             clear A190
             obtain ⟨ji20, hji20⟩ : ∃ j_ : Int, (wrap64 ((wrap64 (7 * (rd (zZ t105 x5_1) 0))) + x8_2)) = j_ := ⟨_, rfl⟩
             replace H : (if 0 ≤ (ji20) then (if (ji20) < (y113.length : Int) then ((some (y113.set ((ji20) : Int).toNat (wrap64 ((rd y113 (ji20)) + 1)) : List Int)).bind fun y120 => ((qC.f (rd (zZ t105 x5_1) 1) x8_2).bind fun t121 => (if 0 ≤ (wrap64 ((wrap64 ((wrap64 (7 * (rd (zZ t105 x5_1) 0))) + 4)) + t121)) then (if (wrap64 ((wrap64 ((wrap64 (7 * (rd (zZ t105 x5_1) 0))) + 4)) + t121)) < (y113.length : Int) then ((some (y120.set ((wrap64 ((wrap64 ((wrap64 (7 * (rd (zZ t105 x5_1) 0))) + 4)) + t121)) : Int).toNat (wrap64 ((rd y120 (wrap64 ((wrap64 ((wrap64 (7 * (rd (zZ t105 x5_1) 0))) + 4)) + t121))) + 1)) : List Int)).bind fun y123 => (if 0 ≤ (wrap64 ((wrap64 (7 * t116)) + t118)) then (if (wrap64 ((wrap64 (7 * t116)) + t118)) < (y113.length : Int) then ((some (y123.set ((wrap64 ((wrap64 (7 * t116)) + t118)) : Int).toNat (wrap64 ((rd y123 (wrap64 ((wrap64 (7 * t116)) + t118))) - 1)) : List Int)).bind fun y125 => ((qC.f t117 t118).bind fun t126 => (if 0 ≤ (wrap64 ((wrap64 ((wrap64 (7 * t116)) + 4)) + t126)) then (if (wrap64 ((wrap64 ((wrap64 (7 * t116)) + 4)) + t126)) < (y113.length : Int) then (if x3_2.length < 5864062014805 then (zf.l1 k2 (x3_2 ++ [(y125.set ((wrap64 ((wrap64 ((wrap64 (7 * t116)) + 4)) + t126)) : Int).toNat (wrap64 ((rd y125 (wrap64 ((wrap64 ((wrap64 (7 * t116)) + 4)) + t126))) - 1)))]) t105 x5_1 (rd (zZ t105 x5_1) 0) (rd (zZ t105 x5_1) 1) (wrap64 (x8_2 + 1)) l0_0) else (none)) else (none)) else (none)))) else (none)) else (none))) else (none)) else (none)))) else (none)) else (none)) = some r := by first | (rw [hji20] at H; exact H) | (simp only [hji20] at H ⊢; exact H)
             (try rw [hji20] at A15)
             (try rw [hji20] at A19)
             have hji20w : (IntKind.i64.wrap ((wrap64 (7 * (rd (zZ t105 x5_1) 0))) + x8_2)) = ji20 := (zV _).trans hji20
             by_cases c21 : 0 ≤ (ji20)
             next =>
              rw [if_pos c21] at H
              have c21b0 : decide (0 ≤ (ji20)) = true := ygy c21
              clear c21
              by_cases c22 : (ji20) < (y113.length : Int)
              next =>
               rw [if_pos c22] at H
               have c22b0 : decide ((ji20) < (y113.length : Int)) = true := ygy c22
               clear c22
               obtain ⟨y120, hy120⟩ : ∃ y_ : List Int, y_ = (y113.set ((ji20) : Int).toNat (wrap64 ((rd y113 (ji20)) + 1))) := ⟨_, rfl⟩
               replace H : ((qC.f (rd (zZ t105 x5_1) 1) x8_2).bind fun t121 => (if 0 ≤ (wrap64 ((wrap64 ((wrap64 (7 * (rd (zZ t105 x5_1) 0))) + 4)) + t121)) then (if (wrap64 ((wrap64 ((wrap64 (7 * (rd (zZ t105 x5_1) 0))) + 4)) + t121)) < (y113.length : Int) then ((some (y120.set ((wrap64 ((wrap64 ((wrap64 (7 * (rd (zZ t105 x5_1) 0))) + 4)) + t121)) : Int).toNat (wrap64 ((rd y120 (wrap64 ((wrap64 ((wrap64 (7 * (rd (zZ t105 x5_1) 0))) + 4)) + t121))) + 1)) : List Int)).bind fun y123 => (if 0 ≤ (wrap64 ((wrap64 (7 * t116)) + t118)) then (if (wrap64 ((wrap64 (7 * t116)) + t118)) < (y113.length : Int) then ((some (y123.set ((wrap64 ((wrap64 (7 * t116)) + t118)) : Int).toNat (wrap64 ((rd y123 (wrap64 ((wrap64 (7 * t116)) + t118))) - 1)) : List Int)).bind fun y125 => ((qC.f t117 t118).bind fun t126 => (if 0 ≤ (wrap64 ((wrap64 ((wrap64 (7 * t116)) + 4)) + t126)) then (if (wrap64 ((wrap64 ((wrap64 (7 * t116)) + 4)) + t126)) < (y113.length : Int) then (if x3_2.length < 5864062014805 then (zf.l1 k2 (x3_2 ++ [(y125.set ((wrap64 ((wrap64 ((wrap64 (7 * t116)) + 4)) + t126)) : Int).toNat (wrap64 ((rd y125 (wrap64 ((wrap64 ((wrap64 (7 * t116)) + 4)) + t126))) - 1)))]) t105 x5_1 (rd (zZ t105 x5_1) 0) (rd (zZ t105 x5_1) 1) (wrap64 (x8_2 + 1)) l0_0) else (none)) else (none)) else (none)))) else (none)) else (none))) else (none)) else (none))) = some r := by first | (rw [hy120]; with_reducible exact H) | (have H2_ := (yfy _ _).symm.trans H; rw [hy120]; with_reducible exact H2_) | (have H2_ := (yfy _ _).symm.trans H; with_reducible exact H2_) | with_reducible exact H | (rw [hy120]; exact H) | exact H
               have Ny120 := zA.mk hy120
               clear hy120
               replace H := ydy.mp H
               obtain ⟨t121, A240, H⟩ := H
               replace H : (if 0 ≤ (wrap64 ((wrap64 ((wrap64 (7 * (rd (zZ t105 x5_1) 0))) + 4)) + t121)) then (if (wrap64 ((wrap64 ((wrap64 (7 * (rd (zZ t105 x5_1) 0))) + 4)) + t121)) < (y113.length : Int) then ((some (y120.set ((wrap64 ((wrap64 ((wrap64 (7 * (rd (zZ t105 x5_1) 0))) + 4)) + t121)) : Int).toNat (wrap64 ((rd y120 (wrap64 ((wrap64 ((wrap64 (7 * (rd (zZ t105 x5_1) 0))) + 4)) + t121))) + 1)) : List Int)).bind fun y123 => (if 0 ≤ (wrap64 ((wrap64 (7 * t116)) + t118)) then (if (wrap64 ((wrap64 (7 * t116)) + t118)) < (y113.length : Int) then ((some (y123.set ((wrap64 ((wrap64 (7 * t116)) + t118)) : Int).toNat (wrap64 ((rd y123 (wrap64 ((wrap64 (7 * t116)) + t118))) - 1)) : List Int)).bind fun y125 => ((qC.f t117 t118).bind fun t126 => (if 0 ≤ (wrap64 ((wrap64 ((wrap64 (7 * t116)) + 4)) + t126)) then (if (wrap64 ((wrap64 ((wrap64 (7 * t116)) + 4)) + t126)) < (y113.length : Int) then (if x3_2.length < 5864062014805 then (zf.l1 k2 (x3_2 ++ [(y125.set ((wrap64 ((wrap64 ((wrap64 (7 * t116)) + 4)) + t126)) : Int).toNat (wrap64 ((rd y125 (wrap64 ((wrap64 ((wrap64 (7 * t116)) + 4)) + t126))) - 1)))]) t105 x5_1 (rd (zZ t105 x5_1) 0) (rd (zZ t105 x5_1) 1) (wrap64 (x8_2 + 1)) l0_0) else (none)) else (none)) else (none)))) else (none)) else (none))) else (none)) else (none)) = some r := H
               have A24 := zA.mk A240
               clear A240
               obtain ⟨ji25, hji25⟩ : ∃ j_ : Int, (wrap64 ((wrap64 ((wrap64 (7 * (rd (zZ t105 x5_1) 0))) + 4)) + t121)) = j_ := ⟨_, rfl⟩
               replace H : (if 0 ≤ (ji25) then (if (ji25) < (y113.length : Int) then ((some (y120.set ((ji25) : Int).toNat (wrap64 ((rd y120 (ji25)) + 1)) : List Int)).bind fun y123 => (if 0 ≤ (wrap64 ((wrap64 (7 * t116)) + t118)) then (if (wrap64 ((wrap64 (7 * t116)) + t118)) < (y113.length : Int) then ((some (y123.set ((wrap64 ((wrap64 (7 * t116)) + t118)) : Int).toNat (wrap64 ((rd y123 (wrap64 ((wrap64 (7 * t116)) + t118))) - 1)) : List Int)).bind fun y125 => ((qC.f t117 t118).bind fun t126 => (if 0 ≤ (wrap64 ((wrap64 ((wrap64 (7 * t116)) + 4)) + t126)) then (if (wrap64 ((wrap64 ((wrap64 (7 * t116)) + 4)) + t126)) < (y113.length : Int) then (if x3_2.length < 5864062014805 then (zf.l1 k2 (x3_2 ++ [(y125.set ((wrap64 ((wrap64 ((wrap64 (7 * t116)) + 4)) + t126)) : Int).toNat (wrap64 ((rd y125 (wrap64 ((wrap64 ((wrap64 (7 * t116)) + 4)) + t126))) - 1)))]) t105 x5_1 (rd (zZ t105 x5_1) 0) (rd (zZ t105 x5_1) 1) (wrap64 (x8_2 + 1)) l0_0) else (none)) else (none)) else (none)))) else (none)) else (none))) else (none)) else (none)) = some r := by first | (rw [hji25] at H; exact H) | (simp only [hji25] at H ⊢; exact H)
               (try rw [hji25] at A15)
               (try rw [hji25] at A19)
               (try rw [hji25] at A24)
               have hji25w : (IntKind.i64.wrap ((wrap64 ((wrap64 (7 * (rd (zZ t105 x5_1) 0))) + 4)) + t121)) = ji25 := (zV _).trans hji25
               by_cases c26 : 0 ≤ (ji25)
               next =>
                rw [if_pos c26] at H
                have c26b0 : decide (0 ≤ (ji25)) = true := ygy c26
                clear c26
                by_cases c27 : (ji25) < (y113.length : Int)
                next =>
                 rw [if_pos c27] at H
                 have c27b0 : decide ((ji25) < (y113.length : Int)) = true := ygy c27
                 clear c27
                 obtain ⟨y123, hy123⟩ : ∃ y_ : List Int, y_ = (y120.set ((ji25) : Int).toNat (wrap64 ((rd y120 (ji25)) + 1))) := ⟨_, rfl⟩
                 replace H : (if 0 ≤ (wrap64 ((wrap64 (7 * t116)) + t118)) then (if (wrap64 ((wrap64 (7 * t116)) + t118)) < (y113.length : Int) then ((some (y123.set ((wrap64 ((wrap64 (7 * t116)) + t118)) : Int).toNat (wrap64 ((rd y123 (wrap64 ((wrap64 (7 * t116)) + t118))) - 1)) : List Int)).bind fun y125 => ((qC.f t117 t118).bind fun t126 => (if 0 ≤ (wrap64 ((wrap64 ((wrap64 (7 * t116)) + 4)) + t126)) then (if (wrap64 ((wrap64 ((wrap64 (7 * t116)) + 4)) + t126)) < (y113.length : Int) then (if x3_2.length < 5864062014805 then (zf.l1 k2 (x3_2 ++ [(y125.set ((wrap64 ((wrap64 ((wrap64 (7 * t116)) + 4)) + t126)) : Int).toNat (wrap64 ((rd y125 (wrap64 ((wrap64 ((wrap64 (7 * t116)) + 4)) + t126))) - 1)))]) t105 x5_1 (rd (zZ t105 x5_1) 0) (rd (zZ t105 x5_1) 1) (wrap64 (x8_2 + 1)) l0_0) else (none)) else (none)) else (none)))) else (none)) else (none)) = some r := by first | (rw [hy123]; with_reducible exact H) | (have H2_ := (yfy _ _).symm.trans H; rw [hy123]; with_reducible exact H2_) | (have H2_ := (yfy _ _).symm.trans H; with_reducible exact H2_) | with_reducible exact H | (rw [hy123]; exact H) | exact H
                 have Ny123 := zA.mk hy123
                 clear hy123
                 obtain ⟨ji29, hji29⟩ : ∃ j_ : Int, (wrap64 ((wrap64 (7 * t116)) + t118)) = j_ := ⟨_, rfl⟩
                 replace H : (if 0 ≤ (ji29) then (if (ji29) < (y113.length : Int) then ((some (y123.set ((ji29) : Int).toNat (wrap64 ((rd y123 (ji29)) - 1)) : List Int)).bind fun y125 => ((qC.f t117 t118).bind fun t126 => (if 0 ≤ (wrap64 ((wrap64 ((wrap64 (7 * t116)) + 4)) + t126)) then (if (wrap64 ((wrap64 ((wrap64 (7 * t116)) + 4)) + t126)) < (y113.length : Int) then (if x3_2.length < 5864062014805 then (zf.l1 k2 (x3_2 ++ [(y125.set ((wrap64 ((wrap64 ((wrap64 (7 * t116)) + 4)) + t126)) : Int).toNat (wrap64 ((rd y125 (wrap64 ((wrap64 ((wrap64 (7 * t116)) + 4)) + t126))) - 1)))]) t105 x5_1 (rd (zZ t105 x5_1) 0) (rd (zZ t105 x5_1) 1) (wrap64 (x8_2 + 1)) l0_0) else (none)) else (none)) else (none)))) else (none)) else (none)) = some r := by first | (rw [hji29] at H; exact H) | (simp only [hji29] at H ⊢; exact H)
                 (try rw [hji29] at A15)
                 (try rw [hji29] at A19)
                 (try rw [hji29] at A24)
                 have hji29w : (IntKind.i64.wrap ((wrap64 (7 * t116)) + t118)) = ji29 := (zV _).trans hji29
                 by_cases c30 : 0 ≤ (ji29)
                 next =>
                  rw [if_pos c30] at H
                  have c30b0 : decide (0 ≤ (ji29)) = true := ygy c30
                  clear c30
                  by_cases c31 : (ji29) < (y113.length : Int)
                  next =>
                   rw [if_pos c31] at H
                   have c31b0 : decide ((ji29) < (y113.length : Int)) = true := ygy c31
                   clear c31
                   obtain ⟨y125, hy125⟩ : ∃ y_ : List Int, y_ = (y123.set ((ji29) : Int).toNat (wrap64 ((rd y123 (ji29)) - 1))) := ⟨_, rfl⟩
                   replace H : ((qC.f t117 t118).bind fun t126 => (if 0 ≤ (wrap64 ((wrap64 ((wrap64 (7 * t116)) + 4)) + t126)) then (if (wrap64 ((wrap64 ((wrap64 (7 * t116)) + 4)) + t126)) < (y113.length : Int) then (if x3_2.length < 5864062014805 then (zf.l1 k2 (x3_2 ++ [(y125.set ((wrap64 ((wrap64 ((wrap64 (7 * t116)) + 4)) + t126)) : Int).toNat (wrap64 ((rd y125 (wrap64 ((wrap64 ((wrap64 (7 * t116)) + 4)) + t126))) - 1)))]) t105 x5_1 (rd (zZ t105 x5_1) 0) (rd (zZ t105 x5_1) 1) (wrap64 (x8_2 + 1)) l0_0) else (none)) else (none)) else (none))) = some r := by first | (rw [hy125]; with_reducible exact H) | (have H2_ := (yfy _ _).symm.trans H; rw [hy125]; with_reducible exact H2_) | (have H2_ := (yfy _ _).symm.trans H; with_reducible exact H2_) | with_reducible exact H | (rw [hy125]; exact H) | exact H
                   have Ny125 := zA.mk hy125
                   clear hy125
                   replace H := ydy.mp H
                   obtain ⟨t126, A330, H⟩ := H
                   replace H : (if 0 ≤ (wrap64 ((wrap64 ((wrap64 (7 * t116)) + 4)) + t126)) then (if (wrap64 ((wrap64 ((wrap64 (7 * t116)) + 4)) + t126)) < (y113.length : Int) then (if x3_2.length < 5864062014805 then (zf.l1 k2 (x3_2 ++ [(y125.set ((wrap64 ((wrap64 ((wrap64 (7 * t116)) + 4)) + t126)) : Int).toNat (wrap64 ((rd y125 (wrap64 ((wrap64 ((wrap64 (7 * t116)) + 4)) + t126))) - 1)))]) t105 x5_1 (rd (zZ t105 x5_1) 0) (rd (zZ t105 x5_1) 1) (wrap64 (x8_2 + 1)) l0_0) else (none)) else (none)) else (none)) = some r := H
                   have A33 := zA.mk A330
                   clear A330
                   obtain ⟨ji34, hji34⟩ : ∃ j_ : Int, (wrap64 ((wrap64 ((wrap64 (7 * t116)) + 4)) + t126)) = j_ := ⟨_, rfl⟩
                   replace H : (if 0 ≤ (ji34) then (if (ji34) < (y113.length : Int) then (if x3_2.length < 5864062014805 then (zf.l1 k2 (x3_2 ++ [(y125.set ((ji34) : Int).toNat (wrap64 ((rd y125 (ji34)) - 1)))]) t105 x5_1 (rd (zZ t105 x5_1) 0) (rd (zZ t105 x5_1) 1) (wrap64 (x8_2 + 1)) l0_0) else (none)) else (none)) else (none)) = some r := by first | (rw [hji34] at H; exact H) | (simp only [hji34] at H ⊢; exact H)
                   (try rw [hji34] at A15)
                   (try rw [hji34] at A19)
                   (try rw [hji34] at A24)
                   (try rw [hji34] at A33)
                   have hji34w : (IntKind.i64.wrap ((wrap64 ((wrap64 (7 * t116)) + 4)) + t126)) = ji34 := (zV _).trans hji34
                   by_cases c35 : 0 ≤ (ji34)
                   next =>
                    rw [if_pos c35] at H
                    have c35b0 : decide (0 ≤ (ji34)) = true := ygy c35
                    clear c35
                    by_cases c36 : (ji34) < (y113.length : Int)
                    next =>
                     rw [if_pos c36] at H
                     have c36b0 : decide ((ji34) < (y113.length : Int)) = true := ygy c36
                     clear c36
                     obtain ⟨y128, hy128⟩ : ∃ y_ : List Int, y_ = (y125.set ((ji34) : Int).toNat (wrap64 ((rd y125 (ji34)) - 1))) := ⟨_, rfl⟩
                     replace H : (if x3_2.length < 5864062014805 then (zf.l1 k2 (x3_2 ++ [y128]) t105 x5_1 (rd (zZ t105 x5_1) 0) (rd (zZ t105 x5_1) 1) (wrap64 (x8_2 + 1)) l0_0) else (none)) = some r := by first | (rw [hy128]; with_reducible exact H) | (have H2_ := (yfy _ _).symm.trans H; rw [hy128]; with_reducible exact H2_) | (have H2_ := (yfy _ _).symm.trans H; with_reducible exact H2_) | with_reducible exact H | (rw [hy128]; exact H) | exact H
                     have Ny128 := zA.mk hy128
                     clear hy128
                     by_cases c38 : x3_2.length < 5864062014805
                     next =>
                      rw [if_pos c38] at H
                      have LMc38 := zA.mk c38
                      clear c38
                      obtain ⟨y129, hy129⟩ : ∃ y_ : List (List Int), y_ = (x3_2 ++ [y128]) := ⟨_, rfl⟩
                      replace H : (zf.l1 k2 y129 t105 x5_1 (rd (zZ t105 x5_1) 0) (rd (zZ t105 x5_1) 1) (wrap64 (x8_2 + 1)) l0_0) = some r := by first | (rw [hy129]; with_reducible exact H) | (have H2_ := (yfy _ _).symm.trans H; rw [hy129]; with_reducible exact H2_) | (have H2_ := (yfy _ _).symm.trans H; with_reducible exact H2_) | with_reducible exact H | (rw [hy129]; exact H) | exact H
                      have Ny129 := zA.mk hy129
                      clear hy129
                      have H' := zA.mk H
                      clear H
                      have hcz39_0 : wr.cell? ⟨gb101, 0, none⟩ = some (.slice A0_0 l0_0.length c0_0) := (zL BK101.out 0).trans rfl
                      have hfz39_0 := zM BK101.out 0
                      go_wp2_with (first | ((with_reducible refine zU (f := 59) rfl ?_); refine qF (some 42) rfl rfl Try.func59 (by kernel_rfl) rfl #[.agg #[.slice A0_0 l0_0.length c0_0]] rfl (by (try simp only [yiy, yjy, yky]); first | done | rfl | (simp only [yly, ymy]; rfl)) ?_; (with_reducible refine (zr.calls _ _ l0_0 t112 _ ?side1 ?side2 A15.out).mono ?_); (case side1 => repeat (first | exact (Kd.zn HR0_0.out HB.out) | (with_reducible refine Kd.zo ?_ _) | (with_reducible refine Kd.zp ?_ _) | (with_reducible refine Kd.qH ?_))); (case side2 => exact HC0_0.out); rintro e w40 ⟨rfl, hb⟩; refine ⟨_, rfl, ?_⟩; have n0_ := zA.mk (Kd.Zw (by (with_reducible repeat (first | apply Kd.qK | apply Kd.qL | apply Kd.qb)); exact HO_3.out) hb); have n1_ := zA.mk (Kd.Zw (by (with_reducible repeat (first | apply Kd.qK | apply Kd.qL | apply Kd.qb)); exact HO_4.out) hb); have n2_ := zA.mk (zP (g := gb101) (o := .cells #[.slice A0_0 l0_0.length c0_0] 30 (0, 0)) (by (with_reducible repeat (first | refine zI ?_ _ | refine zK ?_ | refine zH ?_ _)); exact BK101.out) hb); have n3_ := zA.mk (zN (by repeat (first | (with_reducible first | exact HB.out | apply zC | apply zB | apply zD | refine zF ?_ GE101.out) | exact HB.out)) hb); clear HO_3; clear HO_4; clear BK101; clear HB; have HO_3 := n0_; have HO_4 := n1_; have BK101 := n2_; have HB := n3_; clear n0_ n1_ n2_ n3_; (try clear hb); (try clear hb2); (try clear hk); (try clear hi)) | ((with_reducible refine zj (N := 44) rfl ?_); refine Kd.zC9 (Kd.int .i64) _ 2 rfl (N := 44) rfl 25 _ _ rfl ji16 rfl rfl Try.underlying25 (.int .i64 0) 8 JF rfl (by decide) (by omega) 0 (ok := fun _ => True) (okp := fun _ => True) rfl (fun _ hk => hk) trivial (of_decide_eq_true (by first | (with_reducible assumption) | assumption)) (Nat.le_trans (Nat.mul_le_mul_right _ (of_decide_eq_true (by first | (with_reducible assumption) | assumption) : ji16.toNat ≤ 35184372088832)) (by omega)) (yry _ _) (yqy _) ?_; intro v114 w41 ho42 hb hg_ hnew_; clear hg_ hnew_; (first | rw [← Ny113.out] at ho42 | (simp only [Int.reduceToNat] at ho42; rw [← Ny113.out] at ho42)); have n0_ := zA.mk (Kd.JU (by (with_reducible repeat (first | apply Kd.qK | apply Kd.qL | apply Kd.qb)); exact HO_3.out) (Kd.QT ho42) hb); have n1_ := zA.mk (Kd.JU (by (with_reducible repeat (first | apply Kd.qK | apply Kd.qL | apply Kd.qb)); exact HO_4.out) (Kd.QT ho42) hb); have n2_ := zA.mk (Kd.ZM ho42 (zO (by repeat (first | (with_reducible first | exact HB.out | apply zC | apply zB | apply zD | refine zF ?_ GE101.out) | exact HB.out)))); have n3_ := zA.mk (zP (g := gb101) (o := .cells #[.slice A0_0 l0_0.length c0_0] 30 (0, 0)) (by (with_reducible repeat (first | refine zI ?_ _ | refine zK ?_ | refine zH ?_ _)); exact BK101.out) hb); have n4_ := zA.mk (zN (by repeat (first | (with_reducible first | exact HB.out | apply zC | apply zB | apply zD | refine zF ?_ GE101.out) | exact HB.out)) hb); clear HO_3; clear HO_4; clear BK101; clear HB; have HO_3 := n0_; have HO_4 := n1_; have HO115 := n2_; have BK101 := n3_; have HB := n4_; clear n0_ n1_ n2_ n3_ n4_; clear hb ho42; have hcz43_0 : w41.cell? ⟨gb101, 0, none⟩ = some (.slice A0_0 l0_0.length c0_0) := (zL BK101.out 0).trans rfl; have hfz43_0 := zM BK101.out 0) | ((with_reducible refine zU (f := 103) rfl ?_); refine qF (some 50) rfl rfl Try.func103 (by kernel_rfl) rfl #[.agg #[.slice A0_0 l0_0.length c0_0], .int .i64 (rd (zZ t105 x5_1) 0), .int .i64 (rd (zZ t105 x5_1) 1), .int .i64 x8_2] rfl (by (try simp only [yiy, yjy, yky]); first | done | rfl | (simp only [yly, ymy]; rfl)) ?_; (with_reducible refine (qW.calls k2 _ _ l0_0 (rd (zZ t105 x5_1) 0) (rd (zZ t105 x5_1) 1) x8_2 t116 t117 t118 _ ?side1 ?side2 A19.out).mono ?_); (case side1 => repeat (first | exact (Kd.zn HR0_0.out HB.out) | (with_reducible refine Kd.zo ?_ _) | (with_reducible refine Kd.zp ?_ _) | (with_reducible refine Kd.qH ?_))); (case side2 => exact HC0_0.out); rintro e w44 ⟨rfl, hb⟩; refine ⟨_, rfl, ?_⟩; have n0_ := zA.mk (Kd.Zw (by (with_reducible repeat (first | apply Kd.qK | apply Kd.qL | apply Kd.qb)); exact HO_3.out) hb); have n1_ := zA.mk (Kd.Zw (by (with_reducible repeat (first | apply Kd.qK | apply Kd.qL | apply Kd.qb)); exact HO_4.out) hb); have n2_ := zA.mk (Kd.Zd (by (with_reducible repeat (first | apply Kd.zi | apply Kd.zh | apply Kd.zx)); exact HO115.out) hb); have n3_ := zA.mk (zP (g := gb101) (o := .cells #[.slice A0_0 l0_0.length c0_0] 30 (0, 0)) (by (with_reducible repeat (first | refine zI ?_ _ | refine zK ?_ | refine zH ?_ _)); exact BK101.out) hb); have n4_ := zA.mk (zN (by repeat (first | (with_reducible first | exact HB.out | apply zC | apply zB | apply zD | refine zF ?_ GE101.out) | exact HB.out)) hb); clear HO_3; clear HO_4; clear HO115; clear BK101; clear HB; have HO_3 := n0_; have HO_4 := n1_; have HO115 := n2_; have BK101 := n3_; have HB := n4_; clear n0_ n1_ n2_ n3_ n4_; (try clear hb); (try clear hb2); (try clear hk); (try clear hi); obtain ⟨Ao45, co45, eo45⟩ := Kd.ZU HO115.out; subst eo45; have p119 : 0 ≤ ((ji20) : Int) := of_decide_eq_true (by first | (with_reducible assumption) | assumption); have q119 : (ji20) < (y113.length : Int) := of_decide_eq_true (by first | (with_reducible assumption) | assumption); obtain ⟨ad119, e119, hx119_0⟩ := Kd.ZB (Kd.qE HO115.out).2.2 (ji20) p119 q119; cases e119; replace p119 := eq_true p119; replace q119 := eq_true q119; have p23 : 0 ≤ ((ji20) : Int) := of_decide_eq_true (by first | (with_reducible assumption) | assumption); have q23 : ((ji20) : Int) < ((y113.length : Int) : Int) := of_decide_eq_true (by first | (with_reducible assumption) | assumption); obtain ⟨go23, co23, eo23, gb23, gl23, cl23, HG23⟩ := Kd.Jj HO115.out (by omega); (first | cases eo23 | (injection eo23 with ea_ en_ ec_; (first | subst ea_ | (injection ea_ with ea_; subst ea_)); subst ec_; clear en_)); have GB23 := zA.mk gb23; have GG23 := zA.mk HG23; clear gb23 gl23 HG23; (first | simp only [add_plain] at hx119_0 | skip); obtain ⟨hx23_0, hf23_0⟩ := Kd.Zl 0 HO115.out ((ji20) : Int) p23 q23; replace p23 := eq_true p23; replace q23 := eq_true q23; obtain ⟨hy46_, hz46_⟩ := Kd.Zl 0 HO115.out ((ji20) : Int) (of_decide_eq_true (by first | (with_reducible assumption) | assumption)) (of_decide_eq_true (by first | (with_reducible assumption) | assumption)); have HP46 := Kd.JJ HO115.out ((ji20) : Int) (wrap64 ((rd y113 (ji20)) + 1))) | ((with_reducible refine ZK (t := 2) (p := 62) rfl ?_); refine qy (t := 2) (p := 62) (v := ?vo_w47) (w1 := (w44.setCell ⟨go23, ((ji20) : Int).toNat, none⟩ (.int .i64 (wrap64 ((rd y113 (ji20)) + 1))))) ?hg ?ho ?hn ?hr ?_; (case ho => rfl); (case hg => rfl); (case hn => rfl); (case hr => first | (go_simp; done) | (go_simp; rfl)); intro w47 hw; have hg : w44.grownBy w47 (some go23) := (by rw [hw]; exact HP46.2); have hp_ : Kd.R (Kd.int .i64) 2 w47 w.heap.size (fun _ => True) (.slice (some ⟨go23, 0, none⟩) y113.length co45) y120 := (by rw [hw, Ny120.out]; exact HP46.1); clear HP46; have n0_ := zA.mk (Kd.Qv (v := (.slice (some ⟨go23, 0, none⟩) y113.length co45)) (v1 := (.slice (some ⟨go23, 0, none⟩) y113.length co45)) (ok := (fun k_ => some k_ ≠ (.slice (some ad108) t105.length co12 : Value).ownBlock)) (by (with_reducible repeat (first | apply Kd.qK | apply Kd.qL | apply Kd.qb)); first | exact HO_3.out | exact Kd.ZX HO_3.out (fun _ hk => ⟨hk.2, hk.1⟩) | exact Kd.qR HO_3.out (fun _ hk => ⟨hk.2, hk.1⟩)) hg (.inl rfl)); have n1_ := zA.mk (Kd.Qv (v := (.slice (some ⟨go23, 0, none⟩) y113.length co45)) (v1 := (.slice (some ⟨go23, 0, none⟩) y113.length co45)) (ok := (fun k_ => some k_ ≠ (u3 : Value).ownBlock)) (by (with_reducible repeat (first | apply Kd.qK | apply Kd.qL | apply Kd.qb)); first | exact HO_4.out | exact Kd.ZX HO_4.out (fun _ hk => ⟨hk.2, hk.1⟩) | exact Kd.qR HO_4.out (fun _ hk => ⟨hk.2, hk.1⟩)) hg (.inl rfl)); have n2_ := zA.mk (qm (g := gb101) (o := .cells #[.slice A0_0 l0_0.length c0_0] 30 (0, 0)) (by (with_reducible repeat (first | refine zI ?_ _ | refine zK ?_ | refine zH ?_ _)); exact BK101.out) hg (Kd.R_ne HO115.out BK101.out (by decide))); have n3_ := zA.mk (hp_); have n4_ := zA.mk ((by rw [hw]; exact zF (HB.out) GB23.out : Below w.heap.size w w47)); clear HO_3; clear HO_4; clear BK101; clear HO115; clear HB; have HO_3 := n0_; have HO_4 := n1_; have BK101 := n2_; have HO115 := n3_; have HB := n4_; clear n0_ n1_ n2_ n3_ n4_; clear hg hw hp_) | ((with_reducible refine zU (f := 104) rfl ?_); refine qF (some 69) rfl rfl Try.func104 (by kernel_rfl) rfl #[.int .i64 (rd (zZ t105 x5_1) 1), .int .i64 x8_2] rfl (by (try simp only [yiy, yjy, yky]); first | done | rfl | (simp only [yly, ymy]; rfl)) ?_; (with_reducible refine (qC.calls (rd (zZ t105 x5_1) 1) x8_2 t121 _ A24.out).mono ?_); rintro e w' ⟨rfl, ⟨nd, rfl⟩⟩; refine ⟨_, rfl, ?_⟩; (try (rw [zB8 w47]; generalize hq_ : World.drewN w47 _ = w47; have n0_ : zA (Kd.R (Kd.int .i64) 2 w47 w.heap.size (fun _ => True) (.slice (some ⟨go23, 0, none⟩) y113.length co45) y120) := ⟨by rw [← hq_]; exact (by (with_reducible repeat (first | apply Kd.zi | apply Kd.zh | apply Kd.zx)); exact HO115.out)⟩; have n1_ : zA (Kd.S (Kd.slice 2 (Kd.int .i64)) 25 w47 w.heap.size (fun k_ => some k_ ≠ (.slice (some ⟨go23, 0, none⟩) y113.length co45 : Value).ownBlock ∧ some k_ ≠ (.slice (some ad108) t105.length co12 : Value).ownBlock) u3 x3_2) := ⟨by rw [← hq_]; exact (by (with_reducible repeat (first | apply Kd.qK | apply Kd.qL | apply Kd.qb)); exact Kd.ZX HO_3.out (fun _ hk => ⟨hk.2, hk.1⟩))⟩; have n2_ : zA (Kd.S (Kd.slice 2 (Kd.int .i64)) 25 w47 w.heap.size (fun k_ => some k_ ≠ (.slice (some ⟨go23, 0, none⟩) y113.length co45 : Value).ownBlock ∧ some k_ ≠ (u3 : Value).ownBlock) (.slice (some ad108) t105.length co12) t105) := ⟨by rw [← hq_]; exact (by (with_reducible repeat (first | apply Kd.qK | apply Kd.qL | apply Kd.qb)); exact Kd.ZX HO_4.out (fun _ hk => ⟨hk.2, hk.1⟩))⟩; have n3_ : zA (w47.heap[gb101]? = some (.cells #[.slice A0_0 l0_0.length c0_0] 30 (0, 0))) := ⟨by rw [← hq_]; exact (by (with_reducible repeat (first | refine zI ?_ _ | refine zK ?_ | refine zH ?_ _)); exact BK101.out)⟩; have n4_ : zA (Below w.heap.size w w47) := ⟨by rw [← hq_]; exact (by repeat (first | (with_reducible first | exact HB.out | apply zC | apply zB | apply zD | refine zF ?_ GE101.out) | exact HB.out))⟩; clear HO115 HO_3 HO_4 BK101 HB hq_; have HO115 := n0_; have HO_3 := n1_; have HO_4 := n2_; have BK101 := n3_; have HB := n4_; clear n0_ n1_ n2_ n3_ n4_)); have p122 : 0 ≤ ((ji25) : Int) := of_decide_eq_true (by first | (with_reducible assumption) | assumption); have q122 : (ji25) < (y120.length : Int) := (by have h_ : ((ji25) : Int) < ((y113.length : Int) : Int) := of_decide_eq_true (by first | (with_reducible assumption) | assumption); first | (have e_ := (Kd.qE HO115.out).1; omega) | simpa only [Ny120.out, List.length_set] using h_); have ql122 : (((ji25) : Int) < ((y113.length : Int) : Int)) = True := eq_true (of_decide_eq_true (by first | (with_reducible assumption) | assumption)); obtain ⟨ad122, e122, hx122_0⟩ := Kd.ZB (Kd.qE HO115.out).2.2 (ji25) p122 q122; obtain rfl : (⟨go23, 0, none⟩ : Addr) = ad122 := (by injection e122); (first | simp only [add_plain] at hx122_0 | simp only [zCA] at hx122_0 | simp only [Addr.add, Nat.zero_add] at hx122_0 | skip); replace p122 := eq_true p122; replace q122 := eq_true q122; have p28 : 0 ≤ ((ji25) : Int) := of_decide_eq_true (by first | (with_reducible assumption) | assumption); have q28 : ((ji25) : Int) < ((y113.length : Int) : Int) := of_decide_eq_true (by first | (with_reducible assumption) | assumption); obtain ⟨hx28_0, hf28_0⟩ := Kd.Zl 0 HO115.out ((ji25) : Int) p28 q28; replace p28 := eq_true p28; replace q28 := eq_true q28; obtain ⟨hy48_, hz48_⟩ := Kd.Zl 0 HO115.out ((ji25) : Int) (of_decide_eq_true (by first | (with_reducible assumption) | assumption)) (of_decide_eq_true (by first | (with_reducible assumption) | assumption)); have HP48 := Kd.JJ HO115.out ((ji25) : Int) (wrap64 ((rd y120 (ji25)) + 1))) | ((with_reducible refine ZK (t := 2) (p := 74) rfl ?_); refine qy (t := 2) (p := 74) (v := ?vo_w49) (w1 := (w47.setCell ⟨go23, ((ji25) : Int).toNat, none⟩ (.int .i64 (wrap64 ((rd y120 (ji25)) + 1))))) ?hg ?ho ?hn ?hr ?_; (case ho => rfl); (case hg => rfl); (case hn => rfl); (case hr => first | (go_simp; done) | (go_simp; rfl)); intro w49 hw; have hg : w47.grownBy w49 (some go23) := (by rw [hw]; exact HP48.2); have hp_ : Kd.R (Kd.int .i64) 2 w49 w.heap.size (fun _ => True) (.slice (some ⟨go23, 0, none⟩) y113.length co45) y123 := (by rw [hw, Ny123.out]; exact HP48.1); clear HP48; have n0_ := zA.mk (Kd.Qv (v := (.slice (some ⟨go23, 0, none⟩) y113.length co45)) (v1 := (.slice (some ⟨go23, 0, none⟩) y113.length co45)) (ok := (fun k_ => some k_ ≠ (.slice (some ad108) t105.length co12 : Value).ownBlock)) (by (with_reducible repeat (first | apply Kd.qK | apply Kd.qL | apply Kd.qb)); first | exact HO_3.out | exact Kd.ZX HO_3.out (fun _ hk => ⟨hk.2, hk.1⟩) | exact Kd.qR HO_3.out (fun _ hk => ⟨hk.2, hk.1⟩)) hg (.inl rfl)); have n1_ := zA.mk (Kd.Qv (v := (.slice (some ⟨go23, 0, none⟩) y113.length co45)) (v1 := (.slice (some ⟨go23, 0, none⟩) y113.length co45)) (ok := (fun k_ => some k_ ≠ (u3 : Value).ownBlock)) (by (with_reducible repeat (first | apply Kd.qK | apply Kd.qL | apply Kd.qb)); first | exact HO_4.out | exact Kd.ZX HO_4.out (fun _ hk => ⟨hk.2, hk.1⟩) | exact Kd.qR HO_4.out (fun _ hk => ⟨hk.2, hk.1⟩)) hg (.inl rfl)); have n2_ := zA.mk (qm (g := gb101) (o := .cells #[.slice A0_0 l0_0.length c0_0] 30 (0, 0)) (by (with_reducible repeat (first | refine zI ?_ _ | refine zK ?_ | refine zH ?_ _)); exact BK101.out) hg (Kd.R_ne HO115.out BK101.out (by decide))); have n3_ := zA.mk (hp_); have n4_ := zA.mk ((by rw [hw]; exact zF (HB.out) GB23.out : Below w.heap.size w w49)); clear HO_3; clear HO_4; clear BK101; clear HO115; clear HB; have HO_3 := n0_; have HO_4 := n1_; have BK101 := n2_; have HO115 := n3_; have HB := n4_; clear n0_ n1_ n2_ n3_ n4_; clear hg hw hp_; have p124 : 0 ≤ ((ji29) : Int) := of_decide_eq_true (by first | (with_reducible assumption) | assumption); have q124 : (ji29) < (y123.length : Int) := (by have h_ : ((ji29) : Int) < ((y113.length : Int) : Int) := of_decide_eq_true (by first | (with_reducible assumption) | assumption); first | (have e_ := (Kd.qE HO115.out).1; omega) | simpa only [Ny120.out, Ny123.out, List.length_set] using h_); have ql124 : (((ji29) : Int) < ((y113.length : Int) : Int)) = True := eq_true (of_decide_eq_true (by first | (with_reducible assumption) | assumption)); obtain ⟨ad124, e124, hx124_0⟩ := Kd.ZB (Kd.qE HO115.out).2.2 (ji29) p124 q124; obtain rfl : (⟨go23, 0, none⟩ : Addr) = ad124 := (by injection e124); (first | simp only [add_plain] at hx124_0 | simp only [zCA] at hx124_0 | simp only [Addr.add, Nat.zero_add] at hx124_0 | skip); replace p124 := eq_true p124; replace q124 := eq_true q124; have p32 : 0 ≤ ((ji29) : Int) := of_decide_eq_true (by first | (with_reducible assumption) | assumption); have q32 : ((ji29) : Int) < ((y113.length : Int) : Int) := of_decide_eq_true (by first | (with_reducible assumption) | assumption); obtain ⟨hx32_0, hf32_0⟩ := Kd.Zl 0 HO115.out ((ji29) : Int) p32 q32; replace p32 := eq_true p32; replace q32 := eq_true q32; obtain ⟨hy50_, hz50_⟩ := Kd.Zl 0 HO115.out ((ji29) : Int) (of_decide_eq_true (by first | (with_reducible assumption) | assumption)) (of_decide_eq_true (by first | (with_reducible assumption) | assumption)); have HP50 := Kd.JJ HO115.out ((ji29) : Int) (wrap64 ((rd y123 (ji29)) - 1))) | ((with_reducible refine ZK (t := 2) (p := 83) rfl ?_); refine qy (t := 2) (p := 83) (v := ?vo_w51) (w1 := (w49.setCell ⟨go23, ((ji29) : Int).toNat, none⟩ (.int .i64 (wrap64 ((rd y123 (ji29)) - 1))))) ?hg ?ho ?hn ?hr ?_; (case ho => rfl); (case hg => rfl); (case hn => rfl); (case hr => first | (go_simp; done) | (go_simp; rfl)); intro w51 hw; have hg : w49.grownBy w51 (some go23) := (by rw [hw]; exact HP50.2); have hp_ : Kd.R (Kd.int .i64) 2 w51 w.heap.size (fun _ => True) (.slice (some ⟨go23, 0, none⟩) y113.length co45) y125 := (by rw [hw, Ny125.out]; exact HP50.1); clear HP50; have n0_ := zA.mk (Kd.Qv (v := (.slice (some ⟨go23, 0, none⟩) y113.length co45)) (v1 := (.slice (some ⟨go23, 0, none⟩) y113.length co45)) (ok := (fun k_ => some k_ ≠ (.slice (some ad108) t105.length co12 : Value).ownBlock)) (by (with_reducible repeat (first | apply Kd.qK | apply Kd.qL | apply Kd.qb)); first | exact HO_3.out | exact Kd.ZX HO_3.out (fun _ hk => ⟨hk.2, hk.1⟩) | exact Kd.qR HO_3.out (fun _ hk => ⟨hk.2, hk.1⟩)) hg (.inl rfl)); have n1_ := zA.mk (Kd.Qv (v := (.slice (some ⟨go23, 0, none⟩) y113.length co45)) (v1 := (.slice (some ⟨go23, 0, none⟩) y113.length co45)) (ok := (fun k_ => some k_ ≠ (u3 : Value).ownBlock)) (by (with_reducible repeat (first | apply Kd.qK | apply Kd.qL | apply Kd.qb)); first | exact HO_4.out | exact Kd.ZX HO_4.out (fun _ hk => ⟨hk.2, hk.1⟩) | exact Kd.qR HO_4.out (fun _ hk => ⟨hk.2, hk.1⟩)) hg (.inl rfl)); have n2_ := zA.mk (qm (g := gb101) (o := .cells #[.slice A0_0 l0_0.length c0_0] 30 (0, 0)) (by (with_reducible repeat (first | refine zI ?_ _ | refine zK ?_ | refine zH ?_ _)); exact BK101.out) hg (Kd.R_ne HO115.out BK101.out (by decide))); have n3_ := zA.mk (hp_); have n4_ := zA.mk ((by rw [hw]; exact zF (HB.out) GB23.out : Below w.heap.size w w51)); clear HO_3; clear HO_4; clear BK101; clear HO115; clear HB; have HO_3 := n0_; have HO_4 := n1_; have BK101 := n2_; have HO115 := n3_; have HB := n4_; clear n0_ n1_ n2_ n3_ n4_; clear hg hw hp_) | ((with_reducible refine zU (f := 104) rfl ?_); refine qF (some 90) rfl rfl Try.func104 (by kernel_rfl) rfl #[.int .i64 t117, .int .i64 t118] rfl (by (try simp only [yiy, yjy, yky]); first | done | rfl | (simp only [yly, ymy]; rfl)) ?_; (with_reducible refine (qC.calls t117 t118 t126 _ A33.out).mono ?_); rintro e w' ⟨rfl, ⟨nd, rfl⟩⟩; refine ⟨_, rfl, ?_⟩; (try (rw [zB8 w51]; generalize hq_ : World.drewN w51 _ = w51; have n0_ : zA (Kd.R (Kd.int .i64) 2 w51 w.heap.size (fun _ => True) (.slice (some ⟨go23, 0, none⟩) y113.length co45) y125) := ⟨by rw [← hq_]; exact (by (with_reducible repeat (first | apply Kd.zi | apply Kd.zh | apply Kd.zx)); exact HO115.out)⟩; have n1_ : zA (Kd.S (Kd.slice 2 (Kd.int .i64)) 25 w51 w.heap.size (fun k_ => some k_ ≠ (.slice (some ⟨go23, 0, none⟩) y113.length co45 : Value).ownBlock ∧ some k_ ≠ (.slice (some ad108) t105.length co12 : Value).ownBlock) u3 x3_2) := ⟨by rw [← hq_]; exact (by (with_reducible repeat (first | apply Kd.qK | apply Kd.qL | apply Kd.qb)); exact Kd.ZX HO_3.out (fun _ hk => ⟨hk.2, hk.1⟩))⟩; have n2_ : zA (Kd.S (Kd.slice 2 (Kd.int .i64)) 25 w51 w.heap.size (fun k_ => some k_ ≠ (.slice (some ⟨go23, 0, none⟩) y113.length co45 : Value).ownBlock ∧ some k_ ≠ (u3 : Value).ownBlock) (.slice (some ad108) t105.length co12) t105) := ⟨by rw [← hq_]; exact (by (with_reducible repeat (first | apply Kd.qK | apply Kd.qL | apply Kd.qb)); exact Kd.ZX HO_4.out (fun _ hk => ⟨hk.2, hk.1⟩))⟩; have n3_ : zA (w51.heap[gb101]? = some (.cells #[.slice A0_0 l0_0.length c0_0] 30 (0, 0))) := ⟨by rw [← hq_]; exact (by (with_reducible repeat (first | refine zI ?_ _ | refine zK ?_ | refine zH ?_ _)); exact BK101.out)⟩; have n4_ : zA (Below w.heap.size w w51) := ⟨by rw [← hq_]; exact (by repeat (first | (with_reducible first | exact HB.out | apply zC | apply zB | apply zD | refine zF ?_ GE101.out) | exact HB.out))⟩; clear HO115 HO_3 HO_4 BK101 HB hq_; have HO115 := n0_; have HO_3 := n1_; have HO_4 := n2_; have BK101 := n3_; have HB := n4_; clear n0_ n1_ n2_ n3_ n4_)); have p127 : 0 ≤ ((ji34) : Int) := of_decide_eq_true (by first | (with_reducible assumption) | assumption); have q127 : (ji34) < (y125.length : Int) := (by have h_ : ((ji34) : Int) < ((y113.length : Int) : Int) := of_decide_eq_true (by first | (with_reducible assumption) | assumption); first | (have e_ := (Kd.qE HO115.out).1; omega) | simpa only [Ny120.out, Ny123.out, Ny125.out, List.length_set] using h_); have ql127 : (((ji34) : Int) < ((y113.length : Int) : Int)) = True := eq_true (of_decide_eq_true (by first | (with_reducible assumption) | assumption)); obtain ⟨ad127, e127, hx127_0⟩ := Kd.ZB (Kd.qE HO115.out).2.2 (ji34) p127 q127; obtain rfl : (⟨go23, 0, none⟩ : Addr) = ad127 := (by injection e127); (first | simp only [add_plain] at hx127_0 | simp only [zCA] at hx127_0 | simp only [Addr.add, Nat.zero_add] at hx127_0 | skip); replace p127 := eq_true p127; replace q127 := eq_true q127; have p37 : 0 ≤ ((ji34) : Int) := of_decide_eq_true (by first | (with_reducible assumption) | assumption); have q37 : ((ji34) : Int) < ((y113.length : Int) : Int) := of_decide_eq_true (by first | (with_reducible assumption) | assumption); obtain ⟨hx37_0, hf37_0⟩ := Kd.Zl 0 HO115.out ((ji34) : Int) p37 q37; replace p37 := eq_true p37; replace q37 := eq_true q37; obtain ⟨hy52_, hz52_⟩ := Kd.Zl 0 HO115.out ((ji34) : Int) (of_decide_eq_true (by first | (with_reducible assumption) | assumption)) (of_decide_eq_true (by first | (with_reducible assumption) | assumption)); have HP52 := Kd.JJ HO115.out ((ji34) : Int) (wrap64 ((rd y125 (ji34)) - 1))) | ((with_reducible refine ZK (t := 2) (p := 95) rfl ?_); refine qy (t := 2) (p := 95) (v := ?vo_w53) (w1 := (w51.setCell ⟨go23, ((ji34) : Int).toNat, none⟩ (.int .i64 (wrap64 ((rd y125 (ji34)) - 1))))) ?hg ?ho ?hn ?hr ?_; (case ho => rfl); (case hg => rfl); (case hn => rfl); (case hr => first | (go_simp; done) | (go_simp; rfl)); intro w53 hw; have hg : w51.grownBy w53 (some go23) := (by rw [hw]; exact HP52.2); have hp_ : Kd.R (Kd.int .i64) 2 w53 w.heap.size (fun _ => True) (.slice (some ⟨go23, 0, none⟩) y113.length co45) y128 := (by rw [hw, Ny128.out]; exact HP52.1); clear HP52; have n0_ := zA.mk (Kd.Qv (v := (.slice (some ⟨go23, 0, none⟩) y113.length co45)) (v1 := (.slice (some ⟨go23, 0, none⟩) y113.length co45)) (ok := (fun k_ => some k_ ≠ (.slice (some ad108) t105.length co12 : Value).ownBlock)) (by (with_reducible repeat (first | apply Kd.qK | apply Kd.qL | apply Kd.qb)); first | exact HO_3.out | exact Kd.ZX HO_3.out (fun _ hk => ⟨hk.2, hk.1⟩) | exact Kd.qR HO_3.out (fun _ hk => ⟨hk.2, hk.1⟩)) hg (.inl rfl)); have n1_ := zA.mk (Kd.Qv (v := (.slice (some ⟨go23, 0, none⟩) y113.length co45)) (v1 := (.slice (some ⟨go23, 0, none⟩) y113.length co45)) (ok := (fun k_ => some k_ ≠ (u3 : Value).ownBlock)) (by (with_reducible repeat (first | apply Kd.qK | apply Kd.qL | apply Kd.qb)); first | exact HO_4.out | exact Kd.ZX HO_4.out (fun _ hk => ⟨hk.2, hk.1⟩) | exact Kd.qR HO_4.out (fun _ hk => ⟨hk.2, hk.1⟩)) hg (.inl rfl)); have n2_ := zA.mk (qm (g := gb101) (o := .cells #[.slice A0_0 l0_0.length c0_0] 30 (0, 0)) (by (with_reducible repeat (first | refine zI ?_ _ | refine zK ?_ | refine zH ?_ _)); exact BK101.out) hg (Kd.R_ne HO115.out BK101.out (by decide))); have n3_ := zA.mk (hp_); have n4_ := zA.mk ((by rw [hw]; exact zF (HB.out) GB23.out : Below w.heap.size w w53)); clear HO_3; clear HO_4; clear BK101; clear HO115; clear HB; have HO_3 := n0_; have HO_4 := n1_; have BK101 := n2_; have HO115 := n3_; have HB := n4_; clear n0_ n1_ n2_ n3_ n4_; clear hg hw hp_) | ((with_reducible refine Zp (b := .append) (xs := #[.tmp 96, .tmp 98]) rfl ?_); at_builtin; refine Kd.zBf (Kd.slice 2 (Kd.int .i64)) (w0 := w) w.heap.size rfl (.tmp 96) (.tmp 98) 54 25 (.slice none 0 0) 24 rfl Try.underlying54 zE8 rfl (by decide) (by omega) u3 x3_2 y128 [.slice (some ⟨go23, 0, none⟩) y113.length co45] (fun k_ => some k_ ≠ (.slice (some ad108) t105.length co12 : Value).ownBlock) (fun k_ => some k_ = (.slice (some ⟨go23, 0, none⟩) y113.length co45 : Value).ownBlock) rfl rfl ?aP (fun k_ hk_ => ((Kd.qR (ok' := fun k_ => ((fun k_ => some k_ ≠ (.slice (some ad108) t105.length co12 : Value).ownBlock)) k_ ∧ some k_ ≠ (u3 : Value).ownBlock) (Kd.QO (Kd.QO (HO115.out) (Kd.Qk HO_4.out) (by decide)) (Kd.Qk HO_3.out) (by decide)) (fun k_ hk => ⟨hk.1.2, hk.2⟩))).1 k_ hk_.symm) ?aF ?aO ?aB ?aS ?aL ?_; (case aP => exact Kd.zEY (Kd.qR (Kd.Qj rfl (Kd.qR (ok' := fun k_ => ((fun k_ => some k_ ≠ (.slice (some ad108) t105.length co12 : Value).ownBlock)) k_ ∧ some k_ ≠ (u3 : Value).ownBlock) (Kd.QO (Kd.QO (HO115.out) (Kd.Qk HO_4.out) (by decide)) (Kd.Qk HO_3.out) (by decide)) (fun k_ hk => ⟨hk.1.2, hk.2⟩))) (fun _ h_ => h_))); (case aB => exact (by repeat (first | (with_reducible first | exact HB.out | apply zC | apply zB | apply zD | refine zF ?_ GE101.out) | exact HB.out))); (case aF => exact (fun k_ hk => Kd.JB (Kd.S_lt (by (with_reducible repeat (first | apply Kd.qK | apply Kd.qL | apply Kd.qb)); exact HO_4.out)) k_ hk)); (case aO => exact (by (with_reducible repeat (first | apply Kd.qK | apply Kd.qL | apply Kd.qb)); exact Kd.ZX HO_3.out (fun k_ hk => ⟨hk.1, fun e_ => hk.2 e_⟩))); (case aS => exact (zO (by repeat (first | (with_reducible first | exact HB.out | apply zC | apply zB | apply zD | refine zF ?_ GE101.out) | exact HB.out)))); (case aL => have := LMc38.out; omega); intro v130 w54 ho hb hg hat; rw [← Ny129.out] at ho; have n0_ := zA.mk (Kd.Qv (ok := (fun k_ => some k_ ≠ (.slice (some ⟨go23, 0, none⟩) y113.length co45 : Value).ownBlock)) (by (with_reducible repeat (first | apply Kd.qK | apply Kd.qL | apply Kd.qb)); exact Kd.ZX HO_4.out (fun _ hk => ⟨hk.2, hk.1⟩)) hg hat); have n1_ := zA.mk (qm (g := gb101) (o := .cells #[.slice A0_0 l0_0.length c0_0] 30 (0, 0)) (by (with_reducible repeat (first | refine zI ?_ _ | refine zK ?_ | refine zH ?_ _)); exact BK101.out) hg (Kd.S_ne HO_3.out BK101.out (by decide))); have n2_ := zA.mk (hb); have n3_ := zA.mk (ho); clear HO_4; clear BK101; clear HB; clear HO_3; clear HO115; have HO_4 := n0_; have BK101 := n1_; have HB := n2_; have HO131 := n3_; clear n0_ n1_ n2_ n3_; clear ho hb hg hat))
                      go_roundg k2
                      case measure => have := HK1.out; have := HK2.out; omega
                      case rel => exact ⟨(y129), (wrap64 (x8_2 + 1)), (by first | rfl | (simp; done) | (simp [*]; done)), H', ⟨by have := HK1.out; have := HK2.out; omega⟩, ⟨by (with_reducible repeat (first | apply Kd.qK | apply Kd.qL | apply Kd.qb)); exact HO131.out⟩, ⟨by (with_reducible repeat (first | apply Kd.qK | apply Kd.qL | apply Kd.qb)); exact Kd.ZX HO_4.out (fun _ hk => hk.2)⟩, ⟨by (with_reducible repeat (first | refine zI ?_ _ | refine zK ?_ | refine zH ?_ _)); exact BK101.out⟩, ⟨by repeat (first | (with_reducible first | exact HB.out | apply zC | apply zB | apply zD | refine zF ?_ GE101.out) | exact HB.out)⟩⟩
                     next =>
                      rw [if_neg c38] at H
                      exact absurd H (by simp)
                    next =>
                     rw [if_neg c36] at H
                     exact absurd H (by simp)
                   next =>
                    rw [if_neg c35] at H
                    exact absurd H (by simp)
                  next =>
                   rw [if_neg c31] at H
                   exact absurd H (by simp)
                 next =>
                  rw [if_neg c30] at H
                  exact absurd H (by simp)
                next =>
                 rw [if_neg c27] at H
                 exact absurd H (by simp)
               next =>
                rw [if_neg c26] at H
                exact absurd H (by simp)
              next =>
               rw [if_neg c22] at H
               exact absurd H (by simp)
             next =>
              rw [if_neg c21] at H
              exact absurd H (by simp)
            next =>
             rw [if_neg c18] at H
             exact absurd H (by simp)
           next =>
            rw [if_neg c17] at H
            exact absurd H (by simp)
         next =>
          rw [if_neg c13] at H
          have c13b0 : decide (x8_2 < 4) = false := yhy c13
          clear c13
          have H' := zA.mk H
          clear H
          go_wp2
          go_roundg k2
          case measure => have := HK1.out; have := HK2.out; omega
          case rel => exact ⟨(x3_2), (wrap64 (x5_1 + 1)), (by first | rfl | (simp; done) | (simp [*]; done)), H', ⟨by have := HK1.out; have := HK2.out; omega⟩, ⟨by (with_reducible repeat (first | apply Kd.qK | apply Kd.qL | apply Kd.qb)); exact HO_3.out⟩, ⟨by (with_reducible repeat (first | apply Kd.qK | apply Kd.qL | apply Kd.qb)); exact HO_4.out⟩, ⟨by (with_reducible repeat (first | refine zI ?_ _ | refine zK ?_ | refine zH ?_ _)); exact BK101.out⟩, ⟨by repeat (first | (with_reducible first | exact HB.out | apply zC | apply zB | apply zD | refine zF ?_ GE101.out) | exact HB.out)⟩⟩
      next =>
       rw [if_neg c11] at H
       exact absurd H (by simp)
     next =>
      rw [if_neg c10] at H
      exact absurd H (by simp)
    next =>
     rw [if_neg c9] at H
     exact absurd H (by simp)
   next =>
    rw [if_neg c8] at H
    have c8b0 : decide (x5_1 < (t105.length : Int)) = false := yhy c8
    clear c8
    obtain rfl := yey H
    obtain ⟨Ao55, co55, eo55⟩ := Kd.Qw HO_4.out
    subst eo55
    go_wp2
    go_ret
    exact ⟨_, by first | rfl | (simp [zS, zT] <;> rfl) | (simp [*, zS, zT] <;> rfl), by (with_reducible repeat (first | apply Kd.qK | apply Kd.qL | apply Kd.qb)); exact Kd.ZX HO_3.out (fun _ hk => trivial), by repeat (first | (with_reducible first | exact HB.out | apply zC | apply zB | apply zD | refine zF ?_ GE101.out) | exact HB.out)⟩
mutual
def zc.j0 : Nat → List Int → Bool → List (List (zq)) → Option (Bool)
 | 0, _, _, _ => none
 | k + 1, x1, x18, x102000 => if x18 = true then (some false) else (zc.l0 k x1 0 x102000)
def zc.l0 : Nat → List Int → Int → List (List (zq)) → Option (Bool)
 | 0, _, _, _ => none
 | k + 1, x1, x5, x102000 => if x5 < (x1.length : Int) then (if 0 ≤ x5 then ((QL.f (rd x1 x5) 0 1000).bind fun t105 => (if t105 = true then (zc.l0 k x1 (wrap64 (x5 + 1)) x102000) else (some false))) else (none)) else ((zf.f k x102000).bind fun t106 => (zc.l1 k x1 t106 0))
def zc.l1 : Nat → List Int → List (List Int) → Int → Option (Bool)
 | 0, _, _, _ => none
 | k + 1, x1, x6, x7 => if x7 < (x6.length : Int) then (if 0 ≤ x7 then ((qu.f k (zZ x6 x7) x1).bind fun t110 => (if t110 = 0 then (zc.l1 k x1 x6 (wrap64 (x7 + 1))) else (some false))) else (none)) else (some true)
end
def zc.f (k : Nat) (l0_0 : List (List (zq))) (l1 : List Int) : Option (Bool) := (ZH.f k l0_0).bind fun t102 => (if t102 = 0 then ((zr.f l0_0).bind fun t103 => (zc.j0 k l1 ((l1.length : Int) != (wrap64 (7 * t103))) l0_0)) else (zc.j0 k l1 true l0_0))
set_option maxHeartbeats 8000000 in
set_option maxRecDepth 100000 in
theorem zc.calls (k : Nat) (A0_0 : Option Addr) (c0_0 : Nat) (l0_0 : List (List (zq))) (A1 : Option Addr) (c1 : Nat) (l1 : List Int) (r : Bool) (w : World) (hr0_0 : Kd.C (Kd.slice 115 qq) w A0_0 l0_0.length l0_0) (hc0_0 : l0_0.length ≤ c0_0) (hr1 : Kd.C (Kd.int .i64) w A1 l1.length l1) (hc1 : l1.length ≤ c1) (h : zc.f k l0_0 l1 = some r) :
 Calls Try.prog 16 #[.agg #[.slice A0_0 l0_0.length c0_0], .slice A1 l1.length c1] w fun e w' => e = .returned (.bool r) ∧ Below w.heap.size w w' := by
 have hu30 := Try.underlying30
 have HR0_0 := zA.mk hr0_0
 have HC0_0 := zA.mk hc0_0
 clear hr0_0 hc0_0
 have HR1 := zA.mk hr1
 have HC1 := zA.mk hc1
 clear hr1 hc1
 have HB := zA.mk (yry w.heap.size w)
 have H : ((ZH.f k l0_0).bind fun t102 => (if t102 = 0 then ((zr.f l0_0).bind fun t103 => (zc.j0 k l1 ((l1.length : Int) != (wrap64 (7 * t103))) l0_0)) else (zc.j0 k l1 true l0_0))) = some r := h
 clear h
 have HC3 := zA.mk H
 clear H
 go_enter Try.func16, Try.ntmps16
 go_upto_region 1 with (first | ((with_reducible refine zj (N := 2) rfl ?_); (try (refine zDK (by rfl) ?_; dsimp only)); refine zl ?hg (N := 2) ?hd (cs := #[.slice A0_0 l0_0.length c0_0]) (t := 30) ?hr ?_; (case hd => rfl); (case hg => rfl); (case hr => first | (go_simp; done) | (go_simp; rfl)); intro gb101 hg w4 hbox hb; have n0_ := zA.mk (zN (by repeat (first | (with_reducible first | exact HB.out | apply zC | apply zB | apply zD) | exact HB.out)) hb); have n1_ := zA.mk (hbox); have n2_ := zA.mk ((by rw [hg]; exact (zO (by repeat (first | (with_reducible first | exact HB.out | apply zC | apply zB | apply zD) | exact HB.out))) : w.heap.size ≤ gb101)); have n3_ := zA.mk ((by rw [hg]; exact (zO (by repeat (first | (with_reducible first | exact HB.out | apply zC | apply zB | apply zD) | exact HB.out))) : w.heap.size ≤ gb101)); clear HB; have HB := n0_; have BK101 := n1_; have GW101 := n2_; have GE101 := n3_; clear n0_ n1_ n2_ n3_; clear hb hbox hg))
 (try simp only [Act.put, yay, yby, ycy])
 go_cut [18] (fun v18 wc => ∃ (kq : Nat) (x18_2 : Bool), v18 = .bool x18_2 ∧ zA (zc.j0 kq l1 x18_2 l0_0 = some r) ∧ zA (kq ≤ k) ∧ zA (wc.heap[gb101]? = some (.cells #[(.slice A0_0 l0_0.length c0_0)] 30 (0, 0))) ∧ zA (Below w.heap.size w wc))
 case first =>
  have H := HC3.out
  clear HC3
  replace H := ydy.mp H
  obtain ⟨t102, A50, H⟩ := H
  replace H : (if t102 = 0 then ((zr.f l0_0).bind fun t103 => (zc.j0 k l1 ((l1.length : Int) != (wrap64 (7 * t103))) l0_0)) else (zc.j0 k l1 true l0_0)) = some r := H
  have A5 := zA.mk A50
  clear A50
  by_cases c6 : t102 = 0
  next =>
   rw [if_pos c6] at H
   have c6b0 : (t102 == 0) = true := beq_iff_eq.mpr c6
   have c6b1 : (t102 != 0) = false := bne_eq_false_iff_eq.mpr c6
   clear c6
   (first | rw [c6b0] | (simp only [zV, zW]; rw [c6b0]) | skip)
   replace H := ydy.mp H
   obtain ⟨t103, A70, H⟩ := H
   replace H : (zc.j0 k l1 ((l1.length : Int) != (wrap64 (7 * t103))) l0_0) = some r := H
   have A7 := zA.mk A70
   clear A70
   have H' := zA.mk H
   clear H
   have hcz8_0 : w4.cell? ⟨gb101, 0, none⟩ = some (.slice A0_0 l0_0.length c0_0) := (zL BK101.out 0).trans rfl
   have hfz8_0 := zM BK101.out 0
   go_wp2_with (first | ((with_reducible refine zU (f := 58) rfl ?_); refine qF (some 9) rfl rfl Try.func58 (by kernel_rfl) rfl #[.agg #[.slice A0_0 l0_0.length c0_0]] rfl (by (try simp only [yiy, yjy, yky]); first | done | rfl | (simp only [yly, ymy]; rfl)) ?_; (with_reducible refine (ZH.calls k _ _ l0_0 t102 _ ?side1 ?side2 A5.out).mono ?_); (case side1 => repeat (first | exact (Kd.zn HR0_0.out HB.out) | (with_reducible refine Kd.zo ?_ _) | (with_reducible refine Kd.zp ?_ _) | (with_reducible refine Kd.qH ?_))); (case side2 => exact HC0_0.out); rintro e w9 ⟨rfl, hb⟩; refine ⟨_, rfl, ?_⟩; have n0_ := zA.mk (zP (g := gb101) (o := .cells #[.slice A0_0 l0_0.length c0_0] 30 (0, 0)) (by (with_reducible repeat (first | refine zI ?_ _ | refine zK ?_ | refine zH ?_ _)); exact BK101.out) hb); have n1_ := zA.mk (zN (by repeat (first | (with_reducible first | exact HB.out | apply zC | apply zB | apply zD | refine zF ?_ GE101.out) | exact HB.out)) hb); clear BK101; clear HB; have BK101 := n0_; have HB := n1_; clear n0_ n1_; (try clear hb); (try clear hb2); (try clear hk); (try clear hi); have hcz10_0 : w9.cell? ⟨gb101, 0, none⟩ = some (.slice A0_0 l0_0.length c0_0) := (zL BK101.out 0).trans rfl; have hfz10_0 := zM BK101.out 0) | (go_at_call 59; (with_reducible refine (zr.calls _ _ l0_0 t103 _ ?side1 ?side2 A7.out).mono ?_); (case side1 => repeat (first | exact (Kd.zn HR0_0.out HB.out) | (with_reducible refine Kd.zo ?_ _) | (with_reducible refine Kd.zp ?_ _) | (with_reducible refine Kd.qH ?_))); (case side2 => exact HC0_0.out); rintro e w11 ⟨rfl, hb⟩; have n0_ := zA.mk (zP (g := gb101) (o := .cells #[.slice A0_0 l0_0.length c0_0] 30 (0, 0)) (by (with_reducible repeat (first | refine zI ?_ _ | refine zK ?_ | refine zH ?_ _)); exact BK101.out) hb); have n1_ := zA.mk (zN (by repeat (first | (with_reducible first | exact HB.out | apply zC | apply zB | apply zD | refine zF ?_ GE101.out) | exact HB.out)) hb); clear BK101; clear HB; have BK101 := n0_; have HB := n1_; clear n0_ n1_; (try clear hb); (try clear hb2); (try clear hk); (try clear hi)))
   go_meet
   case rel => exact ⟨_, (((l1.length : Int) != (wrap64 (7 * t103)))), (by first | rfl | (simp; done) | (simp [*]; done)), H', ⟨by first | omega | exact yqy _⟩, ⟨by (with_reducible repeat (first | refine zI ?_ _ | refine zK ?_ | refine zH ?_ _)); exact BK101.out⟩, ⟨by repeat (first | (with_reducible first | exact HB.out | apply zC | apply zB | apply zD | refine zF ?_ GE101.out) | exact HB.out)⟩⟩
  next =>
   rw [if_neg c6] at H
   have c6b0 : (t102 == 0) = false := beq_eq_false_iff_ne.mpr c6
   have c6b1 : (t102 != 0) = true := bne_iff_ne.mpr c6
   (first | rw [c6b0] | (simp only [zV, zW]; rw [c6b0]) | skip)
   have H' := zA.mk H
   clear H
   have hcz12_0 : w4.cell? ⟨gb101, 0, none⟩ = some (.slice A0_0 l0_0.length c0_0) := (zL BK101.out 0).trans rfl
   have hfz12_0 := zM BK101.out 0
   go_wp2_with (first | ((with_reducible refine zU (f := 58) rfl ?_); refine qF (some 9) rfl rfl Try.func58 (by kernel_rfl) rfl #[.agg #[.slice A0_0 l0_0.length c0_0]] rfl (by (try simp only [yiy, yjy, yky]); first | done | rfl | (simp only [yly, ymy]; rfl)) ?_; (with_reducible refine (ZH.calls k _ _ l0_0 t102 _ ?side1 ?side2 A5.out).mono ?_); (case side1 => repeat (first | exact (Kd.zn HR0_0.out HB.out) | (with_reducible refine Kd.zo ?_ _) | (with_reducible refine Kd.zp ?_ _) | (with_reducible refine Kd.qH ?_))); (case side2 => exact HC0_0.out); rintro e w13 ⟨rfl, hb⟩; refine ⟨_, rfl, ?_⟩; have n0_ := zA.mk (zP (g := gb101) (o := .cells #[.slice A0_0 l0_0.length c0_0] 30 (0, 0)) (by (with_reducible repeat (first | refine zI ?_ _ | refine zK ?_ | refine zH ?_ _)); exact BK101.out) hb); have n1_ := zA.mk (zN (by repeat (first | (with_reducible first | exact HB.out | apply zC | apply zB | apply zD | refine zF ?_ GE101.out) | exact HB.out)) hb); clear BK101; clear HB; have BK101 := n0_; have HB := n1_; clear n0_ n1_; (try clear hb); (try clear hb2); (try clear hk); (try clear hi)))
   go_meet
   case rel => exact ⟨_, (true), (by first | rfl | (simp; done) | (simp [*]; done)), H', ⟨by first | omega | exact yqy _⟩, ⟨by (with_reducible repeat (first | refine zI ?_ _ | refine zK ?_ | refine zH ?_ _)); exact BK101.out⟩, ⟨by repeat (first | (with_reducible first | exact HB.out | apply zC | apply zB | apply zD | refine zF ?_ GE101.out) | exact HB.out)⟩⟩
 case rest =>
  clear HC3
  try clear c1
  try clear p2
  try clear c5
  try clear c6
  try clear c6b0
  try clear c6b1
  try clear p6
  try clear hcz10_0
  try clear hcz12_0
  try clear hcz8_0
  try clear hfz10_0
  try clear hfz12_0
  try clear hfz8_0
  obtain ⟨kq, x18_2, rfl, HA, HJ2, BK101, HB⟩ := hcut
  cases kq with
  | zero => exact absurd HA.out (by simp [zc.j0])
  | succ kj2 =>
   have H := HA.out
   clear HA
   simp only [zc.j0] at H
   by_cases c14 : x18_2 = true
   next =>
    subst c14
    have H1 : (some false) = some r := by rw [if_pos rfl] at H; exact H
    clear H
    have H := H1
    clear H1
    obtain rfl := yey H
    go_wp2
    go_ret
    exact ⟨by first | rfl | (simp [zS, zT] <;> rfl) | (simp [*, zS, zT] <;> rfl), by repeat (first | (with_reducible first | exact HB.out | apply zC | apply zB | apply zD | refine zF ?_ GE101.out) | exact HB.out)⟩
   next =>
    replace c14 := Bool.eq_false_iff.mpr c14
    subst c14
    have H1 : (zc.l0 kj2 l1 0 l0_0) = some r := by rw [if_neg (show ¬ (false = true) by decide)] at H; exact H
    clear H
    have H := H1
    clear H1
    have H' := zA.mk H
    clear H
    go_wp2
    go_loopg [5] kj2 (fun kq v5 w' => ∃ (x5_2 : Int), v5 = .int .i64 x5_2 ∧ zA (zc.l0 kq l1 x5_2 l0_0 = some r) ∧ zA (kq ≤ kj2) ∧ zA (w'.heap[gb101]? = some (.cells #[(.slice A0_0 l0_0.length c0_0)] 30 (0, 0))) ∧ zA (Below w.heap.size w w'))
    case atStart => exact ⟨(0), (by first | rfl | (simp; done) | (simp [*]; done)), H', ⟨yqy _⟩, ⟨by (with_reducible repeat (first | refine zI ?_ _ | refine zK ?_ | refine zH ?_ _)); exact BK101.out⟩, ⟨by repeat (first | (with_reducible first | exact HB.out | apply zC | apply zB | apply zD | refine zF ?_ GE101.out) | exact HB.out)⟩⟩
    case round =>
     clear H'
     try clear c1
     try clear p2
     try clear c5
     try clear c6
     try clear c6b0
     try clear c6b1
     try clear p6
     try clear c14
     try clear hcz10_0
     try clear hcz12_0
     try clear hcz8_0
     try clear hfz10_0
     try clear hfz12_0
     try clear hfz8_0
     try clear p2
     try clear p6
     obtain ⟨x5_2, rfl, HA, HK2, BK101, HB⟩ := hrel
     cases gk with
     | zero => exact absurd HA.out (by simp [zc.l0])
     | succ k2 =>
      have H := HA.out
      clear HA
      simp only [zc.l0] at H
      by_cases c15 : x5_2 < (l1.length : Int)
      next =>
       rw [if_pos c15] at H
       have c15b0 : decide (x5_2 < (l1.length : Int)) = true := ygy c15
       clear c15
       by_cases c16 : 0 ≤ x5_2
       next =>
        rw [if_pos c16] at H
        have c16b0 : decide (0 ≤ x5_2) = true := ygy c16
        clear c16
        replace H := ydy.mp H
        obtain ⟨t105, A170, H⟩ := H
        replace H : (if t105 = true then (zc.l0 k2 l1 (wrap64 (x5_2 + 1)) l0_0) else (some false)) = some r := H
        have A17 := zA.mk A170
        clear A170
        by_cases c18 : t105 = true
        next =>
         subst c18
         have H1 : (zc.l0 k2 l1 (wrap64 (x5_2 + 1)) l0_0) = some r := by rw [if_pos rfl] at H; exact H
         clear H
         have H := H1
         clear H1
         have H' := zA.mk H
         clear H
         have p104 : 0 ≤ (x5_2 : Int) := of_decide_eq_true (by first | (with_reducible assumption) | assumption)
         have q104 : x5_2 < (l1.length : Int) := of_decide_eq_true (by first | (with_reducible assumption) | assumption)
         obtain ⟨ad104, e104, hx104_0⟩ := Kd.ZB HR1.out x5_2 p104 q104
         cases e104
         replace hx104_0 := (HB.out.cell (ypy w _ hx104_0)).trans hx104_0
         replace p104 := eq_true p104
         replace q104 := eq_true q104
         go_wp2_with (first | ((with_reducible refine zU (f := 60) rfl ?_); refine qF (some 29) rfl rfl Try.func60 (by kernel_rfl) rfl #[.int .i64 (rd l1 x5_2), .int .i64 0, .int .i64 1000] rfl (by (try simp only [yiy, yjy, yky]); first | done | rfl | (simp only [yly, ymy]; rfl)) ?_; (with_reducible refine (QL.calls (rd l1 x5_2) 0 1000 true _ A17.out).mono ?_); rintro e w' ⟨rfl, ⟨nd, rfl⟩⟩; refine ⟨_, rfl, ?_⟩))
         go_roundg k2
         case measure => have := HJ2.out; have := HK2.out; omega
         case rel => exact ⟨(wrap64 (x5_2 + 1)), (by first | rfl | (simp; done) | (simp [*]; done)), H', ⟨by have := HJ2.out; have := HK2.out; omega⟩, ⟨by (with_reducible repeat (first | refine zI ?_ _ | refine zK ?_ | refine zH ?_ _)); exact BK101.out⟩, ⟨by repeat (first | (with_reducible first | exact HB.out | apply zC | apply zB | apply zD | refine zF ?_ GE101.out) | exact HB.out)⟩⟩
        next =>
         replace c18 := Bool.eq_false_iff.mpr c18
         subst c18
         have H1 : (some false) = some r := by rw [if_neg (show ¬ (false = true) by decide)] at H; exact H
         clear H
         have H := H1
         clear H1
         obtain rfl := yey H
         have p104 : 0 ≤ (x5_2 : Int) := of_decide_eq_true (by first | (with_reducible assumption) | assumption)
         have q104 : x5_2 < (l1.length : Int) := of_decide_eq_true (by first | (with_reducible assumption) | assumption)
         obtain ⟨ad104, e104, hx104_0⟩ := Kd.ZB HR1.out x5_2 p104 q104
         cases e104
         replace hx104_0 := (HB.out.cell (ypy w _ hx104_0)).trans hx104_0
         replace p104 := eq_true p104
         replace q104 := eq_true q104
         go_wp2_with (first | ((with_reducible refine zU (f := 60) rfl ?_); refine qF (some 29) rfl rfl Try.func60 (by kernel_rfl) rfl #[.int .i64 (rd l1 x5_2), .int .i64 0, .int .i64 1000] rfl (by (try simp only [yiy, yjy, yky]); first | done | rfl | (simp only [yly, ymy]; rfl)) ?_; (with_reducible refine (QL.calls (rd l1 x5_2) 0 1000 false _ A17.out).mono ?_); rintro e w' ⟨rfl, ⟨nd, rfl⟩⟩; refine ⟨_, rfl, ?_⟩))
         go_ret
         exact ⟨by first | rfl | (simp [zS, zT] <;> rfl) | (simp [*, zS, zT] <;> rfl), by repeat (first | (with_reducible first | exact HB.out | apply zC | apply zB | apply zD | refine zF ?_ GE101.out) | exact HB.out)⟩
       next =>
        rw [if_neg c16] at H
        exact absurd H (by simp)
      next =>
       rw [if_neg c15] at H
       have c15b0 : decide (x5_2 < (l1.length : Int)) = false := yhy c15
       clear c15
       replace H := ydy.mp H
       obtain ⟨t106, A190, H⟩ := H
       replace H : (zc.l1 k2 l1 t106 0) = some r := H
       have A19 := zA.mk A190
       clear A190
       have H' := zA.mk H
       clear H
       have hcz20_0 : wr.cell? ⟨gb101, 0, none⟩ = some (.slice A0_0 l0_0.length c0_0) := (zL BK101.out 0).trans rfl
       have hfz20_0 := zM BK101.out 0
       go_wp2_with (first | ((with_reducible refine zU (f := 61) rfl ?_); refine qF (some 32) rfl rfl Try.func61 (by kernel_rfl) rfl #[.agg #[.slice A0_0 l0_0.length c0_0]] rfl (by (try simp only [yiy, yjy, yky]); first | done | rfl | (simp only [yly, ymy]; rfl)) ?_; (with_reducible refine (zf.calls k2 _ _ l0_0 t106 _ ?side1 ?side2 A19.out).mono ?_); (case side1 => repeat (first | exact (Kd.zn HR0_0.out HB.out) | (with_reducible refine Kd.zo ?_ _) | (with_reducible refine Kd.zp ?_ _) | (with_reducible refine Kd.qH ?_))); (case side2 => exact HC0_0.out); rintro e w21 ⟨v107, rfl, ho0, hb⟩; refine ⟨_, rfl, ?_⟩; have n0_ := zA.mk (Kd.Jb ho0 (zO (by repeat (first | (with_reducible first | exact HB.out | apply zC | apply zB | apply zD | refine zF ?_ GE101.out) | exact HB.out)))); have n1_ := zA.mk (zP (g := gb101) (o := .cells #[.slice A0_0 l0_0.length c0_0] 30 (0, 0)) (by (with_reducible repeat (first | refine zI ?_ _ | refine zK ?_ | refine zH ?_ _)); exact BK101.out) hb); have n2_ := zA.mk (zN (by repeat (first | (with_reducible first | exact HB.out | apply zC | apply zB | apply zD | refine zF ?_ GE101.out) | exact HB.out)) hb); clear BK101; clear HB; have HO108 := n0_; have BK101 := n1_; have HB := n2_; clear n0_ n1_ n2_; (try clear hb); (try clear hb2); (try clear hk); (try clear hi); (try clear ho0)))
       go_loopg [7] k2 (fun kq v7 w' => ∃ (x7_3 : Int), v7 = .int .i64 x7_3 ∧ zA (zc.l1 kq l1 t106 x7_3 = some r) ∧ zA (kq ≤ k2) ∧ zA (Kd.S (Kd.slice 2 (Kd.int .i64)) 25 w' w.heap.size (fun _ => True) v107 t106) ∧ zA (w'.heap[gb101]? = some (.cells #[(.slice A0_0 l0_0.length c0_0)] 30 (0, 0))) ∧ zA (Below w.heap.size w w'))
       case atStart => exact ⟨(0), (by first | rfl | (simp; done) | (simp [*]; done)), H', ⟨yqy _⟩, ⟨by (with_reducible repeat (first | apply Kd.qK | apply Kd.qL | apply Kd.qb)); exact HO108.out⟩, ⟨by (with_reducible repeat (first | refine zI ?_ _ | refine zK ?_ | refine zH ?_ _)); exact BK101.out⟩, ⟨by repeat (first | (with_reducible first | exact HB.out | apply zC | apply zB | apply zD | refine zF ?_ GE101.out) | exact HB.out)⟩⟩
       case round =>
        clear H'
        try clear c1
        try clear p1
        try clear q1
        try clear hx1
        try clear p2
        try clear c5
        try clear c6
        try clear c6b0
        try clear c6b1
        try clear p6
        try clear p10
        try clear q10
        try clear hx10
        try clear c14
        try clear c15
        try clear c15b0
        try clear c16
        try clear c16b0
        try clear c18
        try clear hcz10_0
        try clear hcz12_0
        try clear hcz20_0
        try clear hcz8_0
        try clear hfz10_0
        try clear hfz12_0
        try clear hfz20_0
        try clear hfz8_0
        try clear hx104_0
        try clear p104
        try clear p2
        try clear p6
        try clear q104
        obtain ⟨x7_3, rfl, HA, HK3, HO_6, BK101, HB⟩ := hrel
        cases gk with
        | zero => exact absurd HA.out (by simp [zc.l1])
        | succ k3 =>
         have H := HA.out
         clear HA
         simp only [zc.l1] at H
         by_cases c22 : x7_3 < (t106.length : Int)
         next =>
          rw [if_pos c22] at H
          have c22b0 : decide (x7_3 < (t106.length : Int)) = true := ygy c22
          clear c22
          by_cases c23 : 0 ≤ x7_3
          next =>
           rw [if_pos c23] at H
           have c23b0 : decide (0 ≤ x7_3) = true := ygy c23
           clear c23
           replace H := ydy.mp H
           obtain ⟨t110, A240, H⟩ := H
           replace H : (if t110 = 0 then (zc.l1 k3 l1 t106 (wrap64 (x7_3 + 1))) else (some false)) = some r := H
           have A24 := zA.mk A240
           clear A240
           by_cases c25 : t110 = 0
           next =>
            rw [if_pos c25] at H
            have c25b0 : (t110 == 0) = true := beq_iff_eq.mpr c25
            have c25b1 : (t110 != 0) = false := bne_eq_false_iff_eq.mpr c25
            clear c25
            have H' := zA.mk H
            clear H
            obtain ⟨Ao26, co26, eo26⟩ := Kd.Qw HO_6.out
            subst eo26
            have p109 : 0 ≤ (x7_3 : Int) := of_decide_eq_true (by first | (with_reducible assumption) | assumption)
            have q109 : x7_3 < (t106.length : Int) := of_decide_eq_true (by first | (with_reducible assumption) | assumption)
            obtain ⟨ad109, A109_0, c109_0, e109, hx109_0, hl109_0, hi109_0⟩ := zBi (Kd.Zz HO_6.out).2.2 x7_3 p109 q109
            cases e109
            obtain ⟨ce109, hce109, hMe109, hcc109⟩ := Kd.zEe HO_6.out [] x7_3 p109 (by first | exact q109 | exact of_decide_eq_true (by first | (with_reducible assumption) | assumption) | (have e_ := (Kd.Zz HO_6.out).1; omega))
            obtain ⟨ve109_0, rfl, ge109_0⟩ := hMe109
            have hv109_0 := hcc109 0 _ rfl
            rw [Nat.add_zero, show ((Kd.slice 2 (Kd.int .i64))).sz = 1 from rfl, Nat.mul_one] at hv109_0
            replace hv109_0 := yey (hv109_0.symm.trans hx109_0)
            rw [hv109_0] at ge109_0
            have HL109_0 := zA.mk (show Kd.R (Kd.int .i64) 2 _ _ _ _ (zZ t106 x7_3) from ge109_0)
            clear hv109_0 ge109_0
            clear hcc109 hce109
            have HR109_0 := zA.mk hi109_0
            have HC109_0 := zA.mk hl109_0
            clear hi109_0 hl109_0
            replace p109 := eq_true p109
            replace q109 := eq_true q109
            go_wp2_with (first | ((with_reducible refine zU (f := 62) rfl ?_); refine qF (some 44) rfl rfl Try.func62 (by kernel_rfl) rfl #[.slice A109_0 (zZ t106 x7_3).length c109_0, .slice A1 l1.length c1] rfl (by (try simp only [yiy, yjy, yky]); first | done | rfl | (simp only [yly, ymy]; rfl)) ?_; (with_reducible refine (qu.calls k3 _ _ (zZ t106 x7_3) _ _ l1 t110 _ ?side1 ?side2 ?side3 ?side4 A24.out).mono ?_); (case side1 => repeat (first | exact (by repeat (first | (with_reducible exact HR109_0.out) | (with_reducible refine Kd.zo ?_ _) | (with_reducible refine Kd.zp ?_ _) | (with_reducible refine Kd.qH ?_) | exact HR109_0.out)) | (with_reducible refine Kd.zo ?_ _) | (with_reducible refine Kd.zp ?_ _) | (with_reducible refine Kd.qH ?_))); (case side2 => exact HC109_0.out); (case side3 => repeat (first | exact (Kd.zn HR1.out HB.out) | (with_reducible refine Kd.zo ?_ _) | (with_reducible refine Kd.zp ?_ _) | (with_reducible refine Kd.qH ?_))); (case side4 => exact HC1.out); rintro e w' ⟨rfl, ⟨nd, rfl⟩⟩; refine ⟨_, rfl, ?_⟩))
            go_roundg k3
            case measure => have := HJ2.out; have := HK2.out; have := HK3.out; omega
            case rel => exact ⟨(wrap64 (x7_3 + 1)), (by first | rfl | (simp; done) | (simp [*]; done)), H', ⟨by have := HJ2.out; have := HK2.out; have := HK3.out; omega⟩, ⟨by (with_reducible repeat (first | apply Kd.qK | apply Kd.qL | apply Kd.qb)); exact HO_6.out⟩, ⟨by (with_reducible repeat (first | refine zI ?_ _ | refine zK ?_ | refine zH ?_ _)); exact BK101.out⟩, ⟨by repeat (first | (with_reducible first | exact HB.out | apply zC | apply zB | apply zD | refine zF ?_ GE101.out) | exact HB.out)⟩⟩
           next =>
            rw [if_neg c25] at H
            have c25b0 : (t110 == 0) = false := beq_eq_false_iff_ne.mpr c25
            have c25b1 : (t110 != 0) = true := bne_iff_ne.mpr c25
            obtain rfl := yey H
            obtain ⟨Ao27, co27, eo27⟩ := Kd.Qw HO_6.out
            subst eo27
            have p109 : 0 ≤ (x7_3 : Int) := of_decide_eq_true (by first | (with_reducible assumption) | assumption)
            have q109 : x7_3 < (t106.length : Int) := of_decide_eq_true (by first | (with_reducible assumption) | assumption)
            obtain ⟨ad109, A109_0, c109_0, e109, hx109_0, hl109_0, hi109_0⟩ := zBi (Kd.Zz HO_6.out).2.2 x7_3 p109 q109
            cases e109
            obtain ⟨ce109, hce109, hMe109, hcc109⟩ := Kd.zEe HO_6.out [] x7_3 p109 (by first | exact q109 | exact of_decide_eq_true (by first | (with_reducible assumption) | assumption) | (have e_ := (Kd.Zz HO_6.out).1; omega))
            obtain ⟨ve109_0, rfl, ge109_0⟩ := hMe109
            have hv109_0 := hcc109 0 _ rfl
            rw [Nat.add_zero, show ((Kd.slice 2 (Kd.int .i64))).sz = 1 from rfl, Nat.mul_one] at hv109_0
            replace hv109_0 := yey (hv109_0.symm.trans hx109_0)
            rw [hv109_0] at ge109_0
            have HL109_0 := zA.mk (show Kd.R (Kd.int .i64) 2 _ _ _ _ (zZ t106 x7_3) from ge109_0)
            clear hv109_0 ge109_0
            clear hcc109 hce109
            have HR109_0 := zA.mk hi109_0
            have HC109_0 := zA.mk hl109_0
            clear hi109_0 hl109_0
            replace p109 := eq_true p109
            replace q109 := eq_true q109
            go_wp2_with (first | ((with_reducible refine zU (f := 62) rfl ?_); refine qF (some 44) rfl rfl Try.func62 (by kernel_rfl) rfl #[.slice A109_0 (zZ t106 x7_3).length c109_0, .slice A1 l1.length c1] rfl (by (try simp only [yiy, yjy, yky]); first | done | rfl | (simp only [yly, ymy]; rfl)) ?_; (with_reducible refine (qu.calls k3 _ _ (zZ t106 x7_3) _ _ l1 t110 _ ?side1 ?side2 ?side3 ?side4 A24.out).mono ?_); (case side1 => repeat (first | exact (by repeat (first | (with_reducible exact HR109_0.out) | (with_reducible refine Kd.zo ?_ _) | (with_reducible refine Kd.zp ?_ _) | (with_reducible refine Kd.qH ?_) | exact HR109_0.out)) | (with_reducible refine Kd.zo ?_ _) | (with_reducible refine Kd.zp ?_ _) | (with_reducible refine Kd.qH ?_))); (case side2 => exact HC109_0.out); (case side3 => repeat (first | exact (Kd.zn HR1.out HB.out) | (with_reducible refine Kd.zo ?_ _) | (with_reducible refine Kd.zp ?_ _) | (with_reducible refine Kd.qH ?_))); (case side4 => exact HC1.out); rintro e w' ⟨rfl, ⟨nd, rfl⟩⟩; refine ⟨_, rfl, ?_⟩))
            go_ret
            exact ⟨by first | rfl | (simp [zS, zT] <;> rfl) | (simp [*, zS, zT] <;> rfl), by repeat (first | (with_reducible first | exact HB.out | apply zC | apply zB | apply zD | refine zF ?_ GE101.out) | exact HB.out)⟩
          next =>
           rw [if_neg c23] at H
           exact absurd H (by simp)
         next =>
          rw [if_neg c22] at H
          have c22b0 : decide (x7_3 < (t106.length : Int)) = false := yhy c22
          clear c22
          obtain rfl := yey H
          obtain ⟨Ao28, co28, eo28⟩ := Kd.Qw HO_6.out
          subst eo28
          go_wp2
          go_ret
          exact ⟨by first | rfl | (simp [zS, zT] <;> rfl) | (simp [*, zS, zT] <;> rfl), by repeat (first | (with_reducible first | exact HB.out | apply zC | apply zB | apply zD | refine zF ?_ GE101.out) | exact HB.out)⟩
def zy.l0 : Nat → List Int → List Int → Int → Option (List Int)
 | 0, _, _, _ => none
 | k + 1, x0, x3, x4 => if (wrap64 (x4 + 7)) ≤ (x0.length : Int) then (if 0 ≤ (wrap64 (x4 + 4)) then (if (wrap64 (x4 + 4)) < (x0.length : Int) then (if 0 ≤ (wrap64 (x4 + 5)) then (if (wrap64 (x4 + 5)) < (x0.length : Int) then (if 0 ≤ (wrap64 (x4 + 6)) then (if (wrap64 (x4 + 6)) < (x0.length : Int) then ((some (([rd x0 (wrap64 (x4 + 4)), rd x0 (wrap64 (x4 + 5)), rd x0 (wrap64 (x4 + 6))] : List Int) : List Int)).bind fun y107 => (if x3.length + y107.length < 17592186044416 then (zy.l0 k x0 (x3 ++ y107) (wrap64 (x4 + 7))) else (none))) else (none)) else (none)) else (none)) else (none)) else (none)) else (none)) else (some x3)
def zy.f (k : Nat) (l0 : List Int) : Option (List Int) := zy.l0 k l0 (([] : List Int)) 0
def zy.T5 : Bool × List (List Nat × List Nat) := (true, [([], []), ([], []), ([], []), ([2], [2]), ([1, 3], [1, 3]), ([4], [4]), ([], []), ([], []), ([7], [7]), ([6, 8], [6, 8]), ([9], [9]), ([], []), ([], []), ([12], [12]), ([11, 13], [11, 13]), ([14], [14]), ([5, 10, 15], [5, 10, 15]), ([0, 16], [0, 16]), ([17, 17, 0, 1, 2, 3, 4, 5, 6, 7, 8, 9, 10, 11, 12, 13, 14, 15, 16, 17], [0, 17])])
def zy.B5 : List Nat := [0, 0, 0, 4, 14, 30, 0, 0, 128, 448, 960, 0, 0, 4096, 14336, 30720, 65534, 131071, 262143]
theorem zy.tab5 : zA1 .any (opsOf Try.f73 5) = zy.T5 := by kernel_rfl
theorem zy.bits5 : QV zy.T5.2 zy.B5 = true := by kernel_rfl
set_option maxHeartbeats 8000000 in
set_option maxRecDepth 100000 in
theorem zy.calls (k : Nat) (A0 : Option Addr) (c0 : Nat) (l0 : List Int) (r : List Int) (w : World) (hr0 : Kd.C (Kd.int .i64) w A0 l0.length l0) (hc0 : l0.length ≤ c0) (h : zy.f k l0 = some r) :
 Calls Try.prog 73 #[.slice A0 l0.length c0] w fun e w' => ∃ v0_ : Value, e = .returned (v0_) ∧ Kd.R (Kd.int .i64) 2 w' w.heap.size (fun _ => True) v0_ r ∧ Below w.heap.size w w' := by
 have HR0 := zA.mk hr0
 have HC0 := zA.mk hc0
 clear hr0 hc0
 have HB := zA.mk (yry w.heap.size w)
 have H : (zy.l0 k l0 (([] : List Int)) 0) = some r := h
 clear h
 obtain ⟨y101, hy101⟩ : ∃ y_ : List Int, y_ = (([] : List Int)) := ⟨_, rfl⟩
 replace H : (zy.l0 k l0 y101 0) = some r := by first | (rw [hy101]; with_reducible exact H) | (have H2_ := (yfy _ _).symm.trans H; rw [hy101]; with_reducible exact H2_) | (have H2_ := (yfy _ _).symm.trans H; with_reducible exact H2_) | with_reducible exact H | (rw [hy101]; exact H) | exact H
 have Ny101 := zA.mk hy101
 clear hy101
 have H' := zA.mk H
 clear H
 go_enter Try.func73, Try.ntmps73
 go_wp2_with (first | ((with_reducible refine zj (N := 5) rfl ?_); refine Kd.zC8 (Kd.int .i64) _ 2 ?hg (N := 5) ?hd (xs := ([] : List Int)) (inner := []) (ok := fun _ => True) (okp := fun _ => True) ?hr ?hp (fun _ hk => hk) trivial (yry _ _) (yqy _) (by simp) ?_; (case hd => rfl); (case hg => rfl); (case hr => first | (go_simp; done) | (go_simp; rfl)); (case hp => exact (QB.none _ _)); intro v102 w2 ho3 hb hg_ hnew_; clear hg_ hnew_; (first | rw [← Ny101.out] at ho3 | (simp only [Int.reduceToNat] at ho3; rw [← Ny101.out] at ho3)); have n0_ := zA.mk (Kd.ZM ho3 (zO (by repeat (first | (with_reducible first | exact HB.out | apply zC | apply zB | apply zD) | exact HB.out)))); have n1_ := zA.mk (zN (by repeat (first | (with_reducible first | exact HB.out | apply zC | apply zB | apply zD) | exact HB.out)) hb); clear HB; have HO103 := n0_; have HB := n1_; clear n0_ n1_; clear hb ho3))
 go_loopg [3, 4] k (fun kq v3 v4 w' => ∃ (x3_1 : List Int) (x4_1 : Int), v4 = .int .i64 x4_1 ∧ zA (zy.l0 kq l0 x3_1 x4_1 = some r) ∧ zA (kq ≤ k) ∧ zA (Kd.R (Kd.int .i64) 2 w' w.heap.size (fun _ => True) v3 x3_1) ∧ zA (Below w.heap.size w w'))
 case atStart => exact ⟨(y101), (0), (by first | rfl | (simp; done) | (simp [*]; done)), H', ⟨yqy _⟩, ⟨by (with_reducible repeat (first | apply Kd.zi | apply Kd.zh | apply Kd.zx)); exact HO103.out⟩, ⟨by repeat (first | (with_reducible first | exact HB.out | apply zC | apply zB | apply zD) | exact HB.out)⟩⟩
 case round =>
  clear H'
  try clear p2
  obtain ⟨x3_1, x4_1, rfl, HA, HK1, HO_3, HB⟩ := hrel
  cases gk with
  | zero => exact absurd HA.out (by simp [zy.l0])
  | succ k1 =>
   have H := HA.out
   clear HA
   simp only [zy.l0] at H
   by_cases c4 : (wrap64 (x4_1 + 7)) ≤ (l0.length : Int)
   next =>
    rw [if_pos c4] at H
    have c4b0 : decide ((wrap64 (x4_1 + 7)) ≤ (l0.length : Int)) = true := ygy c4
    clear c4
    obtain ⟨ji5, hji5⟩ : ∃ j_ : Int, (wrap64 (x4_1 + 4)) = j_ := ⟨_, rfl⟩
    replace H : (if 0 ≤ (ji5) then (if (ji5) < (l0.length : Int) then (if 0 ≤ (wrap64 (x4_1 + 5)) then (if (wrap64 (x4_1 + 5)) < (l0.length : Int) then (if 0 ≤ (wrap64 (x4_1 + 6)) then (if (wrap64 (x4_1 + 6)) < (l0.length : Int) then ((some (([rd l0 (ji5), rd l0 (wrap64 (x4_1 + 5)), rd l0 (wrap64 (x4_1 + 6))] : List Int) : List Int)).bind fun y107 => (if x3_1.length + y107.length < 17592186044416 then (zy.l0 k1 l0 (x3_1 ++ y107) (wrap64 (x4_1 + 7))) else (none))) else (none)) else (none)) else (none)) else (none)) else (none)) else (none)) = some r := by first | (rw [hji5] at H; exact H) | (simp only [hji5] at H ⊢; exact H)
    have hji5w : (IntKind.i64.wrap (x4_1 + 4)) = ji5 := (zV _).trans hji5
    by_cases c6 : 0 ≤ (ji5)
    next =>
     rw [if_pos c6] at H
     have c6b0 : decide (0 ≤ (ji5)) = true := ygy c6
     clear c6
     by_cases c7 : (ji5) < (l0.length : Int)
     next =>
      rw [if_pos c7] at H
      have c7b0 : decide ((ji5) < (l0.length : Int)) = true := ygy c7
      clear c7
      obtain ⟨ji8, hji8⟩ : ∃ j_ : Int, (wrap64 (x4_1 + 5)) = j_ := ⟨_, rfl⟩
      replace H : (if 0 ≤ (ji8) then (if (ji8) < (l0.length : Int) then (if 0 ≤ (wrap64 (x4_1 + 6)) then (if (wrap64 (x4_1 + 6)) < (l0.length : Int) then ((some (([rd l0 (ji5), rd l0 (ji8), rd l0 (wrap64 (x4_1 + 6))] : List Int) : List Int)).bind fun y107 => (if x3_1.length + y107.length < 17592186044416 then (zy.l0 k1 l0 (x3_1 ++ y107) (wrap64 (x4_1 + 7))) else (none))) else (none)) else (none)) else (none)) else (none)) = some r := by first | (rw [hji8] at H; exact H) | (simp only [hji8] at H ⊢; exact H)
      have hji8w : (IntKind.i64.wrap (x4_1 + 5)) = ji8 := (zV _).trans hji8
      by_cases c9 : 0 ≤ (ji8)
      next =>
       rw [if_pos c9] at H
       have c9b0 : decide (0 ≤ (ji8)) = true := ygy c9
       clear c9
       by_cases c10 : (ji8) < (l0.length : Int)
       next =>
        rw [if_pos c10] at H
        have c10b0 : decide ((ji8) < (l0.length : Int)) = true := ygy c10
        clear c10
        obtain ⟨ji11, hji11⟩ : ∃ j_ : Int, (wrap64 (x4_1 + 6)) = j_ := ⟨_, rfl⟩
        replace H : (if 0 ≤ (ji11) then (if (ji11) < (l0.length : Int) then ((some (([rd l0 (ji5), rd l0 (ji8), rd l0 (ji11)] : List Int) : List Int)).bind fun y107 => (if x3_1.length + y107.length < 17592186044416 then (zy.l0 k1 l0 (x3_1 ++ y107) (wrap64 (x4_1 + 7))) else (none))) else (none)) else (none)) = some r := by first | (rw [hji11] at H; exact H) | (simp only [hji11] at H ⊢; exact H)
        have hji11w : (IntKind.i64.wrap (x4_1 + 6)) = ji11 := (zV _).trans hji11
        by_cases c12 : 0 ≤ (ji11)
        next =>
         rw [if_pos c12] at H
         have c12b0 : decide (0 ≤ (ji11)) = true := ygy c12
         clear c12
         by_cases c13 : (ji11) < (l0.length : Int)
         next =>
          rw [if_pos c13] at H
          have c13b0 : decide ((ji11) < (l0.length : Int)) = true := ygy c13
          clear c13
          obtain ⟨y107, hy107⟩ : ∃ y_ : List Int, y_ = (([rd l0 (ji5), rd l0 (ji8), rd l0 (ji11)] : List Int)) := ⟨_, rfl⟩
          replace H : (if x3_1.length + y107.length < 17592186044416 then (zy.l0 k1 l0 (x3_1 ++ y107) (wrap64 (x4_1 + 7))) else (none)) = some r := by first | (rw [hy107]; with_reducible exact H) | (have H2_ := (yfy _ _).symm.trans H; rw [hy107]; with_reducible exact H2_) | (have H2_ := (yfy _ _).symm.trans H; with_reducible exact H2_) | with_reducible exact H | (rw [hy107]; exact H) | exact H
          have Ny107 := zA.mk hy107
          clear hy107
          by_cases c14 : x3_1.length + y107.length < 17592186044416
          next =>
           rw [if_pos c14] at H
           have LMc14 := zA.mk c14
           clear c14
           obtain ⟨y110, hy110⟩ : ∃ y_ : List Int, y_ = (x3_1 ++ y107) := ⟨_, rfl⟩
           replace H : (zy.l0 k1 l0 y110 (wrap64 (x4_1 + 7))) = some r := by first | (rw [hy110]; with_reducible exact H) | (have H2_ := (yfy _ _).symm.trans H; rw [hy110]; with_reducible exact H2_) | (have H2_ := (yfy _ _).symm.trans H; with_reducible exact H2_) | with_reducible exact H | (rw [hy110]; exact H) | exact H
           have Ny110 := zA.mk hy110
           clear hy110
           have H' := zA.mk H
           clear H
           try go_wp2
           have n0_ := zA.mk (Kd.zx HO_3.out)
           have n1_ := zA.mk (zD HB.out)
           clear HO_3
           clear HB
           have HO_3 := n0_
           have HB := n1_
           clear n0_ n1_
           have p104 : 0 ≤ ((ji5) : Int) := of_decide_eq_true (by first | (with_reducible assumption) | assumption)
           have q104 : (ji5) < (l0.length : Int) := of_decide_eq_true (by first | (with_reducible assumption) | assumption)
           obtain ⟨ad104, e104, hx104_0⟩ := Kd.ZB HR0.out (ji5) p104 q104
           have hw104_0 := hx104_0
           cases e104
           replace hx104_0 := (HB.out.cell (ypy w _ hx104_0)).trans hx104_0
           replace p104 := eq_true p104
           replace q104 := eq_true q104
           have p105 : 0 ≤ ((ji8) : Int) := of_decide_eq_true (by first | (with_reducible assumption) | assumption)
           have q105 : (ji8) < (l0.length : Int) := of_decide_eq_true (by first | (with_reducible assumption) | assumption)
           obtain ⟨ad105, e105, hx105_0⟩ := Kd.ZB HR0.out (ji8) p105 q105
           have hw105_0 := hx105_0
           obtain rfl : ad104 = ad105 := (by injection e105)
           replace hx105_0 := (HB.out.cell (ypy w _ hx105_0)).trans hx105_0
           replace p105 := eq_true p105
           replace q105 := eq_true q105
           have p106 : 0 ≤ ((ji11) : Int) := of_decide_eq_true (by first | (with_reducible assumption) | assumption)
           have q106 : (ji11) < (l0.length : Int) := of_decide_eq_true (by first | (with_reducible assumption) | assumption)
           obtain ⟨ad106, e106, hx106_0⟩ := Kd.ZB HR0.out (ji11) p106 q106
           have hw106_0 := hx106_0
           obtain rfl : ad104 = ad106 := (by injection e106)
           replace hx106_0 := (HB.out.cell (ypy w _ hx106_0)).trans hx106_0
           replace p106 := eq_true p106
           replace q106 := eq_true q106
           refine Zn (n := 19) (S := fun w' => w'.cell? (ad104.add ((ji5)).toNat) = some (.int .i64 (rd l0 (ji5))) ∧ w'.cell? (ad104.add ((ji8)).toNat) = some (.int .i64 (rd l0 (ji8))) ∧ w'.cell? (ad104.add ((ji11)).toNat) = some (.int .i64 (rd l0 (ji11)))) (ds := []) #[false, false, false, false, false, false, false, false, false, false, false, false, false, false, false, false, false, false, false] (by kernel_rfl) rfl rfl ⟨((HB.out.cell (ypy w _ hw104_0)).trans hw104_0), ((HB.out.cell (ypy w _ hw105_0)).trans hw105_0), ((HB.out.cell (ypy w _ hw106_0)).trans hw106_0)⟩ (fun hHeld => ?_); refine ZN zy.tab5 zy.bits5 (fun HT_ HW_ => ?_)
           generalize wr.drew = w15 at HO_3 HB hx104_0 hx105_0 hx106_0 hHeld ⊢
           refine zb (i := 0) (N := some 13) (v := ?_) (a' := ?_) #[true, false, false, false, false, false, false, false, false, false, false, false, false, false, false, false, false, false, false] rfl rfl (zY HT_.out (by kernel_rfl)) (fun _ _ _ h => h) (Or.inl ⟨by rfl, ?_⟩) ?_ ?_
           rotate_left
           next =>
            intro w'
            go_simp
            with_reducible rfl
           rotate_left
           next =>
            simp only [Act.put, yay, yby, ycy, zV, zW]
            rfl
           refine zb (i := 1) (N := some 14) (v := ?_) (a' := ?_) #[true, true, false, false, false, false, false, false, false, false, false, false, false, false, false, false, false, false, false] rfl rfl (zY HT_.out (by kernel_rfl)) (fun _ _ _ h => h) (Or.inl ⟨by rfl, ?_⟩) ?_ ?_
           rotate_left
           next =>
            intro w'
            go_simp
            with_reducible rfl
           rotate_left
           next =>
            simp only [Act.put, yay, yby, ycy, zV, zW]
            rfl
           refine zb (i := 2) (N := some 15) (v := ?_) (a' := ?_) #[true, true, true, false, false, false, false, false, false, false, false, false, false, false, false, false, false, false, false] rfl rfl (zY HT_.out (by kernel_rfl)) (fun _ _ _ h => h) (Or.inl ⟨by rfl, ?_⟩) ?_ ?_
           rotate_left
           next =>
            intro w'
            go_simp
            with_reducible rfl
           rotate_left
           next =>
            simp only [Act.put, yay, yby, ycy, zV, zW]
            rfl
           refine zb (i := 3) (N := some 16) (v := ?_) (a' := ?_) #[true, true, true, true, false, false, false, false, false, false, false, false, false, false, false, false, false, false, false] rfl rfl (zY HT_.out (by kernel_rfl)) (fun _ _ _ h => h) (Or.inl ⟨by rfl, ?_⟩) ?_ ?_
           rotate_left
           next =>
            intro w'
            go_simp
            with_reducible rfl
           rotate_left
           next =>
            simp only [Act.put, yay, yby, ycy, zV, zW]
            rfl
           refine zb (i := 4) (N := some 17) (v := ?_) (a' := ?_) #[true, true, true, true, true, false, false, false, false, false, false, false, false, false, false, false, false, false, false] rfl rfl (zY HT_.out (by kernel_rfl)) (fun _ _ _ h => h) (Or.inl ⟨by rfl, ?_⟩) ?_ ?_
           rotate_left
           next =>
            intro w'
            go_simp
            with_reducible rfl
           rotate_left
           next =>
            simp only [Act.put, yay, yby, ycy, zV, zW]
            rfl
           refine zb (i := 6) (N := some 19) (v := ?_) (a' := ?_) #[true, true, true, true, true, false, true, false, false, false, false, false, false, false, false, false, false, false, false] rfl rfl (zY HT_.out (by kernel_rfl)) (fun _ _ _ h => h) (Or.inl ⟨by rfl, ?_⟩) ?_ ?_
           rotate_left
           next =>
            intro w'
            go_simp
            with_reducible rfl
           rotate_left
           next =>
            simp only [Act.put, yay, yby, ycy, zV, zW]
            rfl
           refine zb (i := 7) (N := some 20) (v := ?_) (a' := ?_) #[true, true, true, true, true, false, true, true, false, false, false, false, false, false, false, false, false, false, false] rfl rfl (zY HT_.out (by kernel_rfl)) (fun _ _ _ h => h) (Or.inl ⟨by rfl, ?_⟩) ?_ ?_
           rotate_left
           next =>
            intro w'
            go_simp
            with_reducible rfl
           rotate_left
           next =>
            simp only [Act.put, yay, yby, ycy, zV, zW]
            rfl
           refine zb (i := 8) (N := some 21) (v := ?_) (a' := ?_) #[true, true, true, true, true, false, true, true, true, false, false, false, false, false, false, false, false, false, false] rfl rfl (zY HT_.out (by kernel_rfl)) (fun _ _ _ h => h) (Or.inl ⟨by rfl, ?_⟩) ?_ ?_
           rotate_left
           next =>
            intro w'
            go_simp
            with_reducible rfl
           rotate_left
           next =>
            simp only [Act.put, yay, yby, ycy, zV, zW]
            rfl
           refine zb (i := 9) (N := some 22) (v := ?_) (a' := ?_) #[true, true, true, true, true, false, true, true, true, true, false, false, false, false, false, false, false, false, false] rfl rfl (zY HT_.out (by kernel_rfl)) (fun _ _ _ h => h) (Or.inl ⟨by rfl, ?_⟩) ?_ ?_
           rotate_left
           next =>
            intro w'
            go_simp
            with_reducible rfl
           rotate_left
           next =>
            simp only [Act.put, yay, yby, ycy, zV, zW]
            rfl
           refine zb (i := 11) (N := some 24) (v := ?_) (a' := ?_) #[true, true, true, true, true, false, true, true, true, true, false, true, false, false, false, false, false, false, false] rfl rfl (zY HT_.out (by kernel_rfl)) (fun _ _ _ h => h) (Or.inl ⟨by rfl, ?_⟩) ?_ ?_
           rotate_left
           next =>
            intro w'
            go_simp
            with_reducible rfl
           rotate_left
           next =>
            simp only [Act.put, yay, yby, ycy, zV, zW]
            rfl
           refine zb (i := 12) (N := some 25) (v := ?_) (a' := ?_) #[true, true, true, true, true, false, true, true, true, true, false, true, true, false, false, false, false, false, false] rfl rfl (zY HT_.out (by kernel_rfl)) (fun _ _ _ h => h) (Or.inl ⟨by rfl, ?_⟩) ?_ ?_
           rotate_left
           next =>
            intro w'
            go_simp
            with_reducible rfl
           rotate_left
           next =>
            simp only [Act.put, yay, yby, ycy, zV, zW]
            rfl
           refine zb (i := 13) (N := some 26) (v := ?_) (a' := ?_) #[true, true, true, true, true, false, true, true, true, true, false, true, true, true, false, false, false, false, false] rfl rfl (zY HT_.out (by kernel_rfl)) (fun _ _ _ h => h) (Or.inl ⟨by rfl, ?_⟩) ?_ ?_
           rotate_left
           next =>
            intro w'
            go_simp
            with_reducible rfl
           rotate_left
           next =>
            simp only [Act.put, yay, yby, ycy, zV, zW]
            rfl
           refine zb (i := 14) (N := some 27) (v := ?_) (a' := ?_) #[true, true, true, true, true, false, true, true, true, true, false, true, true, true, true, false, false, false, false] rfl rfl (zY HT_.out (by kernel_rfl)) (fun _ _ _ h => h) (Or.inl ⟨by rfl, ?_⟩) ?_ ?_
           rotate_left
           next =>
            intro w'
            go_simp
            with_reducible rfl
           rotate_left
           next =>
            simp only [Act.put, yay, yby, ycy, zV, zW]
            rfl
           refine qj (i := 5) (N := some 18) (v := ?_) (a' := ?_) #[true, true, true, true, true, true, true, true, true, true, false, true, true, true, true, false, false, false, false] rfl rfl (qB HT_.out HW_.out (by kernel_rfl)) (fun _ _ _ h => h) (Or.inl ⟨by rfl, ?_⟩) hHeld ?_ ?_
           rotate_left
           next =>
            rintro w' ⟨s0, s1, s2⟩
            go_simp
            with_reducible rfl
           rotate_left
           next =>
            simp only [Act.put, yay, yby, ycy, zV, zW]
            rfl
           refine qj (i := 10) (N := some 23) (v := ?_) (a' := ?_) #[true, true, true, true, true, true, true, true, true, true, true, true, true, true, true, false, false, false, false] rfl rfl (qB HT_.out HW_.out (by kernel_rfl)) (fun _ _ _ h => h) (Or.inl ⟨by rfl, ?_⟩) hHeld ?_ ?_
           rotate_left
           next =>
            rintro w' ⟨s0, s1, s2⟩
            go_simp
            with_reducible rfl
           rotate_left
           next =>
            simp only [Act.put, yay, yby, ycy, zV, zW]
            rfl
           refine qj (i := 15) (N := some 28) (v := ?_) (a' := ?_) #[true, true, true, true, true, true, true, true, true, true, true, true, true, true, true, true, false, false, false] rfl rfl (qB HT_.out HW_.out (by kernel_rfl)) (fun _ _ _ h => h) (Or.inl ⟨by rfl, ?_⟩) hHeld ?_ ?_
           rotate_left
           next =>
            rintro w' ⟨s0, s1, s2⟩
            go_simp
            with_reducible rfl
           rotate_left
           next =>
            simp only [Act.put, yay, yby, ycy, zV, zW]
            rfl
           refine zAJ (i := 16) (N := some 29) #[true, true, true, true, true, true, true, true, true, true, true, true, true, true, true, true, true, false, false] rfl rfl (Zu HT_.out (by kernel_rfl)) (by decide) (fun K hK => ?_)
           refine Kd.zA3 (Kd.int .i64) _ 2 ?hg (N := 29) ?hd (xs := ([rd l0 (ji5), rd l0 (ji8), rd l0 (ji11)] : List Int)) (inner := [.int .i64 (rd l0 (ji5)), .int .i64 (rd l0 (ji8)), .int .i64 (rd l0 (ji11))]) (ok := fun _ => True) (okp := fun _ => True) ?hr ?hp (fun _ hk => hk) trivial (yry _ _) (yqy _) (by simp) ?_; (case hd => rfl); (case hg => rfl); (case hr => first | (go_simp; done) | (go_simp; rfl)); (case hp => exact (QB.one (show Kd.M (Kd.int .i64) _ _ _ (rd l0 (ji5)) [.int .i64 (rd l0 (ji5))] from rfl) (QB.one (show Kd.M (Kd.int .i64) _ _ _ (rd l0 (ji8)) [.int .i64 (rd l0 (ji8))] from rfl) (QB.one (show Kd.M (Kd.int .i64) _ _ _ (rd l0 (ji11)) [.int .i64 (rd l0 (ji11))] from rfl) (QB.none _ _)))))
           intro v108 w16 ho17 hb hg_ hnew_
           clear hg_ hnew_
           (first | rw [← Ny107.out] at ho17 | (simp only [Int.reduceToNat] at ho17; rw [← Ny107.out] at ho17))
           have n0_ := zA.mk (Kd.Qh (by (with_reducible repeat (first | apply Kd.zi | apply Kd.zh | apply Kd.zx)); exact HO_3.out) (Kd.QT ho17) hb)
           have n1_ := zA.mk (Kd.ZM (Kd.zAG ho17 (Kd.zAX (by (with_reducible repeat (first | apply Kd.zi | apply Kd.zh | apply Kd.zx)); exact HO_3.out))) (zO (by repeat (first | (with_reducible first | exact HB.out | apply zC | apply zB | apply zD) | exact HB.out))))
           have n2_ := zA.mk (zN (by repeat (first | (with_reducible first | exact HB.out | apply zC | apply zB | apply zD) | exact HB.out)) hb)
           clear HO_3
           clear HB
           have HO_3 := n0_
           have HO109 := n1_
           have HB := n2_
           clear n0_ n1_ n2_
           clear hb ho17
           obtain ⟨Ao19, co19, eo19⟩ := Kd.ZU HO109.out
           (first | subst eo19 | (injection eo19 with f1_ f2_ f3_; have f4_ := f1_.symm; have f5_ := f3_.symm; clear f1_ f2_ f3_; subst f4_; subst f5_))
           refine hK.out _ _ ⟨((HB.out.cell (ypy w _ hw104_0)).trans hw104_0), ((HB.out.cell (ypy w _ hw105_0)).trans hw105_0), ((HB.out.cell (ypy w _ hw106_0)).trans hw106_0)⟩ (fun hHeld => ?_)
           clear hK K
           refine QH (a' := ?_) ?_ ?_
           rotate_left
           next =>
            show Act.put _ (some 29) _ = _
            simp only [Act.put, yay, yby, ycy, zV, zW]
            rfl
           refine zAJ (i := 17) (N := some 30) #[true, true, true, true, true, true, true, true, true, true, true, true, true, true, true, true, true, true, false] rfl rfl (Zu HT_.out (by kernel_rfl)) (by decide) (fun K hK => ?_)
           refine Kd.ZW (Kd.int .i64) (w0 := w) w.heap.size (by rfl) (.tmp 13) (.tmp 29) 25 2 (.int .i64 0) 8 rfl Try.underlying25 JF rfl (by decide) (by omega) u3 x3_1 y107 _ _ _ (fun k_ => some k_ ≠ (.slice Ao19 y107.length co19 : Value).ownBlock) (fun _ => False) rfl rfl ?aO ?aR (fun _ _ h => h) (fun _ h => h.elim) ?aF ?aB ?aS ?aL ?_
           (case aR => repeat (first | exact (Kd.qE HO109.out).2.2 | (with_reducible refine Kd.zo ?_ _) | (with_reducible refine Kd.zp ?_ _) | (with_reducible refine Kd.qH ?_)))
           (case aB => exact (by repeat (first | (with_reducible first | exact HB.out | apply zC | apply zB | apply zD) | exact HB.out)))
           (case aF => exact (fun k_ hk => Kd.JB (Kd.zAX (by (with_reducible repeat (first | apply Kd.zi | apply Kd.zh | apply Kd.zx)); exact HO109.out)) k_ hk))
           (case aO => exact (by (with_reducible repeat (first | apply Kd.zi | apply Kd.zh | apply Kd.zx)); exact Kd.qR HO_3.out (fun _ hk => hk.2)))
           (case aS => exact (zO (by repeat (first | (with_reducible first | exact HB.out | apply zC | apply zB | apply zD) | exact HB.out))))
           (case aL => have := LMc14.out; omega)
           intro v111 w18 ho hb hg hat
           rw [← Ny110.out] at ho
           have n0_ := zA.mk (Kd.ZP (ok := (fun _ => True)) (by (with_reducible repeat (first | apply Kd.zi | apply Kd.zh | apply Kd.zx)); exact HO109.out) hg hat)
           have n1_ := zA.mk (hb)
           have n2_ := zA.mk (ho)
           clear HO109
           clear HB
           clear HO_3
           have HO109 := n0_
           have HB := n1_
           have HO112 := n2_
           clear n0_ n1_ n2_
           clear ho hb hg hat
           refine hK.out _ _ ⟨((HB.out.cell (ypy w _ hw104_0)).trans hw104_0), ((HB.out.cell (ypy w _ hw105_0)).trans hw105_0), ((HB.out.cell (ypy w _ hw106_0)).trans hw106_0)⟩ (fun hHeld => ?_)
           clear hK K
           refine QH (a' := ?_) ?_ ?_
           rotate_left
           next =>
            show Act.put _ (some 30) _ = _
            simp only [Act.put, yay, yby, ycy, zV, zW]
            rfl
           refine zb (i := 18) (N := some 3) (v := ?_) (a' := ?_) #[true, true, true, true, true, true, true, true, true, true, true, true, true, true, true, true, true, true, true] rfl rfl (zY HT_.out (by kernel_rfl)) (fun _ _ _ h => h) (Or.inl ⟨by rfl, ?_⟩) ?_ ?_
           rotate_left
           next =>
            intro w'
            go_simp
            with_reducible rfl
           rotate_left
           next =>
            simp only [Act.put, yay, yby, ycy, zV, zW]
            rfl
           refine Qc (Zo HT_.out (by kernel_rfl)) ?_
           try go_wp2
           go_roundg k1
           case measure => have := HK1.out; omega
           case rel => exact ⟨(y110), (wrap64 (x4_1 + 7)), (by first | rfl | (simp; done) | (simp [*]; done)), H', ⟨by have := HK1.out; omega⟩, ⟨by (with_reducible repeat (first | apply Kd.zi | apply Kd.zh | apply Kd.zx)); exact Kd.qR HO112.out (fun _ hk => trivial)⟩, ⟨by repeat (first | (with_reducible first | exact HB.out | apply zC | apply zB | apply zD) | exact HB.out)⟩⟩
          next =>
           rw [if_neg c14] at H
           exact absurd H (by simp)
         next =>
          rw [if_neg c13] at H
          exact absurd H (by simp)
        next =>
         rw [if_neg c12] at H
         exact absurd H (by simp)
       next =>
        rw [if_neg c10] at H
        exact absurd H (by simp)
      next =>
       rw [if_neg c9] at H
       exact absurd H (by simp)
     next =>
      rw [if_neg c7] at H
      exact absurd H (by simp)
    next =>
     rw [if_neg c6] at H
     exact absurd H (by simp)
   next =>
    rw [if_neg c4] at H
    have c4b0 : decide ((wrap64 (x4_1 + 7)) ≤ (l0.length : Int)) = false := yhy c4
    clear c4
    obtain rfl := yey H
    go_wp2
    go_ret
    exact ⟨_, by first | rfl | (simp [zS, zT] <;> rfl) | (simp [*, zS, zT] <;> rfl), by (with_reducible repeat (first | apply Kd.zi | apply Kd.zh | apply Kd.zx)); exact HO_3.out, by repeat (first | (with_reducible first | exact HB.out | apply zC | apply zB | apply zD) | exact HB.out)⟩
def QD.f (k : Nat) (l0_0 : List (List (zq))) (l1 : List Int) : Option (List Int × Int) := (ZH.f k l0_0).bind fun t102 => (if t102 = 0 then ((zc.f k l0_0 l1).bind fun t103 => (if t103 = true then ((zy.f k l1).bind fun t104 => (some (t104, 0))) else (some (([] : List Int), 5)))) else (some (([] : List Int), t102)))
set_option maxHeartbeats 8000000 in
set_option maxRecDepth 100000 in
theorem QD.calls (k : Nat) (A0_0 : Option Addr) (c0_0 : Nat) (l0_0 : List (List (zq))) (A1 : Option Addr) (c1 : Nat) (l1 : List Int) (r1 : List Int) (r2 : Int) (w : World) (hr0_0 : Kd.C (Kd.slice 115 qq) w A0_0 l0_0.length l0_0) (hc0_0 : l0_0.length ≤ c0_0) (hr1 : Kd.C (Kd.int .i64) w A1 l1.length l1) (hc1 : l1.length ≤ c1) (h : QD.f k l0_0 l1 = some (r1, r2)) :
    Calls Try.prog 32 #[.agg #[.slice A0_0 l0_0.length c0_0], .slice A1 l1.length c1] w fun e w' => ∃ v0_ : Value, e = .returned (.tuple #[v0_, .int .i64 r2]) ∧ Kd.R (Kd.int .i64) 2 w' w.heap.size (fun _ => True) v0_ r1 ∧ Below w.heap.size w w' := by
  have hu30 := Try.underlying30
  have HR0_0 := zA.mk hr0_0
  have HC0_0 := zA.mk hc0_0
  clear hr0_0 hc0_0
  have HR1 := zA.mk hr1
  have HC1 := zA.mk hc1
  clear hr1 hc1
  have HB := zA.mk (yry w.heap.size w)
  have H : ((ZH.f k l0_0).bind fun t102 => (if t102 = 0 then ((zc.f k l0_0 l1).bind fun t103 => (if t103 = true then ((zy.f k l1).bind fun t104 => (some (t104, 0))) else (some (([] : List Int), 5)))) else (some (([] : List Int), t102)))) = some (r1, r2) := h
  clear h
  replace H := ydy.mp H
  obtain ⟨t102, A30, H⟩ := H
  replace H : (if t102 = 0 then ((zc.f k l0_0 l1).bind fun t103 => (if t103 = true then ((zy.f k l1).bind fun t104 => (some (t104, 0))) else (some (([] : List Int), 5)))) else (some (([] : List Int), t102))) = some (r1, r2) := H
  have A3 := zA.mk A30
  clear A30
  by_cases c4 : t102 = 0
  · rw [if_pos c4] at H
    have c4b0 : (t102 == 0) = true := beq_iff_eq.mpr c4
    have c4b1 : (t102 != 0) = false := bne_eq_false_iff_eq.mpr c4
    clear c4
    replace H := ydy.mp H
    obtain ⟨t103, A50, H⟩ := H
    replace H : (if t103 = true then ((zy.f k l1).bind fun t104 => (some (t104, 0))) else (some (([] : List Int), 5))) = some (r1, r2) := H
    have A5 := zA.mk A50
    clear A50
    by_cases c6 : t103 = true
    · subst c6
      have H1 : ((zy.f k l1).bind fun t104 => (some (t104, 0))) = some (r1, r2) := by rw [if_pos rfl] at H; exact H
      clear H
      have H := H1
      clear H1
      replace H := ydy.mp H
      obtain ⟨t104, A70, H⟩ := H
      replace H : (some (t104, 0)) = some (r1, r2) := H
      have A7 := zA.mk A70
      clear A70
      simp only [Option.some.injEq, Prod.mk.injEq] at H
      obtain ⟨rfl, rfl⟩ := H
      go_enter Try.func32, Try.ntmps32
      go_wp2_with (first | ((with_reducible refine zj (N := 2) rfl ?_); refine zl ?hg (N := 2) ?hd (cs := #[.slice A0_0 l0_0.length c0_0]) (t := 30) ?hr ?_; (case hd => rfl); (case hg => rfl); (case hr => first | (go_simp; done) | (go_simp; rfl)); intro gb101 hg w8 hbox hb; have n0_ := zA.mk (zN (by repeat (first | (with_reducible first | exact HB.out | apply zC | apply zB | apply zD) | exact HB.out)) hb); have n1_ := zA.mk (hbox); have n2_ := zA.mk ((by rw [hg]; exact (zO (by repeat (first | (with_reducible first | exact HB.out | apply zC | apply zB | apply zD) | exact HB.out))) : w.heap.size ≤ gb101)); have n3_ := zA.mk ((by rw [hg]; exact (zO (by repeat (first | (with_reducible first | exact HB.out | apply zC | apply zB | apply zD) | exact HB.out))) : w.heap.size ≤ gb101)); clear HB; have HB := n0_; have BK101 := n1_; have GW101 := n2_; have GE101 := n3_; clear n0_ n1_ n2_ n3_; clear hb hbox hg; have hcz9_0 : w8.cell? ⟨gb101, 0, none⟩ = some (.slice A0_0 l0_0.length c0_0) := (zL BK101.out 0).trans rfl; have hfz9_0 := zM BK101.out 0) | ((with_reducible refine zU (f := 58) rfl ?_); refine qF (some 8) rfl rfl Try.func58 (by kernel_rfl) rfl #[.agg #[.slice A0_0 l0_0.length c0_0]] rfl (by (try simp only [yiy, yjy, yky]); first | done | rfl | (simp only [yly, ymy]; rfl)) ?_; (with_reducible refine (ZH.calls k _ _ l0_0 t102 _ ?side1 ?side2 A3.out).mono ?_); (case side1 => repeat (first | exact (Kd.zn HR0_0.out HB.out) | (with_reducible refine Kd.zo ?_ _) | (with_reducible refine Kd.zp ?_ _) | (with_reducible refine Kd.qH ?_))); (case side2 => exact HC0_0.out); rintro e w10 ⟨rfl, hb⟩; refine ⟨_, rfl, ?_⟩; have n0_ := zA.mk (zP (g := gb101) (o := .cells #[.slice A0_0 l0_0.length c0_0] 30 (0, 0)) (by (with_reducible repeat (first | refine zI ?_ _ | refine zK ?_ | refine zH ?_ _)); exact BK101.out) hb); have n1_ := zA.mk (zN (by repeat (first | (with_reducible first | exact HB.out | apply zC | apply zB | apply zD | refine zF ?_ GE101.out) | exact HB.out)) hb); clear BK101; clear HB; have BK101 := n0_; have HB := n1_; clear n0_ n1_; (try clear hb); (try clear hb2); (try clear hk); (try clear hi); have hcz11_0 : w10.cell? ⟨gb101, 0, none⟩ = some (.slice A0_0 l0_0.length c0_0) := (zL BK101.out 0).trans rfl; have hfz11_0 := zM BK101.out 0) | ((with_reducible refine zU (f := 16) rfl ?_); refine qF (some 14) rfl rfl Try.func16 (by kernel_rfl) rfl #[.agg #[.slice A0_0 l0_0.length c0_0], .slice A1 l1.length c1] rfl (by (try simp only [yiy, yjy, yky]); first | done | rfl | (simp only [yly, ymy]; rfl)) ?_; (with_reducible refine (zc.calls k _ _ l0_0 _ _ l1 true _ ?side1 ?side2 ?side3 ?side4 A5.out).mono ?_); (case side1 => repeat (first | exact (Kd.zn HR0_0.out HB.out) | (with_reducible refine Kd.zo ?_ _) | (with_reducible refine Kd.zp ?_ _) | (with_reducible refine Kd.qH ?_))); (case side2 => exact HC0_0.out); (case side3 => repeat (first | exact (Kd.zn HR1.out HB.out) | (with_reducible refine Kd.zo ?_ _) | (with_reducible refine Kd.zp ?_ _) | (with_reducible refine Kd.qH ?_))); (case side4 => exact HC1.out); rintro e w12 ⟨rfl, hb⟩; refine ⟨_, rfl, ?_⟩; have n0_ := zA.mk (zP (g := gb101) (o := .cells #[.slice A0_0 l0_0.length c0_0] 30 (0, 0)) (by (with_reducible repeat (first | refine zI ?_ _ | refine zK ?_ | refine zH ?_ _)); exact BK101.out) hb); have n1_ := zA.mk (zN (by repeat (first | (with_reducible first | exact HB.out | apply zC | apply zB | apply zD | refine zF ?_ GE101.out) | exact HB.out)) hb); clear BK101; clear HB; have BK101 := n0_; have HB := n1_; clear n0_ n1_; (try clear hb); (try clear hb2); (try clear hk); (try clear hi)) | ((with_reducible refine zU (f := 73) rfl ?_); refine qF (some 17) rfl rfl Try.func73 (by kernel_rfl) rfl #[.slice A1 l1.length c1] rfl (by (try simp only [yiy, yjy, yky]); first | done | rfl | (simp only [yly, ymy]; rfl)) ?_; (with_reducible refine (zy.calls k _ _ l1 t104 _ ?side1 ?side2 A7.out).mono ?_); (case side1 => repeat (first | exact (Kd.zn HR1.out HB.out) | (with_reducible refine Kd.zo ?_ _) | (with_reducible refine Kd.zp ?_ _) | (with_reducible refine Kd.qH ?_))); (case side2 => exact HC1.out); rintro e w13 ⟨v105, rfl, ho0, hb⟩; refine ⟨_, rfl, ?_⟩; have n0_ := zA.mk (Kd.ZM ho0 (zO (by repeat (first | (with_reducible first | exact HB.out | apply zC | apply zB | apply zD | refine zF ?_ GE101.out) | exact HB.out)))); have n1_ := zA.mk (zP (g := gb101) (o := .cells #[.slice A0_0 l0_0.length c0_0] 30 (0, 0)) (by (with_reducible repeat (first | refine zI ?_ _ | refine zK ?_ | refine zH ?_ _)); exact BK101.out) hb); have n2_ := zA.mk (zN (by repeat (first | (with_reducible first | exact HB.out | apply zC | apply zB | apply zD | refine zF ?_ GE101.out) | exact HB.out)) hb); clear BK101; clear HB; have HO106 := n0_; have BK101 := n1_; have HB := n2_; clear n0_ n1_ n2_; (try clear hb); (try clear hb2); (try clear hk); (try clear hi); (try clear ho0)))
      go_ret2
      exact ⟨_, by first | rfl | (simp [zS, zT] <;> rfl) | (simp [*, zS, zT] <;> rfl), by (with_reducible repeat (first | apply Kd.zi | apply Kd.zh | apply Kd.zx)); exact HO106.out, by repeat (first | (with_reducible first | exact HB.out | apply zC | apply zB | apply zD | refine zF ?_ GE101.out) | exact HB.out)⟩
    · replace c6 := Bool.eq_false_iff.mpr c6
      subst c6
      have H1 : (some (([] : List Int), 5)) = some (r1, r2) := by rw [if_neg (show ¬ (false = true) by decide)] at H; exact H
      clear H
      have H := H1
      clear H1
      simp only [Option.some.injEq, Prod.mk.injEq] at H
      obtain ⟨rfl, rfl⟩ := H
      go_enter Try.func32, Try.ntmps32
      go_wp2_with (first | ((with_reducible refine zj (N := 2) rfl ?_); refine zl ?hg (N := 2) ?hd (cs := #[.slice A0_0 l0_0.length c0_0]) (t := 30) ?hr ?_; (case hd => rfl); (case hg => rfl); (case hr => first | (go_simp; done) | (go_simp; rfl)); intro gb101 hg w14 hbox hb; have n0_ := zA.mk (zN (by repeat (first | (with_reducible first | exact HB.out | apply zC | apply zB | apply zD) | exact HB.out)) hb); have n1_ := zA.mk (hbox); have n2_ := zA.mk ((by rw [hg]; exact (zO (by repeat (first | (with_reducible first | exact HB.out | apply zC | apply zB | apply zD) | exact HB.out))) : w.heap.size ≤ gb101)); have n3_ := zA.mk ((by rw [hg]; exact (zO (by repeat (first | (with_reducible first | exact HB.out | apply zC | apply zB | apply zD) | exact HB.out))) : w.heap.size ≤ gb101)); clear HB; have HB := n0_; have BK101 := n1_; have GW101 := n2_; have GE101 := n3_; clear n0_ n1_ n2_ n3_; clear hb hbox hg; have hcz15_0 : w14.cell? ⟨gb101, 0, none⟩ = some (.slice A0_0 l0_0.length c0_0) := (zL BK101.out 0).trans rfl; have hfz15_0 := zM BK101.out 0) | ((with_reducible refine zU (f := 58) rfl ?_); refine qF (some 8) rfl rfl Try.func58 (by kernel_rfl) rfl #[.agg #[.slice A0_0 l0_0.length c0_0]] rfl (by (try simp only [yiy, yjy, yky]); first | done | rfl | (simp only [yly, ymy]; rfl)) ?_; (with_reducible refine (ZH.calls k _ _ l0_0 t102 _ ?side1 ?side2 A3.out).mono ?_); (case side1 => repeat (first | exact (Kd.zn HR0_0.out HB.out) | (with_reducible refine Kd.zo ?_ _) | (with_reducible refine Kd.zp ?_ _) | (with_reducible refine Kd.qH ?_))); (case side2 => exact HC0_0.out); rintro e w16 ⟨rfl, hb⟩; refine ⟨_, rfl, ?_⟩; have n0_ := zA.mk (zP (g := gb101) (o := .cells #[.slice A0_0 l0_0.length c0_0] 30 (0, 0)) (by (with_reducible repeat (first | refine zI ?_ _ | refine zK ?_ | refine zH ?_ _)); exact BK101.out) hb); have n1_ := zA.mk (zN (by repeat (first | (with_reducible first | exact HB.out | apply zC | apply zB | apply zD | refine zF ?_ GE101.out) | exact HB.out)) hb); clear BK101; clear HB; have BK101 := n0_; have HB := n1_; clear n0_ n1_; (try clear hb); (try clear hb2); (try clear hk); (try clear hi); have hcz17_0 : w16.cell? ⟨gb101, 0, none⟩ = some (.slice A0_0 l0_0.length c0_0) := (zL BK101.out 0).trans rfl; have hfz17_0 := zM BK101.out 0) | ((with_reducible refine zU (f := 16) rfl ?_); refine qF (some 14) rfl rfl Try.func16 (by kernel_rfl) rfl #[.agg #[.slice A0_0 l0_0.length c0_0], .slice A1 l1.length c1] rfl (by (try simp only [yiy, yjy, yky]); first | done | rfl | (simp only [yly, ymy]; rfl)) ?_; (with_reducible refine (zc.calls k _ _ l0_0 _ _ l1 false _ ?side1 ?side2 ?side3 ?side4 A5.out).mono ?_); (case side1 => repeat (first | exact (Kd.zn HR0_0.out HB.out) | (with_reducible refine Kd.zo ?_ _) | (with_reducible refine Kd.zp ?_ _) | (with_reducible refine Kd.qH ?_))); (case side2 => exact HC0_0.out); (case side3 => repeat (first | exact (Kd.zn HR1.out HB.out) | (with_reducible refine Kd.zo ?_ _) | (with_reducible refine Kd.zp ?_ _) | (with_reducible refine Kd.qH ?_))); (case side4 => exact HC1.out); rintro e w18 ⟨rfl, hb⟩; refine ⟨_, rfl, ?_⟩; have n0_ := zA.mk (zP (g := gb101) (o := .cells #[.slice A0_0 l0_0.length c0_0] 30 (0, 0)) (by (with_reducible repeat (first | refine zI ?_ _ | refine zK ?_ | refine zH ?_ _)); exact BK101.out) hb); have n1_ := zA.mk (zN (by repeat (first | (with_reducible first | exact HB.out | apply zC | apply zB | apply zD | refine zF ?_ GE101.out) | exact HB.out)) hb); clear BK101; clear HB; have BK101 := n0_; have HB := n1_; clear n0_ n1_; (try clear hb); (try clear hb2); (try clear hk); (try clear hi)))
      go_ret2
      exact ⟨_, by first | rfl | (simp [zS, zT] <;> rfl) | (simp [*, zS, zT] <;> rfl), by first | exact Kd.zAW _ _ _ _ _ | exact Kd.zE6 _ _ _ _ _ | exact Kd.zE7 _ _ _ _ _ | exact Kd.zDt _ _ _ _ _ | exact Kd.zE2 _ _ _ _ _, by repeat (first | (with_reducible first | exact HB.out | apply zC | apply zB | apply zD | refine zF ?_ GE101.out) | exact HB.out)⟩
  · rw [if_neg c4] at H
    have c4b0 : (t102 == 0) = false := beq_eq_false_iff_ne.mpr c4
    have c4b1 : (t102 != 0) = true := bne_iff_ne.mpr c4
    simp only [Option.some.injEq, Prod.mk.injEq] at H
    obtain ⟨rfl, rfl⟩ := H
    go_enter Try.func32, Try.ntmps32
    go_wp2_with (first | ((with_reducible refine zj (N := 2) rfl ?_); refine zl ?hg (N := 2) ?hd (cs := #[.slice A0_0 l0_0.length c0_0]) (t := 30) ?hr ?_; (case hd => rfl); (case hg => rfl); (case hr => first | (go_simp; done) | (go_simp; rfl)); intro gb101 hg w19 hbox hb; have n0_ := zA.mk (zN (by repeat (first | (with_reducible first | exact HB.out | apply zC | apply zB | apply zD) | exact HB.out)) hb); have n1_ := zA.mk (hbox); have n2_ := zA.mk ((by rw [hg]; exact (zO (by repeat (first | (with_reducible first | exact HB.out | apply zC | apply zB | apply zD) | exact HB.out))) : w.heap.size ≤ gb101)); have n3_ := zA.mk ((by rw [hg]; exact (zO (by repeat (first | (with_reducible first | exact HB.out | apply zC | apply zB | apply zD) | exact HB.out))) : w.heap.size ≤ gb101)); clear HB; have HB := n0_; have BK101 := n1_; have GW101 := n2_; have GE101 := n3_; clear n0_ n1_ n2_ n3_; clear hb hbox hg; have hcz20_0 : w19.cell? ⟨gb101, 0, none⟩ = some (.slice A0_0 l0_0.length c0_0) := (zL BK101.out 0).trans rfl; have hfz20_0 := zM BK101.out 0) | ((with_reducible refine zU (f := 58) rfl ?_); refine qF (some 8) rfl rfl Try.func58 (by kernel_rfl) rfl #[.agg #[.slice A0_0 l0_0.length c0_0]] rfl (by (try simp only [yiy, yjy, yky]); first | done | rfl | (simp only [yly, ymy]; rfl)) ?_; (with_reducible refine (ZH.calls k _ _ l0_0 t102 _ ?side1 ?side2 A3.out).mono ?_); (case side1 => repeat (first | exact (Kd.zn HR0_0.out HB.out) | (with_reducible refine Kd.zo ?_ _) | (with_reducible refine Kd.zp ?_ _) | (with_reducible refine Kd.qH ?_))); (case side2 => exact HC0_0.out); rintro e w21 ⟨rfl, hb⟩; refine ⟨_, rfl, ?_⟩; have n0_ := zA.mk (zP (g := gb101) (o := .cells #[.slice A0_0 l0_0.length c0_0] 30 (0, 0)) (by (with_reducible repeat (first | refine zI ?_ _ | refine zK ?_ | refine zH ?_ _)); exact BK101.out) hb); have n1_ := zA.mk (zN (by repeat (first | (with_reducible first | exact HB.out | apply zC | apply zB | apply zD | refine zF ?_ GE101.out) | exact HB.out)) hb); clear BK101; clear HB; have BK101 := n0_; have HB := n1_; clear n0_ n1_; (try clear hb); (try clear hb2); (try clear hk); (try clear hi)))
    go_ret2
    exact ⟨_, by first | rfl | (simp [zS, zT] <;> rfl) | (simp [*, zS, zT] <;> rfl), by first | exact Kd.zAW _ _ _ _ _ | exact Kd.zE6 _ _ _ _ _ | exact Kd.zE7 _ _ _ _ _ | exact Kd.zDt _ _ _ _ _ | exact Kd.zE2 _ _ _ _ _, by repeat (first | (with_reducible first | exact HB.out | apply zC | apply zB | apply zD | refine zF ?_ GE101.out) | exact HB.out)⟩
end Go.Proofs.Ythjpdljdodalaaa.P
namespace Go.Proofs.Ythjpdljdodalaaa.Lib
open Go.RowKit Go.Proofs.YthjpdljdodalaaaW.PrintWords
set_option linter.unusedVariables false
section
variable {α : Type} {d : Kd α} {e b lo hi lo2 hi2 T : Nat} {w w' W : World} {v : Value} {xs ys : List α}
def ObS (d : Kd α) (e b : Nat) (w : World) (lo hi : Nat) (v : Value) (xs : List α) : Prop := hi ≤ w.heap.size ∧ Kd.S d e w b (fun k => lo ≤ k ∧ k < hi) v xs
def ObR (d : Kd α) (e b : Nat) (w : World) (lo hi : Nat) (v : Value) (xs : List α) : Prop := hi ≤ w.heap.size ∧ Kd.R d e w b (fun k => lo ≤ k ∧ k < hi) v xs
theorem size_set (w : World) (g i : Nat) (u : Value) : w.heap.size ≤ (w.setCell ⟨g, i, none⟩ u).heap.size := ((yry 0 w).setCell (Nat.zero_le _) u).size
theorem ObS.made (ho : Kd.S d e w' W.heap.size (fun _ => True) v xs) (hb : Below W.heap.size W w') (hT : T ≤ W.heap.size) (hB : b ≤ W.heap.size) : ∃ lo hi, (T ≤ lo ∧ lo ≤ hi) ∧ hi ≤ w'.heap.size ∧ ObS d e b w' lo hi v xs :=
  ⟨W.heap.size, w'.heap.size, ⟨hT, hb.size⟩, yqy _, yqy _, Kd.Jb (Kd.ZX (Kd.zE3 ho) (fun k hk => ⟨hk.2.1, hk.2.2.1⟩)) hB⟩
theorem ObR.made (ho : Kd.R d e w' W.heap.size (fun _ => True) v xs) (hb : Below W.heap.size W w') (hT : T ≤ W.heap.size) (hB : b ≤ W.heap.size) : ∃ lo hi, (T ≤ lo ∧ lo ≤ hi) ∧ hi ≤ w'.heap.size ∧ ObR d e b w' lo hi v xs :=
  ⟨W.heap.size, w'.heap.size, ⟨hT, hb.size⟩, yqy _, yqy _, Kd.ZM (Kd.qR (Kd.Zv ho) (fun k hk => ⟨hk.2.1, hk.2.2.1⟩)) hB⟩
theorem ObS.below (h : ObS d e b w lo hi v xs) (hb : Below w.heap.size w w') : ObS d e b w' lo hi v xs := ⟨Nat.le_trans h.1 hb.size, Kd.Zw h.2 hb⟩
theorem ObR.below (h : ObR d e b w lo hi v xs) (hb : Below w.heap.size w w') : ObR d e b w' lo hi v xs := ⟨Nat.le_trans h.1 hb.size, Kd.Zd h.2 hb⟩
theorem ObS.drew (h : ObS d e b w lo hi v xs) : ObS d e b w.drew lo hi v xs := ⟨h.1, Kd.qb h.2⟩
theorem ObR.drew (h : ObR d e b w lo hi v xs) : ObR d e b w.drew lo hi v xs := ⟨h.1, Kd.zx h.2⟩
theorem ObS.far {g i : Nat} (h : ObS d e b w lo hi v xs) (hg : g < lo ∨ hi ≤ g) (u : Value) : ObS d e b (w.setCell ⟨g, i, none⟩ u) lo hi v xs :=
  ⟨Nat.le_trans h.1 (size_set _ _ _ _), Kd.zAe h.2 (fun k hk => by show k ≠ g; have := hk.1; have := hk.2; omega) u⟩
theorem ObR.far {g i : Nat} (h : ObR d e b w lo hi v xs) (hg : g < lo ∨ hi ≤ g) (u : Value) : ObR d e b (w.setCell ⟨g, i, none⟩ u) lo hi v xs :=
  ⟨Nat.le_trans h.1 (size_set _ _ _ _), Kd.zBY h.2 (fun k hk => by show k ≠ g; have := hk.1; have := hk.2; omega) u⟩
theorem ObS.kept (h : ObS d e b w lo hi v xs) (hk : Kept w w' (fun k => lo2 ≤ k ∧ k < hi2)) (hd : hi ≤ lo2 ∨ hi2 ≤ lo) : ObS d e b w' lo hi v xs :=
  ⟨Nat.le_trans h.1 hk.1, Kd.S_kept h.2 hk (fun k h1 h2 => by have := h1.1; have := h1.2; have := h2.1; have := h2.2; omega)⟩
theorem ObR.kept (h : ObR d e b w lo hi v xs) (hk : Kept w w' (fun k => lo2 ≤ k ∧ k < hi2)) (hd : hi ≤ lo2 ∨ hi2 ≤ lo) : ObR d e b w' lo hi v xs :=
  ⟨Nat.le_trans h.1 hk.1, Kd.R_kept h.2 hk (fun k h1 h2 => by have := h1.1; have := h1.2; have := h2.1; have := h2.2; omega)⟩
theorem ObS.slice (h : ObS d e b w lo hi v xs) : ∃ A c, v = .slice A xs.length c := Kd.Qw h.2
theorem ObR.slice (h : ObR d e b w lo hi v xs) : ∃ A c, v = .slice A xs.length c := Kd.ZU h.2
theorem ObS.reads {A : Option Addr} {n c : Nat} (h : ObS d e b w lo hi (.slice A n c) xs) : n = xs.length ∧ n ≤ c ∧ d.C w A xs.length xs := Kd.Zz h.2
theorem ObR.reads {A : Option Addr} {n c : Nat} (h : ObR d e b w lo hi (.slice A n c) xs) : n = xs.length ∧ n ≤ c ∧ d.C w A xs.length xs := Kd.qE h.2
theorem ObS.room {A : Option Addr} {n c : Nat} (h : ObS d e b w lo hi (.slice A n c) xs) : xs.length ≤ c := by have := h.reads; omega
theorem ObR.room {A : Option Addr} {n c : Nat} (h : ObR d e b w lo hi (.slice A n c) xs) : xs.length ≤ c := by have := h.reads; omega
theorem ObR.marked {ok' : Nat → Prop} (h : ObR d e b w lo hi v xs) (hE : d.E = []) (hy : Kd.R d e w' b ok' v ys) (hs : w.heap.size ≤ w'.heap.size) : ObR d e b w' lo hi v ys :=
  ⟨Nat.le_trans h.1 hs, Kd.zF7 hE hy (fun k e => h.2.1 k e)⟩
theorem ObS.marked (h : ObS d e b w lo hi v xs) (hy : Kd.S d e w' b (fun k => lo ≤ k ∧ k < hi) v ys) (hs : w.heap.size ≤ w'.heap.size) : ObS d e b w' lo hi v ys := ⟨Nat.le_trans h.1 hs, hy⟩
theorem ObR.range (h : ObR d e b w lo hi v xs) (hk : Kept w w' (fun k_ => some k_ = v.ownBlock)) : Kept w w' (fun k => lo ≤ k ∧ k < hi) := hk.mono (fun k e => h.2.1 k e.symm)
theorem ObS.row (h : ObS d e b w lo hi v xs) : Kd.S d e w b (fun k => lo ≤ k ∧ k < hi) v xs := h.2
theorem ObR.row (h : ObR d e b w lo hi v xs) : Kd.R d e w b (fun k => lo ≤ k ∧ k < hi) v xs := h.2
theorem Zk {n : Nat} (h : w' = w.drewN n) : Below w.heap.size w w' := h ▸ zB (yry _ _) n
theorem qn (h : T ≤ w.heap.size) (hb : Below w.heap.size w w') : T ≤ w'.heap.size := Nat.le_trans h hb.size
theorem zEr (h : T ≤ w.heap.size) : T ≤ w.drew.heap.size := h
theorem zEF {g i : Nat} {u : Value} (h : T ≤ w.heap.size) : T ≤ (w.setCell ⟨g, i, none⟩ u).heap.size := Nat.le_trans h (size_set _ _ _ _)
end
end Go.Proofs.Ythjpdljdodalaaa.Lib
namespace Go.Proofs.Ythjpdljdodalaaa.P
open Go.RowKit Go.Proofs.YthjpdljdodalaaaW.PrintWords Go.Proofs.YthjpdljdodalaaaW.PrintLast Go.Proofs.YthjpdljdodalaaaW.PrintMore
attribute [local go_sem] QP QQ Ql Qm Zx Zy QR QS
set_option linter.unusedVariables false
set_option linter.unusedSimpArgs false
open Go.Proofs.Ythjpdljdodalaaa.Lib
def ZR.f (k : Nat) (l0 : List (List (qP))) (l1 : List Int) : Option Bool := if (l1.length : Int) > 1048576 then some true else (ZG.f k l0 1048576).bind fun t3 => if t3 < 0 then some true else (qY.f k l0).bind fun t6 => (qJ.f k l1).bind fun t9 => (QD.f k t6 t9).bind fun bt5 => (qY.f k l0).bind fun t16 => (qJ.f k l1).bind fun t19 => (Zh.f k t16 t19).bind fun bt8 => (qN.f k bt8.1 bt5.1).bind fun t26 => if t26 = true then if bt8.2 = bt5.2 then (qY.f k l0).bind fun t29 => (ZQ.f k t16 t29).bind fun t32 => if t32 = true then (qJ.f k l1).bind fun t34 => (qN.f k t19 t34).bind fun t37 => if t37 = true then (ZJ.f k t16 1).bind fun bt18 => (qO.f k t19 bt18.1).bind fun bt19 => if bt19.1 < 0 then some false else (qN.f k bt8.1 bt5.1).bind fun t46 => if t46 = true then if bt8.2 = bt5.2 then (qO.f k bt8.1 1).bind fun bt24 => (qS.f k bt24.2 1).bind fun t52 => if t52 < 0 then some false else if t52 = bt24.1 then (qY.f k l0).bind fun t56 => (qJ.f k l1).bind fun t59 => (Zh.f k t56 t59).bind fun bt30 => (qN.f k bt30.1 bt5.1).bind fun t66 => if t66 = true then if bt30.2 = bt5.2 then (qS.f k bt24.2 1).bind fun t69 => if t69 < 0 then some false else if t69 = bt24.1 then some true else some false else some false else some false else some false else some false else some false else some false else some false else some false else some false
set_option maxHeartbeats 8000000 in
set_option maxRecDepth 100000 in
theorem ZR.calls (k : Nat) (A0 : Option Addr) (c0 : Nat) (l0 : List (List (qP))) (A1 : Option Addr) (c1 : Nat) (l1 : List Int) (w : World) (hr0 : Kd.C (Kd.slice 136 Zr) w A0 l0.length l0) (hc0 : l0.length ≤ c0) (hr1 : Kd.C (Kd.int .i64) w A1 l1.length l1) (hc1 : l1.length ≤ c1) (h : ZR.f k l0 l1 = some true) :
 Calls Try.prog 7 #[.agg #[.slice A0 l0.length c0], .slice A1 l1.length c1] w fun e w' => e = .returned (.bool true) ∧ Below w.heap.size w w' := by
 have hu24 := Try.underlying24
 have hu30 := Try.underlying30
 have HR0 := zA.mk hr0
 have HC0 := zA.mk hc0
 have HR1 := zA.mk hr1
 have HC1 := zA.mk hc1
 clear hr0 hc0 hr1 hc1
 have HB := zA.mk (yry w.heap.size w)
 have HT := zA.mk (yqy w.heap.size)
 have H := h
 clear h
 unfold ZR.f at H
 by_cases cC1 : (l1.length : Int) > 1048576
 next =>
  have dC1 : decide ((l1.length : Int) > 1048576) = true := ygy cC1; have e0C1 : decide (1048576 < (l1.length : Int)) = true := ygy (by omega); have e1C1 : decide (1048576 < l1.length) = true := ygy (by omega)
  clear cC1 H
  go_enter Try.func7, Try.ntmps7
  try go_wp2_with (first | ((with_reducible refine zj (N := 2) rfl ?_); refine zl ?hg (N := 2) ?hd (cs := #[.slice A0 l0.length c0]) (t := 24) ?hr ?_; (case hd => rfl); (case hg => rfl); (case hr => first | (go_simp; done) | (go_simp; rfl)); intro g2 hg w1 hbox hb; have HNg2 := zA.mk (by rw [hg]; exact HT.out : w.heap.size ≤ g2); have HXg2 := zA.mk (show g2 + 1 ≤ w1.heap.size from qZ hbox); have nHB := zA.mk (zN HB.out hb); have nHT := zA.mk (qn HT.out hb); clear HB HT  ; have HB := nHB; have HT := nHT; clear nHB nHT  ; clear HT; have HT := HXg2; clear HXg2; have BKg2 := zA.mk hbox; clear hg hbox hb; have hczg2 : w1.cell? ⟨g2, 0, none⟩ = some (.slice A0 l0.length c0) := (zL BKg2.out 0).trans rfl; have hfzg2 := zM BKg2.out 0))
  go_ret
  exact ⟨by first | rfl | (simp <;> rfl), HB.out⟩
 rw [if_neg cC1] at H
 have dC1 : decide ((l1.length : Int) > 1048576) = false := yhy cC1; have e0C1 : decide (1048576 < (l1.length : Int)) = false := yhy (by omega); have e1C1 : decide (1048576 < l1.length) = false := yhy (by omega)
 clear cC1
 obtain ⟨t3, H20, H⟩ := ydy.mp H
 have H2 := zA.mk H20
 clear H20
 by_cases cC4 : t3 < 0
 next =>
  have dC4 : decide (t3 < 0) = true := ygy cC4
  clear cC4 H
  go_enter Try.func7, Try.ntmps7
  try go_wp2_with (first | ((with_reducible refine zj (N := 2) rfl ?_); refine zl ?hg (N := 2) ?hd (cs := #[.slice A0 l0.length c0]) (t := 24) ?hr ?_; (case hd => rfl); (case hg => rfl); (case hr => first | (go_simp; done) | (go_simp; rfl)); intro g2 hg w1 hbox hb; have HNg2 := zA.mk (by rw [hg]; exact HT.out : w.heap.size ≤ g2); have HXg2 := zA.mk (show g2 + 1 ≤ w1.heap.size from qZ hbox); have nHB := zA.mk (zN HB.out hb); have nHT := zA.mk (qn HT.out hb); clear HB HT  ; have HB := nHB; have HT := nHT; clear nHB nHT  ; clear HT; have HT := HXg2; clear HXg2; have BKg2 := zA.mk hbox; clear hg hbox hb; have hczg2 : w1.cell? ⟨g2, 0, none⟩ = some (.slice A0 l0.length c0) := (zL BKg2.out 0).trans rfl; have hfzg2 := zM BKg2.out 0) | ((with_reducible refine zU (f := 15) rfl ?_); refine qF (some 22) rfl rfl Try.func15 (by kernel_rfl) rfl #[.agg #[.slice A0 l0.length c0], .int .i64 1048576] rfl (by (try simp only [yiy, yjy, yky]); first | done | rfl | (simp only [yly, ymy]; rfl)) ?_; (with_reducible refine (ZG.calls k _ _ l0 1048576 t3 _ ?side1 ?side2 H2.out).mono ?_); (case side1 => exact Kd.zn HR0.out HB.out); (case side2 => exact HC0.out); rintro e w2 ⟨rfl, hb⟩; refine ⟨_, rfl, ?_⟩; (try clear hczg2 hfzg2); have nBg2 := zA.mk (zP (g := g2) (o := .cells #[.slice A0 l0.length c0] 24 (0, 0)) BKg2.out hb); have nHB := zA.mk (zN HB.out hb); have nHT := zA.mk (qn HT.out hb); clear HB HT  BKg2; have BKg2 := nBg2; have HB := nHB; have HT := nHT; clear nHB nHT  nBg2; (try clear hb); (try clear hnd); have hczg2 : w2.cell? ⟨g2, 0, none⟩ = some (.slice A0 l0.length c0) := (zL BKg2.out 0).trans rfl; have hfzg2 := zM BKg2.out 0))
  go_ret
  exact ⟨by first | rfl | (simp <;> rfl), HB.out⟩
 rw [if_neg cC4] at H
 have dC4 : decide (t3 < 0) = false := yhy cC4
 clear cC4
 obtain ⟨t6, H50, H⟩ := ydy.mp H
 have H5 := zA.mk H50
 clear H50
 obtain ⟨t9, H80, H⟩ := ydy.mp H
 have H8 := zA.mk H80
 clear H80
 obtain ⟨⟨t12, t14⟩, H110, H⟩ := ydy.mp H
 have H11 := zA.mk H110
 clear H110
 obtain ⟨t16, H150, H⟩ := ydy.mp H
 have H15 := zA.mk H150
 clear H150
 obtain ⟨t19, H180, H⟩ := ydy.mp H
 have H18 := zA.mk H180
 clear H180
 obtain ⟨⟨t22, t24⟩, H210, H⟩ := ydy.mp H
 have H21 := zA.mk H210
 clear H210
 obtain ⟨t26, H250, H⟩ := ydy.mp H
 obtain rfl : t26 = true := by cases t26 with | true => rfl | false => exact absurd H (by simp)
 replace H := H
 have H25 := zA.mk H250
 clear H250
 rw [if_pos rfl] at H
 have cC27 : t24 = t14 := by by_cases c_ : t24 = t14; exact c_; rw [if_neg c_] at H; cases H
 rw [if_pos cC27] at H
 have dC27 : (t24 != t14) = false := by rw [cC27]; exact bne_self_eq_false _
 clear cC27
 obtain ⟨t29, H280, H⟩ := ydy.mp H
 have H28 := zA.mk H280
 clear H280
 obtain ⟨t32, H310, H⟩ := ydy.mp H
 obtain rfl : t32 = true := by cases t32 with | true => rfl | false => exact absurd H (by simp)
 replace H := H
 have H31 := zA.mk H310
 clear H310
 rw [if_pos rfl] at H
 obtain ⟨t34, H330, H⟩ := ydy.mp H
 have H33 := zA.mk H330
 clear H330
 obtain ⟨t37, H360, H⟩ := ydy.mp H
 obtain rfl : t37 = true := by cases t37 with | true => rfl | false => exact absurd H (by simp)
 replace H := H
 have H36 := zA.mk H360
 clear H360
 rw [if_pos rfl] at H
 obtain ⟨⟨m39, y40⟩, H380, H⟩ := ydy.mp H
 have H38 := zA.mk H380
 clear H380
 dsimp only at H
 obtain ⟨⟨m42, y43⟩, H410, H⟩ := ydy.mp H
 have H41 := zA.mk H410
 clear H410
 dsimp only at H
 have cC44 : ¬ (m42 < 0) := fun c_ => by rw [if_pos c_] at H; cases H
 rw [if_neg cC44] at H
 have dC44 : decide (m42 < 0) = false := yhy cC44
 clear cC44
 obtain ⟨t46, H450, H⟩ := ydy.mp H
 obtain rfl : t46 = true := by cases t46 with | true => rfl | false => exact absurd H (by simp)
 replace H := H
 have H45 := zA.mk H450
 clear H450
 rw [if_pos rfl] at H
 have cC47 : t24 = t14 := by by_cases c_ : t24 = t14; exact c_; rw [if_neg c_] at H; cases H
 rw [if_pos cC47] at H
 have dC47 : (t24 != t14) = false := by rw [cC47]; exact bne_self_eq_false _
 clear cC47
 obtain ⟨⟨m49, y50⟩, H480, H⟩ := ydy.mp H
 have H48 := zA.mk H480
 clear H480
 dsimp only at H
 obtain ⟨t52, H510, H⟩ := ydy.mp H
 have H51 := zA.mk H510
 clear H510
 have cC53 : ¬ (t52 < 0) := fun c_ => by rw [if_pos c_] at H; cases H
 rw [if_neg cC53] at H
 have dC53 : decide (t52 < 0) = false := yhy cC53
 clear cC53
 have cC54 : t52 = m49 := by by_cases c_ : t52 = m49; exact c_; rw [if_neg c_] at H; cases H
 rw [if_pos cC54] at H
 have dC54 : (t52 != m49) = false := by rw [cC54]; exact bne_self_eq_false _
 clear cC54
 obtain ⟨t56, H550, H⟩ := ydy.mp H
 have H55 := zA.mk H550
 clear H550
 obtain ⟨t59, H580, H⟩ := ydy.mp H
 have H58 := zA.mk H580
 clear H580
 obtain ⟨⟨t62, t64⟩, H610, H⟩ := ydy.mp H
 have H61 := zA.mk H610
 clear H610
 obtain ⟨t66, H650, H⟩ := ydy.mp H
 obtain rfl : t66 = true := by cases t66 with | true => rfl | false => exact absurd H (by simp)
 replace H := H
 have H65 := zA.mk H650
 clear H650
 rw [if_pos rfl] at H
 have cC67 : t64 = t14 := by by_cases c_ : t64 = t14; exact c_; rw [if_neg c_] at H; cases H
 rw [if_pos cC67] at H
 have dC67 : (t64 != t14) = false := by rw [cC67]; exact bne_self_eq_false _
 clear cC67
 obtain ⟨t69, H680, H⟩ := ydy.mp H
 have H68 := zA.mk H680
 clear H680
 have cC70 : ¬ (t69 < 0) := fun c_ => by rw [if_pos c_] at H; cases H
 rw [if_neg cC70] at H
 have dC70 : decide (t69 < 0) = false := yhy cC70
 clear cC70
 have cC71 : t69 = m49 := by by_cases c_ : t69 = m49; exact c_; rw [if_neg c_] at H; cases H
 rw [if_pos cC71] at H
 have dC71 : (t69 != m49) = false := by rw [cC71]; exact bne_self_eq_false _
 clear cC71
 clear H
 go_enter Try.func7, Try.ntmps7
 try go_wp2_with (first | ((with_reducible refine zj (N := 2) rfl ?_); refine zl ?hg (N := 2) ?hd (cs := #[.slice A0 l0.length c0]) (t := 24) ?hr ?_; (case hd => rfl); (case hg => rfl); (case hr => first | (go_simp; done) | (go_simp; rfl)); intro g2 hg w1 hbox hb; have HNg2 := zA.mk (by rw [hg]; exact HT.out : w.heap.size ≤ g2); have HXg2 := zA.mk (show g2 + 1 ≤ w1.heap.size from qZ hbox); have nHB := zA.mk (zN HB.out hb); have nHT := zA.mk (qn HT.out hb); clear HB HT  ; have HB := nHB; have HT := nHT; clear nHB nHT  ; clear HT; have HT := HXg2; clear HXg2; have BKg2 := zA.mk hbox; clear hg hbox hb; have hczg2 : w1.cell? ⟨g2, 0, none⟩ = some (.slice A0 l0.length c0) := (zL BKg2.out 0).trans rfl; have hfzg2 := zM BKg2.out 0) | ((with_reducible refine zU (f := 15) rfl ?_); refine qF (some 22) rfl rfl Try.func15 (by kernel_rfl) rfl #[.agg #[.slice A0 l0.length c0], .int .i64 1048576] rfl (by (try simp only [yiy, yjy, yky]); first | done | rfl | (simp only [yly, ymy]; rfl)) ?_; (with_reducible refine (ZG.calls k _ _ l0 1048576 t3 _ ?side1 ?side2 H2.out).mono ?_); (case side1 => exact Kd.zn HR0.out HB.out); (case side2 => exact HC0.out); rintro e w2 ⟨rfl, hb⟩; refine ⟨_, rfl, ?_⟩; (try clear hczg2 hfzg2); have nBg2 := zA.mk (zP (g := g2) (o := .cells #[.slice A0 l0.length c0] 24 (0, 0)) BKg2.out hb); have nHB := zA.mk (zN HB.out hb); have nHT := zA.mk (qn HT.out hb); clear HB HT  BKg2; have BKg2 := nBg2; have HB := nHB; have HT := nHT; clear nHB nHT  nBg2; (try clear hb); (try clear hnd); have hczg2 : w2.cell? ⟨g2, 0, none⟩ = some (.slice A0 l0.length c0) := (zL BKg2.out 0).trans rfl; have hfzg2 := zM BKg2.out 0) | ((with_reducible refine zU (f := 17) rfl ?_); refine qF (some 27) rfl rfl Try.func17 (by kernel_rfl) rfl #[.agg #[.slice A0 l0.length c0]] rfl (by (try simp only [yiy, yjy, yky]); first | done | rfl | (simp only [yly, ymy]; rfl)) ?_; (with_reducible refine (qY.calls k _ _ l0 t6 _ ?side1 ?side2 H5.out).mono ?_); (case side1 => exact Kd.zn HR0.out HB.out); (case side2 => exact HC0.out); rintro e w3 ⟨vo7, rfl, ho0, hb⟩; refine ⟨_, rfl, ?_⟩; (try clear hczg2 hfzg2); obtain ⟨loo7, hio7, hno7⟩ := ObS.made ho0 hb HT.out (zO HB.out); have nBg2 := zA.mk (zP (g := g2) (o := .cells #[.slice A0 l0.length c0] 24 (0, 0)) BKg2.out hb); have nHB := zA.mk (zN HB.out hb); have nHT := zA.mk (qn HT.out hb); clear HB HT  BKg2; have BKg2 := nBg2; have HB := nHB; have HT := nHT; clear nHB nHT  nBg2; have HNo7 := zA.mk hno7.1; clear HT; have HT := zA.mk hno7.2.1; have HOo7 := zA.mk hno7.2.2; clear hno7 ho0; obtain ⟨Ao7, co7, eeo7⟩ := HOo7.out.slice; subst eeo7; (try clear hb); (try clear hnd); have hczg2 : w3.cell? ⟨g2, 0, none⟩ = some (.slice A0 l0.length c0) := (zL BKg2.out 0).trans rfl; have hfzg2 := zM BKg2.out 0) | ((with_reducible refine zU (f := 18) rfl ?_); refine qF (some 29) rfl rfl Try.func18 (by kernel_rfl) rfl #[.slice A1 l1.length c1] rfl (by (try simp only [yiy, yjy, yky]); first | done | rfl | (simp only [yly, ymy]; rfl)) ?_; (with_reducible refine (qJ.calls k _ _ l1 t9 _ ?side1 ?side2 H8.out).mono ?_); (case side1 => exact Kd.zn HR1.out HB.out); (case side2 => exact HC1.out); rintro e w4 ⟨vo10, rfl, ho0, hb⟩; refine ⟨_, rfl, ?_⟩; (try clear hczg2 hfzg2); obtain ⟨loo10, hio10, hno10⟩ := ObR.made ho0 hb HT.out (zO HB.out); have nOo7 := zA.mk (ObS.below HOo7.out hb); have nBg2 := zA.mk (zP (g := g2) (o := .cells #[.slice A0 l0.length c0] 24 (0, 0)) BKg2.out hb); have nHB := zA.mk (zN HB.out hb); have nHT := zA.mk (qn HT.out hb); clear HB HT HOo7 BKg2; have HOo7 := nOo7; have BKg2 := nBg2; have HB := nHB; have HT := nHT; clear nHB nHT nOo7 nBg2; have HNo10 := zA.mk hno10.1; clear HT; have HT := zA.mk hno10.2.1; have HOo10 := zA.mk hno10.2.2; clear hno10 ho0; obtain ⟨Ao10, co10, eeo10⟩ := HOo10.out.slice; subst eeo10; (try clear hb); (try clear hnd); have hczg2 : w4.cell? ⟨g2, 0, none⟩ = some (.slice A0 l0.length c0) := (zL BKg2.out 0).trans rfl; have hfzg2 := zM BKg2.out 0) | ((with_reducible refine zU (f := 32) rfl ?_); refine qF (some 30) rfl rfl Try.func32 (by kernel_rfl) rfl #[.agg #[.slice Ao7 t6.length co7], .slice Ao10 t9.length co10] rfl (by (try simp only [yiy, yjy, yky]); first | done | rfl | (simp only [yly, ymy]; rfl)) ?_; (with_reducible refine (QD.calls k _ _ t6 _ _ t9 t12 t14 _ ?side1 ?side2 ?side3 ?side4 H11.out).mono ?_); (case side1 => exact (ObS.reads HOo7.out).2.2); (case side2 => exact ObS.room HOo7.out); (case side3 => exact (ObR.reads HOo10.out).2.2); (case side4 => exact ObR.room HOo10.out); rintro e w5 ⟨vo13, rfl, ho0, hb⟩; refine ⟨_, rfl, ?_⟩; (try clear hczg2 hfzg2); obtain ⟨loo13, hio13, hno13⟩ := ObR.made ho0 hb HT.out (zO HB.out); have nOo7 := zA.mk (ObS.below HOo7.out hb); have nOo10 := zA.mk (ObR.below HOo10.out hb); have nBg2 := zA.mk (zP (g := g2) (o := .cells #[.slice A0 l0.length c0] 24 (0, 0)) BKg2.out hb); have nHB := zA.mk (zN HB.out hb); have nHT := zA.mk (qn HT.out hb); clear HB HT HOo7 HOo10 BKg2; have HOo7 := nOo7; have HOo10 := nOo10; have BKg2 := nBg2; have HB := nHB; have HT := nHT; clear nHB nHT nOo7 nOo10 nBg2; have HNo13 := zA.mk hno13.1; clear HT; have HT := zA.mk hno13.2.1; have HOo13 := zA.mk hno13.2.2; clear hno13 ho0; obtain ⟨Ao13, co13, eeo13⟩ := HOo13.out.slice; subst eeo13; (try clear hb); (try clear hnd); have hczg2 : w5.cell? ⟨g2, 0, none⟩ = some (.slice A0 l0.length c0) := (zL BKg2.out 0).trans rfl; have hfzg2 := zM BKg2.out 0) | ((with_reducible refine zU (f := 17) rfl ?_); refine qF (some 34) rfl rfl Try.func17 (by kernel_rfl) rfl #[.agg #[.slice A0 l0.length c0]] rfl (by (try simp only [yiy, yjy, yky]); first | done | rfl | (simp only [yly, ymy]; rfl)) ?_; (with_reducible refine (qY.calls k _ _ l0 t16 _ ?side1 ?side2 H15.out).mono ?_); (case side1 => exact Kd.zn HR0.out HB.out); (case side2 => exact HC0.out); rintro e w6 ⟨vo17, rfl, ho0, hb⟩; refine ⟨_, rfl, ?_⟩; (try clear hczg2 hfzg2); obtain ⟨loo17, hio17, hno17⟩ := ObS.made ho0 hb HT.out (zO HB.out); have nOo7 := zA.mk (ObS.below HOo7.out hb); have nOo10 := zA.mk (ObR.below HOo10.out hb); have nOo13 := zA.mk (ObR.below HOo13.out hb); have nBg2 := zA.mk (zP (g := g2) (o := .cells #[.slice A0 l0.length c0] 24 (0, 0)) BKg2.out hb); have nHB := zA.mk (zN HB.out hb); have nHT := zA.mk (qn HT.out hb); clear HB HT HOo7 HOo10 HOo13 BKg2; have HOo7 := nOo7; have HOo10 := nOo10; have HOo13 := nOo13; have BKg2 := nBg2; have HB := nHB; have HT := nHT; clear nHB nHT nOo7 nOo10 nOo13 nBg2; have HNo17 := zA.mk hno17.1; clear HT; have HT := zA.mk hno17.2.1; have HOo17 := zA.mk hno17.2.2; clear hno17 ho0; obtain ⟨Ao17, co17, eeo17⟩ := HOo17.out.slice; subst eeo17; (try clear hb); (try clear hnd); have hczg2 : w6.cell? ⟨g2, 0, none⟩ = some (.slice A0 l0.length c0) := (zL BKg2.out 0).trans rfl; have hfzg2 := zM BKg2.out 0) | ((with_reducible refine zj (N := 8) rfl ?_); refine zl ?hg (N := 8) ?hd (cs := #[.slice none 0 0]) (t := 30) ?hr ?_; (case hd => rfl); (case hg => rfl); (case hr => first | (go_simp; done) | (go_simp; rfl)); intro g8 hg w7 hbox hb; (try clear hczg2 hfzg2); have HNg8 := zA.mk (by rw [hg]; exact HT.out : hio17 ≤ g8); have HXg8 := zA.mk (show g8 + 1 ≤ w7.heap.size from qZ hbox); have nOo7 := zA.mk (ObS.below HOo7.out hb); have nOo10 := zA.mk (ObR.below HOo10.out hb); have nOo13 := zA.mk (ObR.below HOo13.out hb); have nOo17 := zA.mk (ObS.below HOo17.out hb); have nBg2 := zA.mk (zP (g := g2) (o := .cells #[.slice A0 l0.length c0] 24 (0, 0)) BKg2.out hb); have nHB := zA.mk (zN HB.out hb); have nHT := zA.mk (qn HT.out hb); clear HB HT HOo7 HOo10 HOo13 HOo17 BKg2; have HOo7 := nOo7; have HOo10 := nOo10; have HOo13 := nOo13; have HOo17 := nOo17; have BKg2 := nBg2; have HB := nHB; have HT := nHT; clear nHB nHT nOo7 nOo10 nOo13 nOo17 nBg2; clear HT; have HT := HXg8; clear HXg8; have BKg8 := zA.mk hbox; clear hg hbox hb; have hnbg8_g2 : g8 ≠ g2 := (by have := HNg2.out; have := HNo7.out; have := HNo10.out; have := HNo13.out; have := HNo17.out; have := HNg8.out; omega); have hnbg2_g8 : g2 ≠ g8 := (by have := HNg2.out; have := HNo7.out; have := HNo10.out; have := HNo13.out; have := HNo17.out; have := HNg8.out; omega); have hczg2 : w7.cell? ⟨g2, 0, none⟩ = some (.slice A0 l0.length c0) := (zL BKg2.out 0).trans rfl; have hfzg2 := zM BKg2.out 0; have hczg8 : w7.cell? ⟨g8, 0, none⟩ = some (.slice none 0 0) := (zL BKg8.out 0).trans rfl; have hfzg8 := zM BKg8.out 0) | ((with_reducible refine zU (f := 18) rfl ?_); refine qF (some 36) rfl rfl Try.func18 (by kernel_rfl) rfl #[.slice A1 l1.length c1] rfl (by (try simp only [yiy, yjy, yky]); first | done | rfl | (simp only [yly, ymy]; rfl)) ?_; (with_reducible refine (qJ.calls k _ _ l1 t19 _ ?side1 ?side2 H18.out).mono ?_); (case side1 => exact Kd.zn HR1.out (zF HB.out (show w.heap.size ≤ g8 from (by have := HNg2.out; have := HNo7.out; have := HNo10.out; have := HNo13.out; have := HNo17.out; have := HNg8.out; omega)))); (case side2 => exact HC1.out); rintro e w8 ⟨vo20, rfl, ho0, hb⟩; refine ⟨_, rfl, ?_⟩; (try clear hczg2 hfzg2 hczg8 hfzg8); obtain ⟨loo20, hio20, hno20⟩ := ObR.made ho0 hb (zEF HT.out) (zO (zF HB.out (show w.heap.size ≤ g8 from (by have := HNg2.out; have := HNo7.out; have := HNo10.out; have := HNo13.out; have := HNo17.out; have := HNg8.out; omega)))); have nOo7 := zA.mk (ObS.below (ObS.far (g := g8) (i := 0) HOo7.out (by have := HNg2.out; have := HNo7.out; have := HNo10.out; have := HNo13.out; have := HNo17.out; have := HNg8.out; omega) _) hb); have nOo10 := zA.mk (ObR.below (ObR.far (g := g8) (i := 0) HOo10.out (by have := HNg2.out; have := HNo7.out; have := HNo10.out; have := HNo13.out; have := HNo17.out; have := HNg8.out; omega) _) hb); have nOo13 := zA.mk (ObR.below (ObR.far (g := g8) (i := 0) HOo13.out (by have := HNg2.out; have := HNo7.out; have := HNo10.out; have := HNo13.out; have := HNo17.out; have := HNg8.out; omega) _) hb); have nOo17 := zA.mk (ObS.below (ObS.far (g := g8) (i := 0) HOo17.out (by have := HNg2.out; have := HNo7.out; have := HNo10.out; have := HNo13.out; have := HNo17.out; have := HNg8.out; omega) _) hb); have nBg2 := zA.mk (zP (g := g2) (o := .cells #[.slice A0 l0.length c0] 24 (0, 0)) (qU (p := ⟨g8, 0, none⟩) BKg2.out (show g2 ≠ g8 from (by have := HNg2.out; have := HNo7.out; have := HNo10.out; have := HNo13.out; have := HNo17.out; have := HNg8.out; omega)) _) hb); have nBg8 := zA.mk (zP (g := g8) (o := .cells #[.slice Ao17 t16.length co17] 30 (0, 0)) (qX (cs := #[.slice none 0 0]) BKg8.out 0 _ rfl) hb); have nHB := zA.mk (zN (zF HB.out (show w.heap.size ≤ g8 from (by have := HNg2.out; have := HNo7.out; have := HNo10.out; have := HNo13.out; have := HNo17.out; have := HNg8.out; omega))) hb); have nHT := zA.mk (qn (zEF HT.out) hb); clear HB HT HOo7 HOo10 HOo13 HOo17 BKg2 BKg8; have HOo7 := nOo7; have HOo10 := nOo10; have HOo13 := nOo13; have HOo17 := nOo17; have BKg2 := nBg2; have BKg8 := nBg8; have HB := nHB; have HT := nHT; clear nHB nHT nOo7 nOo10 nOo13 nOo17 nBg2 nBg8; have HNo20 := zA.mk hno20.1; clear HT; have HT := zA.mk hno20.2.1; have HOo20 := zA.mk hno20.2.2; clear hno20 ho0; obtain ⟨Ao20, co20, eeo20⟩ := HOo20.out.slice; subst eeo20; (try clear hb); (try clear hnd); have hczg2 : w8.cell? ⟨g2, 0, none⟩ = some (.slice A0 l0.length c0) := (zL BKg2.out 0).trans rfl; have hfzg2 := zM BKg2.out 0; have hczg8 : w8.cell? ⟨g8, 0, none⟩ = some (.slice Ao17 t16.length co17) := (zL BKg8.out 0).trans rfl; have hfzg8 := zM BKg8.out 0) | ((with_reducible refine zU (f := 33) rfl ?_); refine qF (some 40) rfl rfl Try.func33 (by kernel_rfl) rfl #[.agg #[.slice Ao17 t16.length co17], .slice Ao20 t19.length co20] rfl (by (try simp only [yiy, yjy, yky]); first | done | rfl | (simp only [yly, ymy]; rfl)) ?_; (with_reducible refine (Zh.calls k _ _ t16 _ _ t19 t22 t24 _ ?side1 ?side2 ?side3 ?side4 H21.out).mono ?_); (case side1 => exact (ObS.reads HOo17.out).2.2); (case side2 => exact ObS.room HOo17.out); (case side3 => exact (ObR.reads HOo20.out).2.2); (case side4 => exact ObR.room HOo20.out); rintro e w9 ⟨vo23, rfl, ho0, hb⟩; refine ⟨_, rfl, ?_⟩; (try clear hczg2 hfzg2 hczg8 hfzg8); obtain ⟨loo23, hio23, hno23⟩ := ObR.made ho0 hb HT.out (zO HB.out); have nOo7 := zA.mk (ObS.below HOo7.out hb); have nOo10 := zA.mk (ObR.below HOo10.out hb); have nOo13 := zA.mk (ObR.below HOo13.out hb); have nOo17 := zA.mk (ObS.below HOo17.out hb); have nOo20 := zA.mk (ObR.below HOo20.out hb); have nBg2 := zA.mk (zP (g := g2) (o := .cells #[.slice A0 l0.length c0] 24 (0, 0)) BKg2.out hb); have nBg8 := zA.mk (zP (g := g8) (o := .cells #[.slice Ao17 t16.length co17] 30 (0, 0)) BKg8.out hb); have nHB := zA.mk (zN HB.out hb); have nHT := zA.mk (qn HT.out hb); clear HB HT HOo7 HOo10 HOo13 HOo17 HOo20 BKg2 BKg8; have HOo7 := nOo7; have HOo10 := nOo10; have HOo13 := nOo13; have HOo17 := nOo17; have HOo20 := nOo20; have BKg2 := nBg2; have BKg8 := nBg8; have HB := nHB; have HT := nHT; clear nHB nHT nOo7 nOo10 nOo13 nOo17 nOo20 nBg2 nBg8; have HNo23 := zA.mk hno23.1; clear HT; have HT := zA.mk hno23.2.1; have HOo23 := zA.mk hno23.2.2; clear hno23 ho0; obtain ⟨Ao23, co23, eeo23⟩ := HOo23.out.slice; subst eeo23; (try clear hb); (try clear hnd); have hczg2 : w9.cell? ⟨g2, 0, none⟩ = some (.slice A0 l0.length c0) := (zL BKg2.out 0).trans rfl; have hfzg2 := zM BKg2.out 0; have hczg8 : w9.cell? ⟨g8, 0, none⟩ = some (.slice Ao17 t16.length co17) := (zL BKg8.out 0).trans rfl; have hfzg8 := zM BKg8.out 0) | ((with_reducible refine zU (f := 21) rfl ?_); refine qF (some 45) rfl rfl Try.func21 (by kernel_rfl) rfl #[.slice Ao23 t22.length co23, .slice Ao13 t12.length co13] rfl (by (try simp only [yiy, yjy, yky]); first | done | rfl | (simp only [yly, ymy]; rfl)) ?_; (with_reducible refine (qN.calls k _ _ t22 _ _ t12 true _ ?side1 ?side2 ?side3 ?side4 H25.out).mono ?_); (case side1 => exact (ObR.reads HOo23.out).2.2); (case side2 => exact ObR.room HOo23.out); (case side3 => exact (ObR.reads HOo13.out).2.2); (case side4 => exact ObR.room HOo13.out); rintro e w10 ⟨rfl, ⟨nd, hnd⟩⟩; refine ⟨_, rfl, ?_⟩; have hb := Zk hnd; (try clear hczg2 hfzg2 hczg8 hfzg8); have nOo7 := zA.mk (ObS.below HOo7.out hb); have nOo10 := zA.mk (ObR.below HOo10.out hb); have nOo13 := zA.mk (ObR.below HOo13.out hb); have nOo17 := zA.mk (ObS.below HOo17.out hb); have nOo20 := zA.mk (ObR.below HOo20.out hb); have nOo23 := zA.mk (ObR.below HOo23.out hb); have nBg2 := zA.mk (zP (g := g2) (o := .cells #[.slice A0 l0.length c0] 24 (0, 0)) BKg2.out hb); have nBg8 := zA.mk (zP (g := g8) (o := .cells #[.slice Ao17 t16.length co17] 30 (0, 0)) BKg8.out hb); have nHB := zA.mk (zN HB.out hb); have nHT := zA.mk (qn HT.out hb); clear HB HT HOo7 HOo10 HOo13 HOo17 HOo20 HOo23 BKg2 BKg8; have HOo7 := nOo7; have HOo10 := nOo10; have HOo13 := nOo13; have HOo17 := nOo17; have HOo20 := nOo20; have HOo23 := nOo23; have BKg2 := nBg2; have BKg8 := nBg8; have HB := nHB; have HT := nHT; clear nHB nHT nOo7 nOo10 nOo13 nOo17 nOo20 nOo23 nBg2 nBg8; (try clear hb); (try clear hnd); have hczg2 : w10.cell? ⟨g2, 0, none⟩ = some (.slice A0 l0.length c0) := (zL BKg2.out 0).trans rfl; have hfzg2 := zM BKg2.out 0; have hczg8 : w10.cell? ⟨g8, 0, none⟩ = some (.slice Ao17 t16.length co17) := (zL BKg8.out 0).trans rfl; have hfzg8 := zM BKg8.out 0))
 (try clear hczg2 hfzg2 hczg8 hfzg8)
 have nOo7 := zA.mk (ObS.drew HOo7.out)
 have nOo10 := zA.mk (ObR.drew HOo10.out)
 have nOo13 := zA.mk (ObR.drew HOo13.out)
 have nOo17 := zA.mk (ObS.drew HOo17.out)
 have nOo20 := zA.mk (ObR.drew HOo20.out)
 have nOo23 := zA.mk (ObR.drew HOo23.out)
 have nBg2 := zA.mk (zK BKg2.out)
 have nBg8 := zA.mk (zK BKg8.out)
 have nHB := zA.mk (zD HB.out)
 have nHT := zA.mk (zEr HT.out)
 clear HB HT HOo7 HOo10 HOo13 HOo17 HOo20 HOo23 BKg2 BKg8
 have HOo7 := nOo7
 have HOo10 := nOo10
 have HOo13 := nOo13
 have HOo17 := nOo17
 have HOo20 := nOo20
 have HOo23 := nOo23
 have BKg2 := nBg2
 have BKg8 := nBg8
 have HB := nHB
 have HT := nHT
 clear nHB nHT nOo7 nOo10 nOo13 nOo17 nOo20 nOo23 nBg2 nBg8
 refine Zn (n := 5) (S := fun w' => w'.cell? ⟨g8, 0, none⟩ = some (.slice Ao17 t16.length co17) ∧ w'.cell? ⟨g2, 0, none⟩ = some (.slice A0 l0.length c0)) (ds := []) #[false, false, false, false, false] (by kernel_rfl) rfl rfl ⟨(zL BKg8.out 0).trans rfl, (zL BKg2.out 0).trans rfl⟩ (fun hHeld => ?_)
 generalize hdr_ : World.drew _ = w11 at HOo7 HOo10 HOo13 HOo17 HOo20 HOo23 BKg2 BKg8 HB HT hHeld ⊢
 (try clear hdr_)
 refine qj (i := 0) (N := some 52) (v := ?_) (a' := ?_) #[true, false, false, false, false] rfl rfl (by kernel_rfl) (fun _ _ _ h => h) (Or.inl ⟨by rfl, ?_⟩) hHeld ?_ ?_
 rotate_left
 next =>
  rintro w' ⟨s0, s1⟩
  go_simp
  with_reducible rfl
 rotate_left
 next =>
  simp only [Act.put, yay, yby, ycy, zV, zW]
  rfl
 refine qj (i := 1) (N := some 53) (v := ?_) (a' := ?_) #[true, true, false, false, false] rfl rfl (by kernel_rfl) (fun _ _ _ h => h) (Or.inl ⟨by rfl, ?_⟩) hHeld ?_ ?_
 rotate_left
 next =>
  rintro w' ⟨s0, s1⟩
  go_simp
  with_reducible rfl
 rotate_left
 next =>
  simp only [Act.put, yay, yby, ycy, zV, zW]
  rfl
 refine zAJ (i := 2) (N := some 54) #[true, true, true, false, false] rfl rfl (by kernel_rfl) (by decide) (fun K hK => ?_)
 refine JE Try.func17 (by kernel_rfl) rfl #[.agg #[.slice A0 l0.length c0]] (by rfl) rfl rfl (by (try simp only [yiy, yjy, yky]); first | done | rfl | (simp only [yly, ymy]; rfl)) ?_
 with_reducible refine (qY.calls k _ _ l0 t29 _ ?side1 ?side2 H28.out).mono ?_
 (case side1 => exact Kd.zn HR0.out HB.out)
 (case side2 => exact HC0.out)
 rintro e w12 ⟨vo30, rfl, ho0, hb⟩
 refine ⟨_, rfl, ?_⟩
 (try clear hczg2 hfzg2 hczg8 hfzg8)
 obtain ⟨loo30, hio30, hno30⟩ := ObS.made ho0 hb HT.out (zO HB.out)
 have nOo7 := zA.mk (ObS.below HOo7.out hb)
 have nOo10 := zA.mk (ObR.below HOo10.out hb)
 have nOo13 := zA.mk (ObR.below HOo13.out hb)
 have nOo17 := zA.mk (ObS.below HOo17.out hb)
 have nOo20 := zA.mk (ObR.below HOo20.out hb)
 have nOo23 := zA.mk (ObR.below HOo23.out hb)
 have nBg2 := zA.mk (zP (g := g2) (o := .cells #[.slice A0 l0.length c0] 24 (0, 0)) BKg2.out hb)
 have nBg8 := zA.mk (zP (g := g8) (o := .cells #[.slice Ao17 t16.length co17] 30 (0, 0)) BKg8.out hb)
 have nHB := zA.mk (zN HB.out hb)
 have nHT := zA.mk (qn HT.out hb)
 clear HB HT HOo7 HOo10 HOo13 HOo17 HOo20 HOo23 BKg2 BKg8
 have HOo7 := nOo7
 have HOo10 := nOo10
 have HOo13 := nOo13
 have HOo17 := nOo17
 have HOo20 := nOo20
 have HOo23 := nOo23
 have BKg2 := nBg2
 have BKg8 := nBg8
 have HB := nHB
 have HT := nHT
 clear nHB nHT nOo7 nOo10 nOo13 nOo17 nOo20 nOo23 nBg2 nBg8
 have HNo30 := zA.mk hno30.1
 clear HT
 have HT := zA.mk hno30.2.1
 have HOo30 := zA.mk hno30.2.2
 clear hno30 ho0
 obtain ⟨Ao30, co30, eeo30⟩ := HOo30.out.slice
 subst eeo30
 (try clear hb)
 (try clear hnd)
 refine hK.out _ _ ⟨(zL BKg8.out 0).trans rfl, (zL BKg2.out 0).trans rfl⟩ (fun hHeld => ?_)
 clear hK K
 refine QH (a' := ?_) ?_ ?_
 rotate_left
 next =>
  show Act.put _ (some 54) _ = _
  simp only [Act.put, yay, yby, ycy, zV, zW]
  rfl
 refine zAJ (i := 3) (N := some 55) #[true, true, true, true, false] rfl rfl (by kernel_rfl) (by decide) (fun K hK => ?_)
 refine JE Try.func20 (by kernel_rfl) rfl #[.agg #[.slice Ao17 t16.length co17], .agg #[.slice Ao30 t29.length co30]] (by rfl) rfl rfl (by (try simp only [yiy, yjy, yky]); first | done | rfl | (simp only [yly, ymy]; rfl)) ?_
 with_reducible refine (ZQ.calls k _ _ t16 _ _ t29 true _ ?side1 ?side2 ?side3 ?side4 H31.out).mono ?_
 (case side1 => exact (ObS.reads HOo17.out).2.2)
 (case side2 => exact ObS.room HOo17.out)
 (case side3 => exact (ObS.reads HOo30.out).2.2)
 (case side4 => exact ObS.room HOo30.out)
 rintro e w13 ⟨rfl, hb⟩
 refine ⟨_, rfl, ?_⟩
 (try clear hczg2 hfzg2 hczg8 hfzg8)
 have nOo7 := zA.mk (ObS.below HOo7.out hb)
 have nOo10 := zA.mk (ObR.below HOo10.out hb)
 have nOo13 := zA.mk (ObR.below HOo13.out hb)
 have nOo17 := zA.mk (ObS.below HOo17.out hb)
 have nOo20 := zA.mk (ObR.below HOo20.out hb)
 have nOo23 := zA.mk (ObR.below HOo23.out hb)
 have nOo30 := zA.mk (ObS.below HOo30.out hb)
 have nBg2 := zA.mk (zP (g := g2) (o := .cells #[.slice A0 l0.length c0] 24 (0, 0)) BKg2.out hb)
 have nBg8 := zA.mk (zP (g := g8) (o := .cells #[.slice Ao17 t16.length co17] 30 (0, 0)) BKg8.out hb)
 have nHB := zA.mk (zN HB.out hb)
 have nHT := zA.mk (qn HT.out hb)
 clear HB HT HOo7 HOo10 HOo13 HOo17 HOo20 HOo23 HOo30 BKg2 BKg8
 have HOo7 := nOo7
 have HOo10 := nOo10
 have HOo13 := nOo13
 have HOo17 := nOo17
 have HOo20 := nOo20
 have HOo23 := nOo23
 have HOo30 := nOo30
 have BKg2 := nBg2
 have BKg8 := nBg8
 have HB := nHB
 have HT := nHT
 clear nHB nHT nOo7 nOo10 nOo13 nOo17 nOo20 nOo23 nOo30 nBg2 nBg8
 (try clear hb)
 (try clear hnd)
 refine hK.out _ _ ⟨(zL BKg8.out 0).trans rfl, (zL BKg2.out 0).trans rfl⟩ (fun hHeld => ?_)
 clear hK K
 refine QH (a' := ?_) ?_ ?_
 rotate_left
 next =>
  show Act.put _ (some 55) _ = _
  simp only [Act.put, yay, yby, ycy, zV, zW]
  rfl
 refine zb (i := 4) (N := some 56) (v := ?_) (a' := ?_) #[true, true, true, true, true] rfl rfl (by kernel_rfl) (fun _ _ _ h => h) (Or.inl ⟨by rfl, ?_⟩) ?_ ?_
 rotate_left
 next =>
  intro w'
  go_simp
  with_reducible rfl
 rotate_left
 next =>
  simp only [Act.put, yay, yby, ycy, zV, zW]
  rfl
 refine Qc (by kernel_rfl) ?_
 have hczg2 : w13.cell? ⟨g2, 0, none⟩ = some (.slice A0 l0.length c0) := (zL BKg2.out 0).trans rfl
 have hfzg2 := zM BKg2.out 0
 have hczg8 : w13.cell? ⟨g8, 0, none⟩ = some (.slice Ao17 t16.length co17) := (zL BKg8.out 0).trans rfl
 have hfzg8 := zM BKg8.out 0
 try go_wp2_with (first | ((with_reducible refine zU (f := 18) rfl ?_); refine qF (some 59) rfl rfl Try.func18 (by kernel_rfl) rfl #[.slice A1 l1.length c1] rfl (by (try simp only [yiy, yjy, yky]); first | done | rfl | (simp only [yly, ymy]; rfl)) ?_; (with_reducible refine (qJ.calls k _ _ l1 t34 _ ?side1 ?side2 H33.out).mono ?_); (case side1 => exact Kd.zn HR1.out HB.out); (case side2 => exact HC1.out); rintro e w14 ⟨vo35, rfl, ho0, hb⟩; refine ⟨_, rfl, ?_⟩; (try clear hczg2 hfzg2 hczg8 hfzg8); obtain ⟨loo35, hio35, hno35⟩ := ObR.made ho0 hb HT.out (zO HB.out); have nOo7 := zA.mk (ObS.below HOo7.out hb); have nOo10 := zA.mk (ObR.below HOo10.out hb); have nOo13 := zA.mk (ObR.below HOo13.out hb); have nOo17 := zA.mk (ObS.below HOo17.out hb); have nOo20 := zA.mk (ObR.below HOo20.out hb); have nOo23 := zA.mk (ObR.below HOo23.out hb); have nOo30 := zA.mk (ObS.below HOo30.out hb); have nBg2 := zA.mk (zP (g := g2) (o := .cells #[.slice A0 l0.length c0] 24 (0, 0)) BKg2.out hb); have nBg8 := zA.mk (zP (g := g8) (o := .cells #[.slice Ao17 t16.length co17] 30 (0, 0)) BKg8.out hb); have nHB := zA.mk (zN HB.out hb); have nHT := zA.mk (qn HT.out hb); clear HB HT HOo7 HOo10 HOo13 HOo17 HOo20 HOo23 HOo30 BKg2 BKg8; have HOo7 := nOo7; have HOo10 := nOo10; have HOo13 := nOo13; have HOo17 := nOo17; have HOo20 := nOo20; have HOo23 := nOo23; have HOo30 := nOo30; have BKg2 := nBg2; have BKg8 := nBg8; have HB := nHB; have HT := nHT; clear nHB nHT nOo7 nOo10 nOo13 nOo17 nOo20 nOo23 nOo30 nBg2 nBg8; have HNo35 := zA.mk hno35.1; clear HT; have HT := zA.mk hno35.2.1; have HOo35 := zA.mk hno35.2.2; clear hno35 ho0; obtain ⟨Ao35, co35, eeo35⟩ := HOo35.out.slice; subst eeo35; (try clear hb); (try clear hnd); have hczg2 : w14.cell? ⟨g2, 0, none⟩ = some (.slice A0 l0.length c0) := (zL BKg2.out 0).trans rfl; have hfzg2 := zM BKg2.out 0; have hczg8 : w14.cell? ⟨g8, 0, none⟩ = some (.slice Ao17 t16.length co17) := (zL BKg8.out 0).trans rfl; have hfzg8 := zM BKg8.out 0) | ((with_reducible refine zU (f := 21) rfl ?_); refine qF (some 60) rfl rfl Try.func21 (by kernel_rfl) rfl #[.slice Ao20 t19.length co20, .slice Ao35 t34.length co35] rfl (by (try simp only [yiy, yjy, yky]); first | done | rfl | (simp only [yly, ymy]; rfl)) ?_; (with_reducible refine (qN.calls k _ _ t19 _ _ t34 true _ ?side1 ?side2 ?side3 ?side4 H36.out).mono ?_); (case side1 => exact (ObR.reads HOo20.out).2.2); (case side2 => exact ObR.room HOo20.out); (case side3 => exact (ObR.reads HOo35.out).2.2); (case side4 => exact ObR.room HOo35.out); rintro e w15 ⟨rfl, ⟨nd, hnd⟩⟩; refine ⟨_, rfl, ?_⟩; have hb := Zk hnd; (try clear hczg2 hfzg2 hczg8 hfzg8); have nOo7 := zA.mk (ObS.below HOo7.out hb); have nOo10 := zA.mk (ObR.below HOo10.out hb); have nOo13 := zA.mk (ObR.below HOo13.out hb); have nOo17 := zA.mk (ObS.below HOo17.out hb); have nOo20 := zA.mk (ObR.below HOo20.out hb); have nOo23 := zA.mk (ObR.below HOo23.out hb); have nOo30 := zA.mk (ObS.below HOo30.out hb); have nOo35 := zA.mk (ObR.below HOo35.out hb); have nBg2 := zA.mk (zP (g := g2) (o := .cells #[.slice A0 l0.length c0] 24 (0, 0)) BKg2.out hb); have nBg8 := zA.mk (zP (g := g8) (o := .cells #[.slice Ao17 t16.length co17] 30 (0, 0)) BKg8.out hb); have nHB := zA.mk (zN HB.out hb); have nHT := zA.mk (qn HT.out hb); clear HB HT HOo7 HOo10 HOo13 HOo17 HOo20 HOo23 HOo30 HOo35 BKg2 BKg8; have HOo7 := nOo7; have HOo10 := nOo10; have HOo13 := nOo13; have HOo17 := nOo17; have HOo20 := nOo20; have HOo23 := nOo23; have HOo30 := nOo30; have HOo35 := nOo35; have BKg2 := nBg2; have BKg8 := nBg8; have HB := nHB; have HT := nHT; clear nHB nHT nOo7 nOo10 nOo13 nOo17 nOo20 nOo23 nOo30 nOo35 nBg2 nBg8; (try clear hb); (try clear hnd); have hczg2 : w15.cell? ⟨g2, 0, none⟩ = some (.slice A0 l0.length c0) := (zL BKg2.out 0).trans rfl; have hfzg2 := zM BKg2.out 0; have hczg8 : w15.cell? ⟨g8, 0, none⟩ = some (.slice Ao17 t16.length co17) := (zL BKg8.out 0).trans rfl; have hfzg8 := zM BKg8.out 0) | ((with_reducible refine zU (f := 25) rfl ?_); refine qF (some 64) rfl rfl Try.func25 (by kernel_rfl) rfl #[.agg #[.slice Ao17 t16.length co17], .int .i64 1] rfl (by (try simp only [yiy, yjy, yky]); first | done | rfl | (simp only [yly, ymy]; rfl)) ?_; (with_reducible refine (ZJ.calls k (fun k_ => loo17 ≤ k_ ∧ k_ < hio17) (.slice Ao17 t16.length co17) t16 1 m39 y40 w _ HB.out (ObS.row HOo17.out) H38.out).mono ?_); rintro e w16 ⟨rfl, hy, hb, hk0⟩; refine ⟨_, rfl, ?_⟩; have hk := hk0; have nM := zA.mk (ObS.marked HOo17.out hy hk.1); (try clear hczg2 hfzg2 hczg8 hfzg8); have nOo7 := zA.mk (ObS.kept HOo7.out hk (by have := HNg2.out; have := HNo7.out; have := HNo10.out; have := HNo13.out; have := HNo17.out; have := HNg8.out; have := HNo20.out; have := HNo23.out; have := HNo30.out; have := HNo35.out; omega)); have nOo10 := zA.mk (ObR.kept HOo10.out hk (by have := HNg2.out; have := HNo7.out; have := HNo10.out; have := HNo13.out; have := HNo17.out; have := HNg8.out; have := HNo20.out; have := HNo23.out; have := HNo30.out; have := HNo35.out; omega)); have nOo13 := zA.mk (ObR.kept HOo13.out hk (by have := HNg2.out; have := HNo7.out; have := HNo10.out; have := HNo13.out; have := HNo17.out; have := HNg8.out; have := HNo20.out; have := HNo23.out; have := HNo30.out; have := HNo35.out; omega)); have nOo20 := zA.mk (ObR.kept HOo20.out hk (by have := HNg2.out; have := HNo7.out; have := HNo10.out; have := HNo13.out; have := HNo17.out; have := HNg8.out; have := HNo20.out; have := HNo23.out; have := HNo30.out; have := HNo35.out; omega)); have nOo23 := zA.mk (ObR.kept HOo23.out hk (by have := HNg2.out; have := HNo7.out; have := HNo10.out; have := HNo13.out; have := HNo17.out; have := HNg8.out; have := HNo20.out; have := HNo23.out; have := HNo30.out; have := HNo35.out; omega)); have nOo30 := zA.mk (ObS.kept HOo30.out hk (by have := HNg2.out; have := HNo7.out; have := HNo10.out; have := HNo13.out; have := HNo17.out; have := HNg8.out; have := HNo20.out; have := HNo23.out; have := HNo30.out; have := HNo35.out; omega)); have nOo35 := zA.mk (ObR.kept HOo35.out hk (by have := HNg2.out; have := HNo7.out; have := HNo10.out; have := HNo13.out; have := HNo17.out; have := HNg8.out; have := HNo20.out; have := HNo23.out; have := HNo30.out; have := HNo35.out; omega)); have nBg2 := zA.mk (JV (g := g2) (o := .cells #[.slice A0 l0.length c0] 24 (0, 0)) BKg2.out hk (fun h_ => by have h1_ := h_.1; have h2_ := h_.2; have := HNg2.out; have := HNo7.out; have := HNo10.out; have := HNo13.out; have := HNo17.out; have := HNg8.out; have := HNo20.out; have := HNo23.out; have := HNo30.out; have := HNo35.out; omega)); have nBg8 := zA.mk (JV (g := g8) (o := .cells #[.slice Ao17 t16.length co17] 30 (0, 0)) BKg8.out hk (fun h_ => by have h1_ := h_.1; have h2_ := h_.2; have := HNg2.out; have := HNo7.out; have := HNo10.out; have := HNo13.out; have := HNo17.out; have := HNg8.out; have := HNo20.out; have := HNo23.out; have := HNo30.out; have := HNo35.out; omega)); have nHT := zA.mk (Nat.le_trans HT.out hk.1); clear HB HT HOo7 HOo10 HOo13 HOo17 HOo20 HOo23 HOo30 HOo35 BKg2 BKg8; have HOo7 := nOo7; have HOo10 := nOo10; have HOo13 := nOo13; have HOo17 := nM; have HOo20 := nOo20; have HOo23 := nOo23; have HOo30 := nOo30; have HOo35 := nOo35; have BKg2 := nBg2; have BKg8 := nBg8; have HB := zA.mk hb; have HT := nHT; (try clear hy); clear hb hk0 hk nM nHT nOo7 nOo10 nOo13 nOo20 nOo23 nOo30 nOo35 nBg2 nBg8; have hczg2 : w16.cell? ⟨g2, 0, none⟩ = some (.slice A0 l0.length c0) := (zL BKg2.out 0).trans rfl; have hfzg2 := zM BKg2.out 0; have hczg8 : w16.cell? ⟨g8, 0, none⟩ = some (.slice Ao17 t16.length co17) := (zL BKg8.out 0).trans rfl; have hfzg8 := zM BKg8.out 0) | ((with_reducible refine zU (f := 34) rfl ?_); refine qF (some 67) rfl rfl Try.func34 (by kernel_rfl) rfl #[.slice Ao20 t19.length co20, .int .i64 m39] rfl (by (try simp only [yiy, yjy, yky]); first | done | rfl | (simp only [yly, ymy]; rfl)) ?_; (with_reducible refine (qO.calls k (fun k_ => some k_ = (.slice Ao20 t19.length co20 : Value).ownBlock) (.slice Ao20 t19.length co20) t19 m39 m42 y43 w _ HB.out (Kd.Qj rfl (ObR.row HOo20.out)) H41.out).mono ?_); rintro e w17 ⟨rfl, hy, hb, hk0⟩; refine ⟨_, rfl, ?_⟩; have hk := ObR.range HOo20.out hk0; have nM := zA.mk (ObR.marked HOo20.out rfl hy hk.1); (try clear hczg2 hfzg2 hczg8 hfzg8); have nOo7 := zA.mk (ObS.kept HOo7.out hk (by have := HNg2.out; have := HNo7.out; have := HNo10.out; have := HNo13.out; have := HNo17.out; have := HNg8.out; have := HNo20.out; have := HNo23.out; have := HNo30.out; have := HNo35.out; omega)); have nOo10 := zA.mk (ObR.kept HOo10.out hk (by have := HNg2.out; have := HNo7.out; have := HNo10.out; have := HNo13.out; have := HNo17.out; have := HNg8.out; have := HNo20.out; have := HNo23.out; have := HNo30.out; have := HNo35.out; omega)); have nOo13 := zA.mk (ObR.kept HOo13.out hk (by have := HNg2.out; have := HNo7.out; have := HNo10.out; have := HNo13.out; have := HNo17.out; have := HNg8.out; have := HNo20.out; have := HNo23.out; have := HNo30.out; have := HNo35.out; omega)); have nOo17 := zA.mk (ObS.kept HOo17.out hk (by have := HNg2.out; have := HNo7.out; have := HNo10.out; have := HNo13.out; have := HNo17.out; have := HNg8.out; have := HNo20.out; have := HNo23.out; have := HNo30.out; have := HNo35.out; omega)); have nOo23 := zA.mk (ObR.kept HOo23.out hk (by have := HNg2.out; have := HNo7.out; have := HNo10.out; have := HNo13.out; have := HNo17.out; have := HNg8.out; have := HNo20.out; have := HNo23.out; have := HNo30.out; have := HNo35.out; omega)); have nOo30 := zA.mk (ObS.kept HOo30.out hk (by have := HNg2.out; have := HNo7.out; have := HNo10.out; have := HNo13.out; have := HNo17.out; have := HNg8.out; have := HNo20.out; have := HNo23.out; have := HNo30.out; have := HNo35.out; omega)); have nOo35 := zA.mk (ObR.kept HOo35.out hk (by have := HNg2.out; have := HNo7.out; have := HNo10.out; have := HNo13.out; have := HNo17.out; have := HNg8.out; have := HNo20.out; have := HNo23.out; have := HNo30.out; have := HNo35.out; omega)); have nBg2 := zA.mk (JV (g := g2) (o := .cells #[.slice A0 l0.length c0] 24 (0, 0)) BKg2.out hk (fun h_ => by have h1_ := h_.1; have h2_ := h_.2; have := HNg2.out; have := HNo7.out; have := HNo10.out; have := HNo13.out; have := HNo17.out; have := HNg8.out; have := HNo20.out; have := HNo23.out; have := HNo30.out; have := HNo35.out; omega)); have nBg8 := zA.mk (JV (g := g8) (o := .cells #[.slice Ao17 t16.length co17] 30 (0, 0)) BKg8.out hk (fun h_ => by have h1_ := h_.1; have h2_ := h_.2; have := HNg2.out; have := HNo7.out; have := HNo10.out; have := HNo13.out; have := HNo17.out; have := HNg8.out; have := HNo20.out; have := HNo23.out; have := HNo30.out; have := HNo35.out; omega)); have nHT := zA.mk (Nat.le_trans HT.out hk.1); clear HB HT HOo7 HOo10 HOo13 HOo17 HOo20 HOo23 HOo30 HOo35 BKg2 BKg8; have HOo7 := nOo7; have HOo10 := nOo10; have HOo13 := nOo13; have HOo17 := nOo17; have HOo20 := nM; have HOo23 := nOo23; have HOo30 := nOo30; have HOo35 := nOo35; have BKg2 := nBg2; have BKg8 := nBg8; have HB := zA.mk hb; have HT := nHT; (try clear hy); clear hb hk0 hk nM nHT nOo7 nOo10 nOo13 nOo17 nOo23 nOo30 nOo35 nBg2 nBg8; have hczg2 : w17.cell? ⟨g2, 0, none⟩ = some (.slice A0 l0.length c0) := (zL BKg2.out 0).trans rfl; have hfzg2 := zM BKg2.out 0; have hczg8 : w17.cell? ⟨g8, 0, none⟩ = some (.slice Ao17 t16.length co17) := (zL BKg8.out 0).trans rfl; have hfzg8 := zM BKg8.out 0))
 try go_wp2_with (first | (go_at_call 21; (with_reducible refine (qN.calls k _ _ t22 _ _ t12 true _ ?side1 ?side2 ?side3 ?side4 H45.out).mono ?_); (case side1 => exact (ObR.reads HOo23.out).2.2); (case side2 => exact ObR.room HOo23.out); (case side3 => exact (ObR.reads HOo13.out).2.2); (case side4 => exact ObR.room HOo13.out); rintro e w18 ⟨rfl, ⟨nd, hnd⟩⟩; have hb := Zk hnd; (try clear hczg2 hfzg2 hczg8 hfzg8); have nOo7 := zA.mk (ObS.below HOo7.out hb); have nOo10 := zA.mk (ObR.below HOo10.out hb); have nOo13 := zA.mk (ObR.below HOo13.out hb); have nOo17 := zA.mk (ObS.below HOo17.out hb); have nOo20 := zA.mk (ObR.below HOo20.out hb); have nOo23 := zA.mk (ObR.below HOo23.out hb); have nOo30 := zA.mk (ObS.below HOo30.out hb); have nOo35 := zA.mk (ObR.below HOo35.out hb); have nBg2 := zA.mk (zP (g := g2) (o := .cells #[.slice A0 l0.length c0] 24 (0, 0)) BKg2.out hb); have nBg8 := zA.mk (zP (g := g8) (o := .cells #[.slice Ao17 t16.length co17] 30 (0, 0)) BKg8.out hb); have nHB := zA.mk (zN HB.out hb); have nHT := zA.mk (qn HT.out hb); clear HB HT HOo7 HOo10 HOo13 HOo17 HOo20 HOo23 HOo30 HOo35 BKg2 BKg8; have HOo7 := nOo7; have HOo10 := nOo10; have HOo13 := nOo13; have HOo17 := nOo17; have HOo20 := nOo20; have HOo23 := nOo23; have HOo30 := nOo30; have HOo35 := nOo35; have BKg2 := nBg2; have BKg8 := nBg8; have HB := nHB; have HT := nHT; clear nHB nHT nOo7 nOo10 nOo13 nOo17 nOo20 nOo23 nOo30 nOo35 nBg2 nBg8; (try clear hb); (try clear hnd); have hczg2 : w18.cell? ⟨g2, 0, none⟩ = some (.slice A0 l0.length c0) := (zL BKg2.out 0).trans rfl; have hfzg2 := zM BKg2.out 0; have hczg8 : w18.cell? ⟨g8, 0, none⟩ = some (.slice Ao17 t16.length co17) := (zL BKg8.out 0).trans rfl; have hfzg8 := zM BKg8.out 0) | ((with_reducible refine zU (f := 34) rfl ?_); refine qF (some 83) rfl rfl Try.func34 (by kernel_rfl) rfl #[.slice Ao23 t22.length co23, .int .i64 1] rfl (by (try simp only [yiy, yjy, yky]); first | done | rfl | (simp only [yly, ymy]; rfl)) ?_; (with_reducible refine (qO.calls k (fun k_ => some k_ = (.slice Ao23 t22.length co23 : Value).ownBlock) (.slice Ao23 t22.length co23) t22 1 m49 y50 w _ HB.out (Kd.Qj rfl (ObR.row HOo23.out)) H48.out).mono ?_); rintro e w19 ⟨rfl, hy, hb, hk0⟩; refine ⟨_, rfl, ?_⟩; have hk := ObR.range HOo23.out hk0; have nM := zA.mk (ObR.marked HOo23.out rfl hy hk.1); (try clear hczg2 hfzg2 hczg8 hfzg8); have nOo7 := zA.mk (ObS.kept HOo7.out hk (by have := HNg2.out; have := HNo7.out; have := HNo10.out; have := HNo13.out; have := HNo17.out; have := HNg8.out; have := HNo20.out; have := HNo23.out; have := HNo30.out; have := HNo35.out; omega)); have nOo10 := zA.mk (ObR.kept HOo10.out hk (by have := HNg2.out; have := HNo7.out; have := HNo10.out; have := HNo13.out; have := HNo17.out; have := HNg8.out; have := HNo20.out; have := HNo23.out; have := HNo30.out; have := HNo35.out; omega)); have nOo13 := zA.mk (ObR.kept HOo13.out hk (by have := HNg2.out; have := HNo7.out; have := HNo10.out; have := HNo13.out; have := HNo17.out; have := HNg8.out; have := HNo20.out; have := HNo23.out; have := HNo30.out; have := HNo35.out; omega)); have nOo17 := zA.mk (ObS.kept HOo17.out hk (by have := HNg2.out; have := HNo7.out; have := HNo10.out; have := HNo13.out; have := HNo17.out; have := HNg8.out; have := HNo20.out; have := HNo23.out; have := HNo30.out; have := HNo35.out; omega)); have nOo20 := zA.mk (ObR.kept HOo20.out hk (by have := HNg2.out; have := HNo7.out; have := HNo10.out; have := HNo13.out; have := HNo17.out; have := HNg8.out; have := HNo20.out; have := HNo23.out; have := HNo30.out; have := HNo35.out; omega)); have nOo30 := zA.mk (ObS.kept HOo30.out hk (by have := HNg2.out; have := HNo7.out; have := HNo10.out; have := HNo13.out; have := HNo17.out; have := HNg8.out; have := HNo20.out; have := HNo23.out; have := HNo30.out; have := HNo35.out; omega)); have nOo35 := zA.mk (ObR.kept HOo35.out hk (by have := HNg2.out; have := HNo7.out; have := HNo10.out; have := HNo13.out; have := HNo17.out; have := HNg8.out; have := HNo20.out; have := HNo23.out; have := HNo30.out; have := HNo35.out; omega)); have nBg2 := zA.mk (JV (g := g2) (o := .cells #[.slice A0 l0.length c0] 24 (0, 0)) BKg2.out hk (fun h_ => by have h1_ := h_.1; have h2_ := h_.2; have := HNg2.out; have := HNo7.out; have := HNo10.out; have := HNo13.out; have := HNo17.out; have := HNg8.out; have := HNo20.out; have := HNo23.out; have := HNo30.out; have := HNo35.out; omega)); have nBg8 := zA.mk (JV (g := g8) (o := .cells #[.slice Ao17 t16.length co17] 30 (0, 0)) BKg8.out hk (fun h_ => by have h1_ := h_.1; have h2_ := h_.2; have := HNg2.out; have := HNo7.out; have := HNo10.out; have := HNo13.out; have := HNo17.out; have := HNg8.out; have := HNo20.out; have := HNo23.out; have := HNo30.out; have := HNo35.out; omega)); have nHT := zA.mk (Nat.le_trans HT.out hk.1); clear HB HT HOo7 HOo10 HOo13 HOo17 HOo20 HOo23 HOo30 HOo35 BKg2 BKg8; have HOo7 := nOo7; have HOo10 := nOo10; have HOo13 := nOo13; have HOo17 := nOo17; have HOo20 := nOo20; have HOo23 := nM; have HOo30 := nOo30; have HOo35 := nOo35; have BKg2 := nBg2; have BKg8 := nBg8; have HB := zA.mk hb; have HT := nHT; (try clear hy); clear hb hk0 hk nM nHT nOo7 nOo10 nOo13 nOo17 nOo20 nOo30 nOo35 nBg2 nBg8; have hczg2 : w19.cell? ⟨g2, 0, none⟩ = some (.slice A0 l0.length c0) := (zL BKg2.out 0).trans rfl; have hfzg2 := zM BKg2.out 0; have hczg8 : w19.cell? ⟨g8, 0, none⟩ = some (.slice Ao17 t16.length co17) := (zL BKg8.out 0).trans rfl; have hfzg8 := zM BKg8.out 0) | ((with_reducible refine zU (f := 35) rfl ?_); refine qF (some 86) rfl rfl Try.func35 (by kernel_rfl) rfl #[.slice Ao23 y50.length co23, .int .i64 1] rfl (by (try simp only [yiy, yjy, yky]); first | done | (rw [show y50.length = t22.length from (ObR.reads HOo23.out).1.symm] <;> rfl) | rfl | (simp only [yly, ymy]; rfl)) ?_; (with_reducible refine (qS.calls k _ _ y50 1 t52 _ ?side1 ?side2 H51.out).mono ?_); (case side1 => exact (ObR.reads HOo23.out).2.2); (case side2 => exact ObR.room HOo23.out); rintro e w20 ⟨rfl, ⟨nd, hnd⟩⟩; refine ⟨_, rfl, ?_⟩; have hb := Zk hnd; (try clear hczg2 hfzg2 hczg8 hfzg8); have nOo7 := zA.mk (ObS.below HOo7.out hb); have nOo10 := zA.mk (ObR.below HOo10.out hb); have nOo13 := zA.mk (ObR.below HOo13.out hb); have nOo17 := zA.mk (ObS.below HOo17.out hb); have nOo20 := zA.mk (ObR.below HOo20.out hb); have nOo23 := zA.mk (ObR.below HOo23.out hb); have nOo30 := zA.mk (ObS.below HOo30.out hb); have nOo35 := zA.mk (ObR.below HOo35.out hb); have nBg2 := zA.mk (zP (g := g2) (o := .cells #[.slice A0 l0.length c0] 24 (0, 0)) BKg2.out hb); have nBg8 := zA.mk (zP (g := g8) (o := .cells #[.slice Ao17 t16.length co17] 30 (0, 0)) BKg8.out hb); have nHB := zA.mk (zN HB.out hb); have nHT := zA.mk (qn HT.out hb); clear HB HT HOo7 HOo10 HOo13 HOo17 HOo20 HOo23 HOo30 HOo35 BKg2 BKg8; have HOo7 := nOo7; have HOo10 := nOo10; have HOo13 := nOo13; have HOo17 := nOo17; have HOo20 := nOo20; have HOo23 := nOo23; have HOo30 := nOo30; have HOo35 := nOo35; have BKg2 := nBg2; have BKg8 := nBg8; have HB := nHB; have HT := nHT; clear nHB nHT nOo7 nOo10 nOo13 nOo17 nOo20 nOo23 nOo30 nOo35 nBg2 nBg8; (try clear hb); (try clear hnd); have hczg2 : w20.cell? ⟨g2, 0, none⟩ = some (.slice A0 l0.length c0) := (zL BKg2.out 0).trans rfl; have hfzg2 := zM BKg2.out 0; have hczg8 : w20.cell? ⟨g8, 0, none⟩ = some (.slice Ao17 t16.length co17) := (zL BKg8.out 0).trans rfl; have hfzg8 := zM BKg8.out 0) | ((with_reducible refine zU (f := 17) rfl ?_); refine qF (some 94) rfl rfl Try.func17 (by kernel_rfl) rfl #[.agg #[.slice A0 l0.length c0]] rfl (by (try simp only [yiy, yjy, yky]); first | done | rfl | (simp only [yly, ymy]; rfl)) ?_; (with_reducible refine (qY.calls k _ _ l0 t56 _ ?side1 ?side2 H55.out).mono ?_); (case side1 => exact Kd.zn HR0.out HB.out); (case side2 => exact HC0.out); rintro e w21 ⟨vo57, rfl, ho0, hb⟩; refine ⟨_, rfl, ?_⟩; (try clear hczg2 hfzg2 hczg8 hfzg8); obtain ⟨loo57, hio57, hno57⟩ := ObS.made ho0 hb HT.out (zO HB.out); have nOo7 := zA.mk (ObS.below HOo7.out hb); have nOo10 := zA.mk (ObR.below HOo10.out hb); have nOo13 := zA.mk (ObR.below HOo13.out hb); have nOo17 := zA.mk (ObS.below HOo17.out hb); have nOo20 := zA.mk (ObR.below HOo20.out hb); have nOo23 := zA.mk (ObR.below HOo23.out hb); have nOo30 := zA.mk (ObS.below HOo30.out hb); have nOo35 := zA.mk (ObR.below HOo35.out hb); have nBg2 := zA.mk (zP (g := g2) (o := .cells #[.slice A0 l0.length c0] 24 (0, 0)) BKg2.out hb); have nBg8 := zA.mk (zP (g := g8) (o := .cells #[.slice Ao17 t16.length co17] 30 (0, 0)) BKg8.out hb); have nHB := zA.mk (zN HB.out hb); have nHT := zA.mk (qn HT.out hb); clear HB HT HOo7 HOo10 HOo13 HOo17 HOo20 HOo23 HOo30 HOo35 BKg2 BKg8; have HOo7 := nOo7; have HOo10 := nOo10; have HOo13 := nOo13; have HOo17 := nOo17; have HOo20 := nOo20; have HOo23 := nOo23; have HOo30 := nOo30; have HOo35 := nOo35; have BKg2 := nBg2; have BKg8 := nBg8; have HB := nHB; have HT := nHT; clear nHB nHT nOo7 nOo10 nOo13 nOo17 nOo20 nOo23 nOo30 nOo35 nBg2 nBg8; have HNo57 := zA.mk hno57.1; clear HT; have HT := zA.mk hno57.2.1; have HOo57 := zA.mk hno57.2.2; clear hno57 ho0; obtain ⟨Ao57, co57, eeo57⟩ := HOo57.out.slice; subst eeo57; (try clear hb); (try clear hnd); have hczg2 : w21.cell? ⟨g2, 0, none⟩ = some (.slice A0 l0.length c0) := (zL BKg2.out 0).trans rfl; have hfzg2 := zM BKg2.out 0; have hczg8 : w21.cell? ⟨g8, 0, none⟩ = some (.slice Ao17 t16.length co17) := (zL BKg8.out 0).trans rfl; have hfzg8 := zM BKg8.out 0) | ((with_reducible refine zU (f := 18) rfl ?_); refine qF (some 96) rfl rfl Try.func18 (by kernel_rfl) rfl #[.slice A1 l1.length c1] rfl (by (try simp only [yiy, yjy, yky]); first | done | rfl | (simp only [yly, ymy]; rfl)) ?_; (with_reducible refine (qJ.calls k _ _ l1 t59 _ ?side1 ?side2 H58.out).mono ?_); (case side1 => exact Kd.zn HR1.out HB.out); (case side2 => exact HC1.out); rintro e w22 ⟨vo60, rfl, ho0, hb⟩; refine ⟨_, rfl, ?_⟩; (try clear hczg2 hfzg2 hczg8 hfzg8); obtain ⟨loo60, hio60, hno60⟩ := ObR.made ho0 hb HT.out (zO HB.out); have nOo7 := zA.mk (ObS.below HOo7.out hb); have nOo10 := zA.mk (ObR.below HOo10.out hb); have nOo13 := zA.mk (ObR.below HOo13.out hb); have nOo17 := zA.mk (ObS.below HOo17.out hb); have nOo20 := zA.mk (ObR.below HOo20.out hb); have nOo23 := zA.mk (ObR.below HOo23.out hb); have nOo30 := zA.mk (ObS.below HOo30.out hb); have nOo35 := zA.mk (ObR.below HOo35.out hb); have nOo57 := zA.mk (ObS.below HOo57.out hb); have nBg2 := zA.mk (zP (g := g2) (o := .cells #[.slice A0 l0.length c0] 24 (0, 0)) BKg2.out hb); have nBg8 := zA.mk (zP (g := g8) (o := .cells #[.slice Ao17 t16.length co17] 30 (0, 0)) BKg8.out hb); have nHB := zA.mk (zN HB.out hb); have nHT := zA.mk (qn HT.out hb); clear HB HT HOo7 HOo10 HOo13 HOo17 HOo20 HOo23 HOo30 HOo35 HOo57 BKg2 BKg8; have HOo7 := nOo7; have HOo10 := nOo10; have HOo13 := nOo13; have HOo17 := nOo17; have HOo20 := nOo20; have HOo23 := nOo23; have HOo30 := nOo30; have HOo35 := nOo35; have HOo57 := nOo57; have BKg2 := nBg2; have BKg8 := nBg8; have HB := nHB; have HT := nHT; clear nHB nHT nOo7 nOo10 nOo13 nOo17 nOo20 nOo23 nOo30 nOo35 nOo57 nBg2 nBg8; have HNo60 := zA.mk hno60.1; clear HT; have HT := zA.mk hno60.2.1; have HOo60 := zA.mk hno60.2.2; clear hno60 ho0; obtain ⟨Ao60, co60, eeo60⟩ := HOo60.out.slice; subst eeo60; (try clear hb); (try clear hnd); have hczg2 : w22.cell? ⟨g2, 0, none⟩ = some (.slice A0 l0.length c0) := (zL BKg2.out 0).trans rfl; have hfzg2 := zM BKg2.out 0; have hczg8 : w22.cell? ⟨g8, 0, none⟩ = some (.slice Ao17 t16.length co17) := (zL BKg8.out 0).trans rfl; have hfzg8 := zM BKg8.out 0) | ((with_reducible refine zU (f := 33) rfl ?_); refine qF (some 97) rfl rfl Try.func33 (by kernel_rfl) rfl #[.agg #[.slice Ao57 t56.length co57], .slice Ao60 t59.length co60] rfl (by (try simp only [yiy, yjy, yky]); first | done | rfl | (simp only [yly, ymy]; rfl)) ?_; (with_reducible refine (Zh.calls k _ _ t56 _ _ t59 t62 t64 _ ?side1 ?side2 ?side3 ?side4 H61.out).mono ?_); (case side1 => exact (ObS.reads HOo57.out).2.2); (case side2 => exact ObS.room HOo57.out); (case side3 => exact (ObR.reads HOo60.out).2.2); (case side4 => exact ObR.room HOo60.out); rintro e w23 ⟨vo63, rfl, ho0, hb⟩; refine ⟨_, rfl, ?_⟩; (try clear hczg2 hfzg2 hczg8 hfzg8); obtain ⟨loo63, hio63, hno63⟩ := ObR.made ho0 hb HT.out (zO HB.out); have nOo7 := zA.mk (ObS.below HOo7.out hb); have nOo10 := zA.mk (ObR.below HOo10.out hb); have nOo13 := zA.mk (ObR.below HOo13.out hb); have nOo17 := zA.mk (ObS.below HOo17.out hb); have nOo20 := zA.mk (ObR.below HOo20.out hb); have nOo23 := zA.mk (ObR.below HOo23.out hb); have nOo30 := zA.mk (ObS.below HOo30.out hb); have nOo35 := zA.mk (ObR.below HOo35.out hb); have nOo57 := zA.mk (ObS.below HOo57.out hb); have nOo60 := zA.mk (ObR.below HOo60.out hb); have nBg2 := zA.mk (zP (g := g2) (o := .cells #[.slice A0 l0.length c0] 24 (0, 0)) BKg2.out hb); have nBg8 := zA.mk (zP (g := g8) (o := .cells #[.slice Ao17 t16.length co17] 30 (0, 0)) BKg8.out hb); have nHB := zA.mk (zN HB.out hb); have nHT := zA.mk (qn HT.out hb); clear HB HT HOo7 HOo10 HOo13 HOo17 HOo20 HOo23 HOo30 HOo35 HOo57 HOo60 BKg2 BKg8; have HOo7 := nOo7; have HOo10 := nOo10; have HOo13 := nOo13; have HOo17 := nOo17; have HOo20 := nOo20; have HOo23 := nOo23; have HOo30 := nOo30; have HOo35 := nOo35; have HOo57 := nOo57; have HOo60 := nOo60; have BKg2 := nBg2; have BKg8 := nBg8; have HB := nHB; have HT := nHT; clear nHB nHT nOo7 nOo10 nOo13 nOo17 nOo20 nOo23 nOo30 nOo35 nOo57 nOo60 nBg2 nBg8; have HNo63 := zA.mk hno63.1; clear HT; have HT := zA.mk hno63.2.1; have HOo63 := zA.mk hno63.2.2; clear hno63 ho0; obtain ⟨Ao63, co63, eeo63⟩ := HOo63.out.slice; subst eeo63; (try clear hb); (try clear hnd); have hczg2 : w23.cell? ⟨g2, 0, none⟩ = some (.slice A0 l0.length c0) := (zL BKg2.out 0).trans rfl; have hfzg2 := zM BKg2.out 0; have hczg8 : w23.cell? ⟨g8, 0, none⟩ = some (.slice Ao17 t16.length co17) := (zL BKg8.out 0).trans rfl; have hfzg8 := zM BKg8.out 0) | ((with_reducible refine zU (f := 21) rfl ?_); refine qF (some 102) rfl rfl Try.func21 (by kernel_rfl) rfl #[.slice Ao63 t62.length co63, .slice Ao13 t12.length co13] rfl (by (try simp only [yiy, yjy, yky]); first | done | rfl | (simp only [yly, ymy]; rfl)) ?_; (with_reducible refine (qN.calls k _ _ t62 _ _ t12 true _ ?side1 ?side2 ?side3 ?side4 H65.out).mono ?_); (case side1 => exact (ObR.reads HOo63.out).2.2); (case side2 => exact ObR.room HOo63.out); (case side3 => exact (ObR.reads HOo13.out).2.2); (case side4 => exact ObR.room HOo13.out); rintro e w24 ⟨rfl, ⟨nd, hnd⟩⟩; refine ⟨_, rfl, ?_⟩; have hb := Zk hnd; (try clear hczg2 hfzg2 hczg8 hfzg8); have nOo7 := zA.mk (ObS.below HOo7.out hb); have nOo10 := zA.mk (ObR.below HOo10.out hb); have nOo13 := zA.mk (ObR.below HOo13.out hb); have nOo17 := zA.mk (ObS.below HOo17.out hb); have nOo20 := zA.mk (ObR.below HOo20.out hb); have nOo23 := zA.mk (ObR.below HOo23.out hb); have nOo30 := zA.mk (ObS.below HOo30.out hb); have nOo35 := zA.mk (ObR.below HOo35.out hb); have nOo57 := zA.mk (ObS.below HOo57.out hb); have nOo60 := zA.mk (ObR.below HOo60.out hb); have nOo63 := zA.mk (ObR.below HOo63.out hb); have nBg2 := zA.mk (zP (g := g2) (o := .cells #[.slice A0 l0.length c0] 24 (0, 0)) BKg2.out hb); have nBg8 := zA.mk (zP (g := g8) (o := .cells #[.slice Ao17 t16.length co17] 30 (0, 0)) BKg8.out hb); have nHB := zA.mk (zN HB.out hb); have nHT := zA.mk (qn HT.out hb); clear HB HT HOo7 HOo10 HOo13 HOo17 HOo20 HOo23 HOo30 HOo35 HOo57 HOo60 HOo63 BKg2 BKg8; have HOo7 := nOo7; have HOo10 := nOo10; have HOo13 := nOo13; have HOo17 := nOo17; have HOo20 := nOo20; have HOo23 := nOo23; have HOo30 := nOo30; have HOo35 := nOo35; have HOo57 := nOo57; have HOo60 := nOo60; have HOo63 := nOo63; have BKg2 := nBg2; have BKg8 := nBg8; have HB := nHB; have HT := nHT; clear nHB nHT nOo7 nOo10 nOo13 nOo17 nOo20 nOo23 nOo30 nOo35 nOo57 nOo60 nOo63 nBg2 nBg8; (try clear hb); (try clear hnd); have hczg2 : w24.cell? ⟨g2, 0, none⟩ = some (.slice A0 l0.length c0) := (zL BKg2.out 0).trans rfl; have hfzg2 := zM BKg2.out 0; have hczg8 : w24.cell? ⟨g8, 0, none⟩ = some (.slice Ao17 t16.length co17) := (zL BKg8.out 0).trans rfl; have hfzg8 := zM BKg8.out 0) | ((with_reducible refine zU (f := 35) rfl ?_); refine qF (some 111) rfl rfl Try.func35 (by kernel_rfl) rfl #[.slice Ao23 y50.length co23, .int .i64 1] rfl (by (try simp only [yiy, yjy, yky]); first | done | (rw [show y50.length = t22.length from (ObR.reads HOo23.out).1.symm] <;> rfl) | rfl | (simp only [yly, ymy]; rfl)) ?_; (with_reducible refine (qS.calls k _ _ y50 1 t69 _ ?side1 ?side2 H68.out).mono ?_); (case side1 => exact (ObR.reads HOo23.out).2.2); (case side2 => exact ObR.room HOo23.out); rintro e w25 ⟨rfl, ⟨nd, hnd⟩⟩; refine ⟨_, rfl, ?_⟩; have hb := Zk hnd; (try clear hczg2 hfzg2 hczg8 hfzg8); have nOo7 := zA.mk (ObS.below HOo7.out hb); have nOo10 := zA.mk (ObR.below HOo10.out hb); have nOo13 := zA.mk (ObR.below HOo13.out hb); have nOo17 := zA.mk (ObS.below HOo17.out hb); have nOo20 := zA.mk (ObR.below HOo20.out hb); have nOo23 := zA.mk (ObR.below HOo23.out hb); have nOo30 := zA.mk (ObS.below HOo30.out hb); have nOo35 := zA.mk (ObR.below HOo35.out hb); have nOo57 := zA.mk (ObS.below HOo57.out hb); have nOo60 := zA.mk (ObR.below HOo60.out hb); have nOo63 := zA.mk (ObR.below HOo63.out hb); have nBg2 := zA.mk (zP (g := g2) (o := .cells #[.slice A0 l0.length c0] 24 (0, 0)) BKg2.out hb); have nBg8 := zA.mk (zP (g := g8) (o := .cells #[.slice Ao17 t16.length co17] 30 (0, 0)) BKg8.out hb); have nHB := zA.mk (zN HB.out hb); have nHT := zA.mk (qn HT.out hb); clear HB HT HOo7 HOo10 HOo13 HOo17 HOo20 HOo23 HOo30 HOo35 HOo57 HOo60 HOo63 BKg2 BKg8; have HOo7 := nOo7; have HOo10 := nOo10; have HOo13 := nOo13; have HOo17 := nOo17; have HOo20 := nOo20; have HOo23 := nOo23; have HOo30 := nOo30; have HOo35 := nOo35; have HOo57 := nOo57; have HOo60 := nOo60; have HOo63 := nOo63; have BKg2 := nBg2; have BKg8 := nBg8; have HB := nHB; have HT := nHT; clear nHB nHT nOo7 nOo10 nOo13 nOo17 nOo20 nOo23 nOo30 nOo35 nOo57 nOo60 nOo63 nBg2 nBg8; (try clear hb); (try clear hnd); have hczg2 : w25.cell? ⟨g2, 0, none⟩ = some (.slice A0 l0.length c0) := (zL BKg2.out 0).trans rfl; have hfzg2 := zM BKg2.out 0; have hczg8 : w25.cell? ⟨g8, 0, none⟩ = some (.slice Ao17 t16.length co17) := (zL BKg8.out 0).trans rfl; have hfzg8 := zM BKg8.out 0))
 go_ret
 exact ⟨by first | rfl | (simp <;> rfl), HB.out⟩
end Go.Proofs.Ythjpdljdodalaaa.P
