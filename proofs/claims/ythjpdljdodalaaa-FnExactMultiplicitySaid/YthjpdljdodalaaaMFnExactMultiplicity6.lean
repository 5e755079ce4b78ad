/- The statement FnExactMultiplicitySaid, proved: part 6 of 7 (texts of this session and of the kit's print, put together and cut to what is used by a program of it). -/
import Derived.Test.YthjpdljdodalaaaMFnExactMultiplicity5
namespace Go.Proofs.Ythjpdljdodalaaa.P
open Go.RowKit Go.Proofs.YthjpdljdodalaaaW.PrintWords Go.Proofs.YthjpdljdodalaaaW.PrintLast Go.Proofs.YthjpdljdodalaaaW.PrintMore
attribute [local go_sem] QN QO Qh Qi Zy Zz QP QQ
set_option linter.unusedVariables false
set_option linter.unusedSimpArgs false
mutual
def zn.l0 : Nat → List (List Int) → Int → List (List (qI)) → Option ((List (List Int)))
 | 0, _, _, _ => none
 | k + 1, x3, x4, x102000 => (zu.f x102000).bind fun t105 => (if x4 < t105 then (zn.l1 k x3 x4 0 x102000) else (some x3))
def zn.l1 : Nat → List (List Int) → Int → Int → List (List (qI)) → Option ((List (List Int)))
 | 0, _, _, _, _ => none
 | k + 1, x3, x4, x5, x102000 => if x5 < 4 then (if 0 ≤ x4 then (if x4 < (x102000.length : Int) then (if 0 ≤ x5 then (if x5 < ((zE x102000 x4).length : Int) then (if ((zH (zE x102000 x4) x5).f0) > x4 then (if x3.length < 5864062014805 then (zn.l1 k (x3 ++ [(([x4, x5] : List Int))]) x4 (wrap64 (x5 + 1)) x102000) else (none)) else (if ((zH (zE x102000 x4) x5).f0) = x4 then ((qv.f k ((zH (zE x102000 x4) x5).f1) x5).bind fun t115 => (if t115 > x5 then (if x3.length < 5864062014805 then (zn.l1 k (x3 ++ [(([x4, x5] : List Int))]) x4 (wrap64 (x5 + 1)) x102000) else (none)) else (zn.l1 k x3 x4 (wrap64 (x5 + 1)) x102000))) else (zn.l1 k x3 x4 (wrap64 (x5 + 1)) x102000))) else (none)) else (none)) else (none)) else (none)) else (zn.l0 k x3 (wrap64 (x4 + 1)) x102000)
end
def zn.f (k : Nat) (l0_0 : List (List (qI))) : Option ((List (List Int))) := zn.l0 k (([] : List (List Int))) 0 l0_0
set_option maxHeartbeats 8000000 in
set_option maxRecDepth 100000 in
theorem zn.calls (k : Nat) (A0_0 : Option Addr) (c0_0 : Nat) (l0_0 : List (List (qI))) (r : List (List Int)) (w : World) (hr0_0 : Kd.C (Kd.slice 115 ZP) w A0_0 l0_0.length l0_0) (hc0_0 : l0_0.length ≤ c0_0) (h : zn.f k l0_0 = some r) :
 Calls Try.prog 102 #[.agg #[.slice A0_0 l0_0.length c0_0]] w fun e w' => ∃ v0_ : Value, e = .returned (v0_) ∧ Kd.S (Kd.slice 2 (Kd.int .i64)) 25 w' w.heap.size (fun _ => True) v0_ r ∧ Below w.heap.size w w' := by
 have hu30 := Try.underlying30
 have hu115 := Try.underlying115
 have HR0_0 := zB.mk hr0_0
 have HC0_0 := zB.mk hc0_0
 clear hr0_0 hc0_0
 have HB := zB.mk (yry w.heap.size w)
 have H : (zn.l0 k (([] : List (List Int))) 0 l0_0) = some r := h
 clear h
 obtain ⟨y102, hy102⟩ : ∃ y_ : List (List Int), y_ = (([] : List (List Int))) := ⟨_, rfl⟩
 replace H : (zn.l0 k y102 0 l0_0) = some r := by first | (rw [hy102]; with_reducible exact H) | (have H2_ := (yfy _ _).symm.trans H; rw [hy102]; with_reducible exact H2_) | (have H2_ := (yfy _ _).symm.trans H; with_reducible exact H2_) | with_reducible exact H | (rw [hy102]; exact H) | exact H
 have Ny102 := zB.mk hy102
 clear hy102
 have H' := zB.mk H
 clear H
 go_enter Try.func102, Try.ntmps102
 go_wp2_with (first | ((with_reducible refine zj (N := 1) rfl ?_); refine zg ?hg (N := 1) ?hd (cs := #[.slice A0_0 l0_0.length c0_0]) (t := 30) ?hr ?_; (case hd => rfl); (case hg => rfl); (case hr => first | (go_simp; done) | (go_simp; rfl)); intro gb101 hg w2 hbox hb; have n0_ := zB.mk (zL (by repeat (first | (with_reducible first | exact HB.out | apply zC | apply zA | apply zD) | exact HB.out)) hb); have n1_ := zB.mk (hbox); have n2_ := zB.mk ((by rw [hg]; exact (zO (by repeat (first | (with_reducible first | exact HB.out | apply zC | apply zA | apply zD) | exact HB.out))) : w.heap.size ≤ gb101)); have n3_ := zB.mk ((by rw [hg]; exact (zO (by repeat (first | (with_reducible first | exact HB.out | apply zC | apply zA | apply zD) | exact HB.out))) : w.heap.size ≤ gb101)); clear HB; have HB := n0_; have BK101 := n1_; have GW101 := n2_; have GE101 := n3_; clear n0_ n1_ n2_ n3_; clear hb hbox hg) | ((with_reducible refine zj (N := 7) rfl ?_); refine Kd.S_lit (Kd.slice 2 (Kd.int .i64)) _ 25 ?hg (N := 7) ?hd (xs := ([] : List (List Int))) (inner := []) (ok := fun _ => True) (okp := fun _ => True) ?hr ?hp (fun _ hk => hk) trivial (yry _ _) (yqy _) (by simp) ?_; (case hd => rfl); (case hg => rfl); (case hr => first | (go_simp; done) | (go_simp; rfl)); (case hp => exact (QF.none _ _)); intro v103 w3 ho4 hb hg_ hnew_; clear hg_ hnew_; (first | rw [← Ny102.out] at ho4 | (simp only [Int.reduceToNat] at ho4; rw [← Ny102.out] at ho4)); have n0_ := zB.mk (Kd.Jj ho4 (zO (by repeat (first | (with_reducible first | exact HB.out | apply zC | apply zA | apply zD | refine zF ?_ GE101.out) | exact HB.out)))); have n1_ := zB.mk (zP (g := gb101) (o := .cells #[.slice A0_0 l0_0.length c0_0] 30 (0, 0)) (by (with_reducible repeat (first | refine zI ?_ _ | refine zJ ?_ | refine zG ?_ _)); exact BK101.out) hb); have n2_ := zB.mk (zL (by repeat (first | (with_reducible first | exact HB.out | apply zC | apply zA | apply zD | refine zF ?_ GE101.out) | exact HB.out)) hb); clear BK101; clear HB; have HO104 := n0_; have BK101 := n1_; have HB := n2_; clear n0_ n1_ n2_; clear hb ho4))
 go_loopg [3, 4] k (fun kq v3 v4 w' => ∃ (x3_1 : List (List Int)) (x4_1 : Int), v4 = .int .i64 x4_1 ∧ zB (zn.l0 kq x3_1 x4_1 l0_0 = some r) ∧ zB (kq ≤ k) ∧ zB (Kd.S (Kd.slice 2 (Kd.int .i64)) 25 w' w.heap.size (fun _ => True) v3 x3_1) ∧ zB (w'.heap[gb101]? = some (.cells #[(.slice A0_0 l0_0.length c0_0)] 30 (0, 0))) ∧ zB (Below w.heap.size w w'))
 case atStart => exact ⟨(y102), (0), (by first | rfl | (simp; done) | (simp [*]; done)), H', ⟨yqy _⟩, ⟨by (with_reducible repeat (first | apply Kd.qQ | apply Kd.qR | apply Kd.qf)); exact HO104.out⟩, ⟨by (with_reducible repeat (first | refine zI ?_ _ | refine zJ ?_ | refine zG ?_ _)); exact BK101.out⟩, ⟨by repeat (first | (with_reducible first | exact HB.out | apply zC | apply zA | apply zD | refine zF ?_ GE101.out) | exact HB.out)⟩⟩
 case round =>
  clear H'
  try clear c1
  try clear p2
  obtain ⟨x3_1, x4_1, rfl, HA, HK1, HO_3, BK101, HB⟩ := hrel
  cases gk with
  | zero => exact absurd HA.out (by simp [zn.l0])
  | succ k1 =>
   have H := HA.out
   clear HA
   simp only [zn.l0] at H
   replace H := ydy.mp H
   obtain ⟨t105, A50, H⟩ := H
   replace H : (if x4_1 < t105 then (zn.l1 k1 x3_1 x4_1 0 l0_0) else (some x3_1)) = some r := H
   have A5 := zB.mk A50
   clear A50
   by_cases c6 : x4_1 < t105
   next =>
    rw [if_pos c6] at H
    have c6b0 : decide (x4_1 < t105) = true := ygy c6
    clear c6
    have H' := zB.mk H
    clear H
    have hcz7_0 : wr.cell? ⟨gb101, 0, none⟩ = some (.slice A0_0 l0_0.length c0_0) := (zM BK101.out 0).trans rfl
    have hfz7_0 := zN BK101.out 0
    go_wp2_with (first | ((with_reducible refine zU (f := 59) rfl ?_); refine qH (some 10) rfl rfl Try.func59 (by kernel_rfl) rfl #[.agg #[.slice A0_0 l0_0.length c0_0]] rfl (by (try simp only [yiy, yjy, yky]); first | done | rfl | (simp only [yly, ymy]; rfl)) ?_; (with_reducible refine (zu.calls _ _ l0_0 t105 _ ?side1 ?side2 A5.out).mono ?_); (case side1 => repeat (first | exact (Kd.zY HR0_0.out HB.out) | (with_reducible refine Kd.zZ ?_ _) | (with_reducible refine Kd.za ?_ _) | (with_reducible refine Kd.zh ?_))); (case side2 => exact HC0_0.out); rintro e w8 ⟨rfl, hb⟩; refine ⟨_, rfl, ?_⟩; have n0_ := zB.mk (Kd.Zx (by (with_reducible repeat (first | apply Kd.qQ | apply Kd.qR | apply Kd.qf)); exact HO_3.out) hb); have n1_ := zB.mk (zP (g := gb101) (o := .cells #[.slice A0_0 l0_0.length c0_0] 30 (0, 0)) (by (with_reducible repeat (first | refine zI ?_ _ | refine zJ ?_ | refine zG ?_ _)); exact BK101.out) hb); have n2_ := zB.mk (zL (by repeat (first | (with_reducible first | exact HB.out | apply zC | apply zA | apply zD | refine zF ?_ GE101.out) | exact HB.out)) hb); clear HO_3; clear BK101; clear HB; have HO_3 := n0_; have BK101 := n1_; have HB := n2_; clear n0_ n1_ n2_; (try clear hb); (try clear hb2); (try clear hk); (try clear hi)))
    go_loopg [3, 5] k1 (fun kq v3 v5 w' => ∃ (x3_2 : List (List Int)) (x5_2 : Int), v5 = .int .i64 x5_2 ∧ zB (zn.l1 kq x3_2 x4_1 x5_2 l0_0 = some r) ∧ zB (kq ≤ k1) ∧ zB (Kd.S (Kd.slice 2 (Kd.int .i64)) 25 w' w.heap.size (fun _ => True) v3 x3_2) ∧ zB (w'.heap[gb101]? = some (.cells #[(.slice A0_0 l0_0.length c0_0)] 30 (0, 0))) ∧ zB (Below w.heap.size w w'))
    case atStart => exact ⟨(x3_1), (0), (by first | rfl | (simp; done) | (simp [*]; done)), H', ⟨yqy _⟩, ⟨by (with_reducible repeat (first | apply Kd.qQ | apply Kd.qR | apply Kd.qf)); exact HO_3.out⟩, ⟨by (with_reducible repeat (first | refine zI ?_ _ | refine zJ ?_ | refine zG ?_ _)); exact BK101.out⟩, ⟨by repeat (first | (with_reducible first | exact HB.out | apply zC | apply zA | apply zD | refine zF ?_ GE101.out) | exact HB.out)⟩⟩
    case round =>
     clear H'
     try clear c1
     try clear p2
     try clear c5
     try clear c6
     try clear c6b0
     try clear hcz7_0
     try clear hfz7_0
     try clear p2
     obtain ⟨x3_2, x5_2, rfl, HA, HK2, HO_3, BK101, HB⟩ := hrel
     cases gk with
     | zero => exact absurd HA.out (by simp [zn.l1])
     | succ k2 =>
      have H := HA.out
      clear HA
      simp only [zn.l1] at H
      by_cases c9 : x5_2 < 4
      next =>
       rw [if_pos c9] at H
       have c9b0 : decide (x5_2 < 4) = true := ygy c9
       clear c9
       by_cases c10 : 0 ≤ x4_1
       next =>
        rw [if_pos c10] at H
        have c10b0 : decide (0 ≤ x4_1) = true := ygy c10
        clear c10
        by_cases c11 : x4_1 < (l0_0.length : Int)
        next =>
         rw [if_pos c11] at H
         have c11b0 : decide (x4_1 < (l0_0.length : Int)) = true := ygy c11
         clear c11
         by_cases c12 : 0 ≤ x5_2
         next =>
          rw [if_pos c12] at H
          have c12b0 : decide (0 ≤ x5_2) = true := ygy c12
          clear c12
          by_cases c13 : x5_2 < ((zE l0_0 x4_1).length : Int)
          next =>
           rw [if_pos c13] at H
           have c13b0 : decide (x5_2 < ((zE l0_0 x4_1).length : Int)) = true := ygy c13
           clear c13
           by_cases c14 : ((zH (zE l0_0 x4_1) x5_2).f0) > x4_1
           next =>
            rw [if_pos c14] at H
            have c14b0 : decide (x4_1 < ((zH (zE l0_0 x4_1) x5_2).f0)) = true := ygy c14
            clear c14
            obtain ⟨y109, hy109⟩ : ∃ y_ : List Int, y_ = (([x4_1, x5_2] : List Int)) := ⟨_, rfl⟩
            replace H : (if x3_2.length < 5864062014805 then (zn.l1 k2 (x3_2 ++ [y109]) x4_1 (wrap64 (x5_2 + 1)) l0_0) else (none)) = some r := by first | (rw [hy109]; with_reducible exact H) | (have H2_ := (yfy _ _).symm.trans H; rw [hy109]; with_reducible exact H2_) | (have H2_ := (yfy _ _).symm.trans H; with_reducible exact H2_) | with_reducible exact H | (rw [hy109]; exact H) | exact H
            have Ny109 := zB.mk hy109
            clear hy109
            by_cases c15 : x3_2.length < 5864062014805
            next =>
             rw [if_pos c15] at H
             have LMc15 := zB.mk c15
             clear c15
             obtain ⟨y112, hy112⟩ : ∃ y_ : List (List Int), y_ = (x3_2 ++ [y109]) := ⟨_, rfl⟩
             replace H : (zn.l1 k2 y112 x4_1 (wrap64 (x5_2 + 1)) l0_0) = some r := by first | (rw [hy112]; with_reducible exact H) | (have H2_ := (yfy _ _).symm.trans H; rw [hy112]; with_reducible exact H2_) | (have H2_ := (yfy _ _).symm.trans H; with_reducible exact H2_) | with_reducible exact H | (rw [hy112]; exact H) | exact H
             have Ny112 := zB.mk hy112
             clear hy112
             have H' := zB.mk H
             clear H
             have hcz16_0 : wr.cell? ⟨gb101, 0, none⟩ = some (.slice A0_0 l0_0.length c0_0) := (zM BK101.out 0).trans rfl
             have hfz16_0 := zN BK101.out 0
             have p106 : 0 ≤ (x4_1 : Int) := of_decide_eq_true (by first | (with_reducible assumption) | assumption)
             have q106 : x4_1 < (l0_0.length : Int) := of_decide_eq_true (by first | (with_reducible assumption) | assumption)
             obtain ⟨ad106, A106_0, c106_0, e106, hx106_0, hl106_0, hi106_0⟩ := ZI HR0_0.out x4_1 p106 q106
             cases e106
             replace hx106_0 := (HB.out.cell (ypy w _ hx106_0)).trans hx106_0
             have HR106_0 := zB.mk hi106_0
             have HC106_0 := zB.mk hl106_0
             clear hi106_0 hl106_0
             replace p106 := eq_true p106
             replace q106 := eq_true q106
             have p107 : 0 ≤ (x5_2 : Int) := of_decide_eq_true (by first | (with_reducible assumption) | assumption)
             have q107 : x5_2 < ((zE l0_0 x4_1).length : Int) := of_decide_eq_true (by first | (with_reducible assumption) | assumption)
             obtain ⟨ad107, e107, hx107_0, hx107_1⟩ := Zg HR106_0.out x5_2 p107 q107
             cases e107
             replace hx107_0 := (HB.out.cell (ypy w _ hx107_0)).trans hx107_0
             replace hx107_1 := (HB.out.cell (ypy w _ hx107_1)).trans hx107_1
             replace p107 := eq_true p107
             replace q107 := eq_true q107
             go_wp2_with (first | ((with_reducible refine zj (N := 6) rfl ?_); refine zg ?hg (N := 6) ?hd (cs := #[.int .i64 0, .int .i64 0]) (t := 115) ?hr ?_; (case hd => rfl); (case hg => rfl); (case hr => first | (go_simp; done) | (go_simp; rfl)); intro gb108 hg w17 hbox hb; have n0_ := zB.mk (Kd.Zx (by (with_reducible repeat (first | apply Kd.qQ | apply Kd.qR | apply Kd.qf)); exact HO_3.out) hb); have n1_ := zB.mk (zP (g := gb101) (o := .cells #[.slice (some ad106) l0_0.length c0_0] 30 (0, 0)) (by (with_reducible repeat (first | refine zI ?_ _ | refine zJ ?_ | refine zG ?_ _)); exact BK101.out) hb); have n2_ := zB.mk (zL (by repeat (first | (with_reducible first | exact HB.out | apply zC | apply zA | apply zD | refine zF ?_ GE101.out) | exact HB.out)) hb); have n3_ := zB.mk (hbox); have n4_ := zB.mk ((by rw [hg]; exact (zO (by repeat (first | (with_reducible first | exact HB.out | apply zC | apply zA | apply zD | refine zF ?_ GE101.out) | exact HB.out))) : w.heap.size ≤ gb108)); have n5_ := zB.mk ((by rw [hg]; exact (zO (by repeat (first | (with_reducible first | exact HB.out | apply zC | apply zA | apply zD | refine zF ?_ GE101.out) | exact HB.out))) : w.heap.size ≤ gb108)); have n6_ := zB.mk ((by rw [hg]; exact Nat.ne_of_lt (qc (g := gb101) (o := .cells #[.slice (some ad106) l0_0.length c0_0] 30 (0, 0)) (by (with_reducible repeat (first | refine zI ?_ _ | refine zJ ?_ | refine zG ?_ _)); exact BK101.out)) : gb101 ≠ gb108)); have n7_ := zB.mk ((by rw [hg]; exact Nat.ne_of_gt (qc (g := gb101) (o := .cells #[.slice (some ad106) l0_0.length c0_0] 30 (0, 0)) (by (with_reducible repeat (first | refine zI ?_ _ | refine zJ ?_ | refine zG ?_ _)); exact BK101.out)) : gb108 ≠ gb101)); clear HO_3; clear BK101; clear HB; have HO_3 := n0_; have BK101 := n1_; have HB := n2_; have BK108 := n3_; have GW108 := n4_; have GE108 := n5_; have NB101_108 := n6_; have NB108_101 := n7_; clear n0_ n1_ n2_ n3_ n4_ n5_ n6_ n7_; clear hb hbox hg; have hnb18 := NB108_101.out; have hnc18 := NB101_108.out; have hcz19_0 : w17.cell? ⟨gb108, 0, none⟩ = some (.int .i64 0) := (zM BK108.out 0).trans rfl; have hcz19_1 : w17.cell? ⟨gb108, 1, none⟩ = some (.int .i64 0) := (zM BK108.out 1).trans rfl; have hfz19_0 := zN BK108.out 0; have hfz19_1 := zN BK108.out 1) | ((with_reducible refine zj (N := 47) rfl ?_); refine Kd.zCC (Kd.int .i64) _ 2 ?hg (N := 47) ?hd (xs := ([x4_1, x5_2] : List Int)) (inner := [.int .i64 x4_1, .int .i64 x5_2]) (ok := fun _ => True) (okp := fun _ => True) ?hr ?hp (fun _ hk => hk) trivial (yry _ _) (yqy _) (by simp) ?_; (case hd => rfl); (case hg => rfl); (case hr => first | (go_simp; done) | (go_simp; rfl)); (case hp => exact (QF.one (show Kd.M (Kd.int .i64) _ _ _ x4_1 [.int .i64 x4_1] from rfl) (QF.one (show Kd.M (Kd.int .i64) _ _ _ x5_2 [.int .i64 x5_2] from rfl) (QF.none _ _)))); intro v110 w20 ho21 hb hg_ hnew_; clear hg_ hnew_; (first | rw [← Ny109.out] at ho21 | (simp only [Int.reduceToNat] at ho21; rw [← Ny109.out] at ho21)); have n0_ := zB.mk (Kd.JZ (by (with_reducible repeat (first | apply Kd.qQ | apply Kd.qR | apply Kd.qf)); exact (Kd.Za (Kd.zAg (p := ⟨gb108, 1, none⟩) (Kd.zAg (p := ⟨gb108, 0, none⟩) (Kd.zAC HO_3.out BK108.out (by decide)) (fun _ hk => hk.2) (.int .i64 ((zH (zE l0_0 x4_1) x5_2).f0))) (fun _ hk => hk.2) (.int .i64 ((zH (zE l0_0 x4_1) x5_2).f1))) (fun _ h_ => h_.1))) (Kd.Qm ho21) hb); have n1_ := zB.mk (Kd.ZO ho21 (zO (by repeat (first | (with_reducible first | exact HB.out | apply zC | apply zA | apply zD | refine zF ?_ GE101.out | refine zF ?_ GE108.out) | exact HB.out)))); have n2_ := zB.mk (zP (g := gb101) (o := .cells #[.slice (some ad106) l0_0.length c0_0] 30 (0, 0)) (by (with_reducible repeat (first | refine zI ?_ _ | refine zJ ?_ | refine zG ?_ _)); refine qW ?_ NB101_108.out _; (with_reducible repeat (first | refine zI ?_ _ | refine zJ ?_ | refine zG ?_ _)); refine qW ?_ NB101_108.out _; (with_reducible repeat (first | refine zI ?_ _ | refine zJ ?_ | refine zG ?_ _)); exact BK101.out) hb); have n3_ := zB.mk (zP (g := gb108) (o := .cells #[.int .i64 ((zH (zE l0_0 x4_1) x5_2).f0), .int .i64 ((zH (zE l0_0 x4_1) x5_2).f1)] 115 (0, 0)) (by (with_reducible repeat (first | refine zI ?_ _ | refine zJ ?_ | refine zG ?_ _)); refine qa (cs := #[.int .i64 ((zH (zE l0_0 x4_1) x5_2).f0), .int .i64 0]) ?_ 1 _ rfl; (with_reducible repeat (first | refine zI ?_ _ | refine zJ ?_ | refine zG ?_ _)); refine qa (cs := #[.int .i64 0, .int .i64 0]) ?_ 0 _ rfl; (with_reducible repeat (first | refine zI ?_ _ | refine zJ ?_ | refine zG ?_ _)); exact BK108.out) hb); have n4_ := zB.mk (zL (by repeat (first | (with_reducible first | exact HB.out | apply zC | apply zA | apply zD | refine zF ?_ GE101.out | refine zF ?_ GE108.out) | exact HB.out)) hb); clear HO_3; clear BK101; clear BK108; clear HB; have HO_3 := n0_; have HO111 := n1_; have BK101 := n2_; have BK108 := n3_; have HB := n4_; clear n0_ n1_ n2_ n3_ n4_; clear hb ho21; obtain ⟨Ao23, co23, eo23⟩ := Kd.Zc HO111.out; subst eo23) | ((with_reducible refine Zb (b := .append) (xs := #[.tmp 44, .tmp 48]) rfl ?_); at_builtin; refine Kd.zBn (Kd.slice 2 (Kd.int .i64)) (w0 := w) w.heap.size rfl (.tmp 44) (.tmp 48) 54 25 (.slice none 0 0) 24 rfl Try.underlying54 zED rfl (by decide) (by omega) u3 x3_2 y109 [.slice Ao23 y109.length co23] (fun _ => True) (fun k_ => some k_ = (.slice Ao23 y109.length co23 : Value).ownBlock) rfl rfl ?aP (fun k_ hk_ => ((Kd.qZ (ok' := fun k_ => ((fun _ => True)) k_ ∧ some k_ ≠ (u3 : Value).ownBlock) (Kd.QM (HO111.out) (Kd.Qg HO_3.out) (by decide)) (fun k_ hk => ⟨trivial, hk.2⟩))).1 k_ hk_.symm) ?aF ?aO ?aB ?aS ?aL ?_; (case aP => exact Kd.zEg (Kd.qZ (Kd.zAB rfl (Kd.qZ (ok' := fun k_ => ((fun _ => True)) k_ ∧ some k_ ≠ (u3 : Value).ownBlock) (Kd.QM (HO111.out) (Kd.Qg HO_3.out) (by decide)) (fun k_ hk => ⟨trivial, hk.2⟩))) (fun _ h_ => h_))); (case aB => exact (by repeat (first | (with_reducible first | exact HB.out | apply zC | apply zA | apply zD | refine zF ?_ GE101.out | refine zF ?_ GE108.out) | exact HB.out))); (case aF => exact (fun _ _ => trivial)); (case aO => exact (by (with_reducible repeat (first | apply Kd.qQ | apply Kd.qR | apply Kd.qf)); exact Kd.Za HO_3.out (fun k_ hk => ⟨trivial, fun e_ => hk.2 e_⟩))); (case aS => exact (zO (by repeat (first | (with_reducible first | exact HB.out | apply zC | apply zA | apply zD | refine zF ?_ GE101.out | refine zF ?_ GE108.out) | exact HB.out)))); (case aL => have := LMc15.out; omega); intro v113 w22 ho hb hg hat; rw [← Ny112.out] at ho; have n0_ := zB.mk (qt (g := gb101) (o := .cells #[.slice (some ad106) l0_0.length c0_0] 30 (0, 0)) (by (with_reducible repeat (first | refine zI ?_ _ | refine zJ ?_ | refine zG ?_ _)); exact BK101.out) hg (Kd.S_ne HO_3.out BK101.out (by decide))); have n1_ := zB.mk (qt (g := gb108) (o := .cells #[.int .i64 ((zH (zE l0_0 x4_1) x5_2).f0), .int .i64 ((zH (zE l0_0 x4_1) x5_2).f1)] 115 (0, 0)) (by (with_reducible repeat (first | refine zI ?_ _ | refine zJ ?_ | refine zG ?_ _)); exact BK108.out) hg (Kd.S_ne HO_3.out BK108.out (by decide))); have n2_ := zB.mk (hb); have n3_ := zB.mk (ho); clear BK101; clear BK108; clear HB; clear HO_3; clear HO111; have BK101 := n0_; have BK108 := n1_; have HB := n2_; have HO114 := n3_; clear n0_ n1_ n2_ n3_; clear ho hb hg hat))
             go_roundg k2
             case measure => have := HK1.out; have := HK2.out; omega
             case rel => exact ⟨(y112), (wrap64 (x5_2 + 1)), (by first | rfl | (simp; done) | (simp [*]; done)), H', ⟨by have := HK1.out; have := HK2.out; omega⟩, ⟨by (with_reducible repeat (first | apply Kd.qQ | apply Kd.qR | apply Kd.qf)); exact HO114.out⟩, ⟨by (with_reducible repeat (first | refine zI ?_ _ | refine zJ ?_ | refine zG ?_ _)); exact BK101.out⟩, ⟨by repeat (first | (with_reducible first | exact HB.out | apply zC | apply zA | apply zD | refine zF ?_ GE101.out | refine zF ?_ GE108.out) | exact HB.out)⟩⟩
            next =>
             rw [if_neg c15] at H
             exact absurd H (by simp)
           next =>
            rw [if_neg c14] at H
            have c14b0 : decide (x4_1 < ((zH (zE l0_0 x4_1) x5_2).f0)) = false := yhy c14
            clear c14
            by_cases c24 : ((zH (zE l0_0 x4_1) x5_2).f0) = x4_1
            next =>
             rw [if_pos c24] at H
             have c24b0 : (((zH (zE l0_0 x4_1) x5_2).f0) == x4_1) = true := beq_iff_eq.mpr c24
             have c24b1 : (((zH (zE l0_0 x4_1) x5_2).f0) != x4_1) = false := bne_eq_false_iff_eq.mpr c24
             clear c24
             replace H := ydy.mp H
             obtain ⟨t115, A250, H⟩ := H
             replace H : (if t115 > x5_2 then (if x3_2.length < 5864062014805 then (zn.l1 k2 (x3_2 ++ [(([x4_1, x5_2] : List Int))]) x4_1 (wrap64 (x5_2 + 1)) l0_0) else (none)) else (zn.l1 k2 x3_2 x4_1 (wrap64 (x5_2 + 1)) l0_0)) = some r := H
             have A25 := zB.mk A250
             clear A250
             by_cases c26 : t115 > x5_2
             next =>
              rw [if_pos c26] at H
              have c26b0 : decide (x5_2 < t115) = true := ygy c26
              clear c26
              obtain ⟨y116, hy116⟩ : ∃ y_ : List Int, y_ = (([x4_1, x5_2] : List Int)) := ⟨_, rfl⟩
              replace H : (if x3_2.length < 5864062014805 then (zn.l1 k2 (x3_2 ++ [y116]) x4_1 (wrap64 (x5_2 + 1)) l0_0) else (none)) = some r := by first | (rw [hy116]; with_reducible exact H) | (have H2_ := (yfy _ _).symm.trans H; rw [hy116]; with_reducible exact H2_) | (have H2_ := (yfy _ _).symm.trans H; with_reducible exact H2_) | with_reducible exact H | (rw [hy116]; exact H) | exact H
              have Ny116 := zB.mk hy116
              clear hy116
              by_cases c27 : x3_2.length < 5864062014805
              next =>
               rw [if_pos c27] at H
               have LMc27 := zB.mk c27
               clear c27
               obtain ⟨y119, hy119⟩ : ∃ y_ : List (List Int), y_ = (x3_2 ++ [y116]) := ⟨_, rfl⟩
               replace H : (zn.l1 k2 y119 x4_1 (wrap64 (x5_2 + 1)) l0_0) = some r := by first | (rw [hy119]; with_reducible exact H) | (have H2_ := (yfy _ _).symm.trans H; rw [hy119]; with_reducible exact H2_) | (have H2_ := (yfy _ _).symm.trans H; with_reducible exact H2_) | with_reducible exact H | (rw [hy119]; exact H) | exact H
               have Ny119 := zB.mk hy119
               clear hy119
               have H' := zB.mk H
               clear H
               have hcz28_0 : wr.cell? ⟨gb101, 0, none⟩ = some (.slice A0_0 l0_0.length c0_0) := (zM BK101.out 0).trans rfl
               have hfz28_0 := zN BK101.out 0
               have p106 : 0 ≤ (x4_1 : Int) := of_decide_eq_true (by first | (with_reducible assumption) | assumption)
               have q106 : x4_1 < (l0_0.length : Int) := of_decide_eq_true (by first | (with_reducible assumption) | assumption)
               obtain ⟨ad106, A106_0, c106_0, e106, hx106_0, hl106_0, hi106_0⟩ := ZI HR0_0.out x4_1 p106 q106
               cases e106
               replace hx106_0 := (HB.out.cell (ypy w _ hx106_0)).trans hx106_0
               have HR106_0 := zB.mk hi106_0
               have HC106_0 := zB.mk hl106_0
               clear hi106_0 hl106_0
               replace p106 := eq_true p106
               replace q106 := eq_true q106
               have p107 : 0 ≤ (x5_2 : Int) := of_decide_eq_true (by first | (with_reducible assumption) | assumption)
               have q107 : x5_2 < ((zE l0_0 x4_1).length : Int) := of_decide_eq_true (by first | (with_reducible assumption) | assumption)
               obtain ⟨ad107, e107, hx107_0, hx107_1⟩ := Zg HR106_0.out x5_2 p107 q107
               cases e107
               replace hx107_0 := (HB.out.cell (ypy w _ hx107_0)).trans hx107_0
               replace hx107_1 := (HB.out.cell (ypy w _ hx107_1)).trans hx107_1
               replace p107 := eq_true p107
               replace q107 := eq_true q107
               go_wp2_with (first | ((with_reducible refine zj (N := 6) rfl ?_); refine zg ?hg (N := 6) ?hd (cs := #[.int .i64 0, .int .i64 0]) (t := 115) ?hr ?_; (case hd => rfl); (case hg => rfl); (case hr => first | (go_simp; done) | (go_simp; rfl)); intro gb108 hg w29 hbox hb; have n0_ := zB.mk (Kd.Zx (by (with_reducible repeat (first | apply Kd.qQ | apply Kd.qR | apply Kd.qf)); exact HO_3.out) hb); have n1_ := zB.mk (zP (g := gb101) (o := .cells #[.slice (some ad106) l0_0.length c0_0] 30 (0, 0)) (by (with_reducible repeat (first | refine zI ?_ _ | refine zJ ?_ | refine zG ?_ _)); exact BK101.out) hb); have n2_ := zB.mk (zL (by repeat (first | (with_reducible first | exact HB.out | apply zC | apply zA | apply zD | refine zF ?_ GE101.out) | exact HB.out)) hb); have n3_ := zB.mk (hbox); have n4_ := zB.mk ((by rw [hg]; exact (zO (by repeat (first | (with_reducible first | exact HB.out | apply zC | apply zA | apply zD | refine zF ?_ GE101.out) | exact HB.out))) : w.heap.size ≤ gb108)); have n5_ := zB.mk ((by rw [hg]; exact (zO (by repeat (first | (with_reducible first | exact HB.out | apply zC | apply zA | apply zD | refine zF ?_ GE101.out) | exact HB.out))) : w.heap.size ≤ gb108)); have n6_ := zB.mk ((by rw [hg]; exact Nat.ne_of_lt (qc (g := gb101) (o := .cells #[.slice (some ad106) l0_0.length c0_0] 30 (0, 0)) (by (with_reducible repeat (first | refine zI ?_ _ | refine zJ ?_ | refine zG ?_ _)); exact BK101.out)) : gb101 ≠ gb108)); have n7_ := zB.mk ((by rw [hg]; exact Nat.ne_of_gt (qc (g := gb101) (o := .cells #[.slice (some ad106) l0_0.length c0_0] 30 (0, 0)) (by (with_reducible repeat (first | refine zI ?_ _ | refine zJ ?_ | refine zG ?_ _)); exact BK101.out)) : gb108 ≠ gb101)); clear HO_3; clear BK101; clear HB; have HO_3 := n0_; have BK101 := n1_; have HB := n2_; have BK108 := n3_; have GW108 := n4_; have GE108 := n5_; have NB101_108 := n6_; have NB108_101 := n7_; clear n0_ n1_ n2_ n3_ n4_ n5_ n6_ n7_; clear hb hbox hg; have hnb30 := NB108_101.out; have hnc30 := NB101_108.out; have hcz31_0 : w29.cell? ⟨gb108, 0, none⟩ = some (.int .i64 0) := (zM BK108.out 0).trans rfl; have hcz31_1 : w29.cell? ⟨gb108, 1, none⟩ = some (.int .i64 0) := (zM BK108.out 1).trans rfl; have hfz31_0 := zN BK108.out 0; have hfz31_1 := zN BK108.out 1) | (go_at_call 121; (with_reducible refine (qv.calls k2 ((zH (zE l0_0 x4_1) x5_2).f1) x5_2 t115 _ A25.out).mono ?_); rintro e w32 ⟨rfl, hb⟩; have n0_ := zB.mk (Kd.Zx (by (with_reducible repeat (first | apply Kd.qQ | apply Kd.qR | apply Kd.qf)); exact (Kd.Za (Kd.zAg (p := ⟨gb108, 1, none⟩) (Kd.zAg (p := ⟨gb108, 0, none⟩) (Kd.zAC HO_3.out BK108.out (by decide)) (fun _ hk => hk.2) (.int .i64 ((zH (zE l0_0 x4_1) x5_2).f0))) (fun _ hk => hk.2) (.int .i64 ((zH (zE l0_0 x4_1) x5_2).f1))) (fun _ h_ => h_.1))) hb); have n1_ := zB.mk (zP (g := gb101) (o := .cells #[.slice (some ad106) l0_0.length c0_0] 30 (0, 0)) (by (with_reducible repeat (first | refine zI ?_ _ | refine zJ ?_ | refine zG ?_ _)); refine qW ?_ NB101_108.out _; (with_reducible repeat (first | refine zI ?_ _ | refine zJ ?_ | refine zG ?_ _)); refine qW ?_ NB101_108.out _; (with_reducible repeat (first | refine zI ?_ _ | refine zJ ?_ | refine zG ?_ _)); exact BK101.out) hb); have n2_ := zB.mk (zP (g := gb108) (o := .cells #[.int .i64 ((zH (zE l0_0 x4_1) x5_2).f0), .int .i64 ((zH (zE l0_0 x4_1) x5_2).f1)] 115 (0, 0)) (by (with_reducible repeat (first | refine zI ?_ _ | refine zJ ?_ | refine zG ?_ _)); refine qa (cs := #[.int .i64 ((zH (zE l0_0 x4_1) x5_2).f0), .int .i64 0]) ?_ 1 _ rfl; (with_reducible repeat (first | refine zI ?_ _ | refine zJ ?_ | refine zG ?_ _)); refine qa (cs := #[.int .i64 0, .int .i64 0]) ?_ 0 _ rfl; (with_reducible repeat (first | refine zI ?_ _ | refine zJ ?_ | refine zG ?_ _)); exact BK108.out) hb); have n3_ := zB.mk (zL (by repeat (first | (with_reducible first | exact HB.out | apply zC | apply zA | apply zD | refine zF ?_ GE101.out | refine zF ?_ GE108.out) | exact HB.out)) hb); clear HO_3; clear BK101; clear BK108; clear HB; have HO_3 := n0_; have BK101 := n1_; have BK108 := n2_; have HB := n3_; clear n0_ n1_ n2_ n3_; (try clear hb); (try clear hb2); (try clear hk); (try clear hi)) | ((with_reducible refine zj (N := 47) rfl ?_); refine Kd.zCC (Kd.int .i64) _ 2 ?hg (N := 47) ?hd (xs := ([x4_1, x5_2] : List Int)) (inner := [.int .i64 x4_1, .int .i64 x5_2]) (ok := fun _ => True) (okp := fun _ => True) ?hr ?hp (fun _ hk => hk) trivial (yry _ _) (yqy _) (by simp) ?_; (case hd => rfl); (case hg => rfl); (case hr => first | (go_simp; done) | (go_simp; rfl)); (case hp => exact (QF.one (show Kd.M (Kd.int .i64) _ _ _ x4_1 [.int .i64 x4_1] from rfl) (QF.one (show Kd.M (Kd.int .i64) _ _ _ x5_2 [.int .i64 x5_2] from rfl) (QF.none _ _)))); intro v117 w33 ho34 hb hg_ hnew_; clear hg_ hnew_; (first | rw [← Ny116.out] at ho34 | (simp only [Int.reduceToNat] at ho34; rw [← Ny116.out] at ho34)); have n0_ := zB.mk (Kd.JZ (by (with_reducible repeat (first | apply Kd.qQ | apply Kd.qR | apply Kd.qf)); exact HO_3.out) (Kd.Qm ho34) hb); have n1_ := zB.mk (Kd.ZO ho34 (zO (by repeat (first | (with_reducible first | exact HB.out | apply zC | apply zA | apply zD | refine zF ?_ GE101.out | refine zF ?_ GE108.out) | exact HB.out)))); have n2_ := zB.mk (zP (g := gb101) (o := .cells #[.slice (some ad106) l0_0.length c0_0] 30 (0, 0)) (by (with_reducible repeat (first | refine zI ?_ _ | refine zJ ?_ | refine zG ?_ _)); exact BK101.out) hb); have n3_ := zB.mk (zP (g := gb108) (o := .cells #[.int .i64 ((zH (zE l0_0 x4_1) x5_2).f0), .int .i64 ((zH (zE l0_0 x4_1) x5_2).f1)] 115 (0, 0)) (by (with_reducible repeat (first | refine zI ?_ _ | refine zJ ?_ | refine zG ?_ _)); exact BK108.out) hb); have n4_ := zB.mk (zL (by repeat (first | (with_reducible first | exact HB.out | apply zC | apply zA | apply zD | refine zF ?_ GE101.out | refine zF ?_ GE108.out) | exact HB.out)) hb); clear HO_3; clear BK101; clear BK108; clear HB; have HO_3 := n0_; have HO118 := n1_; have BK101 := n2_; have BK108 := n3_; have HB := n4_; clear n0_ n1_ n2_ n3_ n4_; clear hb ho34; obtain ⟨Ao36, co36, eo36⟩ := Kd.Zc HO118.out; subst eo36) | ((with_reducible refine Zb (b := .append) (xs := #[.tmp 44, .tmp 48]) rfl ?_); at_builtin; refine Kd.zBn (Kd.slice 2 (Kd.int .i64)) (w0 := w) w.heap.size rfl (.tmp 44) (.tmp 48) 54 25 (.slice none 0 0) 24 rfl Try.underlying54 zED rfl (by decide) (by omega) u3 x3_2 y116 [.slice Ao36 y116.length co36] (fun _ => True) (fun k_ => some k_ = (.slice Ao36 y116.length co36 : Value).ownBlock) rfl rfl ?aP (fun k_ hk_ => ((Kd.qZ (ok' := fun k_ => ((fun _ => True)) k_ ∧ some k_ ≠ (u3 : Value).ownBlock) (Kd.QM (HO118.out) (Kd.Qg HO_3.out) (by decide)) (fun k_ hk => ⟨trivial, hk.2⟩))).1 k_ hk_.symm) ?aF ?aO ?aB ?aS ?aL ?_; (case aP => exact Kd.zEg (Kd.qZ (Kd.zAB rfl (Kd.qZ (ok' := fun k_ => ((fun _ => True)) k_ ∧ some k_ ≠ (u3 : Value).ownBlock) (Kd.QM (HO118.out) (Kd.Qg HO_3.out) (by decide)) (fun k_ hk => ⟨trivial, hk.2⟩))) (fun _ h_ => h_))); (case aB => exact (by repeat (first | (with_reducible first | exact HB.out | apply zC | apply zA | apply zD | refine zF ?_ GE101.out | refine zF ?_ GE108.out) | exact HB.out))); (case aF => exact (fun _ _ => trivial)); (case aO => exact (by (with_reducible repeat (first | apply Kd.qQ | apply Kd.qR | apply Kd.qf)); exact Kd.Za HO_3.out (fun k_ hk => ⟨trivial, fun e_ => hk.2 e_⟩))); (case aS => exact (zO (by repeat (first | (with_reducible first | exact HB.out | apply zC | apply zA | apply zD | refine zF ?_ GE101.out | refine zF ?_ GE108.out) | exact HB.out)))); (case aL => have := LMc27.out; omega); intro v120 w35 ho hb hg hat; rw [← Ny119.out] at ho; have n0_ := zB.mk (qt (g := gb101) (o := .cells #[.slice (some ad106) l0_0.length c0_0] 30 (0, 0)) (by (with_reducible repeat (first | refine zI ?_ _ | refine zJ ?_ | refine zG ?_ _)); exact BK101.out) hg (Kd.S_ne HO_3.out BK101.out (by decide))); have n1_ := zB.mk (qt (g := gb108) (o := .cells #[.int .i64 ((zH (zE l0_0 x4_1) x5_2).f0), .int .i64 ((zH (zE l0_0 x4_1) x5_2).f1)] 115 (0, 0)) (by (with_reducible repeat (first | refine zI ?_ _ | refine zJ ?_ | refine zG ?_ _)); exact BK108.out) hg (Kd.S_ne HO_3.out BK108.out (by decide))); have n2_ := zB.mk (hb); have n3_ := zB.mk (ho); clear BK101; clear BK108; clear HB; clear HO_3; clear HO118; have BK101 := n0_; have BK108 := n1_; have HB := n2_; have HO121 := n3_; clear n0_ n1_ n2_ n3_; clear ho hb hg hat))
               go_roundg k2
               case measure => have := HK1.out; have := HK2.out; omega
               case rel => exact ⟨(y119), (wrap64 (x5_2 + 1)), (by first | rfl | (simp; done) | (simp [*]; done)), H', ⟨by have := HK1.out; have := HK2.out; omega⟩, ⟨by (with_reducible repeat (first | apply Kd.qQ | apply Kd.qR | apply Kd.qf)); exact HO121.out⟩, ⟨by (with_reducible repeat (first | refine zI ?_ _ | refine zJ ?_ | refine zG ?_ _)); exact BK101.out⟩, ⟨by repeat (first | (with_reducible first | exact HB.out | apply zC | apply zA | apply zD | refine zF ?_ GE101.out | refine zF ?_ GE108.out) | exact HB.out)⟩⟩
              next =>
               rw [if_neg c27] at H
               exact absurd H (by simp)
             next =>
              rw [if_neg c26] at H
              have c26b0 : decide (x5_2 < t115) = false := yhy c26
              clear c26
              have H' := zB.mk H
              clear H
              have hcz37_0 : wr.cell? ⟨gb101, 0, none⟩ = some (.slice A0_0 l0_0.length c0_0) := (zM BK101.out 0).trans rfl
              have hfz37_0 := zN BK101.out 0
              have p106 : 0 ≤ (x4_1 : Int) := of_decide_eq_true (by first | (with_reducible assumption) | assumption)
              have q106 : x4_1 < (l0_0.length : Int) := of_decide_eq_true (by first | (with_reducible assumption) | assumption)
              obtain ⟨ad106, A106_0, c106_0, e106, hx106_0, hl106_0, hi106_0⟩ := ZI HR0_0.out x4_1 p106 q106
              cases e106
              replace hx106_0 := (HB.out.cell (ypy w _ hx106_0)).trans hx106_0
              have HR106_0 := zB.mk hi106_0
              have HC106_0 := zB.mk hl106_0
              clear hi106_0 hl106_0
              replace p106 := eq_true p106
              replace q106 := eq_true q106
              have p107 : 0 ≤ (x5_2 : Int) := of_decide_eq_true (by first | (with_reducible assumption) | assumption)
              have q107 : x5_2 < ((zE l0_0 x4_1).length : Int) := of_decide_eq_true (by first | (with_reducible assumption) | assumption)
              obtain ⟨ad107, e107, hx107_0, hx107_1⟩ := Zg HR106_0.out x5_2 p107 q107
              cases e107
              replace hx107_0 := (HB.out.cell (ypy w _ hx107_0)).trans hx107_0
              replace hx107_1 := (HB.out.cell (ypy w _ hx107_1)).trans hx107_1
              replace p107 := eq_true p107
              replace q107 := eq_true q107
              go_wp2_with (first | ((with_reducible refine zj (N := 6) rfl ?_); refine zg ?hg (N := 6) ?hd (cs := #[.int .i64 0, .int .i64 0]) (t := 115) ?hr ?_; (case hd => rfl); (case hg => rfl); (case hr => first | (go_simp; done) | (go_simp; rfl)); intro gb108 hg w38 hbox hb; have n0_ := zB.mk (Kd.Zx (by (with_reducible repeat (first | apply Kd.qQ | apply Kd.qR | apply Kd.qf)); exact HO_3.out) hb); have n1_ := zB.mk (zP (g := gb101) (o := .cells #[.slice (some ad106) l0_0.length c0_0] 30 (0, 0)) (by (with_reducible repeat (first | refine zI ?_ _ | refine zJ ?_ | refine zG ?_ _)); exact BK101.out) hb); have n2_ := zB.mk (zL (by repeat (first | (with_reducible first | exact HB.out | apply zC | apply zA | apply zD | refine zF ?_ GE101.out) | exact HB.out)) hb); have n3_ := zB.mk (hbox); have n4_ := zB.mk ((by rw [hg]; exact (zO (by repeat (first | (with_reducible first | exact HB.out | apply zC | apply zA | apply zD | refine zF ?_ GE101.out) | exact HB.out))) : w.heap.size ≤ gb108)); have n5_ := zB.mk ((by rw [hg]; exact (zO (by repeat (first | (with_reducible first | exact HB.out | apply zC | apply zA | apply zD | refine zF ?_ GE101.out) | exact HB.out))) : w.heap.size ≤ gb108)); have n6_ := zB.mk ((by rw [hg]; exact Nat.ne_of_lt (qc (g := gb101) (o := .cells #[.slice (some ad106) l0_0.length c0_0] 30 (0, 0)) (by (with_reducible repeat (first | refine zI ?_ _ | refine zJ ?_ | refine zG ?_ _)); exact BK101.out)) : gb101 ≠ gb108)); have n7_ := zB.mk ((by rw [hg]; exact Nat.ne_of_gt (qc (g := gb101) (o := .cells #[.slice (some ad106) l0_0.length c0_0] 30 (0, 0)) (by (with_reducible repeat (first | refine zI ?_ _ | refine zJ ?_ | refine zG ?_ _)); exact BK101.out)) : gb108 ≠ gb101)); clear HO_3; clear BK101; clear HB; have HO_3 := n0_; have BK101 := n1_; have HB := n2_; have BK108 := n3_; have GW108 := n4_; have GE108 := n5_; have NB101_108 := n6_; have NB108_101 := n7_; clear n0_ n1_ n2_ n3_ n4_ n5_ n6_ n7_; clear hb hbox hg; have hnb39 := NB108_101.out; have hnc39 := NB101_108.out; have hcz40_0 : w38.cell? ⟨gb108, 0, none⟩ = some (.int .i64 0) := (zM BK108.out 0).trans rfl; have hcz40_1 : w38.cell? ⟨gb108, 1, none⟩ = some (.int .i64 0) := (zM BK108.out 1).trans rfl; have hfz40_0 := zN BK108.out 0; have hfz40_1 := zN BK108.out 1) | (go_at_call 121; (with_reducible refine (qv.calls k2 ((zH (zE l0_0 x4_1) x5_2).f1) x5_2 t115 _ A25.out).mono ?_); rintro e w41 ⟨rfl, hb⟩; have n0_ := zB.mk (Kd.Zx (by (with_reducible repeat (first | apply Kd.qQ | apply Kd.qR | apply Kd.qf)); exact (Kd.Za (Kd.zAg (p := ⟨gb108, 1, none⟩) (Kd.zAg (p := ⟨gb108, 0, none⟩) (Kd.zAC HO_3.out BK108.out (by decide)) (fun _ hk => hk.2) (.int .i64 ((zH (zE l0_0 x4_1) x5_2).f0))) (fun _ hk => hk.2) (.int .i64 ((zH (zE l0_0 x4_1) x5_2).f1))) (fun _ h_ => h_.1))) hb); have n1_ := zB.mk (zP (g := gb101) (o := .cells #[.slice (some ad106) l0_0.length c0_0] 30 (0, 0)) (by (with_reducible repeat (first | refine zI ?_ _ | refine zJ ?_ | refine zG ?_ _)); refine qW ?_ NB101_108.out _; (with_reducible repeat (first | refine zI ?_ _ | refine zJ ?_ | refine zG ?_ _)); refine qW ?_ NB101_108.out _; (with_reducible repeat (first | refine zI ?_ _ | refine zJ ?_ | refine zG ?_ _)); exact BK101.out) hb); have n2_ := zB.mk (zP (g := gb108) (o := .cells #[.int .i64 ((zH (zE l0_0 x4_1) x5_2).f0), .int .i64 ((zH (zE l0_0 x4_1) x5_2).f1)] 115 (0, 0)) (by (with_reducible repeat (first | refine zI ?_ _ | refine zJ ?_ | refine zG ?_ _)); refine qa (cs := #[.int .i64 ((zH (zE l0_0 x4_1) x5_2).f0), .int .i64 0]) ?_ 1 _ rfl; (with_reducible repeat (first | refine zI ?_ _ | refine zJ ?_ | refine zG ?_ _)); refine qa (cs := #[.int .i64 0, .int .i64 0]) ?_ 0 _ rfl; (with_reducible repeat (first | refine zI ?_ _ | refine zJ ?_ | refine zG ?_ _)); exact BK108.out) hb); have n3_ := zB.mk (zL (by repeat (first | (with_reducible first | exact HB.out | apply zC | apply zA | apply zD | refine zF ?_ GE101.out | refine zF ?_ GE108.out) | exact HB.out)) hb); clear HO_3; clear BK101; clear BK108; clear HB; have HO_3 := n0_; have BK101 := n1_; have BK108 := n2_; have HB := n3_; clear n0_ n1_ n2_ n3_; (try clear hb); (try clear hb2); (try clear hk); (try clear hi)))
              go_roundg k2
              case measure => have := HK1.out; have := HK2.out; omega
              case rel => exact ⟨(x3_2), (wrap64 (x5_2 + 1)), (by first | rfl | (simp; done) | (simp [*]; done)), H', ⟨by have := HK1.out; have := HK2.out; omega⟩, ⟨by (with_reducible repeat (first | apply Kd.qQ | apply Kd.qR | apply Kd.qf)); exact HO_3.out⟩, ⟨by (with_reducible repeat (first | refine zI ?_ _ | refine zJ ?_ | refine zG ?_ _)); exact BK101.out⟩, ⟨by repeat (first | (with_reducible first | exact HB.out | apply zC | apply zA | apply zD | refine zF ?_ GE101.out | refine zF ?_ GE108.out) | exact HB.out)⟩⟩
            next =>
             rw [if_neg c24] at H
             have c24b0 : (((zH (zE l0_0 x4_1) x5_2).f0) == x4_1) = false := beq_eq_false_iff_ne.mpr c24
             have c24b1 : (((zH (zE l0_0 x4_1) x5_2).f0) != x4_1) = true := bne_iff_ne.mpr c24
             have H' := zB.mk H
             clear H
             have hcz42_0 : wr.cell? ⟨gb101, 0, none⟩ = some (.slice A0_0 l0_0.length c0_0) := (zM BK101.out 0).trans rfl
             have hfz42_0 := zN BK101.out 0
             have p106 : 0 ≤ (x4_1 : Int) := of_decide_eq_true (by first | (with_reducible assumption) | assumption)
             have q106 : x4_1 < (l0_0.length : Int) := of_decide_eq_true (by first | (with_reducible assumption) | assumption)
             obtain ⟨ad106, A106_0, c106_0, e106, hx106_0, hl106_0, hi106_0⟩ := ZI HR0_0.out x4_1 p106 q106
             cases e106
             replace hx106_0 := (HB.out.cell (ypy w _ hx106_0)).trans hx106_0
             have HR106_0 := zB.mk hi106_0
             have HC106_0 := zB.mk hl106_0
             clear hi106_0 hl106_0
             replace p106 := eq_true p106
             replace q106 := eq_true q106
             have p107 : 0 ≤ (x5_2 : Int) := of_decide_eq_true (by first | (with_reducible assumption) | assumption)
             have q107 : x5_2 < ((zE l0_0 x4_1).length : Int) := of_decide_eq_true (by first | (with_reducible assumption) | assumption)
             obtain ⟨ad107, e107, hx107_0, hx107_1⟩ := Zg HR106_0.out x5_2 p107 q107
             cases e107
             replace hx107_0 := (HB.out.cell (ypy w _ hx107_0)).trans hx107_0
             replace hx107_1 := (HB.out.cell (ypy w _ hx107_1)).trans hx107_1
             replace p107 := eq_true p107
             replace q107 := eq_true q107
             go_wp2_with (first | ((with_reducible refine zj (N := 6) rfl ?_); refine zg ?hg (N := 6) ?hd (cs := #[.int .i64 0, .int .i64 0]) (t := 115) ?hr ?_; (case hd => rfl); (case hg => rfl); (case hr => first | (go_simp; done) | (go_simp; rfl)); intro gb108 hg w43 hbox hb; have n0_ := zB.mk (Kd.Zx (by (with_reducible repeat (first | apply Kd.qQ | apply Kd.qR | apply Kd.qf)); exact HO_3.out) hb); have n1_ := zB.mk (zP (g := gb101) (o := .cells #[.slice (some ad106) l0_0.length c0_0] 30 (0, 0)) (by (with_reducible repeat (first | refine zI ?_ _ | refine zJ ?_ | refine zG ?_ _)); exact BK101.out) hb); have n2_ := zB.mk (zL (by repeat (first | (with_reducible first | exact HB.out | apply zC | apply zA | apply zD | refine zF ?_ GE101.out) | exact HB.out)) hb); have n3_ := zB.mk (hbox); have n4_ := zB.mk ((by rw [hg]; exact (zO (by repeat (first | (with_reducible first | exact HB.out | apply zC | apply zA | apply zD | refine zF ?_ GE101.out) | exact HB.out))) : w.heap.size ≤ gb108)); have n5_ := zB.mk ((by rw [hg]; exact (zO (by repeat (first | (with_reducible first | exact HB.out | apply zC | apply zA | apply zD | refine zF ?_ GE101.out) | exact HB.out))) : w.heap.size ≤ gb108)); have n6_ := zB.mk ((by rw [hg]; exact Nat.ne_of_lt (qc (g := gb101) (o := .cells #[.slice (some ad106) l0_0.length c0_0] 30 (0, 0)) (by (with_reducible repeat (first | refine zI ?_ _ | refine zJ ?_ | refine zG ?_ _)); exact BK101.out)) : gb101 ≠ gb108)); have n7_ := zB.mk ((by rw [hg]; exact Nat.ne_of_gt (qc (g := gb101) (o := .cells #[.slice (some ad106) l0_0.length c0_0] 30 (0, 0)) (by (with_reducible repeat (first | refine zI ?_ _ | refine zJ ?_ | refine zG ?_ _)); exact BK101.out)) : gb108 ≠ gb101)); clear HO_3; clear BK101; clear HB; have HO_3 := n0_; have BK101 := n1_; have HB := n2_; have BK108 := n3_; have GW108 := n4_; have GE108 := n5_; have NB101_108 := n6_; have NB108_101 := n7_; clear n0_ n1_ n2_ n3_ n4_ n5_ n6_ n7_; clear hb hbox hg; have hnb44 := NB108_101.out; have hnc44 := NB101_108.out; have hcz45_0 : w43.cell? ⟨gb108, 0, none⟩ = some (.int .i64 0) := (zM BK108.out 0).trans rfl; have hcz45_1 : w43.cell? ⟨gb108, 1, none⟩ = some (.int .i64 0) := (zM BK108.out 1).trans rfl; have hfz45_0 := zN BK108.out 0; have hfz45_1 := zN BK108.out 1))
             go_roundg k2
             case measure => have := HK1.out; have := HK2.out; omega
             case rel => exact ⟨(x3_2), (wrap64 (x5_2 + 1)), (by first | rfl | (simp; done) | (simp [*]; done)), H', ⟨by have := HK1.out; have := HK2.out; omega⟩, ⟨by (with_reducible repeat (first | apply Kd.qQ | apply Kd.qR | apply Kd.qf)); exact Kd.Za (Kd.zAg (p := ⟨gb108, 1, none⟩) (Kd.zAg (p := ⟨gb108, 0, none⟩) (Kd.zAC HO_3.out BK108.out (by decide)) (fun _ hk => hk.2) (.int .i64 ((zH (zE l0_0 x4_1) x5_2).f0))) (fun _ hk => hk.2) (.int .i64 ((zH (zE l0_0 x4_1) x5_2).f1))) (fun _ hk => trivial)⟩, ⟨by (with_reducible repeat (first | refine zI ?_ _ | refine zJ ?_ | refine zG ?_ _)); refine qW ?_ NB101_108.out _; (with_reducible repeat (first | refine zI ?_ _ | refine zJ ?_ | refine zG ?_ _)); refine qW ?_ NB101_108.out _; (with_reducible repeat (first | refine zI ?_ _ | refine zJ ?_ | refine zG ?_ _)); exact BK101.out⟩, ⟨by repeat (first | (with_reducible first | exact HB.out | apply zC | apply zA | apply zD | refine zF ?_ GE101.out | refine zF ?_ GE108.out) | exact HB.out)⟩⟩
          next =>
           rw [if_neg c13] at H
           exact absurd H (by simp)
         next =>
          rw [if_neg c12] at H
          exact absurd H (by simp)
        next =>
         rw [if_neg c11] at H
         exact absurd H (by simp)
       next =>
        rw [if_neg c10] at H
        exact absurd H (by simp)
      next =>
       rw [if_neg c9] at H
       have c9b0 : decide (x5_2 < 4) = false := yhy c9
       clear c9
       have H' := zB.mk H
       clear H
       go_wp2
       go_roundg k2
       case measure => have := HK1.out; have := HK2.out; omega
       case rel => exact ⟨(x3_2), (wrap64 (x4_1 + 1)), (by first | rfl | (simp; done) | (simp [*]; done)), H', ⟨by have := HK1.out; have := HK2.out; omega⟩, ⟨by (with_reducible repeat (first | apply Kd.qQ | apply Kd.qR | apply Kd.qf)); exact HO_3.out⟩, ⟨by (with_reducible repeat (first | refine zI ?_ _ | refine zJ ?_ | refine zG ?_ _)); exact BK101.out⟩, ⟨by repeat (first | (with_reducible first | exact HB.out | apply zC | apply zA | apply zD | refine zF ?_ GE101.out) | exact HB.out)⟩⟩
   next =>
    rw [if_neg c6] at H
    have c6b0 : decide (x4_1 < t105) = false := yhy c6
    clear c6
    obtain rfl := yey H
    have hcz46_0 : wr.cell? ⟨gb101, 0, none⟩ = some (.slice A0_0 l0_0.length c0_0) := (zM BK101.out 0).trans rfl
    have hfz46_0 := zN BK101.out 0
    go_wp2_with (first | ((with_reducible refine zU (f := 59) rfl ?_); refine qH (some 10) rfl rfl Try.func59 (by kernel_rfl) rfl #[.agg #[.slice A0_0 l0_0.length c0_0]] rfl (by (try simp only [yiy, yjy, yky]); first | done | rfl | (simp only [yly, ymy]; rfl)) ?_; (with_reducible refine (zu.calls _ _ l0_0 t105 _ ?side1 ?side2 A5.out).mono ?_); (case side1 => repeat (first | exact (Kd.zY HR0_0.out HB.out) | (with_reducible refine Kd.zZ ?_ _) | (with_reducible refine Kd.za ?_ _) | (with_reducible refine Kd.zh ?_))); (case side2 => exact HC0_0.out); rintro e w47 ⟨rfl, hb⟩; refine ⟨_, rfl, ?_⟩; have n0_ := zB.mk (Kd.Zx (by (with_reducible repeat (first | apply Kd.qQ | apply Kd.qR | apply Kd.qf)); exact HO_3.out) hb); have n1_ := zB.mk (zP (g := gb101) (o := .cells #[.slice A0_0 l0_0.length c0_0] 30 (0, 0)) (by (with_reducible repeat (first | refine zI ?_ _ | refine zJ ?_ | refine zG ?_ _)); exact BK101.out) hb); have n2_ := zB.mk (zL (by repeat (first | (with_reducible first | exact HB.out | apply zC | apply zA | apply zD | refine zF ?_ GE101.out) | exact HB.out)) hb); clear HO_3; clear BK101; clear HB; have HO_3 := n0_; have BK101 := n1_; have HB := n2_; clear n0_ n1_ n2_; (try clear hb); (try clear hb2); (try clear hk); (try clear hi)))
    go_ret
    exact ⟨_, by first | rfl | (simp [zQ, zR] <;> rfl) | (simp [*, zQ, zR] <;> rfl), by (with_reducible repeat (first | apply Kd.qQ | apply Kd.qR | apply Kd.qf)); exact HO_3.out, by repeat (first | (with_reducible first | exact HB.out | apply zC | apply zA | apply zD | refine zF ?_ GE101.out) | exact HB.out)⟩
mutual
def zm.l0 : Nat → List (List Int) → List (List Int) → Int → List (List (qI)) → Option ((List (List Int)))
 | 0, _, _, _, _ => none
 | k + 1, x3, x4, x5, x102000 => if x5 < (x4.length : Int) then (if 0 ≤ x5 then (if 0 < ((zd x4 x5).length : Int) then (if 1 < ((zd x4 x5).length : Int) then (zm.l1 k x3 x4 x5 (rd (zd x4 x5) 0) (rd (zd x4 x5) 1) 0 x102000) else (none)) else (none)) else (none)) else (some x3)
def zm.l1 : Nat → List (List Int) → List (List Int) → Int → Int → Int → Int → List (List (qI)) → Option ((List (List Int)))
 | 0, _, _, _, _, _, _, _ => none
 | k + 1, x3, x4, x5, x6, x7, x8, x102000 => if x8 < 4 then (if x8 = x7 then (zm.l1 k x3 x4 x5 x6 x7 (wrap64 (x8 + 1)) x102000) else ((zu.f x102000).bind fun t112 => (if 0 ≤ (wrap64 (7 * t112)) then (if (wrap64 (7 * t112) : Int).toNat ≤ 35184372088832 then ((some (List.replicate (wrap64 (7 * t112) : Int).toNat 0 : List Int)).bind fun y113 => ((qY.f k x102000 x6 x7 x8).bind fun bt116 => (if 0 ≤ (wrap64 ((wrap64 (7 * x6)) + x8)) then (if (wrap64 ((wrap64 (7 * x6)) + x8)) < (y113.length : Int) then ((some (y113.set ((wrap64 ((wrap64 (7 * x6)) + x8)) : Int).toNat (wrap64 ((rd y113 (wrap64 ((wrap64 (7 * x6)) + x8))) + 1)) : List Int)).bind fun y120 => ((qD.f x7 x8).bind fun t121 => (if 0 ≤ (wrap64 ((wrap64 ((wrap64 (7 * x6)) + 4)) + t121)) then (if (wrap64 ((wrap64 ((wrap64 (7 * x6)) + 4)) + t121)) < (y113.length : Int) then ((some (y120.set ((wrap64 ((wrap64 ((wrap64 (7 * x6)) + 4)) + t121)) : Int).toNat (wrap64 ((rd y120 (wrap64 ((wrap64 ((wrap64 (7 * x6)) + 4)) + t121))) + 1)) : List Int)).bind fun y123 => (if 0 ≤ (wrap64 ((wrap64 (7 * bt116.1)) + bt116.2.2)) then (if (wrap64 ((wrap64 (7 * bt116.1)) + bt116.2.2)) < (y113.length : Int) then ((some (y123.set ((wrap64 ((wrap64 (7 * bt116.1)) + bt116.2.2)) : Int).toNat (wrap64 ((rd y123 (wrap64 ((wrap64 (7 * bt116.1)) + bt116.2.2))) - 1)) : List Int)).bind fun y125 => ((qD.f bt116.2.1 bt116.2.2).bind fun t126 => (if 0 ≤ (wrap64 ((wrap64 ((wrap64 (7 * bt116.1)) + 4)) + t126)) then (if (wrap64 ((wrap64 ((wrap64 (7 * bt116.1)) + 4)) + t126)) < (y113.length : Int) then (if x3.length < 5864062014805 then (zm.l1 k (x3 ++ [(y125.set ((wrap64 ((wrap64 ((wrap64 (7 * bt116.1)) + 4)) + t126)) : Int).toNat (wrap64 ((rd y125 (wrap64 ((wrap64 ((wrap64 (7 * bt116.1)) + 4)) + t126))) - 1)))]) x4 x5 x6 x7 (wrap64 (x8 + 1)) x102000) else (none)) else (none)) else (none)))) else (none)) else (none))) else (none)) else (none)))) else (none)) else (none)))) else (none)) else (none)))) else (zm.l0 k x3 x4 (wrap64 (x5 + 1)) x102000)
end
def zm.f (k : Nat) (l0_0 : List (List (qI))) : Option ((List (List Int))) := (zn.f k l0_0).bind fun t105 => (zm.l0 k (([] : List (List Int))) t105 0 l0_0)
set_option maxHeartbeats 8000000 in
set_option maxRecDepth 100000 in
theorem zm.calls (k : Nat) (A0_0 : Option Addr) (c0_0 : Nat) (l0_0 : List (List (qI))) (r : List (List Int)) (w : World) (hr0_0 : Kd.C (Kd.slice 115 ZP) w A0_0 l0_0.length l0_0) (hc0_0 : l0_0.length ≤ c0_0) (h : zm.f k l0_0 = some r) :
 Calls Try.prog 61 #[.agg #[.slice A0_0 l0_0.length c0_0]] w fun e w' => ∃ v0_ : Value, e = .returned (v0_) ∧ Kd.S (Kd.slice 2 (Kd.int .i64)) 25 w' w.heap.size (fun _ => True) v0_ r ∧ Below w.heap.size w w' := by
 have hu30 := Try.underlying30
 have HR0_0 := zB.mk hr0_0
 have HC0_0 := zB.mk hc0_0
 clear hr0_0 hc0_0
 have HB := zB.mk (yry w.heap.size w)
 have H : ((zn.f k l0_0).bind fun t105 => (zm.l0 k (([] : List (List Int))) t105 0 l0_0)) = some r := h
 clear h
 obtain ⟨y102, hy102⟩ : ∃ y_ : List (List Int), y_ = (([] : List (List Int))) := ⟨_, rfl⟩
 replace H : ((zn.f k l0_0).bind fun t105 => (zm.l0 k y102 t105 0 l0_0)) = some r := by first | (rw [hy102]; with_reducible exact H) | (have H2_ := (yfy _ _).symm.trans H; rw [hy102]; with_reducible exact H2_) | (have H2_ := (yfy _ _).symm.trans H; with_reducible exact H2_) | with_reducible exact H | (rw [hy102]; exact H) | exact H
 have Ny102 := zB.mk hy102
 clear hy102
 replace H := ydy.mp H
 obtain ⟨t105, A20, H⟩ := H
 replace H : (zm.l0 k y102 t105 0 l0_0) = some r := H
 have A2 := zB.mk A20
 clear A20
 have H' := zB.mk H
 clear H
 go_enter Try.func61, Try.ntmps61
 go_wp2_with (first | ((with_reducible refine zj (N := 1) rfl ?_); refine zg ?hg (N := 1) ?hd (cs := #[.slice A0_0 l0_0.length c0_0]) (t := 30) ?hr ?_; (case hd => rfl); (case hg => rfl); (case hr => first | (go_simp; done) | (go_simp; rfl)); intro gb101 hg w3 hbox hb; have n0_ := zB.mk (zL (by repeat (first | (with_reducible first | exact HB.out | apply zC | apply zA | apply zD) | exact HB.out)) hb); have n1_ := zB.mk (hbox); have n2_ := zB.mk ((by rw [hg]; exact (zO (by repeat (first | (with_reducible first | exact HB.out | apply zC | apply zA | apply zD) | exact HB.out))) : w.heap.size ≤ gb101)); have n3_ := zB.mk ((by rw [hg]; exact (zO (by repeat (first | (with_reducible first | exact HB.out | apply zC | apply zA | apply zD) | exact HB.out))) : w.heap.size ≤ gb101)); clear HB; have HB := n0_; have BK101 := n1_; have GW101 := n2_; have GE101 := n3_; clear n0_ n1_ n2_ n3_; clear hb hbox hg) | ((with_reducible refine zj (N := 13) rfl ?_); refine Kd.S_lit (Kd.slice 2 (Kd.int .i64)) _ 25 ?hg (N := 13) ?hd (xs := ([] : List (List Int))) (inner := []) (ok := fun _ => True) (okp := fun _ => True) ?hr ?hp (fun _ hk => hk) trivial (yry _ _) (yqy _) (by simp) ?_; (case hd => rfl); (case hg => rfl); (case hr => first | (go_simp; done) | (go_simp; rfl)); (case hp => exact (QF.none _ _)); intro v103 w4 ho5 hb hg_ hnew_; clear hg_ hnew_; (first | rw [← Ny102.out] at ho5 | (simp only [Int.reduceToNat] at ho5; rw [← Ny102.out] at ho5)); have n0_ := zB.mk (Kd.Jj ho5 (zO (by repeat (first | (with_reducible first | exact HB.out | apply zC | apply zA | apply zD | refine zF ?_ GE101.out) | exact HB.out)))); have n1_ := zB.mk (zP (g := gb101) (o := .cells #[.slice A0_0 l0_0.length c0_0] 30 (0, 0)) (by (with_reducible repeat (first | refine zI ?_ _ | refine zJ ?_ | refine zG ?_ _)); exact BK101.out) hb); have n2_ := zB.mk (zL (by repeat (first | (with_reducible first | exact HB.out | apply zC | apply zA | apply zD | refine zF ?_ GE101.out) | exact HB.out)) hb); clear BK101; clear HB; have HO104 := n0_; have BK101 := n1_; have HB := n2_; clear n0_ n1_ n2_; clear hb ho5; have hcz6_0 : w4.cell? ⟨gb101, 0, none⟩ = some (.slice A0_0 l0_0.length c0_0) := (zM BK101.out 0).trans rfl; have hfz6_0 := zN BK101.out 0) | ((with_reducible refine zU (f := 102) rfl ?_); refine qH (some 15) rfl rfl Try.func102 (by kernel_rfl) rfl #[.agg #[.slice A0_0 l0_0.length c0_0]] rfl (by (try simp only [yiy, yjy, yky]); first | done | rfl | (simp only [yly, ymy]; rfl)) ?_; (with_reducible refine (zn.calls k _ _ l0_0 t105 _ ?side1 ?side2 A2.out).mono ?_); (case side1 => repeat (first | exact (Kd.zY HR0_0.out HB.out) | (with_reducible refine Kd.zZ ?_ _) | (with_reducible refine Kd.za ?_ _) | (with_reducible refine Kd.zh ?_))); (case side2 => exact HC0_0.out); rintro e w7 ⟨v106, rfl, ho0, hb⟩; refine ⟨_, rfl, ?_⟩; have n0_ := zB.mk (Kd.JZ (by (with_reducible repeat (first | apply Kd.qQ | apply Kd.qR | apply Kd.qf)); exact HO104.out) (Kd.S_base ho0) hb); have n1_ := zB.mk (Kd.Jj (Kd.S_new' ho0 (Kd.S_lt (by (with_reducible repeat (first | apply Kd.qQ | apply Kd.qR | apply Kd.qf)); exact HO104.out))) (zO (by repeat (first | (with_reducible first | exact HB.out | apply zC | apply zA | apply zD | refine zF ?_ GE101.out) | exact HB.out)))); have n2_ := zB.mk (zP (g := gb101) (o := .cells #[.slice A0_0 l0_0.length c0_0] 30 (0, 0)) (by (with_reducible repeat (first | refine zI ?_ _ | refine zJ ?_ | refine zG ?_ _)); exact BK101.out) hb); have n3_ := zB.mk (zL (by repeat (first | (with_reducible first | exact HB.out | apply zC | apply zA | apply zD | refine zF ?_ GE101.out) | exact HB.out)) hb); clear HO104; clear BK101; clear HB; have HO104 := n0_; have HO107 := n1_; have BK101 := n2_; have HB := n3_; clear n0_ n1_ n2_ n3_; (try clear hb); (try clear hb2); (try clear hk); (try clear hi); (try clear ho0)))
 go_loopg [3, 5] k (fun kq v3 v5 w' => ∃ (x3_1 : List (List Int)) (x5_1 : Int), v5 = .int .i64 x5_1 ∧ zB (zm.l0 kq x3_1 t105 x5_1 l0_0 = some r) ∧ zB (kq ≤ k) ∧ zB (Kd.S (Kd.slice 2 (Kd.int .i64)) 25 w' w.heap.size (fun k_ => some k_ ≠ (v106 : Value).ownBlock) v3 x3_1) ∧ zB (Kd.S (Kd.slice 2 (Kd.int .i64)) 25 w' w.heap.size (fun k_ => some k_ ≠ (v3 : Value).ownBlock) v106 t105) ∧ zB (w'.heap[gb101]? = some (.cells #[(.slice A0_0 l0_0.length c0_0)] 30 (0, 0))) ∧ zB (Below w.heap.size w w'))
 case atStart => exact ⟨(y102), (0), (by first | rfl | (simp; done) | (simp [*]; done)), H', ⟨yqy _⟩, ⟨by (with_reducible repeat (first | apply Kd.qQ | apply Kd.qR | apply Kd.qf)); exact Kd.Za HO104.out (fun _ hk => hk.2)⟩, ⟨by (with_reducible repeat (first | apply Kd.qQ | apply Kd.qR | apply Kd.qf)); exact Kd.Za HO107.out (fun _ hk => hk.2)⟩, ⟨by (with_reducible repeat (first | refine zI ?_ _ | refine zJ ?_ | refine zG ?_ _)); exact BK101.out⟩, ⟨by repeat (first | (with_reducible first | exact HB.out | apply zC | apply zA | apply zD | refine zF ?_ GE101.out) | exact HB.out)⟩⟩
 case round =>
  clear H'
  try clear c1
  try clear p2
  try clear c6
  try clear hcz6_0
  try clear hfz6_0
  obtain ⟨x3_1, x5_1, rfl, HA, HK1, HO_3, HO_4, BK101, HB⟩ := hrel
  cases gk with
  | zero => exact absurd HA.out (by simp [zm.l0])
  | succ k1 =>
   have H := HA.out
   clear HA
   simp only [zm.l0] at H
   by_cases c8 : x5_1 < (t105.length : Int)
   next =>
    rw [if_pos c8] at H
    have c8b0 : decide (x5_1 < (t105.length : Int)) = true := ygy c8
    clear c8
    by_cases c9 : 0 ≤ x5_1
    next =>
     rw [if_pos c9] at H
     have c9b0 : decide (0 ≤ x5_1) = true := ygy c9
     clear c9
     by_cases c10 : 0 < ((zd t105 x5_1).length : Int)
     next =>
      rw [if_pos c10] at H
      have c10b0 : decide (0 < ((zd t105 x5_1).length : Int)) = true := ygy c10
      have c10b1 : decide (0 < (zd t105 x5_1).length) = true := ygy (by omega)
      clear c10
      by_cases c11 : 1 < ((zd t105 x5_1).length : Int)
      next =>
       rw [if_pos c11] at H
       have c11b0 : decide (1 < ((zd t105 x5_1).length : Int)) = true := ygy c11
       have c11b1 : decide (1 < (zd t105 x5_1).length) = true := ygy (by omega)
       clear c11
       have H' := zB.mk H
       clear H
       obtain ⟨Ao12, co12, eo12⟩ := Kd.Jk HO_4.out
       subst eo12
       have p108 : 0 ≤ (x5_1 : Int) := of_decide_eq_true (by first | (with_reducible assumption) | assumption)
       have q108 : x5_1 < (t105.length : Int) := of_decide_eq_true (by first | (with_reducible assumption) | assumption)
       obtain ⟨ad108, A108_0, c108_0, e108, hx108_0, hl108_0, hi108_0⟩ := zBp (Kd.QC HO_4.out).2.2 x5_1 p108 q108
       cases e108
       obtain ⟨ce108, hce108, hMe108, hcc108⟩ := Kd.zEl HO_4.out [] x5_1 p108 (by first | exact q108 | exact of_decide_eq_true (by first | (with_reducible assumption) | assumption) | (have e_ := (Kd.QC HO_4.out).1; omega))
       obtain ⟨ve108_0, rfl, ge108_0⟩ := hMe108
       have hv108_0 := hcc108 0 _ rfl
       rw [Nat.add_zero, show ((Kd.slice 2 (Kd.int .i64))).sz = 1 from rfl, Nat.mul_one] at hv108_0
       replace hv108_0 := yey (hv108_0.symm.trans hx108_0)
       rw [hv108_0] at ge108_0
       have HL108_0 := zB.mk (show Kd.R (Kd.int .i64) 2 _ _ _ _ (zd t105 x5_1) from ge108_0)
       clear hv108_0 ge108_0
       clear hcc108 hce108
       have HR108_0 := zB.mk hi108_0
       have HC108_0 := zB.mk hl108_0
       clear hi108_0 hl108_0
       replace p108 := eq_true p108
       replace q108 := eq_true q108
       have p109 : 0 ≤ (0 : Int) := (by omega)
       have q109 : 0 < ((zd t105 x5_1).length : Int) := of_decide_eq_true (by first | (with_reducible assumption) | assumption)
       obtain ⟨ad109, e109, hx109_0⟩ := Kd.qu (by repeat (first | (with_reducible exact HR108_0.out) | (with_reducible refine Kd.zZ ?_ _) | (with_reducible refine Kd.za ?_ _) | (with_reducible refine Kd.zh ?_) | exact HR108_0.out)) 0 p109 q109
       cases e109
       have qi109 : (0 < (zd t105 x5_1).length) = True := eq_true (by omega)
       (try rw [show ((0 : Int)).toNat = 0 from rfl] at hx109_0)
       (try rw [Addr.add_zero'] at hx109_0)
       replace p109 := eq_true p109
       replace q109 := eq_true q109
       have p110 : 0 ≤ (x5_1 : Int) := of_decide_eq_true (by first | (with_reducible assumption) | assumption)
       have q110 : x5_1 < (t105.length : Int) := of_decide_eq_true (by first | (with_reducible assumption) | assumption)
       obtain ⟨ad110, A110_0, c110_0, e110, hx110_0, hl110_0, hi110_0⟩ := zBp (Kd.QC HO_4.out).2.2 x5_1 p110 q110
       obtain rfl : ad108 = ad110 := (by injection e110)
       obtain ⟨ce110, hce110, hMe110, hcc110⟩ := Kd.zEl HO_4.out [] x5_1 p110 (by first | exact q110 | exact of_decide_eq_true (by first | (with_reducible assumption) | assumption) | (have e_ := (Kd.QC HO_4.out).1; omega))
       obtain ⟨ve110_0, rfl, ge110_0⟩ := hMe110
       have hv110_0 := hcc110 0 _ rfl
       rw [Nat.add_zero, show ((Kd.slice 2 (Kd.int .i64))).sz = 1 from rfl, Nat.mul_one] at hv110_0
       replace hv110_0 := yey (hv110_0.symm.trans hx110_0)
       rw [hv110_0] at ge110_0
       have HL110_0 := zB.mk (show Kd.R (Kd.int .i64) 2 _ _ _ _ (zd t105 x5_1) from ge110_0)
       clear hv110_0 ge110_0
       clear hcc110 hce110
       have HR110_0 := zB.mk hi110_0
       have HC110_0 := zB.mk hl110_0
       clear hi110_0 hl110_0
       replace p110 := eq_true p110
       replace q110 := eq_true q110
       have ea_ := yey (hx108_0.symm.trans hx110_0)
       injection ea_ with ea_ en_ ec_
       subst ea_
       subst ec_
       clear en_
       have p111 : 0 ≤ (1 : Int) := (by omega)
       have q111 : 1 < ((zd t105 x5_1).length : Int) := of_decide_eq_true (by first | (with_reducible assumption) | assumption)
       obtain ⟨ad111, e111, hx111_0⟩ := Kd.qu (by repeat (first | (with_reducible exact HR110_0.out) | (with_reducible refine Kd.zZ ?_ _) | (with_reducible refine Kd.za ?_ _) | (with_reducible refine Kd.zh ?_) | exact HR110_0.out)) 1 p111 q111
       cases e111
       (try simp only [show (1 : Int).toNat = 1 from rfl, Nat.reduceMul, Nat.reduceEqDiff, Go.Addr.add, ↓reduceIte] at hx111_0)
       have qi111 : (1 < (zd t105 x5_1).length) = True := eq_true (by omega)
       (try rw [show ((1 : Int)).toNat = 1 from rfl] at hx111_0)
       replace p111 := eq_true p111
       replace q111 := eq_true q111
       go_wp2
       go_loopg [3, 8] k1 (fun kq v3 v8 w' => ∃ (x3_2 : List (List Int)) (x8_2 : Int), v8 = .int .i64 x8_2 ∧ zB (zm.l1 kq x3_2 t105 x5_1 (rd (zd t105 x5_1) 0) (rd (zd t105 x5_1) 1) x8_2 l0_0 = some r) ∧ zB (kq ≤ k1) ∧ zB (Kd.S (Kd.slice 2 (Kd.int .i64)) 25 w' w.heap.size (fun k_ => some k_ ≠ ((.slice (some ad108) t105.length co12) : Value).ownBlock) v3 x3_2) ∧ zB (Kd.S (Kd.slice 2 (Kd.int .i64)) 25 w' w.heap.size (fun k_ => some k_ ≠ (v3 : Value).ownBlock) (.slice (some ad108) t105.length co12) t105) ∧ zB (w'.heap[gb101]? = some (.cells #[(.slice A0_0 l0_0.length c0_0)] 30 (0, 0))) ∧ zB (Below w.heap.size w w'))
       case atStart => exact ⟨(x3_1), (0), (by first | rfl | (simp; done) | (simp [*]; done)), H', ⟨yqy _⟩, ⟨by (with_reducible repeat (first | apply Kd.qQ | apply Kd.qR | apply Kd.qf)); exact HO_3.out⟩, ⟨by (with_reducible repeat (first | apply Kd.qQ | apply Kd.qR | apply Kd.qf)); exact HO_4.out⟩, ⟨by (with_reducible repeat (first | refine zI ?_ _ | refine zJ ?_ | refine zG ?_ _)); exact BK101.out⟩, ⟨by repeat (first | (with_reducible first | exact HB.out | apply zC | apply zA | apply zD | refine zF ?_ GE101.out) | exact HB.out)⟩⟩
       case round =>
        clear H'
        try clear c1
        try clear p1
        try clear q1
        try clear hx1
        try clear qi1
        try clear p2
        try clear c6
        try clear c8
        try clear c8b0
        try clear c9
        try clear c9b0
        try clear c10
        try clear c10b0
        try clear c10b1
        try clear p10
        try clear q10
        try clear hx10
        try clear qi10
        try clear c11
        try clear c11b0
        try clear c11b1
        try clear p11
        try clear q11
        try clear hx11
        try clear qi11
        try clear hcz6_0
        try clear hfz6_0
        try clear hx108_0
        try clear hx109_0
        try clear hx110_0
        try clear hx111_0
        try clear p108
        try clear p109
        try clear p110
        try clear p111
        try clear p2
        try clear q108
        try clear q109
        try clear q110
        try clear q111
        obtain ⟨x3_2, x8_2, rfl, HA, HK2, HO_3, HO_4, BK101, HB⟩ := hrel
        cases gk with
        | zero => exact absurd HA.out (by simp [zm.l1])
        | succ k2 =>
         have H := HA.out
         clear HA
         simp only [zm.l1] at H
         by_cases c13 : x8_2 < 4
         next =>
          rw [if_pos c13] at H
          have c13b0 : decide (x8_2 < 4) = true := ygy c13
          clear c13
          by_cases c14 : x8_2 = (rd (zd t105 x5_1) 1)
          next =>
           rw [if_pos c14] at H
           have c14b0 : (x8_2 == (rd (zd t105 x5_1) 1)) = true := beq_iff_eq.mpr c14
           have c14b1 : (x8_2 != (rd (zd t105 x5_1) 1)) = false := bne_eq_false_iff_eq.mpr c14
           clear c14
           have H' := zB.mk H
           clear H
           go_wp2
           go_roundg k2
           case measure => have := HK1.out; have := HK2.out; omega
           case rel => exact ⟨(x3_2), (wrap64 (x8_2 + 1)), (by first | rfl | (simp; done) | (simp [*]; done)), H', ⟨by have := HK1.out; have := HK2.out; omega⟩, ⟨by (with_reducible repeat (first | apply Kd.qQ | apply Kd.qR | apply Kd.qf)); exact HO_3.out⟩, ⟨by (with_reducible repeat (first | apply Kd.qQ | apply Kd.qR | apply Kd.qf)); exact HO_4.out⟩, ⟨by (with_reducible repeat (first | refine zI ?_ _ | refine zJ ?_ | refine zG ?_ _)); exact BK101.out⟩, ⟨by repeat (first | (with_reducible first | exact HB.out | apply zC | apply zA | apply zD | refine zF ?_ GE101.out) | exact HB.out)⟩⟩
          next =>
           rw [if_neg c14] at H
           have c14b0 : (x8_2 == (rd (zd t105 x5_1) 1)) = false := beq_eq_false_iff_ne.mpr c14
           have c14b1 : (x8_2 != (rd (zd t105 x5_1) 1)) = true := bne_iff_ne.mpr c14
           replace H := ydy.mp H
           obtain ⟨t112, A150, H⟩ := H
           replace H : (if 0 ≤ (wrap64 (7 * t112)) then (if (wrap64 (7 * t112) : Int).toNat ≤ 35184372088832 then ((some (List.replicate (wrap64 (7 * t112) : Int).toNat 0 : List Int)).bind fun y113 => ((qY.f k2 l0_0 (rd (zd t105 x5_1) 0) (rd (zd t105 x5_1) 1) x8_2).bind fun bt116 => (if 0 ≤ (wrap64 ((wrap64 (7 * (rd (zd t105 x5_1) 0))) + x8_2)) then (if (wrap64 ((wrap64 (7 * (rd (zd t105 x5_1) 0))) + x8_2)) < (y113.length : Int) then ((some (y113.set ((wrap64 ((wrap64 (7 * (rd (zd t105 x5_1) 0))) + x8_2)) : Int).toNat (wrap64 ((rd y113 (wrap64 ((wrap64 (7 * (rd (zd t105 x5_1) 0))) + x8_2))) + 1)) : List Int)).bind fun y120 => ((qD.f (rd (zd t105 x5_1) 1) x8_2).bind fun t121 => (if 0 ≤ (wrap64 ((wrap64 ((wrap64 (7 * (rd (zd t105 x5_1) 0))) + 4)) + t121)) then (if (wrap64 ((wrap64 ((wrap64 (7 * (rd (zd t105 x5_1) 0))) + 4)) + t121)) < (y113.length : Int) then ((some (y120.set ((wrap64 ((wrap64 ((wrap64 (7 * (rd (zd t105 x5_1) 0))) + 4)) + t121)) : Int).toNat (wrap64 ((rd y120 (wrap64 ((wrap64 ((wrap64 (7 * (rd (zd t105 x5_1) 0))) + 4)) + t121))) + 1)) : List Int)).bind fun y123 => (if 0 ≤ (wrap64 ((wrap64 (7 * bt116.1)) + bt116.2.2)) then (if (wrap64 ((wrap64 (7 * bt116.1)) + bt116.2.2)) < (y113.length : Int) then ((some (y123.set ((wrap64 ((wrap64 (7 * bt116.1)) + bt116.2.2)) : Int).toNat (wrap64 ((rd y123 (wrap64 ((wrap64 (7 * bt116.1)) + bt116.2.2))) - 1)) : List Int)).bind fun y125 => ((qD.f bt116.2.1 bt116.2.2).bind fun t126 => (if 0 ≤ (wrap64 ((wrap64 ((wrap64 (7 * bt116.1)) + 4)) + t126)) then (if (wrap64 ((wrap64 ((wrap64 (7 * bt116.1)) + 4)) + t126)) < (y113.length : Int) then (if x3_2.length < 5864062014805 then (zm.l1 k2 (x3_2 ++ [(y125.set ((wrap64 ((wrap64 ((wrap64 (7 * bt116.1)) + 4)) + t126)) : Int).toNat (wrap64 ((rd y125 (wrap64 ((wrap64 ((wrap64 (7 * bt116.1)) + 4)) + t126))) - 1)))]) t105 x5_1 (rd (zd t105 x5_1) 0) (rd (zd t105 x5_1) 1) (wrap64 (x8_2 + 1)) l0_0) else (none)) else (none)) else (none)))) else (none)) else (none))) else (none)) else (none)))) else (none)) else (none)))) else (none)) else (none)) = some r := H
           have A15 := zB.mk A150
           clear A150
           obtain ⟨ji16, hji16⟩ : ∃ j_ : Int, (wrap64 (7 * t112)) = j_ := ⟨_, rfl⟩
           replace H : (if 0 ≤ (ji16) then (if (ji16 : Int).toNat ≤ 35184372088832 then ((some (List.replicate (ji16 : Int).toNat 0 : List Int)).bind fun y113 => ((qY.f k2 l0_0 (rd (zd t105 x5_1) 0) (rd (zd t105 x5_1) 1) x8_2).bind fun bt116 => (if 0 ≤ (wrap64 ((wrap64 (7 * (rd (zd t105 x5_1) 0))) + x8_2)) then (if (wrap64 ((wrap64 (7 * (rd (zd t105 x5_1) 0))) + x8_2)) < (y113.length : Int) then ((some (y113.set ((wrap64 ((wrap64 (7 * (rd (zd t105 x5_1) 0))) + x8_2)) : Int).toNat (wrap64 ((rd y113 (wrap64 ((wrap64 (7 * (rd (zd t105 x5_1) 0))) + x8_2))) + 1)) : List Int)).bind fun y120 => ((qD.f (rd (zd t105 x5_1) 1) x8_2).bind fun t121 => (if 0 ≤ (wrap64 ((wrap64 ((wrap64 (7 * (rd (zd t105 x5_1) 0))) + 4)) + t121)) then (if (wrap64 ((wrap64 ((wrap64 (7 * (rd (zd t105 x5_1) 0))) + 4)) + t121)) < (y113.length : Int) then ((some (y120.set ((wrap64 ((wrap64 ((wrap64 (7 * (rd (zd t105 x5_1) 0))) + 4)) + t121)) : Int).toNat (wrap64 ((rd y120 (wrap64 ((wrap64 ((wrap64 (7 * (rd (zd t105 x5_1) 0))) + 4)) + t121))) + 1)) : List Int)).bind fun y123 => (if 0 ≤ (wrap64 ((wrap64 (7 * bt116.1)) + bt116.2.2)) then (if (wrap64 ((wrap64 (7 * bt116.1)) + bt116.2.2)) < (y113.length : Int) then ((some (y123.set ((wrap64 ((wrap64 (7 * bt116.1)) + bt116.2.2)) : Int).toNat (wrap64 ((rd y123 (wrap64 ((wrap64 (7 * bt116.1)) + bt116.2.2))) - 1)) : List Int)).bind fun y125 => ((qD.f bt116.2.1 bt116.2.2).bind fun t126 => (if 0 ≤ (wrap64 ((wrap64 ((wrap64 (7 * bt116.1)) + 4)) + t126)) then (if (wrap64 ((wrap64 ((wrap64 (7 * bt116.1)) + 4)) + t126)) < (y113.length : Int) then (if x3_2.length < 5864062014805 then (zm.l1 k2 (x3_2 ++ [(y125.set ((wrap64 ((wrap64 ((wrap64 (7 * bt116.1)) + 4)) + t126)) : Int).toNat (wrap64 ((rd y125 (wrap64 ((wrap64 ((wrap64 (7 * bt116.1)) + 4)) + t126))) - 1)))]) t105 x5_1 (rd (zd t105 x5_1) 0) (rd (zd t105 x5_1) 1) (wrap64 (x8_2 + 1)) l0_0) else (none)) else (none)) else (none)))) else (none)) else (none))) else (none)) else (none)))) else (none)) else (none)))) else (none)) else (none)) = some r := by first | (rw [hji16] at H; exact H) | (simp only [hji16] at H ⊢; exact H)
           (try rw [hji16] at A15)
           have hji16w : (IntKind.i64.wrap (7 * t112)) = ji16 := (zW _).trans hji16
           by_cases c17 : 0 ≤ (ji16)
           next =>
            rw [if_pos c17] at H
            have c17b0 := eq_true c17
            have c17b1 : decide (0 ≤ (ji16)) = true := ygy c17
            clear c17
            by_cases c18 : (ji16 : Int).toNat ≤ 35184372088832
            next =>
             rw [if_pos c18] at H
             have c18b0 := eq_true c18
             have c18b1 : decide ((ji16 : Int).toNat ≤ 35184372088832) = true := ygy c18
             clear c18
             obtain ⟨y113, hy113⟩ : ∃ y_ : List Int, y_ = (List.replicate (ji16 : Int).toNat 0) := ⟨_, rfl⟩
             replace H : ((qY.f k2 l0_0 (rd (zd t105 x5_1) 0) (rd (zd t105 x5_1) 1) x8_2).bind fun bt116 => (if 0 ≤ (wrap64 ((wrap64 (7 * (rd (zd t105 x5_1) 0))) + x8_2)) then (if (wrap64 ((wrap64 (7 * (rd (zd t105 x5_1) 0))) + x8_2)) < (y113.length : Int) then ((some (y113.set ((wrap64 ((wrap64 (7 * (rd (zd t105 x5_1) 0))) + x8_2)) : Int).toNat (wrap64 ((rd y113 (wrap64 ((wrap64 (7 * (rd (zd t105 x5_1) 0))) + x8_2))) + 1)) : List Int)).bind fun y120 => ((qD.f (rd (zd t105 x5_1) 1) x8_2).bind fun t121 => (if 0 ≤ (wrap64 ((wrap64 ((wrap64 (7 * (rd (zd t105 x5_1) 0))) + 4)) + t121)) then (if (wrap64 ((wrap64 ((wrap64 (7 * (rd (zd t105 x5_1) 0))) + 4)) + t121)) < (y113.length : Int) then ((some (y120.set ((wrap64 ((wrap64 ((wrap64 (7 * (rd (zd t105 x5_1) 0))) + 4)) + t121)) : Int).toNat (wrap64 ((rd y120 (wrap64 ((wrap64 ((wrap64 (7 * (rd (zd t105 x5_1) 0))) + 4)) + t121))) + 1)) : List Int)).bind fun y123 => (if 0 ≤ (wrap64 ((wrap64 (7 * bt116.1)) + bt116.2.2)) then (if (wrap64 ((wrap64 (7 * bt116.1)) + bt116.2.2)) < (y113.length : Int) then ((some (y123.set ((wrap64 ((wrap64 (7 * bt116.1)) + bt116.2.2)) : Int).toNat (wrap64 ((rd y123 (wrap64 ((wrap64 (7 * bt116.1)) + bt116.2.2))) - 1)) : List Int)).bind fun y125 => ((qD.f bt116.2.1 bt116.2.2).bind fun t126 => (if 0 ≤ (wrap64 ((wrap64 ((wrap64 (7 * bt116.1)) + 4)) + t126)) then (if (wrap64 ((wrap64 ((wrap64 (7 * bt116.1)) + 4)) + t126)) < (y113.length : Int) then (if x3_2.length < 5864062014805 then (zm.l1 k2 (x3_2 ++ [(y125.set ((wrap64 ((wrap64 ((wrap64 (7 * bt116.1)) + 4)) + t126)) : Int).toNat (wrap64 ((rd y125 (wrap64 ((wrap64 ((wrap64 (7 * bt116.1)) + 4)) + t126))) - 1)))]) t105 x5_1 (rd (zd t105 x5_1) 0) (rd (zd t105 x5_1) 1) (wrap64 (x8_2 + 1)) l0_0) else (none)) else (none)) else (none)))) else (none)) else (none))) else (none)) else (none)))) else (none)) else (none))) = some r := by first | (rw [hy113]; with_reducible exact H) | (have H2_ := (yfy _ _).symm.trans H; rw [hy113]; with_reducible exact H2_) | (have H2_ := (yfy _ _).symm.trans H; with_reducible exact H2_) | with_reducible exact H | (rw [hy113]; exact H) | exact H
             have Ny113 := zB.mk hy113
             clear hy113
             replace H := ydy.mp H
             obtain ⟨⟨t116, t117, t118⟩, A190, H⟩ := H
             replace H : (if 0 ≤ (wrap64 ((wrap64 (7 * (rd (zd t105 x5_1) 0))) + x8_2)) then (if (wrap64 ((wrap64 (7 * (rd (zd t105 x5_1) 0))) + x8_2)) < (y113.length : Int) then ((some (y113.set ((wrap64 ((wrap64 (7 * (rd (zd t105 x5_1) 0))) + x8_2)) : Int).toNat (wrap64 ((rd y113 (wrap64 ((wrap64 (7 * (rd (zd t105 x5_1) 0))) + x8_2))) + 1)) : List Int)).bind fun y120 => ((qD.f (rd (zd t105 x5_1) 1) x8_2).bind fun t121 => (if 0 ≤ (wrap64 ((wrap64 ((wrap64 (7 * (rd (zd t105 x5_1) 0))) + 4)) + t121)) then (if (wrap64 ((wrap64 ((wrap64 (7 * (rd (zd t105 x5_1) 0))) + 4)) + t121)) < (y113.length : Int) then ((some (y120.set ((wrap64 ((wrap64 ((wrap64 (7 * (rd (zd t105 x5_1) 0))) + 4)) + t121)) : Int).toNat (wrap64 ((rd y120 (wrap64 ((wrap64 ((wrap64 (7 * (rd (zd t105 x5_1) 0))) + 4)) + t121))) + 1)) : List Int)).bind fun y123 => (if 0 ≤ (wrap64 ((wrap64 (7 * t116)) + t118)) then (if (wrap64 ((wrap64 (7 * t116)) + t118)) < (y113.length : Int) then ((some (y123.set ((wrap64 ((wrap64 (7 * t116)) + t118)) : Int).toNat (wrap64 ((rd y123 (wrap64 ((wrap64 (7 * t116)) + t118))) - 1)) : List Int)).bind fun y125 => ((qD.f t117 t118).bind fun t126 => (if 0 ≤ (wrap64 ((wrap64 ((wrap64 (7 * t116)) + 4)) + t126)) then (if (wrap64 ((wrap64 ((wrap64 (7 * t116)) + 4)) + t126)) < (y113.length : Int) then (if x3_2.length < 5864062014805 then (zm.l1 k2 (x3_2 ++ [(y125.set ((wrap64 ((wrap64 ((wrap64 (7 * t116)) + 4)) + t126)) : Int).toNat (wrap64 ((rd y125 (wrap64 ((wrap64 ((wrap64 (7 * t116)) + 4)) + t126))) - 1)))]) t105 x5_1 (rd (zd t105 x5_1) 0) (rd (zd t105 x5_1) 1) (wrap64 (x8_2 + 1)) l0_0) else (none)) else (none)) else (none)))) else (none)) else (none))) else (none)) else (none)))) else (none)) else (none)) = some r := H
             have A19 := zB.mk A190
             clear A190
             obtain ⟨ji20, hji20⟩ : ∃ j_ : Int, (wrap64 ((wrap64 (7 * (rd (zd t105 x5_1) 0))) + x8_2)) = j_ := ⟨_, rfl⟩
             replace H : (if 0 ≤ (ji20) then (if (ji20) < (y113.length : Int) then ((some (y113.set ((ji20) : Int).toNat (wrap64 ((rd y113 (ji20)) + 1)) : List Int)).bind fun y120 => ((qD.f (rd (zd t105 x5_1) 1) x8_2).bind fun t121 => (if 0 ≤ (wrap64 ((wrap64 ((wrap64 (7 * (rd (zd t105 x5_1) 0))) + 4)) + t121)) then (if (wrap64 ((wrap64 ((wrap64 (7 * (rd (zd t105 x5_1) 0))) + 4)) + t121)) < (y113.length : Int) then ((some (y120.set ((wrap64 ((wrap64 ((wrap64 (7 * (rd (zd t105 x5_1) 0))) + 4)) + t121)) : Int).toNat (wrap64 ((rd y120 (wrap64 ((wrap64 ((wrap64 (7 * (rd (zd t105 x5_1) 0))) + 4)) + t121))) + 1)) : List Int)).bind fun y123 => (if 0 ≤ (wrap64 ((wrap64 (7 * t116)) + t118)) then (if (wrap64 ((wrap64 (7 * t116)) + t118)) < (y113.length : Int) then ((some (y123.set ((wrap64 ((wrap64 (7 * t116)) + t118)) : Int).toNat (wrap64 ((rd y123 (wrap64 ((wrap64 (7 * t116)) + t118))) - 1)) : List Int)).bind fun y125 => ((qD.f t117 t118).bind fun t126 => (if 0 ≤ (wrap64 ((wrap64 ((wrap64 (7 * t116)) + 4)) + t126)) then (if (wrap64 ((wrap64 ((wrap64 (7 * t116)) + 4)) + t126)) < (y113.length : Int) then (if x3_2.length < 5864062014805 then (zm.l1 k2 (x3_2 ++ [(y125.set ((wrap64 ((wrap64 ((wrap64 (7 * t116)) + 4)) + t126)) : Int).toNat (wrap64 ((rd y125 (wrap64 ((wrap64 ((wrap64 (7 * t116)) + 4)) + t126))) - 1)))]) t105 x5_1 (rd (zd t105 x5_1) 0) (rd (zd t105 x5_1) 1) (wrap64 (x8_2 + 1)) l0_0) else (none)) else (none)) else (none)))) else (none)) else (none))) else (none)) else (none)))) else (none)) else (none)) = some r := by first | (rw [hji20] at H; exact H) | (simp only [hji20] at H ⊢; exact H)
             (try rw [hji20] at A15)
             (try rw [hji20] at A19)
             have hji20w : (IntKind.i64.wrap ((wrap64 (7 * (rd (zd t105 x5_1) 0))) + x8_2)) = ji20 := (zW _).trans hji20
             by_cases c21 : 0 ≤ (ji20)
             next =>
              rw [if_pos c21] at H
              have c21b0 : decide (0 ≤ (ji20)) = true := ygy c21
              clear c21
              by_cases c22 : (ji20) < (y113.length : Int)
              next =>
               rw [if_pos c22] at H
               have c22b0 : decide ((ji20) < (y113.length : Int)) = true := ygy c22
               clear c22
               obtain ⟨y120, hy120⟩ : ∃ y_ : List Int, y_ = (y113.set ((ji20) : Int).toNat (wrap64 ((rd y113 (ji20)) + 1))) := ⟨_, rfl⟩
               replace H : ((qD.f (rd (zd t105 x5_1) 1) x8_2).bind fun t121 => (if 0 ≤ (wrap64 ((wrap64 ((wrap64 (7 * (rd (zd t105 x5_1) 0))) + 4)) + t121)) then (if (wrap64 ((wrap64 ((wrap64 (7 * (rd (zd t105 x5_1) 0))) + 4)) + t121)) < (y113.length : Int) then ((some (y120.set ((wrap64 ((wrap64 ((wrap64 (7 * (rd (zd t105 x5_1) 0))) + 4)) + t121)) : Int).toNat (wrap64 ((rd y120 (wrap64 ((wrap64 ((wrap64 (7 * (rd (zd t105 x5_1) 0))) + 4)) + t121))) + 1)) : List Int)).bind fun y123 => (if 0 ≤ (wrap64 ((wrap64 (7 * t116)) + t118)) then (if (wrap64 ((wrap64 (7 * t116)) + t118)) < (y113.length : Int) then ((some (y123.set ((wrap64 ((wrap64 (7 * t116)) + t118)) : Int).toNat (wrap64 ((rd y123 (wrap64 ((wrap64 (7 * t116)) + t118))) - 1)) : List Int)).bind fun y125 => ((qD.f t117 t118).bind fun t126 => (if 0 ≤ (wrap64 ((wrap64 ((wrap64 (7 * t116)) + 4)) + t126)) then (if (wrap64 ((wrap64 ((wrap64 (7 * t116)) + 4)) + t126)) < (y113.length : Int) then (if x3_2.length < 5864062014805 then (zm.l1 k2 (x3_2 ++ [(y125.set ((wrap64 ((wrap64 ((wrap64 (7 * t116)) + 4)) + t126)) : Int).toNat (wrap64 ((rd y125 (wrap64 ((wrap64 ((wrap64 (7 * t116)) + 4)) + t126))) - 1)))]) t105 x5_1 (rd (zd t105 x5_1) 0) (rd (zd t105 x5_1) 1) (wrap64 (x8_2 + 1)) l0_0) else (none)) else (none)) else (none)))) else (none)) else (none))) else (none)) else (none))) = some r := by first | (rw [hy120]; with_reducible exact H) | (have H2_ := (yfy _ _).symm.trans H; rw [hy120]; with_reducible exact H2_) | (have H2_ := (yfy _ _).symm.trans H; with_reducible exact H2_) | with_reducible exact H | (rw [hy120]; exact H) | exact H
               have Ny120 := zB.mk hy120
               clear hy120
               replace H := ydy.mp H
               obtain ⟨t121, A240, H⟩ := H
               replace H : (if 0 ≤ (wrap64 ((wrap64 ((wrap64 (7 * (rd (zd t105 x5_1) 0))) + 4)) + t121)) then (if (wrap64 ((wrap64 ((wrap64 (7 * (rd (zd t105 x5_1) 0))) + 4)) + t121)) < (y113.length : Int) then ((some (y120.set ((wrap64 ((wrap64 ((wrap64 (7 * (rd (zd t105 x5_1) 0))) + 4)) + t121)) : Int).toNat (wrap64 ((rd y120 (wrap64 ((wrap64 ((wrap64 (7 * (rd (zd t105 x5_1) 0))) + 4)) + t121))) + 1)) : List Int)).bind fun y123 => (if 0 ≤ (wrap64 ((wrap64 (7 * t116)) + t118)) then (if (wrap64 ((wrap64 (7 * t116)) + t118)) < (y113.length : Int) then ((some (y123.set ((wrap64 ((wrap64 (7 * t116)) + t118)) : Int).toNat (wrap64 ((rd y123 (wrap64 ((wrap64 (7 * t116)) + t118))) - 1)) : List Int)).bind fun y125 => ((qD.f t117 t118).bind fun t126 => (if 0 ≤ (wrap64 ((wrap64 ((wrap64 (7 * t116)) + 4)) + t126)) then (if (wrap64 ((wrap64 ((wrap64 (7 * t116)) + 4)) + t126)) < (y113.length : Int) then (if x3_2.length < 5864062014805 then (zm.l1 k2 (x3_2 ++ [(y125.set ((wrap64 ((wrap64 ((wrap64 (7 * t116)) + 4)) + t126)) : Int).toNat (wrap64 ((rd y125 (wrap64 ((wrap64 ((wrap64 (7 * t116)) + 4)) + t126))) - 1)))]) t105 x5_1 (rd (zd t105 x5_1) 0) (rd (zd t105 x5_1) 1) (wrap64 (x8_2 + 1)) l0_0) else (none)) else (none)) else (none)))) else (none)) else (none))) else (none)) else (none)) = some r := H
               have A24 := zB.mk A240
               clear A240
               obtain ⟨ji25, hji25⟩ : ∃ j_ : Int, (wrap64 ((wrap64 ((wrap64 (7 * (rd (zd t105 x5_1) 0))) + 4)) + t121)) = j_ := ⟨_, rfl⟩
               replace H : (if 0 ≤ (ji25) then (if (ji25) < (y113.length : Int) then ((some (y120.set ((ji25) : Int).toNat (wrap64 ((rd y120 (ji25)) + 1)) : List Int)).bind fun y123 => (if 0 ≤ (wrap64 ((wrap64 (7 * t116)) + t118)) then (if (wrap64 ((wrap64 (7 * t116)) + t118)) < (y113.length : Int) then ((some (y123.set ((wrap64 ((wrap64 (7 * t116)) + t118)) : Int).toNat (wrap64 ((rd y123 (wrap64 ((wrap64 (7 * t116)) + t118))) - 1)) : List Int)).bind fun y125 => ((qD.f t117 t118).bind fun t126 => (if 0 ≤ (wrap64 ((wrap64 ((wrap64 (7 * t116)) + 4)) + t126)) then (if (wrap64 ((wrap64 ((wrap64 (7 * t116)) + 4)) + t126)) < (y113.length : Int) then (if x3_2.length < 5864062014805 then (zm.l1 k2 (x3_2 ++ [(y125.set ((wrap64 ((wrap64 ((wrap64 (7 * t116)) + 4)) + t126)) : Int).toNat (wrap64 ((rd y125 (wrap64 ((wrap64 ((wrap64 (7 * t116)) + 4)) + t126))) - 1)))]) t105 x5_1 (rd (zd t105 x5_1) 0) (rd (zd t105 x5_1) 1) (wrap64 (x8_2 + 1)) l0_0) else (none)) else (none)) else (none)))) else (none)) else (none))) else (none)) else (none)) = some r := by first | (rw [hji25] at H; exact H) | (simp only [hji25] at H ⊢; exact H)
               (try rw [hji25] at A15)
               (try rw [hji25] at A19)
               (try rw [hji25] at A24)
               have hji25w : (IntKind.i64.wrap ((wrap64 ((wrap64 (7 * (rd (zd t105 x5_1) 0))) + 4)) + t121)) = ji25 := (zW _).trans hji25
               by_cases c26 : 0 ≤ (ji25)
               next =>
                rw [if_pos c26] at H
                have c26b0 : decide (0 ≤ (ji25)) = true := ygy c26
                clear c26
                by_cases c27 : (ji25) < (y113.length : Int)
                next =>
                 rw [if_pos c27] at H
                 have c27b0 : decide ((ji25) < (y113.length : Int)) = true := ygy c27
                 clear c27
                 obtain ⟨y123, hy123⟩ : ∃ y_ : List Int, y_ = (y120.set ((ji25) : Int).toNat (wrap64 ((rd y120 (ji25)) + 1))) := ⟨_, rfl⟩
                 replace H : (if 0 ≤ (wrap64 ((wrap64 (7 * t116)) + t118)) then (if (wrap64 ((wrap64 (7 * t116)) + t118)) < (y113.length : Int) then ((some (y123.set ((wrap64 ((wrap64 (7 * t116)) + t118)) : Int).toNat (wrap64 ((rd y123 (wrap64 ((wrap64 (7 * t116)) + t118))) - 1)) : List Int)).bind fun y125 => ((qD.f t117 t118).bind fun t126 => (if 0 ≤ (wrap64 ((wrap64 ((wrap64 (7 * t116)) + 4)) + t126)) then (if (wrap64 ((wrap64 ((wrap64 (7 * t116)) + 4)) + t126)) < (y113.length : Int) then (if x3_2.length < 5864062014805 then (zm.l1 k2 (x3_2 ++ [(y125.set ((wrap64 ((wrap64 ((wrap64 (7 * t116)) + 4)) + t126)) : Int).toNat (wrap64 ((rd y125 (wrap64 ((wrap64 ((wrap64 (7 * t116)) + 4)) + t126))) - 1)))]) t105 x5_1 (rd (zd t105 x5_1) 0) (rd (zd t105 x5_1) 1) (wrap64 (x8_2 + 1)) l0_0) else (none)) else (none)) else (none)))) else (none)) else (none)) = some r := by first | (rw [hy123]; with_reducible exact H) | (have H2_ := (yfy _ _).symm.trans H; rw [hy123]; with_reducible exact H2_) | (have H2_ := (yfy _ _).symm.trans H; with_reducible exact H2_) | with_reducible exact H | (rw [hy123]; exact H) | exact H
                 have Ny123 := zB.mk hy123
                 clear hy123
                 obtain ⟨ji29, hji29⟩ : ∃ j_ : Int, (wrap64 ((wrap64 (7 * t116)) + t118)) = j_ := ⟨_, rfl⟩
                 replace H : (if 0 ≤ (ji29) then (if (ji29) < (y113.length : Int) then ((some (y123.set ((ji29) : Int).toNat (wrap64 ((rd y123 (ji29)) - 1)) : List Int)).bind fun y125 => ((qD.f t117 t118).bind fun t126 => (if 0 ≤ (wrap64 ((wrap64 ((wrap64 (7 * t116)) + 4)) + t126)) then (if (wrap64 ((wrap64 ((wrap64 (7 * t116)) + 4)) + t126)) < (y113.length : Int) then (if x3_2.length < 5864062014805 then (zm.l1 k2 (x3_2 ++ [(y125.set ((wrap64 ((wrap64 ((wrap64 (7 * t116)) + 4)) + t126)) : Int).toNat (wrap64 ((rd y125 (wrap64 ((wrap64 ((wrap64 (7 * t116)) + 4)) + t126))) - 1)))]) t105 x5_1 (rd (zd t105 x5_1) 0) (rd (zd t105 x5_1) 1) (wrap64 (x8_2 + 1)) l0_0) else (none)) else (none)) else (none)))) else (none)) else (none)) = some r := by first | (rw [hji29] at H; exact H) | (simp only [hji29] at H ⊢; exact H)
                 (try rw [hji29] at A15)
                 (try rw [hji29] at A19)
                 (try rw [hji29] at A24)
                 have hji29w : (IntKind.i64.wrap ((wrap64 (7 * t116)) + t118)) = ji29 := (zW _).trans hji29
                 by_cases c30 : 0 ≤ (ji29)
                 next =>
                  rw [if_pos c30] at H
                  have c30b0 : decide (0 ≤ (ji29)) = true := ygy c30
                  clear c30
                  by_cases c31 : (ji29) < (y113.length : Int)
                  next =>
                   rw [if_pos c31] at H
                   have c31b0 : decide ((ji29) < (y113.length : Int)) = true := ygy c31
                   clear c31
                   obtain ⟨y125, hy125⟩ : ∃ y_ : List Int, y_ = (y123.set ((ji29) : Int).toNat (wrap64 ((rd y123 (ji29)) - 1))) := ⟨_, rfl⟩
                   replace H : ((qD.f t117 t118).bind fun t126 => (if 0 ≤ (wrap64 ((wrap64 ((wrap64 (7 * t116)) + 4)) + t126)) then (if (wrap64 ((wrap64 ((wrap64 (7 * t116)) + 4)) + t126)) < (y113.length : Int) then (if x3_2.length < 5864062014805 then (zm.l1 k2 (x3_2 ++ [(y125.set ((wrap64 ((wrap64 ((wrap64 (7 * t116)) + 4)) + t126)) : Int).toNat (wrap64 ((rd y125 (wrap64 ((wrap64 ((wrap64 (7 * t116)) + 4)) + t126))) - 1)))]) t105 x5_1 (rd (zd t105 x5_1) 0) (rd (zd t105 x5_1) 1) (wrap64 (x8_2 + 1)) l0_0) else (none)) else (none)) else (none))) = some r := by first | (rw [hy125]; with_reducible exact H) | (have H2_ := (yfy _ _).symm.trans H; rw [hy125]; with_reducible exact H2_) | (have H2_ := (yfy _ _).symm.trans H; with_reducible exact H2_) | with_reducible exact H | (rw [hy125]; exact H) | exact H
                   have Ny125 := zB.mk hy125
                   clear hy125
                   replace H := ydy.mp H
                   obtain ⟨t126, A330, H⟩ := H
                   replace H : (if 0 ≤ (wrap64 ((wrap64 ((wrap64 (7 * t116)) + 4)) + t126)) then (if (wrap64 ((wrap64 ((wrap64 (7 * t116)) + 4)) + t126)) < (y113.length : Int) then (if x3_2.length < 5864062014805 then (zm.l1 k2 (x3_2 ++ [(y125.set ((wrap64 ((wrap64 ((wrap64 (7 * t116)) + 4)) + t126)) : Int).toNat (wrap64 ((rd y125 (wrap64 ((wrap64 ((wrap64 (7 * t116)) + 4)) + t126))) - 1)))]) t105 x5_1 (rd (zd t105 x5_1) 0) (rd (zd t105 x5_1) 1) (wrap64 (x8_2 + 1)) l0_0) else (none)) else (none)) else (none)) = some r := H
                   have A33 := zB.mk A330
                   clear A330
                   obtain ⟨ji34, hji34⟩ : ∃ j_ : Int, (wrap64 ((wrap64 ((wrap64 (7 * t116)) + 4)) + t126)) = j_ := ⟨_, rfl⟩
                   replace H : (if 0 ≤ (ji34) then (if (ji34) < (y113.length : Int) then (if x3_2.length < 5864062014805 then (zm.l1 k2 (x3_2 ++ [(y125.set ((ji34) : Int).toNat (wrap64 ((rd y125 (ji34)) - 1)))]) t105 x5_1 (rd (zd t105 x5_1) 0) (rd (zd t105 x5_1) 1) (wrap64 (x8_2 + 1)) l0_0) else (none)) else (none)) else (none)) = some r := by first | (rw [hji34] at H; exact H) | (simp only [hji34] at H ⊢; exact H)
                   (try rw [hji34] at A15)
                   (try rw [hji34] at A19)
                   (try rw [hji34] at A24)
                   (try rw [hji34] at A33)
                   have hji34w : (IntKind.i64.wrap ((wrap64 ((wrap64 (7 * t116)) + 4)) + t126)) = ji34 := (zW _).trans hji34
                   by_cases c35 : 0 ≤ (ji34)
                   next =>
                    rw [if_pos c35] at H
                    have c35b0 : decide (0 ≤ (ji34)) = true := ygy c35
                    clear c35
                    by_cases c36 : (ji34) < (y113.length : Int)
                    next =>
                     rw [if_pos c36] at H
                     have c36b0 : decide ((ji34) < (y113.length : Int)) = true := ygy c36
                     clear c36
                     obtain ⟨y128, hy128⟩ : ∃ y_ : List Int, y_ = (y125.set ((ji34) : Int).toNat (wrap64 ((rd y125 (ji34)) - 1))) := ⟨_, rfl⟩
                     replace H : (if x3_2.length < 5864062014805 then (zm.l1 k2 (x3_2 ++ [y128]) t105 x5_1 (rd (zd t105 x5_1) 0) (rd (zd t105 x5_1) 1) (wrap64 (x8_2 + 1)) l0_0) else (none)) = some r := by first | (rw [hy128]; with_reducible exact H) | (have H2_ := (yfy _ _).symm.trans H; rw [hy128]; with_reducible exact H2_) | (have H2_ := (yfy _ _).symm.trans H; with_reducible exact H2_) | with_reducible exact H | (rw [hy128]; exact H) | exact H
                     have Ny128 := zB.mk hy128
                     clear hy128
                     by_cases c38 : x3_2.length < 5864062014805
                     next =>
                      rw [if_pos c38] at H
                      have LMc38 := zB.mk c38
                      clear c38
                      obtain ⟨y129, hy129⟩ : ∃ y_ : List (List Int), y_ = (x3_2 ++ [y128]) := ⟨_, rfl⟩
                      replace H : (zm.l1 k2 y129 t105 x5_1 (rd (zd t105 x5_1) 0) (rd (zd t105 x5_1) 1) (wrap64 (x8_2 + 1)) l0_0) = some r := by first | (rw [hy129]; with_reducible exact H) | (have H2_ := (yfy _ _).symm.trans H; rw [hy129]; with_reducible exact H2_) | (have H2_ := (yfy _ _).symm.trans H; with_reducible exact H2_) | with_reducible exact H | (rw [hy129]; exact H) | exact H
                      have Ny129 := zB.mk hy129
                      clear hy129
                      have H' := zB.mk H
                      clear H
                      have hcz39_0 : wr.cell? ⟨gb101, 0, none⟩ = some (.slice A0_0 l0_0.length c0_0) := (zM BK101.out 0).trans rfl
                      have hfz39_0 := zN BK101.out 0
                      go_wp2_with (first | ((with_reducible refine zU (f := 59) rfl ?_); refine qH (some 42) rfl rfl Try.func59 (by kernel_rfl) rfl #[.agg #[.slice A0_0 l0_0.length c0_0]] rfl (by (try simp only [yiy, yjy, yky]); first | done | rfl | (simp only [yly, ymy]; rfl)) ?_; (with_reducible refine (zu.calls _ _ l0_0 t112 _ ?side1 ?side2 A15.out).mono ?_); (case side1 => repeat (first | exact (Kd.zY HR0_0.out HB.out) | (with_reducible refine Kd.zZ ?_ _) | (with_reducible refine Kd.za ?_ _) | (with_reducible refine Kd.zh ?_))); (case side2 => exact HC0_0.out); rintro e w40 ⟨rfl, hb⟩; refine ⟨_, rfl, ?_⟩; have n0_ := zB.mk (Kd.Zx (by (with_reducible repeat (first | apply Kd.qQ | apply Kd.qR | apply Kd.qf)); exact HO_3.out) hb); have n1_ := zB.mk (Kd.Zx (by (with_reducible repeat (first | apply Kd.qQ | apply Kd.qR | apply Kd.qf)); exact HO_4.out) hb); have n2_ := zB.mk (zP (g := gb101) (o := .cells #[.slice A0_0 l0_0.length c0_0] 30 (0, 0)) (by (with_reducible repeat (first | refine zI ?_ _ | refine zJ ?_ | refine zG ?_ _)); exact BK101.out) hb); have n3_ := zB.mk (zL (by repeat (first | (with_reducible first | exact HB.out | apply zC | apply zA | apply zD | refine zF ?_ GE101.out) | exact HB.out)) hb); clear HO_3; clear HO_4; clear BK101; clear HB; have HO_3 := n0_; have HO_4 := n1_; have BK101 := n2_; have HB := n3_; clear n0_ n1_ n2_ n3_; (try clear hb); (try clear hb2); (try clear hk); (try clear hi)) | ((with_reducible refine zj (N := 44) rfl ?_); refine Kd.zCD (Kd.int .i64) _ 2 rfl (N := 44) rfl 25 _ _ rfl ji16 rfl rfl Try.underlying25 (.int .i64 0) 8 JK rfl (by decide) (by omega) 0 (ok := fun _ => True) (okp := fun _ => True) rfl (fun _ hk => hk) trivial (of_decide_eq_true (by first | (with_reducible assumption) | assumption)) (Nat.le_trans (Nat.mul_le_mul_right _ (of_decide_eq_true (by first | (with_reducible assumption) | assumption) : ji16.toNat ≤ 35184372088832)) (by omega)) (yry _ _) (yqy _) ?_; intro v114 w41 ho42 hb hg_ hnew_; clear hg_ hnew_; (first | rw [← Ny113.out] at ho42 | (simp only [Int.reduceToNat] at ho42; rw [← Ny113.out] at ho42)); have n0_ := zB.mk (Kd.JZ (by (with_reducible repeat (first | apply Kd.qQ | apply Kd.qR | apply Kd.qf)); exact HO_3.out) (Kd.Qm ho42) hb); have n1_ := zB.mk (Kd.JZ (by (with_reducible repeat (first | apply Kd.qQ | apply Kd.qR | apply Kd.qf)); exact HO_4.out) (Kd.Qm ho42) hb); have n2_ := zB.mk (Kd.ZO ho42 (zO (by repeat (first | (with_reducible first | exact HB.out | apply zC | apply zA | apply zD | refine zF ?_ GE101.out) | exact HB.out)))); have n3_ := zB.mk (zP (g := gb101) (o := .cells #[.slice A0_0 l0_0.length c0_0] 30 (0, 0)) (by (with_reducible repeat (first | refine zI ?_ _ | refine zJ ?_ | refine zG ?_ _)); exact BK101.out) hb); have n4_ := zB.mk (zL (by repeat (first | (with_reducible first | exact HB.out | apply zC | apply zA | apply zD | refine zF ?_ GE101.out) | exact HB.out)) hb); clear HO_3; clear HO_4; clear BK101; clear HB; have HO_3 := n0_; have HO_4 := n1_; have HO115 := n2_; have BK101 := n3_; have HB := n4_; clear n0_ n1_ n2_ n3_ n4_; clear hb ho42; have hcz43_0 : w41.cell? ⟨gb101, 0, none⟩ = some (.slice A0_0 l0_0.length c0_0) := (zM BK101.out 0).trans rfl; have hfz43_0 := zN BK101.out 0) | ((with_reducible refine zU (f := 103) rfl ?_); refine qH (some 50) rfl rfl Try.func103 (by kernel_rfl) rfl #[.agg #[.slice A0_0 l0_0.length c0_0], .int .i64 (rd (zd t105 x5_1) 0), .int .i64 (rd (zd t105 x5_1) 1), .int .i64 x8_2] rfl (by (try simp only [yiy, yjy, yky]); first | done | rfl | (simp only [yly, ymy]; rfl)) ?_; (with_reducible refine (qY.calls k2 _ _ l0_0 (rd (zd t105 x5_1) 0) (rd (zd t105 x5_1) 1) x8_2 t116 t117 t118 _ ?side1 ?side2 A19.out).mono ?_); (case side1 => repeat (first | exact (Kd.zY HR0_0.out HB.out) | (with_reducible refine Kd.zZ ?_ _) | (with_reducible refine Kd.za ?_ _) | (with_reducible refine Kd.zh ?_))); (case side2 => exact HC0_0.out); rintro e w44 ⟨rfl, hb⟩; refine ⟨_, rfl, ?_⟩; have n0_ := zB.mk (Kd.Zx (by (with_reducible repeat (first | apply Kd.qQ | apply Kd.qR | apply Kd.qf)); exact HO_3.out) hb); have n1_ := zB.mk (Kd.Zx (by (with_reducible repeat (first | apply Kd.qQ | apply Kd.qR | apply Kd.qf)); exact HO_4.out) hb); have n2_ := zB.mk (Kd.Ze (by (with_reducible repeat (first | apply Kd.zr | apply Kd.zp | apply Kd.qG)); exact HO115.out) hb); have n3_ := zB.mk (zP (g := gb101) (o := .cells #[.slice A0_0 l0_0.length c0_0] 30 (0, 0)) (by (with_reducible repeat (first | refine zI ?_ _ | refine zJ ?_ | refine zG ?_ _)); exact BK101.out) hb); have n4_ := zB.mk (zL (by repeat (first | (with_reducible first | exact HB.out | apply zC | apply zA | apply zD | refine zF ?_ GE101.out) | exact HB.out)) hb); clear HO_3; clear HO_4; clear HO115; clear BK101; clear HB; have HO_3 := n0_; have HO_4 := n1_; have HO115 := n2_; have BK101 := n3_; have HB := n4_; clear n0_ n1_ n2_ n3_ n4_; (try clear hb); (try clear hb2); (try clear hk); (try clear hi); obtain ⟨Ao45, co45, eo45⟩ := Kd.Zc HO115.out; subst eo45; have p119 : 0 ≤ ((ji20) : Int) := of_decide_eq_true (by first | (with_reducible assumption) | assumption); have q119 : (ji20) < (y113.length : Int) := of_decide_eq_true (by first | (with_reducible assumption) | assumption); obtain ⟨ad119, e119, hx119_0⟩ := Kd.qu (Kd.qK HO115.out).2.2 (ji20) p119 q119; cases e119; replace p119 := eq_true p119; replace q119 := eq_true q119; have p23 : 0 ≤ ((ji20) : Int) := of_decide_eq_true (by first | (with_reducible assumption) | assumption); have q23 : ((ji20) : Int) < ((y113.length : Int) : Int) := of_decide_eq_true (by first | (with_reducible assumption) | assumption); obtain ⟨go23, co23, eo23, gb23, gl23, cl23, HG23⟩ := Kd.zAY HO115.out (by omega); (first | cases eo23 | (injection eo23 with ea_ en_ ec_; (first | subst ea_ | (injection ea_ with ea_; subst ea_)); subst ec_; clear en_)); have GB23 := zB.mk gb23; have GG23 := zB.mk HG23; clear gb23 gl23 HG23; (first | simp only [add_plain] at hx119_0 | skip); obtain ⟨hx23_0, hf23_0⟩ := Kd.Zv 0 HO115.out ((ji20) : Int) p23 q23; replace p23 := eq_true p23; replace q23 := eq_true q23; obtain ⟨hy46_, hz46_⟩ := Kd.Zv 0 HO115.out ((ji20) : Int) (of_decide_eq_true (by first | (with_reducible assumption) | assumption)) (of_decide_eq_true (by first | (with_reducible assumption) | assumption)); have HP46 := Kd.Jd HO115.out ((ji20) : Int) (wrap64 ((rd y113 (ji20)) + 1))) | ((with_reducible refine ZY (t := 2) (p := 62) rfl ?_); refine ZT (t := 2) (p := 62) (v := ?vo_w47) (w1 := (w44.setCell ⟨go23, ((ji20) : Int).toNat, none⟩ (.int .i64 (wrap64 ((rd y113 (ji20)) + 1))))) ?hg ?ho ?hn ?hr ?_; (case ho => rfl); (case hg => rfl); (case hn => rfl); (case hr => first | (go_simp; done) | (go_simp; rfl)); intro w47 hw; have hg : w44.grownBy w47 (some go23) := (by rw [hw]; exact HP46.2); have hp_ : Kd.R (Kd.int .i64) 2 w47 w.heap.size (fun _ => True) (.slice (some ⟨go23, 0, none⟩) y113.length co45) y120 := (by rw [hw, Ny120.out]; exact HP46.1); clear HP46; have n0_ := zB.mk (Kd.Qv (v := (.slice (some ⟨go23, 0, none⟩) y113.length co45)) (v1 := (.slice (some ⟨go23, 0, none⟩) y113.length co45)) (ok := (fun k_ => some k_ ≠ (.slice (some ad108) t105.length co12 : Value).ownBlock)) (by (with_reducible repeat (first | apply Kd.qQ | apply Kd.qR | apply Kd.qf)); first | exact HO_3.out | exact Kd.Za HO_3.out (fun _ hk => ⟨hk.2, hk.1⟩) | exact Kd.qZ HO_3.out (fun _ hk => ⟨hk.2, hk.1⟩)) hg (.inl rfl)); have n1_ := zB.mk (Kd.Qv (v := (.slice (some ⟨go23, 0, none⟩) y113.length co45)) (v1 := (.slice (some ⟨go23, 0, none⟩) y113.length co45)) (ok := (fun k_ => some k_ ≠ (u3 : Value).ownBlock)) (by (with_reducible repeat (first | apply Kd.qQ | apply Kd.qR | apply Kd.qf)); first | exact HO_4.out | exact Kd.Za HO_4.out (fun _ hk => ⟨hk.2, hk.1⟩) | exact Kd.qZ HO_4.out (fun _ hk => ⟨hk.2, hk.1⟩)) hg (.inl rfl)); have n2_ := zB.mk (qt (g := gb101) (o := .cells #[.slice A0_0 l0_0.length c0_0] 30 (0, 0)) (by (with_reducible repeat (first | refine zI ?_ _ | refine zJ ?_ | refine zG ?_ _)); exact BK101.out) hg (Kd.R_ne HO115.out BK101.out (by decide))); have n3_ := zB.mk (hp_); have n4_ := zB.mk ((by rw [hw]; exact zF (HB.out) GB23.out : Below w.heap.size w w47)); clear HO_3; clear HO_4; clear BK101; clear HO115; clear HB; have HO_3 := n0_; have HO_4 := n1_; have BK101 := n2_; have HO115 := n3_; have HB := n4_; clear n0_ n1_ n2_ n3_ n4_; clear hg hw hp_) | ((with_reducible refine zU (f := 104) rfl ?_); refine qH (some 69) rfl rfl Try.func104 (by kernel_rfl) rfl #[.int .i64 (rd (zd t105 x5_1) 1), .int .i64 x8_2] rfl (by (try simp only [yiy, yjy, yky]); first | done | rfl | (simp only [yly, ymy]; rfl)) ?_; (with_reducible refine (qD.calls (rd (zd t105 x5_1) 1) x8_2 t121 _ A24.out).mono ?_); rintro e w' ⟨rfl, ⟨nd, rfl⟩⟩; refine ⟨_, rfl, ?_⟩; (try (rw [zBG w47]; generalize hq_ : World.drewN w47 _ = w47; have n0_ : zB (Kd.R (Kd.int .i64) 2 w47 w.heap.size (fun _ => True) (.slice (some ⟨go23, 0, none⟩) y113.length co45) y120) := ⟨by rw [← hq_]; exact (by (with_reducible repeat (first | apply Kd.zr | apply Kd.zp | apply Kd.qG)); exact HO115.out)⟩; have n1_ : zB (Kd.S (Kd.slice 2 (Kd.int .i64)) 25 w47 w.heap.size (fun k_ => some k_ ≠ (.slice (some ⟨go23, 0, none⟩) y113.length co45 : Value).ownBlock ∧ some k_ ≠ (.slice (some ad108) t105.length co12 : Value).ownBlock) u3 x3_2) := ⟨by rw [← hq_]; exact (by (with_reducible repeat (first | apply Kd.qQ | apply Kd.qR | apply Kd.qf)); exact Kd.Za HO_3.out (fun _ hk => ⟨hk.2, hk.1⟩))⟩; have n2_ : zB (Kd.S (Kd.slice 2 (Kd.int .i64)) 25 w47 w.heap.size (fun k_ => some k_ ≠ (.slice (some ⟨go23, 0, none⟩) y113.length co45 : Value).ownBlock ∧ some k_ ≠ (u3 : Value).ownBlock) (.slice (some ad108) t105.length co12) t105) := ⟨by rw [← hq_]; exact (by (with_reducible repeat (first | apply Kd.qQ | apply Kd.qR | apply Kd.qf)); exact Kd.Za HO_4.out (fun _ hk => ⟨hk.2, hk.1⟩))⟩; have n3_ : zB (w47.heap[gb101]? = some (.cells #[.slice A0_0 l0_0.length c0_0] 30 (0, 0))) := ⟨by rw [← hq_]; exact (by (with_reducible repeat (first | refine zI ?_ _ | refine zJ ?_ | refine zG ?_ _)); exact BK101.out)⟩; have n4_ : zB (Below w.heap.size w w47) := ⟨by rw [← hq_]; exact (by repeat (first | (with_reducible first | exact HB.out | apply zC | apply zA | apply zD | refine zF ?_ GE101.out) | exact HB.out))⟩; clear HO115 HO_3 HO_4 BK101 HB hq_; have HO115 := n0_; have HO_3 := n1_; have HO_4 := n2_; have BK101 := n3_; have HB := n4_; clear n0_ n1_ n2_ n3_ n4_)); have p122 : 0 ≤ ((ji25) : Int) := of_decide_eq_true (by first | (with_reducible assumption) | assumption); have q122 : (ji25) < (y120.length : Int) := (by have h_ : ((ji25) : Int) < ((y113.length : Int) : Int) := of_decide_eq_true (by first | (with_reducible assumption) | assumption); first | (have e_ := (Kd.qK HO115.out).1; omega) | simpa only [Ny120.out, List.length_set] using h_); have ql122 : (((ji25) : Int) < ((y113.length : Int) : Int)) = True := eq_true (of_decide_eq_true (by first | (with_reducible assumption) | assumption)); obtain ⟨ad122, e122, hx122_0⟩ := Kd.qu (Kd.qK HO115.out).2.2 (ji25) p122 q122; obtain rfl : (⟨go23, 0, none⟩ : Addr) = ad122 := (by injection e122); (first | simp only [add_plain] at hx122_0 | simp only [zD4] at hx122_0 | simp only [Addr.add, Nat.zero_add] at hx122_0 | skip); replace p122 := eq_true p122; replace q122 := eq_true q122; have p28 : 0 ≤ ((ji25) : Int) := of_decide_eq_true (by first | (with_reducible assumption) | assumption); have q28 : ((ji25) : Int) < ((y113.length : Int) : Int) := of_decide_eq_true (by first | (with_reducible assumption) | assumption); obtain ⟨hx28_0, hf28_0⟩ := Kd.Zv 0 HO115.out ((ji25) : Int) p28 q28; replace p28 := eq_true p28; replace q28 := eq_true q28; obtain ⟨hy48_, hz48_⟩ := Kd.Zv 0 HO115.out ((ji25) : Int) (of_decide_eq_true (by first | (with_reducible assumption) | assumption)) (of_decide_eq_true (by first | (with_reducible assumption) | assumption)); have HP48 := Kd.Jd HO115.out ((ji25) : Int) (wrap64 ((rd y120 (ji25)) + 1))) | ((with_reducible refine ZY (t := 2) (p := 74) rfl ?_); refine ZT (t := 2) (p := 74) (v := ?vo_w49) (w1 := (w47.setCell ⟨go23, ((ji25) : Int).toNat, none⟩ (.int .i64 (wrap64 ((rd y120 (ji25)) + 1))))) ?hg ?ho ?hn ?hr ?_; (case ho => rfl); (case hg => rfl); (case hn => rfl); (case hr => first | (go_simp; done) | (go_simp; rfl)); intro w49 hw; have hg : w47.grownBy w49 (some go23) := (by rw [hw]; exact HP48.2); have hp_ : Kd.R (Kd.int .i64) 2 w49 w.heap.size (fun _ => True) (.slice (some ⟨go23, 0, none⟩) y113.length co45) y123 := (by rw [hw, Ny123.out]; exact HP48.1); clear HP48; have n0_ := zB.mk (Kd.Qv (v := (.slice (some ⟨go23, 0, none⟩) y113.length co45)) (v1 := (.slice (some ⟨go23, 0, none⟩) y113.length co45)) (ok := (fun k_ => some k_ ≠ (.slice (some ad108) t105.length co12 : Value).ownBlock)) (by (with_reducible repeat (first | apply Kd.qQ | apply Kd.qR | apply Kd.qf)); first | exact HO_3.out | exact Kd.Za HO_3.out (fun _ hk => ⟨hk.2, hk.1⟩) | exact Kd.qZ HO_3.out (fun _ hk => ⟨hk.2, hk.1⟩)) hg (.inl rfl)); have n1_ := zB.mk (Kd.Qv (v := (.slice (some ⟨go23, 0, none⟩) y113.length co45)) (v1 := (.slice (some ⟨go23, 0, none⟩) y113.length co45)) (ok := (fun k_ => some k_ ≠ (u3 : Value).ownBlock)) (by (with_reducible repeat (first | apply Kd.qQ | apply Kd.qR | apply Kd.qf)); first | exact HO_4.out | exact Kd.Za HO_4.out (fun _ hk => ⟨hk.2, hk.1⟩) | exact Kd.qZ HO_4.out (fun _ hk => ⟨hk.2, hk.1⟩)) hg (.inl rfl)); have n2_ := zB.mk (qt (g := gb101) (o := .cells #[.slice A0_0 l0_0.length c0_0] 30 (0, 0)) (by (with_reducible repeat (first | refine zI ?_ _ | refine zJ ?_ | refine zG ?_ _)); exact BK101.out) hg (Kd.R_ne HO115.out BK101.out (by decide))); have n3_ := zB.mk (hp_); have n4_ := zB.mk ((by rw [hw]; exact zF (HB.out) GB23.out : Below w.heap.size w w49)); clear HO_3; clear HO_4; clear BK101; clear HO115; clear HB; have HO_3 := n0_; have HO_4 := n1_; have BK101 := n2_; have HO115 := n3_; have HB := n4_; clear n0_ n1_ n2_ n3_ n4_; clear hg hw hp_; have p124 : 0 ≤ ((ji29) : Int) := of_decide_eq_true (by first | (with_reducible assumption) | assumption); have q124 : (ji29) < (y123.length : Int) := (by have h_ : ((ji29) : Int) < ((y113.length : Int) : Int) := of_decide_eq_true (by first | (with_reducible assumption) | assumption); first | (have e_ := (Kd.qK HO115.out).1; omega) | simpa only [Ny120.out, Ny123.out, List.length_set] using h_); have ql124 : (((ji29) : Int) < ((y113.length : Int) : Int)) = True := eq_true (of_decide_eq_true (by first | (with_reducible assumption) | assumption)); obtain ⟨ad124, e124, hx124_0⟩ := Kd.qu (Kd.qK HO115.out).2.2 (ji29) p124 q124; obtain rfl : (⟨go23, 0, none⟩ : Addr) = ad124 := (by injection e124); (first | simp only [add_plain] at hx124_0 | simp only [zD4] at hx124_0 | simp only [Addr.add, Nat.zero_add] at hx124_0 | skip); replace p124 := eq_true p124; replace q124 := eq_true q124; have p32 : 0 ≤ ((ji29) : Int) := of_decide_eq_true (by first | (with_reducible assumption) | assumption); have q32 : ((ji29) : Int) < ((y113.length : Int) : Int) := of_decide_eq_true (by first | (with_reducible assumption) | assumption); obtain ⟨hx32_0, hf32_0⟩ := Kd.Zv 0 HO115.out ((ji29) : Int) p32 q32; replace p32 := eq_true p32; replace q32 := eq_true q32; obtain ⟨hy50_, hz50_⟩ := Kd.Zv 0 HO115.out ((ji29) : Int) (of_decide_eq_true (by first | (with_reducible assumption) | assumption)) (of_decide_eq_true (by first | (with_reducible assumption) | assumption)); have HP50 := Kd.Jd HO115.out ((ji29) : Int) (wrap64 ((rd y123 (ji29)) - 1))) | ((with_reducible refine ZY (t := 2) (p := 83) rfl ?_); refine ZT (t := 2) (p := 83) (v := ?vo_w51) (w1 := (w49.setCell ⟨go23, ((ji29) : Int).toNat, none⟩ (.int .i64 (wrap64 ((rd y123 (ji29)) - 1))))) ?hg ?ho ?hn ?hr ?_; (case ho => rfl); (case hg => rfl); (case hn => rfl); (case hr => first | (go_simp; done) | (go_simp; rfl)); intro w51 hw; have hg : w49.grownBy w51 (some go23) := (by rw [hw]; exact HP50.2); have hp_ : Kd.R (Kd.int .i64) 2 w51 w.heap.size (fun _ => True) (.slice (some ⟨go23, 0, none⟩) y113.length co45) y125 := (by rw [hw, Ny125.out]; exact HP50.1); clear HP50; have n0_ := zB.mk (Kd.Qv (v := (.slice (some ⟨go23, 0, none⟩) y113.length co45)) (v1 := (.slice (some ⟨go23, 0, none⟩) y113.length co45)) (ok := (fun k_ => some k_ ≠ (.slice (some ad108) t105.length co12 : Value).ownBlock)) (by (with_reducible repeat (first | apply Kd.qQ | apply Kd.qR | apply Kd.qf)); first | exact HO_3.out | exact Kd.Za HO_3.out (fun _ hk => ⟨hk.2, hk.1⟩) | exact Kd.qZ HO_3.out (fun _ hk => ⟨hk.2, hk.1⟩)) hg (.inl rfl)); have n1_ := zB.mk (Kd.Qv (v := (.slice (some ⟨go23, 0, none⟩) y113.length co45)) (v1 := (.slice (some ⟨go23, 0, none⟩) y113.length co45)) (ok := (fun k_ => some k_ ≠ (u3 : Value).ownBlock)) (by (with_reducible repeat (first | apply Kd.qQ | apply Kd.qR | apply Kd.qf)); first | exact HO_4.out | exact Kd.Za HO_4.out (fun _ hk => ⟨hk.2, hk.1⟩) | exact Kd.qZ HO_4.out (fun _ hk => ⟨hk.2, hk.1⟩)) hg (.inl rfl)); have n2_ := zB.mk (qt (g := gb101) (o := .cells #[.slice A0_0 l0_0.length c0_0] 30 (0, 0)) (by (with_reducible repeat (first | refine zI ?_ _ | refine zJ ?_ | refine zG ?_ _)); exact BK101.out) hg (Kd.R_ne HO115.out BK101.out (by decide))); have n3_ := zB.mk (hp_); have n4_ := zB.mk ((by rw [hw]; exact zF (HB.out) GB23.out : Below w.heap.size w w51)); clear HO_3; clear HO_4; clear BK101; clear HO115; clear HB; have HO_3 := n0_; have HO_4 := n1_; have BK101 := n2_; have HO115 := n3_; have HB := n4_; clear n0_ n1_ n2_ n3_ n4_; clear hg hw hp_) | ((with_reducible refine zU (f := 104) rfl ?_); refine qH (some 90) rfl rfl Try.func104 (by kernel_rfl) rfl #[.int .i64 t117, .int .i64 t118] rfl (by (try simp only [yiy, yjy, yky]); first | done | rfl | (simp only [yly, ymy]; rfl)) ?_; (with_reducible refine (qD.calls t117 t118 t126 _ A33.out).mono ?_); rintro e w' ⟨rfl, ⟨nd, rfl⟩⟩; refine ⟨_, rfl, ?_⟩; (try (rw [zBG w51]; generalize hq_ : World.drewN w51 _ = w51; have n0_ : zB (Kd.R (Kd.int .i64) 2 w51 w.heap.size (fun _ => True) (.slice (some ⟨go23, 0, none⟩) y113.length co45) y125) := ⟨by rw [← hq_]; exact (by (with_reducible repeat (first | apply Kd.zr | apply Kd.zp | apply Kd.qG)); exact HO115.out)⟩; have n1_ : zB (Kd.S (Kd.slice 2 (Kd.int .i64)) 25 w51 w.heap.size (fun k_ => some k_ ≠ (.slice (some ⟨go23, 0, none⟩) y113.length co45 : Value).ownBlock ∧ some k_ ≠ (.slice (some ad108) t105.length co12 : Value).ownBlock) u3 x3_2) := ⟨by rw [← hq_]; exact (by (with_reducible repeat (first | apply Kd.qQ | apply Kd.qR | apply Kd.qf)); exact Kd.Za HO_3.out (fun _ hk => ⟨hk.2, hk.1⟩))⟩; have n2_ : zB (Kd.S (Kd.slice 2 (Kd.int .i64)) 25 w51 w.heap.size (fun k_ => some k_ ≠ (.slice (some ⟨go23, 0, none⟩) y113.length co45 : Value).ownBlock ∧ some k_ ≠ (u3 : Value).ownBlock) (.slice (some ad108) t105.length co12) t105) := ⟨by rw [← hq_]; exact (by (with_reducible repeat (first | apply Kd.qQ | apply Kd.qR | apply Kd.qf)); exact Kd.Za HO_4.out (fun _ hk => ⟨hk.2, hk.1⟩))⟩; have n3_ : zB (w51.heap[gb101]? = some (.cells #[.slice A0_0 l0_0.length c0_0] 30 (0, 0))) := ⟨by rw [← hq_]; exact (by (with_reducible repeat (first | refine zI ?_ _ | refine zJ ?_ | refine zG ?_ _)); exact BK101.out)⟩; have n4_ : zB (Below w.heap.size w w51) := ⟨by rw [← hq_]; exact (by repeat (first | (with_reducible first | exact HB.out | apply zC | apply zA | apply zD | refine zF ?_ GE101.out) | exact HB.out))⟩; clear HO115 HO_3 HO_4 BK101 HB hq_; have HO115 := n0_; have HO_3 := n1_; have HO_4 := n2_; have BK101 := n3_; have HB := n4_; clear n0_ n1_ n2_ n3_ n4_)); have p127 : 0 ≤ ((ji34) : Int) := of_decide_eq_true (by first | (with_reducible assumption) | assumption); have q127 : (ji34) < (y125.length : Int) := (by have h_ : ((ji34) : Int) < ((y113.length : Int) : Int) := of_decide_eq_true (by first | (with_reducible assumption) | assumption); first | (have e_ := (Kd.qK HO115.out).1; omega) | simpa only [Ny120.out, Ny123.out, Ny125.out, List.length_set] using h_); have ql127 : (((ji34) : Int) < ((y113.length : Int) : Int)) = True := eq_true (of_decide_eq_true (by first | (with_reducible assumption) | assumption)); obtain ⟨ad127, e127, hx127_0⟩ := Kd.qu (Kd.qK HO115.out).2.2 (ji34) p127 q127; obtain rfl : (⟨go23, 0, none⟩ : Addr) = ad127 := (by injection e127); (first | simp only [add_plain] at hx127_0 | simp only [zD4] at hx127_0 | simp only [Addr.add, Nat.zero_add] at hx127_0 | skip); replace p127 := eq_true p127; replace q127 := eq_true q127; have p37 : 0 ≤ ((ji34) : Int) := of_decide_eq_true (by first | (with_reducible assumption) | assumption); have q37 : ((ji34) : Int) < ((y113.length : Int) : Int) := of_decide_eq_true (by first | (with_reducible assumption) | assumption); obtain ⟨hx37_0, hf37_0⟩ := Kd.Zv 0 HO115.out ((ji34) : Int) p37 q37; replace p37 := eq_true p37; replace q37 := eq_true q37; obtain ⟨hy52_, hz52_⟩ := Kd.Zv 0 HO115.out ((ji34) : Int) (of_decide_eq_true (by first | (with_reducible assumption) | assumption)) (of_decide_eq_true (by first | (with_reducible assumption) | assumption)); have HP52 := Kd.Jd HO115.out ((ji34) : Int) (wrap64 ((rd y125 (ji34)) - 1))) | ((with_reducible refine ZY (t := 2) (p := 95) rfl ?_); refine ZT (t := 2) (p := 95) (v := ?vo_w53) (w1 := (w51.setCell ⟨go23, ((ji34) : Int).toNat, none⟩ (.int .i64 (wrap64 ((rd y125 (ji34)) - 1))))) ?hg ?ho ?hn ?hr ?_; (case ho => rfl); (case hg => rfl); (case hn => rfl); (case hr => first | (go_simp; done) | (go_simp; rfl)); intro w53 hw; have hg : w51.grownBy w53 (some go23) := (by rw [hw]; exact HP52.2); have hp_ : Kd.R (Kd.int .i64) 2 w53 w.heap.size (fun _ => True) (.slice (some ⟨go23, 0, none⟩) y113.length co45) y128 := (by rw [hw, Ny128.out]; exact HP52.1); clear HP52; have n0_ := zB.mk (Kd.Qv (v := (.slice (some ⟨go23, 0, none⟩) y113.length co45)) (v1 := (.slice (some ⟨go23, 0, none⟩) y113.length co45)) (ok := (fun k_ => some k_ ≠ (.slice (some ad108) t105.length co12 : Value).ownBlock)) (by (with_reducible repeat (first | apply Kd.qQ | apply Kd.qR | apply Kd.qf)); first | exact HO_3.out | exact Kd.Za HO_3.out (fun _ hk => ⟨hk.2, hk.1⟩) | exact Kd.qZ HO_3.out (fun _ hk => ⟨hk.2, hk.1⟩)) hg (.inl rfl)); have n1_ := zB.mk (Kd.Qv (v := (.slice (some ⟨go23, 0, none⟩) y113.length co45)) (v1 := (.slice (some ⟨go23, 0, none⟩) y113.length co45)) (ok := (fun k_ => some k_ ≠ (u3 : Value).ownBlock)) (by (with_reducible repeat (first | apply Kd.qQ | apply Kd.qR | apply Kd.qf)); first | exact HO_4.out | exact Kd.Za HO_4.out (fun _ hk => ⟨hk.2, hk.1⟩) | exact Kd.qZ HO_4.out (fun _ hk => ⟨hk.2, hk.1⟩)) hg (.inl rfl)); have n2_ := zB.mk (qt (g := gb101) (o := .cells #[.slice A0_0 l0_0.length c0_0] 30 (0, 0)) (by (with_reducible repeat (first | refine zI ?_ _ | refine zJ ?_ | refine zG ?_ _)); exact BK101.out) hg (Kd.R_ne HO115.out BK101.out (by decide))); have n3_ := zB.mk (hp_); have n4_ := zB.mk ((by rw [hw]; exact zF (HB.out) GB23.out : Below w.heap.size w w53)); clear HO_3; clear HO_4; clear BK101; clear HO115; clear HB; have HO_3 := n0_; have HO_4 := n1_; have BK101 := n2_; have HO115 := n3_; have HB := n4_; clear n0_ n1_ n2_ n3_ n4_; clear hg hw hp_) | ((with_reducible refine Zb (b := .append) (xs := #[.tmp 96, .tmp 98]) rfl ?_); at_builtin; refine Kd.zBn (Kd.slice 2 (Kd.int .i64)) (w0 := w) w.heap.size rfl (.tmp 96) (.tmp 98) 54 25 (.slice none 0 0) 24 rfl Try.underlying54 zED rfl (by decide) (by omega) u3 x3_2 y128 [.slice (some ⟨go23, 0, none⟩) y113.length co45] (fun k_ => some k_ ≠ (.slice (some ad108) t105.length co12 : Value).ownBlock) (fun k_ => some k_ = (.slice (some ⟨go23, 0, none⟩) y113.length co45 : Value).ownBlock) rfl rfl ?aP (fun k_ hk_ => ((Kd.qZ (ok' := fun k_ => ((fun k_ => some k_ ≠ (.slice (some ad108) t105.length co12 : Value).ownBlock)) k_ ∧ some k_ ≠ (u3 : Value).ownBlock) (Kd.QM (Kd.QM (HO115.out) (Kd.Qg HO_4.out) (by decide)) (Kd.Qg HO_3.out) (by decide)) (fun k_ hk => ⟨hk.1.2, hk.2⟩))).1 k_ hk_.symm) ?aF ?aO ?aB ?aS ?aL ?_; (case aP => exact Kd.zEg (Kd.qZ (Kd.zAB rfl (Kd.qZ (ok' := fun k_ => ((fun k_ => some k_ ≠ (.slice (some ad108) t105.length co12 : Value).ownBlock)) k_ ∧ some k_ ≠ (u3 : Value).ownBlock) (Kd.QM (Kd.QM (HO115.out) (Kd.Qg HO_4.out) (by decide)) (Kd.Qg HO_3.out) (by decide)) (fun k_ hk => ⟨hk.1.2, hk.2⟩))) (fun _ h_ => h_))); (case aB => exact (by repeat (first | (with_reducible first | exact HB.out | apply zC | apply zA | apply zD | refine zF ?_ GE101.out) | exact HB.out))); (case aF => exact (fun k_ hk => Kd.JN (Kd.S_lt (by (with_reducible repeat (first | apply Kd.qQ | apply Kd.qR | apply Kd.qf)); exact HO_4.out)) k_ hk)); (case aO => exact (by (with_reducible repeat (first | apply Kd.qQ | apply Kd.qR | apply Kd.qf)); exact Kd.Za HO_3.out (fun k_ hk => ⟨hk.1, fun e_ => hk.2 e_⟩))); (case aS => exact (zO (by repeat (first | (with_reducible first | exact HB.out | apply zC | apply zA | apply zD | refine zF ?_ GE101.out) | exact HB.out)))); (case aL => have := LMc38.out; omega); intro v130 w54 ho hb hg hat; rw [← Ny129.out] at ho; have n0_ := zB.mk (Kd.Qv (ok := (fun k_ => some k_ ≠ (.slice (some ⟨go23, 0, none⟩) y113.length co45 : Value).ownBlock)) (by (with_reducible repeat (first | apply Kd.qQ | apply Kd.qR | apply Kd.qf)); exact Kd.Za HO_4.out (fun _ hk => ⟨hk.2, hk.1⟩)) hg hat); have n1_ := zB.mk (qt (g := gb101) (o := .cells #[.slice A0_0 l0_0.length c0_0] 30 (0, 0)) (by (with_reducible repeat (first | refine zI ?_ _ | refine zJ ?_ | refine zG ?_ _)); exact BK101.out) hg (Kd.S_ne HO_3.out BK101.out (by decide))); have n2_ := zB.mk (hb); have n3_ := zB.mk (ho); clear HO_4; clear BK101; clear HB; clear HO_3; clear HO115; have HO_4 := n0_; have BK101 := n1_; have HB := n2_; have HO131 := n3_; clear n0_ n1_ n2_ n3_; clear ho hb hg hat))
                      go_roundg k2
                      case measure => have := HK1.out; have := HK2.out; omega
                      case rel => exact ⟨(y129), (wrap64 (x8_2 + 1)), (by first | rfl | (simp; done) | (simp [*]; done)), H', ⟨by have := HK1.out; have := HK2.out; omega⟩, ⟨by (with_reducible repeat (first | apply Kd.qQ | apply Kd.qR | apply Kd.qf)); exact HO131.out⟩, ⟨by (with_reducible repeat (first | apply Kd.qQ | apply Kd.qR | apply Kd.qf)); exact Kd.Za HO_4.out (fun _ hk => hk.2)⟩, ⟨by (with_reducible repeat (first | refine zI ?_ _ | refine zJ ?_ | refine zG ?_ _)); exact BK101.out⟩, ⟨by repeat (first | (with_reducible first | exact HB.out | apply zC | apply zA | apply zD | refine zF ?_ GE101.out) | exact HB.out)⟩⟩
                     next =>
                      rw [if_neg c38] at H
                      exact absurd H (by simp)
                    next =>
                     rw [if_neg c36] at H
                     exact absurd H (by simp)
                   next =>
                    rw [if_neg c35] at H
                    exact absurd H (by simp)
                  next =>
                   rw [if_neg c31] at H
                   exact absurd H (by simp)
                 next =>
                  rw [if_neg c30] at H
                  exact absurd H (by simp)
                next =>
                 rw [if_neg c27] at H
                 exact absurd H (by simp)
               next =>
                rw [if_neg c26] at H
                exact absurd H (by simp)
              next =>
               rw [if_neg c22] at H
               exact absurd H (by simp)
             next =>
              rw [if_neg c21] at H
              exact absurd H (by simp)
            next =>
             rw [if_neg c18] at H
             exact absurd H (by simp)
           next =>
            rw [if_neg c17] at H
            exact absurd H (by simp)
         next =>
          rw [if_neg c13] at H
          have c13b0 : decide (x8_2 < 4) = false := yhy c13
          clear c13
          have H' := zB.mk H
          clear H
          go_wp2
          go_roundg k2
          case measure => have := HK1.out; have := HK2.out; omega
          case rel => exact ⟨(x3_2), (wrap64 (x5_1 + 1)), (by first | rfl | (simp; done) | (simp [*]; done)), H', ⟨by have := HK1.out; have := HK2.out; omega⟩, ⟨by (with_reducible repeat (first | apply Kd.qQ | apply Kd.qR | apply Kd.qf)); exact HO_3.out⟩, ⟨by (with_reducible repeat (first | apply Kd.qQ | apply Kd.qR | apply Kd.qf)); exact HO_4.out⟩, ⟨by (with_reducible repeat (first | refine zI ?_ _ | refine zJ ?_ | refine zG ?_ _)); exact BK101.out⟩, ⟨by repeat (first | (with_reducible first | exact HB.out | apply zC | apply zA | apply zD | refine zF ?_ GE101.out) | exact HB.out)⟩⟩
      next =>
       rw [if_neg c11] at H
       exact absurd H (by simp)
     next =>
      rw [if_neg c10] at H
      exact absurd H (by simp)
    next =>
     rw [if_neg c9] at H
     exact absurd H (by simp)
   next =>
    rw [if_neg c8] at H
    have c8b0 : decide (x5_1 < (t105.length : Int)) = false := yhy c8
    clear c8
    obtain rfl := yey H
    obtain ⟨Ao55, co55, eo55⟩ := Kd.Jk HO_4.out
    subst eo55
    go_wp2
    go_ret
    exact ⟨_, by first | rfl | (simp [zQ, zR] <;> rfl) | (simp [*, zQ, zR] <;> rfl), by (with_reducible repeat (first | apply Kd.qQ | apply Kd.qR | apply Kd.qf)); exact Kd.Za HO_3.out (fun _ hk => trivial), by repeat (first | (with_reducible first | exact HB.out | apply zC | apply zA | apply zD | refine zF ?_ GE101.out) | exact HB.out)⟩
mutual
def zi.j0 : Nat → List Int → Bool → List (List (qI)) → Option (Bool)
 | 0, _, _, _ => none
 | k + 1, x1, x18, x102000 => if x18 = true then (some false) else (zi.l0 k x1 0 x102000)
def zi.l0 : Nat → List Int → Int → List (List (qI)) → Option (Bool)
 | 0, _, _, _ => none
 | k + 1, x1, x5, x102000 => if x5 < (x1.length : Int) then (if 0 ≤ x5 then ((QJ.f (rd x1 x5) 0 1000).bind fun t105 => (if t105 = true then (zi.l0 k x1 (wrap64 (x5 + 1)) x102000) else (some false))) else (none)) else ((zm.f k x102000).bind fun t106 => (zi.l1 k x1 t106 0))
def zi.l1 : Nat → List Int → List (List Int) → Int → Option (Bool)
 | 0, _, _, _ => none
 | k + 1, x1, x6, x7 => if x7 < (x6.length : Int) then (if 0 ≤ x7 then ((qx.f k (zd x6 x7) x1).bind fun t110 => (if t110 = 0 then (zi.l1 k x1 x6 (wrap64 (x7 + 1))) else (some false))) else (none)) else (some true)
end
def zi.f (k : Nat) (l0_0 : List (List (qI))) (l1 : List Int) : Option (Bool) := (qz.f k l0_0).bind fun t102 => (if t102 = 0 then ((zu.f l0_0).bind fun t103 => (zi.j0 k l1 ((l1.length : Int) != (wrap64 (7 * t103))) l0_0)) else (zi.j0 k l1 true l0_0))
set_option maxHeartbeats 8000000 in
set_option maxRecDepth 100000 in
theorem zi.calls (k : Nat) (A0_0 : Option Addr) (c0_0 : Nat) (l0_0 : List (List (qI))) (A1 : Option Addr) (c1 : Nat) (l1 : List Int) (r : Bool) (w : World) (hr0_0 : Kd.C (Kd.slice 115 ZP) w A0_0 l0_0.length l0_0) (hc0_0 : l0_0.length ≤ c0_0) (hr1 : Kd.C (Kd.int .i64) w A1 l1.length l1) (hc1 : l1.length ≤ c1) (h : zi.f k l0_0 l1 = some r) :
 Calls Try.prog 16 #[.agg #[.slice A0_0 l0_0.length c0_0], .slice A1 l1.length c1] w fun e w' => e = .returned (.bool r) ∧ Below w.heap.size w w' := by
 have hu30 := Try.underlying30
 have HR0_0 := zB.mk hr0_0
 have HC0_0 := zB.mk hc0_0
 clear hr0_0 hc0_0
 have HR1 := zB.mk hr1
 have HC1 := zB.mk hc1
 clear hr1 hc1
 have HB := zB.mk (yry w.heap.size w)
 have H : ((qz.f k l0_0).bind fun t102 => (if t102 = 0 then ((zu.f l0_0).bind fun t103 => (zi.j0 k l1 ((l1.length : Int) != (wrap64 (7 * t103))) l0_0)) else (zi.j0 k l1 true l0_0))) = some r := h
 clear h
 have HC3 := zB.mk H
 clear H
 go_enter Try.func16, Try.ntmps16
 go_upto_region 1 with (first | ((with_reducible refine zj (N := 2) rfl ?_); (try (refine QY (by rfl) ?_; dsimp only)); refine zg ?hg (N := 2) ?hd (cs := #[.slice A0_0 l0_0.length c0_0]) (t := 30) ?hr ?_; (case hd => rfl); (case hg => rfl); (case hr => first | (go_simp; done) | (go_simp; rfl)); intro gb101 hg w4 hbox hb; have n0_ := zB.mk (zL (by repeat (first | (with_reducible first | exact HB.out | apply zC | apply zA | apply zD) | exact HB.out)) hb); have n1_ := zB.mk (hbox); have n2_ := zB.mk ((by rw [hg]; exact (zO (by repeat (first | (with_reducible first | exact HB.out | apply zC | apply zA | apply zD) | exact HB.out))) : w.heap.size ≤ gb101)); have n3_ := zB.mk ((by rw [hg]; exact (zO (by repeat (first | (with_reducible first | exact HB.out | apply zC | apply zA | apply zD) | exact HB.out))) : w.heap.size ≤ gb101)); clear HB; have HB := n0_; have BK101 := n1_; have GW101 := n2_; have GE101 := n3_; clear n0_ n1_ n2_ n3_; clear hb hbox hg))
 (try simp only [Act.put, yay, yby, ycy])
 go_cut [18] (fun v18 wc => ∃ (kq : Nat) (x18_2 : Bool), v18 = .bool x18_2 ∧ zB (zi.j0 kq l1 x18_2 l0_0 = some r) ∧ zB (kq ≤ k) ∧ zB (wc.heap[gb101]? = some (.cells #[(.slice A0_0 l0_0.length c0_0)] 30 (0, 0))) ∧ zB (Below w.heap.size w wc))
 case first =>
  have H := HC3.out
  clear HC3
  replace H := ydy.mp H
  obtain ⟨t102, A50, H⟩ := H
  replace H : (if t102 = 0 then ((zu.f l0_0).bind fun t103 => (zi.j0 k l1 ((l1.length : Int) != (wrap64 (7 * t103))) l0_0)) else (zi.j0 k l1 true l0_0)) = some r := H
  have A5 := zB.mk A50
  clear A50
  by_cases c6 : t102 = 0
  next =>
   rw [if_pos c6] at H
   have c6b0 : (t102 == 0) = true := beq_iff_eq.mpr c6
   have c6b1 : (t102 != 0) = false := bne_eq_false_iff_eq.mpr c6
   clear c6
   (first | rw [c6b0] | (simp only [zW, zX]; rw [c6b0]) | skip)
   replace H := ydy.mp H
   obtain ⟨t103, A70, H⟩ := H
   replace H : (zi.j0 k l1 ((l1.length : Int) != (wrap64 (7 * t103))) l0_0) = some r := H
   have A7 := zB.mk A70
   clear A70
   have H' := zB.mk H
   clear H
   have hcz8_0 : w4.cell? ⟨gb101, 0, none⟩ = some (.slice A0_0 l0_0.length c0_0) := (zM BK101.out 0).trans rfl
   have hfz8_0 := zN BK101.out 0
   go_wp2_with (first | ((with_reducible refine zU (f := 58) rfl ?_); refine qH (some 9) rfl rfl Try.func58 (by kernel_rfl) rfl #[.agg #[.slice A0_0 l0_0.length c0_0]] rfl (by (try simp only [yiy, yjy, yky]); first | done | rfl | (simp only [yly, ymy]; rfl)) ?_; (with_reducible refine (qz.calls k _ _ l0_0 t102 _ ?side1 ?side2 A5.out).mono ?_); (case side1 => repeat (first | exact (Kd.zY HR0_0.out HB.out) | (with_reducible refine Kd.zZ ?_ _) | (with_reducible refine Kd.za ?_ _) | (with_reducible refine Kd.zh ?_))); (case side2 => exact HC0_0.out); rintro e w9 ⟨rfl, hb⟩; refine ⟨_, rfl, ?_⟩; have n0_ := zB.mk (zP (g := gb101) (o := .cells #[.slice A0_0 l0_0.length c0_0] 30 (0, 0)) (by (with_reducible repeat (first | refine zI ?_ _ | refine zJ ?_ | refine zG ?_ _)); exact BK101.out) hb); have n1_ := zB.mk (zL (by repeat (first | (with_reducible first | exact HB.out | apply zC | apply zA | apply zD | refine zF ?_ GE101.out) | exact HB.out)) hb); clear BK101; clear HB; have BK101 := n0_; have HB := n1_; clear n0_ n1_; (try clear hb); (try clear hb2); (try clear hk); (try clear hi); have hcz10_0 : w9.cell? ⟨gb101, 0, none⟩ = some (.slice A0_0 l0_0.length c0_0) := (zM BK101.out 0).trans rfl; have hfz10_0 := zN BK101.out 0) | (go_at_call 59; (with_reducible refine (zu.calls _ _ l0_0 t103 _ ?side1 ?side2 A7.out).mono ?_); (case side1 => repeat (first | exact (Kd.zY HR0_0.out HB.out) | (with_reducible refine Kd.zZ ?_ _) | (with_reducible refine Kd.za ?_ _) | (with_reducible refine Kd.zh ?_))); (case side2 => exact HC0_0.out); rintro e w11 ⟨rfl, hb⟩; have n0_ := zB.mk (zP (g := gb101) (o := .cells #[.slice A0_0 l0_0.length c0_0] 30 (0, 0)) (by (with_reducible repeat (first | refine zI ?_ _ | refine zJ ?_ | refine zG ?_ _)); exact BK101.out) hb); have n1_ := zB.mk (zL (by repeat (first | (with_reducible first | exact HB.out | apply zC | apply zA | apply zD | refine zF ?_ GE101.out) | exact HB.out)) hb); clear BK101; clear HB; have BK101 := n0_; have HB := n1_; clear n0_ n1_; (try clear hb); (try clear hb2); (try clear hk); (try clear hi)))
   go_meet
   case rel => exact ⟨_, (((l1.length : Int) != (wrap64 (7 * t103)))), (by first | rfl | (simp; done) | (simp [*]; done)), H', ⟨by first | omega | exact yqy _⟩, ⟨by (with_reducible repeat (first | refine zI ?_ _ | refine zJ ?_ | refine zG ?_ _)); exact BK101.out⟩, ⟨by repeat (first | (with_reducible first | exact HB.out | apply zC | apply zA | apply zD | refine zF ?_ GE101.out) | exact HB.out)⟩⟩
  next =>
   rw [if_neg c6] at H
   have c6b0 : (t102 == 0) = false := beq_eq_false_iff_ne.mpr c6
   have c6b1 : (t102 != 0) = true := bne_iff_ne.mpr c6
   (first | rw [c6b0] | (simp only [zW, zX]; rw [c6b0]) | skip)
   have H' := zB.mk H
   clear H
   have hcz12_0 : w4.cell? ⟨gb101, 0, none⟩ = some (.slice A0_0 l0_0.length c0_0) := (zM BK101.out 0).trans rfl
   have hfz12_0 := zN BK101.out 0
   go_wp2_with (first | ((with_reducible refine zU (f := 58) rfl ?_); refine qH (some 9) rfl rfl Try.func58 (by kernel_rfl) rfl #[.agg #[.slice A0_0 l0_0.length c0_0]] rfl (by (try simp only [yiy, yjy, yky]); first | done | rfl | (simp only [yly, ymy]; rfl)) ?_; (with_reducible refine (qz.calls k _ _ l0_0 t102 _ ?side1 ?side2 A5.out).mono ?_); (case side1 => repeat (first | exact (Kd.zY HR0_0.out HB.out) | (with_reducible refine Kd.zZ ?_ _) | (with_reducible refine Kd.za ?_ _) | (with_reducible refine Kd.zh ?_))); (case side2 => exact HC0_0.out); rintro e w13 ⟨rfl, hb⟩; refine ⟨_, rfl, ?_⟩; have n0_ := zB.mk (zP (g := gb101) (o := .cells #[.slice A0_0 l0_0.length c0_0] 30 (0, 0)) (by (with_reducible repeat (first | refine zI ?_ _ | refine zJ ?_ | refine zG ?_ _)); exact BK101.out) hb); have n1_ := zB.mk (zL (by repeat (first | (with_reducible first | exact HB.out | apply zC | apply zA | apply zD | refine zF ?_ GE101.out) | exact HB.out)) hb); clear BK101; clear HB; have BK101 := n0_; have HB := n1_; clear n0_ n1_; (try clear hb); (try clear hb2); (try clear hk); (try clear hi)))
   go_meet
   case rel => exact ⟨_, (true), (by first | rfl | (simp; done) | (simp [*]; done)), H', ⟨by first | omega | exact yqy _⟩, ⟨by (with_reducible repeat (first | refine zI ?_ _ | refine zJ ?_ | refine zG ?_ _)); exact BK101.out⟩, ⟨by repeat (first | (with_reducible first | exact HB.out | apply zC | apply zA | apply zD | refine zF ?_ GE101.out) | exact HB.out)⟩⟩
 case rest =>
  clear HC3
  try clear c1
  try clear p2
  try clear c5
  try clear c6
  try clear c6b0
  try clear c6b1
  try clear p6
  try clear hcz10_0
  try clear hcz12_0
  try clear hcz8_0
  try clear hfz10_0
  try clear hfz12_0
  try clear hfz8_0
  obtain ⟨kq, x18_2, rfl, HA, HJ2, BK101, HB⟩ := hcut
  cases kq with
  | zero => exact absurd HA.out (by simp [zi.j0])
  | succ kj2 =>
   have H := HA.out
   clear HA
   simp only [zi.j0] at H
   by_cases c14 : x18_2 = true
   next =>
    subst c14
    have H1 : (some false) = some r := by rw [if_pos rfl] at H; exact H
    clear H
    have H := H1
    clear H1
    obtain rfl := yey H
    go_wp2
    go_ret
    exact ⟨by first | rfl | (simp [zQ, zR] <;> rfl) | (simp [*, zQ, zR] <;> rfl), by repeat (first | (with_reducible first | exact HB.out | apply zC | apply zA | apply zD | refine zF ?_ GE101.out) | exact HB.out)⟩
   next =>
    replace c14 := Bool.eq_false_iff.mpr c14
    subst c14
    have H1 : (zi.l0 kj2 l1 0 l0_0) = some r := by rw [if_neg (show ¬ (false = true) by decide)] at H; exact H
    clear H
    have H := H1
    clear H1
    have H' := zB.mk H
    clear H
    go_wp2
    go_loopg [5] kj2 (fun kq v5 w' => ∃ (x5_2 : Int), v5 = .int .i64 x5_2 ∧ zB (zi.l0 kq l1 x5_2 l0_0 = some r) ∧ zB (kq ≤ kj2) ∧ zB (w'.heap[gb101]? = some (.cells #[(.slice A0_0 l0_0.length c0_0)] 30 (0, 0))) ∧ zB (Below w.heap.size w w'))
    case atStart => exact ⟨(0), (by first | rfl | (simp; done) | (simp [*]; done)), H', ⟨yqy _⟩, ⟨by (with_reducible repeat (first | refine zI ?_ _ | refine zJ ?_ | refine zG ?_ _)); exact BK101.out⟩, ⟨by repeat (first | (with_reducible first | exact HB.out | apply zC | apply zA | apply zD | refine zF ?_ GE101.out) | exact HB.out)⟩⟩
    case round =>
     clear H'
     try clear c1
     try clear p2
     try clear c5
     try clear c6
     try clear c6b0
     try clear c6b1
     try clear p6
     try clear c14
     try clear hcz10_0
     try clear hcz12_0
     try clear hcz8_0
     try clear hfz10_0
     try clear hfz12_0
     try clear hfz8_0
     try clear p2
     try clear p6
     obtain ⟨x5_2, rfl, HA, HK2, BK101, HB⟩ := hrel
     cases gk with
     | zero => exact absurd HA.out (by simp [zi.l0])
     | succ k2 =>
      have H := HA.out
      clear HA
      simp only [zi.l0] at H
      by_cases c15 : x5_2 < (l1.length : Int)
      next =>
       rw [if_pos c15] at H
       have c15b0 : decide (x5_2 < (l1.length : Int)) = true := ygy c15
       clear c15
       by_cases c16 : 0 ≤ x5_2
       next =>
        rw [if_pos c16] at H
        have c16b0 : decide (0 ≤ x5_2) = true := ygy c16
        clear c16
        replace H := ydy.mp H
        obtain ⟨t105, A170, H⟩ := H
        replace H : (if t105 = true then (zi.l0 k2 l1 (wrap64 (x5_2 + 1)) l0_0) else (some false)) = some r := H
        have A17 := zB.mk A170
        clear A170
        by_cases c18 : t105 = true
        next =>
         subst c18
         have H1 : (zi.l0 k2 l1 (wrap64 (x5_2 + 1)) l0_0) = some r := by rw [if_pos rfl] at H; exact H
         clear H
         have H := H1
         clear H1
         have H' := zB.mk H
         clear H
         have p104 : 0 ≤ (x5_2 : Int) := of_decide_eq_true (by first | (with_reducible assumption) | assumption)
         have q104 : x5_2 < (l1.length : Int) := of_decide_eq_true (by first | (with_reducible assumption) | assumption)
         obtain ⟨ad104, e104, hx104_0⟩ := Kd.qu HR1.out x5_2 p104 q104
         cases e104
         replace hx104_0 := (HB.out.cell (ypy w _ hx104_0)).trans hx104_0
         replace p104 := eq_true p104
         replace q104 := eq_true q104
         go_wp2_with (first | ((with_reducible refine zU (f := 60) rfl ?_); refine qH (some 29) rfl rfl Try.func60 (by kernel_rfl) rfl #[.int .i64 (rd l1 x5_2), .int .i64 0, .int .i64 1000] rfl (by (try simp only [yiy, yjy, yky]); first | done | rfl | (simp only [yly, ymy]; rfl)) ?_; (with_reducible refine (QJ.calls (rd l1 x5_2) 0 1000 true _ A17.out).mono ?_); rintro e w' ⟨rfl, ⟨nd, rfl⟩⟩; refine ⟨_, rfl, ?_⟩))
         go_roundg k2
         case measure => have := HJ2.out; have := HK2.out; omega
         case rel => exact ⟨(wrap64 (x5_2 + 1)), (by first | rfl | (simp; done) | (simp [*]; done)), H', ⟨by have := HJ2.out; have := HK2.out; omega⟩, ⟨by (with_reducible repeat (first | refine zI ?_ _ | refine zJ ?_ | refine zG ?_ _)); exact BK101.out⟩, ⟨by repeat (first | (with_reducible first | exact HB.out | apply zC | apply zA | apply zD | refine zF ?_ GE101.out) | exact HB.out)⟩⟩
        next =>
         replace c18 := Bool.eq_false_iff.mpr c18
         subst c18
         have H1 : (some false) = some r := by rw [if_neg (show ¬ (false = true) by decide)] at H; exact H
         clear H
         have H := H1
         clear H1
         obtain rfl := yey H
         have p104 : 0 ≤ (x5_2 : Int) := of_decide_eq_true (by first | (with_reducible assumption) | assumption)
         have q104 : x5_2 < (l1.length : Int) := of_decide_eq_true (by first | (with_reducible assumption) | assumption)
         obtain ⟨ad104, e104, hx104_0⟩ := Kd.qu HR1.out x5_2 p104 q104
         cases e104
         replace hx104_0 := (HB.out.cell (ypy w _ hx104_0)).trans hx104_0
         replace p104 := eq_true p104
         replace q104 := eq_true q104
         go_wp2_with (first | ((with_reducible refine zU (f := 60) rfl ?_); refine qH (some 29) rfl rfl Try.func60 (by kernel_rfl) rfl #[.int .i64 (rd l1 x5_2), .int .i64 0, .int .i64 1000] rfl (by (try simp only [yiy, yjy, yky]); first | done | rfl | (simp only [yly, ymy]; rfl)) ?_; (with_reducible refine (QJ.calls (rd l1 x5_2) 0 1000 false _ A17.out).mono ?_); rintro e w' ⟨rfl, ⟨nd, rfl⟩⟩; refine ⟨_, rfl, ?_⟩))
         go_ret
         exact ⟨by first | rfl | (simp [zQ, zR] <;> rfl) | (simp [*, zQ, zR] <;> rfl), by repeat (first | (with_reducible first | exact HB.out | apply zC | apply zA | apply zD | refine zF ?_ GE101.out) | exact HB.out)⟩
       next =>
        rw [if_neg c16] at H
        exact absurd H (by simp)
      next =>
       rw [if_neg c15] at H
       have c15b0 : decide (x5_2 < (l1.length : Int)) = false := yhy c15
       clear c15
       replace H := ydy.mp H
       obtain ⟨t106, A190, H⟩ := H
       replace H : (zi.l1 k2 l1 t106 0) = some r := H
       have A19 := zB.mk A190
       clear A190
       have H' := zB.mk H
       clear H
       have hcz20_0 : wr.cell? ⟨gb101, 0, none⟩ = some (.slice A0_0 l0_0.length c0_0) := (zM BK101.out 0).trans rfl
       have hfz20_0 := zN BK101.out 0
       go_wp2_with (first | ((with_reducible refine zU (f := 61) rfl ?_); refine qH (some 32) rfl rfl Try.func61 (by kernel_rfl) rfl #[.agg #[.slice A0_0 l0_0.length c0_0]] rfl (by (try simp only [yiy, yjy, yky]); first | done | rfl | (simp only [yly, ymy]; rfl)) ?_; (with_reducible refine (zm.calls k2 _ _ l0_0 t106 _ ?side1 ?side2 A19.out).mono ?_); (case side1 => repeat (first | exact (Kd.zY HR0_0.out HB.out) | (with_reducible refine Kd.zZ ?_ _) | (with_reducible refine Kd.za ?_ _) | (with_reducible refine Kd.zh ?_))); (case side2 => exact HC0_0.out); rintro e w21 ⟨v107, rfl, ho0, hb⟩; refine ⟨_, rfl, ?_⟩; have n0_ := zB.mk (Kd.Jj ho0 (zO (by repeat (first | (with_reducible first | exact HB.out | apply zC | apply zA | apply zD | refine zF ?_ GE101.out) | exact HB.out)))); have n1_ := zB.mk (zP (g := gb101) (o := .cells #[.slice A0_0 l0_0.length c0_0] 30 (0, 0)) (by (with_reducible repeat (first | refine zI ?_ _ | refine zJ ?_ | refine zG ?_ _)); exact BK101.out) hb); have n2_ := zB.mk (zL (by repeat (first | (with_reducible first | exact HB.out | apply zC | apply zA | apply zD | refine zF ?_ GE101.out) | exact HB.out)) hb); clear BK101; clear HB; have HO108 := n0_; have BK101 := n1_; have HB := n2_; clear n0_ n1_ n2_; (try clear hb); (try clear hb2); (try clear hk); (try clear hi); (try clear ho0)))
       go_loopg [7] k2 (fun kq v7 w' => ∃ (x7_3 : Int), v7 = .int .i64 x7_3 ∧ zB (zi.l1 kq l1 t106 x7_3 = some r) ∧ zB (kq ≤ k2) ∧ zB (Kd.S (Kd.slice 2 (Kd.int .i64)) 25 w' w.heap.size (fun _ => True) v107 t106) ∧ zB (w'.heap[gb101]? = some (.cells #[(.slice A0_0 l0_0.length c0_0)] 30 (0, 0))) ∧ zB (Below w.heap.size w w'))
       case atStart => exact ⟨(0), (by first | rfl | (simp; done) | (simp [*]; done)), H', ⟨yqy _⟩, ⟨by (with_reducible repeat (first | apply Kd.qQ | apply Kd.qR | apply Kd.qf)); exact HO108.out⟩, ⟨by (with_reducible repeat (first | refine zI ?_ _ | refine zJ ?_ | refine zG ?_ _)); exact BK101.out⟩, ⟨by repeat (first | (with_reducible first | exact HB.out | apply zC | apply zA | apply zD | refine zF ?_ GE101.out) | exact HB.out)⟩⟩
       case round =>
        clear H'
        try clear c1
        try clear p1
        try clear q1
        try clear hx1
        try clear p2
        try clear c5
        try clear c6
        try clear c6b0
        try clear c6b1
        try clear p6
        try clear p10
        try clear q10
        try clear hx10
        try clear c14
        try clear c15
        try clear c15b0
        try clear c16
        try clear c16b0
        try clear c18
        try clear hcz10_0
        try clear hcz12_0
        try clear hcz20_0
        try clear hcz8_0
        try clear hfz10_0
        try clear hfz12_0
        try clear hfz20_0
        try clear hfz8_0
        try clear hx104_0
        try clear p104
        try clear p2
        try clear p6
        try clear q104
        obtain ⟨x7_3, rfl, HA, HK3, HO_6, BK101, HB⟩ := hrel
        cases gk with
        | zero => exact absurd HA.out (by simp [zi.l1])
        | succ k3 =>
         have H := HA.out
         clear HA
         simp only [zi.l1] at H
         by_cases c22 : x7_3 < (t106.length : Int)
         next =>
          rw [if_pos c22] at H
          have c22b0 : decide (x7_3 < (t106.length : Int)) = true := ygy c22
          clear c22
          by_cases c23 : 0 ≤ x7_3
          next =>
           rw [if_pos c23] at H
           have c23b0 : decide (0 ≤ x7_3) = true := ygy c23
           clear c23
           replace H := ydy.mp H
           obtain ⟨t110, A240, H⟩ := H
           replace H : (if t110 = 0 then (zi.l1 k3 l1 t106 (wrap64 (x7_3 + 1))) else (some false)) = some r := H
           have A24 := zB.mk A240
           clear A240
           by_cases c25 : t110 = 0
           next =>
            rw [if_pos c25] at H
            have c25b0 : (t110 == 0) = true := beq_iff_eq.mpr c25
            have c25b1 : (t110 != 0) = false := bne_eq_false_iff_eq.mpr c25
            clear c25
            have H' := zB.mk H
            clear H
            obtain ⟨Ao26, co26, eo26⟩ := Kd.Jk HO_6.out
            subst eo26
            have p109 : 0 ≤ (x7_3 : Int) := of_decide_eq_true (by first | (with_reducible assumption) | assumption)
            have q109 : x7_3 < (t106.length : Int) := of_decide_eq_true (by first | (with_reducible assumption) | assumption)
            obtain ⟨ad109, A109_0, c109_0, e109, hx109_0, hl109_0, hi109_0⟩ := zBp (Kd.QC HO_6.out).2.2 x7_3 p109 q109
            cases e109
            obtain ⟨ce109, hce109, hMe109, hcc109⟩ := Kd.zEl HO_6.out [] x7_3 p109 (by first | exact q109 | exact of_decide_eq_true (by first | (with_reducible assumption) | assumption) | (have e_ := (Kd.QC HO_6.out).1; omega))
            obtain ⟨ve109_0, rfl, ge109_0⟩ := hMe109
            have hv109_0 := hcc109 0 _ rfl
            rw [Nat.add_zero, show ((Kd.slice 2 (Kd.int .i64))).sz = 1 from rfl, Nat.mul_one] at hv109_0
            replace hv109_0 := yey (hv109_0.symm.trans hx109_0)
            rw [hv109_0] at ge109_0
            have HL109_0 := zB.mk (show Kd.R (Kd.int .i64) 2 _ _ _ _ (zd t106 x7_3) from ge109_0)
            clear hv109_0 ge109_0
            clear hcc109 hce109
            have HR109_0 := zB.mk hi109_0
            have HC109_0 := zB.mk hl109_0
            clear hi109_0 hl109_0
            replace p109 := eq_true p109
            replace q109 := eq_true q109
            go_wp2_with (first | ((with_reducible refine zU (f := 62) rfl ?_); refine qH (some 44) rfl rfl Try.func62 (by kernel_rfl) rfl #[.slice A109_0 (zd t106 x7_3).length c109_0, .slice A1 l1.length c1] rfl (by (try simp only [yiy, yjy, yky]); first | done | rfl | (simp only [yly, ymy]; rfl)) ?_; (with_reducible refine (qx.calls k3 _ _ (zd t106 x7_3) _ _ l1 t110 _ ?side1 ?side2 ?side3 ?side4 A24.out).mono ?_); (case side1 => repeat (first | exact (by repeat (first | (with_reducible exact HR109_0.out) | (with_reducible refine Kd.zZ ?_ _) | (with_reducible refine Kd.za ?_ _) | (with_reducible refine Kd.zh ?_) | exact HR109_0.out)) | (with_reducible refine Kd.zZ ?_ _) | (with_reducible refine Kd.za ?_ _) | (with_reducible refine Kd.zh ?_))); (case side2 => exact HC109_0.out); (case side3 => repeat (first | exact (Kd.zY HR1.out HB.out) | (with_reducible refine Kd.zZ ?_ _) | (with_reducible refine Kd.za ?_ _) | (with_reducible refine Kd.zh ?_))); (case side4 => exact HC1.out); rintro e w' ⟨rfl, ⟨nd, rfl⟩⟩; refine ⟨_, rfl, ?_⟩))
            go_roundg k3
            case measure => have := HJ2.out; have := HK2.out; have := HK3.out; omega
            case rel => exact ⟨(wrap64 (x7_3 + 1)), (by first | rfl | (simp; done) | (simp [*]; done)), H', ⟨by have := HJ2.out; have := HK2.out; have := HK3.out; omega⟩, ⟨by (with_reducible repeat (first | apply Kd.qQ | apply Kd.qR | apply Kd.qf)); exact HO_6.out⟩, ⟨by (with_reducible repeat (first | refine zI ?_ _ | refine zJ ?_ | refine zG ?_ _)); exact BK101.out⟩, ⟨by repeat (first | (with_reducible first | exact HB.out | apply zC | apply zA | apply zD | refine zF ?_ GE101.out) | exact HB.out)⟩⟩
           next =>
            rw [if_neg c25] at H
            have c25b0 : (t110 == 0) = false := beq_eq_false_iff_ne.mpr c25
            have c25b1 : (t110 != 0) = true := bne_iff_ne.mpr c25
            obtain rfl := yey H
            obtain ⟨Ao27, co27, eo27⟩ := Kd.Jk HO_6.out
            subst eo27
            have p109 : 0 ≤ (x7_3 : Int) := of_decide_eq_true (by first | (with_reducible assumption) | assumption)
            have q109 : x7_3 < (t106.length : Int) := of_decide_eq_true (by first | (with_reducible assumption) | assumption)
            obtain ⟨ad109, A109_0, c109_0, e109, hx109_0, hl109_0, hi109_0⟩ := zBp (Kd.QC HO_6.out).2.2 x7_3 p109 q109
            cases e109
            obtain ⟨ce109, hce109, hMe109, hcc109⟩ := Kd.zEl HO_6.out [] x7_3 p109 (by first | exact q109 | exact of_decide_eq_true (by first | (with_reducible assumption) | assumption) | (have e_ := (Kd.QC HO_6.out).1; omega))
            obtain ⟨ve109_0, rfl, ge109_0⟩ := hMe109
            have hv109_0 := hcc109 0 _ rfl
            rw [Nat.add_zero, show ((Kd.slice 2 (Kd.int .i64))).sz = 1 from rfl, Nat.mul_one] at hv109_0
            replace hv109_0 := yey (hv109_0.symm.trans hx109_0)
            rw [hv109_0] at ge109_0
            have HL109_0 := zB.mk (show Kd.R (Kd.int .i64) 2 _ _ _ _ (zd t106 x7_3) from ge109_0)
            clear hv109_0 ge109_0
            clear hcc109 hce109
            have HR109_0 := zB.mk hi109_0
            have HC109_0 := zB.mk hl109_0
            clear hi109_0 hl109_0
            replace p109 := eq_true p109
            replace q109 := eq_true q109
            go_wp2_with (first | ((with_reducible refine zU (f := 62) rfl ?_); refine qH (some 44) rfl rfl Try.func62 (by kernel_rfl) rfl #[.slice A109_0 (zd t106 x7_3).length c109_0, .slice A1 l1.length c1] rfl (by (try simp only [yiy, yjy, yky]); first | done | rfl | (simp only [yly, ymy]; rfl)) ?_; (with_reducible refine (qx.calls k3 _ _ (zd t106 x7_3) _ _ l1 t110 _ ?side1 ?side2 ?side3 ?side4 A24.out).mono ?_); (case side1 => repeat (first | exact (by repeat (first | (with_reducible exact HR109_0.out) | (with_reducible refine Kd.zZ ?_ _) | (with_reducible refine Kd.za ?_ _) | (with_reducible refine Kd.zh ?_) | exact HR109_0.out)) | (with_reducible refine Kd.zZ ?_ _) | (with_reducible refine Kd.za ?_ _) | (with_reducible refine Kd.zh ?_))); (case side2 => exact HC109_0.out); (case side3 => repeat (first | exact (Kd.zY HR1.out HB.out) | (with_reducible refine Kd.zZ ?_ _) | (with_reducible refine Kd.za ?_ _) | (with_reducible refine Kd.zh ?_))); (case side4 => exact HC1.out); rintro e w' ⟨rfl, ⟨nd, rfl⟩⟩; refine ⟨_, rfl, ?_⟩))
            go_ret
            exact ⟨by first | rfl | (simp [zQ, zR] <;> rfl) | (simp [*, zQ, zR] <;> rfl), by repeat (first | (with_reducible first | exact HB.out | apply zC | apply zA | apply zD | refine zF ?_ GE101.out) | exact HB.out)⟩
          next =>
           rw [if_neg c23] at H
           exact absurd H (by simp)
         next =>
          rw [if_neg c22] at H
          have c22b0 : decide (x7_3 < (t106.length : Int)) = false := yhy c22
          clear c22
          obtain rfl := yey H
          obtain ⟨Ao28, co28, eo28⟩ := Kd.Jk HO_6.out
          subst eo28
          go_wp2
          go_ret
          exact ⟨by first | rfl | (simp [zQ, zR] <;> rfl) | (simp [*, zQ, zR] <;> rfl), by repeat (first | (with_reducible first | exact HB.out | apply zC | apply zA | apply zD | refine zF ?_ GE101.out) | exact HB.out)⟩
mutual
def qN.l0 : Nat → List Int → Int → Option (Bool)
  | 0, _, _ => none
  | k + 1, x0, x3 => if (wrap64 (x3 + 7)) ≤ (x0.length : Int) then (qN.l1 k x0 x3 0 4) else (some true)
def qN.l1 : Nat → List Int → Int → Int → Int → Option (Bool)
  | 0, _, _, _, _ => none
  | k + 1, x0, x3, x4, x5 => if x5 < 7 then (if 0 ≤ (wrap64 (x3 + x5)) then (if (wrap64 (x3 + x5)) < (x0.length : Int) then (if (rd x0 (wrap64 (x3 + x5))) > 0 then (qN.l1 k x0 x3 (wrap64 (x4 + 1)) (wrap64 (x5 + 1))) else (qN.l1 k x0 x3 x4 (wrap64 (x5 + 1)))) else (none)) else (none)) else (if x4 > 1 then (some false) else (qN.l0 k x0 (wrap64 (x3 + 7))))
end
def qN.f (k : Nat) (l0 : List Int) : Option (Bool) := qN.l0 k l0 0
set_option maxHeartbeats 8000000 in
set_option maxRecDepth 100000 in
theorem qN.calls (k : Nat) (A0 : Option Addr) (c0 : Nat) (l0 : List Int) (r : Bool) (w : World) (hr0 : Kd.C (Kd.int .i64) w A0 l0.length l0) (hc0 : l0.length ≤ c0) (h : qN.f k l0 = some r) :
    Calls Try.prog 69 #[.slice A0 l0.length c0] w fun e w' => e = .returned (.bool r) ∧ ze w w' := by
  have HR0 := zB.mk hr0
  have HC0 := zB.mk hc0
  clear hr0 hc0
  have H : (qN.l0 k l0 0) = some r := h
  clear h
  have H' := zB.mk H
  clear H
  go_enter Try.func69, Try.ntmps69
  go_wp2
  go_loopg [3] k (fun kq v3 w' => ∃ (x3_1 : Int), v3 = .int .i64 x3_1 ∧ zB (qN.l0 kq l0 x3_1 = some r) ∧ zB (kq ≤ k) ∧ ze w w')
  case atStart => exact ⟨(0), (by first | rfl | (simp; done) | (simp [*]; done)), H', ⟨yqy _⟩, by repeat (first | exact ze.refl _ | apply ze.step)⟩
  case round =>
    clear H'
    obtain ⟨x3_1, rfl, HA, HK1, ⟨m1, rfl⟩⟩ := hrel
    cases gk with
    | zero => exact absurd HA.out (by simp [qN.l0])
    | succ k1 =>
      have H := HA.out
      clear HA
      simp only [qN.l0] at H
      by_cases c2 : (wrap64 (x3_1 + 7)) ≤ (l0.length : Int)
      · rw [if_pos c2] at H
        have c2b0 : decide ((wrap64 (x3_1 + 7)) ≤ (l0.length : Int)) = true := ygy c2
        clear c2
        have H' := zB.mk H
        clear H
        go_wp2
        go_loopg [4, 5] k1 (fun kq v4 v5 w' => ∃ (x4_2 : Int) (x5_2 : Int), v4 = .int .i64 x4_2 ∧ v5 = .int .i64 x5_2 ∧ zB (qN.l1 kq l0 x3_1 x4_2 x5_2 = some r) ∧ zB (kq ≤ k1) ∧ ze w w')
        case atStart => exact ⟨(0), (4), (by first | rfl | (simp; done) | (simp [*]; done)), (by first | rfl | (simp; done) | (simp [*]; done)), H', ⟨yqy _⟩, by repeat (first | exact ze.refl _ | apply ze.step)⟩
        case round =>
          clear H'
          try clear c2
          try clear c2b0
          try clear p2
          obtain ⟨x4_2, x5_2, rfl, rfl, HA, HK2, ⟨m2, rfl⟩⟩ := hrel
          cases gk with
          | zero => exact absurd HA.out (by simp [qN.l1])
          | succ k2 =>
            have H := HA.out
            clear HA
            simp only [qN.l1] at H
            by_cases c3 : x5_2 < 7
            · rw [if_pos c3] at H
              have c3b0 : decide (x5_2 < 7) = true := ygy c3
              clear c3
              obtain ⟨ji4, hji4⟩ : ∃ j_ : Int, (wrap64 (x3_1 + x5_2)) = j_ := ⟨_, rfl⟩
              replace H : (if 0 ≤ (ji4) then (if (ji4) < (l0.length : Int) then (if (rd l0 (ji4)) > 0 then (qN.l1 k2 l0 x3_1 (wrap64 (x4_2 + 1)) (wrap64 (x5_2 + 1))) else (qN.l1 k2 l0 x3_1 x4_2 (wrap64 (x5_2 + 1)))) else (none)) else (none)) = some r := by first | (rw [hji4] at H; exact H) | (simp only [hji4] at H ⊢; exact H)
              have hji4w : (IntKind.i64.wrap (x3_1 + x5_2)) = ji4 := (zW _).trans hji4
              by_cases c5 : 0 ≤ (ji4)
              · rw [if_pos c5] at H
                have c5b0 : decide (0 ≤ (ji4)) = true := ygy c5
                clear c5
                by_cases c6 : (ji4) < (l0.length : Int)
                · rw [if_pos c6] at H
                  have c6b0 : decide ((ji4) < (l0.length : Int)) = true := ygy c6
                  clear c6
                  by_cases c7 : (rd l0 (ji4)) > 0
                  · rw [if_pos c7] at H
                    have c7b0 : decide (0 < (rd l0 (ji4))) = true := ygy c7
                    clear c7
                    have H' := zB.mk H
                    clear H
                    have p101 : 0 ≤ ((ji4) : Int) := of_decide_eq_true (by first | (with_reducible assumption) | assumption)
                    have q101 : (ji4) < (l0.length : Int) := of_decide_eq_true (by first | (with_reducible assumption) | assumption)
                    obtain ⟨ad101, e101, hx101_0⟩ := Kd.qu HR0.out (ji4) p101 q101
                    cases e101
                    replace p101 := eq_true p101
                    replace q101 := eq_true q101
                    go_wp2
                    go_roundg k2
                    case measure => have := HK1.out; have := HK2.out; omega
                    case rel => exact ⟨(wrap64 (x4_2 + 1)), (wrap64 (x5_2 + 1)), (by first | rfl | (simp; done) | (simp [*]; done)), (by first | rfl | (simp; done) | (simp [*]; done)), H', ⟨by have := HK1.out; have := HK2.out; omega⟩, by repeat (first | exact ze.refl _ | apply ze.step)⟩
                  · rw [if_neg c7] at H
                    have c7b0 : decide (0 < (rd l0 (ji4))) = false := yhy c7
                    clear c7
                    have H' := zB.mk H
                    clear H
                    have p101 : 0 ≤ ((ji4) : Int) := of_decide_eq_true (by first | (with_reducible assumption) | assumption)
                    have q101 : (ji4) < (l0.length : Int) := of_decide_eq_true (by first | (with_reducible assumption) | assumption)
                    obtain ⟨ad101, e101, hx101_0⟩ := Kd.qu HR0.out (ji4) p101 q101
                    cases e101
                    replace p101 := eq_true p101
                    replace q101 := eq_true q101
                    go_wp2
                    go_roundg k2
                    case measure => have := HK1.out; have := HK2.out; omega
                    case rel => exact ⟨(x4_2), (wrap64 (x5_2 + 1)), (by first | rfl | (simp; done) | (simp [*]; done)), (by first | rfl | (simp; done) | (simp [*]; done)), H', ⟨by have := HK1.out; have := HK2.out; omega⟩, by repeat (first | exact ze.refl _ | apply ze.step)⟩
                · rw [if_neg c6] at H
                  exact absurd H (by simp)
              · rw [if_neg c5] at H
                exact absurd H (by simp)
            · rw [if_neg c3] at H
              have c3b0 : decide (x5_2 < 7) = false := yhy c3
              clear c3
              by_cases c8 : x4_2 > 1
              · rw [if_pos c8] at H
                have c8b0 : decide (1 < x4_2) = true := ygy c8
                clear c8
                obtain rfl := yey H
                go_wp2
                go_ret
                exact ⟨by first | rfl | (simp; done) | (simp [*]; done), by repeat (first | exact ze.refl _ | apply ze.step)⟩
              · rw [if_neg c8] at H
                have c8b0 : decide (1 < x4_2) = false := yhy c8
                clear c8
                have H' := zB.mk H
                clear H
                go_wp2
                go_roundg k2
                case measure => have := HK1.out; have := HK2.out; omega
                case rel => exact ⟨(wrap64 (x3_1 + 7)), (by first | rfl | (simp; done) | (simp [*]; done)), H', ⟨by have := HK1.out; have := HK2.out; omega⟩, by repeat (first | exact ze.refl _ | apply ze.step)⟩
      · rw [if_neg c2] at H
        have c2b0 : decide ((wrap64 (x3_1 + 7)) ≤ (l0.length : Int)) = false := yhy c2
        clear c2
        obtain rfl := yey H
        go_wp2
        go_ret
        exact ⟨by first | rfl | (simp; done) | (simp [*]; done), by repeat (first | exact ze.refl _ | apply ze.step)⟩
def qO.f (k : Nat) (l0_0 : List (List (qI))) (l1 : List Int) : Option (Bool) := (zi.f k l0_0 l1).bind fun t102 => (if t102 = true then ((qN.f k l1).bind fun t103 => (some t103)) else (some false))
set_option maxHeartbeats 8000000 in
set_option maxRecDepth 100000 in
theorem qO.calls (k : Nat) (A0_0 : Option Addr) (c0_0 : Nat) (l0_0 : List (List (qI))) (A1 : Option Addr) (c1 : Nat) (l1 : List Int) (r : Bool) (w : World) (hr0_0 : Kd.C (Kd.slice 115 ZP) w A0_0 l0_0.length l0_0) (hc0_0 : l0_0.length ≤ c0_0) (hr1 : Kd.C (Kd.int .i64) w A1 l1.length l1) (hc1 : l1.length ≤ c1) (h : qO.f k l0_0 l1 = some r) :
    Calls Try.prog 28 #[.agg #[.slice A0_0 l0_0.length c0_0], .slice A1 l1.length c1] w fun e w' => e = .returned (.bool r) ∧ Below w.heap.size w w' := by
  have hu30 := Try.underlying30
  have HR0_0 := zB.mk hr0_0
  have HC0_0 := zB.mk hc0_0
  clear hr0_0 hc0_0
  have HR1 := zB.mk hr1
  have HC1 := zB.mk hc1
  clear hr1 hc1
  have HB := zB.mk (yry w.heap.size w)
  have H : ((zi.f k l0_0 l1).bind fun t102 => (if t102 = true then ((qN.f k l1).bind fun t103 => (some t103)) else (some false))) = some r := h
  clear h
  replace H := ydy.mp H
  obtain ⟨t102, A30, H⟩ := H
  replace H : (if t102 = true then ((qN.f k l1).bind fun t103 => (some t103)) else (some false)) = some r := H
  have A3 := zB.mk A30
  clear A30
  by_cases c4 : t102 = true
  · subst c4
    have H1 : ((qN.f k l1).bind fun t103 => (some t103)) = some r := by rw [if_pos rfl] at H; exact H
    clear H
    have H := H1
    clear H1
    replace H := ydy.mp H
    obtain ⟨t103, A50, H⟩ := H
    replace H : (some t103) = some r := H
    have A5 := zB.mk A50
    clear A50
    obtain rfl := yey H
    go_enter Try.func28, Try.ntmps28
    go_wp2_with (first | ((with_reducible refine zj (N := 2) rfl ?_); refine zg ?hg (N := 2) ?hd (cs := #[.slice A0_0 l0_0.length c0_0]) (t := 30) ?hr ?_; (case hd => rfl); (case hg => rfl); (case hr => first | (go_simp; done) | (go_simp; rfl)); intro gb101 hg w6 hbox hb; have n0_ := zB.mk (zL (by repeat (first | (with_reducible first | exact HB.out | apply zC | apply zA | apply zD) | exact HB.out)) hb); have n1_ := zB.mk (hbox); have n2_ := zB.mk ((by rw [hg]; exact (zO (by repeat (first | (with_reducible first | exact HB.out | apply zC | apply zA | apply zD) | exact HB.out))) : w.heap.size ≤ gb101)); have n3_ := zB.mk ((by rw [hg]; exact (zO (by repeat (first | (with_reducible first | exact HB.out | apply zC | apply zA | apply zD) | exact HB.out))) : w.heap.size ≤ gb101)); clear HB; have HB := n0_; have BK101 := n1_; have GW101 := n2_; have GE101 := n3_; clear n0_ n1_ n2_ n3_; clear hb hbox hg; have hcz7_0 : w6.cell? ⟨gb101, 0, none⟩ = some (.slice A0_0 l0_0.length c0_0) := (zM BK101.out 0).trans rfl; have hfz7_0 := zN BK101.out 0) | ((with_reducible refine zU (f := 16) rfl ?_); refine qH (some 7) rfl rfl Try.func16 (by kernel_rfl) rfl #[.agg #[.slice A0_0 l0_0.length c0_0], .slice A1 l1.length c1] rfl (by (try simp only [yiy, yjy, yky]); first | done | rfl | (simp only [yly, ymy]; rfl)) ?_; (with_reducible refine (zi.calls k _ _ l0_0 _ _ l1 true _ ?side1 ?side2 ?side3 ?side4 A3.out).mono ?_); (case side1 => repeat (first | exact (Kd.zY HR0_0.out HB.out) | (with_reducible refine Kd.zZ ?_ _) | (with_reducible refine Kd.za ?_ _) | (with_reducible refine Kd.zh ?_))); (case side2 => exact HC0_0.out); (case side3 => repeat (first | exact (Kd.zY HR1.out HB.out) | (with_reducible refine Kd.zZ ?_ _) | (with_reducible refine Kd.za ?_ _) | (with_reducible refine Kd.zh ?_))); (case side4 => exact HC1.out); rintro e w8 ⟨rfl, hb⟩; refine ⟨_, rfl, ?_⟩; have n0_ := zB.mk (zP (g := gb101) (o := .cells #[.slice A0_0 l0_0.length c0_0] 30 (0, 0)) (by (with_reducible repeat (first | refine zI ?_ _ | refine zJ ?_ | refine zG ?_ _)); exact BK101.out) hb); have n1_ := zB.mk (zL (by repeat (first | (with_reducible first | exact HB.out | apply zC | apply zA | apply zD | refine zF ?_ GE101.out) | exact HB.out)) hb); clear BK101; clear HB; have BK101 := n0_; have HB := n1_; clear n0_ n1_; (try clear hb); (try clear hb2); (try clear hk); (try clear hi)) | (go_at_call 69; (with_reducible refine (qN.calls k _ _ l1 t103 _ ?side1 ?side2 A5.out).mono ?_); (case side1 => repeat (first | exact (Kd.zY HR1.out HB.out) | (with_reducible refine Kd.zZ ?_ _) | (with_reducible refine Kd.za ?_ _) | (with_reducible refine Kd.zh ?_))); (case side2 => exact HC1.out); rintro e w' ⟨rfl, ⟨nd, rfl⟩⟩))
    go_ret
    exact ⟨by first | rfl | (simp [zQ, zR] <;> rfl) | (simp [*, zQ, zR] <;> rfl), by repeat (first | (with_reducible first | exact HB.out | apply zC | apply zA | apply zD | refine zF ?_ GE101.out) | exact HB.out)⟩
  · replace c4 := Bool.eq_false_iff.mpr c4
    subst c4
    have H1 : (some false) = some r := by rw [if_neg (show ¬ (false = true) by decide)] at H; exact H
    clear H
    have H := H1
    clear H1
    obtain rfl := yey H
    go_enter Try.func28, Try.ntmps28
    go_wp2_with (first | ((with_reducible refine zj (N := 2) rfl ?_); refine zg ?hg (N := 2) ?hd (cs := #[.slice A0_0 l0_0.length c0_0]) (t := 30) ?hr ?_; (case hd => rfl); (case hg => rfl); (case hr => first | (go_simp; done) | (go_simp; rfl)); intro gb101 hg w9 hbox hb; have n0_ := zB.mk (zL (by repeat (first | (with_reducible first | exact HB.out | apply zC | apply zA | apply zD) | exact HB.out)) hb); have n1_ := zB.mk (hbox); have n2_ := zB.mk ((by rw [hg]; exact (zO (by repeat (first | (with_reducible first | exact HB.out | apply zC | apply zA | apply zD) | exact HB.out))) : w.heap.size ≤ gb101)); have n3_ := zB.mk ((by rw [hg]; exact (zO (by repeat (first | (with_reducible first | exact HB.out | apply zC | apply zA | apply zD) | exact HB.out))) : w.heap.size ≤ gb101)); clear HB; have HB := n0_; have BK101 := n1_; have GW101 := n2_; have GE101 := n3_; clear n0_ n1_ n2_ n3_; clear hb hbox hg; have hcz10_0 : w9.cell? ⟨gb101, 0, none⟩ = some (.slice A0_0 l0_0.length c0_0) := (zM BK101.out 0).trans rfl; have hfz10_0 := zN BK101.out 0) | ((with_reducible refine zU (f := 16) rfl ?_); refine qH (some 7) rfl rfl Try.func16 (by kernel_rfl) rfl #[.agg #[.slice A0_0 l0_0.length c0_0], .slice A1 l1.length c1] rfl (by (try simp only [yiy, yjy, yky]); first | done | rfl | (simp only [yly, ymy]; rfl)) ?_; (with_reducible refine (zi.calls k _ _ l0_0 _ _ l1 false _ ?side1 ?side2 ?side3 ?side4 A3.out).mono ?_); (case side1 => repeat (first | exact (Kd.zY HR0_0.out HB.out) | (with_reducible refine Kd.zZ ?_ _) | (with_reducible refine Kd.za ?_ _) | (with_reducible refine Kd.zh ?_))); (case side2 => exact HC0_0.out); (case side3 => repeat (first | exact (Kd.zY HR1.out HB.out) | (with_reducible refine Kd.zZ ?_ _) | (with_reducible refine Kd.za ?_ _) | (with_reducible refine Kd.zh ?_))); (case side4 => exact HC1.out); rintro e w11 ⟨rfl, hb⟩; refine ⟨_, rfl, ?_⟩; have n0_ := zB.mk (zP (g := gb101) (o := .cells #[.slice A0_0 l0_0.length c0_0] 30 (0, 0)) (by (with_reducible repeat (first | refine zI ?_ _ | refine zJ ?_ | refine zG ?_ _)); exact BK101.out) hb); have n1_ := zB.mk (zL (by repeat (first | (with_reducible first | exact HB.out | apply zC | apply zA | apply zD | refine zF ?_ GE101.out) | exact HB.out)) hb); clear BK101; clear HB; have BK101 := n0_; have HB := n1_; clear n0_ n1_; (try clear hb); (try clear hb2); (try clear hk); (try clear hi)))
    go_ret
    exact ⟨by first | rfl | (simp [zQ, zR] <;> rfl) | (simp [*, zQ, zR] <;> rfl), by repeat (first | (with_reducible first | exact HB.out | apply zC | apply zA | apply zD | refine zF ?_ GE101.out) | exact HB.out)⟩
def qF.l0 : Nat → List Int → List Int → Int → Option (List Int)
  | 0, _, _, _ => none
  | k + 1, x0, x3, x4 => if x4 < (x0.length : Int) then (if 0 ≤ x4 then (if (rd x0 x4) = 0 then (qF.l0 k x0 x3 (wrap64 (x4 + 1))) else (if x3.length < 17592186044416 then (qF.l0 k x0 (x3 ++ [x4]) (wrap64 (x4 + 1))) else (none))) else (none)) else (some x3)
def qF.f (k : Nat) (l0 : List Int) : Option (List Int) := qF.l0 k l0 (([] : List Int)) 0
set_option maxHeartbeats 8000000 in
set_option maxRecDepth 100000 in
theorem qF.calls (k : Nat) (A0 : Option Addr) (c0 : Nat) (l0 : List Int) (r : List Int) (w : World) (hr0 : Kd.C (Kd.int .i64) w A0 l0.length l0) (hc0 : l0.length ≤ c0) (h : qF.f k l0 = some r) :
    Calls Try.prog 79 #[.slice A0 l0.length c0] w fun e w' => ∃ v0_ : Value, e = .returned (v0_) ∧ Kd.R (Kd.int .i64) 2 w' w.heap.size (fun _ => True) v0_ r ∧ Below w.heap.size w w' := by
  have HR0 := zB.mk hr0
  have HC0 := zB.mk hc0
  clear hr0 hc0
  have HB := zB.mk (yry w.heap.size w)
  have H : (qF.l0 k l0 (([] : List Int)) 0) = some r := h
  clear h
  obtain ⟨y101, hy101⟩ : ∃ y_ : List Int, y_ = (([] : List Int)) := ⟨_, rfl⟩
  replace H : (qF.l0 k l0 y101 0) = some r := by first | (rw [hy101]; with_reducible exact H) | (have H2_ := (yfy _ _).symm.trans H; rw [hy101]; with_reducible exact H2_) | (have H2_ := (yfy _ _).symm.trans H; with_reducible exact H2_) | with_reducible exact H | (rw [hy101]; exact H) | exact H
  have Ny101 := zB.mk hy101
  clear hy101
  have H' := zB.mk H
  clear H
  go_enter Try.func79, Try.ntmps79
  go_wp2_with (first | ((with_reducible refine zj (N := 5) rfl ?_); refine Kd.zCC (Kd.int .i64) _ 2 ?hg (N := 5) ?hd (xs := ([] : List Int)) (inner := []) (ok := fun _ => True) (okp := fun _ => True) ?hr ?hp (fun _ hk => hk) trivial (yry _ _) (yqy _) (by simp) ?_; (case hd => rfl); (case hg => rfl); (case hr => first | (go_simp; done) | (go_simp; rfl)); (case hp => exact (QF.none _ _)); intro v102 w2 ho3 hb hg_ hnew_; clear hg_ hnew_; (first | rw [← Ny101.out] at ho3 | (simp only [Int.reduceToNat] at ho3; rw [← Ny101.out] at ho3)); have n0_ := zB.mk (Kd.ZO ho3 (zO (by repeat (first | (with_reducible first | exact HB.out | apply zC | apply zA | apply zD) | exact HB.out)))); have n1_ := zB.mk (zL (by repeat (first | (with_reducible first | exact HB.out | apply zC | apply zA | apply zD) | exact HB.out)) hb); clear HB; have HO103 := n0_; have HB := n1_; clear n0_ n1_; clear hb ho3))
  go_loopg [3, 4] k (fun kq v3 v4 w' => ∃ (x3_1 : List Int) (x4_1 : Int), v4 = .int .i64 x4_1 ∧ zB (qF.l0 kq l0 x3_1 x4_1 = some r) ∧ zB (kq ≤ k) ∧ zB (Kd.R (Kd.int .i64) 2 w' w.heap.size (fun _ => True) v3 x3_1) ∧ zB (Below w.heap.size w w'))
  case atStart => exact ⟨(y101), (0), (by first | rfl | (simp; done) | (simp [*]; done)), H', ⟨yqy _⟩, ⟨by (with_reducible repeat (first | apply Kd.zr | apply Kd.zp | apply Kd.qG)); exact HO103.out⟩, ⟨by repeat (first | (with_reducible first | exact HB.out | apply zC | apply zA | apply zD) | exact HB.out)⟩⟩
  case round =>
    clear H'
    try clear p2
    obtain ⟨x3_1, x4_1, rfl, HA, HK1, HO_3, HB⟩ := hrel
    cases gk with
    | zero => exact absurd HA.out (by simp [qF.l0])
    | succ k1 =>
      have H := HA.out
      clear HA
      simp only [qF.l0] at H
      by_cases c4 : x4_1 < (l0.length : Int)
      · rw [if_pos c4] at H
        have c4b0 : decide (x4_1 < (l0.length : Int)) = true := ygy c4
        clear c4
        by_cases c5 : 0 ≤ x4_1
        · rw [if_pos c5] at H
          have c5b0 : decide (0 ≤ x4_1) = true := ygy c5
          clear c5
          by_cases c6 : (rd l0 x4_1) = 0
          · rw [if_pos c6] at H
            have c6b0 : ((rd l0 x4_1) == 0) = true := beq_iff_eq.mpr c6
            have c6b1 : ((rd l0 x4_1) != 0) = false := bne_eq_false_iff_eq.mpr c6
            clear c6
            have H' := zB.mk H
            clear H
            have p104 : 0 ≤ (x4_1 : Int) := of_decide_eq_true (by first | (with_reducible assumption) | assumption)
            have q104 : x4_1 < (l0.length : Int) := of_decide_eq_true (by first | (with_reducible assumption) | assumption)
            obtain ⟨ad104, e104, hx104_0⟩ := Kd.qu HR0.out x4_1 p104 q104
            cases e104
            replace hx104_0 := (HB.out.cell (ypy w _ hx104_0)).trans hx104_0
            replace p104 := eq_true p104
            replace q104 := eq_true q104
            go_wp2
            go_roundg k1
            case measure => have := HK1.out; omega
            case rel => exact ⟨(x3_1), (wrap64 (x4_1 + 1)), (by first | rfl | (simp; done) | (simp [*]; done)), H', ⟨by have := HK1.out; omega⟩, ⟨by (with_reducible repeat (first | apply Kd.zr | apply Kd.zp | apply Kd.qG)); exact HO_3.out⟩, ⟨by repeat (first | (with_reducible first | exact HB.out | apply zC | apply zA | apply zD) | exact HB.out)⟩⟩
          · rw [if_neg c6] at H
            have c6b0 : ((rd l0 x4_1) == 0) = false := beq_eq_false_iff_ne.mpr c6
            have c6b1 : ((rd l0 x4_1) != 0) = true := bne_iff_ne.mpr c6
            by_cases c7 : x3_1.length < 17592186044416
            · rw [if_pos c7] at H
              have LMc7 := zB.mk c7
              clear c7
              obtain ⟨y105, hy105⟩ : ∃ y_ : List Int, y_ = (x3_1 ++ [x4_1]) := ⟨_, rfl⟩
              replace H : (qF.l0 k1 l0 y105 (wrap64 (x4_1 + 1))) = some r := by first | (rw [hy105]; with_reducible exact H) | (have H2_ := (yfy _ _).symm.trans H; rw [hy105]; with_reducible exact H2_) | (have H2_ := (yfy _ _).symm.trans H; with_reducible exact H2_) | with_reducible exact H | (rw [hy105]; exact H) | exact H
              have Ny105 := zB.mk hy105
              clear hy105
              have H' := zB.mk H
              clear H
              have p104 : 0 ≤ (x4_1 : Int) := of_decide_eq_true (by first | (with_reducible assumption) | assumption)
              have q104 : x4_1 < (l0.length : Int) := of_decide_eq_true (by first | (with_reducible assumption) | assumption)
              obtain ⟨ad104, e104, hx104_0⟩ := Kd.qu HR0.out x4_1 p104 q104
              cases e104
              replace hx104_0 := (HB.out.cell (ypy w _ hx104_0)).trans hx104_0
              replace p104 := eq_true p104
              replace q104 := eq_true q104
              go_wp2_with (first | ((with_reducible refine Zb (b := .append) (xs := #[.tmp 17, .tmp 19]) rfl ?_); at_builtin; refine Kd.JY (Kd.int .i64) (w0 := w) w.heap.size rfl (.tmp 17) (.tmp 19) 25 2 (.int .i64 0) 8 rfl Try.underlying25 JK rfl (by decide) (by omega) u3 x3_1 x4_1 [.int .i64 x4_1] (fun _ => True) (fun _ => False) rfl rfl ?aP (fun _ hk => hk.elim) ?aF ?aO ?aB ?aS ?aL ?_; (case aP => exact rfl); (case aB => exact (by repeat (first | (with_reducible first | exact HB.out | apply zC | apply zA | apply zD) | exact HB.out))); (case aF => exact (fun _ _ => trivial)); (case aO => exact (by (with_reducible repeat (first | apply Kd.zr | apply Kd.zp | apply Kd.qG)); exact HO_3.out)); (case aS => exact (zO (by repeat (first | (with_reducible first | exact HB.out | apply zC | apply zA | apply zD) | exact HB.out)))); (case aL => have := LMc7.out; omega); intro v106 w8 ho hb hg hat; rw [← Ny105.out] at ho; have n0_ := zB.mk (hb); have n1_ := zB.mk (ho); clear HB; clear HO_3; have HB := n0_; have HO107 := n1_; clear n0_ n1_; clear ho hb hg hat))
              go_roundg k1
              case measure => have := HK1.out; omega
              case rel => exact ⟨(y105), (wrap64 (x4_1 + 1)), (by first | rfl | (simp; done) | (simp [*]; done)), H', ⟨by have := HK1.out; omega⟩, ⟨by (with_reducible repeat (first | apply Kd.zr | apply Kd.zp | apply Kd.qG)); exact HO107.out⟩, ⟨by repeat (first | (with_reducible first | exact HB.out | apply zC | apply zA | apply zD) | exact HB.out)⟩⟩
            · rw [if_neg c7] at H
              exact absurd H (by simp)
        · rw [if_neg c5] at H
          exact absurd H (by simp)
      · rw [if_neg c4] at H
        have c4b0 : decide (x4_1 < (l0.length : Int)) = false := yhy c4
        clear c4
        obtain rfl := yey H
        go_wp2
        go_ret
        exact ⟨_, by first | rfl | (simp [zQ, zR] <;> rfl) | (simp [*, zQ, zR] <;> rfl), by (with_reducible repeat (first | apply Kd.zr | apply Kd.zp | apply Kd.qG)); exact HO_3.out, by repeat (first | (with_reducible first | exact HB.out | apply zC | apply zA | apply zD) | exact HB.out)⟩
def qS.l0 : Nat → List Int → List Int → Int → Int → Option (Int)
  | 0, _, _, _, _ => none
  | k + 1, x0, x1, x5, x6 => if x6 < (x0.length : Int) then (if 0 ≤ x6 then (if x6 < (x1.length : Int) then (if (rd x1 x6) > 0 then (if (rd x1 x6) = 0 then (none) else (qS.l0 k x0 x1 (mn x5 (wrap64 (Int.tdiv (rd x0 x6) (rd x1 x6)))) (wrap64 (x6 + 1)))) else (qS.l0 k x0 x1 x5 (wrap64 (x6 + 1)))) else (none)) else (none)) else (some x5)
def qS.f (k : Nat) (l0 : List Int) (l1 : List Int) : Option (Int) := qS.l0 k l0 l1 1000 0
set_option maxHeartbeats 8000000 in
set_option maxRecDepth 100000 in
theorem qS.calls (k : Nat) (A0 : Option Addr) (c0 : Nat) (l0 : List Int) (A1 : Option Addr) (c1 : Nat) (l1 : List Int) (r : Int) (w : World) (hr0 : Kd.C (Kd.int .i64) w A0 l0.length l0) (hc0 : l0.length ≤ c0) (hr1 : Kd.C (Kd.int .i64) w A1 l1.length l1) (hc1 : l1.length ≤ c1) (h : qS.f k l0 l1 = some r) :
    Calls Try.prog 80 #[.slice A0 l0.length c0, .slice A1 l1.length c1] w fun e w' => e = .returned (.int .i64 r) ∧ Below w.heap.size w w' := by
  have HR0 := zB.mk hr0
  have HC0 := zB.mk hc0
  clear hr0 hc0
  have HR1 := zB.mk hr1
  have HC1 := zB.mk hc1
  clear hr1 hc1
  have HB := zB.mk (yry w.heap.size w)
  have H : (qS.l0 k l0 l1 1000 0) = some r := h
  clear h
  have H' := zB.mk H
  clear H
  go_enter Try.func80, Try.ntmps80
  go_wp2
  repeat (go_quiet (fail); try go_wp2)
  go_loopg [5, 6] k (fun kq v5 v6 w' => ∃ (x5_1 : Int) (x6_1 : Int), v5 = .int .i64 x5_1 ∧ v6 = .int .i64 x6_1 ∧ zB (qS.l0 kq l0 l1 x5_1 x6_1 = some r) ∧ zB (kq ≤ k) ∧ zB (Below w.heap.size w w'))
  case atStart => exact ⟨(1000), (0), (by first | rfl | (simp; done) | (simp [*]; done)), (by first | rfl | (simp; done) | (simp [*]; done)), H', ⟨yqy _⟩, ⟨by repeat (first | (with_reducible first | exact HB.out | apply zC | apply zA | apply zD) | exact HB.out)⟩⟩
  case round =>
    clear H'
    try clear c1
    try clear p2
    obtain ⟨x5_1, x6_1, rfl, rfl, HA, HK1, HB⟩ := hrel
    cases gk with
    | zero => exact absurd HA.out (by simp [qS.l0])
    | succ k1 =>
      have H := HA.out
      clear HA
      simp only [qS.l0] at H
      by_cases c3 : x6_1 < (l0.length : Int)
      · rw [if_pos c3] at H
        have c3b0 : decide (x6_1 < (l0.length : Int)) = true := ygy c3
        clear c3
        by_cases c4 : 0 ≤ x6_1
        · rw [if_pos c4] at H
          have c4b0 : decide (0 ≤ x6_1) = true := ygy c4
          clear c4
          by_cases c5 : x6_1 < (l1.length : Int)
          · rw [if_pos c5] at H
            have c5b0 : decide (x6_1 < (l1.length : Int)) = true := ygy c5
            clear c5
            by_cases c6 : (rd l1 x6_1) > 0
            · rw [if_pos c6] at H
              have c6b0 : decide (0 < (rd l1 x6_1)) = true := ygy c6
              clear c6
              by_cases c7 : (rd l1 x6_1) = 0
              · rw [if_pos c7] at H
                exact absurd H (by simp)
              · rw [if_neg c7] at H
                have c7b0 : ((rd l1 x6_1) == 0) = false := beq_eq_false_iff_ne.mpr c7
                have c7b1 : ((rd l1 x6_1) != 0) = true := bne_iff_ne.mpr c7
                obtain ⟨ji8, hji8⟩ : ∃ j_ : Int, (mn x5_1 (wrap64 (Int.tdiv (rd l0 x6_1) (rd l1 x6_1)))) = j_ := ⟨_, rfl⟩
                replace H : (qS.l0 k1 l0 l1 ji8 (wrap64 (x6_1 + 1))) = some r := by first | (rw [hji8] at H; exact H) | (simp only [hji8] at H ⊢; exact H)
                have hji8_ : (if (wrap64 (Int.tdiv (rd l0 x6_1) (rd l1 x6_1))) < x5_1 then (wrap64 (Int.tdiv (rd l0 x6_1) (rd l1 x6_1))) else x5_1) = ji8 := hji8
                have H' := zB.mk H
                clear H
                have p101 : 0 ≤ (x6_1 : Int) := of_decide_eq_true (by first | (with_reducible assumption) | assumption)
                have q101 : x6_1 < (l1.length : Int) := of_decide_eq_true (by first | (with_reducible assumption) | assumption)
                obtain ⟨ad101, e101, hx101_0⟩ := Kd.qu HR1.out x6_1 p101 q101
                cases e101
                replace hx101_0 := (HB.out.cell (ypy w _ hx101_0)).trans hx101_0
                replace p101 := eq_true p101
                replace q101 := eq_true q101
                have p102 : 0 ≤ (x6_1 : Int) := of_decide_eq_true (by first | (with_reducible assumption) | assumption)
                have q102 : x6_1 < (l0.length : Int) := of_decide_eq_true (by first | (with_reducible assumption) | assumption)
                obtain ⟨ad102, e102, hx102_0⟩ := Kd.qu HR0.out x6_1 p102 q102
                cases e102
                replace hx102_0 := (HB.out.cell (ypy w _ hx102_0)).trans hx102_0
                replace p102 := eq_true p102
                replace q102 := eq_true q102
                have p103 : 0 ≤ (x6_1 : Int) := of_decide_eq_true (by first | (with_reducible assumption) | assumption)
                have q103 : x6_1 < (l1.length : Int) := of_decide_eq_true (by first | (with_reducible assumption) | assumption)
                obtain ⟨ad103, e103, hx103_0⟩ := Kd.qu HR1.out x6_1 p103 q103
                obtain rfl : ad101 = ad103 := (by injection e103)
                replace hx103_0 := (HB.out.cell (ypy w _ hx103_0)).trans hx103_0
                replace p103 := eq_true p103
                replace q103 := eq_true q103
                go_wp2
                repeat (go_quiet (fail); try go_wp2)
                go_roundg k1
                case measure => have := HK1.out; omega
                case rel => exact ⟨(ji8), (wrap64 (x6_1 + 1)), (by first | rfl | (simp; done) | (simp only [← hji8] <;> (first | rfl | simp)) | (simp [*]; done)), (by first | rfl | (simp; done) | (simp [*]; done)), H', ⟨by have := HK1.out; omega⟩, ⟨by repeat (first | (with_reducible first | exact HB.out | apply zC | apply zA | apply zD) | exact HB.out)⟩⟩
            · rw [if_neg c6] at H
              have c6b0 : decide (0 < (rd l1 x6_1)) = false := yhy c6
              clear c6
              have H' := zB.mk H
              clear H
              have p101 : 0 ≤ (x6_1 : Int) := of_decide_eq_true (by first | (with_reducible assumption) | assumption)
              have q101 : x6_1 < (l1.length : Int) := of_decide_eq_true (by first | (with_reducible assumption) | assumption)
              obtain ⟨ad101, e101, hx101_0⟩ := Kd.qu HR1.out x6_1 p101 q101
              cases e101
              replace hx101_0 := (HB.out.cell (ypy w _ hx101_0)).trans hx101_0
              replace p101 := eq_true p101
              replace q101 := eq_true q101
              go_wp2
              repeat (go_quiet (fail); try go_wp2)
              go_roundg k1
              case measure => have := HK1.out; omega
              case rel => exact ⟨(x5_1), (wrap64 (x6_1 + 1)), (by first | rfl | (simp; done) | (simp [*]; done)), (by first | rfl | (simp; done) | (simp [*]; done)), H', ⟨by have := HK1.out; omega⟩, ⟨by repeat (first | (with_reducible first | exact HB.out | apply zC | apply zA | apply zD) | exact HB.out)⟩⟩
          · rw [if_neg c5] at H
            exact absurd H (by simp)
        · rw [if_neg c4] at H
          exact absurd H (by simp)
      · rw [if_neg c3] at H
        have c3b0 : decide (x6_1 < (l0.length : Int)) = false := yhy c3
        clear c3
        obtain rfl := yey H
        go_wp2
        repeat (go_quiet (fail); try go_wp2)
        go_ret
        exact ⟨by first | rfl | (simp [zQ, zR] <;> rfl) | (simp [*, zQ, zR] <;> rfl), by repeat (first | (with_reducible first | exact HB.out | apply zC | apply zA | apply zD) | exact HB.out)⟩
def Zh.f (k : Nat) (l0_0 : List (List (qI))) (l1 : List Int) (l2 : List Int) : Option (Int × Int) := (qz.f k l0_0).bind fun t102 => (if t102 = 0 then ((qO.f k l0_0 l1).bind fun t103 => (if t103 = true then ((qO.f k l0_0 l2).bind fun t104 => (if t104 = true then ((qF.f k l2).bind fun t105 => (if (t105.length : Int) = 0 then (some (0, 5)) else ((qS.f k l1 l2).bind fun t108 => (some (t108, 0))))) else (some (0, 5)))) else (some (0, 5)))) else (some (0, t102)))
set_option maxHeartbeats 8000000 in
set_option maxRecDepth 100000 in
theorem Zh.calls (k : Nat) (A0_0 : Option Addr) (c0_0 : Nat) (l0_0 : List (List (qI))) (A1 : Option Addr) (c1 : Nat) (l1 : List Int) (A2 : Option Addr) (c2 : Nat) (l2 : List Int) (r1 : Int) (r2 : Int) (w : World) (hr0_0 : Kd.C (Kd.slice 115 ZP) w A0_0 l0_0.length l0_0) (hc0_0 : l0_0.length ≤ c0_0) (hr1 : Kd.C (Kd.int .i64) w A1 l1.length l1) (hc1 : l1.length ≤ c1) (hr2 : Kd.C (Kd.int .i64) w A2 l2.length l2) (hc2 : l2.length ≤ c2) (h : Zh.f k l0_0 l1 l2 = some (r1, r2)) :
 Calls Try.prog 38 #[.agg #[.slice A0_0 l0_0.length c0_0], .slice A1 l1.length c1, .slice A2 l2.length c2] w fun e w' => e = .returned (.tuple #[.int .i64 r1, .int .i64 r2]) ∧ Below w.heap.size w w' := by
 have hu30 := Try.underlying30
 have HR0_0 := zB.mk hr0_0
 have HC0_0 := zB.mk hc0_0
 clear hr0_0 hc0_0
 have HR1 := zB.mk hr1
 have HC1 := zB.mk hc1
 clear hr1 hc1
 have HR2 := zB.mk hr2
 have HC2 := zB.mk hc2
 clear hr2 hc2
 have HB := zB.mk (yry w.heap.size w)
 have H : ((qz.f k l0_0).bind fun t102 => (if t102 = 0 then ((qO.f k l0_0 l1).bind fun t103 => (if t103 = true then ((qO.f k l0_0 l2).bind fun t104 => (if t104 = true then ((qF.f k l2).bind fun t105 => (if (t105.length : Int) = 0 then (some (0, 5)) else ((qS.f k l1 l2).bind fun t108 => (some (t108, 0))))) else (some (0, 5)))) else (some (0, 5)))) else (some (0, t102)))) = some (r1, r2) := h
 clear h
 replace H := ydy.mp H
 obtain ⟨t102, A40, H⟩ := H
 replace H : (if t102 = 0 then ((qO.f k l0_0 l1).bind fun t103 => (if t103 = true then ((qO.f k l0_0 l2).bind fun t104 => (if t104 = true then ((qF.f k l2).bind fun t105 => (if (t105.length : Int) = 0 then (some (0, 5)) else ((qS.f k l1 l2).bind fun t108 => (some (t108, 0))))) else (some (0, 5)))) else (some (0, 5)))) else (some (0, t102))) = some (r1, r2) := H
 have A4 := zB.mk A40
 clear A40
 by_cases c5 : t102 = 0
 next =>
  rw [if_pos c5] at H
  have c5b0 : (t102 == 0) = true := beq_iff_eq.mpr c5
  have c5b1 : (t102 != 0) = false := bne_eq_false_iff_eq.mpr c5
  clear c5
  replace H := ydy.mp H
  obtain ⟨t103, A60, H⟩ := H
  replace H : (if t103 = true then ((qO.f k l0_0 l2).bind fun t104 => (if t104 = true then ((qF.f k l2).bind fun t105 => (if (t105.length : Int) = 0 then (some (0, 5)) else ((qS.f k l1 l2).bind fun t108 => (some (t108, 0))))) else (some (0, 5)))) else (some (0, 5))) = some (r1, r2) := H
  have A6 := zB.mk A60
  clear A60
  by_cases c7 : t103 = true
  next =>
   subst c7
   have H1 : ((qO.f k l0_0 l2).bind fun t104 => (if t104 = true then ((qF.f k l2).bind fun t105 => (if (t105.length : Int) = 0 then (some (0, 5)) else ((qS.f k l1 l2).bind fun t108 => (some (t108, 0))))) else (some (0, 5)))) = some (r1, r2) := by rw [if_pos rfl] at H; exact H
   clear H
   have H := H1
   clear H1
   replace H := ydy.mp H
   obtain ⟨t104, A80, H⟩ := H
   replace H : (if t104 = true then ((qF.f k l2).bind fun t105 => (if (t105.length : Int) = 0 then (some (0, 5)) else ((qS.f k l1 l2).bind fun t108 => (some (t108, 0))))) else (some (0, 5))) = some (r1, r2) := H
   have A8 := zB.mk A80
   clear A80
   by_cases c9 : t104 = true
   next =>
    subst c9
    have H1 : ((qF.f k l2).bind fun t105 => (if (t105.length : Int) = 0 then (some (0, 5)) else ((qS.f k l1 l2).bind fun t108 => (some (t108, 0))))) = some (r1, r2) := by rw [if_pos rfl] at H; exact H
    clear H
    have H := H1
    clear H1
    replace H := ydy.mp H
    obtain ⟨t105, A100, H⟩ := H
    replace H : (if (t105.length : Int) = 0 then (some (0, 5)) else ((qS.f k l1 l2).bind fun t108 => (some (t108, 0)))) = some (r1, r2) := H
    have A10 := zB.mk A100
    clear A100
    by_cases c11 : (t105.length : Int) = 0
    next =>
     rw [if_pos c11] at H
     have c11b0 : ((t105.length : Int) == 0) = true := beq_iff_eq.mpr c11
     have c11b1 : ((t105.length : Int) != 0) = false := bne_eq_false_iff_eq.mpr c11
     clear c11
     simp only [Option.some.injEq, Prod.mk.injEq] at H
     obtain ⟨rfl, rfl⟩ := H
     go_enter Try.func38, Try.ntmps38
     go_wp2_with (first | ((with_reducible refine zj (N := 3) rfl ?_); (try (refine QY (by rfl) ?_; dsimp only)); refine zg ?hg (N := 3) ?hd (cs := #[.slice A0_0 l0_0.length c0_0]) (t := 30) ?hr ?_; (case hd => rfl); (case hg => rfl); (case hr => first | (go_simp; done) | (go_simp; rfl)); intro gb101 hg w12 hbox hb; have n0_ := zB.mk (zL (by repeat (first | (with_reducible first | exact HB.out | apply zC | apply zA | apply zD) | exact HB.out)) hb); have n1_ := zB.mk (hbox); have n2_ := zB.mk ((by rw [hg]; exact (zO (by repeat (first | (with_reducible first | exact HB.out | apply zC | apply zA | apply zD) | exact HB.out))) : w.heap.size ≤ gb101)); have n3_ := zB.mk ((by rw [hg]; exact (zO (by repeat (first | (with_reducible first | exact HB.out | apply zC | apply zA | apply zD) | exact HB.out))) : w.heap.size ≤ gb101)); clear HB; have HB := n0_; have BK101 := n1_; have GW101 := n2_; have GE101 := n3_; clear n0_ n1_ n2_ n3_; clear hb hbox hg; have hcz13_0 : w12.cell? ⟨gb101, 0, none⟩ = some (.slice A0_0 l0_0.length c0_0) := (zM BK101.out 0).trans rfl; have hfz13_0 := zN BK101.out 0) | ((with_reducible refine zU (f := 58) rfl ?_); refine qH (some 10) rfl rfl Try.func58 (by kernel_rfl) rfl #[.agg #[.slice A0_0 l0_0.length c0_0]] rfl (by (try simp only [yiy, yjy, yky]); first | done | rfl | (simp only [yly, ymy]; rfl)) ?_; (with_reducible refine (qz.calls k _ _ l0_0 t102 _ ?side1 ?side2 A4.out).mono ?_); (case side1 => repeat (first | exact (Kd.zY HR0_0.out HB.out) | (with_reducible refine Kd.zZ ?_ _) | (with_reducible refine Kd.za ?_ _) | (with_reducible refine Kd.zh ?_))); (case side2 => exact HC0_0.out); rintro e w14 ⟨rfl, hb⟩; refine ⟨_, rfl, ?_⟩; have n0_ := zB.mk (zP (g := gb101) (o := .cells #[.slice A0_0 l0_0.length c0_0] 30 (0, 0)) (by (with_reducible repeat (first | refine zI ?_ _ | refine zJ ?_ | refine zG ?_ _)); exact BK101.out) hb); have n1_ := zB.mk (zL (by repeat (first | (with_reducible first | exact HB.out | apply zC | apply zA | apply zD | refine zF ?_ GE101.out) | exact HB.out)) hb); clear BK101; clear HB; have BK101 := n0_; have HB := n1_; clear n0_ n1_; (try clear hb); (try clear hb2); (try clear hk); (try clear hi); have hcz15_0 : w14.cell? ⟨gb101, 0, none⟩ = some (.slice A0_0 l0_0.length c0_0) := (zM BK101.out 0).trans rfl; have hfz15_0 := zN BK101.out 0) | ((with_reducible refine zU (f := 28) rfl ?_); refine qH (some 16) rfl rfl Try.func28 (by kernel_rfl) rfl #[.agg #[.slice A0_0 l0_0.length c0_0], .slice A1 l1.length c1] rfl (by (try simp only [yiy, yjy, yky]); first | done | rfl | (simp only [yly, ymy]; rfl)) ?_; (with_reducible refine (qO.calls k _ _ l0_0 _ _ l1 true _ ?side1 ?side2 ?side3 ?side4 A6.out).mono ?_); (case side1 => repeat (first | exact (Kd.zY HR0_0.out HB.out) | (with_reducible refine Kd.zZ ?_ _) | (with_reducible refine Kd.za ?_ _) | (with_reducible refine Kd.zh ?_))); (case side2 => exact HC0_0.out); (case side3 => repeat (first | exact (Kd.zY HR1.out HB.out) | (with_reducible refine Kd.zZ ?_ _) | (with_reducible refine Kd.za ?_ _) | (with_reducible refine Kd.zh ?_))); (case side4 => exact HC1.out); rintro e w16 ⟨rfl, hb⟩; refine ⟨_, rfl, ?_⟩; have n0_ := zB.mk (zP (g := gb101) (o := .cells #[.slice A0_0 l0_0.length c0_0] 30 (0, 0)) (by (with_reducible repeat (first | refine zI ?_ _ | refine zJ ?_ | refine zG ?_ _)); exact BK101.out) hb); have n1_ := zB.mk (zL (by repeat (first | (with_reducible first | exact HB.out | apply zC | apply zA | apply zD | refine zF ?_ GE101.out) | exact HB.out)) hb); clear BK101; clear HB; have BK101 := n0_; have HB := n1_; clear n0_ n1_; (try clear hb); (try clear hb2); (try clear hk); (try clear hi); have hcz17_0 : w16.cell? ⟨gb101, 0, none⟩ = some (.slice A0_0 l0_0.length c0_0) := (zM BK101.out 0).trans rfl; have hfz17_0 := zN BK101.out 0) | (go_at_call 28; (with_reducible refine (qO.calls k _ _ l0_0 _ _ l2 true _ ?side1 ?side2 ?side3 ?side4 A8.out).mono ?_); (case side1 => repeat (first | exact (Kd.zY HR0_0.out HB.out) | (with_reducible refine Kd.zZ ?_ _) | (with_reducible refine Kd.za ?_ _) | (with_reducible refine Kd.zh ?_))); (case side2 => exact HC0_0.out); (case side3 => repeat (first | exact (Kd.zY HR2.out HB.out) | (with_reducible refine Kd.zZ ?_ _) | (with_reducible refine Kd.za ?_ _) | (with_reducible refine Kd.zh ?_))); (case side4 => exact HC2.out); rintro e w18 ⟨rfl, hb⟩; have n0_ := zB.mk (zP (g := gb101) (o := .cells #[.slice A0_0 l0_0.length c0_0] 30 (0, 0)) (by (with_reducible repeat (first | refine zI ?_ _ | refine zJ ?_ | refine zG ?_ _)); exact BK101.out) hb); have n1_ := zB.mk (zL (by repeat (first | (with_reducible first | exact HB.out | apply zC | apply zA | apply zD | refine zF ?_ GE101.out) | exact HB.out)) hb); clear BK101; clear HB; have BK101 := n0_; have HB := n1_; clear n0_ n1_; (try clear hb); (try clear hb2); (try clear hk); (try clear hi)) | (go_at_call 79; (with_reducible refine (qF.calls k _ _ l2 t105 _ ?side1 ?side2 A10.out).mono ?_); (case side1 => repeat (first | exact (Kd.zY HR2.out HB.out) | (with_reducible refine Kd.zZ ?_ _) | (with_reducible refine Kd.za ?_ _) | (with_reducible refine Kd.zh ?_))); (case side2 => exact HC2.out); rintro e w19 ⟨v106, rfl, ho0, hb⟩; have n0_ := zB.mk (Kd.ZO ho0 (zO (by repeat (first | (with_reducible first | exact HB.out | apply zC | apply zA | apply zD | refine zF ?_ GE101.out) | exact HB.out)))); have n1_ := zB.mk (zP (g := gb101) (o := .cells #[.slice A0_0 l0_0.length c0_0] 30 (0, 0)) (by (with_reducible repeat (first | refine zI ?_ _ | refine zJ ?_ | refine zG ?_ _)); exact BK101.out) hb); have n2_ := zB.mk (zL (by repeat (first | (with_reducible first | exact HB.out | apply zC | apply zA | apply zD | refine zF ?_ GE101.out) | exact HB.out)) hb); clear BK101; clear HB; have HO107 := n0_; have BK101 := n1_; have HB := n2_; clear n0_ n1_ n2_; (try clear hb); (try clear hb2); (try clear hk); (try clear hi); (try clear ho0); obtain ⟨Ao20, co20, eo20⟩ := Kd.Zc HO107.out; subst eo20))
     go_ret2
     exact ⟨by first | rfl | (simp [zQ, zR] <;> rfl) | (simp [*, zQ, zR] <;> rfl), by repeat (first | (with_reducible first | exact HB.out | apply zC | apply zA | apply zD | refine zF ?_ GE101.out) | exact HB.out)⟩
    next =>
     rw [if_neg c11] at H
     have c11b0 : ((t105.length : Int) == 0) = false := beq_eq_false_iff_ne.mpr c11
     have c11b1 : ((t105.length : Int) != 0) = true := bne_iff_ne.mpr c11
     have c11b2 : ¬ (t105 = []) := fun h_ => c11 (by rw [h_]; rfl)
     replace H := ydy.mp H
     obtain ⟨t108, A210, H⟩ := H
     replace H : (some (t108, 0)) = some (r1, r2) := H
     have A21 := zB.mk A210
     clear A210
     simp only [Option.some.injEq, Prod.mk.injEq] at H
     obtain ⟨rfl, rfl⟩ := H
     go_enter Try.func38, Try.ntmps38
     go_wp2_with (first | ((with_reducible refine zj (N := 3) rfl ?_); (try (refine QY (by rfl) ?_; dsimp only)); refine zg ?hg (N := 3) ?hd (cs := #[.slice A0_0 l0_0.length c0_0]) (t := 30) ?hr ?_; (case hd => rfl); (case hg => rfl); (case hr => first | (go_simp; done) | (go_simp; rfl)); intro gb101 hg w22 hbox hb; have n0_ := zB.mk (zL (by repeat (first | (with_reducible first | exact HB.out | apply zC | apply zA | apply zD) | exact HB.out)) hb); have n1_ := zB.mk (hbox); have n2_ := zB.mk ((by rw [hg]; exact (zO (by repeat (first | (with_reducible first | exact HB.out | apply zC | apply zA | apply zD) | exact HB.out))) : w.heap.size ≤ gb101)); have n3_ := zB.mk ((by rw [hg]; exact (zO (by repeat (first | (with_reducible first | exact HB.out | apply zC | apply zA | apply zD) | exact HB.out))) : w.heap.size ≤ gb101)); clear HB; have HB := n0_; have BK101 := n1_; have GW101 := n2_; have GE101 := n3_; clear n0_ n1_ n2_ n3_; clear hb hbox hg; have hcz23_0 : w22.cell? ⟨gb101, 0, none⟩ = some (.slice A0_0 l0_0.length c0_0) := (zM BK101.out 0).trans rfl; have hfz23_0 := zN BK101.out 0) | ((with_reducible refine zU (f := 58) rfl ?_); refine qH (some 10) rfl rfl Try.func58 (by kernel_rfl) rfl #[.agg #[.slice A0_0 l0_0.length c0_0]] rfl (by (try simp only [yiy, yjy, yky]); first | done | rfl | (simp only [yly, ymy]; rfl)) ?_; (with_reducible refine (qz.calls k _ _ l0_0 t102 _ ?side1 ?side2 A4.out).mono ?_); (case side1 => repeat (first | exact (Kd.zY HR0_0.out HB.out) | (with_reducible refine Kd.zZ ?_ _) | (with_reducible refine Kd.za ?_ _) | (with_reducible refine Kd.zh ?_))); (case side2 => exact HC0_0.out); rintro e w24 ⟨rfl, hb⟩; refine ⟨_, rfl, ?_⟩; have n0_ := zB.mk (zP (g := gb101) (o := .cells #[.slice A0_0 l0_0.length c0_0] 30 (0, 0)) (by (with_reducible repeat (first | refine zI ?_ _ | refine zJ ?_ | refine zG ?_ _)); exact BK101.out) hb); have n1_ := zB.mk (zL (by repeat (first | (with_reducible first | exact HB.out | apply zC | apply zA | apply zD | refine zF ?_ GE101.out) | exact HB.out)) hb); clear BK101; clear HB; have BK101 := n0_; have HB := n1_; clear n0_ n1_; (try clear hb); (try clear hb2); (try clear hk); (try clear hi); have hcz25_0 : w24.cell? ⟨gb101, 0, none⟩ = some (.slice A0_0 l0_0.length c0_0) := (zM BK101.out 0).trans rfl; have hfz25_0 := zN BK101.out 0) | ((with_reducible refine zU (f := 28) rfl ?_); refine qH (some 16) rfl rfl Try.func28 (by kernel_rfl) rfl #[.agg #[.slice A0_0 l0_0.length c0_0], .slice A1 l1.length c1] rfl (by (try simp only [yiy, yjy, yky]); first | done | rfl | (simp only [yly, ymy]; rfl)) ?_; (with_reducible refine (qO.calls k _ _ l0_0 _ _ l1 true _ ?side1 ?side2 ?side3 ?side4 A6.out).mono ?_); (case side1 => repeat (first | exact (Kd.zY HR0_0.out HB.out) | (with_reducible refine Kd.zZ ?_ _) | (with_reducible refine Kd.za ?_ _) | (with_reducible refine Kd.zh ?_))); (case side2 => exact HC0_0.out); (case side3 => repeat (first | exact (Kd.zY HR1.out HB.out) | (with_reducible refine Kd.zZ ?_ _) | (with_reducible refine Kd.za ?_ _) | (with_reducible refine Kd.zh ?_))); (case side4 => exact HC1.out); rintro e w26 ⟨rfl, hb⟩; refine ⟨_, rfl, ?_⟩; have n0_ := zB.mk (zP (g := gb101) (o := .cells #[.slice A0_0 l0_0.length c0_0] 30 (0, 0)) (by (with_reducible repeat (first | refine zI ?_ _ | refine zJ ?_ | refine zG ?_ _)); exact BK101.out) hb); have n1_ := zB.mk (zL (by repeat (first | (with_reducible first | exact HB.out | apply zC | apply zA | apply zD | refine zF ?_ GE101.out) | exact HB.out)) hb); clear BK101; clear HB; have BK101 := n0_; have HB := n1_; clear n0_ n1_; (try clear hb); (try clear hb2); (try clear hk); (try clear hi); have hcz27_0 : w26.cell? ⟨gb101, 0, none⟩ = some (.slice A0_0 l0_0.length c0_0) := (zM BK101.out 0).trans rfl; have hfz27_0 := zN BK101.out 0) | (go_at_call 28; (with_reducible refine (qO.calls k _ _ l0_0 _ _ l2 true _ ?side1 ?side2 ?side3 ?side4 A8.out).mono ?_); (case side1 => repeat (first | exact (Kd.zY HR0_0.out HB.out) | (with_reducible refine Kd.zZ ?_ _) | (with_reducible refine Kd.za ?_ _) | (with_reducible refine Kd.zh ?_))); (case side2 => exact HC0_0.out); (case side3 => repeat (first | exact (Kd.zY HR2.out HB.out) | (with_reducible refine Kd.zZ ?_ _) | (with_reducible refine Kd.za ?_ _) | (with_reducible refine Kd.zh ?_))); (case side4 => exact HC2.out); rintro e w28 ⟨rfl, hb⟩; have n0_ := zB.mk (zP (g := gb101) (o := .cells #[.slice A0_0 l0_0.length c0_0] 30 (0, 0)) (by (with_reducible repeat (first | refine zI ?_ _ | refine zJ ?_ | refine zG ?_ _)); exact BK101.out) hb); have n1_ := zB.mk (zL (by repeat (first | (with_reducible first | exact HB.out | apply zC | apply zA | apply zD | refine zF ?_ GE101.out) | exact HB.out)) hb); clear BK101; clear HB; have BK101 := n0_; have HB := n1_; clear n0_ n1_; (try clear hb); (try clear hb2); (try clear hk); (try clear hi)) | (go_at_call 79; (with_reducible refine (qF.calls k _ _ l2 t105 _ ?side1 ?side2 A10.out).mono ?_); (case side1 => repeat (first | exact (Kd.zY HR2.out HB.out) | (with_reducible refine Kd.zZ ?_ _) | (with_reducible refine Kd.za ?_ _) | (with_reducible refine Kd.zh ?_))); (case side2 => exact HC2.out); rintro e w29 ⟨v106, rfl, ho0, hb⟩; have n0_ := zB.mk (Kd.ZO ho0 (zO (by repeat (first | (with_reducible first | exact HB.out | apply zC | apply zA | apply zD | refine zF ?_ GE101.out) | exact HB.out)))); have n1_ := zB.mk (zP (g := gb101) (o := .cells #[.slice A0_0 l0_0.length c0_0] 30 (0, 0)) (by (with_reducible repeat (first | refine zI ?_ _ | refine zJ ?_ | refine zG ?_ _)); exact BK101.out) hb); have n2_ := zB.mk (zL (by repeat (first | (with_reducible first | exact HB.out | apply zC | apply zA | apply zD | refine zF ?_ GE101.out) | exact HB.out)) hb); clear BK101; clear HB; have HO107 := n0_; have BK101 := n1_; have HB := n2_; clear n0_ n1_ n2_; (try clear hb); (try clear hb2); (try clear hk); (try clear hi); (try clear ho0); obtain ⟨Ao30, co30, eo30⟩ := Kd.Zc HO107.out; subst eo30) | ((with_reducible refine zU (f := 80) rfl ?_); refine qH (some 32) rfl rfl Try.func80 (by kernel_rfl) rfl #[.slice A1 l1.length c1, .slice A2 l2.length c2] rfl (by (try simp only [yiy, yjy, yky]); first | done | rfl | (simp only [yly, ymy]; rfl)) ?_; (with_reducible refine (qS.calls k _ _ l1 _ _ l2 t108 _ ?side1 ?side2 ?side3 ?side4 A21.out).mono ?_); (case side1 => repeat (first | exact (Kd.zY HR1.out HB.out) | (with_reducible refine Kd.zZ ?_ _) | (with_reducible refine Kd.za ?_ _) | (with_reducible refine Kd.zh ?_))); (case side2 => exact HC1.out); (case side3 => repeat (first | exact (Kd.zY HR2.out HB.out) | (with_reducible refine Kd.zZ ?_ _) | (with_reducible refine Kd.za ?_ _) | (with_reducible refine Kd.zh ?_))); (case side4 => exact HC2.out); rintro e w31 ⟨rfl, hb⟩; refine ⟨_, rfl, ?_⟩; have n0_ := zB.mk (Kd.Ze (by (with_reducible repeat (first | apply Kd.zr | apply Kd.zp | apply Kd.qG)); exact HO107.out) hb); have n1_ := zB.mk (zP (g := gb101) (o := .cells #[.slice A0_0 l0_0.length c0_0] 30 (0, 0)) (by (with_reducible repeat (first | refine zI ?_ _ | refine zJ ?_ | refine zG ?_ _)); exact BK101.out) hb); have n2_ := zB.mk (zL (by repeat (first | (with_reducible first | exact HB.out | apply zC | apply zA | apply zD | refine zF ?_ GE101.out) | exact HB.out)) hb); clear HO107; clear BK101; clear HB; have HO107 := n0_; have BK101 := n1_; have HB := n2_; clear n0_ n1_ n2_; (try clear hb); (try clear hb2); (try clear hk); (try clear hi)))
     go_ret2
     exact ⟨by first | rfl | (simp [zQ, zR] <;> rfl) | (simp [*, zQ, zR] <;> rfl), by repeat (first | (with_reducible first | exact HB.out | apply zC | apply zA | apply zD | refine zF ?_ GE101.out) | exact HB.out)⟩
   next =>
    replace c9 := Bool.eq_false_iff.mpr c9
    subst c9
    have H1 : (some (0, 5)) = some (r1, r2) := by rw [if_neg (show ¬ (false = true) by decide)] at H; exact H
    clear H
    have H := H1
    clear H1
    simp only [Option.some.injEq, Prod.mk.injEq] at H
    obtain ⟨rfl, rfl⟩ := H
    go_enter Try.func38, Try.ntmps38
    go_wp2_with (first | ((with_reducible refine zj (N := 3) rfl ?_); (try (refine QY (by rfl) ?_; dsimp only)); refine zg ?hg (N := 3) ?hd (cs := #[.slice A0_0 l0_0.length c0_0]) (t := 30) ?hr ?_; (case hd => rfl); (case hg => rfl); (case hr => first | (go_simp; done) | (go_simp; rfl)); intro gb101 hg w32 hbox hb; have n0_ := zB.mk (zL (by repeat (first | (with_reducible first | exact HB.out | apply zC | apply zA | apply zD) | exact HB.out)) hb); have n1_ := zB.mk (hbox); have n2_ := zB.mk ((by rw [hg]; exact (zO (by repeat (first | (with_reducible first | exact HB.out | apply zC | apply zA | apply zD) | exact HB.out))) : w.heap.size ≤ gb101)); have n3_ := zB.mk ((by rw [hg]; exact (zO (by repeat (first | (with_reducible first | exact HB.out | apply zC | apply zA | apply zD) | exact HB.out))) : w.heap.size ≤ gb101)); clear HB; have HB := n0_; have BK101 := n1_; have GW101 := n2_; have GE101 := n3_; clear n0_ n1_ n2_ n3_; clear hb hbox hg; have hcz33_0 : w32.cell? ⟨gb101, 0, none⟩ = some (.slice A0_0 l0_0.length c0_0) := (zM BK101.out 0).trans rfl; have hfz33_0 := zN BK101.out 0) | ((with_reducible refine zU (f := 58) rfl ?_); refine qH (some 10) rfl rfl Try.func58 (by kernel_rfl) rfl #[.agg #[.slice A0_0 l0_0.length c0_0]] rfl (by (try simp only [yiy, yjy, yky]); first | done | rfl | (simp only [yly, ymy]; rfl)) ?_; (with_reducible refine (qz.calls k _ _ l0_0 t102 _ ?side1 ?side2 A4.out).mono ?_); (case side1 => repeat (first | exact (Kd.zY HR0_0.out HB.out) | (with_reducible refine Kd.zZ ?_ _) | (with_reducible refine Kd.za ?_ _) | (with_reducible refine Kd.zh ?_))); (case side2 => exact HC0_0.out); rintro e w34 ⟨rfl, hb⟩; refine ⟨_, rfl, ?_⟩; have n0_ := zB.mk (zP (g := gb101) (o := .cells #[.slice A0_0 l0_0.length c0_0] 30 (0, 0)) (by (with_reducible repeat (first | refine zI ?_ _ | refine zJ ?_ | refine zG ?_ _)); exact BK101.out) hb); have n1_ := zB.mk (zL (by repeat (first | (with_reducible first | exact HB.out | apply zC | apply zA | apply zD | refine zF ?_ GE101.out) | exact HB.out)) hb); clear BK101; clear HB; have BK101 := n0_; have HB := n1_; clear n0_ n1_; (try clear hb); (try clear hb2); (try clear hk); (try clear hi); have hcz35_0 : w34.cell? ⟨gb101, 0, none⟩ = some (.slice A0_0 l0_0.length c0_0) := (zM BK101.out 0).trans rfl; have hfz35_0 := zN BK101.out 0) | ((with_reducible refine zU (f := 28) rfl ?_); refine qH (some 16) rfl rfl Try.func28 (by kernel_rfl) rfl #[.agg #[.slice A0_0 l0_0.length c0_0], .slice A1 l1.length c1] rfl (by (try simp only [yiy, yjy, yky]); first | done | rfl | (simp only [yly, ymy]; rfl)) ?_; (with_reducible refine (qO.calls k _ _ l0_0 _ _ l1 true _ ?side1 ?side2 ?side3 ?side4 A6.out).mono ?_); (case side1 => repeat (first | exact (Kd.zY HR0_0.out HB.out) | (with_reducible refine Kd.zZ ?_ _) | (with_reducible refine Kd.za ?_ _) | (with_reducible refine Kd.zh ?_))); (case side2 => exact HC0_0.out); (case side3 => repeat (first | exact (Kd.zY HR1.out HB.out) | (with_reducible refine Kd.zZ ?_ _) | (with_reducible refine Kd.za ?_ _) | (with_reducible refine Kd.zh ?_))); (case side4 => exact HC1.out); rintro e w36 ⟨rfl, hb⟩; refine ⟨_, rfl, ?_⟩; have n0_ := zB.mk (zP (g := gb101) (o := .cells #[.slice A0_0 l0_0.length c0_0] 30 (0, 0)) (by (with_reducible repeat (first | refine zI ?_ _ | refine zJ ?_ | refine zG ?_ _)); exact BK101.out) hb); have n1_ := zB.mk (zL (by repeat (first | (with_reducible first | exact HB.out | apply zC | apply zA | apply zD | refine zF ?_ GE101.out) | exact HB.out)) hb); clear BK101; clear HB; have BK101 := n0_; have HB := n1_; clear n0_ n1_; (try clear hb); (try clear hb2); (try clear hk); (try clear hi); have hcz37_0 : w36.cell? ⟨gb101, 0, none⟩ = some (.slice A0_0 l0_0.length c0_0) := (zM BK101.out 0).trans rfl; have hfz37_0 := zN BK101.out 0) | (go_at_call 28; (with_reducible refine (qO.calls k _ _ l0_0 _ _ l2 false _ ?side1 ?side2 ?side3 ?side4 A8.out).mono ?_); (case side1 => repeat (first | exact (Kd.zY HR0_0.out HB.out) | (with_reducible refine Kd.zZ ?_ _) | (with_reducible refine Kd.za ?_ _) | (with_reducible refine Kd.zh ?_))); (case side2 => exact HC0_0.out); (case side3 => repeat (first | exact (Kd.zY HR2.out HB.out) | (with_reducible refine Kd.zZ ?_ _) | (with_reducible refine Kd.za ?_ _) | (with_reducible refine Kd.zh ?_))); (case side4 => exact HC2.out); rintro e w38 ⟨rfl, hb⟩; have n0_ := zB.mk (zP (g := gb101) (o := .cells #[.slice A0_0 l0_0.length c0_0] 30 (0, 0)) (by (with_reducible repeat (first | refine zI ?_ _ | refine zJ ?_ | refine zG ?_ _)); exact BK101.out) hb); have n1_ := zB.mk (zL (by repeat (first | (with_reducible first | exact HB.out | apply zC | apply zA | apply zD | refine zF ?_ GE101.out) | exact HB.out)) hb); clear BK101; clear HB; have BK101 := n0_; have HB := n1_; clear n0_ n1_; (try clear hb); (try clear hb2); (try clear hk); (try clear hi)))
    go_ret2
    exact ⟨by first | rfl | (simp [zQ, zR] <;> rfl) | (simp [*, zQ, zR] <;> rfl), by repeat (first | (with_reducible first | exact HB.out | apply zC | apply zA | apply zD | refine zF ?_ GE101.out) | exact HB.out)⟩
  next =>
   replace c7 := Bool.eq_false_iff.mpr c7
   subst c7
   have H1 : (some (0, 5)) = some (r1, r2) := by rw [if_neg (show ¬ (false = true) by decide)] at H; exact H
   clear H
   have H := H1
   clear H1
   simp only [Option.some.injEq, Prod.mk.injEq] at H
   obtain ⟨rfl, rfl⟩ := H
   go_enter Try.func38, Try.ntmps38
   go_wp2_with (first | ((with_reducible refine zj (N := 3) rfl ?_); (try (refine QY (by rfl) ?_; dsimp only)); refine zg ?hg (N := 3) ?hd (cs := #[.slice A0_0 l0_0.length c0_0]) (t := 30) ?hr ?_; (case hd => rfl); (case hg => rfl); (case hr => first | (go_simp; done) | (go_simp; rfl)); intro gb101 hg w39 hbox hb; have n0_ := zB.mk (zL (by repeat (first | (with_reducible first | exact HB.out | apply zC | apply zA | apply zD) | exact HB.out)) hb); have n1_ := zB.mk (hbox); have n2_ := zB.mk ((by rw [hg]; exact (zO (by repeat (first | (with_reducible first | exact HB.out | apply zC | apply zA | apply zD) | exact HB.out))) : w.heap.size ≤ gb101)); have n3_ := zB.mk ((by rw [hg]; exact (zO (by repeat (first | (with_reducible first | exact HB.out | apply zC | apply zA | apply zD) | exact HB.out))) : w.heap.size ≤ gb101)); clear HB; have HB := n0_; have BK101 := n1_; have GW101 := n2_; have GE101 := n3_; clear n0_ n1_ n2_ n3_; clear hb hbox hg; have hcz40_0 : w39.cell? ⟨gb101, 0, none⟩ = some (.slice A0_0 l0_0.length c0_0) := (zM BK101.out 0).trans rfl; have hfz40_0 := zN BK101.out 0) | ((with_reducible refine zU (f := 58) rfl ?_); refine qH (some 10) rfl rfl Try.func58 (by kernel_rfl) rfl #[.agg #[.slice A0_0 l0_0.length c0_0]] rfl (by (try simp only [yiy, yjy, yky]); first | done | rfl | (simp only [yly, ymy]; rfl)) ?_; (with_reducible refine (qz.calls k _ _ l0_0 t102 _ ?side1 ?side2 A4.out).mono ?_); (case side1 => repeat (first | exact (Kd.zY HR0_0.out HB.out) | (with_reducible refine Kd.zZ ?_ _) | (with_reducible refine Kd.za ?_ _) | (with_reducible refine Kd.zh ?_))); (case side2 => exact HC0_0.out); rintro e w41 ⟨rfl, hb⟩; refine ⟨_, rfl, ?_⟩; have n0_ := zB.mk (zP (g := gb101) (o := .cells #[.slice A0_0 l0_0.length c0_0] 30 (0, 0)) (by (with_reducible repeat (first | refine zI ?_ _ | refine zJ ?_ | refine zG ?_ _)); exact BK101.out) hb); have n1_ := zB.mk (zL (by repeat (first | (with_reducible first | exact HB.out | apply zC | apply zA | apply zD | refine zF ?_ GE101.out) | exact HB.out)) hb); clear BK101; clear HB; have BK101 := n0_; have HB := n1_; clear n0_ n1_; (try clear hb); (try clear hb2); (try clear hk); (try clear hi); have hcz42_0 : w41.cell? ⟨gb101, 0, none⟩ = some (.slice A0_0 l0_0.length c0_0) := (zM BK101.out 0).trans rfl; have hfz42_0 := zN BK101.out 0) | ((with_reducible refine zU (f := 28) rfl ?_); refine qH (some 16) rfl rfl Try.func28 (by kernel_rfl) rfl #[.agg #[.slice A0_0 l0_0.length c0_0], .slice A1 l1.length c1] rfl (by (try simp only [yiy, yjy, yky]); first | done | rfl | (simp only [yly, ymy]; rfl)) ?_; (with_reducible refine (qO.calls k _ _ l0_0 _ _ l1 false _ ?side1 ?side2 ?side3 ?side4 A6.out).mono ?_); (case side1 => repeat (first | exact (Kd.zY HR0_0.out HB.out) | (with_reducible refine Kd.zZ ?_ _) | (with_reducible refine Kd.za ?_ _) | (with_reducible refine Kd.zh ?_))); (case side2 => exact HC0_0.out); (case side3 => repeat (first | exact (Kd.zY HR1.out HB.out) | (with_reducible refine Kd.zZ ?_ _) | (with_reducible refine Kd.za ?_ _) | (with_reducible refine Kd.zh ?_))); (case side4 => exact HC1.out); rintro e w43 ⟨rfl, hb⟩; refine ⟨_, rfl, ?_⟩; have n0_ := zB.mk (zP (g := gb101) (o := .cells #[.slice A0_0 l0_0.length c0_0] 30 (0, 0)) (by (with_reducible repeat (first | refine zI ?_ _ | refine zJ ?_ | refine zG ?_ _)); exact BK101.out) hb); have n1_ := zB.mk (zL (by repeat (first | (with_reducible first | exact HB.out | apply zC | apply zA | apply zD | refine zF ?_ GE101.out) | exact HB.out)) hb); clear BK101; clear HB; have BK101 := n0_; have HB := n1_; clear n0_ n1_; (try clear hb); (try clear hb2); (try clear hk); (try clear hi)))
   go_ret2
   exact ⟨by first | rfl | (simp [zQ, zR] <;> rfl) | (simp [*, zQ, zR] <;> rfl), by repeat (first | (with_reducible first | exact HB.out | apply zC | apply zA | apply zD | refine zF ?_ GE101.out) | exact HB.out)⟩
 next =>
  rw [if_neg c5] at H
  have c5b0 : (t102 == 0) = false := beq_eq_false_iff_ne.mpr c5
  have c5b1 : (t102 != 0) = true := bne_iff_ne.mpr c5
  simp only [Option.some.injEq, Prod.mk.injEq] at H
  obtain ⟨rfl, rfl⟩ := H
  go_enter Try.func38, Try.ntmps38
  go_wp2_with (first | ((with_reducible refine zj (N := 3) rfl ?_); (try (refine QY (by rfl) ?_; dsimp only)); refine zg ?hg (N := 3) ?hd (cs := #[.slice A0_0 l0_0.length c0_0]) (t := 30) ?hr ?_; (case hd => rfl); (case hg => rfl); (case hr => first | (go_simp; done) | (go_simp; rfl)); intro gb101 hg w44 hbox hb; have n0_ := zB.mk (zL (by repeat (first | (with_reducible first | exact HB.out | apply zC | apply zA | apply zD) | exact HB.out)) hb); have n1_ := zB.mk (hbox); have n2_ := zB.mk ((by rw [hg]; exact (zO (by repeat (first | (with_reducible first | exact HB.out | apply zC | apply zA | apply zD) | exact HB.out))) : w.heap.size ≤ gb101)); have n3_ := zB.mk ((by rw [hg]; exact (zO (by repeat (first | (with_reducible first | exact HB.out | apply zC | apply zA | apply zD) | exact HB.out))) : w.heap.size ≤ gb101)); clear HB; have HB := n0_; have BK101 := n1_; have GW101 := n2_; have GE101 := n3_; clear n0_ n1_ n2_ n3_; clear hb hbox hg; have hcz45_0 : w44.cell? ⟨gb101, 0, none⟩ = some (.slice A0_0 l0_0.length c0_0) := (zM BK101.out 0).trans rfl; have hfz45_0 := zN BK101.out 0) | ((with_reducible refine zU (f := 58) rfl ?_); refine qH (some 10) rfl rfl Try.func58 (by kernel_rfl) rfl #[.agg #[.slice A0_0 l0_0.length c0_0]] rfl (by (try simp only [yiy, yjy, yky]); first | done | rfl | (simp only [yly, ymy]; rfl)) ?_; (with_reducible refine (qz.calls k _ _ l0_0 t102 _ ?side1 ?side2 A4.out).mono ?_); (case side1 => repeat (first | exact (Kd.zY HR0_0.out HB.out) | (with_reducible refine Kd.zZ ?_ _) | (with_reducible refine Kd.za ?_ _) | (with_reducible refine Kd.zh ?_))); (case side2 => exact HC0_0.out); rintro e w46 ⟨rfl, hb⟩; refine ⟨_, rfl, ?_⟩; have n0_ := zB.mk (zP (g := gb101) (o := .cells #[.slice A0_0 l0_0.length c0_0] 30 (0, 0)) (by (with_reducible repeat (first | refine zI ?_ _ | refine zJ ?_ | refine zG ?_ _)); exact BK101.out) hb); have n1_ := zB.mk (zL (by repeat (first | (with_reducible first | exact HB.out | apply zC | apply zA | apply zD | refine zF ?_ GE101.out) | exact HB.out)) hb); clear BK101; clear HB; have BK101 := n0_; have HB := n1_; clear n0_ n1_; (try clear hb); (try clear hb2); (try clear hk); (try clear hi)))
  go_ret2
  exact ⟨by first | rfl | (simp [zQ, zR] <;> rfl) | (simp [*, zQ, zR] <;> rfl), by repeat (first | (with_reducible first | exact HB.out | apply zC | apply zA | apply zD | refine zF ?_ GE101.out) | exact HB.out)⟩
end Go.Proofs.Ythjpdljdodalaaa.P
namespace Go.Proofs.Ythjpdljdodalaaa.Lib
open Go.RowKit Go.Proofs.YthjpdljdodalaaaW.PrintWords
set_option linter.unusedVariables false
section
variable {α : Type} {d : Kd α} {e b lo hi lo2 hi2 T : Nat} {w w' W : World} {v : Value} {xs ys : List α}
def ObS (d : Kd α) (e b : Nat) (w : World) (lo hi : Nat) (v : Value) (xs : List α) : Prop := hi ≤ w.heap.size ∧ Kd.S d e w b (fun k => lo ≤ k ∧ k < hi) v xs
def ObR (d : Kd α) (e b : Nat) (w : World) (lo hi : Nat) (v : Value) (xs : List α) : Prop := hi ≤ w.heap.size ∧ Kd.R d e w b (fun k => lo ≤ k ∧ k < hi) v xs
theorem size_set (w : World) (g i : Nat) (u : Value) : w.heap.size ≤ (w.setCell ⟨g, i, none⟩ u).heap.size := ((yry 0 w).setCell (Nat.zero_le _) u).size
theorem ObS.made (ho : Kd.S d e w' W.heap.size (fun _ => True) v xs) (hb : Below W.heap.size W w') (hT : T ≤ W.heap.size) (hB : b ≤ W.heap.size) : ∃ lo hi, (T ≤ lo ∧ lo ≤ hi) ∧ hi ≤ w'.heap.size ∧ ObS d e b w' lo hi v xs :=
  ⟨W.heap.size, w'.heap.size, ⟨hT, hb.size⟩, yqy _, yqy _, Kd.Jj (Kd.Za (Kd.zEB ho) (fun k hk => ⟨hk.2.1, hk.2.2.1⟩)) hB⟩
theorem ObR.made (ho : Kd.R d e w' W.heap.size (fun _ => True) v xs) (hb : Below W.heap.size W w') (hT : T ≤ W.heap.size) (hB : b ≤ W.heap.size) : ∃ lo hi, (T ≤ lo ∧ lo ≤ hi) ∧ hi ≤ w'.heap.size ∧ ObR d e b w' lo hi v xs :=
  ⟨W.heap.size, w'.heap.size, ⟨hT, hb.size⟩, yqy _, yqy _, Kd.ZO (Kd.qZ (Kd.QH ho) (fun k hk => ⟨hk.2.1, hk.2.2.1⟩)) hB⟩
theorem ObS.below (h : ObS d e b w lo hi v xs) (hb : Below w.heap.size w w') : ObS d e b w' lo hi v xs := ⟨Nat.le_trans h.1 hb.size, Kd.Zx h.2 hb⟩
theorem ObR.below (h : ObR d e b w lo hi v xs) (hb : Below w.heap.size w w') : ObR d e b w' lo hi v xs := ⟨Nat.le_trans h.1 hb.size, Kd.Ze h.2 hb⟩
theorem ObS.drew (h : ObS d e b w lo hi v xs) : ObS d e b w.drew lo hi v xs := ⟨h.1, Kd.qf h.2⟩
theorem ObR.drew (h : ObR d e b w lo hi v xs) : ObR d e b w.drew lo hi v xs := ⟨h.1, Kd.qG h.2⟩
theorem ObS.far {g i : Nat} (h : ObS d e b w lo hi v xs) (hg : g < lo ∨ hi ≤ g) (u : Value) : ObS d e b (w.setCell ⟨g, i, none⟩ u) lo hi v xs :=
  ⟨Nat.le_trans h.1 (size_set _ _ _ _), Kd.zAg h.2 (fun k hk => by show k ≠ g; have := hk.1; have := hk.2; omega) u⟩
theorem ObR.far {g i : Nat} (h : ObR d e b w lo hi v xs) (hg : g < lo ∨ hi ≤ g) (u : Value) : ObR d e b (w.setCell ⟨g, i, none⟩ u) lo hi v xs :=
  ⟨Nat.le_trans h.1 (size_set _ _ _ _), Kd.zCA h.2 (fun k hk => by show k ≠ g; have := hk.1; have := hk.2; omega) u⟩
theorem ObS.slice (h : ObS d e b w lo hi v xs) : ∃ A c, v = .slice A xs.length c := Kd.Jk h.2
theorem ObR.slice (h : ObR d e b w lo hi v xs) : ∃ A c, v = .slice A xs.length c := Kd.Zc h.2
theorem ObS.reads {A : Option Addr} {n c : Nat} (h : ObS d e b w lo hi (.slice A n c) xs) : n = xs.length ∧ n ≤ c ∧ d.C w A xs.length xs := Kd.QC h.2
theorem ObR.reads {A : Option Addr} {n c : Nat} (h : ObR d e b w lo hi (.slice A n c) xs) : n = xs.length ∧ n ≤ c ∧ d.C w A xs.length xs := Kd.qK h.2
theorem ObS.room {A : Option Addr} {n c : Nat} (h : ObS d e b w lo hi (.slice A n c) xs) : xs.length ≤ c := by have := h.reads; omega
theorem ObR.room {A : Option Addr} {n c : Nat} (h : ObR d e b w lo hi (.slice A n c) xs) : xs.length ≤ c := by have := h.reads; omega
theorem Je {n : Nat} (h : w' = w.drewN n) : Below w.heap.size w w' := h ▸ zA (yry _ _) n
theorem ZA (h : T ≤ w.heap.size) (hb : Below w.heap.size w w') : T ≤ w'.heap.size := Nat.le_trans h hb.size
theorem zEw (h : T ≤ w.heap.size) : T ≤ w.drew.heap.size := h
theorem zEJ {g i : Nat} {u : Value} (h : T ≤ w.heap.size) : T ≤ (w.setCell ⟨g, i, none⟩ u).heap.size := Nat.le_trans h (size_set _ _ _ _)
end
end Go.Proofs.Ythjpdljdodalaaa.Lib
namespace Go.Proofs.Ythjpdljdodalaaa.P
open Go.RowKit Go.Proofs.YthjpdljdodalaaaW.PrintWords Go.Proofs.YthjpdljdodalaaaW.PrintLast Go.Proofs.YthjpdljdodalaaaW.PrintMore
attribute [local go_sem] QN QO Qh Qi Zy Zz QP QQ
set_option linter.unusedVariables false
set_option linter.unusedSimpArgs false
open Go.Proofs.Ythjpdljdodalaaa.Lib
def ZG.f (k : Nat) (l0 : List (List (qT))) (l1 : List Int) (l2 : List Int) : Option Bool := if (l1.length : Int) > 1048576 then some true else if (l2.length : Int) > 1048576 then some true else (ZM.f k l0 1048576).bind fun t4 => if t4 < 0 then some true else (qn.f k l0).bind fun t7 => (qC.f k l1).bind fun t10 => (qC.f k l2).bind fun t13 => (Zh.f k t7 t10 t13).bind fun bt7 => (qn.f k l0).bind fun t19 => (qC.f k l1).bind fun t22 => (qC.f k l2).bind fun t25 => (zz.f k t19 t22 t25).bind fun bt11 => if bt11.1 = bt7.1 then if bt11.2 = bt7.2 then (qn.f k l0).bind fun t33 => (ZV.f k t19 t33).bind fun t36 => if t36 = true then (qC.f k l1).bind fun t38 => (qb.f k t22 t38).bind fun t41 => if t41 = true then (qC.f k l2).bind fun t43 => (qb.f k t25 t43).bind fun t46 => if t46 = true then some true else some false else some false else some false else some false else some false
set_option maxHeartbeats 8000000 in
set_option maxRecDepth 100000 in
theorem ZG.calls (k : Nat) (A0 : Option Addr) (c0 : Nat) (l0 : List (List (qT))) (A1 : Option Addr) (c1 : Nat) (l1 : List Int) (A2 : Option Addr) (c2 : Nat) (l2 : List Int) (w : World) (hr0 : Kd.C (Kd.slice 136 Zr) w A0 l0.length l0) (hc0 : l0.length ≤ c0) (hr1 : Kd.C (Kd.int .i64) w A1 l1.length l1) (hc1 : l1.length ≤ c1) (hr2 : Kd.C (Kd.int .i64) w A2 l2.length l2) (hc2 : l2.length ≤ c2) (h : ZG.f k l0 l1 l2 = some true) :
 Calls Try.prog 9 #[.agg #[.slice A0 l0.length c0], .slice A1 l1.length c1, .slice A2 l2.length c2] w fun e w' => e = .returned (.bool true) ∧ Below w.heap.size w w' := by
 have hu24 := Try.underlying24
 have hu30 := Try.underlying30
 have HR0 := zB.mk hr0
 have HC0 := zB.mk hc0
 have HR1 := zB.mk hr1
 have HC1 := zB.mk hc1
 have HR2 := zB.mk hr2
 have HC2 := zB.mk hc2
 clear hr0 hc0 hr1 hc1 hr2 hc2
 have HB := zB.mk (yry w.heap.size w)
 have HT := zB.mk (yqy w.heap.size)
 have H := h
 clear h
 unfold ZG.f at H
 by_cases cC1 : (l1.length : Int) > 1048576
 next =>
  have dC1 : decide ((l1.length : Int) > 1048576) = true := ygy cC1; have e0C1 : decide (1048576 < (l1.length : Int)) = true := ygy (by omega); have e1C1 : decide (1048576 < l1.length) = true := ygy (by omega)
  clear cC1 H
  go_enter Try.func9, Try.ntmps9
  try go_wp2_with (first | ((with_reducible refine zj (N := 3) rfl ?_); refine zg ?hg (N := 3) ?hd (cs := #[.slice A0 l0.length c0]) (t := 24) ?hr ?_; (case hd => rfl); (case hg => rfl); (case hr => first | (go_simp; done) | (go_simp; rfl)); intro g3 hg w1 hbox hb; have HNg3 := zB.mk (by rw [hg]; exact HT.out : w.heap.size ≤ g3); have HXg3 := zB.mk (show g3 + 1 ≤ w1.heap.size from qc hbox); have nHB := zB.mk (zL HB.out hb); have nHT := zB.mk (ZA HT.out hb); clear HB HT  ; have HB := nHB; have HT := nHT; clear nHB nHT  ; clear HT; have HT := HXg3; clear HXg3; have BKg3 := zB.mk hbox; clear hg hbox hb; have hczg3 : w1.cell? ⟨g3, 0, none⟩ = some (.slice A0 l0.length c0) := (zM BKg3.out 0).trans rfl; have hfzg3 := zN BKg3.out 0))
  go_ret
  exact ⟨by first | rfl | (simp <;> rfl), HB.out⟩
 rw [if_neg cC1] at H
 have dC1 : decide ((l1.length : Int) > 1048576) = false := yhy cC1; have e0C1 : decide (1048576 < (l1.length : Int)) = false := yhy (by omega); have e1C1 : decide (1048576 < l1.length) = false := yhy (by omega)
 clear cC1
 by_cases cC2 : (l2.length : Int) > 1048576
 next =>
  have dC2 : decide ((l2.length : Int) > 1048576) = true := ygy cC2; have e0C2 : decide (1048576 < (l2.length : Int)) = true := ygy (by omega); have e1C2 : decide (1048576 < l2.length) = true := ygy (by omega)
  clear cC2 H
  go_enter Try.func9, Try.ntmps9
  try go_wp2_with (first | ((with_reducible refine zj (N := 3) rfl ?_); refine zg ?hg (N := 3) ?hd (cs := #[.slice A0 l0.length c0]) (t := 24) ?hr ?_; (case hd => rfl); (case hg => rfl); (case hr => first | (go_simp; done) | (go_simp; rfl)); intro g3 hg w1 hbox hb; have HNg3 := zB.mk (by rw [hg]; exact HT.out : w.heap.size ≤ g3); have HXg3 := zB.mk (show g3 + 1 ≤ w1.heap.size from qc hbox); have nHB := zB.mk (zL HB.out hb); have nHT := zB.mk (ZA HT.out hb); clear HB HT  ; have HB := nHB; have HT := nHT; clear nHB nHT  ; clear HT; have HT := HXg3; clear HXg3; have BKg3 := zB.mk hbox; clear hg hbox hb; have hczg3 : w1.cell? ⟨g3, 0, none⟩ = some (.slice A0 l0.length c0) := (zM BKg3.out 0).trans rfl; have hfzg3 := zN BKg3.out 0))
  go_ret
  exact ⟨by first | rfl | (simp <;> rfl), HB.out⟩
 rw [if_neg cC2] at H
 have dC2 : decide ((l2.length : Int) > 1048576) = false := yhy cC2; have e0C2 : decide (1048576 < (l2.length : Int)) = false := yhy (by omega); have e1C2 : decide (1048576 < l2.length) = false := yhy (by omega)
 clear cC2
 obtain ⟨t4, H30, H⟩ := ydy.mp H
 have H3 := zB.mk H30
 clear H30
 by_cases cC5 : t4 < 0
 next =>
  have dC5 : decide (t4 < 0) = true := ygy cC5
  clear cC5 H
  go_enter Try.func9, Try.ntmps9
  try go_wp2_with (first | ((with_reducible refine zj (N := 3) rfl ?_); refine zg ?hg (N := 3) ?hd (cs := #[.slice A0 l0.length c0]) (t := 24) ?hr ?_; (case hd => rfl); (case hg => rfl); (case hr => first | (go_simp; done) | (go_simp; rfl)); intro g3 hg w1 hbox hb; have HNg3 := zB.mk (by rw [hg]; exact HT.out : w.heap.size ≤ g3); have HXg3 := zB.mk (show g3 + 1 ≤ w1.heap.size from qc hbox); have nHB := zB.mk (zL HB.out hb); have nHT := zB.mk (ZA HT.out hb); clear HB HT  ; have HB := nHB; have HT := nHT; clear nHB nHT  ; clear HT; have HT := HXg3; clear HXg3; have BKg3 := zB.mk hbox; clear hg hbox hb; have hczg3 : w1.cell? ⟨g3, 0, none⟩ = some (.slice A0 l0.length c0) := (zM BKg3.out 0).trans rfl; have hfzg3 := zN BKg3.out 0) | ((with_reducible refine zU (f := 15) rfl ?_); refine qH (some 23) rfl rfl Try.func15 (by kernel_rfl) rfl #[.agg #[.slice A0 l0.length c0], .int .i64 1048576] rfl (by (try simp only [yiy, yjy, yky]); first | done | rfl | (simp only [yly, ymy]; rfl)) ?_; (with_reducible refine (ZM.calls k _ _ l0 1048576 t4 _ ?side1 ?side2 H3.out).mono ?_); (case side1 => exact Kd.zY HR0.out HB.out); (case side2 => exact HC0.out); rintro e w2 ⟨rfl, hb⟩; refine ⟨_, rfl, ?_⟩; (try clear hczg3 hfzg3); have nBg3 := zB.mk (zP (g := g3) (o := .cells #[.slice A0 l0.length c0] 24 (0, 0)) BKg3.out hb); have nHB := zB.mk (zL HB.out hb); have nHT := zB.mk (ZA HT.out hb); clear HB HT  BKg3; have BKg3 := nBg3; have HB := nHB; have HT := nHT; clear nHB nHT  nBg3; (try clear hb); (try clear hnd); have hczg3 : w2.cell? ⟨g3, 0, none⟩ = some (.slice A0 l0.length c0) := (zM BKg3.out 0).trans rfl; have hfzg3 := zN BKg3.out 0))
  go_ret
  exact ⟨by first | rfl | (simp <;> rfl), HB.out⟩
 rw [if_neg cC5] at H
 have dC5 : decide (t4 < 0) = false := yhy cC5
 clear cC5
 obtain ⟨t7, H60, H⟩ := ydy.mp H
 have H6 := zB.mk H60
 clear H60
 obtain ⟨t10, H90, H⟩ := ydy.mp H
 have H9 := zB.mk H90
 clear H90
 obtain ⟨t13, H120, H⟩ := ydy.mp H
 have H12 := zB.mk H120
 clear H120
 obtain ⟨⟨t16, t17⟩, H150, H⟩ := ydy.mp H
 have H15 := zB.mk H150
 clear H150
 obtain ⟨t19, H180, H⟩ := ydy.mp H
 have H18 := zB.mk H180
 clear H180
 obtain ⟨t22, H210, H⟩ := ydy.mp H
 have H21 := zB.mk H210
 clear H210
 obtain ⟨t25, H240, H⟩ := ydy.mp H
 have H24 := zB.mk H240
 clear H240
 obtain ⟨⟨t28, t29⟩, H270, H⟩ := ydy.mp H
 have H27 := zB.mk H270
 clear H270
 have cC30 : t28 = t16 := by by_cases c_ : t28 = t16; exact c_; rw [if_neg c_] at H; cases H
 rw [if_pos cC30] at H
 have dC30 : (t28 != t16) = false := by rw [cC30]; exact bne_self_eq_false _
 clear cC30
 have cC31 : t29 = t17 := by by_cases c_ : t29 = t17; exact c_; rw [if_neg c_] at H; cases H
 rw [if_pos cC31] at H
 have dC31 : (t29 != t17) = false := by rw [cC31]; exact bne_self_eq_false _
 clear cC31
 obtain ⟨t33, H320, H⟩ := ydy.mp H
 have H32 := zB.mk H320
 clear H320
 obtain ⟨t36, H350, H⟩ := ydy.mp H
 obtain rfl : t36 = true := by cases t36 with | true => rfl | false => exact absurd H (by simp)
 replace H := H
 have H35 := zB.mk H350
 clear H350
 rw [if_pos rfl] at H
 obtain ⟨t38, H370, H⟩ := ydy.mp H
 have H37 := zB.mk H370
 clear H370
 obtain ⟨t41, H400, H⟩ := ydy.mp H
 obtain rfl : t41 = true := by cases t41 with | true => rfl | false => exact absurd H (by simp)
 replace H := H
 have H40 := zB.mk H400
 clear H400
 rw [if_pos rfl] at H
 obtain ⟨t43, H420, H⟩ := ydy.mp H
 have H42 := zB.mk H420
 clear H420
 obtain ⟨t46, H450, H⟩ := ydy.mp H
 obtain rfl : t46 = true := by cases t46 with | true => rfl | false => exact absurd H (by simp)
 replace H := H
 have H45 := zB.mk H450
 clear H450
 rw [if_pos rfl] at H
 clear H
 go_enter Try.func9, Try.ntmps9
 try go_wp2_with (first | ((with_reducible refine zj (N := 3) rfl ?_); refine zg ?hg (N := 3) ?hd (cs := #[.slice A0 l0.length c0]) (t := 24) ?hr ?_; (case hd => rfl); (case hg => rfl); (case hr => first | (go_simp; done) | (go_simp; rfl)); intro g3 hg w1 hbox hb; have HNg3 := zB.mk (by rw [hg]; exact HT.out : w.heap.size ≤ g3); have HXg3 := zB.mk (show g3 + 1 ≤ w1.heap.size from qc hbox); have nHB := zB.mk (zL HB.out hb); have nHT := zB.mk (ZA HT.out hb); clear HB HT  ; have HB := nHB; have HT := nHT; clear nHB nHT  ; clear HT; have HT := HXg3; clear HXg3; have BKg3 := zB.mk hbox; clear hg hbox hb; have hczg3 : w1.cell? ⟨g3, 0, none⟩ = some (.slice A0 l0.length c0) := (zM BKg3.out 0).trans rfl; have hfzg3 := zN BKg3.out 0) | ((with_reducible refine zU (f := 15) rfl ?_); refine qH (some 23) rfl rfl Try.func15 (by kernel_rfl) rfl #[.agg #[.slice A0 l0.length c0], .int .i64 1048576] rfl (by (try simp only [yiy, yjy, yky]); first | done | rfl | (simp only [yly, ymy]; rfl)) ?_; (with_reducible refine (ZM.calls k _ _ l0 1048576 t4 _ ?side1 ?side2 H3.out).mono ?_); (case side1 => exact Kd.zY HR0.out HB.out); (case side2 => exact HC0.out); rintro e w2 ⟨rfl, hb⟩; refine ⟨_, rfl, ?_⟩; (try clear hczg3 hfzg3); have nBg3 := zB.mk (zP (g := g3) (o := .cells #[.slice A0 l0.length c0] 24 (0, 0)) BKg3.out hb); have nHB := zB.mk (zL HB.out hb); have nHT := zB.mk (ZA HT.out hb); clear HB HT  BKg3; have BKg3 := nBg3; have HB := nHB; have HT := nHT; clear nHB nHT  nBg3; (try clear hb); (try clear hnd); have hczg3 : w2.cell? ⟨g3, 0, none⟩ = some (.slice A0 l0.length c0) := (zM BKg3.out 0).trans rfl; have hfzg3 := zN BKg3.out 0) | ((with_reducible refine zU (f := 17) rfl ?_); refine qH (some 28) rfl rfl Try.func17 (by kernel_rfl) rfl #[.agg #[.slice A0 l0.length c0]] rfl (by (try simp only [yiy, yjy, yky]); first | done | rfl | (simp only [yly, ymy]; rfl)) ?_; (with_reducible refine (qn.calls k _ _ l0 t7 _ ?side1 ?side2 H6.out).mono ?_); (case side1 => exact Kd.zY HR0.out HB.out); (case side2 => exact HC0.out); rintro e w3 ⟨vo8, rfl, ho0, hb⟩; refine ⟨_, rfl, ?_⟩; (try clear hczg3 hfzg3); obtain ⟨loo8, hio8, hno8⟩ := ObS.made ho0 hb HT.out (zO HB.out); have nBg3 := zB.mk (zP (g := g3) (o := .cells #[.slice A0 l0.length c0] 24 (0, 0)) BKg3.out hb); have nHB := zB.mk (zL HB.out hb); have nHT := zB.mk (ZA HT.out hb); clear HB HT  BKg3; have BKg3 := nBg3; have HB := nHB; have HT := nHT; clear nHB nHT  nBg3; have HNo8 := zB.mk hno8.1; clear HT; have HT := zB.mk hno8.2.1; have HOo8 := zB.mk hno8.2.2; clear hno8 ho0; obtain ⟨Ao8, co8, eeo8⟩ := HOo8.out.slice; subst eeo8; (try clear hb); (try clear hnd); have hczg3 : w3.cell? ⟨g3, 0, none⟩ = some (.slice A0 l0.length c0) := (zM BKg3.out 0).trans rfl; have hfzg3 := zN BKg3.out 0) | ((with_reducible refine zU (f := 18) rfl ?_); refine qH (some 30) rfl rfl Try.func18 (by kernel_rfl) rfl #[.slice A1 l1.length c1] rfl (by (try simp only [yiy, yjy, yky]); first | done | rfl | (simp only [yly, ymy]; rfl)) ?_; (with_reducible refine (qC.calls k _ _ l1 t10 _ ?side1 ?side2 H9.out).mono ?_); (case side1 => exact Kd.zY HR1.out HB.out); (case side2 => exact HC1.out); rintro e w4 ⟨vo11, rfl, ho0, hb⟩; refine ⟨_, rfl, ?_⟩; (try clear hczg3 hfzg3); obtain ⟨loo11, hio11, hno11⟩ := ObR.made ho0 hb HT.out (zO HB.out); have nOo8 := zB.mk (ObS.below HOo8.out hb); have nBg3 := zB.mk (zP (g := g3) (o := .cells #[.slice A0 l0.length c0] 24 (0, 0)) BKg3.out hb); have nHB := zB.mk (zL HB.out hb); have nHT := zB.mk (ZA HT.out hb); clear HB HT HOo8 BKg3; have HOo8 := nOo8; have BKg3 := nBg3; have HB := nHB; have HT := nHT; clear nHB nHT nOo8 nBg3; have HNo11 := zB.mk hno11.1; clear HT; have HT := zB.mk hno11.2.1; have HOo11 := zB.mk hno11.2.2; clear hno11 ho0; obtain ⟨Ao11, co11, eeo11⟩ := HOo11.out.slice; subst eeo11; (try clear hb); (try clear hnd); have hczg3 : w4.cell? ⟨g3, 0, none⟩ = some (.slice A0 l0.length c0) := (zM BKg3.out 0).trans rfl; have hfzg3 := zN BKg3.out 0) | ((with_reducible refine zU (f := 18) rfl ?_); refine qH (some 32) rfl rfl Try.func18 (by kernel_rfl) rfl #[.slice A2 l2.length c2] rfl (by (try simp only [yiy, yjy, yky]); first | done | rfl | (simp only [yly, ymy]; rfl)) ?_; (with_reducible refine (qC.calls k _ _ l2 t13 _ ?side1 ?side2 H12.out).mono ?_); (case side1 => exact Kd.zY HR2.out HB.out); (case side2 => exact HC2.out); rintro e w5 ⟨vo14, rfl, ho0, hb⟩; refine ⟨_, rfl, ?_⟩; (try clear hczg3 hfzg3); obtain ⟨loo14, hio14, hno14⟩ := ObR.made ho0 hb HT.out (zO HB.out); have nOo8 := zB.mk (ObS.below HOo8.out hb); have nOo11 := zB.mk (ObR.below HOo11.out hb); have nBg3 := zB.mk (zP (g := g3) (o := .cells #[.slice A0 l0.length c0] 24 (0, 0)) BKg3.out hb); have nHB := zB.mk (zL HB.out hb); have nHT := zB.mk (ZA HT.out hb); clear HB HT HOo8 HOo11 BKg3; have HOo8 := nOo8; have HOo11 := nOo11; have BKg3 := nBg3; have HB := nHB; have HT := nHT; clear nHB nHT nOo8 nOo11 nBg3; have HNo14 := zB.mk hno14.1; clear HT; have HT := zB.mk hno14.2.1; have HOo14 := zB.mk hno14.2.2; clear hno14 ho0; obtain ⟨Ao14, co14, eeo14⟩ := HOo14.out.slice; subst eeo14; (try clear hb); (try clear hnd); have hczg3 : w5.cell? ⟨g3, 0, none⟩ = some (.slice A0 l0.length c0) := (zM BKg3.out 0).trans rfl; have hfzg3 := zN BKg3.out 0) | ((with_reducible refine zU (f := 38) rfl ?_); refine qH (some 33) rfl rfl Try.func38 (by kernel_rfl) rfl #[.agg #[.slice Ao8 t7.length co8], .slice Ao11 t10.length co11, .slice Ao14 t13.length co14] rfl (by (try simp only [yiy, yjy, yky]); first | done | rfl | (simp only [yly, ymy]; rfl)) ?_; (with_reducible refine (Zh.calls k _ _ t7 _ _ t10 _ _ t13 t16 t17 _ ?side1 ?side2 ?side3 ?side4 ?side5 ?side6 H15.out).mono ?_); (case side1 => exact (ObS.reads HOo8.out).2.2); (case side2 => exact ObS.room HOo8.out); (case side3 => exact (ObR.reads HOo11.out).2.2); (case side4 => exact ObR.room HOo11.out); (case side5 => exact (ObR.reads HOo14.out).2.2); (case side6 => exact ObR.room HOo14.out); rintro e w6 ⟨rfl, hb⟩; refine ⟨_, rfl, ?_⟩; (try clear hczg3 hfzg3); have nOo8 := zB.mk (ObS.below HOo8.out hb); have nOo11 := zB.mk (ObR.below HOo11.out hb); have nOo14 := zB.mk (ObR.below HOo14.out hb); have nBg3 := zB.mk (zP (g := g3) (o := .cells #[.slice A0 l0.length c0] 24 (0, 0)) BKg3.out hb); have nHB := zB.mk (zL HB.out hb); have nHT := zB.mk (ZA HT.out hb); clear HB HT HOo8 HOo11 HOo14 BKg3; have HOo8 := nOo8; have HOo11 := nOo11; have HOo14 := nOo14; have BKg3 := nBg3; have HB := nHB; have HT := nHT; clear nHB nHT nOo8 nOo11 nOo14 nBg3; (try clear hb); (try clear hnd); have hczg3 : w6.cell? ⟨g3, 0, none⟩ = some (.slice A0 l0.length c0) := (zM BKg3.out 0).trans rfl; have hfzg3 := zN BKg3.out 0) | ((with_reducible refine zU (f := 17) rfl ?_); refine qH (some 37) rfl rfl Try.func17 (by kernel_rfl) rfl #[.agg #[.slice A0 l0.length c0]] rfl (by (try simp only [yiy, yjy, yky]); first | done | rfl | (simp only [yly, ymy]; rfl)) ?_; (with_reducible refine (qn.calls k _ _ l0 t19 _ ?side1 ?side2 H18.out).mono ?_); (case side1 => exact Kd.zY HR0.out HB.out); (case side2 => exact HC0.out); rintro e w7 ⟨vo20, rfl, ho0, hb⟩; refine ⟨_, rfl, ?_⟩; (try clear hczg3 hfzg3); obtain ⟨loo20, hio20, hno20⟩ := ObS.made ho0 hb HT.out (zO HB.out); have nOo8 := zB.mk (ObS.below HOo8.out hb); have nOo11 := zB.mk (ObR.below HOo11.out hb); have nOo14 := zB.mk (ObR.below HOo14.out hb); have nBg3 := zB.mk (zP (g := g3) (o := .cells #[.slice A0 l0.length c0] 24 (0, 0)) BKg3.out hb); have nHB := zB.mk (zL HB.out hb); have nHT := zB.mk (ZA HT.out hb); clear HB HT HOo8 HOo11 HOo14 BKg3; have HOo8 := nOo8; have HOo11 := nOo11; have HOo14 := nOo14; have BKg3 := nBg3; have HB := nHB; have HT := nHT; clear nHB nHT nOo8 nOo11 nOo14 nBg3; have HNo20 := zB.mk hno20.1; clear HT; have HT := zB.mk hno20.2.1; have HOo20 := zB.mk hno20.2.2; clear hno20 ho0; obtain ⟨Ao20, co20, eeo20⟩ := HOo20.out.slice; subst eeo20; (try clear hb); (try clear hnd); have hczg3 : w7.cell? ⟨g3, 0, none⟩ = some (.slice A0 l0.length c0) := (zM BKg3.out 0).trans rfl; have hfzg3 := zN BKg3.out 0) | ((with_reducible refine zj (N := 10) rfl ?_); refine zg ?hg (N := 10) ?hd (cs := #[.slice none 0 0]) (t := 30) ?hr ?_; (case hd => rfl); (case hg => rfl); (case hr => first | (go_simp; done) | (go_simp; rfl)); intro g10 hg w8 hbox hb; (try clear hczg3 hfzg3); have HNg10 := zB.mk (by rw [hg]; exact HT.out : hio20 ≤ g10); have HXg10 := zB.mk (show g10 + 1 ≤ w8.heap.size from qc hbox); have nOo8 := zB.mk (ObS.below HOo8.out hb); have nOo11 := zB.mk (ObR.below HOo11.out hb); have nOo14 := zB.mk (ObR.below HOo14.out hb); have nOo20 := zB.mk (ObS.below HOo20.out hb); have nBg3 := zB.mk (zP (g := g3) (o := .cells #[.slice A0 l0.length c0] 24 (0, 0)) BKg3.out hb); have nHB := zB.mk (zL HB.out hb); have nHT := zB.mk (ZA HT.out hb); clear HB HT HOo8 HOo11 HOo14 HOo20 BKg3; have HOo8 := nOo8; have HOo11 := nOo11; have HOo14 := nOo14; have HOo20 := nOo20; have BKg3 := nBg3; have HB := nHB; have HT := nHT; clear nHB nHT nOo8 nOo11 nOo14 nOo20 nBg3; clear HT; have HT := HXg10; clear HXg10; have BKg10 := zB.mk hbox; clear hg hbox hb; have hnbg10_g3 : g10 ≠ g3 := (by have := HNg3.out; have := HNo8.out; have := HNo11.out; have := HNo14.out; have := HNo20.out; have := HNg10.out; omega); have hnbg3_g10 : g3 ≠ g10 := (by have := HNg3.out; have := HNo8.out; have := HNo11.out; have := HNo14.out; have := HNo20.out; have := HNg10.out; omega); have hczg3 : w8.cell? ⟨g3, 0, none⟩ = some (.slice A0 l0.length c0) := (zM BKg3.out 0).trans rfl; have hfzg3 := zN BKg3.out 0; have hczg10 : w8.cell? ⟨g10, 0, none⟩ = some (.slice none 0 0) := (zM BKg10.out 0).trans rfl; have hfzg10 := zN BKg10.out 0) | ((with_reducible refine zU (f := 18) rfl ?_); refine qH (some 39) rfl rfl Try.func18 (by kernel_rfl) rfl #[.slice A1 l1.length c1] rfl (by (try simp only [yiy, yjy, yky]); first | done | rfl | (simp only [yly, ymy]; rfl)) ?_; (with_reducible refine (qC.calls k _ _ l1 t22 _ ?side1 ?side2 H21.out).mono ?_); (case side1 => exact Kd.zY HR1.out (zF HB.out (show w.heap.size ≤ g10 from (by have := HNg3.out; have := HNo8.out; have := HNo11.out; have := HNo14.out; have := HNo20.out; have := HNg10.out; omega)))); (case side2 => exact HC1.out); rintro e w9 ⟨vo23, rfl, ho0, hb⟩; refine ⟨_, rfl, ?_⟩; (try clear hczg3 hfzg3 hczg10 hfzg10); obtain ⟨loo23, hio23, hno23⟩ := ObR.made ho0 hb (zEJ HT.out) (zO (zF HB.out (show w.heap.size ≤ g10 from (by have := HNg3.out; have := HNo8.out; have := HNo11.out; have := HNo14.out; have := HNo20.out; have := HNg10.out; omega)))); have nOo8 := zB.mk (ObS.below (ObS.far (g := g10) (i := 0) HOo8.out (by have := HNg3.out; have := HNo8.out; have := HNo11.out; have := HNo14.out; have := HNo20.out; have := HNg10.out; omega) _) hb); have nOo11 := zB.mk (ObR.below (ObR.far (g := g10) (i := 0) HOo11.out (by have := HNg3.out; have := HNo8.out; have := HNo11.out; have := HNo14.out; have := HNo20.out; have := HNg10.out; omega) _) hb); have nOo14 := zB.mk (ObR.below (ObR.far (g := g10) (i := 0) HOo14.out (by have := HNg3.out; have := HNo8.out; have := HNo11.out; have := HNo14.out; have := HNo20.out; have := HNg10.out; omega) _) hb); have nOo20 := zB.mk (ObS.below (ObS.far (g := g10) (i := 0) HOo20.out (by have := HNg3.out; have := HNo8.out; have := HNo11.out; have := HNo14.out; have := HNo20.out; have := HNg10.out; omega) _) hb); have nBg3 := zB.mk (zP (g := g3) (o := .cells #[.slice A0 l0.length c0] 24 (0, 0)) (qW (p := ⟨g10, 0, none⟩) BKg3.out (show g3 ≠ g10 from (by have := HNg3.out; have := HNo8.out; have := HNo11.out; have := HNo14.out; have := HNo20.out; have := HNg10.out; omega)) _) hb); have nBg10 := zB.mk (zP (g := g10) (o := .cells #[.slice Ao20 t19.length co20] 30 (0, 0)) (qa (cs := #[.slice none 0 0]) BKg10.out 0 _ rfl) hb); have nHB := zB.mk (zL (zF HB.out (show w.heap.size ≤ g10 from (by have := HNg3.out; have := HNo8.out; have := HNo11.out; have := HNo14.out; have := HNo20.out; have := HNg10.out; omega))) hb); have nHT := zB.mk (ZA (zEJ HT.out) hb); clear HB HT HOo8 HOo11 HOo14 HOo20 BKg3 BKg10; have HOo8 := nOo8; have HOo11 := nOo11; have HOo14 := nOo14; have HOo20 := nOo20; have BKg3 := nBg3; have BKg10 := nBg10; have HB := nHB; have HT := nHT; clear nHB nHT nOo8 nOo11 nOo14 nOo20 nBg3 nBg10; have HNo23 := zB.mk hno23.1; clear HT; have HT := zB.mk hno23.2.1; have HOo23 := zB.mk hno23.2.2; clear hno23 ho0; obtain ⟨Ao23, co23, eeo23⟩ := HOo23.out.slice; subst eeo23; (try clear hb); (try clear hnd); have hczg3 : w9.cell? ⟨g3, 0, none⟩ = some (.slice A0 l0.length c0) := (zM BKg3.out 0).trans rfl; have hfzg3 := zN BKg3.out 0; have hczg10 : w9.cell? ⟨g10, 0, none⟩ = some (.slice Ao20 t19.length co20) := (zM BKg10.out 0).trans rfl; have hfzg10 := zN BKg10.out 0) | ((with_reducible refine zU (f := 18) rfl ?_); refine qH (some 41) rfl rfl Try.func18 (by kernel_rfl) rfl #[.slice A2 l2.length c2] rfl (by (try simp only [yiy, yjy, yky]); first | done | rfl | (simp only [yly, ymy]; rfl)) ?_; (with_reducible refine (qC.calls k _ _ l2 t25 _ ?side1 ?side2 H24.out).mono ?_); (case side1 => exact Kd.zY HR2.out HB.out); (case side2 => exact HC2.out); rintro e w10 ⟨vo26, rfl, ho0, hb⟩; refine ⟨_, rfl, ?_⟩; (try clear hczg3 hfzg3 hczg10 hfzg10); obtain ⟨loo26, hio26, hno26⟩ := ObR.made ho0 hb HT.out (zO HB.out); have nOo8 := zB.mk (ObS.below HOo8.out hb); have nOo11 := zB.mk (ObR.below HOo11.out hb); have nOo14 := zB.mk (ObR.below HOo14.out hb); have nOo20 := zB.mk (ObS.below HOo20.out hb); have nOo23 := zB.mk (ObR.below HOo23.out hb); have nBg3 := zB.mk (zP (g := g3) (o := .cells #[.slice A0 l0.length c0] 24 (0, 0)) BKg3.out hb); have nBg10 := zB.mk (zP (g := g10) (o := .cells #[.slice Ao20 t19.length co20] 30 (0, 0)) BKg10.out hb); have nHB := zB.mk (zL HB.out hb); have nHT := zB.mk (ZA HT.out hb); clear HB HT HOo8 HOo11 HOo14 HOo20 HOo23 BKg3 BKg10; have HOo8 := nOo8; have HOo11 := nOo11; have HOo14 := nOo14; have HOo20 := nOo20; have HOo23 := nOo23; have BKg3 := nBg3; have BKg10 := nBg10; have HB := nHB; have HT := nHT; clear nHB nHT nOo8 nOo11 nOo14 nOo20 nOo23 nBg3 nBg10; have HNo26 := zB.mk hno26.1; clear HT; have HT := zB.mk hno26.2.1; have HOo26 := zB.mk hno26.2.2; clear hno26 ho0; obtain ⟨Ao26, co26, eeo26⟩ := HOo26.out.slice; subst eeo26; (try clear hb); (try clear hnd); have hczg3 : w10.cell? ⟨g3, 0, none⟩ = some (.slice A0 l0.length c0) := (zM BKg3.out 0).trans rfl; have hfzg3 := zN BKg3.out 0; have hczg10 : w10.cell? ⟨g10, 0, none⟩ = some (.slice Ao20 t19.length co20) := (zM BKg10.out 0).trans rfl; have hfzg10 := zN BKg10.out 0) | ((with_reducible refine zU (f := 39) rfl ?_); refine qH (some 46) rfl rfl Try.func39 (by kernel_rfl) rfl #[.agg #[.slice Ao20 t19.length co20], .slice Ao23 t22.length co23, .slice Ao26 t25.length co26] rfl (by (try simp only [yiy, yjy, yky]); first | done | rfl | (simp only [yly, ymy]; rfl)) ?_; (with_reducible refine (zz.calls k _ _ t19 _ _ t22 _ _ t25 t28 t29 _ ?side1 ?side2 ?side3 ?side4 ?side5 ?side6 H27.out).mono ?_); (case side1 => exact (ObS.reads HOo20.out).2.2); (case side2 => exact ObS.room HOo20.out); (case side3 => exact (ObR.reads HOo23.out).2.2); (case side4 => exact ObR.room HOo23.out); (case side5 => exact (ObR.reads HOo26.out).2.2); (case side6 => exact ObR.room HOo26.out); rintro e w11 ⟨rfl, hb⟩; refine ⟨_, rfl, ?_⟩; (try clear hczg3 hfzg3 hczg10 hfzg10); have nOo8 := zB.mk (ObS.below HOo8.out hb); have nOo11 := zB.mk (ObR.below HOo11.out hb); have nOo14 := zB.mk (ObR.below HOo14.out hb); have nOo20 := zB.mk (ObS.below HOo20.out hb); have nOo23 := zB.mk (ObR.below HOo23.out hb); have nOo26 := zB.mk (ObR.below HOo26.out hb); have nBg3 := zB.mk (zP (g := g3) (o := .cells #[.slice A0 l0.length c0] 24 (0, 0)) BKg3.out hb); have nBg10 := zB.mk (zP (g := g10) (o := .cells #[.slice Ao20 t19.length co20] 30 (0, 0)) BKg10.out hb); have nHB := zB.mk (zL HB.out hb); have nHT := zB.mk (ZA HT.out hb); clear HB HT HOo8 HOo11 HOo14 HOo20 HOo23 HOo26 BKg3 BKg10; have HOo8 := nOo8; have HOo11 := nOo11; have HOo14 := nOo14; have HOo20 := nOo20; have HOo23 := nOo23; have HOo26 := nOo26; have BKg3 := nBg3; have BKg10 := nBg10; have HB := nHB; have HT := nHT; clear nHB nHT nOo8 nOo11 nOo14 nOo20 nOo23 nOo26 nBg3 nBg10; (try clear hb); (try clear hnd); have hczg3 : w11.cell? ⟨g3, 0, none⟩ = some (.slice A0 l0.length c0) := (zM BKg3.out 0).trans rfl; have hfzg3 := zN BKg3.out 0; have hczg10 : w11.cell? ⟨g10, 0, none⟩ = some (.slice Ao20 t19.length co20) := (zM BKg10.out 0).trans rfl; have hfzg10 := zN BKg10.out 0))
 (try clear hczg3 hfzg3 hczg10 hfzg10)
 have nOo8 := zB.mk (ObS.drew HOo8.out)
 have nOo11 := zB.mk (ObR.drew HOo11.out)
 have nOo14 := zB.mk (ObR.drew HOo14.out)
 have nOo20 := zB.mk (ObS.drew HOo20.out)
 have nOo23 := zB.mk (ObR.drew HOo23.out)
 have nOo26 := zB.mk (ObR.drew HOo26.out)
 have nBg3 := zB.mk (zJ BKg3.out)
 have nBg10 := zB.mk (zJ BKg10.out)
 have nHB := zB.mk (zD HB.out)
 have nHT := zB.mk (zEw HT.out)
 clear HB HT HOo8 HOo11 HOo14 HOo20 HOo23 HOo26 BKg3 BKg10
 have HOo8 := nOo8
 have HOo11 := nOo11
 have HOo14 := nOo14
 have HOo20 := nOo20
 have HOo23 := nOo23
 have HOo26 := nOo26
 have BKg3 := nBg3
 have BKg10 := nBg10
 have HB := nHB
 have HT := nHT
 clear nHB nHT nOo8 nOo11 nOo14 nOo20 nOo23 nOo26 nBg3 nBg10
 refine Zu (n := 5) (S := fun w' => w'.cell? ⟨g10, 0, none⟩ = some (.slice Ao20 t19.length co20) ∧ w'.cell? ⟨g3, 0, none⟩ = some (.slice A0 l0.length c0)) (ds := []) #[false, false, false, false, false] (by kernel_rfl) rfl rfl ⟨(zM BKg10.out 0).trans rfl, (zM BKg3.out 0).trans rfl⟩ (fun hHeld => ?_)
 generalize hdr_ : World.drew _ = w12 at HOo8 HOo11 HOo14 HOo20 HOo23 HOo26 BKg3 BKg10 HB HT hHeld ⊢
 (try clear hdr_)
 refine qq (i := 0) (N := some 57) (v := ?_) (a' := ?_) #[true, false, false, false, false] rfl rfl (by kernel_rfl) (fun _ _ _ h => h) (Or.inl ⟨by rfl, ?_⟩) hHeld ?_ ?_
 rotate_left
 next =>
  rintro w' ⟨s0, s1⟩
  go_simp
  with_reducible rfl
 rotate_left
 next =>
  simp only [Act.put, yay, yby, ycy, zW, zX]
  rfl
 refine qq (i := 1) (N := some 58) (v := ?_) (a' := ?_) #[true, true, false, false, false] rfl rfl (by kernel_rfl) (fun _ _ _ h => h) (Or.inl ⟨by rfl, ?_⟩) hHeld ?_ ?_
 rotate_left
 next =>
  rintro w' ⟨s0, s1⟩
  go_simp
  with_reducible rfl
 rotate_left
 next =>
  simp only [Act.put, yay, yby, ycy, zW, zX]
  rfl
 refine zAU (i := 2) (N := some 59) #[true, true, true, false, false] rfl rfl (by kernel_rfl) (by decide) (fun K hK => ?_)
 refine JJ Try.func17 (by kernel_rfl) rfl #[.agg #[.slice A0 l0.length c0]] (by rfl) rfl rfl (by (try simp only [yiy, yjy, yky]); first | done | rfl | (simp only [yly, ymy]; rfl)) ?_
 with_reducible refine (qn.calls k _ _ l0 t33 _ ?side1 ?side2 H32.out).mono ?_
 (case side1 => exact Kd.zY HR0.out HB.out)
 (case side2 => exact HC0.out)
 rintro e w13 ⟨vo34, rfl, ho0, hb⟩
 refine ⟨_, rfl, ?_⟩
 (try clear hczg3 hfzg3 hczg10 hfzg10)
 obtain ⟨loo34, hio34, hno34⟩ := ObS.made ho0 hb HT.out (zO HB.out)
 have nOo8 := zB.mk (ObS.below HOo8.out hb)
 have nOo11 := zB.mk (ObR.below HOo11.out hb)
 have nOo14 := zB.mk (ObR.below HOo14.out hb)
 have nOo20 := zB.mk (ObS.below HOo20.out hb)
 have nOo23 := zB.mk (ObR.below HOo23.out hb)
 have nOo26 := zB.mk (ObR.below HOo26.out hb)
 have nBg3 := zB.mk (zP (g := g3) (o := .cells #[.slice A0 l0.length c0] 24 (0, 0)) BKg3.out hb)
 have nBg10 := zB.mk (zP (g := g10) (o := .cells #[.slice Ao20 t19.length co20] 30 (0, 0)) BKg10.out hb)
 have nHB := zB.mk (zL HB.out hb)
 have nHT := zB.mk (ZA HT.out hb)
 clear HB HT HOo8 HOo11 HOo14 HOo20 HOo23 HOo26 BKg3 BKg10
 have HOo8 := nOo8
 have HOo11 := nOo11
 have HOo14 := nOo14
 have HOo20 := nOo20
 have HOo23 := nOo23
 have HOo26 := nOo26
 have BKg3 := nBg3
 have BKg10 := nBg10
 have HB := nHB
 have HT := nHT
 clear nHB nHT nOo8 nOo11 nOo14 nOo20 nOo23 nOo26 nBg3 nBg10
 have HNo34 := zB.mk hno34.1
 clear HT
 have HT := zB.mk hno34.2.1
 have HOo34 := zB.mk hno34.2.2
 clear hno34 ho0
 obtain ⟨Ao34, co34, eeo34⟩ := HOo34.out.slice
 subst eeo34
 (try clear hb)
 (try clear hnd)
 refine hK.out _ _ ⟨(zM BKg10.out 0).trans rfl, (zM BKg3.out 0).trans rfl⟩ (fun hHeld => ?_)
 clear hK K
 refine QS (a' := ?_) ?_ ?_
 rotate_left
 next =>
  show Act.put _ (some 59) _ = _
  simp only [Act.put, yay, yby, ycy, zW, zX]
  rfl
 refine zAU (i := 3) (N := some 60) #[true, true, true, true, false] rfl rfl (by kernel_rfl) (by decide) (fun K hK => ?_)
 refine JJ Try.func20 (by kernel_rfl) rfl #[.agg #[.slice Ao20 t19.length co20], .agg #[.slice Ao34 t33.length co34]] (by rfl) rfl rfl (by (try simp only [yiy, yjy, yky]); first | done | rfl | (simp only [yly, ymy]; rfl)) ?_
 with_reducible refine (ZV.calls k _ _ t19 _ _ t33 true _ ?side1 ?side2 ?side3 ?side4 H35.out).mono ?_
 (case side1 => exact (ObS.reads HOo20.out).2.2)
 (case side2 => exact ObS.room HOo20.out)
 (case side3 => exact (ObS.reads HOo34.out).2.2)
 (case side4 => exact ObS.room HOo34.out)
 rintro e w14 ⟨rfl, hb⟩
 refine ⟨_, rfl, ?_⟩
 (try clear hczg3 hfzg3 hczg10 hfzg10)
 have nOo8 := zB.mk (ObS.below HOo8.out hb)
 have nOo11 := zB.mk (ObR.below HOo11.out hb)
 have nOo14 := zB.mk (ObR.below HOo14.out hb)
 have nOo20 := zB.mk (ObS.below HOo20.out hb)
 have nOo23 := zB.mk (ObR.below HOo23.out hb)
 have nOo26 := zB.mk (ObR.below HOo26.out hb)
 have nOo34 := zB.mk (ObS.below HOo34.out hb)
 have nBg3 := zB.mk (zP (g := g3) (o := .cells #[.slice A0 l0.length c0] 24 (0, 0)) BKg3.out hb)
 have nBg10 := zB.mk (zP (g := g10) (o := .cells #[.slice Ao20 t19.length co20] 30 (0, 0)) BKg10.out hb)
 have nHB := zB.mk (zL HB.out hb)
 have nHT := zB.mk (ZA HT.out hb)
 clear HB HT HOo8 HOo11 HOo14 HOo20 HOo23 HOo26 HOo34 BKg3 BKg10
 have HOo8 := nOo8
 have HOo11 := nOo11
 have HOo14 := nOo14
 have HOo20 := nOo20
 have HOo23 := nOo23
 have HOo26 := nOo26
 have HOo34 := nOo34
 have BKg3 := nBg3
 have BKg10 := nBg10
 have HB := nHB
 have HT := nHT
 clear nHB nHT nOo8 nOo11 nOo14 nOo20 nOo23 nOo26 nOo34 nBg3 nBg10
 (try clear hb)
 (try clear hnd)
 refine hK.out _ _ ⟨(zM BKg10.out 0).trans rfl, (zM BKg3.out 0).trans rfl⟩ (fun hHeld => ?_)
 clear hK K
 refine QS (a' := ?_) ?_ ?_
 rotate_left
 next =>
  show Act.put _ (some 60) _ = _
  simp only [Act.put, yay, yby, ycy, zW, zX]
  rfl
 refine zk (i := 4) (N := some 61) (v := ?_) (a' := ?_) #[true, true, true, true, true] rfl rfl (by kernel_rfl) (fun _ _ _ h => h) (Or.inl ⟨by rfl, ?_⟩) ?_ ?_
 rotate_left
 next =>
  intro w'
  go_simp
  with_reducible rfl
 rotate_left
 next =>
  simp only [Act.put, yay, yby, ycy, zW, zX]
  rfl
 refine Qe (by kernel_rfl) ?_
 have hczg3 : w14.cell? ⟨g3, 0, none⟩ = some (.slice A0 l0.length c0) := (zM BKg3.out 0).trans rfl
 have hfzg3 := zN BKg3.out 0
 have hczg10 : w14.cell? ⟨g10, 0, none⟩ = some (.slice Ao20 t19.length co20) := (zM BKg10.out 0).trans rfl
 have hfzg10 := zN BKg10.out 0
 try go_wp2_with (first | ((with_reducible refine zU (f := 18) rfl ?_); refine qH (some 64) rfl rfl Try.func18 (by kernel_rfl) rfl #[.slice A1 l1.length c1] rfl (by (try simp only [yiy, yjy, yky]); first | done | rfl | (simp only [yly, ymy]; rfl)) ?_; (with_reducible refine (qC.calls k _ _ l1 t38 _ ?side1 ?side2 H37.out).mono ?_); (case side1 => exact Kd.zY HR1.out HB.out); (case side2 => exact HC1.out); rintro e w15 ⟨vo39, rfl, ho0, hb⟩; refine ⟨_, rfl, ?_⟩; (try clear hczg3 hfzg3 hczg10 hfzg10); obtain ⟨loo39, hio39, hno39⟩ := ObR.made ho0 hb HT.out (zO HB.out); have nOo8 := zB.mk (ObS.below HOo8.out hb); have nOo11 := zB.mk (ObR.below HOo11.out hb); have nOo14 := zB.mk (ObR.below HOo14.out hb); have nOo20 := zB.mk (ObS.below HOo20.out hb); have nOo23 := zB.mk (ObR.below HOo23.out hb); have nOo26 := zB.mk (ObR.below HOo26.out hb); have nOo34 := zB.mk (ObS.below HOo34.out hb); have nBg3 := zB.mk (zP (g := g3) (o := .cells #[.slice A0 l0.length c0] 24 (0, 0)) BKg3.out hb); have nBg10 := zB.mk (zP (g := g10) (o := .cells #[.slice Ao20 t19.length co20] 30 (0, 0)) BKg10.out hb); have nHB := zB.mk (zL HB.out hb); have nHT := zB.mk (ZA HT.out hb); clear HB HT HOo8 HOo11 HOo14 HOo20 HOo23 HOo26 HOo34 BKg3 BKg10; have HOo8 := nOo8; have HOo11 := nOo11; have HOo14 := nOo14; have HOo20 := nOo20; have HOo23 := nOo23; have HOo26 := nOo26; have HOo34 := nOo34; have BKg3 := nBg3; have BKg10 := nBg10; have HB := nHB; have HT := nHT; clear nHB nHT nOo8 nOo11 nOo14 nOo20 nOo23 nOo26 nOo34 nBg3 nBg10; have HNo39 := zB.mk hno39.1; clear HT; have HT := zB.mk hno39.2.1; have HOo39 := zB.mk hno39.2.2; clear hno39 ho0; obtain ⟨Ao39, co39, eeo39⟩ := HOo39.out.slice; subst eeo39; (try clear hb); (try clear hnd); have hczg3 : w15.cell? ⟨g3, 0, none⟩ = some (.slice A0 l0.length c0) := (zM BKg3.out 0).trans rfl; have hfzg3 := zN BKg3.out 0; have hczg10 : w15.cell? ⟨g10, 0, none⟩ = some (.slice Ao20 t19.length co20) := (zM BKg10.out 0).trans rfl; have hfzg10 := zN BKg10.out 0) | ((with_reducible refine zU (f := 21) rfl ?_); refine qH (some 65) rfl rfl Try.func21 (by kernel_rfl) rfl #[.slice Ao23 t22.length co23, .slice Ao39 t38.length co39] rfl (by (try simp only [yiy, yjy, yky]); first | done | rfl | (simp only [yly, ymy]; rfl)) ?_; (with_reducible refine (qb.calls k _ _ t22 _ _ t38 true _ ?side1 ?side2 ?side3 ?side4 H40.out).mono ?_); (case side1 => exact (ObR.reads HOo23.out).2.2); (case side2 => exact ObR.room HOo23.out); (case side3 => exact (ObR.reads HOo39.out).2.2); (case side4 => exact ObR.room HOo39.out); rintro e w16 ⟨rfl, ⟨nd, hnd⟩⟩; refine ⟨_, rfl, ?_⟩; have hb := Je hnd; (try clear hczg3 hfzg3 hczg10 hfzg10); have nOo8 := zB.mk (ObS.below HOo8.out hb); have nOo11 := zB.mk (ObR.below HOo11.out hb); have nOo14 := zB.mk (ObR.below HOo14.out hb); have nOo20 := zB.mk (ObS.below HOo20.out hb); have nOo23 := zB.mk (ObR.below HOo23.out hb); have nOo26 := zB.mk (ObR.below HOo26.out hb); have nOo34 := zB.mk (ObS.below HOo34.out hb); have nOo39 := zB.mk (ObR.below HOo39.out hb); have nBg3 := zB.mk (zP (g := g3) (o := .cells #[.slice A0 l0.length c0] 24 (0, 0)) BKg3.out hb); have nBg10 := zB.mk (zP (g := g10) (o := .cells #[.slice Ao20 t19.length co20] 30 (0, 0)) BKg10.out hb); have nHB := zB.mk (zL HB.out hb); have nHT := zB.mk (ZA HT.out hb); clear HB HT HOo8 HOo11 HOo14 HOo20 HOo23 HOo26 HOo34 HOo39 BKg3 BKg10; have HOo8 := nOo8; have HOo11 := nOo11; have HOo14 := nOo14; have HOo20 := nOo20; have HOo23 := nOo23; have HOo26 := nOo26; have HOo34 := nOo34; have HOo39 := nOo39; have BKg3 := nBg3; have BKg10 := nBg10; have HB := nHB; have HT := nHT; clear nHB nHT nOo8 nOo11 nOo14 nOo20 nOo23 nOo26 nOo34 nOo39 nBg3 nBg10; (try clear hb); (try clear hnd); have hczg3 : w16.cell? ⟨g3, 0, none⟩ = some (.slice A0 l0.length c0) := (zM BKg3.out 0).trans rfl; have hfzg3 := zN BKg3.out 0; have hczg10 : w16.cell? ⟨g10, 0, none⟩ = some (.slice Ao20 t19.length co20) := (zM BKg10.out 0).trans rfl; have hfzg10 := zN BKg10.out 0) | ((with_reducible refine zU (f := 18) rfl ?_); refine qH (some 69) rfl rfl Try.func18 (by kernel_rfl) rfl #[.slice A2 l2.length c2] rfl (by (try simp only [yiy, yjy, yky]); first | done | rfl | (simp only [yly, ymy]; rfl)) ?_; (with_reducible refine (qC.calls k _ _ l2 t43 _ ?side1 ?side2 H42.out).mono ?_); (case side1 => exact Kd.zY HR2.out HB.out); (case side2 => exact HC2.out); rintro e w17 ⟨vo44, rfl, ho0, hb⟩; refine ⟨_, rfl, ?_⟩; (try clear hczg3 hfzg3 hczg10 hfzg10); obtain ⟨loo44, hio44, hno44⟩ := ObR.made ho0 hb HT.out (zO HB.out); have nOo8 := zB.mk (ObS.below HOo8.out hb); have nOo11 := zB.mk (ObR.below HOo11.out hb); have nOo14 := zB.mk (ObR.below HOo14.out hb); have nOo20 := zB.mk (ObS.below HOo20.out hb); have nOo23 := zB.mk (ObR.below HOo23.out hb); have nOo26 := zB.mk (ObR.below HOo26.out hb); have nOo34 := zB.mk (ObS.below HOo34.out hb); have nOo39 := zB.mk (ObR.below HOo39.out hb); have nBg3 := zB.mk (zP (g := g3) (o := .cells #[.slice A0 l0.length c0] 24 (0, 0)) BKg3.out hb); have nBg10 := zB.mk (zP (g := g10) (o := .cells #[.slice Ao20 t19.length co20] 30 (0, 0)) BKg10.out hb); have nHB := zB.mk (zL HB.out hb); have nHT := zB.mk (ZA HT.out hb); clear HB HT HOo8 HOo11 HOo14 HOo20 HOo23 HOo26 HOo34 HOo39 BKg3 BKg10; have HOo8 := nOo8; have HOo11 := nOo11; have HOo14 := nOo14; have HOo20 := nOo20; have HOo23 := nOo23; have HOo26 := nOo26; have HOo34 := nOo34; have HOo39 := nOo39; have BKg3 := nBg3; have BKg10 := nBg10; have HB := nHB; have HT := nHT; clear nHB nHT nOo8 nOo11 nOo14 nOo20 nOo23 nOo26 nOo34 nOo39 nBg3 nBg10; have HNo44 := zB.mk hno44.1; clear HT; have HT := zB.mk hno44.2.1; have HOo44 := zB.mk hno44.2.2; clear hno44 ho0; obtain ⟨Ao44, co44, eeo44⟩ := HOo44.out.slice; subst eeo44; (try clear hb); (try clear hnd); have hczg3 : w17.cell? ⟨g3, 0, none⟩ = some (.slice A0 l0.length c0) := (zM BKg3.out 0).trans rfl; have hfzg3 := zN BKg3.out 0; have hczg10 : w17.cell? ⟨g10, 0, none⟩ = some (.slice Ao20 t19.length co20) := (zM BKg10.out 0).trans rfl; have hfzg10 := zN BKg10.out 0) | ((with_reducible refine zU (f := 21) rfl ?_); refine qH (some 70) rfl rfl Try.func21 (by kernel_rfl) rfl #[.slice Ao26 t25.length co26, .slice Ao44 t43.length co44] rfl (by (try simp only [yiy, yjy, yky]); first | done | rfl | (simp only [yly, ymy]; rfl)) ?_; (with_reducible refine (qb.calls k _ _ t25 _ _ t43 true _ ?side1 ?side2 ?side3 ?side4 H45.out).mono ?_); (case side1 => exact (ObR.reads HOo26.out).2.2); (case side2 => exact ObR.room HOo26.out); (case side3 => exact (ObR.reads HOo44.out).2.2); (case side4 => exact ObR.room HOo44.out); rintro e w18 ⟨rfl, ⟨nd, hnd⟩⟩; refine ⟨_, rfl, ?_⟩; have hb := Je hnd; (try clear hczg3 hfzg3 hczg10 hfzg10); have nOo8 := zB.mk (ObS.below HOo8.out hb); have nOo11 := zB.mk (ObR.below HOo11.out hb); have nOo14 := zB.mk (ObR.below HOo14.out hb); have nOo20 := zB.mk (ObS.below HOo20.out hb); have nOo23 := zB.mk (ObR.below HOo23.out hb); have nOo26 := zB.mk (ObR.below HOo26.out hb); have nOo34 := zB.mk (ObS.below HOo34.out hb); have nOo39 := zB.mk (ObR.below HOo39.out hb); have nOo44 := zB.mk (ObR.below HOo44.out hb); have nBg3 := zB.mk (zP (g := g3) (o := .cells #[.slice A0 l0.length c0] 24 (0, 0)) BKg3.out hb); have nBg10 := zB.mk (zP (g := g10) (o := .cells #[.slice Ao20 t19.length co20] 30 (0, 0)) BKg10.out hb); have nHB := zB.mk (zL HB.out hb); have nHT := zB.mk (ZA HT.out hb); clear HB HT HOo8 HOo11 HOo14 HOo20 HOo23 HOo26 HOo34 HOo39 HOo44 BKg3 BKg10; have HOo8 := nOo8; have HOo11 := nOo11; have HOo14 := nOo14; have HOo20 := nOo20; have HOo23 := nOo23; have HOo26 := nOo26; have HOo34 := nOo34; have HOo39 := nOo39; have HOo44 := nOo44; have BKg3 := nBg3; have BKg10 := nBg10; have HB := nHB; have HT := nHT; clear nHB nHT nOo8 nOo11 nOo14 nOo20 nOo23 nOo26 nOo34 nOo39 nOo44 nBg3 nBg10; (try clear hb); (try clear hnd); have hczg3 : w18.cell? ⟨g3, 0, none⟩ = some (.slice A0 l0.length c0) := (zM BKg3.out 0).trans rfl; have hfzg3 := zN BKg3.out 0; have hczg10 : w18.cell? ⟨g10, 0, none⟩ = some (.slice Ao20 t19.length co20) := (zM BKg10.out 0).trans rfl; have hfzg10 := zN BKg10.out 0))
 go_ret
 exact ⟨by first | rfl | (simp <;> rfl), HB.out⟩
end Go.Proofs.Ythjpdljdodalaaa.P
