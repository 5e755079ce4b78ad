/- The statement FnExactMatchingMatrixSaid, proved: part 6 of 7 (texts of this session and of the kit's print, put together and cut to what is used by a program of it). -/
import Derived.Test.YthjpdljdodalaaaMFnExactMatchingMatrix5
namespace Go.Proofs.Ythjpdljdodalaaa.P
open Go.RowKit Go.Proofs.YthjpdljdodalaaaW.PrintWords Go.Proofs.YthjpdljdodalaaaW.PrintLast Go.Proofs.YthjpdljdodalaaaW.PrintMore
attribute [local go_sem] QD QE QY QZ Zq Zr QF QG
set_option linter.unusedVariables false
set_option linter.unusedSimpArgs false
mutual
def zg.l0 : Nat → List (List Int) → Int → List (List (zo)) → Option ((List (List Int)))
 | 0, _, _, _ => none
 | k + 1, x3, x4, x102000 => (zm.f x102000).bind fun t105 => (if x4 < t105 then (zg.l1 k x3 x4 0 x102000) else (some x3))
def zg.l1 : Nat → List (List Int) → Int → Int → List (List (zo)) → Option ((List (List Int)))
 | 0, _, _, _, _ => none
 | k + 1, x3, x4, x5, x102000 => if x5 < 4 then (if 0 ≤ x4 then (if x4 < (x102000.length : Int) then (if 0 ≤ x5 then (if x5 < ((zE x102000 x4).length : Int) then (if ((zJ (zE x102000 x4) x5).f0) > x4 then (if x3.length < 5864062014805 then (zg.l1 k (x3 ++ [(([x4, x5] : List Int))]) x4 (wrap64 (x5 + 1)) x102000) else (none)) else (if ((zJ (zE x102000 x4) x5).f0) = x4 then ((qg.f k ((zJ (zE x102000 x4) x5).f1) x5).bind fun t115 => (if t115 > x5 then (if x3.length < 5864062014805 then (zg.l1 k (x3 ++ [(([x4, x5] : List Int))]) x4 (wrap64 (x5 + 1)) x102000) else (none)) else (zg.l1 k x3 x4 (wrap64 (x5 + 1)) x102000))) else (zg.l1 k x3 x4 (wrap64 (x5 + 1)) x102000))) else (none)) else (none)) else (none)) else (none)) else (zg.l0 k x3 (wrap64 (x4 + 1)) x102000)
end
def zg.f (k : Nat) (l0_0 : List (List (zo))) : Option ((List (List Int))) := zg.l0 k (([] : List (List Int))) 0 l0_0
set_option maxHeartbeats 8000000 in
set_option maxRecDepth 100000 in
theorem zg.calls (k : Nat) (A0_0 : Option Addr) (c0_0 : Nat) (l0_0 : List (List (zo))) (r : List (List Int)) (w : World) (hr0_0 : Kd.C (Kd.slice 115 qh) w A0_0 l0_0.length l0_0) (hc0_0 : l0_0.length ≤ c0_0) (h : zg.f k l0_0 = some r) :
 Calls Try.prog 102 #[.agg #[.slice A0_0 l0_0.length c0_0]] w fun e w' => ∃ v0_ : Value, e = .returned (v0_) ∧ Kd.S (Kd.slice 2 (Kd.int .i64)) 25 w' w.heap.size (fun _ => True) v0_ r ∧ Below w.heap.size w w' := by
 have hu30 := Try.underlying30
 have hu115 := Try.underlying115
 have HR0_0 := zA.mk hr0_0
 have HC0_0 := zA.mk hc0_0
 clear hr0_0 hc0_0
 have HB := zA.mk (ypy w.heap.size w)
 have H : (zg.l0 k (([] : List (List Int))) 0 l0_0) = some r := h
 clear h
 obtain ⟨y102, hy102⟩ : ∃ y_ : List (List Int), y_ = (([] : List (List Int))) := ⟨_, rfl⟩
 replace H : (zg.l0 k y102 0 l0_0) = some r := by first | (rw [hy102]; with_reducible exact H) | (have H2_ := (yfy _ _).symm.trans H; rw [hy102]; with_reducible exact H2_) | (have H2_ := (yfy _ _).symm.trans H; with_reducible exact H2_) | with_reducible exact H | (rw [hy102]; exact H) | exact H
 have Ny102 := zA.mk hy102
 clear hy102
 have H' := zA.mk H
 clear H
 go_enter Try.func102, Try.ntmps102
 go_wp2_with (first | ((with_reducible refine ze (N := 1) rfl ?_); refine zc ?hg (N := 1) ?hd (cs := #[.slice A0_0 l0_0.length c0_0]) (t := 30) ?hr ?_; (case hd => rfl); (case hg => rfl); (case hr => first | (go_simp; done) | (go_simp; rfl)); intro gb101 hg w2 hbox hb; have n0_ := zA.mk (zN (by repeat (first | (with_reducible first | exact HB.out | apply zC | apply zB | apply zD) | exact HB.out)) hb); have n1_ := zA.mk (hbox); have n2_ := zA.mk ((by rw [hg]; exact (zP (by repeat (first | (with_reducible first | exact HB.out | apply zC | apply zB | apply zD) | exact HB.out))) : w.heap.size ≤ gb101)); have n3_ := zA.mk ((by rw [hg]; exact (zP (by repeat (first | (with_reducible first | exact HB.out | apply zC | apply zB | apply zD) | exact HB.out))) : w.heap.size ≤ gb101)); clear HB; have HB := n0_; have BK101 := n1_; have GW101 := n2_; have GE101 := n3_; clear n0_ n1_ n2_ n3_; clear hb hbox hg) | ((with_reducible refine ze (N := 7) rfl ?_); refine Kd.S_lit (Kd.slice 2 (Kd.int .i64)) _ 25 ?hg (N := 7) ?hd (xs := ([] : List (List Int))) (inner := []) (ok := fun _ => True) (okp := fun _ => True) ?hr ?hp (fun _ hk => hk) trivial (ypy _ _) (yoy _) (by simp) ?_; (case hd => rfl); (case hg => rfl); (case hr => first | (go_simp; done) | (go_simp; rfl)); (case hp => exact (QA.none _ _)); intro v103 w3 ho4 hb hg_ hnew_; clear hg_ hnew_; (first | rw [← Ny102.out] at ho4 | (simp only [Int.reduceToNat] at ho4; rw [← Ny102.out] at ho4)); have n0_ := zA.mk (Kd.JK ho4 (zP (by repeat (first | (with_reducible first | exact HB.out | apply zC | apply zB | apply zD | refine zF ?_ GE101.out) | exact HB.out)))); have n1_ := zA.mk (zO (g := gb101) (o := .cells #[.slice A0_0 l0_0.length c0_0] 30 (0, 0)) (by (with_reducible repeat (first | refine zI ?_ _ | refine zL ?_ | refine zH ?_ _)); exact BK101.out) hb); have n2_ := zA.mk (zN (by repeat (first | (with_reducible first | exact HB.out | apply zC | apply zB | apply zD | refine zF ?_ GE101.out) | exact HB.out)) hb); clear BK101; clear HB; have HO104 := n0_; have BK101 := n1_; have HB := n2_; clear n0_ n1_ n2_; clear hb ho4))
 go_loopg [3, 4] k (fun kq v3 v4 w' => ∃ (x3_1 : List (List Int)) (x4_1 : Int), v4 = .int .i64 x4_1 ∧ zA (zg.l0 kq x3_1 x4_1 l0_0 = some r) ∧ zA (kq ≤ k) ∧ zA (Kd.S (Kd.slice 2 (Kd.int .i64)) 25 w' w.heap.size (fun _ => True) v3 x3_1) ∧ zA (w'.heap[gb101]? = some (.cells #[(.slice A0_0 l0_0.length c0_0)] 30 (0, 0))) ∧ zA (Below w.heap.size w w'))
 case atStart => exact ⟨(y102), (0), (by first | rfl | (simp; done) | (simp [*]; done)), H', ⟨yoy _⟩, ⟨by (with_reducible repeat (first | apply Kd.qF | apply Kd.qH | apply Kd.qS)); exact HO104.out⟩, ⟨by (with_reducible repeat (first | refine zI ?_ _ | refine zL ?_ | refine zH ?_ _)); exact BK101.out⟩, ⟨by repeat (first | (with_reducible first | exact HB.out | apply zC | apply zB | apply zD | refine zF ?_ GE101.out) | exact HB.out)⟩⟩
 case round =>
  clear H'
  try clear c1
  try clear p2
  obtain ⟨x3_1, x4_1, rfl, HA, HK1, HO_3, BK101, HB⟩ := hrel
  cases gk with
  | zero => exact absurd HA.out (by simp [zg.l0])
  | succ k1 =>
   have H := HA.out
   clear HA
   simp only [zg.l0] at H
   replace H := ydy.mp H
   obtain ⟨t105, A50, H⟩ := H
   replace H : (if x4_1 < t105 then (zg.l1 k1 x3_1 x4_1 0 l0_0) else (some x3_1)) = some r := H
   have A5 := zA.mk A50
   clear A50
   by_cases c6 : x4_1 < t105
   next =>
    rw [if_pos c6] at H
    have c6b0 : decide (x4_1 < t105) = true := ygy c6
    clear c6
    have H' := zA.mk H
    clear H
    have hcz7_0 : wr.cell? ⟨gb101, 0, none⟩ = some (.slice A0_0 l0_0.length c0_0) := (zK BK101.out 0).trans rfl
    have hfz7_0 := zG BK101.out 0
    go_wp2_with (first | ((with_reducible refine zX (f := 59) rfl ?_); refine qI (some 10) rfl rfl Try.func59 (by kernel_rfl) rfl #[.agg #[.slice A0_0 l0_0.length c0_0]] rfl (by (try simp only [yiy, yjy, yky]); first | done | rfl | (simp only [yly, ymy]; rfl)) ?_; (with_reducible refine (zm.calls _ _ l0_0 t105 _ ?side1 ?side2 A5.out).mono ?_); (case side1 => repeat (first | exact (Kd.qD HR0_0.out HB.out) | (with_reducible refine Kd.qA ?_ _) | (with_reducible refine Kd.qB ?_ _) | (with_reducible refine Kd.qP ?_))); (case side2 => exact HC0_0.out); rintro e w8 ⟨rfl, hb⟩; refine ⟨_, rfl, ?_⟩; have n0_ := zA.mk (Kd.Zd (by (with_reducible repeat (first | apply Kd.qF | apply Kd.qH | apply Kd.qS)); exact HO_3.out) hb); have n1_ := zA.mk (zO (g := gb101) (o := .cells #[.slice A0_0 l0_0.length c0_0] 30 (0, 0)) (by (with_reducible repeat (first | refine zI ?_ _ | refine zL ?_ | refine zH ?_ _)); exact BK101.out) hb); have n2_ := zA.mk (zN (by repeat (first | (with_reducible first | exact HB.out | apply zC | apply zB | apply zD | refine zF ?_ GE101.out) | exact HB.out)) hb); clear HO_3; clear BK101; clear HB; have HO_3 := n0_; have BK101 := n1_; have HB := n2_; clear n0_ n1_ n2_; (try clear hb); (try clear hb2); (try clear hk); (try clear hi)))
    go_loopg [3, 5] k1 (fun kq v3 v5 w' => ∃ (x3_2 : List (List Int)) (x5_2 : Int), v5 = .int .i64 x5_2 ∧ zA (zg.l1 kq x3_2 x4_1 x5_2 l0_0 = some r) ∧ zA (kq ≤ k1) ∧ zA (Kd.S (Kd.slice 2 (Kd.int .i64)) 25 w' w.heap.size (fun _ => True) v3 x3_2) ∧ zA (w'.heap[gb101]? = some (.cells #[(.slice A0_0 l0_0.length c0_0)] 30 (0, 0))) ∧ zA (Below w.heap.size w w'))
    case atStart => exact ⟨(x3_1), (0), (by first | rfl | (simp; done) | (simp [*]; done)), H', ⟨yoy _⟩, ⟨by (with_reducible repeat (first | apply Kd.qF | apply Kd.qH | apply Kd.qS)); exact HO_3.out⟩, ⟨by (with_reducible repeat (first | refine zI ?_ _ | refine zL ?_ | refine zH ?_ _)); exact BK101.out⟩, ⟨by repeat (first | (with_reducible first | exact HB.out | apply zC | apply zB | apply zD | refine zF ?_ GE101.out) | exact HB.out)⟩⟩
    case round =>
     clear H'
     try clear c1
     try clear p2
     try clear c5
     try clear c6
     try clear c6b0
     try clear hcz7_0
     try clear hfz7_0
     try clear p2
     obtain ⟨x3_2, x5_2, rfl, HA, HK2, HO_3, BK101, HB⟩ := hrel
     cases gk with
     | zero => exact absurd HA.out (by simp [zg.l1])
     | succ k2 =>
      have H := HA.out
      clear HA
      simp only [zg.l1] at H
      by_cases c9 : x5_2 < 4
      next =>
       rw [if_pos c9] at H
       have c9b0 : decide (x5_2 < 4) = true := ygy c9
       clear c9
       by_cases c10 : 0 ≤ x4_1
       next =>
        rw [if_pos c10] at H
        have c10b0 : decide (0 ≤ x4_1) = true := ygy c10
        clear c10
        by_cases c11 : x4_1 < (l0_0.length : Int)
        next =>
         rw [if_pos c11] at H
         have c11b0 : decide (x4_1 < (l0_0.length : Int)) = true := ygy c11
         clear c11
         by_cases c12 : 0 ≤ x5_2
         next =>
          rw [if_pos c12] at H
          have c12b0 : decide (0 ≤ x5_2) = true := ygy c12
          clear c12
          by_cases c13 : x5_2 < ((zE l0_0 x4_1).length : Int)
          next =>
           rw [if_pos c13] at H
           have c13b0 : decide (x5_2 < ((zE l0_0 x4_1).length : Int)) = true := ygy c13
           clear c13
           by_cases c14 : ((zJ (zE l0_0 x4_1) x5_2).f0) > x4_1
           next =>
            rw [if_pos c14] at H
            have c14b0 : decide (x4_1 < ((zJ (zE l0_0 x4_1) x5_2).f0)) = true := ygy c14
            clear c14
            obtain ⟨y109, hy109⟩ : ∃ y_ : List Int, y_ = (([x4_1, x5_2] : List Int)) := ⟨_, rfl⟩
            replace H : (if x3_2.length < 5864062014805 then (zg.l1 k2 (x3_2 ++ [y109]) x4_1 (wrap64 (x5_2 + 1)) l0_0) else (none)) = some r := by first | (rw [hy109]; with_reducible exact H) | (have H2_ := (yfy _ _).symm.trans H; rw [hy109]; with_reducible exact H2_) | (have H2_ := (yfy _ _).symm.trans H; with_reducible exact H2_) | with_reducible exact H | (rw [hy109]; exact H) | exact H
            have Ny109 := zA.mk hy109
            clear hy109
            by_cases c15 : x3_2.length < 5864062014805
            next =>
             rw [if_pos c15] at H
             have LMc15 := zA.mk c15
             clear c15
             obtain ⟨y112, hy112⟩ : ∃ y_ : List (List Int), y_ = (x3_2 ++ [y109]) := ⟨_, rfl⟩
             replace H : (zg.l1 k2 y112 x4_1 (wrap64 (x5_2 + 1)) l0_0) = some r := by first | (rw [hy112]; with_reducible exact H) | (have H2_ := (yfy _ _).symm.trans H; rw [hy112]; with_reducible exact H2_) | (have H2_ := (yfy _ _).symm.trans H; with_reducible exact H2_) | with_reducible exact H | (rw [hy112]; exact H) | exact H
             have Ny112 := zA.mk hy112
             clear hy112
             have H' := zA.mk H
             clear H
             have hcz16_0 : wr.cell? ⟨gb101, 0, none⟩ = some (.slice A0_0 l0_0.length c0_0) := (zK BK101.out 0).trans rfl
             have hfz16_0 := zG BK101.out 0
             have p106 : 0 ≤ (x4_1 : Int) := of_decide_eq_true (by first | (with_reducible assumption) | assumption)
             have q106 : x4_1 < (l0_0.length : Int) := of_decide_eq_true (by first | (with_reducible assumption) | assumption)
             obtain ⟨ad106, A106_0, c106_0, e106, hx106_0, hl106_0, hi106_0⟩ := qv HR0_0.out x4_1 p106 q106
             cases e106
             replace hx106_0 := (HB.out.cell (yny w _ hx106_0)).trans hx106_0
             have HR106_0 := zA.mk hi106_0
             have HC106_0 := zA.mk hl106_0
             clear hi106_0 hl106_0
             replace p106 := eq_true p106
             replace q106 := eq_true q106
             have p107 : 0 ≤ (x5_2 : Int) := of_decide_eq_true (by first | (with_reducible assumption) | assumption)
             have q107 : x5_2 < ((zE l0_0 x4_1).length : Int) := of_decide_eq_true (by first | (with_reducible assumption) | assumption)
             obtain ⟨ad107, e107, hx107_0, hx107_1⟩ := ZT HR106_0.out x5_2 p107 q107
             cases e107
             replace hx107_0 := (HB.out.cell (yny w _ hx107_0)).trans hx107_0
             replace hx107_1 := (HB.out.cell (yny w _ hx107_1)).trans hx107_1
             replace p107 := eq_true p107
             replace q107 := eq_true q107
             go_wp2_with (first | ((with_reducible refine ze (N := 6) rfl ?_); refine zc ?hg (N := 6) ?hd (cs := #[.int .i64 0, .int .i64 0]) (t := 115) ?hr ?_; (case hd => rfl); (case hg => rfl); (case hr => first | (go_simp; done) | (go_simp; rfl)); intro gb108 hg w17 hbox hb; have n0_ := zA.mk (Kd.Zd (by (with_reducible repeat (first | apply Kd.qF | apply Kd.qH | apply Kd.qS)); exact HO_3.out) hb); have n1_ := zA.mk (zO (g := gb101) (o := .cells #[.slice (some ad106) l0_0.length c0_0] 30 (0, 0)) (by (with_reducible repeat (first | refine zI ?_ _ | refine zL ?_ | refine zH ?_ _)); exact BK101.out) hb); have n2_ := zA.mk (zN (by repeat (first | (with_reducible first | exact HB.out | apply zC | apply zB | apply zD | refine zF ?_ GE101.out) | exact HB.out)) hb); have n3_ := zA.mk (hbox); have n4_ := zA.mk ((by rw [hg]; exact (zP (by repeat (first | (with_reducible first | exact HB.out | apply zC | apply zB | apply zD | refine zF ?_ GE101.out) | exact HB.out))) : w.heap.size ≤ gb108)); have n5_ := zA.mk ((by rw [hg]; exact (zP (by repeat (first | (with_reducible first | exact HB.out | apply zC | apply zB | apply zD | refine zF ?_ GE101.out) | exact HB.out))) : w.heap.size ≤ gb108)); have n6_ := zA.mk ((by rw [hg]; exact Nat.ne_of_lt (qG (g := gb101) (o := .cells #[.slice (some ad106) l0_0.length c0_0] 30 (0, 0)) (by (with_reducible repeat (first | refine zI ?_ _ | refine zL ?_ | refine zH ?_ _)); exact BK101.out)) : gb101 ≠ gb108)); have n7_ := zA.mk ((by rw [hg]; exact Nat.ne_of_gt (qG (g := gb101) (o := .cells #[.slice (some ad106) l0_0.length c0_0] 30 (0, 0)) (by (with_reducible repeat (first | refine zI ?_ _ | refine zL ?_ | refine zH ?_ _)); exact BK101.out)) : gb108 ≠ gb101)); clear HO_3; clear BK101; clear HB; have HO_3 := n0_; have BK101 := n1_; have HB := n2_; have BK108 := n3_; have GW108 := n4_; have GE108 := n5_; have NB101_108 := n6_; have NB108_101 := n7_; clear n0_ n1_ n2_ n3_ n4_ n5_ n6_ n7_; clear hb hbox hg; have hnb18 := NB108_101.out; have hnc18 := NB101_108.out; have hcz19_0 : w17.cell? ⟨gb108, 0, none⟩ = some (.int .i64 0) := (zK BK108.out 0).trans rfl; have hcz19_1 : w17.cell? ⟨gb108, 1, none⟩ = some (.int .i64 0) := (zK BK108.out 1).trans rfl; have hfz19_0 := zG BK108.out 0; have hfz19_1 := zG BK108.out 1) | ((with_reducible refine ze (N := 47) rfl ?_); refine Kd.zBs (Kd.int .i64) _ 2 ?hg (N := 47) ?hd (xs := ([x4_1, x5_2] : List Int)) (inner := [.int .i64 x4_1, .int .i64 x5_2]) (ok := fun _ => True) (okp := fun _ => True) ?hr ?hp (fun _ hk => hk) trivial (ypy _ _) (yoy _) (by simp) ?_; (case hd => rfl); (case hg => rfl); (case hr => first | (go_simp; done) | (go_simp; rfl)); (case hp => exact (QA.one (show Kd.M (Kd.int .i64) _ _ _ x4_1 [.int .i64 x4_1] from rfl) (QA.one (show Kd.M (Kd.int .i64) _ _ _ x5_2 [.int .i64 x5_2] from rfl) (QA.none _ _)))); intro v110 w20 ho21 hb hg_ hnew_; clear hg_ hnew_; (first | rw [← Ny109.out] at ho21 | (simp only [Int.reduceToNat] at ho21; rw [← Ny109.out] at ho21)); have n0_ := zA.mk (Kd.JE (by (with_reducible repeat (first | apply Kd.qF | apply Kd.qH | apply Kd.qS)); exact (Kd.ZJ (Kd.JL (p := ⟨gb108, 1, none⟩) (Kd.JL (p := ⟨gb108, 0, none⟩) (Kd.Qx HO_3.out BK108.out (by decide)) (fun _ hk => hk.2) (.int .i64 ((zJ (zE l0_0 x4_1) x5_2).f0))) (fun _ hk => hk.2) (.int .i64 ((zJ (zE l0_0 x4_1) x5_2).f1))) (fun _ h_ => h_.1))) (Kd.Qd ho21) hb); have n1_ := zA.mk (Kd.ZR ho21 (zP (by repeat (first | (with_reducible first | exact HB.out | apply zC | apply zB | apply zD | refine zF ?_ GE101.out | refine zF ?_ GE108.out) | exact HB.out)))); have n2_ := zA.mk (zO (g := gb101) (o := .cells #[.slice (some ad106) l0_0.length c0_0] 30 (0, 0)) (by (with_reducible repeat (first | refine zI ?_ _ | refine zL ?_ | refine zH ?_ _)); refine zn ?_ NB101_108.out _; (with_reducible repeat (first | refine zI ?_ _ | refine zL ?_ | refine zH ?_ _)); refine zn ?_ NB101_108.out _; (with_reducible repeat (first | refine zI ?_ _ | refine zL ?_ | refine zH ?_ _)); exact BK101.out) hb); have n3_ := zA.mk (zO (g := gb108) (o := .cells #[.int .i64 ((zJ (zE l0_0 x4_1) x5_2).f0), .int .i64 ((zJ (zE l0_0 x4_1) x5_2).f1)] 115 (0, 0)) (by (with_reducible repeat (first | refine zI ?_ _ | refine zL ?_ | refine zH ?_ _)); refine zu (cs := #[.int .i64 ((zJ (zE l0_0 x4_1) x5_2).f0), .int .i64 0]) ?_ 1 _ rfl; (with_reducible repeat (first | refine zI ?_ _ | refine zL ?_ | refine zH ?_ _)); refine zu (cs := #[.int .i64 0, .int .i64 0]) ?_ 0 _ rfl; (with_reducible repeat (first | refine zI ?_ _ | refine zL ?_ | refine zH ?_ _)); exact BK108.out) hb); have n4_ := zA.mk (zN (by repeat (first | (with_reducible first | exact HB.out | apply zC | apply zB | apply zD | refine zF ?_ GE101.out | refine zF ?_ GE108.out) | exact HB.out)) hb); clear HO_3; clear BK101; clear BK108; clear HB; have HO_3 := n0_; have HO111 := n1_; have BK101 := n2_; have BK108 := n3_; have HB := n4_; clear n0_ n1_ n2_ n3_ n4_; clear hb ho21; obtain ⟨Ao23, co23, eo23⟩ := Kd.ZK HO111.out; subst eo23) | ((with_reducible refine Zh (b := .append) (xs := #[.tmp 44, .tmp 48]) rfl ?_); at_builtin; refine Kd.zB4 (Kd.slice 2 (Kd.int .i64)) (w0 := w) w.heap.size rfl (.tmp 44) (.tmp 48) 54 25 (.slice none 0 0) 24 rfl Try.underlying54 zDF rfl (by decide) (by omega) u3 x3_2 y109 [.slice Ao23 y109.length co23] (fun _ => True) (fun k_ => some k_ = (.slice Ao23 y109.length co23 : Value).ownBlock) rfl rfl ?aP (fun k_ hk_ => ((Kd.qL (ok' := fun k_ => ((fun _ => True)) k_ ∧ some k_ ≠ (u3 : Value).ownBlock) (Kd.QB (HO111.out) (Kd.QW HO_3.out) (by decide)) (fun k_ hk => ⟨trivial, hk.2⟩))).1 k_ hk_.symm) ?aF ?aO ?aB ?aS ?aL ?_; (case aP => exact Kd.zDc (Kd.qL (Kd.QV rfl (Kd.qL (ok' := fun k_ => ((fun _ => True)) k_ ∧ some k_ ≠ (u3 : Value).ownBlock) (Kd.QB (HO111.out) (Kd.QW HO_3.out) (by decide)) (fun k_ hk => ⟨trivial, hk.2⟩))) (fun _ h_ => h_))); (case aB => exact (by repeat (first | (with_reducible first | exact HB.out | apply zC | apply zB | apply zD | refine zF ?_ GE101.out | refine zF ?_ GE108.out) | exact HB.out))); (case aF => exact (fun _ _ => trivial)); (case aO => exact (by (with_reducible repeat (first | apply Kd.qF | apply Kd.qH | apply Kd.qS)); exact Kd.ZJ HO_3.out (fun k_ hk => ⟨trivial, fun e_ => hk.2 e_⟩))); (case aS => exact (zP (by repeat (first | (with_reducible first | exact HB.out | apply zC | apply zB | apply zD | refine zF ?_ GE101.out | refine zF ?_ GE108.out) | exact HB.out)))); (case aL => have := LMc15.out; omega); intro v113 w22 ho hb hg hat; rw [← Ny112.out] at ho; have n0_ := zA.mk (qa (g := gb101) (o := .cells #[.slice (some ad106) l0_0.length c0_0] 30 (0, 0)) (by (with_reducible repeat (first | refine zI ?_ _ | refine zL ?_ | refine zH ?_ _)); exact BK101.out) hg (Kd.S_ne HO_3.out BK101.out (by decide))); have n1_ := zA.mk (qa (g := gb108) (o := .cells #[.int .i64 ((zJ (zE l0_0 x4_1) x5_2).f0), .int .i64 ((zJ (zE l0_0 x4_1) x5_2).f1)] 115 (0, 0)) (by (with_reducible repeat (first | refine zI ?_ _ | refine zL ?_ | refine zH ?_ _)); exact BK108.out) hg (Kd.S_ne HO_3.out BK108.out (by decide))); have n2_ := zA.mk (hb); have n3_ := zA.mk (ho); clear BK101; clear BK108; clear HB; clear HO_3; clear HO111; have BK101 := n0_; have BK108 := n1_; have HB := n2_; have HO114 := n3_; clear n0_ n1_ n2_ n3_; clear ho hb hg hat))
             go_roundg k2
             case measure => have := HK1.out; have := HK2.out; omega
             case rel => exact ⟨(y112), (wrap64 (x5_2 + 1)), (by first | rfl | (simp; done) | (simp [*]; done)), H', ⟨by have := HK1.out; have := HK2.out; omega⟩, ⟨by (with_reducible repeat (first | apply Kd.qF | apply Kd.qH | apply Kd.qS)); exact HO114.out⟩, ⟨by (with_reducible repeat (first | refine zI ?_ _ | refine zL ?_ | refine zH ?_ _)); exact BK101.out⟩, ⟨by repeat (first | (with_reducible first | exact HB.out | apply zC | apply zB | apply zD | refine zF ?_ GE101.out | refine zF ?_ GE108.out) | exact HB.out)⟩⟩
            next =>
             rw [if_neg c15] at H
             exact absurd H (by simp)
           next =>
            rw [if_neg c14] at H
            have c14b0 : decide (x4_1 < ((zJ (zE l0_0 x4_1) x5_2).f0)) = false := yhy c14
            clear c14
            by_cases c24 : ((zJ (zE l0_0 x4_1) x5_2).f0) = x4_1
            next =>
             rw [if_pos c24] at H
             have c24b0 : (((zJ (zE l0_0 x4_1) x5_2).f0) == x4_1) = true := beq_iff_eq.mpr c24
             have c24b1 : (((zJ (zE l0_0 x4_1) x5_2).f0) != x4_1) = false := bne_eq_false_iff_eq.mpr c24
             clear c24
             replace H := ydy.mp H
             obtain ⟨t115, A250, H⟩ := H
             replace H : (if t115 > x5_2 then (if x3_2.length < 5864062014805 then (zg.l1 k2 (x3_2 ++ [(([x4_1, x5_2] : List Int))]) x4_1 (wrap64 (x5_2 + 1)) l0_0) else (none)) else (zg.l1 k2 x3_2 x4_1 (wrap64 (x5_2 + 1)) l0_0)) = some r := H
             have A25 := zA.mk A250
             clear A250
             by_cases c26 : t115 > x5_2
             next =>
              rw [if_pos c26] at H
              have c26b0 : decide (x5_2 < t115) = true := ygy c26
              clear c26
              obtain ⟨y116, hy116⟩ : ∃ y_ : List Int, y_ = (([x4_1, x5_2] : List Int)) := ⟨_, rfl⟩
              replace H : (if x3_2.length < 5864062014805 then (zg.l1 k2 (x3_2 ++ [y116]) x4_1 (wrap64 (x5_2 + 1)) l0_0) else (none)) = some r := by first | (rw [hy116]; with_reducible exact H) | (have H2_ := (yfy _ _).symm.trans H; rw [hy116]; with_reducible exact H2_) | (have H2_ := (yfy _ _).symm.trans H; with_reducible exact H2_) | with_reducible exact H | (rw [hy116]; exact H) | exact H
              have Ny116 := zA.mk hy116
              clear hy116
              by_cases c27 : x3_2.length < 5864062014805
              next =>
               rw [if_pos c27] at H
               have LMc27 := zA.mk c27
               clear c27
               obtain ⟨y119, hy119⟩ : ∃ y_ : List (List Int), y_ = (x3_2 ++ [y116]) := ⟨_, rfl⟩
               replace H : (zg.l1 k2 y119 x4_1 (wrap64 (x5_2 + 1)) l0_0) = some r := by first | (rw [hy119]; with_reducible exact H) | (have H2_ := (yfy _ _).symm.trans H; rw [hy119]; with_reducible exact H2_) | (have H2_ := (yfy _ _).symm.trans H; with_reducible exact H2_) | with_reducible exact H | (rw [hy119]; exact H) | exact H
               have Ny119 := zA.mk hy119
               clear hy119
               have H' := zA.mk H
               clear H
               have hcz28_0 : wr.cell? ⟨gb101, 0, none⟩ = some (.slice A0_0 l0_0.length c0_0) := (zK BK101.out 0).trans rfl
               have hfz28_0 := zG BK101.out 0
               have p106 : 0 ≤ (x4_1 : Int) := of_decide_eq_true (by first | (with_reducible assumption) | assumption)
               have q106 : x4_1 < (l0_0.length : Int) := of_decide_eq_true (by first | (with_reducible assumption) | assumption)
               obtain ⟨ad106, A106_0, c106_0, e106, hx106_0, hl106_0, hi106_0⟩ := qv HR0_0.out x4_1 p106 q106
               cases e106
               replace hx106_0 := (HB.out.cell (yny w _ hx106_0)).trans hx106_0
               have HR106_0 := zA.mk hi106_0
               have HC106_0 := zA.mk hl106_0
               clear hi106_0 hl106_0
               replace p106 := eq_true p106
               replace q106 := eq_true q106
               have p107 : 0 ≤ (x5_2 : Int) := of_decide_eq_true (by first | (with_reducible assumption) | assumption)
               have q107 : x5_2 < ((zE l0_0 x4_1).length : Int) := of_decide_eq_true (by first | (with_reducible assumption) | assumption)
               obtain ⟨ad107, e107, hx107_0, hx107_1⟩ := ZT HR106_0.out x5_2 p107 q107
               cases e107
               replace hx107_0 := (HB.out.cell (yny w _ hx107_0)).trans hx107_0
               replace hx107_1 := (HB.out.cell (yny w _ hx107_1)).trans hx107_1
               replace p107 := eq_true p107
               replace q107 := eq_true q107
               go_wp2_with (first | ((with_reducible refine ze (N := 6) rfl ?_); refine zc ?hg (N := 6) ?hd (cs := #[.int .i64 0, .int .i64 0]) (t := 115) ?hr ?_; (case hd => rfl); (case hg => rfl); (case hr => first | (go_simp; done) | (go_simp; rfl)); intro gb108 hg w29 hbox hb; have n0_ := zA.mk (Kd.Zd (by (with_reducible repeat (first | apply Kd.qF | apply Kd.qH | apply Kd.qS)); exact HO_3.out) hb); have n1_ := zA.mk (zO (g := gb101) (o := .cells #[.slice (some ad106) l0_0.length c0_0] 30 (0, 0)) (by (with_reducible repeat (first | refine zI ?_ _ | refine zL ?_ | refine zH ?_ _)); exact BK101.out) hb); have n2_ := zA.mk (zN (by repeat (first | (with_reducible first | exact HB.out | apply zC | apply zB | apply zD | refine zF ?_ GE101.out) | exact HB.out)) hb); have n3_ := zA.mk (hbox); have n4_ := zA.mk ((by rw [hg]; exact (zP (by repeat (first | (with_reducible first | exact HB.out | apply zC | apply zB | apply zD | refine zF ?_ GE101.out) | exact HB.out))) : w.heap.size ≤ gb108)); have n5_ := zA.mk ((by rw [hg]; exact (zP (by repeat (first | (with_reducible first | exact HB.out | apply zC | apply zB | apply zD | refine zF ?_ GE101.out) | exact HB.out))) : w.heap.size ≤ gb108)); have n6_ := zA.mk ((by rw [hg]; exact Nat.ne_of_lt (qG (g := gb101) (o := .cells #[.slice (some ad106) l0_0.length c0_0] 30 (0, 0)) (by (with_reducible repeat (first | refine zI ?_ _ | refine zL ?_ | refine zH ?_ _)); exact BK101.out)) : gb101 ≠ gb108)); have n7_ := zA.mk ((by rw [hg]; exact Nat.ne_of_gt (qG (g := gb101) (o := .cells #[.slice (some ad106) l0_0.length c0_0] 30 (0, 0)) (by (with_reducible repeat (first | refine zI ?_ _ | refine zL ?_ | refine zH ?_ _)); exact BK101.out)) : gb108 ≠ gb101)); clear HO_3; clear BK101; clear HB; have HO_3 := n0_; have BK101 := n1_; have HB := n2_; have BK108 := n3_; have GW108 := n4_; have GE108 := n5_; have NB101_108 := n6_; have NB108_101 := n7_; clear n0_ n1_ n2_ n3_ n4_ n5_ n6_ n7_; clear hb hbox hg; have hnb30 := NB108_101.out; have hnc30 := NB101_108.out; have hcz31_0 : w29.cell? ⟨gb108, 0, none⟩ = some (.int .i64 0) := (zK BK108.out 0).trans rfl; have hcz31_1 : w29.cell? ⟨gb108, 1, none⟩ = some (.int .i64 0) := (zK BK108.out 1).trans rfl; have hfz31_0 := zG BK108.out 0; have hfz31_1 := zG BK108.out 1) | (go_at_call 121; (with_reducible refine (qg.calls k2 ((zJ (zE l0_0 x4_1) x5_2).f1) x5_2 t115 _ A25.out).mono ?_); rintro e w32 ⟨rfl, hb⟩; have n0_ := zA.mk (Kd.Zd (by (with_reducible repeat (first | apply Kd.qF | apply Kd.qH | apply Kd.qS)); exact (Kd.ZJ (Kd.JL (p := ⟨gb108, 1, none⟩) (Kd.JL (p := ⟨gb108, 0, none⟩) (Kd.Qx HO_3.out BK108.out (by decide)) (fun _ hk => hk.2) (.int .i64 ((zJ (zE l0_0 x4_1) x5_2).f0))) (fun _ hk => hk.2) (.int .i64 ((zJ (zE l0_0 x4_1) x5_2).f1))) (fun _ h_ => h_.1))) hb); have n1_ := zA.mk (zO (g := gb101) (o := .cells #[.slice (some ad106) l0_0.length c0_0] 30 (0, 0)) (by (with_reducible repeat (first | refine zI ?_ _ | refine zL ?_ | refine zH ?_ _)); refine zn ?_ NB101_108.out _; (with_reducible repeat (first | refine zI ?_ _ | refine zL ?_ | refine zH ?_ _)); refine zn ?_ NB101_108.out _; (with_reducible repeat (first | refine zI ?_ _ | refine zL ?_ | refine zH ?_ _)); exact BK101.out) hb); have n2_ := zA.mk (zO (g := gb108) (o := .cells #[.int .i64 ((zJ (zE l0_0 x4_1) x5_2).f0), .int .i64 ((zJ (zE l0_0 x4_1) x5_2).f1)] 115 (0, 0)) (by (with_reducible repeat (first | refine zI ?_ _ | refine zL ?_ | refine zH ?_ _)); refine zu (cs := #[.int .i64 ((zJ (zE l0_0 x4_1) x5_2).f0), .int .i64 0]) ?_ 1 _ rfl; (with_reducible repeat (first | refine zI ?_ _ | refine zL ?_ | refine zH ?_ _)); refine zu (cs := #[.int .i64 0, .int .i64 0]) ?_ 0 _ rfl; (with_reducible repeat (first | refine zI ?_ _ | refine zL ?_ | refine zH ?_ _)); exact BK108.out) hb); have n3_ := zA.mk (zN (by repeat (first | (with_reducible first | exact HB.out | apply zC | apply zB | apply zD | refine zF ?_ GE101.out | refine zF ?_ GE108.out) | exact HB.out)) hb); clear HO_3; clear BK101; clear BK108; clear HB; have HO_3 := n0_; have BK101 := n1_; have BK108 := n2_; have HB := n3_; clear n0_ n1_ n2_ n3_; (try clear hb); (try clear hb2); (try clear hk); (try clear hi)) | ((with_reducible refine ze (N := 47) rfl ?_); refine Kd.zBs (Kd.int .i64) _ 2 ?hg (N := 47) ?hd (xs := ([x4_1, x5_2] : List Int)) (inner := [.int .i64 x4_1, .int .i64 x5_2]) (ok := fun _ => True) (okp := fun _ => True) ?hr ?hp (fun _ hk => hk) trivial (ypy _ _) (yoy _) (by simp) ?_; (case hd => rfl); (case hg => rfl); (case hr => first | (go_simp; done) | (go_simp; rfl)); (case hp => exact (QA.one (show Kd.M (Kd.int .i64) _ _ _ x4_1 [.int .i64 x4_1] from rfl) (QA.one (show Kd.M (Kd.int .i64) _ _ _ x5_2 [.int .i64 x5_2] from rfl) (QA.none _ _)))); intro v117 w33 ho34 hb hg_ hnew_; clear hg_ hnew_; (first | rw [← Ny116.out] at ho34 | (simp only [Int.reduceToNat] at ho34; rw [← Ny116.out] at ho34)); have n0_ := zA.mk (Kd.JE (by (with_reducible repeat (first | apply Kd.qF | apply Kd.qH | apply Kd.qS)); exact HO_3.out) (Kd.Qd ho34) hb); have n1_ := zA.mk (Kd.ZR ho34 (zP (by repeat (first | (with_reducible first | exact HB.out | apply zC | apply zB | apply zD | refine zF ?_ GE101.out | refine zF ?_ GE108.out) | exact HB.out)))); have n2_ := zA.mk (zO (g := gb101) (o := .cells #[.slice (some ad106) l0_0.length c0_0] 30 (0, 0)) (by (with_reducible repeat (first | refine zI ?_ _ | refine zL ?_ | refine zH ?_ _)); exact BK101.out) hb); have n3_ := zA.mk (zO (g := gb108) (o := .cells #[.int .i64 ((zJ (zE l0_0 x4_1) x5_2).f0), .int .i64 ((zJ (zE l0_0 x4_1) x5_2).f1)] 115 (0, 0)) (by (with_reducible repeat (first | refine zI ?_ _ | refine zL ?_ | refine zH ?_ _)); exact BK108.out) hb); have n4_ := zA.mk (zN (by repeat (first | (with_reducible first | exact HB.out | apply zC | apply zB | apply zD | refine zF ?_ GE101.out | refine zF ?_ GE108.out) | exact HB.out)) hb); clear HO_3; clear BK101; clear BK108; clear HB; have HO_3 := n0_; have HO118 := n1_; have BK101 := n2_; have BK108 := n3_; have HB := n4_; clear n0_ n1_ n2_ n3_ n4_; clear hb ho34; obtain ⟨Ao36, co36, eo36⟩ := Kd.ZK HO118.out; subst eo36) | ((with_reducible refine Zh (b := .append) (xs := #[.tmp 44, .tmp 48]) rfl ?_); at_builtin; refine Kd.zB4 (Kd.slice 2 (Kd.int .i64)) (w0 := w) w.heap.size rfl (.tmp 44) (.tmp 48) 54 25 (.slice none 0 0) 24 rfl Try.underlying54 zDF rfl (by decide) (by omega) u3 x3_2 y116 [.slice Ao36 y116.length co36] (fun _ => True) (fun k_ => some k_ = (.slice Ao36 y116.length co36 : Value).ownBlock) rfl rfl ?aP (fun k_ hk_ => ((Kd.qL (ok' := fun k_ => ((fun _ => True)) k_ ∧ some k_ ≠ (u3 : Value).ownBlock) (Kd.QB (HO118.out) (Kd.QW HO_3.out) (by decide)) (fun k_ hk => ⟨trivial, hk.2⟩))).1 k_ hk_.symm) ?aF ?aO ?aB ?aS ?aL ?_; (case aP => exact Kd.zDc (Kd.qL (Kd.QV rfl (Kd.qL (ok' := fun k_ => ((fun _ => True)) k_ ∧ some k_ ≠ (u3 : Value).ownBlock) (Kd.QB (HO118.out) (Kd.QW HO_3.out) (by decide)) (fun k_ hk => ⟨trivial, hk.2⟩))) (fun _ h_ => h_))); (case aB => exact (by repeat (first | (with_reducible first | exact HB.out | apply zC | apply zB | apply zD | refine zF ?_ GE101.out | refine zF ?_ GE108.out) | exact HB.out))); (case aF => exact (fun _ _ => trivial)); (case aO => exact (by (with_reducible repeat (first | apply Kd.qF | apply Kd.qH | apply Kd.qS)); exact Kd.ZJ HO_3.out (fun k_ hk => ⟨trivial, fun e_ => hk.2 e_⟩))); (case aS => exact (zP (by repeat (first | (with_reducible first | exact HB.out | apply zC | apply zB | apply zD | refine zF ?_ GE101.out | refine zF ?_ GE108.out) | exact HB.out)))); (case aL => have := LMc27.out; omega); intro v120 w35 ho hb hg hat; rw [← Ny119.out] at ho; have n0_ := zA.mk (qa (g := gb101) (o := .cells #[.slice (some ad106) l0_0.length c0_0] 30 (0, 0)) (by (with_reducible repeat (first | refine zI ?_ _ | refine zL ?_ | refine zH ?_ _)); exact BK101.out) hg (Kd.S_ne HO_3.out BK101.out (by decide))); have n1_ := zA.mk (qa (g := gb108) (o := .cells #[.int .i64 ((zJ (zE l0_0 x4_1) x5_2).f0), .int .i64 ((zJ (zE l0_0 x4_1) x5_2).f1)] 115 (0, 0)) (by (with_reducible repeat (first | refine zI ?_ _ | refine zL ?_ | refine zH ?_ _)); exact BK108.out) hg (Kd.S_ne HO_3.out BK108.out (by decide))); have n2_ := zA.mk (hb); have n3_ := zA.mk (ho); clear BK101; clear BK108; clear HB; clear HO_3; clear HO118; have BK101 := n0_; have BK108 := n1_; have HB := n2_; have HO121 := n3_; clear n0_ n1_ n2_ n3_; clear ho hb hg hat))
               go_roundg k2
               case measure => have := HK1.out; have := HK2.out; omega
               case rel => exact ⟨(y119), (wrap64 (x5_2 + 1)), (by first | rfl | (simp; done) | (simp [*]; done)), H', ⟨by have := HK1.out; have := HK2.out; omega⟩, ⟨by (with_reducible repeat (first | apply Kd.qF | apply Kd.qH | apply Kd.qS)); exact HO121.out⟩, ⟨by (with_reducible repeat (first | refine zI ?_ _ | refine zL ?_ | refine zH ?_ _)); exact BK101.out⟩, ⟨by repeat (first | (with_reducible first | exact HB.out | apply zC | apply zB | apply zD | refine zF ?_ GE101.out | refine zF ?_ GE108.out) | exact HB.out)⟩⟩
              next =>
               rw [if_neg c27] at H
               exact absurd H (by simp)
             next =>
              rw [if_neg c26] at H
              have c26b0 : decide (x5_2 < t115) = false := yhy c26
              clear c26
              have H' := zA.mk H
              clear H
              have hcz37_0 : wr.cell? ⟨gb101, 0, none⟩ = some (.slice A0_0 l0_0.length c0_0) := (zK BK101.out 0).trans rfl
              have hfz37_0 := zG BK101.out 0
              have p106 : 0 ≤ (x4_1 : Int) := of_decide_eq_true (by first | (with_reducible assumption) | assumption)
              have q106 : x4_1 < (l0_0.length : Int) := of_decide_eq_true (by first | (with_reducible assumption) | assumption)
              obtain ⟨ad106, A106_0, c106_0, e106, hx106_0, hl106_0, hi106_0⟩ := qv HR0_0.out x4_1 p106 q106
              cases e106
              replace hx106_0 := (HB.out.cell (yny w _ hx106_0)).trans hx106_0
              have HR106_0 := zA.mk hi106_0
              have HC106_0 := zA.mk hl106_0
              clear hi106_0 hl106_0
              replace p106 := eq_true p106
              replace q106 := eq_true q106
              have p107 : 0 ≤ (x5_2 : Int) := of_decide_eq_true (by first | (with_reducible assumption) | assumption)
              have q107 : x5_2 < ((zE l0_0 x4_1).length : Int) := of_decide_eq_true (by first | (with_reducible assumption) | assumption)
              obtain ⟨ad107, e107, hx107_0, hx107_1⟩ := ZT HR106_0.out x5_2 p107 q107
              cases e107
              replace hx107_0 := (HB.out.cell (yny w _ hx107_0)).trans hx107_0
              replace hx107_1 := (HB.out.cell (yny w _ hx107_1)).trans hx107_1
              replace p107 := eq_true p107
              replace q107 := eq_true q107
              go_wp2_with (first | ((with_reducible refine ze (N := 6) rfl ?_); refine zc ?hg (N := 6) ?hd (cs := #[.int .i64 0, .int .i64 0]) (t := 115) ?hr ?_; (case hd => rfl); (case hg => rfl); (case hr => first | (go_simp; done) | (go_simp; rfl)); intro gb108 hg w38 hbox hb; have n0_ := zA.mk (Kd.Zd (by (with_reducible repeat (first | apply Kd.qF | apply Kd.qH | apply Kd.qS)); exact HO_3.out) hb); have n1_ := zA.mk (zO (g := gb101) (o := .cells #[.slice (some ad106) l0_0.length c0_0] 30 (0, 0)) (by (with_reducible repeat (first | refine zI ?_ _ | refine zL ?_ | refine zH ?_ _)); exact BK101.out) hb); have n2_ := zA.mk (zN (by repeat (first | (with_reducible first | exact HB.out | apply zC | apply zB | apply zD | refine zF ?_ GE101.out) | exact HB.out)) hb); have n3_ := zA.mk (hbox); have n4_ := zA.mk ((by rw [hg]; exact (zP (by repeat (first | (with_reducible first | exact HB.out | apply zC | apply zB | apply zD | refine zF ?_ GE101.out) | exact HB.out))) : w.heap.size ≤ gb108)); have n5_ := zA.mk ((by rw [hg]; exact (zP (by repeat (first | (with_reducible first | exact HB.out | apply zC | apply zB | apply zD | refine zF ?_ GE101.out) | exact HB.out))) : w.heap.size ≤ gb108)); have n6_ := zA.mk ((by rw [hg]; exact Nat.ne_of_lt (qG (g := gb101) (o := .cells #[.slice (some ad106) l0_0.length c0_0] 30 (0, 0)) (by (with_reducible repeat (first | refine zI ?_ _ | refine zL ?_ | refine zH ?_ _)); exact BK101.out)) : gb101 ≠ gb108)); have n7_ := zA.mk ((by rw [hg]; exact Nat.ne_of_gt (qG (g := gb101) (o := .cells #[.slice (some ad106) l0_0.length c0_0] 30 (0, 0)) (by (with_reducible repeat (first | refine zI ?_ _ | refine zL ?_ | refine zH ?_ _)); exact BK101.out)) : gb108 ≠ gb101)); clear HO_3; clear BK101; clear HB; have HO_3 := n0_; have BK101 := n1_; have HB := n2_; have BK108 := n3_; have GW108 := n4_; have GE108 := n5_; have NB101_108 := n6_; have NB108_101 := n7_; clear n0_ n1_ n2_ n3_ n4_ n5_ n6_ n7_; clear hb hbox hg; have hnb39 := NB108_101.out; have hnc39 := NB101_108.out; have hcz40_0 : w38.cell? ⟨gb108, 0, none⟩ = some (.int .i64 0) := (zK BK108.out 0).trans rfl; have hcz40_1 : w38.cell? ⟨gb108, 1, none⟩ = some (.int .i64 0) := (zK BK108.out 1).trans rfl; have hfz40_0 := zG BK108.out 0; have hfz40_1 := zG BK108.out 1) | (go_at_call 121; (with_reducible refine (qg.calls k2 ((zJ (zE l0_0 x4_1) x5_2).f1) x5_2 t115 _ A25.out).mono ?_); rintro e w41 ⟨rfl, hb⟩; have n0_ := zA.mk (Kd.Zd (by (with_reducible repeat (first | apply Kd.qF | apply Kd.qH | apply Kd.qS)); exact (Kd.ZJ (Kd.JL (p := ⟨gb108, 1, none⟩) (Kd.JL (p := ⟨gb108, 0, none⟩) (Kd.Qx HO_3.out BK108.out (by decide)) (fun _ hk => hk.2) (.int .i64 ((zJ (zE l0_0 x4_1) x5_2).f0))) (fun _ hk => hk.2) (.int .i64 ((zJ (zE l0_0 x4_1) x5_2).f1))) (fun _ h_ => h_.1))) hb); have n1_ := zA.mk (zO (g := gb101) (o := .cells #[.slice (some ad106) l0_0.length c0_0] 30 (0, 0)) (by (with_reducible repeat (first | refine zI ?_ _ | refine zL ?_ | refine zH ?_ _)); refine zn ?_ NB101_108.out _; (with_reducible repeat (first | refine zI ?_ _ | refine zL ?_ | refine zH ?_ _)); refine zn ?_ NB101_108.out _; (with_reducible repeat (first | refine zI ?_ _ | refine zL ?_ | refine zH ?_ _)); exact BK101.out) hb); have n2_ := zA.mk (zO (g := gb108) (o := .cells #[.int .i64 ((zJ (zE l0_0 x4_1) x5_2).f0), .int .i64 ((zJ (zE l0_0 x4_1) x5_2).f1)] 115 (0, 0)) (by (with_reducible repeat (first | refine zI ?_ _ | refine zL ?_ | refine zH ?_ _)); refine zu (cs := #[.int .i64 ((zJ (zE l0_0 x4_1) x5_2).f0), .int .i64 0]) ?_ 1 _ rfl; (with_reducible repeat (first | refine zI ?_ _ | refine zL ?_ | refine zH ?_ _)); refine zu (cs := #[.int .i64 0, .int .i64 0]) ?_ 0 _ rfl; (with_reducible repeat (first | refine zI ?_ _ | refine zL ?_ | refine zH ?_ _)); exact BK108.out) hb); have n3_ := zA.mk (zN (by repeat (first | (with_reducible first | exact HB.out | apply zC | apply zB | apply zD | refine zF ?_ GE101.out | refine zF ?_ GE108.out) | exact HB.out)) hb); clear HO_3; clear BK101; clear BK108; clear HB; have HO_3 := n0_; have BK101 := n1_; have BK108 := n2_; have HB := n3_; clear n0_ n1_ n2_ n3_; (try clear hb); (try clear hb2); (try clear hk); (try clear hi)))
              go_roundg k2
              case measure => have := HK1.out; have := HK2.out; omega
              case rel => exact ⟨(x3_2), (wrap64 (x5_2 + 1)), (by first | rfl | (simp; done) | (simp [*]; done)), H', ⟨by have := HK1.out; have := HK2.out; omega⟩, ⟨by (with_reducible repeat (first | apply Kd.qF | apply Kd.qH | apply Kd.qS)); exact HO_3.out⟩, ⟨by (with_reducible repeat (first | refine zI ?_ _ | refine zL ?_ | refine zH ?_ _)); exact BK101.out⟩, ⟨by repeat (first | (with_reducible first | exact HB.out | apply zC | apply zB | apply zD | refine zF ?_ GE101.out | refine zF ?_ GE108.out) | exact HB.out)⟩⟩
            next =>
             rw [if_neg c24] at H
             have c24b0 : (((zJ (zE l0_0 x4_1) x5_2).f0) == x4_1) = false := beq_eq_false_iff_ne.mpr c24
             have c24b1 : (((zJ (zE l0_0 x4_1) x5_2).f0) != x4_1) = true := bne_iff_ne.mpr c24
             have H' := zA.mk H
             clear H
             have hcz42_0 : wr.cell? ⟨gb101, 0, none⟩ = some (.slice A0_0 l0_0.length c0_0) := (zK BK101.out 0).trans rfl
             have hfz42_0 := zG BK101.out 0
             have p106 : 0 ≤ (x4_1 : Int) := of_decide_eq_true (by first | (with_reducible assumption) | assumption)
             have q106 : x4_1 < (l0_0.length : Int) := of_decide_eq_true (by first | (with_reducible assumption) | assumption)
             obtain ⟨ad106, A106_0, c106_0, e106, hx106_0, hl106_0, hi106_0⟩ := qv HR0_0.out x4_1 p106 q106
             cases e106
             replace hx106_0 := (HB.out.cell (yny w _ hx106_0)).trans hx106_0
             have HR106_0 := zA.mk hi106_0
             have HC106_0 := zA.mk hl106_0
             clear hi106_0 hl106_0
             replace p106 := eq_true p106
             replace q106 := eq_true q106
             have p107 : 0 ≤ (x5_2 : Int) := of_decide_eq_true (by first | (with_reducible assumption) | assumption)
             have q107 : x5_2 < ((zE l0_0 x4_1).length : Int) := of_decide_eq_true (by first | (with_reducible assumption) | assumption)
             obtain ⟨ad107, e107, hx107_0, hx107_1⟩ := ZT HR106_0.out x5_2 p107 q107
             cases e107
             replace hx107_0 := (HB.out.cell (yny w _ hx107_0)).trans hx107_0
             replace hx107_1 := (HB.out.cell (yny w _ hx107_1)).trans hx107_1
             replace p107 := eq_true p107
             replace q107 := eq_true q107
             go_wp2_with (first | ((with_reducible refine ze (N := 6) rfl ?_); refine zc ?hg (N := 6) ?hd (cs := #[.int .i64 0, .int .i64 0]) (t := 115) ?hr ?_; (case hd => rfl); (case hg => rfl); (case hr => first | (go_simp; done) | (go_simp; rfl)); intro gb108 hg w43 hbox hb; have n0_ := zA.mk (Kd.Zd (by (with_reducible repeat (first | apply Kd.qF | apply Kd.qH | apply Kd.qS)); exact HO_3.out) hb); have n1_ := zA.mk (zO (g := gb101) (o := .cells #[.slice (some ad106) l0_0.length c0_0] 30 (0, 0)) (by (with_reducible repeat (first | refine zI ?_ _ | refine zL ?_ | refine zH ?_ _)); exact BK101.out) hb); have n2_ := zA.mk (zN (by repeat (first | (with_reducible first | exact HB.out | apply zC | apply zB | apply zD | refine zF ?_ GE101.out) | exact HB.out)) hb); have n3_ := zA.mk (hbox); have n4_ := zA.mk ((by rw [hg]; exact (zP (by repeat (first | (with_reducible first | exact HB.out | apply zC | apply zB | apply zD | refine zF ?_ GE101.out) | exact HB.out))) : w.heap.size ≤ gb108)); have n5_ := zA.mk ((by rw [hg]; exact (zP (by repeat (first | (with_reducible first | exact HB.out | apply zC | apply zB | apply zD | refine zF ?_ GE101.out) | exact HB.out))) : w.heap.size ≤ gb108)); have n6_ := zA.mk ((by rw [hg]; exact Nat.ne_of_lt (qG (g := gb101) (o := .cells #[.slice (some ad106) l0_0.length c0_0] 30 (0, 0)) (by (with_reducible repeat (first | refine zI ?_ _ | refine zL ?_ | refine zH ?_ _)); exact BK101.out)) : gb101 ≠ gb108)); have n7_ := zA.mk ((by rw [hg]; exact Nat.ne_of_gt (qG (g := gb101) (o := .cells #[.slice (some ad106) l0_0.length c0_0] 30 (0, 0)) (by (with_reducible repeat (first | refine zI ?_ _ | refine zL ?_ | refine zH ?_ _)); exact BK101.out)) : gb108 ≠ gb101)); clear HO_3; clear BK101; clear HB; have HO_3 := n0_; have BK101 := n1_; have HB := n2_; have BK108 := n3_; have GW108 := n4_; have GE108 := n5_; have NB101_108 := n6_; have NB108_101 := n7_; clear n0_ n1_ n2_ n3_ n4_ n5_ n6_ n7_; clear hb hbox hg; have hnb44 := NB108_101.out; have hnc44 := NB101_108.out; have hcz45_0 : w43.cell? ⟨gb108, 0, none⟩ = some (.int .i64 0) := (zK BK108.out 0).trans rfl; have hcz45_1 : w43.cell? ⟨gb108, 1, none⟩ = some (.int .i64 0) := (zK BK108.out 1).trans rfl; have hfz45_0 := zG BK108.out 0; have hfz45_1 := zG BK108.out 1))
             go_roundg k2
             case measure => have := HK1.out; have := HK2.out; omega
             case rel => exact ⟨(x3_2), (wrap64 (x5_2 + 1)), (by first | rfl | (simp; done) | (simp [*]; done)), H', ⟨by have := HK1.out; have := HK2.out; omega⟩, ⟨by (with_reducible repeat (first | apply Kd.qF | apply Kd.qH | apply Kd.qS)); exact Kd.ZJ (Kd.JL (p := ⟨gb108, 1, none⟩) (Kd.JL (p := ⟨gb108, 0, none⟩) (Kd.Qx HO_3.out BK108.out (by decide)) (fun _ hk => hk.2) (.int .i64 ((zJ (zE l0_0 x4_1) x5_2).f0))) (fun _ hk => hk.2) (.int .i64 ((zJ (zE l0_0 x4_1) x5_2).f1))) (fun _ hk => trivial)⟩, ⟨by (with_reducible repeat (first | refine zI ?_ _ | refine zL ?_ | refine zH ?_ _)); refine zn ?_ NB101_108.out _; (with_reducible repeat (first | refine zI ?_ _ | refine zL ?_ | refine zH ?_ _)); refine zn ?_ NB101_108.out _; (with_reducible repeat (first | refine zI ?_ _ | refine zL ?_ | refine zH ?_ _)); exact BK101.out⟩, ⟨by repeat (first | (with_reducible first | exact HB.out | apply zC | apply zB | apply zD | refine zF ?_ GE101.out | refine zF ?_ GE108.out) | exact HB.out)⟩⟩
          next =>
           rw [if_neg c13] at H
           exact absurd H (by simp)
         next =>
          rw [if_neg c12] at H
          exact absurd H (by simp)
        next =>
         rw [if_neg c11] at H
         exact absurd H (by simp)
       next =>
        rw [if_neg c10] at H
        exact absurd H (by simp)
      next =>
       rw [if_neg c9] at H
       have c9b0 : decide (x5_2 < 4) = false := yhy c9
       clear c9
       have H' := zA.mk H
       clear H
       go_wp2
       go_roundg k2
       case measure => have := HK1.out; have := HK2.out; omega
       case rel => exact ⟨(x3_2), (wrap64 (x4_1 + 1)), (by first | rfl | (simp; done) | (simp [*]; done)), H', ⟨by have := HK1.out; have := HK2.out; omega⟩, ⟨by (with_reducible repeat (first | apply Kd.qF | apply Kd.qH | apply Kd.qS)); exact HO_3.out⟩, ⟨by (with_reducible repeat (first | refine zI ?_ _ | refine zL ?_ | refine zH ?_ _)); exact BK101.out⟩, ⟨by repeat (first | (with_reducible first | exact HB.out | apply zC | apply zB | apply zD | refine zF ?_ GE101.out) | exact HB.out)⟩⟩
   next =>
    rw [if_neg c6] at H
    have c6b0 : decide (x4_1 < t105) = false := yhy c6
    clear c6
    obtain rfl := yey H
    have hcz46_0 : wr.cell? ⟨gb101, 0, none⟩ = some (.slice A0_0 l0_0.length c0_0) := (zK BK101.out 0).trans rfl
    have hfz46_0 := zG BK101.out 0
    go_wp2_with (first | ((with_reducible refine zX (f := 59) rfl ?_); refine qI (some 10) rfl rfl Try.func59 (by kernel_rfl) rfl #[.agg #[.slice A0_0 l0_0.length c0_0]] rfl (by (try simp only [yiy, yjy, yky]); first | done | rfl | (simp only [yly, ymy]; rfl)) ?_; (with_reducible refine (zm.calls _ _ l0_0 t105 _ ?side1 ?side2 A5.out).mono ?_); (case side1 => repeat (first | exact (Kd.qD HR0_0.out HB.out) | (with_reducible refine Kd.qA ?_ _) | (with_reducible refine Kd.qB ?_ _) | (with_reducible refine Kd.qP ?_))); (case side2 => exact HC0_0.out); rintro e w47 ⟨rfl, hb⟩; refine ⟨_, rfl, ?_⟩; have n0_ := zA.mk (Kd.Zd (by (with_reducible repeat (first | apply Kd.qF | apply Kd.qH | apply Kd.qS)); exact HO_3.out) hb); have n1_ := zA.mk (zO (g := gb101) (o := .cells #[.slice A0_0 l0_0.length c0_0] 30 (0, 0)) (by (with_reducible repeat (first | refine zI ?_ _ | refine zL ?_ | refine zH ?_ _)); exact BK101.out) hb); have n2_ := zA.mk (zN (by repeat (first | (with_reducible first | exact HB.out | apply zC | apply zB | apply zD | refine zF ?_ GE101.out) | exact HB.out)) hb); clear HO_3; clear BK101; clear HB; have HO_3 := n0_; have BK101 := n1_; have HB := n2_; clear n0_ n1_ n2_; (try clear hb); (try clear hb2); (try clear hk); (try clear hi)))
    go_ret
    exact ⟨_, by first | rfl | (simp [zS, zT] <;> rfl) | (simp [*, zS, zT] <;> rfl), by (with_reducible repeat (first | apply Kd.qF | apply Kd.qH | apply Kd.qS)); exact HO_3.out, by repeat (first | (with_reducible first | exact HB.out | apply zC | apply zB | apply zD | refine zF ?_ GE101.out) | exact HB.out)⟩
mutual
def zf.l0 : Nat → List (List Int) → List (List Int) → Int → List (List (zo)) → Option ((List (List Int)))
 | 0, _, _, _, _ => none
 | k + 1, x3, x4, x5, x102000 => if x5 < (x4.length : Int) then (if 0 ≤ x5 then (if 0 < ((zZ x4 x5).length : Int) then (if 1 < ((zZ x4 x5).length : Int) then (zf.l1 k x3 x4 x5 (rd (zZ x4 x5) 0) (rd (zZ x4 x5) 1) 0 x102000) else (none)) else (none)) else (none)) else (some x3)
def zf.l1 : Nat → List (List Int) → List (List Int) → Int → Int → Int → Int → List (List (zo)) → Option ((List (List Int)))
 | 0, _, _, _, _, _, _, _ => none
 | k + 1, x3, x4, x5, x6, x7, x8, x102000 => if x8 < 4 then (if x8 = x7 then (zf.l1 k x3 x4 x5 x6 x7 (wrap64 (x8 + 1)) x102000) else ((zm.f x102000).bind fun t112 => (if 0 ≤ (wrap64 (7 * t112)) then (if (wrap64 (7 * t112) : Int).toNat ≤ 35184372088832 then ((some (List.replicate (wrap64 (7 * t112) : Int).toNat 0 : List Int)).bind fun y113 => ((qR.f k x102000 x6 x7 x8).bind fun bt116 => (if 0 ≤ (wrap64 ((wrap64 (7 * x6)) + x8)) then (if (wrap64 ((wrap64 (7 * x6)) + x8)) < (y113.length : Int) then ((some (y113.set ((wrap64 ((wrap64 (7 * x6)) + x8)) : Int).toNat (wrap64 ((rd y113 (wrap64 ((wrap64 (7 * x6)) + x8))) + 1)) : List Int)).bind fun y120 => ((zw.f x7 x8).bind fun t121 => (if 0 ≤ (wrap64 ((wrap64 ((wrap64 (7 * x6)) + 4)) + t121)) then (if (wrap64 ((wrap64 ((wrap64 (7 * x6)) + 4)) + t121)) < (y113.length : Int) then ((some (y120.set ((wrap64 ((wrap64 ((wrap64 (7 * x6)) + 4)) + t121)) : Int).toNat (wrap64 ((rd y120 (wrap64 ((wrap64 ((wrap64 (7 * x6)) + 4)) + t121))) + 1)) : List Int)).bind fun y123 => (if 0 ≤ (wrap64 ((wrap64 (7 * bt116.1)) + bt116.2.2)) then (if (wrap64 ((wrap64 (7 * bt116.1)) + bt116.2.2)) < (y113.length : Int) then ((some (y123.set ((wrap64 ((wrap64 (7 * bt116.1)) + bt116.2.2)) : Int).toNat (wrap64 ((rd y123 (wrap64 ((wrap64 (7 * bt116.1)) + bt116.2.2))) - 1)) : List Int)).bind fun y125 => ((zw.f bt116.2.1 bt116.2.2).bind fun t126 => (if 0 ≤ (wrap64 ((wrap64 ((wrap64 (7 * bt116.1)) + 4)) + t126)) then (if (wrap64 ((wrap64 ((wrap64 (7 * bt116.1)) + 4)) + t126)) < (y113.length : Int) then (if x3.length < 5864062014805 then (zf.l1 k (x3 ++ [(y125.set ((wrap64 ((wrap64 ((wrap64 (7 * bt116.1)) + 4)) + t126)) : Int).toNat (wrap64 ((rd y125 (wrap64 ((wrap64 ((wrap64 (7 * bt116.1)) + 4)) + t126))) - 1)))]) x4 x5 x6 x7 (wrap64 (x8 + 1)) x102000) else (none)) else (none)) else (none)))) else (none)) else (none))) else (none)) else (none)))) else (none)) else (none)))) else (none)) else (none)))) else (zf.l0 k x3 x4 (wrap64 (x5 + 1)) x102000)
end
def zf.f (k : Nat) (l0_0 : List (List (zo))) : Option ((List (List Int))) := (zg.f k l0_0).bind fun t105 => (zf.l0 k (([] : List (List Int))) t105 0 l0_0)
set_option maxHeartbeats 8000000 in
set_option maxRecDepth 100000 in
theorem zf.calls (k : Nat) (A0_0 : Option Addr) (c0_0 : Nat) (l0_0 : List (List (zo))) (r : List (List Int)) (w : World) (hr0_0 : Kd.C (Kd.slice 115 qh) w A0_0 l0_0.length l0_0) (hc0_0 : l0_0.length ≤ c0_0) (h : zf.f k l0_0 = some r) :
 Calls Try.prog 61 #[.agg #[.slice A0_0 l0_0.length c0_0]] w fun e w' => ∃ v0_ : Value, e = .returned (v0_) ∧ Kd.S (Kd.slice 2 (Kd.int .i64)) 25 w' w.heap.size (fun _ => True) v0_ r ∧ Below w.heap.size w w' := by
 have hu30 := Try.underlying30
 have HR0_0 := zA.mk hr0_0
 have HC0_0 := zA.mk hc0_0
 clear hr0_0 hc0_0
 have HB := zA.mk (ypy w.heap.size w)
 have H : ((zg.f k l0_0).bind fun t105 => (zf.l0 k (([] : List (List Int))) t105 0 l0_0)) = some r := h
 clear h
 obtain ⟨y102, hy102⟩ : ∃ y_ : List (List Int), y_ = (([] : List (List Int))) := ⟨_, rfl⟩
 replace H : ((zg.f k l0_0).bind fun t105 => (zf.l0 k y102 t105 0 l0_0)) = some r := by first | (rw [hy102]; with_reducible exact H) | (have H2_ := (yfy _ _).symm.trans H; rw [hy102]; with_reducible exact H2_) | (have H2_ := (yfy _ _).symm.trans H; with_reducible exact H2_) | with_reducible exact H | (rw [hy102]; exact H) | exact H
 have Ny102 := zA.mk hy102
 clear hy102
 replace H := ydy.mp H
 obtain ⟨t105, A20, H⟩ := H
 replace H : (zf.l0 k y102 t105 0 l0_0) = some r := H
 have A2 := zA.mk A20
 clear A20
 have H' := zA.mk H
 clear H
 go_enter Try.func61, Try.ntmps61
 go_wp2_with (first | ((with_reducible refine ze (N := 1) rfl ?_); refine zc ?hg (N := 1) ?hd (cs := #[.slice A0_0 l0_0.length c0_0]) (t := 30) ?hr ?_; (case hd => rfl); (case hg => rfl); (case hr => first | (go_simp; done) | (go_simp; rfl)); intro gb101 hg w3 hbox hb; have n0_ := zA.mk (zN (by repeat (first | (with_reducible first | exact HB.out | apply zC | apply zB | apply zD) | exact HB.out)) hb); have n1_ := zA.mk (hbox); have n2_ := zA.mk ((by rw [hg]; exact (zP (by repeat (first | (with_reducible first | exact HB.out | apply zC | apply zB | apply zD) | exact HB.out))) : w.heap.size ≤ gb101)); have n3_ := zA.mk ((by rw [hg]; exact (zP (by repeat (first | (with_reducible first | exact HB.out | apply zC | apply zB | apply zD) | exact HB.out))) : w.heap.size ≤ gb101)); clear HB; have HB := n0_; have BK101 := n1_; have GW101 := n2_; have GE101 := n3_; clear n0_ n1_ n2_ n3_; clear hb hbox hg) | ((with_reducible refine ze (N := 13) rfl ?_); refine Kd.S_lit (Kd.slice 2 (Kd.int .i64)) _ 25 ?hg (N := 13) ?hd (xs := ([] : List (List Int))) (inner := []) (ok := fun _ => True) (okp := fun _ => True) ?hr ?hp (fun _ hk => hk) trivial (ypy _ _) (yoy _) (by simp) ?_; (case hd => rfl); (case hg => rfl); (case hr => first | (go_simp; done) | (go_simp; rfl)); (case hp => exact (QA.none _ _)); intro v103 w4 ho5 hb hg_ hnew_; clear hg_ hnew_; (first | rw [← Ny102.out] at ho5 | (simp only [Int.reduceToNat] at ho5; rw [← Ny102.out] at ho5)); have n0_ := zA.mk (Kd.JK ho5 (zP (by repeat (first | (with_reducible first | exact HB.out | apply zC | apply zB | apply zD | refine zF ?_ GE101.out) | exact HB.out)))); have n1_ := zA.mk (zO (g := gb101) (o := .cells #[.slice A0_0 l0_0.length c0_0] 30 (0, 0)) (by (with_reducible repeat (first | refine zI ?_ _ | refine zL ?_ | refine zH ?_ _)); exact BK101.out) hb); have n2_ := zA.mk (zN (by repeat (first | (with_reducible first | exact HB.out | apply zC | apply zB | apply zD | refine zF ?_ GE101.out) | exact HB.out)) hb); clear BK101; clear HB; have HO104 := n0_; have BK101 := n1_; have HB := n2_; clear n0_ n1_ n2_; clear hb ho5; have hcz6_0 : w4.cell? ⟨gb101, 0, none⟩ = some (.slice A0_0 l0_0.length c0_0) := (zK BK101.out 0).trans rfl; have hfz6_0 := zG BK101.out 0) | ((with_reducible refine zX (f := 102) rfl ?_); refine qI (some 15) rfl rfl Try.func102 (by kernel_rfl) rfl #[.agg #[.slice A0_0 l0_0.length c0_0]] rfl (by (try simp only [yiy, yjy, yky]); first | done | rfl | (simp only [yly, ymy]; rfl)) ?_; (with_reducible refine (zg.calls k _ _ l0_0 t105 _ ?side1 ?side2 A2.out).mono ?_); (case side1 => repeat (first | exact (Kd.qD HR0_0.out HB.out) | (with_reducible refine Kd.qA ?_ _) | (with_reducible refine Kd.qB ?_ _) | (with_reducible refine Kd.qP ?_))); (case side2 => exact HC0_0.out); rintro e w7 ⟨v106, rfl, ho0, hb⟩; refine ⟨_, rfl, ?_⟩; have n0_ := zA.mk (Kd.JE (by (with_reducible repeat (first | apply Kd.qF | apply Kd.qH | apply Kd.qS)); exact HO104.out) (Kd.S_base ho0) hb); have n1_ := zA.mk (Kd.JK (Kd.S_new' ho0 (Kd.S_lt (by (with_reducible repeat (first | apply Kd.qF | apply Kd.qH | apply Kd.qS)); exact HO104.out))) (zP (by repeat (first | (with_reducible first | exact HB.out | apply zC | apply zB | apply zD | refine zF ?_ GE101.out) | exact HB.out)))); have n2_ := zA.mk (zO (g := gb101) (o := .cells #[.slice A0_0 l0_0.length c0_0] 30 (0, 0)) (by (with_reducible repeat (first | refine zI ?_ _ | refine zL ?_ | refine zH ?_ _)); exact BK101.out) hb); have n3_ := zA.mk (zN (by repeat (first | (with_reducible first | exact HB.out | apply zC | apply zB | apply zD | refine zF ?_ GE101.out) | exact HB.out)) hb); clear HO104; clear BK101; clear HB; have HO104 := n0_; have HO107 := n1_; have BK101 := n2_; have HB := n3_; clear n0_ n1_ n2_ n3_; (try clear hb); (try clear hb2); (try clear hk); (try clear hi); (try clear ho0)))
 go_loopg [3, 5] k (fun kq v3 v5 w' => ∃ (x3_1 : List (List Int)) (x5_1 : Int), v5 = .int .i64 x5_1 ∧ zA (zf.l0 kq x3_1 t105 x5_1 l0_0 = some r) ∧ zA (kq ≤ k) ∧ zA (Kd.S (Kd.slice 2 (Kd.int .i64)) 25 w' w.heap.size (fun k_ => some k_ ≠ (v106 : Value).ownBlock) v3 x3_1) ∧ zA (Kd.S (Kd.slice 2 (Kd.int .i64)) 25 w' w.heap.size (fun k_ => some k_ ≠ (v3 : Value).ownBlock) v106 t105) ∧ zA (w'.heap[gb101]? = some (.cells #[(.slice A0_0 l0_0.length c0_0)] 30 (0, 0))) ∧ zA (Below w.heap.size w w'))
 case atStart => exact ⟨(y102), (0), (by first | rfl | (simp; done) | (simp [*]; done)), H', ⟨yoy _⟩, ⟨by (with_reducible repeat (first | apply Kd.qF | apply Kd.qH | apply Kd.qS)); exact Kd.ZJ HO104.out (fun _ hk => hk.2)⟩, ⟨by (with_reducible repeat (first | apply Kd.qF | apply Kd.qH | apply Kd.qS)); exact Kd.ZJ HO107.out (fun _ hk => hk.2)⟩, ⟨by (with_reducible repeat (first | refine zI ?_ _ | refine zL ?_ | refine zH ?_ _)); exact BK101.out⟩, ⟨by repeat (first | (with_reducible first | exact HB.out | apply zC | apply zB | apply zD | refine zF ?_ GE101.out) | exact HB.out)⟩⟩
 case round =>
  clear H'
  try clear c1
  try clear p2
  try clear c6
  try clear hcz6_0
  try clear hfz6_0
  obtain ⟨x3_1, x5_1, rfl, HA, HK1, HO_3, HO_4, BK101, HB⟩ := hrel
  cases gk with
  | zero => exact absurd HA.out (by simp [zf.l0])
  | succ k1 =>
   have H := HA.out
   clear HA
   simp only [zf.l0] at H
   by_cases c8 : x5_1 < (t105.length : Int)
   next =>
    rw [if_pos c8] at H
    have c8b0 : decide (x5_1 < (t105.length : Int)) = true := ygy c8
    clear c8
    by_cases c9 : 0 ≤ x5_1
    next =>
     rw [if_pos c9] at H
     have c9b0 : decide (0 ≤ x5_1) = true := ygy c9
     clear c9
     by_cases c10 : 0 < ((zZ t105 x5_1).length : Int)
     next =>
      rw [if_pos c10] at H
      have c10b0 : decide (0 < ((zZ t105 x5_1).length : Int)) = true := ygy c10
      have c10b1 : decide (0 < (zZ t105 x5_1).length) = true := ygy (by omega)
      clear c10
      by_cases c11 : 1 < ((zZ t105 x5_1).length : Int)
      next =>
       rw [if_pos c11] at H
       have c11b0 : decide (1 < ((zZ t105 x5_1).length : Int)) = true := ygy c11
       have c11b1 : decide (1 < (zZ t105 x5_1).length) = true := ygy (by omega)
       clear c11
       have H' := zA.mk H
       clear H
       obtain ⟨Ao12, co12, eo12⟩ := Kd.JM HO_4.out
       subst eo12
       have p108 : 0 ≤ (x5_1 : Int) := of_decide_eq_true (by first | (with_reducible assumption) | assumption)
       have q108 : x5_1 < (t105.length : Int) := of_decide_eq_true (by first | (with_reducible assumption) | assumption)
       obtain ⟨ad108, A108_0, c108_0, e108, hx108_0, hl108_0, hi108_0⟩ := zBx (Kd.QC HO_4.out).2.2 x5_1 p108 q108
       cases e108
       obtain ⟨ce108, hce108, hMe108, hcc108⟩ := Kd.zEL HO_4.out [] x5_1 p108 (by first | exact q108 | exact of_decide_eq_true (by first | (with_reducible assumption) | assumption) | (have e_ := (Kd.QC HO_4.out).1; omega))
       obtain ⟨ve108_0, rfl, ge108_0⟩ := hMe108
       have hv108_0 := hcc108 0 _ rfl
       rw [Nat.add_zero, show ((Kd.slice 2 (Kd.int .i64))).sz = 1 from rfl, Nat.mul_one] at hv108_0
       replace hv108_0 := yey (hv108_0.symm.trans hx108_0)
       rw [hv108_0] at ge108_0
       have HL108_0 := zA.mk (show Kd.R (Kd.int .i64) 2 _ _ _ _ (zZ t105 x5_1) from ge108_0)
       clear hv108_0 ge108_0
       clear hcc108 hce108
       have HR108_0 := zA.mk hi108_0
       have HC108_0 := zA.mk hl108_0
       clear hi108_0 hl108_0
       replace p108 := eq_true p108
       replace q108 := eq_true q108
       have p109 : 0 ≤ (0 : Int) := (by omega)
       have q109 : 0 < ((zZ t105 x5_1).length : Int) := of_decide_eq_true (by first | (with_reducible assumption) | assumption)
       obtain ⟨ad109, e109, hx109_0⟩ := Kd.ZP (by repeat (first | (with_reducible exact HR108_0.out) | (with_reducible refine Kd.qA ?_ _) | (with_reducible refine Kd.qB ?_ _) | (with_reducible refine Kd.qP ?_) | exact HR108_0.out)) 0 p109 q109
       cases e109
       have qi109 : (0 < (zZ t105 x5_1).length) = True := eq_true (by omega)
       (try rw [show ((0 : Int)).toNat = 0 from rfl] at hx109_0)
       (try rw [Addr.add_zero'] at hx109_0)
       replace p109 := eq_true p109
       replace q109 := eq_true q109
       have p110 : 0 ≤ (x5_1 : Int) := of_decide_eq_true (by first | (with_reducible assumption) | assumption)
       have q110 : x5_1 < (t105.length : Int) := of_decide_eq_true (by first | (with_reducible assumption) | assumption)
       obtain ⟨ad110, A110_0, c110_0, e110, hx110_0, hl110_0, hi110_0⟩ := zBx (Kd.QC HO_4.out).2.2 x5_1 p110 q110
       obtain rfl : ad108 = ad110 := (by injection e110)
       obtain ⟨ce110, hce110, hMe110, hcc110⟩ := Kd.zEL HO_4.out [] x5_1 p110 (by first | exact q110 | exact of_decide_eq_true (by first | (with_reducible assumption) | assumption) | (have e_ := (Kd.QC HO_4.out).1; omega))
       obtain ⟨ve110_0, rfl, ge110_0⟩ := hMe110
       have hv110_0 := hcc110 0 _ rfl
       rw [Nat.add_zero, show ((Kd.slice 2 (Kd.int .i64))).sz = 1 from rfl, Nat.mul_one] at hv110_0
       replace hv110_0 := yey (hv110_0.symm.trans hx110_0)
       rw [hv110_0] at ge110_0
       have HL110_0 := zA.mk (show Kd.R (Kd.int .i64) 2 _ _ _ _ (zZ t105 x5_1) from ge110_0)
       clear hv110_0 ge110_0
       clear hcc110 hce110
       have HR110_0 := zA.mk hi110_0
       have HC110_0 := zA.mk hl110_0
       clear hi110_0 hl110_0
       replace p110 := eq_true p110
       replace q110 := eq_true q110
       have ea_ := yey (hx108_0.symm.trans hx110_0)
       injection ea_ with ea_ en_ ec_
       subst ea_
       subst ec_
       clear en_
       have p111 : 0 ≤ (1 : Int) := (by omega)
       have q111 : 1 < ((zZ t105 x5_1).length : Int) := of_decide_eq_true (by first | (with_reducible assumption) | assumption)
       obtain ⟨ad111, e111, hx111_0⟩ := Kd.ZP (by repeat (first | (with_reducible exact HR110_0.out) | (with_reducible refine Kd.qA ?_ _) | (with_reducible refine Kd.qB ?_ _) | (with_reducible refine Kd.qP ?_) | exact HR110_0.out)) 1 p111 q111
       cases e111
       (try simp only [show (1 : Int).toNat = 1 from rfl, Nat.reduceMul, Nat.reduceEqDiff, Go.Addr.add, ↓reduceIte] at hx111_0)
       have qi111 : (1 < (zZ t105 x5_1).length) = True := eq_true (by omega)
       (try rw [show ((1 : Int)).toNat = 1 from rfl] at hx111_0)
       replace p111 := eq_true p111
       replace q111 := eq_true q111
       go_wp2
       go_loopg [3, 8] k1 (fun kq v3 v8 w' => ∃ (x3_2 : List (List Int)) (x8_2 : Int), v8 = .int .i64 x8_2 ∧ zA (zf.l1 kq x3_2 t105 x5_1 (rd (zZ t105 x5_1) 0) (rd (zZ t105 x5_1) 1) x8_2 l0_0 = some r) ∧ zA (kq ≤ k1) ∧ zA (Kd.S (Kd.slice 2 (Kd.int .i64)) 25 w' w.heap.size (fun k_ => some k_ ≠ ((.slice (some ad108) t105.length co12) : Value).ownBlock) v3 x3_2) ∧ zA (Kd.S (Kd.slice 2 (Kd.int .i64)) 25 w' w.heap.size (fun k_ => some k_ ≠ (v3 : Value).ownBlock) (.slice (some ad108) t105.length co12) t105) ∧ zA (w'.heap[gb101]? = some (.cells #[(.slice A0_0 l0_0.length c0_0)] 30 (0, 0))) ∧ zA (Below w.heap.size w w'))
       case atStart => exact ⟨(x3_1), (0), (by first | rfl | (simp; done) | (simp [*]; done)), H', ⟨yoy _⟩, ⟨by (with_reducible repeat (first | apply Kd.qF | apply Kd.qH | apply Kd.qS)); exact HO_3.out⟩, ⟨by (with_reducible repeat (first | apply Kd.qF | apply Kd.qH | apply Kd.qS)); exact HO_4.out⟩, ⟨by (with_reducible repeat (first | refine zI ?_ _ | refine zL ?_ | refine zH ?_ _)); exact BK101.out⟩, ⟨by repeat (first | (with_reducible first | exact HB.out | apply zC | apply zB | apply zD | refine zF ?_ GE101.out) | exact HB.out)⟩⟩
       case round =>
        clear H'
        try clear c1
        try clear p1
        try clear q1
        try clear hx1
        try clear qi1
        try clear p2
        try clear c6
        try clear c8
        try clear c8b0
        try clear c9
        try clear c9b0
        try clear c10
        try clear c10b0
        try clear c10b1
        try clear p10
        try clear q10
        try clear hx10
        try clear qi10
        try clear c11
        try clear c11b0
        try clear c11b1
        try clear p11
        try clear q11
        try clear hx11
        try clear qi11
        try clear hcz6_0
        try clear hfz6_0
        try clear hx108_0
        try clear hx109_0
        try clear hx110_0
        try clear hx111_0
        try clear p108
        try clear p109
        try clear p110
        try clear p111
        try clear p2
        try clear q108
        try clear q109
        try clear q110
        try clear q111
        obtain ⟨x3_2, x8_2, rfl, HA, HK2, HO_3, HO_4, BK101, HB⟩ := hrel
        cases gk with
        | zero => exact absurd HA.out (by simp [zf.l1])
        | succ k2 =>
         have H := HA.out
         clear HA
         simp only [zf.l1] at H
         by_cases c13 : x8_2 < 4
         next =>
          rw [if_pos c13] at H
          have c13b0 : decide (x8_2 < 4) = true := ygy c13
          clear c13
          by_cases c14 : x8_2 = (rd (zZ t105 x5_1) 1)
          next =>
           rw [if_pos c14] at H
           have c14b0 : (x8_2 == (rd (zZ t105 x5_1) 1)) = true := beq_iff_eq.mpr c14
           have c14b1 : (x8_2 != (rd (zZ t105 x5_1) 1)) = false := bne_eq_false_iff_eq.mpr c14
           clear c14
           have H' := zA.mk H
           clear H
           go_wp2
           go_roundg k2
           case measure => have := HK1.out; have := HK2.out; omega
           case rel => exact ⟨(x3_2), (wrap64 (x8_2 + 1)), (by first | rfl | (simp; done) | (simp [*]; done)), H', ⟨by have := HK1.out; have := HK2.out; omega⟩, ⟨by (with_reducible repeat (first | apply Kd.qF | apply Kd.qH | apply Kd.qS)); exact HO_3.out⟩, ⟨by (with_reducible repeat (first | apply Kd.qF | apply Kd.qH | apply Kd.qS)); exact HO_4.out⟩, ⟨by (with_reducible repeat (first | refine zI ?_ _ | refine zL ?_ | refine zH ?_ _)); exact BK101.out⟩, ⟨by repeat (first | (with_reducible first | exact HB.out | apply zC | apply zB | apply zD | refine zF ?_ GE101.out) | exact HB.out)⟩⟩
          next =>
           rw [if_neg c14] at H
           have c14b0 : (x8_2 == (rd (zZ t105 x5_1) 1)) = false := beq_eq_false_iff_ne.mpr c14
           have c14b1 : (x8_2 != (rd (zZ t105 x5_1) 1)) = true := bne_iff_ne.mpr c14
           replace H := ydy.mp H
           obtain ⟨t112, A150, H⟩ := H
           replace H : (if 0 ≤ (wrap64 (7 * t112)) then (if (wrap64 (7 * t112) : Int).toNat ≤ 35184372088832 then ((some (List.replicate (wrap64 (7 * t112) : Int).toNat 0 : List Int)).bind fun y113 => ((qR.f k2 l0_0 (rd (zZ t105 x5_1) 0) (rd (zZ t105 x5_1) 1) x8_2).bind fun bt116 => (if 0 ≤ (wrap64 ((wrap64 (7 * (rd (zZ t105 x5_1) 0))) + x8_2)) then (if (wrap64 ((wrap64 (7 * (rd (zZ t105 x5_1) 0))) + x8_2)) < (y113.length : Int) then ((some (y113.set ((wrap64 ((wrap64 (7 * (rd (zZ t105 x5_1) 0))) + x8_2)) : Int).toNat (wrap64 ((rd y113 (wrap64 ((wrap64 (7 * (rd (zZ t105 x5_1) 0))) + x8_2))) + 1)) : List Int)).bind fun y120 => ((zw.f (rd (zZ t105 x5_1) 1) x8_2).bind fun t121 => (if 0 ≤ (wrap64 ((wrap64 ((wrap64 (7 * (rd (zZ t105 x5_1) 0))) + 4)) + t121)) then (if (wrap64 ((wrap64 ((wrap64 (7 * (rd (zZ t105 x5_1) 0))) + 4)) + t121)) < (y113.length : Int) then ((some (y120.set ((wrap64 ((wrap64 ((wrap64 (7 * (rd (zZ t105 x5_1) 0))) + 4)) + t121)) : Int).toNat (wrap64 ((rd y120 (wrap64 ((wrap64 ((wrap64 (7 * (rd (zZ t105 x5_1) 0))) + 4)) + t121))) + 1)) : List Int)).bind fun y123 => (if 0 ≤ (wrap64 ((wrap64 (7 * bt116.1)) + bt116.2.2)) then (if (wrap64 ((wrap64 (7 * bt116.1)) + bt116.2.2)) < (y113.length : Int) then ((some (y123.set ((wrap64 ((wrap64 (7 * bt116.1)) + bt116.2.2)) : Int).toNat (wrap64 ((rd y123 (wrap64 ((wrap64 (7 * bt116.1)) + bt116.2.2))) - 1)) : List Int)).bind fun y125 => ((zw.f bt116.2.1 bt116.2.2).bind fun t126 => (if 0 ≤ (wrap64 ((wrap64 ((wrap64 (7 * bt116.1)) + 4)) + t126)) then (if (wrap64 ((wrap64 ((wrap64 (7 * bt116.1)) + 4)) + t126)) < (y113.length : Int) then (if x3_2.length < 5864062014805 then (zf.l1 k2 (x3_2 ++ [(y125.set ((wrap64 ((wrap64 ((wrap64 (7 * bt116.1)) + 4)) + t126)) : Int).toNat (wrap64 ((rd y125 (wrap64 ((wrap64 ((wrap64 (7 * bt116.1)) + 4)) + t126))) - 1)))]) t105 x5_1 (rd (zZ t105 x5_1) 0) (rd (zZ t105 x5_1) 1) (wrap64 (x8_2 + 1)) l0_0) else (none)) else (none)) else (none)))) else (none)) else (none))) else (none)) else (none)))) else (none)) else (none)))) else (none)) else (none)) = some r := H
           have A15 := zA.mk A150
           clear A150
           obtain ⟨ji16, hji16⟩ : ∃ j_ : Int, (wrap64 (7 * t112)) = j_ := ⟨_, rfl⟩
           replace H : (if 0 ≤ (ji16) then (if (ji16 : Int).toNat ≤ 35184372088832 then ((some (List.replicate (ji16 : Int).toNat 0 : List Int)).bind fun y113 => ((qR.f k2 l0_0 (rd (zZ t105 x5_1) 0) (rd (zZ t105 x5_1) 1) x8_2).bind fun bt116 => (if 0 ≤ (wrap64 ((wrap64 (7 * (rd (zZ t105 x5_1) 0))) + x8_2)) then (if (wrap64 ((wrap64 (7 * (rd (zZ t105 x5_1) 0))) + x8_2)) < (y113.length : Int) then ((some (y113.set ((wrap64 ((wrap64 (7 * (rd (zZ t105 x5_1) 0))) + x8_2)) : Int).toNat (wrap64 ((rd y113 (wrap64 ((wrap64 (7 * (rd (zZ t105 x5_1) 0))) + x8_2))) + 1)) : List Int)).bind fun y120 => ((zw.f (rd (zZ t105 x5_1) 1) x8_2).bind fun t121 => (if 0 ≤ (wrap64 ((wrap64 ((wrap64 (7 * (rd (zZ t105 x5_1) 0))) + 4)) + t121)) then (if (wrap64 ((wrap64 ((wrap64 (7 * (rd (zZ t105 x5_1) 0))) + 4)) + t121)) < (y113.length : Int) then ((some (y120.set ((wrap64 ((wrap64 ((wrap64 (7 * (rd (zZ t105 x5_1) 0))) + 4)) + t121)) : Int).toNat (wrap64 ((rd y120 (wrap64 ((wrap64 ((wrap64 (7 * (rd (zZ t105 x5_1) 0))) + 4)) + t121))) + 1)) : List Int)).bind fun y123 => (if 0 ≤ (wrap64 ((wrap64 (7 * bt116.1)) + bt116.2.2)) then (if (wrap64 ((wrap64 (7 * bt116.1)) + bt116.2.2)) < (y113.length : Int) then ((some (y123.set ((wrap64 ((wrap64 (7 * bt116.1)) + bt116.2.2)) : Int).toNat (wrap64 ((rd y123 (wrap64 ((wrap64 (7 * bt116.1)) + bt116.2.2))) - 1)) : List Int)).bind fun y125 => ((zw.f bt116.2.1 bt116.2.2).bind fun t126 => (if 0 ≤ (wrap64 ((wrap64 ((wrap64 (7 * bt116.1)) + 4)) + t126)) then (if (wrap64 ((wrap64 ((wrap64 (7 * bt116.1)) + 4)) + t126)) < (y113.length : Int) then (if x3_2.length < 5864062014805 then (zf.l1 k2 (x3_2 ++ [(y125.set ((wrap64 ((wrap64 ((wrap64 (7 * bt116.1)) + 4)) + t126)) : Int).toNat (wrap64 ((rd y125 (wrap64 ((wrap64 ((wrap64 (7 * bt116.1)) + 4)) + t126))) - 1)))]) t105 x5_1 (rd (zZ t105 x5_1) 0) (rd (zZ t105 x5_1) 1) (wrap64 (x8_2 + 1)) l0_0) else (none)) else (none)) else (none)))) else (none)) else (none))) else (none)) else (none)))) else (none)) else (none)))) else (none)) else (none)) = some r := by first | (rw [hji16] at H; exact H) | (simp only [hji16] at H ⊢; exact H)
           (try rw [hji16] at A15)
           have hji16w : (IntKind.i64.wrap (7 * t112)) = ji16 := (zV _).trans hji16
           by_cases c17 : 0 ≤ (ji16)
           next =>
            rw [if_pos c17] at H
            have c17b0 := eq_true c17
            have c17b1 : decide (0 ≤ (ji16)) = true := ygy c17
            clear c17
            by_cases c18 : (ji16 : Int).toNat ≤ 35184372088832
            next =>
             rw [if_pos c18] at H
             have c18b0 := eq_true c18
             have c18b1 : decide ((ji16 : Int).toNat ≤ 35184372088832) = true := ygy c18
             clear c18
             obtain ⟨y113, hy113⟩ : ∃ y_ : List Int, y_ = (List.replicate (ji16 : Int).toNat 0) := ⟨_, rfl⟩
             replace H : ((qR.f k2 l0_0 (rd (zZ t105 x5_1) 0) (rd (zZ t105 x5_1) 1) x8_2).bind fun bt116 => (if 0 ≤ (wrap64 ((wrap64 (7 * (rd (zZ t105 x5_1) 0))) + x8_2)) then (if (wrap64 ((wrap64 (7 * (rd (zZ t105 x5_1) 0))) + x8_2)) < (y113.length : Int) then ((some (y113.set ((wrap64 ((wrap64 (7 * (rd (zZ t105 x5_1) 0))) + x8_2)) : Int).toNat (wrap64 ((rd y113 (wrap64 ((wrap64 (7 * (rd (zZ t105 x5_1) 0))) + x8_2))) + 1)) : List Int)).bind fun y120 => ((zw.f (rd (zZ t105 x5_1) 1) x8_2).bind fun t121 => (if 0 ≤ (wrap64 ((wrap64 ((wrap64 (7 * (rd (zZ t105 x5_1) 0))) + 4)) + t121)) then (if (wrap64 ((wrap64 ((wrap64 (7 * (rd (zZ t105 x5_1) 0))) + 4)) + t121)) < (y113.length : Int) then ((some (y120.set ((wrap64 ((wrap64 ((wrap64 (7 * (rd (zZ t105 x5_1) 0))) + 4)) + t121)) : Int).toNat (wrap64 ((rd y120 (wrap64 ((wrap64 ((wrap64 (7 * (rd (zZ t105 x5_1) 0))) + 4)) + t121))) + 1)) : List Int)).bind fun y123 => (if 0 ≤ (wrap64 ((wrap64 (7 * bt116.1)) + bt116.2.2)) then (if (wrap64 ((wrap64 (7 * bt116.1)) + bt116.2.2)) < (y113.length : Int) then ((some (y123.set ((wrap64 ((wrap64 (7 * bt116.1)) + bt116.2.2)) : Int).toNat (wrap64 ((rd y123 (wrap64 ((wrap64 (7 * bt116.1)) + bt116.2.2))) - 1)) : List Int)).bind fun y125 => ((zw.f bt116.2.1 bt116.2.2).bind fun t126 => (if 0 ≤ (wrap64 ((wrap64 ((wrap64 (7 * bt116.1)) + 4)) + t126)) then (if (wrap64 ((wrap64 ((wrap64 (7 * bt116.1)) + 4)) + t126)) < (y113.length : Int) then (if x3_2.length < 5864062014805 then (zf.l1 k2 (x3_2 ++ [(y125.set ((wrap64 ((wrap64 ((wrap64 (7 * bt116.1)) + 4)) + t126)) : Int).toNat (wrap64 ((rd y125 (wrap64 ((wrap64 ((wrap64 (7 * bt116.1)) + 4)) + t126))) - 1)))]) t105 x5_1 (rd (zZ t105 x5_1) 0) (rd (zZ t105 x5_1) 1) (wrap64 (x8_2 + 1)) l0_0) else (none)) else (none)) else (none)))) else (none)) else (none))) else (none)) else (none)))) else (none)) else (none))) = some r := by first | (rw [hy113]; with_reducible exact H) | (have H2_ := (yfy _ _).symm.trans H; rw [hy113]; with_reducible exact H2_) | (have H2_ := (yfy _ _).symm.trans H; with_reducible exact H2_) | with_reducible exact H | (rw [hy113]; exact H) | exact H
             have Ny113 := zA.mk hy113
             clear hy113
             replace H := ydy.mp H
             obtain ⟨⟨t116, t117, t118⟩, A190, H⟩ := H
             replace H : (if 0 ≤ (wrap64 ((wrap64 (7 * (rd (zZ t105 x5_1) 0))) + x8_2)) then (if (wrap64 ((wrap64 (7 * (rd (zZ t105 x5_1) 0))) + x8_2)) < (y113.length : Int) then ((some (y113.set ((wrap64 ((wrap64 (7 * (rd (zZ t105 x5_1) 0))) + x8_2)) : Int).toNat (wrap64 ((rd y113 (wrap64 ((wrap64 (7 * (rd (zZ t105 x5_1) 0))) + x8_2))) + 1)) : List Int)).bind fun y120 => ((zw.f (rd (zZ t105 x5_1) 1) x8_2).bind fun t121 => (if 0 ≤ (wrap64 ((wrap64 ((wrap64 (7 * (rd (zZ t105 x5_1) 0))) + 4)) + t121)) then (if (wrap64 ((wrap64 ((wrap64 (7 * (rd (zZ t105 x5_1) 0))) + 4)) + t121)) < (y113.length : Int) then ((some (y120.set ((wrap64 ((wrap64 ((wrap64 (7 * (rd (zZ t105 x5_1) 0))) + 4)) + t121)) : Int).toNat (wrap64 ((rd y120 (wrap64 ((wrap64 ((wrap64 (7 * (rd (zZ t105 x5_1) 0))) + 4)) + t121))) + 1)) : List Int)).bind fun y123 => (if 0 ≤ (wrap64 ((wrap64 (7 * t116)) + t118)) then (if (wrap64 ((wrap64 (7 * t116)) + t118)) < (y113.length : Int) then ((some (y123.set ((wrap64 ((wrap64 (7 * t116)) + t118)) : Int).toNat (wrap64 ((rd y123 (wrap64 ((wrap64 (7 * t116)) + t118))) - 1)) : List Int)).bind fun y125 => ((zw.f t117 t118).bind fun t126 => (if 0 ≤ (wrap64 ((wrap64 ((wrap64 (7 * t116)) + 4)) + t126)) then (if (wrap64 ((wrap64 ((wrap64 (7 * t116)) + 4)) + t126)) < (y113.length : Int) then (if x3_2.length < 5864062014805 then (zf.l1 k2 (x3_2 ++ [(y125.set ((wrap64 ((wrap64 ((wrap64 (7 * t116)) + 4)) + t126)) : Int).toNat (wrap64 ((rd y125 (wrap64 ((wrap64 ((wrap64 (7 * t116)) + 4)) + t126))) - 1)))]) t105 x5_1 (rd (zZ t105 x5_1) 0) (rd (zZ t105 x5_1) 1) (wrap64 (x8_2 + 1)) l0_0) else (none)) else (none)) else (none)))) else (none)) else (none))) else (none)) else (none)))) else (none)) else (none)) = some r := H
             have A19 := zA.mk A190
             clear A190
             obtain ⟨ji20, hji20⟩ : ∃ j_ : Int, (wrap64 ((wrap64 (7 * (rd (zZ t105 x5_1) 0))) + x8_2)) = j_ := ⟨_, rfl⟩
             replace H : (if 0 ≤ (ji20) then (if (ji20) < (y113.length : Int) then ((some (y113.set ((ji20) : Int).toNat (wrap64 ((rd y113 (ji20)) + 1)) : List Int)).bind fun y120 => ((zw.f (rd (zZ t105 x5_1) 1) x8_2).bind fun t121 => (if 0 ≤ (wrap64 ((wrap64 ((wrap64 (7 * (rd (zZ t105 x5_1) 0))) + 4)) + t121)) then (if (wrap64 ((wrap64 ((wrap64 (7 * (rd (zZ t105 x5_1) 0))) + 4)) + t121)) < (y113.length : Int) then ((some (y120.set ((wrap64 ((wrap64 ((wrap64 (7 * (rd (zZ t105 x5_1) 0))) + 4)) + t121)) : Int).toNat (wrap64 ((rd y120 (wrap64 ((wrap64 ((wrap64 (7 * (rd (zZ t105 x5_1) 0))) + 4)) + t121))) + 1)) : List Int)).bind fun y123 => (if 0 ≤ (wrap64 ((wrap64 (7 * t116)) + t118)) then (if (wrap64 ((wrap64 (7 * t116)) + t118)) < (y113.length : Int) then ((some (y123.set ((wrap64 ((wrap64 (7 * t116)) + t118)) : Int).toNat (wrap64 ((rd y123 (wrap64 ((wrap64 (7 * t116)) + t118))) - 1)) : List Int)).bind fun y125 => ((zw.f t117 t118).bind fun t126 => (if 0 ≤ (wrap64 ((wrap64 ((wrap64 (7 * t116)) + 4)) + t126)) then (if (wrap64 ((wrap64 ((wrap64 (7 * t116)) + 4)) + t126)) < (y113.length : Int) then (if x3_2.length < 5864062014805 then (zf.l1 k2 (x3_2 ++ [(y125.set ((wrap64 ((wrap64 ((wrap64 (7 * t116)) + 4)) + t126)) : Int).toNat (wrap64 ((rd y125 (wrap64 ((wrap64 ((wrap64 (7 * t116)) + 4)) + t126))) - 1)))]) t105 x5_1 (rd (zZ t105 x5_1) 0) (rd (zZ t105 x5_1) 1) (wrap64 (x8_2 + 1)) l0_0) else (none)) else (none)) else (none)))) else (none)) else (none))) else (none)) else (none)))) else (none)) else (none)) = some r := by first | (rw [hji20] at H; exact H) | (simp only [hji20] at H ⊢; exact H)
             (try rw [hji20] at A15)
             (try rw [hji20] at A19)
             have hji20w : (IntKind.i64.wrap ((wrap64 (7 * (rd (zZ t105 x5_1) 0))) + x8_2)) = ji20 := (zV _).trans hji20
             by_cases c21 : 0 ≤ (ji20)
             next =>
              rw [if_pos c21] at H
              have c21b0 : decide (0 ≤ (ji20)) = true := ygy c21
              clear c21
              by_cases c22 : (ji20) < (y113.length : Int)
              next =>
               rw [if_pos c22] at H
               have c22b0 : decide ((ji20) < (y113.length : Int)) = true := ygy c22
               clear c22
               obtain ⟨y120, hy120⟩ : ∃ y_ : List Int, y_ = (y113.set ((ji20) : Int).toNat (wrap64 ((rd y113 (ji20)) + 1))) := ⟨_, rfl⟩
               replace H : ((zw.f (rd (zZ t105 x5_1) 1) x8_2).bind fun t121 => (if 0 ≤ (wrap64 ((wrap64 ((wrap64 (7 * (rd (zZ t105 x5_1) 0))) + 4)) + t121)) then (if (wrap64 ((wrap64 ((wrap64 (7 * (rd (zZ t105 x5_1) 0))) + 4)) + t121)) < (y113.length : Int) then ((some (y120.set ((wrap64 ((wrap64 ((wrap64 (7 * (rd (zZ t105 x5_1) 0))) + 4)) + t121)) : Int).toNat (wrap64 ((rd y120 (wrap64 ((wrap64 ((wrap64 (7 * (rd (zZ t105 x5_1) 0))) + 4)) + t121))) + 1)) : List Int)).bind fun y123 => (if 0 ≤ (wrap64 ((wrap64 (7 * t116)) + t118)) then (if (wrap64 ((wrap64 (7 * t116)) + t118)) < (y113.length : Int) then ((some (y123.set ((wrap64 ((wrap64 (7 * t116)) + t118)) : Int).toNat (wrap64 ((rd y123 (wrap64 ((wrap64 (7 * t116)) + t118))) - 1)) : List Int)).bind fun y125 => ((zw.f t117 t118).bind fun t126 => (if 0 ≤ (wrap64 ((wrap64 ((wrap64 (7 * t116)) + 4)) + t126)) then (if (wrap64 ((wrap64 ((wrap64 (7 * t116)) + 4)) + t126)) < (y113.length : Int) then (if x3_2.length < 5864062014805 then (zf.l1 k2 (x3_2 ++ [(y125.set ((wrap64 ((wrap64 ((wrap64 (7 * t116)) + 4)) + t126)) : Int).toNat (wrap64 ((rd y125 (wrap64 ((wrap64 ((wrap64 (7 * t116)) + 4)) + t126))) - 1)))]) t105 x5_1 (rd (zZ t105 x5_1) 0) (rd (zZ t105 x5_1) 1) (wrap64 (x8_2 + 1)) l0_0) else (none)) else (none)) else (none)))) else (none)) else (none))) else (none)) else (none))) = some r := by first | (rw [hy120]; with_reducible exact H) | (have H2_ := (yfy _ _).symm.trans H; rw [hy120]; with_reducible exact H2_) | (have H2_ := (yfy _ _).symm.trans H; with_reducible exact H2_) | with_reducible exact H | (rw [hy120]; exact H) | exact H
               have Ny120 := zA.mk hy120
               clear hy120
               replace H := ydy.mp H
               obtain ⟨t121, A240, H⟩ := H
               replace H : (if 0 ≤ (wrap64 ((wrap64 ((wrap64 (7 * (rd (zZ t105 x5_1) 0))) + 4)) + t121)) then (if (wrap64 ((wrap64 ((wrap64 (7 * (rd (zZ t105 x5_1) 0))) + 4)) + t121)) < (y113.length : Int) then ((some (y120.set ((wrap64 ((wrap64 ((wrap64 (7 * (rd (zZ t105 x5_1) 0))) + 4)) + t121)) : Int).toNat (wrap64 ((rd y120 (wrap64 ((wrap64 ((wrap64 (7 * (rd (zZ t105 x5_1) 0))) + 4)) + t121))) + 1)) : List Int)).bind fun y123 => (if 0 ≤ (wrap64 ((wrap64 (7 * t116)) + t118)) then (if (wrap64 ((wrap64 (7 * t116)) + t118)) < (y113.length : Int) then ((some (y123.set ((wrap64 ((wrap64 (7 * t116)) + t118)) : Int).toNat (wrap64 ((rd y123 (wrap64 ((wrap64 (7 * t116)) + t118))) - 1)) : List Int)).bind fun y125 => ((zw.f t117 t118).bind fun t126 => (if 0 ≤ (wrap64 ((wrap64 ((wrap64 (7 * t116)) + 4)) + t126)) then (if (wrap64 ((wrap64 ((wrap64 (7 * t116)) + 4)) + t126)) < (y113.length : Int) then (if x3_2.length < 5864062014805 then (zf.l1 k2 (x3_2 ++ [(y125.set ((wrap64 ((wrap64 ((wrap64 (7 * t116)) + 4)) + t126)) : Int).toNat (wrap64 ((rd y125 (wrap64 ((wrap64 ((wrap64 (7 * t116)) + 4)) + t126))) - 1)))]) t105 x5_1 (rd (zZ t105 x5_1) 0) (rd (zZ t105 x5_1) 1) (wrap64 (x8_2 + 1)) l0_0) else (none)) else (none)) else (none)))) else (none)) else (none))) else (none)) else (none)) = some r := H
               have A24 := zA.mk A240
               clear A240
               obtain ⟨ji25, hji25⟩ : ∃ j_ : Int, (wrap64 ((wrap64 ((wrap64 (7 * (rd (zZ t105 x5_1) 0))) + 4)) + t121)) = j_ := ⟨_, rfl⟩
               replace H : (if 0 ≤ (ji25) then (if (ji25) < (y113.length : Int) then ((some (y120.set ((ji25) : Int).toNat (wrap64 ((rd y120 (ji25)) + 1)) : List Int)).bind fun y123 => (if 0 ≤ (wrap64 ((wrap64 (7 * t116)) + t118)) then (if (wrap64 ((wrap64 (7 * t116)) + t118)) < (y113.length : Int) then ((some (y123.set ((wrap64 ((wrap64 (7 * t116)) + t118)) : Int).toNat (wrap64 ((rd y123 (wrap64 ((wrap64 (7 * t116)) + t118))) - 1)) : List Int)).bind fun y125 => ((zw.f t117 t118).bind fun t126 => (if 0 ≤ (wrap64 ((wrap64 ((wrap64 (7 * t116)) + 4)) + t126)) then (if (wrap64 ((wrap64 ((wrap64 (7 * t116)) + 4)) + t126)) < (y113.length : Int) then (if x3_2.length < 5864062014805 then (zf.l1 k2 (x3_2 ++ [(y125.set ((wrap64 ((wrap64 ((wrap64 (7 * t116)) + 4)) + t126)) : Int).toNat (wrap64 ((rd y125 (wrap64 ((wrap64 ((wrap64 (7 * t116)) + 4)) + t126))) - 1)))]) t105 x5_1 (rd (zZ t105 x5_1) 0) (rd (zZ t105 x5_1) 1) (wrap64 (x8_2 + 1)) l0_0) else (none)) else (none)) else (none)))) else (none)) else (none))) else (none)) else (none)) = some r := by first | (rw [hji25] at H; exact H) | (simp only [hji25] at H ⊢; exact H)
               (try rw [hji25] at A15)
               (try rw [hji25] at A19)
               (try rw [hji25] at A24)
               have hji25w : (IntKind.i64.wrap ((wrap64 ((wrap64 (7 * (rd (zZ t105 x5_1) 0))) + 4)) + t121)) = ji25 := (zV _).trans hji25
               by_cases c26 : 0 ≤ (ji25)
               next =>
                rw [if_pos c26] at H
                have c26b0 : decide (0 ≤ (ji25)) = true := ygy c26
                clear c26
                by_cases c27 : (ji25) < (y113.length : Int)
                next =>
                 rw [if_pos c27] at H
                 have c27b0 : decide ((ji25) < (y113.length : Int)) = true := ygy c27
                 clear c27
                 obtain ⟨y123, hy123⟩ : ∃ y_ : List Int, y_ = (y120.set ((ji25) : Int).toNat (wrap64 ((rd y120 (ji25)) + 1))) := ⟨_, rfl⟩
                 replace H : (if 0 ≤ (wrap64 ((wrap64 (7 * t116)) + t118)) then (if (wrap64 ((wrap64 (7 * t116)) + t118)) < (y113.length : Int) then ((some (y123.set ((wrap64 ((wrap64 (7 * t116)) + t118)) : Int).toNat (wrap64 ((rd y123 (wrap64 ((wrap64 (7 * t116)) + t118))) - 1)) : List Int)).bind fun y125 => ((zw.f t117 t118).bind fun t126 => (if 0 ≤ (wrap64 ((wrap64 ((wrap64 (7 * t116)) + 4)) + t126)) then (if (wrap64 ((wrap64 ((wrap64 (7 * t116)) + 4)) + t126)) < (y113.length : Int) then (if x3_2.length < 5864062014805 then (zf.l1 k2 (x3_2 ++ [(y125.set ((wrap64 ((wrap64 ((wrap64 (7 * t116)) + 4)) + t126)) : Int).toNat (wrap64 ((rd y125 (wrap64 ((wrap64 ((wrap64 (7 * t116)) + 4)) + t126))) - 1)))]) t105 x5_1 (rd (zZ t105 x5_1) 0) (rd (zZ t105 x5_1) 1) (wrap64 (x8_2 + 1)) l0_0) else (none)) else (none)) else (none)))) else (none)) else (none)) = some r := by first | (rw [hy123]; with_reducible exact H) | (have H2_ := (yfy _ _).symm.trans H; rw [hy123]; with_reducible exact H2_) | (have H2_ := (yfy _ _).symm.trans H; with_reducible exact H2_) | with_reducible exact H | (rw [hy123]; exact H) | exact H
                 have Ny123 := zA.mk hy123
                 clear hy123
                 obtain ⟨ji29, hji29⟩ : ∃ j_ : Int, (wrap64 ((wrap64 (7 * t116)) + t118)) = j_ := ⟨_, rfl⟩
                 replace H : (if 0 ≤ (ji29) then (if (ji29) < (y113.length : Int) then ((some (y123.set ((ji29) : Int).toNat (wrap64 ((rd y123 (ji29)) - 1)) : List Int)).bind fun y125 => ((zw.f t117 t118).bind fun t126 => (if 0 ≤ (wrap64 ((wrap64 ((wrap64 (7 * t116)) + 4)) + t126)) then (if (wrap64 ((wrap64 ((wrap64 (7 * t116)) + 4)) + t126)) < (y113.length : Int) then (if x3_2.length < 5864062014805 then (zf.l1 k2 (x3_2 ++ [(y125.set ((wrap64 ((wrap64 ((wrap64 (7 * t116)) + 4)) + t126)) : Int).toNat (wrap64 ((rd y125 (wrap64 ((wrap64 ((wrap64 (7 * t116)) + 4)) + t126))) - 1)))]) t105 x5_1 (rd (zZ t105 x5_1) 0) (rd (zZ t105 x5_1) 1) (wrap64 (x8_2 + 1)) l0_0) else (none)) else (none)) else (none)))) else (none)) else (none)) = some r := by first | (rw [hji29] at H; exact H) | (simp only [hji29] at H ⊢; exact H)
                 (try rw [hji29] at A15)
                 (try rw [hji29] at A19)
                 (try rw [hji29] at A24)
                 have hji29w : (IntKind.i64.wrap ((wrap64 (7 * t116)) + t118)) = ji29 := (zV _).trans hji29
                 by_cases c30 : 0 ≤ (ji29)
                 next =>
                  rw [if_pos c30] at H
                  have c30b0 : decide (0 ≤ (ji29)) = true := ygy c30
                  clear c30
                  by_cases c31 : (ji29) < (y113.length : Int)
                  next =>
                   rw [if_pos c31] at H
                   have c31b0 : decide ((ji29) < (y113.length : Int)) = true := ygy c31
                   clear c31
                   obtain ⟨y125, hy125⟩ : ∃ y_ : List Int, y_ = (y123.set ((ji29) : Int).toNat (wrap64 ((rd y123 (ji29)) - 1))) := ⟨_, rfl⟩
                   replace H : ((zw.f t117 t118).bind fun t126 => (if 0 ≤ (wrap64 ((wrap64 ((wrap64 (7 * t116)) + 4)) + t126)) then (if (wrap64 ((wrap64 ((wrap64 (7 * t116)) + 4)) + t126)) < (y113.length : Int) then (if x3_2.length < 5864062014805 then (zf.l1 k2 (x3_2 ++ [(y125.set ((wrap64 ((wrap64 ((wrap64 (7 * t116)) + 4)) + t126)) : Int).toNat (wrap64 ((rd y125 (wrap64 ((wrap64 ((wrap64 (7 * t116)) + 4)) + t126))) - 1)))]) t105 x5_1 (rd (zZ t105 x5_1) 0) (rd (zZ t105 x5_1) 1) (wrap64 (x8_2 + 1)) l0_0) else (none)) else (none)) else (none))) = some r := by first | (rw [hy125]; with_reducible exact H) | (have H2_ := (yfy _ _).symm.trans H; rw [hy125]; with_reducible exact H2_) | (have H2_ := (yfy _ _).symm.trans H; with_reducible exact H2_) | with_reducible exact H | (rw [hy125]; exact H) | exact H
                   have Ny125 := zA.mk hy125
                   clear hy125
                   replace H := ydy.mp H
                   obtain ⟨t126, A330, H⟩ := H
                   replace H : (if 0 ≤ (wrap64 ((wrap64 ((wrap64 (7 * t116)) + 4)) + t126)) then (if (wrap64 ((wrap64 ((wrap64 (7 * t116)) + 4)) + t126)) < (y113.length : Int) then (if x3_2.length < 5864062014805 then (zf.l1 k2 (x3_2 ++ [(y125.set ((wrap64 ((wrap64 ((wrap64 (7 * t116)) + 4)) + t126)) : Int).toNat (wrap64 ((rd y125 (wrap64 ((wrap64 ((wrap64 (7 * t116)) + 4)) + t126))) - 1)))]) t105 x5_1 (rd (zZ t105 x5_1) 0) (rd (zZ t105 x5_1) 1) (wrap64 (x8_2 + 1)) l0_0) else (none)) else (none)) else (none)) = some r := H
                   have A33 := zA.mk A330
                   clear A330
                   obtain ⟨ji34, hji34⟩ : ∃ j_ : Int, (wrap64 ((wrap64 ((wrap64 (7 * t116)) + 4)) + t126)) = j_ := ⟨_, rfl⟩
                   replace H : (if 0 ≤ (ji34) then (if (ji34) < (y113.length : Int) then (if x3_2.length < 5864062014805 then (zf.l1 k2 (x3_2 ++ [(y125.set ((ji34) : Int).toNat (wrap64 ((rd y125 (ji34)) - 1)))]) t105 x5_1 (rd (zZ t105 x5_1) 0) (rd (zZ t105 x5_1) 1) (wrap64 (x8_2 + 1)) l0_0) else (none)) else (none)) else (none)) = some r := by first | (rw [hji34] at H; exact H) | (simp only [hji34] at H ⊢; exact H)
                   (try rw [hji34] at A15)
                   (try rw [hji34] at A19)
                   (try rw [hji34] at A24)
                   (try rw [hji34] at A33)
                   have hji34w : (IntKind.i64.wrap ((wrap64 ((wrap64 (7 * t116)) + 4)) + t126)) = ji34 := (zV _).trans hji34
                   by_cases c35 : 0 ≤ (ji34)
                   next =>
                    rw [if_pos c35] at H
                    have c35b0 : decide (0 ≤ (ji34)) = true := ygy c35
                    clear c35
                    by_cases c36 : (ji34) < (y113.length : Int)
                    next =>
                     rw [if_pos c36] at H
                     have c36b0 : decide ((ji34) < (y113.length : Int)) = true := ygy c36
                     clear c36
                     obtain ⟨y128, hy128⟩ : ∃ y_ : List Int, y_ = (y125.set ((ji34) : Int).toNat (wrap64 ((rd y125 (ji34)) - 1))) := ⟨_, rfl⟩
                     replace H : (if x3_2.length < 5864062014805 then (zf.l1 k2 (x3_2 ++ [y128]) t105 x5_1 (rd (zZ t105 x5_1) 0) (rd (zZ t105 x5_1) 1) (wrap64 (x8_2 + 1)) l0_0) else (none)) = some r := by first | (rw [hy128]; with_reducible exact H) | (have H2_ := (yfy _ _).symm.trans H; rw [hy128]; with_reducible exact H2_) | (have H2_ := (yfy _ _).symm.trans H; with_reducible exact H2_) | with_reducible exact H | (rw [hy128]; exact H) | exact H
                     have Ny128 := zA.mk hy128
                     clear hy128
                     by_cases c38 : x3_2.length < 5864062014805
                     next =>
                      rw [if_pos c38] at H
                      have LMc38 := zA.mk c38
                      clear c38
                      obtain ⟨y129, hy129⟩ : ∃ y_ : List (List Int), y_ = (x3_2 ++ [y128]) := ⟨_, rfl⟩
                      replace H : (zf.l1 k2 y129 t105 x5_1 (rd (zZ t105 x5_1) 0) (rd (zZ t105 x5_1) 1) (wrap64 (x8_2 + 1)) l0_0) = some r := by first | (rw [hy129]; with_reducible exact H) | (have H2_ := (yfy _ _).symm.trans H; rw [hy129]; with_reducible exact H2_) | (have H2_ := (yfy _ _).symm.trans H; with_reducible exact H2_) | with_reducible exact H | (rw [hy129]; exact H) | exact H
                      have Ny129 := zA.mk hy129
                      clear hy129
                      have H' := zA.mk H
                      clear H
                      have hcz39_0 : wr.cell? ⟨gb101, 0, none⟩ = some (.slice A0_0 l0_0.length c0_0) := (zK BK101.out 0).trans rfl
                      have hfz39_0 := zG BK101.out 0
                      go_wp2_with (first | ((with_reducible refine zX (f := 59) rfl ?_); refine qI (some 42) rfl rfl Try.func59 (by kernel_rfl) rfl #[.agg #[.slice A0_0 l0_0.length c0_0]] rfl (by (try simp only [yiy, yjy, yky]); first | done | rfl | (simp only [yly, ymy]; rfl)) ?_; (with_reducible refine (zm.calls _ _ l0_0 t112 _ ?side1 ?side2 A15.out).mono ?_); (case side1 => repeat (first | exact (Kd.qD HR0_0.out HB.out) | (with_reducible refine Kd.qA ?_ _) | (with_reducible refine Kd.qB ?_ _) | (with_reducible refine Kd.qP ?_))); (case side2 => exact HC0_0.out); rintro e w40 ⟨rfl, hb⟩; refine ⟨_, rfl, ?_⟩; have n0_ := zA.mk (Kd.Zd (by (with_reducible repeat (first | apply Kd.qF | apply Kd.qH | apply Kd.qS)); exact HO_3.out) hb); have n1_ := zA.mk (Kd.Zd (by (with_reducible repeat (first | apply Kd.qF | apply Kd.qH | apply Kd.qS)); exact HO_4.out) hb); have n2_ := zA.mk (zO (g := gb101) (o := .cells #[.slice A0_0 l0_0.length c0_0] 30 (0, 0)) (by (with_reducible repeat (first | refine zI ?_ _ | refine zL ?_ | refine zH ?_ _)); exact BK101.out) hb); have n3_ := zA.mk (zN (by repeat (first | (with_reducible first | exact HB.out | apply zC | apply zB | apply zD | refine zF ?_ GE101.out) | exact HB.out)) hb); clear HO_3; clear HO_4; clear BK101; clear HB; have HO_3 := n0_; have HO_4 := n1_; have BK101 := n2_; have HB := n3_; clear n0_ n1_ n2_ n3_; (try clear hb); (try clear hb2); (try clear hk); (try clear hi)) | ((with_reducible refine ze (N := 44) rfl ?_); refine Kd.zCD (Kd.int .i64) _ 2 rfl (N := 44) rfl 25 _ _ rfl ji16 rfl rfl Try.underlying25 (.int .i64 0) 8 JN rfl (by decide) (by omega) 0 (ok := fun _ => True) (okp := fun _ => True) rfl (fun _ hk => hk) trivial (of_decide_eq_true (by first | (with_reducible assumption) | assumption)) (Nat.le_trans (Nat.mul_le_mul_right _ (of_decide_eq_true (by first | (with_reducible assumption) | assumption) : ji16.toNat ≤ 35184372088832)) (by omega)) (ypy _ _) (yoy _) ?_; intro v114 w41 ho42 hb hg_ hnew_; clear hg_ hnew_; (first | rw [← Ny113.out] at ho42 | (simp only [Int.reduceToNat] at ho42; rw [← Ny113.out] at ho42)); have n0_ := zA.mk (Kd.JE (by (with_reducible repeat (first | apply Kd.qF | apply Kd.qH | apply Kd.qS)); exact HO_3.out) (Kd.Qd ho42) hb); have n1_ := zA.mk (Kd.JE (by (with_reducible repeat (first | apply Kd.qF | apply Kd.qH | apply Kd.qS)); exact HO_4.out) (Kd.Qd ho42) hb); have n2_ := zA.mk (Kd.ZR ho42 (zP (by repeat (first | (with_reducible first | exact HB.out | apply zC | apply zB | apply zD | refine zF ?_ GE101.out) | exact HB.out)))); have n3_ := zA.mk (zO (g := gb101) (o := .cells #[.slice A0_0 l0_0.length c0_0] 30 (0, 0)) (by (with_reducible repeat (first | refine zI ?_ _ | refine zL ?_ | refine zH ?_ _)); exact BK101.out) hb); have n4_ := zA.mk (zN (by repeat (first | (with_reducible first | exact HB.out | apply zC | apply zB | apply zD | refine zF ?_ GE101.out) | exact HB.out)) hb); clear HO_3; clear HO_4; clear BK101; clear HB; have HO_3 := n0_; have HO_4 := n1_; have HO115 := n2_; have BK101 := n3_; have HB := n4_; clear n0_ n1_ n2_ n3_ n4_; clear hb ho42; have hcz43_0 : w41.cell? ⟨gb101, 0, none⟩ = some (.slice A0_0 l0_0.length c0_0) := (zK BK101.out 0).trans rfl; have hfz43_0 := zG BK101.out 0) | ((with_reducible refine zX (f := 103) rfl ?_); refine qI (some 50) rfl rfl Try.func103 (by kernel_rfl) rfl #[.agg #[.slice A0_0 l0_0.length c0_0], .int .i64 (rd (zZ t105 x5_1) 0), .int .i64 (rd (zZ t105 x5_1) 1), .int .i64 x8_2] rfl (by (try simp only [yiy, yjy, yky]); first | done | rfl | (simp only [yly, ymy]; rfl)) ?_; (with_reducible refine (qR.calls k2 _ _ l0_0 (rd (zZ t105 x5_1) 0) (rd (zZ t105 x5_1) 1) x8_2 t116 t117 t118 _ ?side1 ?side2 A19.out).mono ?_); (case side1 => repeat (first | exact (Kd.qD HR0_0.out HB.out) | (with_reducible refine Kd.qA ?_ _) | (with_reducible refine Kd.qB ?_ _) | (with_reducible refine Kd.qP ?_))); (case side2 => exact HC0_0.out); rintro e w44 ⟨rfl, hb⟩; refine ⟨_, rfl, ?_⟩; have n0_ := zA.mk (Kd.Zd (by (with_reducible repeat (first | apply Kd.qF | apply Kd.qH | apply Kd.qS)); exact HO_3.out) hb); have n1_ := zA.mk (Kd.Zd (by (with_reducible repeat (first | apply Kd.qF | apply Kd.qH | apply Kd.qS)); exact HO_4.out) hb); have n2_ := zA.mk (Kd.ZV (by (with_reducible repeat (first | apply Kd.zl | apply Kd.zj | apply Kd.zz)); exact HO115.out) hb); have n3_ := zA.mk (zO (g := gb101) (o := .cells #[.slice A0_0 l0_0.length c0_0] 30 (0, 0)) (by (with_reducible repeat (first | refine zI ?_ _ | refine zL ?_ | refine zH ?_ _)); exact BK101.out) hb); have n4_ := zA.mk (zN (by repeat (first | (with_reducible first | exact HB.out | apply zC | apply zB | apply zD | refine zF ?_ GE101.out) | exact HB.out)) hb); clear HO_3; clear HO_4; clear HO115; clear BK101; clear HB; have HO_3 := n0_; have HO_4 := n1_; have HO115 := n2_; have BK101 := n3_; have HB := n4_; clear n0_ n1_ n2_ n3_ n4_; (try clear hb); (try clear hb2); (try clear hk); (try clear hi); obtain ⟨Ao45, co45, eo45⟩ := Kd.ZK HO115.out; subst eo45; have p119 : 0 ≤ ((ji20) : Int) := of_decide_eq_true (by first | (with_reducible assumption) | assumption); have q119 : (ji20) < (y113.length : Int) := of_decide_eq_true (by first | (with_reducible assumption) | assumption); obtain ⟨ad119, e119, hx119_0⟩ := Kd.ZP (Kd.qC HO115.out).2.2 (ji20) p119 q119; cases e119; replace p119 := eq_true p119; replace q119 := eq_true q119; have p23 : 0 ≤ ((ji20) : Int) := of_decide_eq_true (by first | (with_reducible assumption) | assumption); have q23 : ((ji20) : Int) < ((y113.length : Int) : Int) := of_decide_eq_true (by first | (with_reducible assumption) | assumption); obtain ⟨go23, co23, eo23, gb23, gl23, cl23, HG23⟩ := Kd.Jq HO115.out (by omega); (first | cases eo23 | (injection eo23 with ea_ en_ ec_; (first | subst ea_ | (injection ea_ with ea_; subst ea_)); subst ec_; clear en_)); have GB23 := zA.mk gb23; have GG23 := zA.mk HG23; clear gb23 gl23 HG23; (first | simp only [add_plain] at hx119_0 | skip); obtain ⟨hx23_0, hf23_0⟩ := Kd.Zp 0 HO115.out ((ji20) : Int) p23 q23; replace p23 := eq_true p23; replace q23 := eq_true q23; obtain ⟨hy46_, hz46_⟩ := Kd.Zp 0 HO115.out ((ji20) : Int) (of_decide_eq_true (by first | (with_reducible assumption) | assumption)) (of_decide_eq_true (by first | (with_reducible assumption) | assumption)); have HP46 := Kd.JG HO115.out ((ji20) : Int) (wrap64 ((rd y113 (ji20)) + 1))) | ((with_reducible refine ZE (t := 2) (p := 62) rfl ?_); refine qt (t := 2) (p := 62) (v := ?vo_w47) (w1 := (w44.setCell ⟨go23, ((ji20) : Int).toNat, none⟩ (.int .i64 (wrap64 ((rd y113 (ji20)) + 1))))) ?hg ?ho ?hn ?hr ?_; (case ho => rfl); (case hg => rfl); (case hn => rfl); (case hr => first | (go_simp; done) | (go_simp; rfl)); intro w47 hw; have hg : w44.grownBy w47 (some go23) := (by rw [hw]; exact HP46.2); have hp_ : Kd.R (Kd.int .i64) 2 w47 w.heap.size (fun _ => True) (.slice (some ⟨go23, 0, none⟩) y113.length co45) y120 := (by rw [hw, Ny120.out]; exact HP46.1); clear HP46; have n0_ := zA.mk (Kd.QX (v := (.slice (some ⟨go23, 0, none⟩) y113.length co45)) (v1 := (.slice (some ⟨go23, 0, none⟩) y113.length co45)) (ok := (fun k_ => some k_ ≠ (.slice (some ad108) t105.length co12 : Value).ownBlock)) (by (with_reducible repeat (first | apply Kd.qF | apply Kd.qH | apply Kd.qS)); first | exact HO_3.out | exact Kd.ZJ HO_3.out (fun _ hk => ⟨hk.2, hk.1⟩) | exact Kd.qL HO_3.out (fun _ hk => ⟨hk.2, hk.1⟩)) hg (.inl rfl)); have n1_ := zA.mk (Kd.QX (v := (.slice (some ⟨go23, 0, none⟩) y113.length co45)) (v1 := (.slice (some ⟨go23, 0, none⟩) y113.length co45)) (ok := (fun k_ => some k_ ≠ (u3 : Value).ownBlock)) (by (with_reducible repeat (first | apply Kd.qF | apply Kd.qH | apply Kd.qS)); first | exact HO_4.out | exact Kd.ZJ HO_4.out (fun _ hk => ⟨hk.2, hk.1⟩) | exact Kd.qL HO_4.out (fun _ hk => ⟨hk.2, hk.1⟩)) hg (.inl rfl)); have n2_ := zA.mk (qa (g := gb101) (o := .cells #[.slice A0_0 l0_0.length c0_0] 30 (0, 0)) (by (with_reducible repeat (first | refine zI ?_ _ | refine zL ?_ | refine zH ?_ _)); exact BK101.out) hg (Kd.zDb HO115.out BK101.out (by decide))); have n3_ := zA.mk (hp_); have n4_ := zA.mk ((by rw [hw]; exact zF (HB.out) GB23.out : Below w.heap.size w w47)); clear HO_3; clear HO_4; clear BK101; clear HO115; clear HB; have HO_3 := n0_; have HO_4 := n1_; have BK101 := n2_; have HO115 := n3_; have HB := n4_; clear n0_ n1_ n2_ n3_ n4_; clear hg hw hp_) | ((with_reducible refine zX (f := 104) rfl ?_); refine qI (some 69) rfl rfl Try.func104 (by kernel_rfl) rfl #[.int .i64 (rd (zZ t105 x5_1) 1), .int .i64 x8_2] rfl (by (try simp only [yiy, yjy, yky]); first | done | rfl | (simp only [yly, ymy]; rfl)) ?_; (with_reducible refine (zw.calls (rd (zZ t105 x5_1) 1) x8_2 t121 _ A24.out).mono ?_); rintro e w' ⟨rfl, ⟨nd, rfl⟩⟩; refine ⟨_, rfl, ?_⟩; (try (rw [zAZ w47]; generalize hq_ : World.drewN w47 _ = w47; have n0_ : zA (Kd.R (Kd.int .i64) 2 w47 w.heap.size (fun _ => True) (.slice (some ⟨go23, 0, none⟩) y113.length co45) y120) := ⟨by rw [← hq_]; exact (by (with_reducible repeat (first | apply Kd.zl | apply Kd.zj | apply Kd.zz)); exact HO115.out)⟩; have n1_ : zA (Kd.S (Kd.slice 2 (Kd.int .i64)) 25 w47 w.heap.size (fun k_ => some k_ ≠ (.slice (some ⟨go23, 0, none⟩) y113.length co45 : Value).ownBlock ∧ some k_ ≠ (.slice (some ad108) t105.length co12 : Value).ownBlock) u3 x3_2) := ⟨by rw [← hq_]; exact (by (with_reducible repeat (first | apply Kd.qF | apply Kd.qH | apply Kd.qS)); exact Kd.ZJ HO_3.out (fun _ hk => ⟨hk.2, hk.1⟩))⟩; have n2_ : zA (Kd.S (Kd.slice 2 (Kd.int .i64)) 25 w47 w.heap.size (fun k_ => some k_ ≠ (.slice (some ⟨go23, 0, none⟩) y113.length co45 : Value).ownBlock ∧ some k_ ≠ (u3 : Value).ownBlock) (.slice (some ad108) t105.length co12) t105) := ⟨by rw [← hq_]; exact (by (with_reducible repeat (first | apply Kd.qF | apply Kd.qH | apply Kd.qS)); exact Kd.ZJ HO_4.out (fun _ hk => ⟨hk.2, hk.1⟩))⟩; have n3_ : zA (w47.heap[gb101]? = some (.cells #[.slice A0_0 l0_0.length c0_0] 30 (0, 0))) := ⟨by rw [← hq_]; exact (by (with_reducible repeat (first | refine zI ?_ _ | refine zL ?_ | refine zH ?_ _)); exact BK101.out)⟩; have n4_ : zA (Below w.heap.size w w47) := ⟨by rw [← hq_]; exact (by repeat (first | (with_reducible first | exact HB.out | apply zC | apply zB | apply zD | refine zF ?_ GE101.out) | exact HB.out))⟩; clear HO115 HO_3 HO_4 BK101 HB hq_; have HO115 := n0_; have HO_3 := n1_; have HO_4 := n2_; have BK101 := n3_; have HB := n4_; clear n0_ n1_ n2_ n3_ n4_)); have p122 : 0 ≤ ((ji25) : Int) := of_decide_eq_true (by first | (with_reducible assumption) | assumption); have q122 : (ji25) < (y120.length : Int) := (by have h_ : ((ji25) : Int) < ((y113.length : Int) : Int) := of_decide_eq_true (by first | (with_reducible assumption) | assumption); first | (have e_ := (Kd.qC HO115.out).1; omega) | simpa only [Ny120.out, List.length_set] using h_); have ql122 : (((ji25) : Int) < ((y113.length : Int) : Int)) = True := eq_true (of_decide_eq_true (by first | (with_reducible assumption) | assumption)); obtain ⟨ad122, e122, hx122_0⟩ := Kd.ZP (Kd.qC HO115.out).2.2 (ji25) p122 q122; obtain rfl : (⟨go23, 0, none⟩ : Addr) = ad122 := (by injection e122); (first | simp only [add_plain] at hx122_0 | simp only [zBT] at hx122_0 | simp only [Addr.add, Nat.zero_add] at hx122_0 | skip); replace p122 := eq_true p122; replace q122 := eq_true q122; have p28 : 0 ≤ ((ji25) : Int) := of_decide_eq_true (by first | (with_reducible assumption) | assumption); have q28 : ((ji25) : Int) < ((y113.length : Int) : Int) := of_decide_eq_true (by first | (with_reducible assumption) | assumption); obtain ⟨hx28_0, hf28_0⟩ := Kd.Zp 0 HO115.out ((ji25) : Int) p28 q28; replace p28 := eq_true p28; replace q28 := eq_true q28; obtain ⟨hy48_, hz48_⟩ := Kd.Zp 0 HO115.out ((ji25) : Int) (of_decide_eq_true (by first | (with_reducible assumption) | assumption)) (of_decide_eq_true (by first | (with_reducible assumption) | assumption)); have HP48 := Kd.JG HO115.out ((ji25) : Int) (wrap64 ((rd y120 (ji25)) + 1))) | ((with_reducible refine ZE (t := 2) (p := 74) rfl ?_); refine qt (t := 2) (p := 74) (v := ?vo_w49) (w1 := (w47.setCell ⟨go23, ((ji25) : Int).toNat, none⟩ (.int .i64 (wrap64 ((rd y120 (ji25)) + 1))))) ?hg ?ho ?hn ?hr ?_; (case ho => rfl); (case hg => rfl); (case hn => rfl); (case hr => first | (go_simp; done) | (go_simp; rfl)); intro w49 hw; have hg : w47.grownBy w49 (some go23) := (by rw [hw]; exact HP48.2); have hp_ : Kd.R (Kd.int .i64) 2 w49 w.heap.size (fun _ => True) (.slice (some ⟨go23, 0, none⟩) y113.length co45) y123 := (by rw [hw, Ny123.out]; exact HP48.1); clear HP48; have n0_ := zA.mk (Kd.QX (v := (.slice (some ⟨go23, 0, none⟩) y113.length co45)) (v1 := (.slice (some ⟨go23, 0, none⟩) y113.length co45)) (ok := (fun k_ => some k_ ≠ (.slice (some ad108) t105.length co12 : Value).ownBlock)) (by (with_reducible repeat (first | apply Kd.qF | apply Kd.qH | apply Kd.qS)); first | exact HO_3.out | exact Kd.ZJ HO_3.out (fun _ hk => ⟨hk.2, hk.1⟩) | exact Kd.qL HO_3.out (fun _ hk => ⟨hk.2, hk.1⟩)) hg (.inl rfl)); have n1_ := zA.mk (Kd.QX (v := (.slice (some ⟨go23, 0, none⟩) y113.length co45)) (v1 := (.slice (some ⟨go23, 0, none⟩) y113.length co45)) (ok := (fun k_ => some k_ ≠ (u3 : Value).ownBlock)) (by (with_reducible repeat (first | apply Kd.qF | apply Kd.qH | apply Kd.qS)); first | exact HO_4.out | exact Kd.ZJ HO_4.out (fun _ hk => ⟨hk.2, hk.1⟩) | exact Kd.qL HO_4.out (fun _ hk => ⟨hk.2, hk.1⟩)) hg (.inl rfl)); have n2_ := zA.mk (qa (g := gb101) (o := .cells #[.slice A0_0 l0_0.length c0_0] 30 (0, 0)) (by (with_reducible repeat (first | refine zI ?_ _ | refine zL ?_ | refine zH ?_ _)); exact BK101.out) hg (Kd.zDb HO115.out BK101.out (by decide))); have n3_ := zA.mk (hp_); have n4_ := zA.mk ((by rw [hw]; exact zF (HB.out) GB23.out : Below w.heap.size w w49)); clear HO_3; clear HO_4; clear BK101; clear HO115; clear HB; have HO_3 := n0_; have HO_4 := n1_; have BK101 := n2_; have HO115 := n3_; have HB := n4_; clear n0_ n1_ n2_ n3_ n4_; clear hg hw hp_; have p124 : 0 ≤ ((ji29) : Int) := of_decide_eq_true (by first | (with_reducible assumption) | assumption); have q124 : (ji29) < (y123.length : Int) := (by have h_ : ((ji29) : Int) < ((y113.length : Int) : Int) := of_decide_eq_true (by first | (with_reducible assumption) | assumption); first | (have e_ := (Kd.qC HO115.out).1; omega) | simpa only [Ny120.out, Ny123.out, List.length_set] using h_); have ql124 : (((ji29) : Int) < ((y113.length : Int) : Int)) = True := eq_true (of_decide_eq_true (by first | (with_reducible assumption) | assumption)); obtain ⟨ad124, e124, hx124_0⟩ := Kd.ZP (Kd.qC HO115.out).2.2 (ji29) p124 q124; obtain rfl : (⟨go23, 0, none⟩ : Addr) = ad124 := (by injection e124); (first | simp only [add_plain] at hx124_0 | simp only [zBT] at hx124_0 | simp only [Addr.add, Nat.zero_add] at hx124_0 | skip); replace p124 := eq_true p124; replace q124 := eq_true q124; have p32 : 0 ≤ ((ji29) : Int) := of_decide_eq_true (by first | (with_reducible assumption) | assumption); have q32 : ((ji29) : Int) < ((y113.length : Int) : Int) := of_decide_eq_true (by first | (with_reducible assumption) | assumption); obtain ⟨hx32_0, hf32_0⟩ := Kd.Zp 0 HO115.out ((ji29) : Int) p32 q32; replace p32 := eq_true p32; replace q32 := eq_true q32; obtain ⟨hy50_, hz50_⟩ := Kd.Zp 0 HO115.out ((ji29) : Int) (of_decide_eq_true (by first | (with_reducible assumption) | assumption)) (of_decide_eq_true (by first | (with_reducible assumption) | assumption)); have HP50 := Kd.JG HO115.out ((ji29) : Int) (wrap64 ((rd y123 (ji29)) - 1))) | ((with_reducible refine ZE (t := 2) (p := 83) rfl ?_); refine qt (t := 2) (p := 83) (v := ?vo_w51) (w1 := (w49.setCell ⟨go23, ((ji29) : Int).toNat, none⟩ (.int .i64 (wrap64 ((rd y123 (ji29)) - 1))))) ?hg ?ho ?hn ?hr ?_; (case ho => rfl); (case hg => rfl); (case hn => rfl); (case hr => first | (go_simp; done) | (go_simp; rfl)); intro w51 hw; have hg : w49.grownBy w51 (some go23) := (by rw [hw]; exact HP50.2); have hp_ : Kd.R (Kd.int .i64) 2 w51 w.heap.size (fun _ => True) (.slice (some ⟨go23, 0, none⟩) y113.length co45) y125 := (by rw [hw, Ny125.out]; exact HP50.1); clear HP50; have n0_ := zA.mk (Kd.QX (v := (.slice (some ⟨go23, 0, none⟩) y113.length co45)) (v1 := (.slice (some ⟨go23, 0, none⟩) y113.length co45)) (ok := (fun k_ => some k_ ≠ (.slice (some ad108) t105.length co12 : Value).ownBlock)) (by (with_reducible repeat (first | apply Kd.qF | apply Kd.qH | apply Kd.qS)); first | exact HO_3.out | exact Kd.ZJ HO_3.out (fun _ hk => ⟨hk.2, hk.1⟩) | exact Kd.qL HO_3.out (fun _ hk => ⟨hk.2, hk.1⟩)) hg (.inl rfl)); have n1_ := zA.mk (Kd.QX (v := (.slice (some ⟨go23, 0, none⟩) y113.length co45)) (v1 := (.slice (some ⟨go23, 0, none⟩) y113.length co45)) (ok := (fun k_ => some k_ ≠ (u3 : Value).ownBlock)) (by (with_reducible repeat (first | apply Kd.qF | apply Kd.qH | apply Kd.qS)); first | exact HO_4.out | exact Kd.ZJ HO_4.out (fun _ hk => ⟨hk.2, hk.1⟩) | exact Kd.qL HO_4.out (fun _ hk => ⟨hk.2, hk.1⟩)) hg (.inl rfl)); have n2_ := zA.mk (qa (g := gb101) (o := .cells #[.slice A0_0 l0_0.length c0_0] 30 (0, 0)) (by (with_reducible repeat (first | refine zI ?_ _ | refine zL ?_ | refine zH ?_ _)); exact BK101.out) hg (Kd.zDb HO115.out BK101.out (by decide))); have n3_ := zA.mk (hp_); have n4_ := zA.mk ((by rw [hw]; exact zF (HB.out) GB23.out : Below w.heap.size w w51)); clear HO_3; clear HO_4; clear BK101; clear HO115; clear HB; have HO_3 := n0_; have HO_4 := n1_; have BK101 := n2_; have HO115 := n3_; have HB := n4_; clear n0_ n1_ n2_ n3_ n4_; clear hg hw hp_) | ((with_reducible refine zX (f := 104) rfl ?_); refine qI (some 90) rfl rfl Try.func104 (by kernel_rfl) rfl #[.int .i64 t117, .int .i64 t118] rfl (by (try simp only [yiy, yjy, yky]); first | done | rfl | (simp only [yly, ymy]; rfl)) ?_; (with_reducible refine (zw.calls t117 t118 t126 _ A33.out).mono ?_); rintro e w' ⟨rfl, ⟨nd, rfl⟩⟩; refine ⟨_, rfl, ?_⟩; (try (rw [zAZ w51]; generalize hq_ : World.drewN w51 _ = w51; have n0_ : zA (Kd.R (Kd.int .i64) 2 w51 w.heap.size (fun _ => True) (.slice (some ⟨go23, 0, none⟩) y113.length co45) y125) := ⟨by rw [← hq_]; exact (by (with_reducible repeat (first | apply Kd.zl | apply Kd.zj | apply Kd.zz)); exact HO115.out)⟩; have n1_ : zA (Kd.S (Kd.slice 2 (Kd.int .i64)) 25 w51 w.heap.size (fun k_ => some k_ ≠ (.slice (some ⟨go23, 0, none⟩) y113.length co45 : Value).ownBlock ∧ some k_ ≠ (.slice (some ad108) t105.length co12 : Value).ownBlock) u3 x3_2) := ⟨by rw [← hq_]; exact (by (with_reducible repeat (first | apply Kd.qF | apply Kd.qH | apply Kd.qS)); exact Kd.ZJ HO_3.out (fun _ hk => ⟨hk.2, hk.1⟩))⟩; have n2_ : zA (Kd.S (Kd.slice 2 (Kd.int .i64)) 25 w51 w.heap.size (fun k_ => some k_ ≠ (.slice (some ⟨go23, 0, none⟩) y113.length co45 : Value).ownBlock ∧ some k_ ≠ (u3 : Value).ownBlock) (.slice (some ad108) t105.length co12) t105) := ⟨by rw [← hq_]; exact (by (with_reducible repeat (first | apply Kd.qF | apply Kd.qH | apply Kd.qS)); exact Kd.ZJ HO_4.out (fun _ hk => ⟨hk.2, hk.1⟩))⟩; have n3_ : zA (w51.heap[gb101]? = some (.cells #[.slice A0_0 l0_0.length c0_0] 30 (0, 0))) := ⟨by rw [← hq_]; exact (by (with_reducible repeat (first | refine zI ?_ _ | refine zL ?_ | refine zH ?_ _)); exact BK101.out)⟩; have n4_ : zA (Below w.heap.size w w51) := ⟨by rw [← hq_]; exact (by repeat (first | (with_reducible first | exact HB.out | apply zC | apply zB | apply zD | refine zF ?_ GE101.out) | exact HB.out))⟩; clear HO115 HO_3 HO_4 BK101 HB hq_; have HO115 := n0_; have HO_3 := n1_; have HO_4 := n2_; have BK101 := n3_; have HB := n4_; clear n0_ n1_ n2_ n3_ n4_)); have p127 : 0 ≤ ((ji34) : Int) := of_decide_eq_true (by first | (with_reducible assumption) | assumption); have q127 : (ji34) < (y125.length : Int) := (by have h_ : ((ji34) : Int) < ((y113.length : Int) : Int) := of_decide_eq_true (by first | (with_reducible assumption) | assumption); first | (have e_ := (Kd.qC HO115.out).1; omega) | simpa only [Ny120.out, Ny123.out, Ny125.out, List.length_set] using h_); have ql127 : (((ji34) : Int) < ((y113.length : Int) : Int)) = True := eq_true (of_decide_eq_true (by first | (with_reducible assumption) | assumption)); obtain ⟨ad127, e127, hx127_0⟩ := Kd.ZP (Kd.qC HO115.out).2.2 (ji34) p127 q127; obtain rfl : (⟨go23, 0, none⟩ : Addr) = ad127 := (by injection e127); (first | simp only [add_plain] at hx127_0 | simp only [zBT] at hx127_0 | simp only [Addr.add, Nat.zero_add] at hx127_0 | skip); replace p127 := eq_true p127; replace q127 := eq_true q127; have p37 : 0 ≤ ((ji34) : Int) := of_decide_eq_true (by first | (with_reducible assumption) | assumption); have q37 : ((ji34) : Int) < ((y113.length : Int) : Int) := of_decide_eq_true (by first | (with_reducible assumption) | assumption); obtain ⟨hx37_0, hf37_0⟩ := Kd.Zp 0 HO115.out ((ji34) : Int) p37 q37; replace p37 := eq_true p37; replace q37 := eq_true q37; obtain ⟨hy52_, hz52_⟩ := Kd.Zp 0 HO115.out ((ji34) : Int) (of_decide_eq_true (by first | (with_reducible assumption) | assumption)) (of_decide_eq_true (by first | (with_reducible assumption) | assumption)); have HP52 := Kd.JG HO115.out ((ji34) : Int) (wrap64 ((rd y125 (ji34)) - 1))) | ((with_reducible refine ZE (t := 2) (p := 95) rfl ?_); refine qt (t := 2) (p := 95) (v := ?vo_w53) (w1 := (w51.setCell ⟨go23, ((ji34) : Int).toNat, none⟩ (.int .i64 (wrap64 ((rd y125 (ji34)) - 1))))) ?hg ?ho ?hn ?hr ?_; (case ho => rfl); (case hg => rfl); (case hn => rfl); (case hr => first | (go_simp; done) | (go_simp; rfl)); intro w53 hw; have hg : w51.grownBy w53 (some go23) := (by rw [hw]; exact HP52.2); have hp_ : Kd.R (Kd.int .i64) 2 w53 w.heap.size (fun _ => True) (.slice (some ⟨go23, 0, none⟩) y113.length co45) y128 := (by rw [hw, Ny128.out]; exact HP52.1); clear HP52; have n0_ := zA.mk (Kd.QX (v := (.slice (some ⟨go23, 0, none⟩) y113.length co45)) (v1 := (.slice (some ⟨go23, 0, none⟩) y113.length co45)) (ok := (fun k_ => some k_ ≠ (.slice (some ad108) t105.length co12 : Value).ownBlock)) (by (with_reducible repeat (first | apply Kd.qF | apply Kd.qH | apply Kd.qS)); first | exact HO_3.out | exact Kd.ZJ HO_3.out (fun _ hk => ⟨hk.2, hk.1⟩) | exact Kd.qL HO_3.out (fun _ hk => ⟨hk.2, hk.1⟩)) hg (.inl rfl)); have n1_ := zA.mk (Kd.QX (v := (.slice (some ⟨go23, 0, none⟩) y113.length co45)) (v1 := (.slice (some ⟨go23, 0, none⟩) y113.length co45)) (ok := (fun k_ => some k_ ≠ (u3 : Value).ownBlock)) (by (with_reducible repeat (first | apply Kd.qF | apply Kd.qH | apply Kd.qS)); first | exact HO_4.out | exact Kd.ZJ HO_4.out (fun _ hk => ⟨hk.2, hk.1⟩) | exact Kd.qL HO_4.out (fun _ hk => ⟨hk.2, hk.1⟩)) hg (.inl rfl)); have n2_ := zA.mk (qa (g := gb101) (o := .cells #[.slice A0_0 l0_0.length c0_0] 30 (0, 0)) (by (with_reducible repeat (first | refine zI ?_ _ | refine zL ?_ | refine zH ?_ _)); exact BK101.out) hg (Kd.zDb HO115.out BK101.out (by decide))); have n3_ := zA.mk (hp_); have n4_ := zA.mk ((by rw [hw]; exact zF (HB.out) GB23.out : Below w.heap.size w w53)); clear HO_3; clear HO_4; clear BK101; clear HO115; clear HB; have HO_3 := n0_; have HO_4 := n1_; have BK101 := n2_; have HO115 := n3_; have HB := n4_; clear n0_ n1_ n2_ n3_ n4_; clear hg hw hp_) | ((with_reducible refine Zh (b := .append) (xs := #[.tmp 96, .tmp 98]) rfl ?_); at_builtin; refine Kd.zB4 (Kd.slice 2 (Kd.int .i64)) (w0 := w) w.heap.size rfl (.tmp 96) (.tmp 98) 54 25 (.slice none 0 0) 24 rfl Try.underlying54 zDF rfl (by decide) (by omega) u3 x3_2 y128 [.slice (some ⟨go23, 0, none⟩) y113.length co45] (fun k_ => some k_ ≠ (.slice (some ad108) t105.length co12 : Value).ownBlock) (fun k_ => some k_ = (.slice (some ⟨go23, 0, none⟩) y113.length co45 : Value).ownBlock) rfl rfl ?aP (fun k_ hk_ => ((Kd.qL (ok' := fun k_ => ((fun k_ => some k_ ≠ (.slice (some ad108) t105.length co12 : Value).ownBlock)) k_ ∧ some k_ ≠ (u3 : Value).ownBlock) (Kd.QB (Kd.QB (HO115.out) (Kd.QW HO_4.out) (by decide)) (Kd.QW HO_3.out) (by decide)) (fun k_ hk => ⟨hk.1.2, hk.2⟩))).1 k_ hk_.symm) ?aF ?aO ?aB ?aS ?aL ?_; (case aP => exact Kd.zDc (Kd.qL (Kd.QV rfl (Kd.qL (ok' := fun k_ => ((fun k_ => some k_ ≠ (.slice (some ad108) t105.length co12 : Value).ownBlock)) k_ ∧ some k_ ≠ (u3 : Value).ownBlock) (Kd.QB (Kd.QB (HO115.out) (Kd.QW HO_4.out) (by decide)) (Kd.QW HO_3.out) (by decide)) (fun k_ hk => ⟨hk.1.2, hk.2⟩))) (fun _ h_ => h_))); (case aB => exact (by repeat (first | (with_reducible first | exact HB.out | apply zC | apply zB | apply zD | refine zF ?_ GE101.out) | exact HB.out))); (case aF => exact (fun k_ hk => Kd.Qu (Kd.S_lt (by (with_reducible repeat (first | apply Kd.qF | apply Kd.qH | apply Kd.qS)); exact HO_4.out)) k_ hk)); (case aO => exact (by (with_reducible repeat (first | apply Kd.qF | apply Kd.qH | apply Kd.qS)); exact Kd.ZJ HO_3.out (fun k_ hk => ⟨hk.1, fun e_ => hk.2 e_⟩))); (case aS => exact (zP (by repeat (first | (with_reducible first | exact HB.out | apply zC | apply zB | apply zD | refine zF ?_ GE101.out) | exact HB.out)))); (case aL => have := LMc38.out; omega); intro v130 w54 ho hb hg hat; rw [← Ny129.out] at ho; have n0_ := zA.mk (Kd.QX (ok := (fun k_ => some k_ ≠ (.slice (some ⟨go23, 0, none⟩) y113.length co45 : Value).ownBlock)) (by (with_reducible repeat (first | apply Kd.qF | apply Kd.qH | apply Kd.qS)); exact Kd.ZJ HO_4.out (fun _ hk => ⟨hk.2, hk.1⟩)) hg hat); have n1_ := zA.mk (qa (g := gb101) (o := .cells #[.slice A0_0 l0_0.length c0_0] 30 (0, 0)) (by (with_reducible repeat (first | refine zI ?_ _ | refine zL ?_ | refine zH ?_ _)); exact BK101.out) hg (Kd.S_ne HO_3.out BK101.out (by decide))); have n2_ := zA.mk (hb); have n3_ := zA.mk (ho); clear HO_4; clear BK101; clear HB; clear HO_3; clear HO115; have HO_4 := n0_; have BK101 := n1_; have HB := n2_; have HO131 := n3_; clear n0_ n1_ n2_ n3_; clear ho hb hg hat))
                      go_roundg k2
                      case measure => have := HK1.out; have := HK2.out; omega
                      case rel => exact ⟨(y129), (wrap64 (x8_2 + 1)), (by first | rfl | (simp; done) | (simp [*]; done)), H', ⟨by have := HK1.out; have := HK2.out; omega⟩, ⟨by (with_reducible repeat (first | apply Kd.qF | apply Kd.qH | apply Kd.qS)); exact HO131.out⟩, ⟨by (with_reducible repeat (first | apply Kd.qF | apply Kd.qH | apply Kd.qS)); exact Kd.ZJ HO_4.out (fun _ hk => hk.2)⟩, ⟨by (with_reducible repeat (first | refine zI ?_ _ | refine zL ?_ | refine zH ?_ _)); exact BK101.out⟩, ⟨by repeat (first | (with_reducible first | exact HB.out | apply zC | apply zB | apply zD | refine zF ?_ GE101.out) | exact HB.out)⟩⟩
                     next =>
                      rw [if_neg c38] at H
                      exact absurd H (by simp)
                    next =>
                     rw [if_neg c36] at H
                     exact absurd H (by simp)
                   next =>
                    rw [if_neg c35] at H
                    exact absurd H (by simp)
                  next =>
                   rw [if_neg c31] at H
                   exact absurd H (by simp)
                 next =>
                  rw [if_neg c30] at H
                  exact absurd H (by simp)
                next =>
                 rw [if_neg c27] at H
                 exact absurd H (by simp)
               next =>
                rw [if_neg c26] at H
                exact absurd H (by simp)
              next =>
               rw [if_neg c22] at H
               exact absurd H (by simp)
             next =>
              rw [if_neg c21] at H
              exact absurd H (by simp)
            next =>
             rw [if_neg c18] at H
             exact absurd H (by simp)
           next =>
            rw [if_neg c17] at H
            exact absurd H (by simp)
         next =>
          rw [if_neg c13] at H
          have c13b0 : decide (x8_2 < 4) = false := yhy c13
          clear c13
          have H' := zA.mk H
          clear H
          go_wp2
          go_roundg k2
          case measure => have := HK1.out; have := HK2.out; omega
          case rel => exact ⟨(x3_2), (wrap64 (x5_1 + 1)), (by first | rfl | (simp; done) | (simp [*]; done)), H', ⟨by have := HK1.out; have := HK2.out; omega⟩, ⟨by (with_reducible repeat (first | apply Kd.qF | apply Kd.qH | apply Kd.qS)); exact HO_3.out⟩, ⟨by (with_reducible repeat (first | apply Kd.qF | apply Kd.qH | apply Kd.qS)); exact HO_4.out⟩, ⟨by (with_reducible repeat (first | refine zI ?_ _ | refine zL ?_ | refine zH ?_ _)); exact BK101.out⟩, ⟨by repeat (first | (with_reducible first | exact HB.out | apply zC | apply zB | apply zD | refine zF ?_ GE101.out) | exact HB.out)⟩⟩
      next =>
       rw [if_neg c11] at H
       exact absurd H (by simp)
     next =>
      rw [if_neg c10] at H
      exact absurd H (by simp)
    next =>
     rw [if_neg c9] at H
     exact absurd H (by simp)
   next =>
    rw [if_neg c8] at H
    have c8b0 : decide (x5_1 < (t105.length : Int)) = false := yhy c8
    clear c8
    obtain rfl := yey H
    obtain ⟨Ao55, co55, eo55⟩ := Kd.JM HO_4.out
    subst eo55
    go_wp2
    go_ret
    exact ⟨_, by first | rfl | (simp [zS, zT] <;> rfl) | (simp [*, zS, zT] <;> rfl), by (with_reducible repeat (first | apply Kd.qF | apply Kd.qH | apply Kd.qS)); exact Kd.ZJ HO_3.out (fun _ hk => trivial), by repeat (first | (with_reducible first | exact HB.out | apply zC | apply zB | apply zD | refine zF ?_ GE101.out) | exact HB.out)⟩
def zb.l0 : Nat → List (List Int) → Int → Int → Int → List Int → Option (Int × Int × List Int × Int)
 | 0, _, _, _, _, _ => none
 | k + 1, x5, x7, x109000, x109001, x109002 => if x7 < (x5.length : Int) then (if 0 ≤ x7 then (if x109002.length + (zZ x5 x7).length < 17592186044416 then (zb.l0 k x5 (wrap64 (x7 + 1)) x109000 x109001 (x109002 ++ (zZ x5 x7))) else (none)) else (none)) else (some (x109000, x109001, x109002, 0))
def zb.f (k : Nat) (l0_0 : List (List (zo))) : Option (Int × Int × List Int × Int) := (Zk.f k l0_0).bind fun t103 => (if t103 = 0 then ((zf.f k l0_0).bind fun t104 => ((zm.f l0_0).bind fun t107 => (zb.l0 k t104 0 (t104.length : Int) (wrap64 (7 * t107)) ([] : List Int)))) else (some (0, 0, ([] : List Int), t103)))
def zb.T9 : Bool × List (List Nat × List Nat) := (true, [([], []), ([0], [0]), ([], []), ([], []), ([2, 3], [2, 3]), ([4], [4]), ([1, 5], [1, 5]), ([0, 1, 2, 3, 4, 5, 6], []), ([7, 6, 6, 0, 1, 2, 3, 4, 5, 6], [6, 7])])
def zb.B9 : List Nat := [0, 1, 0, 0, 12, 28, 63, 127, 255]
theorem zb.tab9 : Jg .any (opsOf Try.f22 9) = zb.T9 := by kernel_rfl
theorem zb.bits9 : QK zb.T9.2 zb.B9 = true := by kernel_rfl
set_option maxHeartbeats 8000000 in
set_option maxRecDepth 100000 in
theorem zb.calls (k : Nat) (A0_0 : Option Addr) (c0_0 : Nat) (l0_0 : List (List (zo))) (r1 : Int) (r2 : Int) (r3 : List Int) (r4 : Int) (w : World) (hr0_0 : Kd.C (Kd.slice 115 qh) w A0_0 l0_0.length l0_0) (hc0_0 : l0_0.length ≤ c0_0) (h : zb.f k l0_0 = some (r1, r2, r3, r4)) :
 Calls Try.prog 22 #[.agg #[.slice A0_0 l0_0.length c0_0]] w fun e w' => ∃ v2_ : Value, e = .returned (.tuple #[.agg #[.int .i64 r1, .int .i64 r2, v2_], .int .i64 r4]) ∧ Kd.R (Kd.int .i64) 2 w' w.heap.size (fun _ => True) v2_ r3 ∧ Below w.heap.size w w' := by
 have hu30 := Try.underlying30
 have hu37 := Try.underlying37
 have HR0_0 := zA.mk hr0_0
 have HC0_0 := zA.mk hc0_0
 clear hr0_0 hc0_0
 have HB := zA.mk (ypy w.heap.size w)
 have H : ((Zk.f k l0_0).bind fun t103 => (if t103 = 0 then ((zf.f k l0_0).bind fun t104 => ((zm.f l0_0).bind fun t107 => (zb.l0 k t104 0 (t104.length : Int) (wrap64 (7 * t107)) ([] : List Int)))) else (some (0, 0, ([] : List Int), t103)))) = some (r1, r2, r3, r4) := h
 clear h
 replace H := ydy.mp H
 obtain ⟨t103, A20, H⟩ := H
 replace H : (if t103 = 0 then ((zf.f k l0_0).bind fun t104 => ((zm.f l0_0).bind fun t107 => (zb.l0 k t104 0 (t104.length : Int) (wrap64 (7 * t107)) ([] : List Int)))) else (some (0, 0, ([] : List Int), t103))) = some (r1, r2, r3, r4) := H
 have A2 := zA.mk A20
 clear A20
 by_cases c3 : t103 = 0
 next =>
  rw [if_pos c3] at H
  have c3b0 : (t103 == 0) = true := beq_iff_eq.mpr c3
  have c3b1 : (t103 != 0) = false := bne_eq_false_iff_eq.mpr c3
  clear c3
  replace H := ydy.mp H
  obtain ⟨t104, A40, H⟩ := H
  replace H : ((zm.f l0_0).bind fun t107 => (zb.l0 k t104 0 (t104.length : Int) (wrap64 (7 * t107)) ([] : List Int))) = some (r1, r2, r3, r4) := H
  have A4 := zA.mk A40
  clear A40
  replace H := ydy.mp H
  obtain ⟨t107, A50, H⟩ := H
  replace H : (zb.l0 k t104 0 (t104.length : Int) (wrap64 (7 * t107)) ([] : List Int)) = some (r1, r2, r3, r4) := H
  have A5 := zA.mk A50
  clear A50
  have H' := zA.mk H
  clear H
  go_enter Try.func22, Try.ntmps22
  go_wp2_with (first | ((with_reducible refine ze (N := 1) rfl ?_); refine zc ?hg (N := 1) ?hd (cs := #[.slice A0_0 l0_0.length c0_0]) (t := 30) ?hr ?_; (case hd => rfl); (case hg => rfl); (case hr => first | (go_simp; done) | (go_simp; rfl)); intro gb101 hg w6 hbox hb; have n0_ := zA.mk (zN (by repeat (first | (with_reducible first | exact HB.out | apply zC | apply zB | apply zD) | exact HB.out)) hb); have n1_ := zA.mk (hbox); have n2_ := zA.mk ((by rw [hg]; exact (zP (by repeat (first | (with_reducible first | exact HB.out | apply zC | apply zB | apply zD) | exact HB.out))) : w.heap.size ≤ gb101)); have n3_ := zA.mk ((by rw [hg]; exact (zP (by repeat (first | (with_reducible first | exact HB.out | apply zC | apply zB | apply zD) | exact HB.out))) : w.heap.size ≤ gb101)); clear HB; have HB := n0_; have BK101 := n1_; have GW101 := n2_; have GE101 := n3_; clear n0_ n1_ n2_ n3_; clear hb hbox hg) | ((with_reducible refine ze (N := 2) rfl ?_); refine zc ?hg (N := 2) ?hd (cs := #[.int .i64 0, .int .i64 0, .slice none 0 0]) (t := 37) ?hr ?_; (case hd => rfl); (case hg => rfl); (case hr => first | (go_simp; done) | (go_simp; rfl)); intro gb102 hg w7 hbox hb; have n0_ := zA.mk (zO (g := gb101) (o := .cells #[.slice A0_0 l0_0.length c0_0] 30 (0, 0)) (by (with_reducible repeat (first | refine zI ?_ _ | refine zL ?_ | refine zH ?_ _)); exact BK101.out) hb); have n1_ := zA.mk (zN (by repeat (first | (with_reducible first | exact HB.out | apply zC | apply zB | apply zD | refine zF ?_ GE101.out) | exact HB.out)) hb); have n2_ := zA.mk (hbox); have n3_ := zA.mk ((by rw [hg]; exact (zP (by repeat (first | (with_reducible first | exact HB.out | apply zC | apply zB | apply zD | refine zF ?_ GE101.out) | exact HB.out))) : w.heap.size ≤ gb102)); have n4_ := zA.mk ((by rw [hg]; exact (zP (by repeat (first | (with_reducible first | exact HB.out | apply zC | apply zB | apply zD | refine zF ?_ GE101.out) | exact HB.out))) : w.heap.size ≤ gb102)); have n5_ := zA.mk ((by rw [hg]; exact Nat.ne_of_lt (qG (g := gb101) (o := .cells #[.slice A0_0 l0_0.length c0_0] 30 (0, 0)) (by (with_reducible repeat (first | refine zI ?_ _ | refine zL ?_ | refine zH ?_ _)); exact BK101.out)) : gb101 ≠ gb102)); have n6_ := zA.mk ((by rw [hg]; exact Nat.ne_of_gt (qG (g := gb101) (o := .cells #[.slice A0_0 l0_0.length c0_0] 30 (0, 0)) (by (with_reducible repeat (first | refine zI ?_ _ | refine zL ?_ | refine zH ?_ _)); exact BK101.out)) : gb102 ≠ gb101)); clear BK101; clear HB; have BK101 := n0_; have HB := n1_; have BK102 := n2_; have GW102 := n3_; have GE102 := n4_; have NB101_102 := n5_; have NB102_101 := n6_; clear n0_ n1_ n2_ n3_ n4_ n5_ n6_; clear hb hbox hg; have hnb8 := NB101_102.out; have hnc8 := NB102_101.out; have hcz9_0 : w7.cell? ⟨gb101, 0, none⟩ = some (.slice A0_0 l0_0.length c0_0) := (zK BK101.out 0).trans rfl; have hfz9_0 := zG BK101.out 0) | ((with_reducible refine zX (f := 58) rfl ?_); refine qI (some 9) rfl rfl Try.func58 (by kernel_rfl) rfl #[.agg #[.slice A0_0 l0_0.length c0_0]] rfl (by (try simp only [yiy, yjy, yky]); first | done | rfl | (simp only [yly, ymy]; rfl)) ?_; (with_reducible refine (Zk.calls k _ _ l0_0 t103 _ ?side1 ?side2 A2.out).mono ?_); (case side1 => repeat (first | exact (Kd.qD HR0_0.out HB.out) | (with_reducible refine Kd.qA ?_ _) | (with_reducible refine Kd.qB ?_ _) | (with_reducible refine Kd.qP ?_))); (case side2 => exact HC0_0.out); rintro e w10 ⟨rfl, hb⟩; refine ⟨_, rfl, ?_⟩; have n0_ := zA.mk (zO (g := gb101) (o := .cells #[.slice A0_0 l0_0.length c0_0] 30 (0, 0)) (by (with_reducible repeat (first | refine zI ?_ _ | refine zL ?_ | refine zH ?_ _)); exact BK101.out) hb); have n1_ := zA.mk (zO (g := gb102) (o := .cells #[.int .i64 0, .int .i64 0, .slice none 0 0] 37 (0, 0)) (by (with_reducible repeat (first | refine zI ?_ _ | refine zL ?_ | refine zH ?_ _)); exact BK102.out) hb); have n2_ := zA.mk (zN (by repeat (first | (with_reducible first | exact HB.out | apply zC | apply zB | apply zD | refine zF ?_ GE101.out | refine zF ?_ GE102.out) | exact HB.out)) hb); clear BK101; clear BK102; clear HB; have BK101 := n0_; have BK102 := n1_; have HB := n2_; clear n0_ n1_ n2_; (try clear hb); (try clear hb2); (try clear hk); (try clear hi); have hcz11_0 : w10.cell? ⟨gb101, 0, none⟩ = some (.slice A0_0 l0_0.length c0_0) := (zK BK101.out 0).trans rfl; have hfz11_0 := zG BK101.out 0) | ((with_reducible refine zX (f := 61) rfl ?_); refine qI (some 15) rfl rfl Try.func61 (by kernel_rfl) rfl #[.agg #[.slice A0_0 l0_0.length c0_0]] rfl (by (try simp only [yiy, yjy, yky]); first | done | rfl | (simp only [yly, ymy]; rfl)) ?_; (with_reducible refine (zf.calls k _ _ l0_0 t104 _ ?side1 ?side2 A4.out).mono ?_); (case side1 => repeat (first | exact (Kd.qD HR0_0.out HB.out) | (with_reducible refine Kd.qA ?_ _) | (with_reducible refine Kd.qB ?_ _) | (with_reducible refine Kd.qP ?_))); (case side2 => exact HC0_0.out); rintro e w12 ⟨v105, rfl, ho0, hb⟩; refine ⟨_, rfl, ?_⟩; have n0_ := zA.mk (Kd.JK ho0 (zP (by repeat (first | (with_reducible first | exact HB.out | apply zC | apply zB | apply zD | refine zF ?_ GE101.out | refine zF ?_ GE102.out) | exact HB.out)))); have n1_ := zA.mk (zO (g := gb101) (o := .cells #[.slice A0_0 l0_0.length c0_0] 30 (0, 0)) (by (with_reducible repeat (first | refine zI ?_ _ | refine zL ?_ | refine zH ?_ _)); exact BK101.out) hb); have n2_ := zA.mk (zO (g := gb102) (o := .cells #[.int .i64 0, .int .i64 0, .slice none 0 0] 37 (0, 0)) (by (with_reducible repeat (first | refine zI ?_ _ | refine zL ?_ | refine zH ?_ _)); exact BK102.out) hb); have n3_ := zA.mk (zN (by repeat (first | (with_reducible first | exact HB.out | apply zC | apply zB | apply zD | refine zF ?_ GE101.out | refine zF ?_ GE102.out) | exact HB.out)) hb); clear BK101; clear BK102; clear HB; have HO106 := n0_; have BK101 := n1_; have BK102 := n2_; have HB := n3_; clear n0_ n1_ n2_ n3_; (try clear hb); (try clear hb2); (try clear hk); (try clear hi); (try clear ho0); obtain ⟨Ao13, co13, eo13⟩ := Kd.JM HO106.out; subst eo13; have hcz14_0 : w12.cell? ⟨gb101, 0, none⟩ = some (.slice A0_0 l0_0.length c0_0) := (zK BK101.out 0).trans rfl; have hfz14_0 := zG BK101.out 0) | ((with_reducible refine zX (f := 59) rfl ?_); refine qI (some 19) rfl rfl Try.func59 (by kernel_rfl) rfl #[.agg #[.slice A0_0 l0_0.length c0_0]] rfl (by (try simp only [yiy, yjy, yky]); first | done | rfl | (simp only [yly, ymy]; rfl)) ?_; (with_reducible refine (zm.calls _ _ l0_0 t107 _ ?side1 ?side2 A5.out).mono ?_); (case side1 => repeat (first | exact (Kd.qD HR0_0.out HB.out) | (with_reducible refine Kd.qA ?_ _) | (with_reducible refine Kd.qB ?_ _) | (with_reducible refine Kd.qP ?_))); (case side2 => exact HC0_0.out); rintro e w15 ⟨rfl, hb⟩; refine ⟨_, rfl, ?_⟩; have n0_ := zA.mk (Kd.Zd (by (with_reducible repeat (first | apply Kd.qF | apply Kd.qH | apply Kd.qS)); exact HO106.out) hb); have n1_ := zA.mk (zO (g := gb101) (o := .cells #[.slice A0_0 l0_0.length c0_0] 30 (0, 0)) (by (with_reducible repeat (first | refine zI ?_ _ | refine zL ?_ | refine zH ?_ _)); exact BK101.out) hb); have n2_ := zA.mk (zO (g := gb102) (o := .cells #[.int .i64 0, .int .i64 0, .slice none 0 0] 37 (0, 0)) (by (with_reducible repeat (first | refine zI ?_ _ | refine zL ?_ | refine zH ?_ _)); exact BK102.out) hb); have n3_ := zA.mk (zN (by repeat (first | (with_reducible first | exact HB.out | apply zC | apply zB | apply zD | refine zF ?_ GE101.out | refine zF ?_ GE102.out) | exact HB.out)) hb); clear HO106; clear BK101; clear BK102; clear HB; have HO106 := n0_; have BK101 := n1_; have BK102 := n2_; have HB := n3_; clear n0_ n1_ n2_ n3_; (try clear hb); (try clear hb2); (try clear hk); (try clear hi)) | ((with_reducible refine ze (N := 6) rfl ?_); refine zc ?hg (N := 6) ?hd (cs := #[.int .i64 0, .int .i64 0, .slice none 0 0]) (t := 37) ?hr ?_; (case hd => rfl); (case hg => rfl); (case hr => first | (go_simp; done) | (go_simp; rfl)); intro gb108 hg w16 hbox hb; have n0_ := zA.mk (Kd.Zd (by (with_reducible repeat (first | apply Kd.qF | apply Kd.qH | apply Kd.qS)); exact HO106.out) hb); have n1_ := zA.mk (zO (g := gb101) (o := .cells #[.slice A0_0 l0_0.length c0_0] 30 (0, 0)) (by (with_reducible repeat (first | refine zI ?_ _ | refine zL ?_ | refine zH ?_ _)); exact BK101.out) hb); have n2_ := zA.mk (zO (g := gb102) (o := .cells #[.int .i64 0, .int .i64 0, .slice none 0 0] 37 (0, 0)) (by (with_reducible repeat (first | refine zI ?_ _ | refine zL ?_ | refine zH ?_ _)); exact BK102.out) hb); have n3_ := zA.mk (zN (by repeat (first | (with_reducible first | exact HB.out | apply zC | apply zB | apply zD | refine zF ?_ GE101.out | refine zF ?_ GE102.out) | exact HB.out)) hb); have n4_ := zA.mk (hbox); have n5_ := zA.mk ((by rw [hg]; exact (zP (by repeat (first | (with_reducible first | exact HB.out | apply zC | apply zB | apply zD | refine zF ?_ GE101.out | refine zF ?_ GE102.out) | exact HB.out))) : w.heap.size ≤ gb108)); have n6_ := zA.mk ((by rw [hg]; exact (zP (by repeat (first | (with_reducible first | exact HB.out | apply zC | apply zB | apply zD | refine zF ?_ GE101.out | refine zF ?_ GE102.out) | exact HB.out))) : w.heap.size ≤ gb108)); have n7_ := zA.mk ((by rw [hg]; exact Nat.ne_of_lt (qG (g := gb101) (o := .cells #[.slice A0_0 l0_0.length c0_0] 30 (0, 0)) (by (with_reducible repeat (first | refine zI ?_ _ | refine zL ?_ | refine zH ?_ _)); exact BK101.out)) : gb101 ≠ gb108)); have n8_ := zA.mk ((by rw [hg]; exact Nat.ne_of_gt (qG (g := gb101) (o := .cells #[.slice A0_0 l0_0.length c0_0] 30 (0, 0)) (by (with_reducible repeat (first | refine zI ?_ _ | refine zL ?_ | refine zH ?_ _)); exact BK101.out)) : gb108 ≠ gb101)); have n9_ := zA.mk ((by rw [hg]; exact Nat.ne_of_lt (qG (g := gb102) (o := .cells #[.int .i64 0, .int .i64 0, .slice none 0 0] 37 (0, 0)) (by (with_reducible repeat (first | refine zI ?_ _ | refine zL ?_ | refine zH ?_ _)); exact BK102.out)) : gb102 ≠ gb108)); have n10_ := zA.mk ((by rw [hg]; exact Nat.ne_of_gt (qG (g := gb102) (o := .cells #[.int .i64 0, .int .i64 0, .slice none 0 0] 37 (0, 0)) (by (with_reducible repeat (first | refine zI ?_ _ | refine zL ?_ | refine zH ?_ _)); exact BK102.out)) : gb108 ≠ gb102)); clear HO106; clear BK101; clear BK102; clear HB; have HO106 := n0_; have BK101 := n1_; have BK102 := n2_; have HB := n3_; have BK108 := n4_; have GW108 := n5_; have GE108 := n6_; have NB101_108 := n7_; have NB108_101 := n8_; have NB102_108 := n9_; have NB108_102 := n10_; clear n0_ n1_ n2_ n3_ n4_ n5_ n6_ n7_ n8_ n9_ n10_; clear hb hbox hg; have hnb17 := NB108_101.out; have hnc17 := NB101_108.out; have hnb18 := NB108_102.out; have hnc18 := NB102_108.out; have hcz19_0 : w16.cell? ⟨gb108, 0, none⟩ = some (.int .i64 0) := (zK BK108.out 0).trans rfl; have hcz19_1 : w16.cell? ⟨gb108, 1, none⟩ = some (.int .i64 0) := (zK BK108.out 1).trans rfl; have hcz19_2 : w16.cell? ⟨gb108, 2, none⟩ = some (.slice none 0 0) := (zK BK108.out 2).trans rfl; have hfz19_0 := zG BK108.out 0; have hfz19_1 := zG BK108.out 1; have hfz19_2 := zG BK108.out 2))
  go_loopg [7] k (fun kq v7 w' => ∃ (x7_1 : Int) (x109002_1 : List Int) (u109002 : Value), v7 = .int .i64 x7_1 ∧ zA (zb.l0 kq t104 x7_1 (t104.length : Int) (wrap64 (7 * t107)) x109002_1 = some (r1, r2, r3, r4)) ∧ zA (kq ≤ k) ∧ zA (Kd.S (Kd.slice 2 (Kd.int .i64)) 25 w' w.heap.size (fun k_ => some k_ ≠ (u109002 : Value).ownBlock) (.slice Ao13 t104.length co13) t104) ∧ zA (Kd.R (Kd.int .i64) 2 w' w.heap.size (fun _ => True) u109002 x109002_1) ∧ zA (w'.heap[gb101]? = some (.cells #[(.slice A0_0 l0_0.length c0_0)] 30 (0, 0))) ∧ zA (w'.heap[gb102]? = some (.cells #[.int .i64 0, .int .i64 0, (.slice none 0 0)] 37 (0, 0))) ∧ zA (w'.heap[gb108]? = some (.cells #[.int .i64 (t104.length : Int), .int .i64 (wrap64 (7 * t107)), u109002] 37 (0, 0))) ∧ zA (Below w.heap.size w w'))
  case atStart => exact ⟨(0), (([] : List Int)), (.slice none 0 0), (by first | rfl | (simp; done) | (simp [*]; done)), H', ⟨yoy _⟩, ⟨by (with_reducible repeat (first | apply Kd.qF | apply Kd.qH | apply Kd.qS)); exact Kd.ZJ (Kd.JL (p := ⟨gb108, 2, none⟩) (Kd.JL (p := ⟨gb108, 1, none⟩) (Kd.JL (p := ⟨gb108, 0, none⟩) (Kd.Qx HO106.out BK108.out (by decide)) (fun _ hk => hk.2) (.int .i64 (t104.length : Int))) (fun _ hk => hk.2) (.int .i64 (wrap64 (7 * t107)))) (fun _ hk => hk.2) (.slice none 0 0)) (fun _ hk => (by simp [Value.ownBlock]))⟩, ⟨by first | exact Kd.zAx _ _ _ _ _ | exact Kd.zDo _ _ _ _ _ | exact Kd.zDr _ _ _ _ _ | exact Kd.zDf _ _ _ _ _ | exact Kd.zDj _ _ _ _ _⟩, ⟨by (with_reducible repeat (first | refine zI ?_ _ | refine zL ?_ | refine zH ?_ _)); refine zn ?_ NB101_108.out _; (with_reducible repeat (first | refine zI ?_ _ | refine zL ?_ | refine zH ?_ _)); refine zn ?_ NB101_108.out _; (with_reducible repeat (first | refine zI ?_ _ | refine zL ?_ | refine zH ?_ _)); refine zn ?_ NB101_108.out _; (with_reducible repeat (first | refine zI ?_ _ | refine zL ?_ | refine zH ?_ _)); exact BK101.out⟩, ⟨by (with_reducible repeat (first | refine zI ?_ _ | refine zL ?_ | refine zH ?_ _)); refine zn ?_ NB102_108.out _; (with_reducible repeat (first | refine zI ?_ _ | refine zL ?_ | refine zH ?_ _)); refine zn ?_ NB102_108.out _; (with_reducible repeat (first | refine zI ?_ _ | refine zL ?_ | refine zH ?_ _)); refine zn ?_ NB102_108.out _; (with_reducible repeat (first | refine zI ?_ _ | refine zL ?_ | refine zH ?_ _)); exact BK102.out⟩, ⟨by (with_reducible repeat (first | refine zI ?_ _ | refine zL ?_ | refine zH ?_ _)); refine zu (cs := #[.int .i64 (t104.length : Int), .int .i64 (wrap64 (7 * t107)), .slice none 0 0]) ?_ 2 _ rfl; (with_reducible repeat (first | refine zI ?_ _ | refine zL ?_ | refine zH ?_ _)); refine zu (cs := #[.int .i64 (t104.length : Int), .int .i64 0, .slice none 0 0]) ?_ 1 _ rfl; (with_reducible repeat (first | refine zI ?_ _ | refine zL ?_ | refine zH ?_ _)); refine zu (cs := #[.int .i64 0, .int .i64 0, .slice none 0 0]) ?_ 0 _ rfl; (with_reducible repeat (first | refine zI ?_ _ | refine zL ?_ | refine zH ?_ _)); exact BK108.out⟩, ⟨by repeat (first | (with_reducible first | exact HB.out | apply zC | apply zB | apply zD | refine zF ?_ GE101.out | refine zF ?_ GE102.out | refine zF ?_ GE108.out) | exact HB.out)⟩⟩
  case round =>
   clear H'
   try clear c1
   try clear c2
   try clear p2
   try clear c3
   try clear c3b0
   try clear c3b1
   try clear c5
   try clear c6
   try clear p6
   try clear c8
   try clear c17
   try clear c18
   try clear hcz11_0
   try clear hcz14_0
   try clear hcz19_0
   try clear hcz19_1
   try clear hcz19_2
   try clear hcz9_0
   try clear hfz11_0
   try clear hfz14_0
   try clear hfz19_0
   try clear hfz19_1
   try clear hfz19_2
   try clear hfz9_0
   obtain ⟨x7_1, x109002_1, u109002, rfl, HA, HK1, HO_5, HO_109002, BK101, BK102, BK108, HB⟩ := hrel
   cases gk with
   | zero => exact absurd HA.out (by simp [zb.l0])
   | succ k1 =>
    have H := HA.out
    clear HA
    simp only [zb.l0] at H
    by_cases c20 : x7_1 < (t104.length : Int)
    next =>
     rw [if_pos c20] at H
     have c20b0 : decide (x7_1 < (t104.length : Int)) = true := ygy c20
     clear c20
     by_cases c21 : 0 ≤ x7_1
     next =>
      rw [if_pos c21] at H
      have c21b0 : decide (0 ≤ x7_1) = true := ygy c21
      clear c21
      by_cases c22 : x109002_1.length + (zZ t104 x7_1).length < 17592186044416
      next =>
       rw [if_pos c22] at H
       have LMc22 := zA.mk c22
       clear c22
       obtain ⟨y110, hy110⟩ : ∃ y_ : List Int, y_ = (x109002_1 ++ (zZ t104 x7_1)) := ⟨_, rfl⟩
       replace H : (zb.l0 k1 t104 (wrap64 (x7_1 + 1)) (t104.length : Int) (wrap64 (7 * t107)) y110) = some (r1, r2, r3, r4) := by first | (rw [hy110]; with_reducible exact H) | (have H2_ := (yfy _ _).symm.trans H; rw [hy110]; with_reducible exact H2_) | (have H2_ := (yfy _ _).symm.trans H; with_reducible exact H2_) | with_reducible exact H | (rw [hy110]; exact H) | exact H
       have Ny110 := zA.mk hy110
       clear hy110
       have H' := zA.mk H
       clear H
       try go_wp2
       have n0_ := zA.mk (Kd.qS HO_5.out)
       have n1_ := zA.mk (Kd.zz HO_109002.out)
       have n2_ := zA.mk (zL BK101.out)
       have n3_ := zA.mk (zL BK102.out)
       have n4_ := zA.mk (zL BK108.out)
       have n5_ := zA.mk (zD HB.out)
       clear HO_5
       clear HO_109002
       clear BK101
       clear BK102
       clear BK108
       clear HB
       have HO_5 := n0_
       have HO_109002 := n1_
       have BK101 := n2_
       have BK102 := n3_
       have BK108 := n4_
       have HB := n5_
       clear n0_ n1_ n2_ n3_ n4_ n5_
       have p109 : 0 ≤ (x7_1 : Int) := of_decide_eq_true (by first | (with_reducible assumption) | assumption)
       have q109 : x7_1 < (t104.length : Int) := of_decide_eq_true (by first | (with_reducible assumption) | assumption)
       obtain ⟨ad109, A109_0, c109_0, e109, hx109_0, hl109_0, hi109_0⟩ := zBx (Kd.QC HO_5.out).2.2 x7_1 p109 q109
       cases e109
       obtain ⟨ce109, hce109, hMe109, hcc109⟩ := Kd.zEL HO_5.out [] x7_1 p109 (by first | exact q109 | exact of_decide_eq_true (by first | (with_reducible assumption) | assumption) | (have e_ := (Kd.QC HO_5.out).1; omega))
       obtain ⟨ve109_0, rfl, ge109_0⟩ := hMe109
       have hv109_0 := hcc109 0 _ rfl
       rw [Nat.add_zero, show ((Kd.slice 2 (Kd.int .i64))).sz = 1 from rfl, Nat.mul_one] at hv109_0
       replace hv109_0 := yey (hv109_0.symm.trans hx109_0)
       rw [hv109_0] at ge109_0
       have HL109_0 := zA.mk (show Kd.R (Kd.int .i64) 2 _ _ _ _ (zZ t104 x7_1) from ge109_0)
       clear hv109_0 ge109_0
       clear hcc109 hce109
       have HR109_0 := zA.mk hi109_0
       have HC109_0 := zA.mk hl109_0
       clear hi109_0 hl109_0
       replace p109 := eq_true p109
       replace q109 := eq_true q109
       refine Zf (n := 9) (S := fun w' => w'.cell? ⟨gb108, 0, none⟩ = some (.int .i64 (t104.length : Int)) ∧ w'.cell? ⟨gb108, 1, none⟩ = some (.int .i64 (wrap64 (7 * t107))) ∧ w'.cell? ⟨gb108, 2, none⟩ = some (u109002) ∧ w'.cell? (ad109.add (x7_1).toNat) = some (.slice A109_0 (zZ t104 x7_1).length c109_0)) (ds := [6, 8]) #[false, false, false, false, false, false, false, false, false] (by kernel_rfl) rfl rfl ⟨(zK BK108.out 0).trans rfl, (zK BK108.out 1).trans rfl, (zK BK108.out 2).trans rfl, hx109_0⟩ (fun hHeld => ?_); refine ZC zb.tab9 zb.bits9 (fun HT_ HW_ => ?_)
       generalize wr.drew = w23 at HO_5 HO_109002 BK101 BK102 BK108 HB HL109_0 HR109_0 hx109_0 hHeld ⊢
       refine za (i := 0) (N := some 28) (v := ?_) (a' := ?_) #[true, false, false, false, false, false, false, false, false] rfl rfl (zY HT_.out (by kernel_rfl)) (fun _ _ _ h => h) (Or.inl ⟨by rfl, ?_⟩) ?_ ?_
       rotate_left
       next =>
        intro w'
        go_simp
        with_reducible rfl
       rotate_left
       next =>
        simp only [Act.put, yay, yby, ycy, zV, zW]
        rfl
       refine za (i := 2) (N := some 30) (v := ?_) (a' := ?_) #[true, false, true, false, false, false, false, false, false] rfl rfl (zY HT_.out (by kernel_rfl)) (fun _ _ _ h => h) (Or.inl ⟨by rfl, ?_⟩) ?_ ?_
       rotate_left
       next =>
        intro w'
        go_simp
        with_reducible rfl
       rotate_left
       next =>
        simp only [Act.put, yay, yby, ycy, zV, zW]
        rfl
       refine za (i := 3) (N := some 31) (v := ?_) (a' := ?_) #[true, false, true, true, false, false, false, false, false] rfl rfl (zY HT_.out (by kernel_rfl)) (fun _ _ _ h => h) (Or.inl ⟨by rfl, ?_⟩) ?_ ?_
       rotate_left
       next =>
        intro w'
        go_simp
        with_reducible rfl
       rotate_left
       next =>
        simp only [Act.put, yay, yby, ycy, zV, zW]
        rfl
       refine za (i := 4) (N := some 32) (v := ?_) (a' := ?_) #[true, false, true, true, true, false, false, false, false] rfl rfl (zY HT_.out (by kernel_rfl)) (fun _ _ _ h => h) (Or.inl ⟨by rfl, ?_⟩) ?_ ?_
       rotate_left
       next =>
        intro w'
        go_simp
        with_reducible rfl
       rotate_left
       next =>
        simp only [Act.put, yay, yby, ycy, zV, zW]
        rfl
       refine qf (i := 1) (N := some 29) (v := ?_) (a' := ?_) #[true, true, true, true, true, false, false, false, false] rfl rfl (zy HT_.out HW_.out (by kernel_rfl)) (fun _ _ _ h => h) (Or.inl ⟨by rfl, ?_⟩) hHeld ?_ ?_
       rotate_left
       next =>
        rintro w' ⟨s0, s1, s2, s3⟩
        go_simp
        with_reducible rfl
       rotate_left
       next =>
        simp only [Act.put, yay, yby, ycy, zV, zW]
        rfl
       refine qf (i := 5) (N := some 33) (v := ?_) (a' := ?_) #[true, true, true, true, true, true, false, false, false] rfl rfl (zy HT_.out HW_.out (by kernel_rfl)) (fun _ _ _ h => h) (Or.inl ⟨by rfl, ?_⟩) hHeld ?_ ?_
       rotate_left
       next =>
        rintro w' ⟨s0, s1, s2, s3⟩
        go_simp
        with_reducible rfl
       rotate_left
       next =>
        simp only [Act.put, yay, yby, ycy, zV, zW]
        rfl
       refine zD4 (i := 6) (N := some 34) #[true, true, true, true, true, true, true, false, false] rfl rfl (Zo HT_.out (by kernel_rfl)) (by decide) (fun K hK => ?_)
       refine Kd.ZN (Kd.int .i64) (w0 := w) w.heap.size (by rfl) (.tmp 29) (.tmp 33) 25 2 (.int .i64 0) 8 rfl Try.underlying25 JN rfl (by decide) (by omega) u109002 x109002_1 (zZ t104 x7_1) _ _ _ (fun _ => True) (fun _ => False) rfl rfl ?aO ?aR (fun _ _ h => h) (fun _ h => h.elim) ?aF ?aB ?aS ?aL ?_
       (case aR => repeat (first | exact (by repeat (first | (with_reducible exact HR109_0.out) | (with_reducible refine Kd.qA ?_ _) | (with_reducible refine Kd.qB ?_ _) | (with_reducible refine Kd.qP ?_) | exact HR109_0.out)) | (with_reducible refine Kd.qA ?_ _) | (with_reducible refine Kd.qB ?_ _) | (with_reducible refine Kd.qP ?_)))
       (case aB => exact (by repeat (first | (with_reducible first | exact HB.out | apply zC | apply zB | apply zD | refine zF ?_ GE101.out | refine zF ?_ GE102.out | refine zF ?_ GE108.out) | exact HB.out)))
       (case aF => exact (fun _ _ => trivial))
       (case aO => exact (by (with_reducible repeat (first | apply Kd.zl | apply Kd.zj | apply Kd.zz)); exact HO_109002.out))
       (case aS => exact (zP (by repeat (first | (with_reducible first | exact HB.out | apply zC | apply zB | apply zD | refine zF ?_ GE101.out | refine zF ?_ GE102.out | refine zF ?_ GE108.out) | exact HB.out))))
       (case aL => have := LMc22.out; omega)
       intro v111 w24 ho hb hg hat
       rw [← Ny110.out] at ho
       have n0_ := zA.mk (Kd.QX (ok := (fun _ => True)) (by (with_reducible repeat (first | apply Kd.qF | apply Kd.qH | apply Kd.qS)); exact Kd.ZJ HO_5.out (fun _ hk => ⟨trivial, hk⟩)) hg hat)
       have n1_ := zA.mk (qa (g := gb101) (o := .cells #[.slice A0_0 l0_0.length c0_0] 30 (0, 0)) (by (with_reducible repeat (first | refine zI ?_ _ | refine zL ?_ | refine zH ?_ _)); exact BK101.out) hg (Kd.zDb HO_109002.out BK101.out (by decide)))
       have n2_ := zA.mk (qa (g := gb102) (o := .cells #[.int .i64 0, .int .i64 0, .slice none 0 0] 37 (0, 0)) (by (with_reducible repeat (first | refine zI ?_ _ | refine zL ?_ | refine zH ?_ _)); exact BK102.out) hg (Kd.zDb HO_109002.out BK102.out (by decide)))
       have n3_ := zA.mk (qa (g := gb108) (o := .cells #[.int .i64 (t104.length : Int), .int .i64 (wrap64 (7 * t107)), u109002] 37 (0, 0)) (by (with_reducible repeat (first | refine zI ?_ _ | refine zL ?_ | refine zH ?_ _)); exact BK108.out) hg (Kd.zDb HO_109002.out BK108.out (by decide)))
       have n4_ := zA.mk (Kd.ZF (ok := (fun k_ => some k_ ≠ (.slice (some ad109) t104.length co13 : Value).ownBlock)) (by (with_reducible repeat (first | apply Kd.zl | apply Kd.zj | apply Kd.zz)); exact Kd.qL HL109_0.out (fun _ hk => ⟨hk.2, hk.1⟩)) hg hat)
       have n5_ := zA.mk (hb)
       have n6_ := zA.mk (ho)
       clear HO_5
       clear BK101
       clear BK102
       clear BK108
       clear HL109_0
       clear HB
       clear HO_109002
       have HO_5 := n0_
       have BK101 := n1_
       have BK102 := n2_
       have BK108 := n3_
       have HL109_0 := n4_
       have HB := n5_
       have HO112 := n6_
       clear n0_ n1_ n2_ n3_ n4_ n5_ n6_
       clear ho hb hg hat
       obtain ⟨Ao25, co25, eo25⟩ := Kd.ZK HO112.out
       (first | subst eo25 | (injection eo25 with f1_ f2_ f3_; have f4_ := f1_.symm; have f5_ := f3_.symm; clear f1_ f2_ f3_; subst f4_; subst f5_))
       refine hK.out _ _ ?_
       clear hK K
       refine QH (a' := ?_) ?_ ?_
       rotate_left
       next =>
        show Act.put _ (some 34) _ = _
        simp only [Act.put, yay, yby, ycy, zV, zW]
        rfl
       refine za (i := 7) (N := some 35) (v := ?_) (a' := ?_) #[true, true, true, true, true, true, true, true, false] rfl rfl (zY HT_.out (by kernel_rfl)) (fun _ _ _ h => h) (Or.inl ⟨by rfl, ?_⟩) ?_ ?_
       rotate_left
       next =>
        intro w'
        go_simp
        with_reducible rfl
       rotate_left
       next =>
        simp only [Act.put, yay, yby, ycy, zV, zW]
        rfl
       refine zD4 (i := 8) (N := none) #[true, true, true, true, true, true, true, true, true] rfl rfl (Zo HT_.out (by kernel_rfl)) (by decide) (fun K hK => ?_)
       have hs26 : w24.cell? ⟨gb108, 2, none⟩ = some (u109002) := (zK BK108.out 2).trans rfl
       have hfs26 := zG BK108.out 2
       have hns26_0 := NB101_108.out
       have hns26_1 := NB102_108.out
       have hms26_0 := NB108_101.out
       have hms26_1 := NB108_102.out
       refine zEH (w1 := ?_) (by rfl) rfl ?_ ?_
       rotate_left
       next =>
        go_simp
        rfl
       refine hK.out _ _ ?_
       clear hK K
       refine QQ (Zg HT_.out (by kernel_rfl)) ?_
       try go_wp2
       go_roundg k1
       case measure => have := HK1.out; omega
       case rel => exact ⟨(wrap64 (x7_1 + 1)), (y110), (.slice Ao25 y110.length co25), (by first | rfl | (simp; done) | (simp [*]; done)), H', ⟨by have := HK1.out; omega⟩, ⟨by (with_reducible repeat (first | apply Kd.qF | apply Kd.qH | apply Kd.qS)); exact Kd.ZJ (Kd.JL (p := ⟨gb108, 2, none⟩) (Kd.Qx HO_5.out BK108.out (by decide)) (fun _ hk => hk.2) (.slice Ao25 y110.length co25)) (fun _ hk => hk.1.2)⟩, ⟨by (with_reducible repeat (first | apply Kd.zl | apply Kd.zj | apply Kd.zz)); exact Kd.qL (Kd.JI (p := ⟨gb108, 2, none⟩) (Kd.zA6 HO112.out BK108.out (by decide)) (fun _ hk => hk.2) (.slice Ao25 y110.length co25)) (fun _ hk => trivial)⟩, ⟨by (with_reducible repeat (first | refine zI ?_ _ | refine zL ?_ | refine zH ?_ _)); refine zn ?_ NB101_108.out _; (with_reducible repeat (first | refine zI ?_ _ | refine zL ?_ | refine zH ?_ _)); exact BK101.out⟩, ⟨by (with_reducible repeat (first | refine zI ?_ _ | refine zL ?_ | refine zH ?_ _)); refine zn ?_ NB102_108.out _; (with_reducible repeat (first | refine zI ?_ _ | refine zL ?_ | refine zH ?_ _)); exact BK102.out⟩, ⟨by (with_reducible repeat (first | refine zI ?_ _ | refine zL ?_ | refine zH ?_ _)); refine zu (cs := #[.int .i64 (t104.length : Int), .int .i64 (wrap64 (7 * t107)), u109002]) ?_ 2 _ rfl; (with_reducible repeat (first | refine zI ?_ _ | refine zL ?_ | refine zH ?_ _)); exact BK108.out⟩, ⟨by repeat (first | (with_reducible first | exact HB.out | apply zC | apply zB | apply zD | refine zF ?_ GE101.out | refine zF ?_ GE102.out | refine zF ?_ GE108.out) | exact HB.out)⟩⟩
      next =>
       rw [if_neg c22] at H
       exact absurd H (by simp)
     next =>
      rw [if_neg c21] at H
      exact absurd H (by simp)
    next =>
     rw [if_neg c20] at H
     have c20b0 : decide (x7_1 < (t104.length : Int)) = false := yhy c20
     clear c20
     simp only [Option.some.injEq, Prod.mk.injEq] at H
     obtain ⟨rfl, rfl, rfl, rfl⟩ := H
     have hnb27 := NB108_101.out
     have hnc27 := NB101_108.out
     have hnb28 := NB108_102.out
     have hnc28 := NB102_108.out
     have hcz29_0 : wr.cell? ⟨gb108, 0, none⟩ = some (.int .i64 (t104.length : Int)) := (zK BK108.out 0).trans rfl
     have hcz29_1 : wr.cell? ⟨gb108, 1, none⟩ = some (.int .i64 (wrap64 (7 * t107))) := (zK BK108.out 1).trans rfl
     have hcz29_2 : wr.cell? ⟨gb108, 2, none⟩ = some (u109002) := (zK BK108.out 2).trans rfl
     have hfz29_0 := zG BK108.out 0
     have hfz29_1 := zG BK108.out 1
     have hfz29_2 := zG BK108.out 2
     have hnb30 := NB102_101.out
     have hnc30 := NB101_102.out
     have hcz31_0 : wr.cell? ⟨gb102, 0, none⟩ = some (.int .i64 0) := (zK BK102.out 0).trans rfl
     have hcz31_1 : wr.cell? ⟨gb102, 1, none⟩ = some (.int .i64 0) := (zK BK102.out 1).trans rfl
     have hcz31_2 : wr.cell? ⟨gb102, 2, none⟩ = some (.slice none 0 0) := (zK BK102.out 2).trans rfl
     have hfz31_0 := zG BK102.out 0
     have hfz31_1 := zG BK102.out 1
     have hfz31_2 := zG BK102.out 2
     obtain ⟨Ao32, co32, eo32⟩ := Kd.ZK HO_109002.out
     subst eo32
     go_wp2
     refine bodyPost_ret (JD rfl _ _ gb102 37 #[.int .i64 (t104.length : Int), .int .i64 (wrap64 (7 * t107)), .slice Ao32 x109002_1.length co32] (0, 0) _ rfl (by (with_reducible repeat (first | refine zI ?_ _ | refine zL ?_ | refine zH ?_ _)); refine zu (cs := #[.int .i64 (t104.length : Int), .int .i64 (wrap64 (7 * t107)), .slice none 0 0]) ?_ 2 _ rfl; (with_reducible repeat (first | refine zI ?_ _ | refine zL ?_ | refine zH ?_ _)); refine zu (cs := #[.int .i64 (t104.length : Int), .int .i64 0, .slice none 0 0]) ?_ 1 _ rfl; (with_reducible repeat (first | refine zI ?_ _ | refine zL ?_ | refine zH ?_ _)); refine zu (cs := #[.int .i64 0, .int .i64 0, .slice none 0 0]) ?_ 0 _ rfl; (with_reducible repeat (first | refine zI ?_ _ | refine zL ?_ | refine zH ?_ _)); exact BK102.out) Try.underlying37 rfl (by kernel_rfl)) rfl ?_
     exact ⟨_, by first | rfl | (simp [zS, zT] <;> rfl) | (simp [*, zS, zT] <;> rfl), by (with_reducible repeat (first | apply Kd.zl | apply Kd.zj | apply Kd.zz)); exact Kd.qL (Kd.JI (p := ⟨gb102, 2, none⟩) (Kd.JI (p := ⟨gb102, 1, none⟩) (Kd.JI (p := ⟨gb102, 0, none⟩) (Kd.zA6 HO_109002.out BK102.out (by decide)) (fun _ hk => hk.2) (.int .i64 (t104.length : Int))) (fun _ hk => hk.2) (.int .i64 (wrap64 (7 * t107)))) (fun _ hk => hk.2) (.slice Ao32 x109002_1.length co32)) (fun _ hk => trivial), by repeat (first | (with_reducible first | exact HB.out | apply zC | apply zB | apply zD | refine zF ?_ GE101.out | refine zF ?_ GE102.out | refine zF ?_ GE108.out) | exact HB.out)⟩
 next =>
  rw [if_neg c3] at H
  have c3b0 : (t103 == 0) = false := beq_eq_false_iff_ne.mpr c3
  have c3b1 : (t103 != 0) = true := bne_iff_ne.mpr c3
  simp only [Option.some.injEq, Prod.mk.injEq] at H
  obtain ⟨rfl, rfl, rfl, rfl⟩ := H
  go_enter Try.func22, Try.ntmps22
  go_wp2_with (first | ((with_reducible refine ze (N := 1) rfl ?_); refine zc ?hg (N := 1) ?hd (cs := #[.slice A0_0 l0_0.length c0_0]) (t := 30) ?hr ?_; (case hd => rfl); (case hg => rfl); (case hr => first | (go_simp; done) | (go_simp; rfl)); intro gb101 hg w33 hbox hb; have n0_ := zA.mk (zN (by repeat (first | (with_reducible first | exact HB.out | apply zC | apply zB | apply zD) | exact HB.out)) hb); have n1_ := zA.mk (hbox); have n2_ := zA.mk ((by rw [hg]; exact (zP (by repeat (first | (with_reducible first | exact HB.out | apply zC | apply zB | apply zD) | exact HB.out))) : w.heap.size ≤ gb101)); have n3_ := zA.mk ((by rw [hg]; exact (zP (by repeat (first | (with_reducible first | exact HB.out | apply zC | apply zB | apply zD) | exact HB.out))) : w.heap.size ≤ gb101)); clear HB; have HB := n0_; have BK101 := n1_; have GW101 := n2_; have GE101 := n3_; clear n0_ n1_ n2_ n3_; clear hb hbox hg) | ((with_reducible refine ze (N := 2) rfl ?_); refine zc ?hg (N := 2) ?hd (cs := #[.int .i64 0, .int .i64 0, .slice none 0 0]) (t := 37) ?hr ?_; (case hd => rfl); (case hg => rfl); (case hr => first | (go_simp; done) | (go_simp; rfl)); intro gb102 hg w34 hbox hb; have n0_ := zA.mk (zO (g := gb101) (o := .cells #[.slice A0_0 l0_0.length c0_0] 30 (0, 0)) (by (with_reducible repeat (first | refine zI ?_ _ | refine zL ?_ | refine zH ?_ _)); exact BK101.out) hb); have n1_ := zA.mk (zN (by repeat (first | (with_reducible first | exact HB.out | apply zC | apply zB | apply zD | refine zF ?_ GE101.out) | exact HB.out)) hb); have n2_ := zA.mk (hbox); have n3_ := zA.mk ((by rw [hg]; exact (zP (by repeat (first | (with_reducible first | exact HB.out | apply zC | apply zB | apply zD | refine zF ?_ GE101.out) | exact HB.out))) : w.heap.size ≤ gb102)); have n4_ := zA.mk ((by rw [hg]; exact (zP (by repeat (first | (with_reducible first | exact HB.out | apply zC | apply zB | apply zD | refine zF ?_ GE101.out) | exact HB.out))) : w.heap.size ≤ gb102)); have n5_ := zA.mk ((by rw [hg]; exact Nat.ne_of_lt (qG (g := gb101) (o := .cells #[.slice A0_0 l0_0.length c0_0] 30 (0, 0)) (by (with_reducible repeat (first | refine zI ?_ _ | refine zL ?_ | refine zH ?_ _)); exact BK101.out)) : gb101 ≠ gb102)); have n6_ := zA.mk ((by rw [hg]; exact Nat.ne_of_gt (qG (g := gb101) (o := .cells #[.slice A0_0 l0_0.length c0_0] 30 (0, 0)) (by (with_reducible repeat (first | refine zI ?_ _ | refine zL ?_ | refine zH ?_ _)); exact BK101.out)) : gb102 ≠ gb101)); clear BK101; clear HB; have BK101 := n0_; have HB := n1_; have BK102 := n2_; have GW102 := n3_; have GE102 := n4_; have NB101_102 := n5_; have NB102_101 := n6_; clear n0_ n1_ n2_ n3_ n4_ n5_ n6_; clear hb hbox hg; have hnb35 := NB101_102.out; have hnc35 := NB102_101.out; have hcz36_0 : w34.cell? ⟨gb101, 0, none⟩ = some (.slice A0_0 l0_0.length c0_0) := (zK BK101.out 0).trans rfl; have hfz36_0 := zG BK101.out 0) | ((with_reducible refine zX (f := 58) rfl ?_); refine qI (some 9) rfl rfl Try.func58 (by kernel_rfl) rfl #[.agg #[.slice A0_0 l0_0.length c0_0]] rfl (by (try simp only [yiy, yjy, yky]); first | done | rfl | (simp only [yly, ymy]; rfl)) ?_; (with_reducible refine (Zk.calls k _ _ l0_0 t103 _ ?side1 ?side2 A2.out).mono ?_); (case side1 => repeat (first | exact (Kd.qD HR0_0.out HB.out) | (with_reducible refine Kd.qA ?_ _) | (with_reducible refine Kd.qB ?_ _) | (with_reducible refine Kd.qP ?_))); (case side2 => exact HC0_0.out); rintro e w37 ⟨rfl, hb⟩; refine ⟨_, rfl, ?_⟩; have n0_ := zA.mk (zO (g := gb101) (o := .cells #[.slice A0_0 l0_0.length c0_0] 30 (0, 0)) (by (with_reducible repeat (first | refine zI ?_ _ | refine zL ?_ | refine zH ?_ _)); exact BK101.out) hb); have n1_ := zA.mk (zO (g := gb102) (o := .cells #[.int .i64 0, .int .i64 0, .slice none 0 0] 37 (0, 0)) (by (with_reducible repeat (first | refine zI ?_ _ | refine zL ?_ | refine zH ?_ _)); exact BK102.out) hb); have n2_ := zA.mk (zN (by repeat (first | (with_reducible first | exact HB.out | apply zC | apply zB | apply zD | refine zF ?_ GE101.out | refine zF ?_ GE102.out) | exact HB.out)) hb); clear BK101; clear BK102; clear HB; have BK101 := n0_; have BK102 := n1_; have HB := n2_; clear n0_ n1_ n2_; (try clear hb); (try clear hb2); (try clear hk); (try clear hi); have hcz38_0 : w37.cell? ⟨gb102, 0, none⟩ = some (.int .i64 0) := (zK BK102.out 0).trans rfl; have hcz38_1 : w37.cell? ⟨gb102, 1, none⟩ = some (.int .i64 0) := (zK BK102.out 1).trans rfl; have hcz38_2 : w37.cell? ⟨gb102, 2, none⟩ = some (.slice none 0 0) := (zK BK102.out 2).trans rfl; have hfz38_0 := zG BK102.out 0; have hfz38_1 := zG BK102.out 1; have hfz38_2 := zG BK102.out 2))
  refine bodyPost_ret (JD rfl _ _ gb102 37 #[.int .i64 0, .int .i64 0, .slice none 0 0] (0, 0) _ rfl (by (with_reducible repeat (first | refine zI ?_ _ | refine zL ?_ | refine zH ?_ _)); refine zu (cs := #[.int .i64 0, .int .i64 0, .slice none 0 0]) ?_ 2 _ rfl; (with_reducible repeat (first | refine zI ?_ _ | refine zL ?_ | refine zH ?_ _)); refine zu (cs := #[.int .i64 0, .int .i64 0, .slice none 0 0]) ?_ 1 _ rfl; (with_reducible repeat (first | refine zI ?_ _ | refine zL ?_ | refine zH ?_ _)); refine zu (cs := #[.int .i64 0, .int .i64 0, .slice none 0 0]) ?_ 0 _ rfl; (with_reducible repeat (first | refine zI ?_ _ | refine zL ?_ | refine zH ?_ _)); exact BK102.out) Try.underlying37 rfl (by kernel_rfl)) rfl ?_
  exact ⟨_, by first | rfl | (simp [zS, zT] <;> rfl) | (simp [*, zS, zT] <;> rfl), by first | exact Kd.zAx _ _ _ _ _ | exact Kd.zDo _ _ _ _ _ | exact Kd.zDr _ _ _ _ _ | exact Kd.zDf _ _ _ _ _ | exact Kd.zDj _ _ _ _ _, by repeat (first | (with_reducible first | exact HB.out | apply zC | apply zB | apply zD | refine zF ?_ GE101.out | refine zF ?_ GE102.out) | exact HB.out)⟩
end Go.Proofs.Ythjpdljdodalaaa.P
namespace Go.Proofs.Ythjpdljdodalaaa.Lib
open Go.RowKit Go.Proofs.YthjpdljdodalaaaW.PrintWords
set_option linter.unusedVariables false
section
variable {α : Type} {d : Kd α} {e b lo hi lo2 hi2 T : Nat} {w w' W : World} {v : Value} {xs ys : List α}
def ObS (d : Kd α) (e b : Nat) (w : World) (lo hi : Nat) (v : Value) (xs : List α) : Prop := hi ≤ w.heap.size ∧ Kd.S d e w b (fun k => lo ≤ k ∧ k < hi) v xs
def ObR (d : Kd α) (e b : Nat) (w : World) (lo hi : Nat) (v : Value) (xs : List α) : Prop := hi ≤ w.heap.size ∧ Kd.R d e w b (fun k => lo ≤ k ∧ k < hi) v xs
theorem size_set (w : World) (g i : Nat) (u : Value) : w.heap.size ≤ (w.setCell ⟨g, i, none⟩ u).heap.size := ((ypy 0 w).setCell (Nat.zero_le _) u).size
theorem ObS.made (ho : Kd.S d e w' W.heap.size (fun _ => True) v xs) (hb : Below W.heap.size W w') (hT : T ≤ W.heap.size) (hB : b ≤ W.heap.size) : ∃ lo hi, (T ≤ lo ∧ lo ≤ hi) ∧ hi ≤ w'.heap.size ∧ ObS d e b w' lo hi v xs :=
  ⟨W.heap.size, w'.heap.size, ⟨hT, hb.size⟩, yoy _, yoy _, Kd.JK (Kd.ZJ (Kd.zDB ho) (fun k hk => ⟨hk.2.1, hk.2.2.1⟩)) hB⟩
theorem ObR.made (ho : Kd.R d e w' W.heap.size (fun _ => True) v xs) (hb : Below W.heap.size W w') (hT : T ≤ W.heap.size) (hB : b ≤ W.heap.size) : ∃ lo hi, (T ≤ lo ∧ lo ≤ hi) ∧ hi ≤ w'.heap.size ∧ ObR d e b w' lo hi v xs :=
  ⟨W.heap.size, w'.heap.size, ⟨hT, hb.size⟩, yoy _, yoy _, Kd.ZR (Kd.qL (Kd.Zw ho) (fun k hk => ⟨hk.2.1, hk.2.2.1⟩)) hB⟩
theorem ObS.below (h : ObS d e b w lo hi v xs) (hb : Below w.heap.size w w') : ObS d e b w' lo hi v xs := ⟨Nat.le_trans h.1 hb.size, Kd.Zd h.2 hb⟩
theorem ObR.below (h : ObR d e b w lo hi v xs) (hb : Below w.heap.size w w') : ObR d e b w' lo hi v xs := ⟨Nat.le_trans h.1 hb.size, Kd.ZV h.2 hb⟩
theorem ObS.drew (h : ObS d e b w lo hi v xs) : ObS d e b w.drew lo hi v xs := ⟨h.1, Kd.qS h.2⟩
theorem ObR.drew (h : ObR d e b w lo hi v xs) : ObR d e b w.drew lo hi v xs := ⟨h.1, Kd.zz h.2⟩
theorem ObS.far {g i : Nat} (h : ObS d e b w lo hi v xs) (hg : g < lo ∨ hi ≤ g) (u : Value) : ObS d e b (w.setCell ⟨g, i, none⟩ u) lo hi v xs :=
  ⟨Nat.le_trans h.1 (size_set _ _ _ _), Kd.JL h.2 (fun k hk => by show k ≠ g; have := hk.1; have := hk.2; omega) u⟩
theorem ObR.far {g i : Nat} (h : ObR d e b w lo hi v xs) (hg : g < lo ∨ hi ≤ g) (u : Value) : ObR d e b (w.setCell ⟨g, i, none⟩ u) lo hi v xs :=
  ⟨Nat.le_trans h.1 (size_set _ _ _ _), Kd.JI h.2 (fun k hk => by show k ≠ g; have := hk.1; have := hk.2; omega) u⟩
theorem ObS.kept (h : ObS d e b w lo hi v xs) (hk : Kept w w' (fun k => lo2 ≤ k ∧ k < hi2)) (hd : hi ≤ lo2 ∨ hi2 ≤ lo) : ObS d e b w' lo hi v xs :=
  ⟨Nat.le_trans h.1 hk.1, Kd.S_kept h.2 hk (fun k h1 h2 => by have := h1.1; have := h1.2; have := h2.1; have := h2.2; omega)⟩
theorem ObR.kept (h : ObR d e b w lo hi v xs) (hk : Kept w w' (fun k => lo2 ≤ k ∧ k < hi2)) (hd : hi ≤ lo2 ∨ hi2 ≤ lo) : ObR d e b w' lo hi v xs :=
  ⟨Nat.le_trans h.1 hk.1, Kd.R_kept h.2 hk (fun k h1 h2 => by have := h1.1; have := h1.2; have := h2.1; have := h2.2; omega)⟩
theorem ObS.slice (h : ObS d e b w lo hi v xs) : ∃ A c, v = .slice A xs.length c := Kd.JM h.2
theorem ObR.slice (h : ObR d e b w lo hi v xs) : ∃ A c, v = .slice A xs.length c := Kd.ZK h.2
theorem ObS.reads {A : Option Addr} {n c : Nat} (h : ObS d e b w lo hi (.slice A n c) xs) : n = xs.length ∧ n ≤ c ∧ d.C w A xs.length xs := Kd.QC h.2
theorem ObR.reads {A : Option Addr} {n c : Nat} (h : ObR d e b w lo hi (.slice A n c) xs) : n = xs.length ∧ n ≤ c ∧ d.C w A xs.length xs := Kd.qC h.2
theorem ObS.room {A : Option Addr} {n c : Nat} (h : ObS d e b w lo hi (.slice A n c) xs) : xs.length ≤ c := by have := h.reads; omega
theorem ObR.room {A : Option Addr} {n c : Nat} (h : ObR d e b w lo hi (.slice A n c) xs) : xs.length ≤ c := by have := h.reads; omega
theorem ObR.marked {ok' : Nat → Prop} (h : ObR d e b w lo hi v xs) (hE : d.E = []) (hy : Kd.R d e w' b ok' v ys) (hs : w.heap.size ≤ w'.heap.size) : ObR d e b w' lo hi v ys :=
  ⟨Nat.le_trans h.1 hs, Kd.zDE hE hy (fun k e => h.2.1 k e)⟩
theorem ObS.marked (h : ObS d e b w lo hi v xs) (hy : Kd.S d e w' b (fun k => lo ≤ k ∧ k < hi) v ys) (hs : w.heap.size ≤ w'.heap.size) : ObS d e b w' lo hi v ys := ⟨Nat.le_trans h.1 hs, hy⟩
theorem ObR.range (h : ObR d e b w lo hi v xs) (hk : Kept w w' (fun k_ => some k_ = v.ownBlock)) : Kept w w' (fun k => lo ≤ k ∧ k < hi) := hk.mono (fun k e => h.2.1 k e.symm)
theorem ObS.row (h : ObS d e b w lo hi v xs) : Kd.S d e w b (fun k => lo ≤ k ∧ k < hi) v xs := h.2
theorem ObR.row (h : ObR d e b w lo hi v xs) : Kd.R d e w b (fun k => lo ≤ k ∧ k < hi) v xs := h.2
theorem qj (h : T ≤ w.heap.size) (hb : Below w.heap.size w w') : T ≤ w'.heap.size := Nat.le_trans h hb.size
theorem zDw (h : T ≤ w.heap.size) : T ≤ w.drew.heap.size := h
theorem Zu {g i : Nat} {u : Value} (h : T ≤ w.heap.size) : T ≤ (w.setCell ⟨g, i, none⟩ u).heap.size := Nat.le_trans h (size_set _ _ _ _)
end
end Go.Proofs.Ythjpdljdodalaaa.Lib
namespace Go.Proofs.Ythjpdljdodalaaa.P
open Go.RowKit Go.Proofs.YthjpdljdodalaaaW.PrintWords Go.Proofs.YthjpdljdodalaaaW.PrintLast Go.Proofs.YthjpdljdodalaaaW.PrintMore
attribute [local go_sem] QD QE QY QZ Zq Zr QF QG
set_option linter.unusedVariables false
set_option linter.unusedSimpArgs false
open Go.Proofs.Ythjpdljdodalaaa.Lib
def qi.f (k : Nat) (l0 : List (List (qJ))) : Option Bool := (qy.f k l0 1048576).bind fun t2 => if t2 < 0 then some true else (qT.f k l0).bind fun t5 => (zb.f k t5).bind fun bt3 => (qT.f k l0).bind fun t14 => (qn.f k t14).bind fun bt5 => (ZH.f k bt5.1 bt5.2.1 bt5.2.2.1 bt3.1 bt3.2.1 bt3.2.2.1).bind fun t23 => if t23 = true then if bt5.2.2.2 = bt3.2.2.2 then (qT.f k l0).bind fun t26 => (ZG.f k t14 t26).bind fun t29 => if t29 = true then (ZA.f k t14 1).bind fun bt12 => if bt12.1 < 0 then some false else (ZH.f k bt5.1 bt5.2.1 bt5.2.2.1 bt3.1 bt3.2.1 bt3.2.2.1).bind fun t35 => if t35 = true then if bt5.2.2.2 = bt3.2.2.2 then (Zi.f k bt5.1 bt5.2.1 bt5.2.2.1 1).bind fun bt17 => (ZM.f k bt5.1 bt5.2.1 bt17.2 1).bind fun t41 => if t41 < 0 then some false else if t41 = bt17.1 then (qT.f k l0).bind fun t45 => (qn.f k t45).bind fun bt22 => (ZH.f k bt22.1 bt22.2.1 bt22.2.2.1 bt3.1 bt3.2.1 bt3.2.2.1).bind fun t54 => if t54 = true then if bt22.2.2.2 = bt3.2.2.2 then (ZM.f k bt5.1 bt5.2.1 bt17.2 1).bind fun t57 => if t57 < 0 then some false else if t57 = bt17.1 then some true else some false else some false else some false else some false else some false else some false else some false else some false else some false
set_option maxHeartbeats 8000000 in
set_option maxRecDepth 100000 in
theorem qi.calls (k : Nat) (A0 : Option Addr) (c0 : Nat) (l0 : List (List (qJ))) (w : World) (hr0 : Kd.C (Kd.slice 136 Zl) w A0 l0.length l0) (hc0 : l0.length ≤ c0) (h : qi.f k l0 = some true) :
 Calls Try.prog 4 #[.agg #[.slice A0 l0.length c0]] w fun e w' => e = .returned (.bool true) ∧ Below w.heap.size w w' := by
 have hu24 := Try.underlying24
 have hu30 := Try.underlying30
 have hu37 := Try.underlying37
 have HR0 := zA.mk hr0
 have HC0 := zA.mk hc0
 clear hr0 hc0
 have HB := zA.mk (ypy w.heap.size w)
 have HT := zA.mk (yoy w.heap.size)
 have H := h
 clear h
 unfold qi.f at H
 obtain ⟨t2, H10, H⟩ := ydy.mp H
 have H1 := zA.mk H10
 clear H10
 by_cases cC3 : t2 < 0
 next =>
  have dC3 : decide (t2 < 0) = true := ygy cC3
  clear cC3 H
  go_enter Try.func4, Try.ntmps4
  try go_wp2_with (first | ((with_reducible refine ze (N := 1) rfl ?_); refine zc ?hg (N := 1) ?hd (cs := #[.slice A0 l0.length c0]) (t := 24) ?hr ?_; (case hd => rfl); (case hg => rfl); (case hr => first | (go_simp; done) | (go_simp; rfl)); intro g1 hg w1 hbox hb; have HNg1 := zA.mk (by rw [hg]; exact HT.out : w.heap.size ≤ g1); have HXg1 := zA.mk (show g1 + 1 ≤ w1.heap.size from qG hbox); have nHB := zA.mk (zN HB.out hb); have nHT := zA.mk (qj HT.out hb); clear HB HT  ; have HB := nHB; have HT := nHT; clear nHB nHT  ; clear HT; have HT := HXg1; clear HXg1; have BKg1 := zA.mk hbox; clear hg hbox hb; have hczg1 : w1.cell? ⟨g1, 0, none⟩ = some (.slice A0 l0.length c0) := (zK BKg1.out 0).trans rfl; have hfzg1 := zG BKg1.out 0) | ((with_reducible refine zX (f := 15) rfl ?_); refine qI (some 16) rfl rfl Try.func15 (by kernel_rfl) rfl #[.agg #[.slice A0 l0.length c0], .int .i64 1048576] rfl (by (try simp only [yiy, yjy, yky]); first | done | rfl | (simp only [yly, ymy]; rfl)) ?_; (with_reducible refine (qy.calls k _ _ l0 1048576 t2 _ ?side1 ?side2 H1.out).mono ?_); (case side1 => exact Kd.qD HR0.out HB.out); (case side2 => exact HC0.out); rintro e w2 ⟨rfl, hb⟩; refine ⟨_, rfl, ?_⟩; (try clear hczg1 hfzg1); have nBg1 := zA.mk (zO (g := g1) (o := .cells #[.slice A0 l0.length c0] 24 (0, 0)) BKg1.out hb); have nHB := zA.mk (zN HB.out hb); have nHT := zA.mk (qj HT.out hb); clear HB HT  BKg1; have BKg1 := nBg1; have HB := nHB; have HT := nHT; clear nHB nHT  nBg1; (try clear hb); (try clear hnd); have hczg1 : w2.cell? ⟨g1, 0, none⟩ = some (.slice A0 l0.length c0) := (zK BKg1.out 0).trans rfl; have hfzg1 := zG BKg1.out 0))
  go_ret
  exact ⟨by first | rfl | (simp <;> rfl), HB.out⟩
 rw [if_neg cC3] at H
 have dC3 : decide (t2 < 0) = false := yhy cC3
 clear cC3
 obtain ⟨t5, H40, H⟩ := ydy.mp H
 have H4 := zA.mk H40
 clear H40
 obtain ⟨⟨t8, t9, t10, t12⟩, H70, H⟩ := ydy.mp H
 have H7 := zA.mk H70
 clear H70
 obtain ⟨t14, H130, H⟩ := ydy.mp H
 have H13 := zA.mk H130
 clear H130
 obtain ⟨⟨t17, t18, t19, t21⟩, H160, H⟩ := ydy.mp H
 have H16 := zA.mk H160
 clear H160
 obtain ⟨t23, H220, H⟩ := ydy.mp H
 obtain rfl : t23 = true := by cases t23 with | true => rfl | false => exact absurd H (by simp)
 replace H := H
 have H22 := zA.mk H220
 clear H220
 rw [if_pos rfl] at H
 have cC24 : t21 = t12 := by by_cases c_ : t21 = t12; exact c_; rw [if_neg c_] at H; cases H
 rw [if_pos cC24] at H
 have dC24 : (t21 != t12) = false := by rw [cC24]; exact bne_self_eq_false _
 clear cC24
 obtain ⟨t26, H250, H⟩ := ydy.mp H
 have H25 := zA.mk H250
 clear H250
 obtain ⟨t29, H280, H⟩ := ydy.mp H
 obtain rfl : t29 = true := by cases t29 with | true => rfl | false => exact absurd H (by simp)
 replace H := H
 have H28 := zA.mk H280
 clear H280
 rw [if_pos rfl] at H
 obtain ⟨⟨m31, y32⟩, H300, H⟩ := ydy.mp H
 have H30 := zA.mk H300
 clear H300
 dsimp only at H
 have cC33 : ¬ (m31 < 0) := fun c_ => by rw [if_pos c_] at H; cases H
 rw [if_neg cC33] at H
 have dC33 : decide (m31 < 0) = false := yhy cC33
 clear cC33
 obtain ⟨t35, H340, H⟩ := ydy.mp H
 obtain rfl : t35 = true := by cases t35 with | true => rfl | false => exact absurd H (by simp)
 replace H := H
 have H34 := zA.mk H340
 clear H340
 rw [if_pos rfl] at H
 have cC36 : t21 = t12 := by by_cases c_ : t21 = t12; exact c_; rw [if_neg c_] at H; cases H
 rw [if_pos cC36] at H
 have dC36 : (t21 != t12) = false := by rw [cC36]; exact bne_self_eq_false _
 clear cC36
 obtain ⟨⟨m38, y39⟩, H370, H⟩ := ydy.mp H
 have H37 := zA.mk H370
 clear H370
 dsimp only at H
 obtain ⟨t41, H400, H⟩ := ydy.mp H
 have H40 := zA.mk H400
 clear H400
 have cC42 : ¬ (t41 < 0) := fun c_ => by rw [if_pos c_] at H; cases H
 rw [if_neg cC42] at H
 have dC42 : decide (t41 < 0) = false := yhy cC42
 clear cC42
 have cC43 : t41 = m38 := by by_cases c_ : t41 = m38; exact c_; rw [if_neg c_] at H; cases H
 rw [if_pos cC43] at H
 have dC43 : (t41 != m38) = false := by rw [cC43]; exact bne_self_eq_false _
 clear cC43
 obtain ⟨t45, H440, H⟩ := ydy.mp H
 have H44 := zA.mk H440
 clear H440
 obtain ⟨⟨t48, t49, t50, t52⟩, H470, H⟩ := ydy.mp H
 have H47 := zA.mk H470
 clear H470
 obtain ⟨t54, H530, H⟩ := ydy.mp H
 obtain rfl : t54 = true := by cases t54 with | true => rfl | false => exact absurd H (by simp)
 replace H := H
 have H53 := zA.mk H530
 clear H530
 rw [if_pos rfl] at H
 have cC55 : t52 = t12 := by by_cases c_ : t52 = t12; exact c_; rw [if_neg c_] at H; cases H
 rw [if_pos cC55] at H
 have dC55 : (t52 != t12) = false := by rw [cC55]; exact bne_self_eq_false _
 clear cC55
 obtain ⟨t57, H560, H⟩ := ydy.mp H
 have H56 := zA.mk H560
 clear H560
 have cC58 : ¬ (t57 < 0) := fun c_ => by rw [if_pos c_] at H; cases H
 rw [if_neg cC58] at H
 have dC58 : decide (t57 < 0) = false := yhy cC58
 clear cC58
 have cC59 : t57 = m38 := by by_cases c_ : t57 = m38; exact c_; rw [if_neg c_] at H; cases H
 rw [if_pos cC59] at H
 have dC59 : (t57 != m38) = false := by rw [cC59]; exact bne_self_eq_false _
 clear cC59
 clear H
 go_enter Try.func4, Try.ntmps4
 try go_wp2_with (first | ((with_reducible refine ze (N := 1) rfl ?_); refine zc ?hg (N := 1) ?hd (cs := #[.slice A0 l0.length c0]) (t := 24) ?hr ?_; (case hd => rfl); (case hg => rfl); (case hr => first | (go_simp; done) | (go_simp; rfl)); intro g1 hg w1 hbox hb; have HNg1 := zA.mk (by rw [hg]; exact HT.out : w.heap.size ≤ g1); have HXg1 := zA.mk (show g1 + 1 ≤ w1.heap.size from qG hbox); have nHB := zA.mk (zN HB.out hb); have nHT := zA.mk (qj HT.out hb); clear HB HT  ; have HB := nHB; have HT := nHT; clear nHB nHT  ; clear HT; have HT := HXg1; clear HXg1; have BKg1 := zA.mk hbox; clear hg hbox hb; have hczg1 : w1.cell? ⟨g1, 0, none⟩ = some (.slice A0 l0.length c0) := (zK BKg1.out 0).trans rfl; have hfzg1 := zG BKg1.out 0) | ((with_reducible refine zX (f := 15) rfl ?_); refine qI (some 16) rfl rfl Try.func15 (by kernel_rfl) rfl #[.agg #[.slice A0 l0.length c0], .int .i64 1048576] rfl (by (try simp only [yiy, yjy, yky]); first | done | rfl | (simp only [yly, ymy]; rfl)) ?_; (with_reducible refine (qy.calls k _ _ l0 1048576 t2 _ ?side1 ?side2 H1.out).mono ?_); (case side1 => exact Kd.qD HR0.out HB.out); (case side2 => exact HC0.out); rintro e w2 ⟨rfl, hb⟩; refine ⟨_, rfl, ?_⟩; (try clear hczg1 hfzg1); have nBg1 := zA.mk (zO (g := g1) (o := .cells #[.slice A0 l0.length c0] 24 (0, 0)) BKg1.out hb); have nHB := zA.mk (zN HB.out hb); have nHT := zA.mk (qj HT.out hb); clear HB HT  BKg1; have BKg1 := nBg1; have HB := nHB; have HT := nHT; clear nHB nHT  nBg1; (try clear hb); (try clear hnd); have hczg1 : w2.cell? ⟨g1, 0, none⟩ = some (.slice A0 l0.length c0) := (zK BKg1.out 0).trans rfl; have hfzg1 := zG BKg1.out 0) | ((with_reducible refine zX (f := 17) rfl ?_); refine qI (some 21) rfl rfl Try.func17 (by kernel_rfl) rfl #[.agg #[.slice A0 l0.length c0]] rfl (by (try simp only [yiy, yjy, yky]); first | done | rfl | (simp only [yly, ymy]; rfl)) ?_; (with_reducible refine (qT.calls k _ _ l0 t5 _ ?side1 ?side2 H4.out).mono ?_); (case side1 => exact Kd.qD HR0.out HB.out); (case side2 => exact HC0.out); rintro e w3 ⟨vo6, rfl, ho0, hb⟩; refine ⟨_, rfl, ?_⟩; (try clear hczg1 hfzg1); obtain ⟨loo6, hio6, hno6⟩ := ObS.made ho0 hb HT.out (zP HB.out); have nBg1 := zA.mk (zO (g := g1) (o := .cells #[.slice A0 l0.length c0] 24 (0, 0)) BKg1.out hb); have nHB := zA.mk (zN HB.out hb); have nHT := zA.mk (qj HT.out hb); clear HB HT  BKg1; have BKg1 := nBg1; have HB := nHB; have HT := nHT; clear nHB nHT  nBg1; have HNo6 := zA.mk hno6.1; clear HT; have HT := zA.mk hno6.2.1; have HOo6 := zA.mk hno6.2.2; clear hno6 ho0; obtain ⟨Ao6, co6, eeo6⟩ := HOo6.out.slice; subst eeo6; (try clear hb); (try clear hnd); have hczg1 : w3.cell? ⟨g1, 0, none⟩ = some (.slice A0 l0.length c0) := (zK BKg1.out 0).trans rfl; have hfzg1 := zG BKg1.out 0) | ((with_reducible refine zX (f := 22) rfl ?_); refine qI (some 22) rfl rfl Try.func22 (by kernel_rfl) rfl #[.agg #[.slice Ao6 t5.length co6]] rfl (by (try simp only [yiy, yjy, yky]); first | done | rfl | (simp only [yly, ymy]; rfl)) ?_; (with_reducible refine (zb.calls k _ _ t5 t8 t9 t10 t12 _ ?side1 ?side2 H7.out).mono ?_); (case side1 => exact (ObS.reads HOo6.out).2.2); (case side2 => exact ObS.room HOo6.out); rintro e w4 ⟨vo11, rfl, ho0, hb⟩; refine ⟨_, rfl, ?_⟩; (try clear hczg1 hfzg1); obtain ⟨loo11, hio11, hno11⟩ := ObR.made ho0 hb HT.out (zP HB.out); have nOo6 := zA.mk (ObS.below HOo6.out hb); have nBg1 := zA.mk (zO (g := g1) (o := .cells #[.slice A0 l0.length c0] 24 (0, 0)) BKg1.out hb); have nHB := zA.mk (zN HB.out hb); have nHT := zA.mk (qj HT.out hb); clear HB HT HOo6 BKg1; have HOo6 := nOo6; have BKg1 := nBg1; have HB := nHB; have HT := nHT; clear nHB nHT nOo6 nBg1; have HNo11 := zA.mk hno11.1; clear HT; have HT := zA.mk hno11.2.1; have HOo11 := zA.mk hno11.2.2; clear hno11 ho0; obtain ⟨Ao11, co11, eeo11⟩ := HOo11.out.slice; subst eeo11; (try clear hb); (try clear hnd); have hczg1 : w4.cell? ⟨g1, 0, none⟩ = some (.slice A0 l0.length c0) := (zK BKg1.out 0).trans rfl; have hfzg1 := zG BKg1.out 0) | ((with_reducible refine ze (N := 4) rfl ?_); refine zc ?hg (N := 4) ?hd (cs := #[.int .i64 0, .int .i64 0, .slice none 0 0]) (t := 37) ?hr ?_; (case hd => rfl); (case hg => rfl); (case hr => first | (go_simp; done) | (go_simp; rfl)); intro g4 hg w5 hbox hb; (try clear hczg1 hfzg1); have HNg4 := zA.mk (by rw [hg]; exact HT.out : hio11 ≤ g4); have HXg4 := zA.mk (show g4 + 1 ≤ w5.heap.size from qG hbox); have nOo6 := zA.mk (ObS.below HOo6.out hb); have nOo11 := zA.mk (ObR.below HOo11.out hb); have nBg1 := zA.mk (zO (g := g1) (o := .cells #[.slice A0 l0.length c0] 24 (0, 0)) BKg1.out hb); have nHB := zA.mk (zN HB.out hb); have nHT := zA.mk (qj HT.out hb); clear HB HT HOo6 HOo11 BKg1; have HOo6 := nOo6; have HOo11 := nOo11; have BKg1 := nBg1; have HB := nHB; have HT := nHT; clear nHB nHT nOo6 nOo11 nBg1; clear HT; have HT := HXg4; clear HXg4; have BKg4 := zA.mk hbox; clear hg hbox hb; have hnbg4_g1 : g4 ≠ g1 := (by have := HNg1.out; have := HNo6.out; have := HNo11.out; have := HNg4.out; omega); have hnbg1_g4 : g1 ≠ g4 := (by have := HNg1.out; have := HNo6.out; have := HNo11.out; have := HNg4.out; omega); have hczg1 : w5.cell? ⟨g1, 0, none⟩ = some (.slice A0 l0.length c0) := (zK BKg1.out 0).trans rfl; have hfzg1 := zG BKg1.out 0; have hczg4 : w5.cell? ⟨g4, 0, none⟩ = some (.int .i64 0) := (zK BKg4.out 0).trans rfl; have hfzg4 := zG BKg4.out 0; have hczg4_1 : w5.cell? ⟨g4, 1, none⟩ = some (.int .i64 0) := (zK BKg4.out 1).trans rfl; have hfzg4_1 := zG BKg4.out 1; have hczg4_2 : w5.cell? ⟨g4, 2, none⟩ = some (.slice none 0 0) := (zK BKg4.out 2).trans rfl; have hfzg4_2 := zG BKg4.out 2) | ((with_reducible refine zX (f := 17) rfl ?_); refine qI (some 26) rfl rfl Try.func17 (by kernel_rfl) rfl #[.agg #[.slice A0 l0.length c0]] rfl (by (try simp only [yiy, yjy, yky]); first | done | rfl | (simp only [yly, ymy]; rfl)) ?_; (with_reducible refine (qT.calls k _ _ l0 t14 _ ?side1 ?side2 H13.out).mono ?_); (case side1 => exact Kd.qD HR0.out (zF (zF (zF HB.out (show w.heap.size ≤ g4 from (by have := HNg1.out; have := HNo6.out; have := HNo11.out; have := HNg4.out; omega))) (show w.heap.size ≤ g4 from (by have := HNg1.out; have := HNo6.out; have := HNo11.out; have := HNg4.out; omega))) (show w.heap.size ≤ g4 from (by have := HNg1.out; have := HNo6.out; have := HNo11.out; have := HNg4.out; omega)))); (case side2 => exact HC0.out); rintro e w6 ⟨vo15, rfl, ho0, hb⟩; refine ⟨_, rfl, ?_⟩; (try clear hczg1 hfzg1 hczg4 hfzg4 hczg4_1 hfzg4_1 hczg4_2 hfzg4_2); obtain ⟨loo15, hio15, hno15⟩ := ObS.made ho0 hb (Zu (Zu (Zu HT.out))) (zP (zF (zF (zF HB.out (show w.heap.size ≤ g4 from (by have := HNg1.out; have := HNo6.out; have := HNo11.out; have := HNg4.out; omega))) (show w.heap.size ≤ g4 from (by have := HNg1.out; have := HNo6.out; have := HNo11.out; have := HNg4.out; omega))) (show w.heap.size ≤ g4 from (by have := HNg1.out; have := HNo6.out; have := HNo11.out; have := HNg4.out; omega)))); have nOo6 := zA.mk (ObS.below (ObS.far (g := g4) (i := 2) (ObS.far (g := g4) (i := 1) (ObS.far (g := g4) (i := 0) HOo6.out (by have := HNg1.out; have := HNo6.out; have := HNo11.out; have := HNg4.out; omega) _) (by have := HNg1.out; have := HNo6.out; have := HNo11.out; have := HNg4.out; omega) _) (by have := HNg1.out; have := HNo6.out; have := HNo11.out; have := HNg4.out; omega) _) hb); have nOo11 := zA.mk (ObR.below (ObR.far (g := g4) (i := 2) (ObR.far (g := g4) (i := 1) (ObR.far (g := g4) (i := 0) HOo11.out (by have := HNg1.out; have := HNo6.out; have := HNo11.out; have := HNg4.out; omega) _) (by have := HNg1.out; have := HNo6.out; have := HNo11.out; have := HNg4.out; omega) _) (by have := HNg1.out; have := HNo6.out; have := HNo11.out; have := HNg4.out; omega) _) hb); have nBg1 := zA.mk (zO (g := g1) (o := .cells #[.slice A0 l0.length c0] 24 (0, 0)) (zn (p := ⟨g4, 2, none⟩) (zn (p := ⟨g4, 1, none⟩) (zn (p := ⟨g4, 0, none⟩) BKg1.out (show g1 ≠ g4 from (by have := HNg1.out; have := HNo6.out; have := HNo11.out; have := HNg4.out; omega)) _) (show g1 ≠ g4 from (by have := HNg1.out; have := HNo6.out; have := HNo11.out; have := HNg4.out; omega)) _) (show g1 ≠ g4 from (by have := HNg1.out; have := HNo6.out; have := HNo11.out; have := HNg4.out; omega)) _) hb); have nBg4 := zA.mk (zO (g := g4) (o := .cells #[.int .i64 t8, .int .i64 t9, .slice Ao11 t10.length co11] 37 (0, 0)) (zu (cs := #[.int .i64 t8, .int .i64 t9, .slice none 0 0]) (zu (cs := #[.int .i64 t8, .int .i64 0, .slice none 0 0]) (zu (cs := #[.int .i64 0, .int .i64 0, .slice none 0 0]) BKg4.out 0 _ rfl) 1 _ rfl) 2 _ rfl) hb); have nHB := zA.mk (zN (zF (zF (zF HB.out (show w.heap.size ≤ g4 from (by have := HNg1.out; have := HNo6.out; have := HNo11.out; have := HNg4.out; omega))) (show w.heap.size ≤ g4 from (by have := HNg1.out; have := HNo6.out; have := HNo11.out; have := HNg4.out; omega))) (show w.heap.size ≤ g4 from (by have := HNg1.out; have := HNo6.out; have := HNo11.out; have := HNg4.out; omega))) hb); have nHT := zA.mk (qj (Zu (Zu (Zu HT.out))) hb); clear HB HT HOo6 HOo11 BKg1 BKg4; have HOo6 := nOo6; have HOo11 := nOo11; have BKg1 := nBg1; have BKg4 := nBg4; have HB := nHB; have HT := nHT; clear nHB nHT nOo6 nOo11 nBg1 nBg4; have HNo15 := zA.mk hno15.1; clear HT; have HT := zA.mk hno15.2.1; have HOo15 := zA.mk hno15.2.2; clear hno15 ho0; obtain ⟨Ao15, co15, eeo15⟩ := HOo15.out.slice; subst eeo15; (try clear hb); (try clear hnd); have hczg1 : w6.cell? ⟨g1, 0, none⟩ = some (.slice A0 l0.length c0) := (zK BKg1.out 0).trans rfl; have hfzg1 := zG BKg1.out 0; have hczg4 : w6.cell? ⟨g4, 0, none⟩ = some (.int .i64 t8) := (zK BKg4.out 0).trans rfl; have hfzg4 := zG BKg4.out 0; have hczg4_1 : w6.cell? ⟨g4, 1, none⟩ = some (.int .i64 t9) := (zK BKg4.out 1).trans rfl; have hfzg4_1 := zG BKg4.out 1; have hczg4_2 : w6.cell? ⟨g4, 2, none⟩ = some (.slice Ao11 t10.length co11) := (zK BKg4.out 2).trans rfl; have hfzg4_2 := zG BKg4.out 2) | ((with_reducible refine ze (N := 6) rfl ?_); refine zc ?hg (N := 6) ?hd (cs := #[.slice none 0 0]) (t := 30) ?hr ?_; (case hd => rfl); (case hg => rfl); (case hr => first | (go_simp; done) | (go_simp; rfl)); intro g6 hg w7 hbox hb; (try clear hczg1 hfzg1 hczg4 hfzg4 hczg4_1 hfzg4_1 hczg4_2 hfzg4_2); have HNg6 := zA.mk (by rw [hg]; exact HT.out : hio15 ≤ g6); have HXg6 := zA.mk (show g6 + 1 ≤ w7.heap.size from qG hbox); have nOo6 := zA.mk (ObS.below HOo6.out hb); have nOo11 := zA.mk (ObR.below HOo11.out hb); have nOo15 := zA.mk (ObS.below HOo15.out hb); have nBg1 := zA.mk (zO (g := g1) (o := .cells #[.slice A0 l0.length c0] 24 (0, 0)) BKg1.out hb); have nBg4 := zA.mk (zO (g := g4) (o := .cells #[.int .i64 t8, .int .i64 t9, .slice Ao11 t10.length co11] 37 (0, 0)) BKg4.out hb); have nHB := zA.mk (zN HB.out hb); have nHT := zA.mk (qj HT.out hb); clear HB HT HOo6 HOo11 HOo15 BKg1 BKg4; have HOo6 := nOo6; have HOo11 := nOo11; have HOo15 := nOo15; have BKg1 := nBg1; have BKg4 := nBg4; have HB := nHB; have HT := nHT; clear nHB nHT nOo6 nOo11 nOo15 nBg1 nBg4; clear HT; have HT := HXg6; clear HXg6; have BKg6 := zA.mk hbox; clear hg hbox hb; have hnbg6_g1 : g6 ≠ g1 := (by have := HNg1.out; have := HNo6.out; have := HNo11.out; have := HNg4.out; have := HNo15.out; have := HNg6.out; omega); have hnbg1_g6 : g1 ≠ g6 := (by have := HNg1.out; have := HNo6.out; have := HNo11.out; have := HNg4.out; have := HNo15.out; have := HNg6.out; omega); have hnbg6_g4 : g6 ≠ g4 := (by have := HNg1.out; have := HNo6.out; have := HNo11.out; have := HNg4.out; have := HNo15.out; have := HNg6.out; omega); have hnbg4_g6 : g4 ≠ g6 := (by have := HNg1.out; have := HNo6.out; have := HNo11.out; have := HNg4.out; have := HNo15.out; have := HNg6.out; omega); have hczg1 : w7.cell? ⟨g1, 0, none⟩ = some (.slice A0 l0.length c0) := (zK BKg1.out 0).trans rfl; have hfzg1 := zG BKg1.out 0; have hczg4 : w7.cell? ⟨g4, 0, none⟩ = some (.int .i64 t8) := (zK BKg4.out 0).trans rfl; have hfzg4 := zG BKg4.out 0; have hczg4_1 : w7.cell? ⟨g4, 1, none⟩ = some (.int .i64 t9) := (zK BKg4.out 1).trans rfl; have hfzg4_1 := zG BKg4.out 1; have hczg4_2 : w7.cell? ⟨g4, 2, none⟩ = some (.slice Ao11 t10.length co11) := (zK BKg4.out 2).trans rfl; have hfzg4_2 := zG BKg4.out 2; have hczg6 : w7.cell? ⟨g6, 0, none⟩ = some (.slice none 0 0) := (zK BKg6.out 0).trans rfl; have hfzg6 := zG BKg6.out 0) | ((with_reducible refine zX (f := 23) rfl ?_); refine qI (some 29) rfl rfl Try.func23 (by kernel_rfl) rfl #[.agg #[.slice Ao15 t14.length co15]] rfl (by (try simp only [yiy, yjy, yky]); first | done | rfl | (simp only [yly, ymy]; rfl)) ?_; (with_reducible refine (qn.calls k _ _ t14 t17 t18 t19 t21 _ ?side1 ?side2 H16.out).mono ?_); (case side1 => exact (ObS.reads (ObS.far (g := g6) (i := 0) HOo15.out (by have := HNg1.out; have := HNo6.out; have := HNo11.out; have := HNg4.out; have := HNo15.out; have := HNg6.out; omega) _)).2.2); (case side2 => exact ObS.room HOo15.out); rintro e w8 ⟨vo20, rfl, ho0, hb⟩; refine ⟨_, rfl, ?_⟩; (try clear hczg1 hfzg1 hczg4 hfzg4 hczg4_1 hfzg4_1 hczg4_2 hfzg4_2 hczg6 hfzg6); obtain ⟨loo20, hio20, hno20⟩ := ObR.made ho0 hb (Zu HT.out) (zP (zF HB.out (show w.heap.size ≤ g6 from (by have := HNg1.out; have := HNo6.out; have := HNo11.out; have := HNg4.out; have := HNo15.out; have := HNg6.out; omega)))); have nOo6 := zA.mk (ObS.below (ObS.far (g := g6) (i := 0) HOo6.out (by have := HNg1.out; have := HNo6.out; have := HNo11.out; have := HNg4.out; have := HNo15.out; have := HNg6.out; omega) _) hb); have nOo11 := zA.mk (ObR.below (ObR.far (g := g6) (i := 0) HOo11.out (by have := HNg1.out; have := HNo6.out; have := HNo11.out; have := HNg4.out; have := HNo15.out; have := HNg6.out; omega) _) hb); have nOo15 := zA.mk (ObS.below (ObS.far (g := g6) (i := 0) HOo15.out (by have := HNg1.out; have := HNo6.out; have := HNo11.out; have := HNg4.out; have := HNo15.out; have := HNg6.out; omega) _) hb); have nBg1 := zA.mk (zO (g := g1) (o := .cells #[.slice A0 l0.length c0] 24 (0, 0)) (zn (p := ⟨g6, 0, none⟩) BKg1.out (show g1 ≠ g6 from (by have := HNg1.out; have := HNo6.out; have := HNo11.out; have := HNg4.out; have := HNo15.out; have := HNg6.out; omega)) _) hb); have nBg4 := zA.mk (zO (g := g4) (o := .cells #[.int .i64 t8, .int .i64 t9, .slice Ao11 t10.length co11] 37 (0, 0)) (zn (p := ⟨g6, 0, none⟩) BKg4.out (show g4 ≠ g6 from (by have := HNg1.out; have := HNo6.out; have := HNo11.out; have := HNg4.out; have := HNo15.out; have := HNg6.out; omega)) _) hb); have nBg6 := zA.mk (zO (g := g6) (o := .cells #[.slice Ao15 t14.length co15] 30 (0, 0)) (zu (cs := #[.slice none 0 0]) BKg6.out 0 _ rfl) hb); have nHB := zA.mk (zN (zF HB.out (show w.heap.size ≤ g6 from (by have := HNg1.out; have := HNo6.out; have := HNo11.out; have := HNg4.out; have := HNo15.out; have := HNg6.out; omega))) hb); have nHT := zA.mk (qj (Zu HT.out) hb); clear HB HT HOo6 HOo11 HOo15 BKg1 BKg4 BKg6; have HOo6 := nOo6; have HOo11 := nOo11; have HOo15 := nOo15; have BKg1 := nBg1; have BKg4 := nBg4; have BKg6 := nBg6; have HB := nHB; have HT := nHT; clear nHB nHT nOo6 nOo11 nOo15 nBg1 nBg4 nBg6; have HNo20 := zA.mk hno20.1; clear HT; have HT := zA.mk hno20.2.1; have HOo20 := zA.mk hno20.2.2; clear hno20 ho0; obtain ⟨Ao20, co20, eeo20⟩ := HOo20.out.slice; subst eeo20; (try clear hb); (try clear hnd); have hczg1 : w8.cell? ⟨g1, 0, none⟩ = some (.slice A0 l0.length c0) := (zK BKg1.out 0).trans rfl; have hfzg1 := zG BKg1.out 0; have hczg4 : w8.cell? ⟨g4, 0, none⟩ = some (.int .i64 t8) := (zK BKg4.out 0).trans rfl; have hfzg4 := zG BKg4.out 0; have hczg4_1 : w8.cell? ⟨g4, 1, none⟩ = some (.int .i64 t9) := (zK BKg4.out 1).trans rfl; have hfzg4_1 := zG BKg4.out 1; have hczg4_2 : w8.cell? ⟨g4, 2, none⟩ = some (.slice Ao11 t10.length co11) := (zK BKg4.out 2).trans rfl; have hfzg4_2 := zG BKg4.out 2; have hczg6 : w8.cell? ⟨g6, 0, none⟩ = some (.slice Ao15 t14.length co15) := (zK BKg6.out 0).trans rfl; have hfzg6 := zG BKg6.out 0) | ((with_reducible refine ze (N := 7) rfl ?_); refine zc ?hg (N := 7) ?hd (cs := #[.int .i64 0, .int .i64 0, .slice none 0 0]) (t := 37) ?hr ?_; (case hd => rfl); (case hg => rfl); (case hr => first | (go_simp; done) | (go_simp; rfl)); intro g7 hg w9 hbox hb; (try clear hczg1 hfzg1 hczg4 hfzg4 hczg4_1 hfzg4_1 hczg4_2 hfzg4_2 hczg6 hfzg6); have HNg7 := zA.mk (by rw [hg]; exact HT.out : hio20 ≤ g7); have HXg7 := zA.mk (show g7 + 1 ≤ w9.heap.size from qG hbox); have nOo6 := zA.mk (ObS.below HOo6.out hb); have nOo11 := zA.mk (ObR.below HOo11.out hb); have nOo15 := zA.mk (ObS.below HOo15.out hb); have nOo20 := zA.mk (ObR.below HOo20.out hb); have nBg1 := zA.mk (zO (g := g1) (o := .cells #[.slice A0 l0.length c0] 24 (0, 0)) BKg1.out hb); have nBg4 := zA.mk (zO (g := g4) (o := .cells #[.int .i64 t8, .int .i64 t9, .slice Ao11 t10.length co11] 37 (0, 0)) BKg4.out hb); have nBg6 := zA.mk (zO (g := g6) (o := .cells #[.slice Ao15 t14.length co15] 30 (0, 0)) BKg6.out hb); have nHB := zA.mk (zN HB.out hb); have nHT := zA.mk (qj HT.out hb); clear HB HT HOo6 HOo11 HOo15 HOo20 BKg1 BKg4 BKg6; have HOo6 := nOo6; have HOo11 := nOo11; have HOo15 := nOo15; have HOo20 := nOo20; have BKg1 := nBg1; have BKg4 := nBg4; have BKg6 := nBg6; have HB := nHB; have HT := nHT; clear nHB nHT nOo6 nOo11 nOo15 nOo20 nBg1 nBg4 nBg6; clear HT; have HT := HXg7; clear HXg7; have BKg7 := zA.mk hbox; clear hg hbox hb; have hnbg7_g1 : g7 ≠ g1 := (by have := HNg1.out; have := HNo6.out; have := HNo11.out; have := HNg4.out; have := HNo15.out; have := HNg6.out; have := HNo20.out; have := HNg7.out; omega); have hnbg1_g7 : g1 ≠ g7 := (by have := HNg1.out; have := HNo6.out; have := HNo11.out; have := HNg4.out; have := HNo15.out; have := HNg6.out; have := HNo20.out; have := HNg7.out; omega); have hnbg7_g4 : g7 ≠ g4 := (by have := HNg1.out; have := HNo6.out; have := HNo11.out; have := HNg4.out; have := HNo15.out; have := HNg6.out; have := HNo20.out; have := HNg7.out; omega); have hnbg4_g7 : g4 ≠ g7 := (by have := HNg1.out; have := HNo6.out; have := HNo11.out; have := HNg4.out; have := HNo15.out; have := HNg6.out; have := HNo20.out; have := HNg7.out; omega); have hnbg7_g6 : g7 ≠ g6 := (by have := HNg1.out; have := HNo6.out; have := HNo11.out; have := HNg4.out; have := HNo15.out; have := HNg6.out; have := HNo20.out; have := HNg7.out; omega); have hnbg6_g7 : g6 ≠ g7 := (by have := HNg1.out; have := HNo6.out; have := HNo11.out; have := HNg4.out; have := HNo15.out; have := HNg6.out; have := HNo20.out; have := HNg7.out; omega); have hczg1 : w9.cell? ⟨g1, 0, none⟩ = some (.slice A0 l0.length c0) := (zK BKg1.out 0).trans rfl; have hfzg1 := zG BKg1.out 0; have hczg4 : w9.cell? ⟨g4, 0, none⟩ = some (.int .i64 t8) := (zK BKg4.out 0).trans rfl; have hfzg4 := zG BKg4.out 0; have hczg4_1 : w9.cell? ⟨g4, 1, none⟩ = some (.int .i64 t9) := (zK BKg4.out 1).trans rfl; have hfzg4_1 := zG BKg4.out 1; have hczg4_2 : w9.cell? ⟨g4, 2, none⟩ = some (.slice Ao11 t10.length co11) := (zK BKg4.out 2).trans rfl; have hfzg4_2 := zG BKg4.out 2; have hczg6 : w9.cell? ⟨g6, 0, none⟩ = some (.slice Ao15 t14.length co15) := (zK BKg6.out 0).trans rfl; have hfzg6 := zG BKg6.out 0; have hczg7 : w9.cell? ⟨g7, 0, none⟩ = some (.int .i64 0) := (zK BKg7.out 0).trans rfl; have hfzg7 := zG BKg7.out 0; have hczg7_1 : w9.cell? ⟨g7, 1, none⟩ = some (.int .i64 0) := (zK BKg7.out 1).trans rfl; have hfzg7_1 := zG BKg7.out 1; have hczg7_2 : w9.cell? ⟨g7, 2, none⟩ = some (.slice none 0 0) := (zK BKg7.out 2).trans rfl; have hfzg7_2 := zG BKg7.out 2) | ((with_reducible refine zX (f := 24) rfl ?_); refine qI (some 34) rfl rfl Try.func24 (by kernel_rfl) rfl #[.agg #[.int .i64 t17, .int .i64 t18, .slice Ao20 t19.length co20], .agg #[.int .i64 t8, .int .i64 t9, .slice Ao11 t10.length co11]] rfl (by (try simp only [yiy, yjy, yky]); first | done | rfl | (simp only [yly, ymy]; rfl)) ?_; (with_reducible refine (ZH.calls k t17 t18 _ _ t19 t8 t9 _ _ t10 true _ ?side1 ?side2 ?side3 ?side4 H22.out).mono ?_); (case side1 => exact (ObR.reads (ObR.far (g := g7) (i := 2) (ObR.far (g := g7) (i := 1) (ObR.far (g := g7) (i := 0) HOo20.out (by have := HNg1.out; have := HNo6.out; have := HNo11.out; have := HNg4.out; have := HNo15.out; have := HNg6.out; have := HNo20.out; have := HNg7.out; omega) _) (by have := HNg1.out; have := HNo6.out; have := HNo11.out; have := HNg4.out; have := HNo15.out; have := HNg6.out; have := HNo20.out; have := HNg7.out; omega) _) (by have := HNg1.out; have := HNo6.out; have := HNo11.out; have := HNg4.out; have := HNo15.out; have := HNg6.out; have := HNo20.out; have := HNg7.out; omega) _)).2.2); (case side2 => exact ObR.room HOo20.out); (case side3 => exact (ObR.reads (ObR.far (g := g7) (i := 2) (ObR.far (g := g7) (i := 1) (ObR.far (g := g7) (i := 0) HOo11.out (by have := HNg1.out; have := HNo6.out; have := HNo11.out; have := HNg4.out; have := HNo15.out; have := HNg6.out; have := HNo20.out; have := HNg7.out; omega) _) (by have := HNg1.out; have := HNo6.out; have := HNo11.out; have := HNg4.out; have := HNo15.out; have := HNg6.out; have := HNo20.out; have := HNg7.out; omega) _) (by have := HNg1.out; have := HNo6.out; have := HNo11.out; have := HNg4.out; have := HNo15.out; have := HNg6.out; have := HNo20.out; have := HNg7.out; omega) _)).2.2); (case side4 => exact ObR.room HOo11.out); rintro e w10 ⟨rfl, hb⟩; refine ⟨_, rfl, ?_⟩; (try clear hczg1 hfzg1 hczg4 hfzg4 hczg4_1 hfzg4_1 hczg4_2 hfzg4_2 hczg6 hfzg6 hczg7 hfzg7 hczg7_1 hfzg7_1 hczg7_2 hfzg7_2); have nOo6 := zA.mk (ObS.below (ObS.far (g := g7) (i := 2) (ObS.far (g := g7) (i := 1) (ObS.far (g := g7) (i := 0) HOo6.out (by have := HNg1.out; have := HNo6.out; have := HNo11.out; have := HNg4.out; have := HNo15.out; have := HNg6.out; have := HNo20.out; have := HNg7.out; omega) _) (by have := HNg1.out; have := HNo6.out; have := HNo11.out; have := HNg4.out; have := HNo15.out; have := HNg6.out; have := HNo20.out; have := HNg7.out; omega) _) (by have := HNg1.out; have := HNo6.out; have := HNo11.out; have := HNg4.out; have := HNo15.out; have := HNg6.out; have := HNo20.out; have := HNg7.out; omega) _) hb); have nOo11 := zA.mk (ObR.below (ObR.far (g := g7) (i := 2) (ObR.far (g := g7) (i := 1) (ObR.far (g := g7) (i := 0) HOo11.out (by have := HNg1.out; have := HNo6.out; have := HNo11.out; have := HNg4.out; have := HNo15.out; have := HNg6.out; have := HNo20.out; have := HNg7.out; omega) _) (by have := HNg1.out; have := HNo6.out; have := HNo11.out; have := HNg4.out; have := HNo15.out; have := HNg6.out; have := HNo20.out; have := HNg7.out; omega) _) (by have := HNg1.out; have := HNo6.out; have := HNo11.out; have := HNg4.out; have := HNo15.out; have := HNg6.out; have := HNo20.out; have := HNg7.out; omega) _) hb); have nOo15 := zA.mk (ObS.below (ObS.far (g := g7) (i := 2) (ObS.far (g := g7) (i := 1) (ObS.far (g := g7) (i := 0) HOo15.out (by have := HNg1.out; have := HNo6.out; have := HNo11.out; have := HNg4.out; have := HNo15.out; have := HNg6.out; have := HNo20.out; have := HNg7.out; omega) _) (by have := HNg1.out; have := HNo6.out; have := HNo11.out; have := HNg4.out; have := HNo15.out; have := HNg6.out; have := HNo20.out; have := HNg7.out; omega) _) (by have := HNg1.out; have := HNo6.out; have := HNo11.out; have := HNg4.out; have := HNo15.out; have := HNg6.out; have := HNo20.out; have := HNg7.out; omega) _) hb); have nOo20 := zA.mk (ObR.below (ObR.far (g := g7) (i := 2) (ObR.far (g := g7) (i := 1) (ObR.far (g := g7) (i := 0) HOo20.out (by have := HNg1.out; have := HNo6.out; have := HNo11.out; have := HNg4.out; have := HNo15.out; have := HNg6.out; have := HNo20.out; have := HNg7.out; omega) _) (by have := HNg1.out; have := HNo6.out; have := HNo11.out; have := HNg4.out; have := HNo15.out; have := HNg6.out; have := HNo20.out; have := HNg7.out; omega) _) (by have := HNg1.out; have := HNo6.out; have := HNo11.out; have := HNg4.out; have := HNo15.out; have := HNg6.out; have := HNo20.out; have := HNg7.out; omega) _) hb); have nBg1 := zA.mk (zO (g := g1) (o := .cells #[.slice A0 l0.length c0] 24 (0, 0)) (zn (p := ⟨g7, 2, none⟩) (zn (p := ⟨g7, 1, none⟩) (zn (p := ⟨g7, 0, none⟩) BKg1.out (show g1 ≠ g7 from (by have := HNg1.out; have := HNo6.out; have := HNo11.out; have := HNg4.out; have := HNo15.out; have := HNg6.out; have := HNo20.out; have := HNg7.out; omega)) _) (show g1 ≠ g7 from (by have := HNg1.out; have := HNo6.out; have := HNo11.out; have := HNg4.out; have := HNo15.out; have := HNg6.out; have := HNo20.out; have := HNg7.out; omega)) _) (show g1 ≠ g7 from (by have := HNg1.out; have := HNo6.out; have := HNo11.out; have := HNg4.out; have := HNo15.out; have := HNg6.out; have := HNo20.out; have := HNg7.out; omega)) _) hb); have nBg4 := zA.mk (zO (g := g4) (o := .cells #[.int .i64 t8, .int .i64 t9, .slice Ao11 t10.length co11] 37 (0, 0)) (zn (p := ⟨g7, 2, none⟩) (zn (p := ⟨g7, 1, none⟩) (zn (p := ⟨g7, 0, none⟩) BKg4.out (show g4 ≠ g7 from (by have := HNg1.out; have := HNo6.out; have := HNo11.out; have := HNg4.out; have := HNo15.out; have := HNg6.out; have := HNo20.out; have := HNg7.out; omega)) _) (show g4 ≠ g7 from (by have := HNg1.out; have := HNo6.out; have := HNo11.out; have := HNg4.out; have := HNo15.out; have := HNg6.out; have := HNo20.out; have := HNg7.out; omega)) _) (show g4 ≠ g7 from (by have := HNg1.out; have := HNo6.out; have := HNo11.out; have := HNg4.out; have := HNo15.out; have := HNg6.out; have := HNo20.out; have := HNg7.out; omega)) _) hb); have nBg6 := zA.mk (zO (g := g6) (o := .cells #[.slice Ao15 t14.length co15] 30 (0, 0)) (zn (p := ⟨g7, 2, none⟩) (zn (p := ⟨g7, 1, none⟩) (zn (p := ⟨g7, 0, none⟩) BKg6.out (show g6 ≠ g7 from (by have := HNg1.out; have := HNo6.out; have := HNo11.out; have := HNg4.out; have := HNo15.out; have := HNg6.out; have := HNo20.out; have := HNg7.out; omega)) _) (show g6 ≠ g7 from (by have := HNg1.out; have := HNo6.out; have := HNo11.out; have := HNg4.out; have := HNo15.out; have := HNg6.out; have := HNo20.out; have := HNg7.out; omega)) _) (show g6 ≠ g7 from (by have := HNg1.out; have := HNo6.out; have := HNo11.out; have := HNg4.out; have := HNo15.out; have := HNg6.out; have := HNo20.out; have := HNg7.out; omega)) _) hb); have nBg7 := zA.mk (zO (g := g7) (o := .cells #[.int .i64 t17, .int .i64 t18, .slice Ao20 t19.length co20] 37 (0, 0)) (zu (cs := #[.int .i64 t17, .int .i64 t18, .slice none 0 0]) (zu (cs := #[.int .i64 t17, .int .i64 0, .slice none 0 0]) (zu (cs := #[.int .i64 0, .int .i64 0, .slice none 0 0]) BKg7.out 0 _ rfl) 1 _ rfl) 2 _ rfl) hb); have nHB := zA.mk (zN (zF (zF (zF HB.out (show w.heap.size ≤ g7 from (by have := HNg1.out; have := HNo6.out; have := HNo11.out; have := HNg4.out; have := HNo15.out; have := HNg6.out; have := HNo20.out; have := HNg7.out; omega))) (show w.heap.size ≤ g7 from (by have := HNg1.out; have := HNo6.out; have := HNo11.out; have := HNg4.out; have := HNo15.out; have := HNg6.out; have := HNo20.out; have := HNg7.out; omega))) (show w.heap.size ≤ g7 from (by have := HNg1.out; have := HNo6.out; have := HNo11.out; have := HNg4.out; have := HNo15.out; have := HNg6.out; have := HNo20.out; have := HNg7.out; omega))) hb); have nHT := zA.mk (qj (Zu (Zu (Zu HT.out))) hb); clear HB HT HOo6 HOo11 HOo15 HOo20 BKg1 BKg4 BKg6 BKg7; have HOo6 := nOo6; have HOo11 := nOo11; have HOo15 := nOo15; have HOo20 := nOo20; have BKg1 := nBg1; have BKg4 := nBg4; have BKg6 := nBg6; have BKg7 := nBg7; have HB := nHB; have HT := nHT; clear nHB nHT nOo6 nOo11 nOo15 nOo20 nBg1 nBg4 nBg6 nBg7; (try clear hb); (try clear hnd); have hczg1 : w10.cell? ⟨g1, 0, none⟩ = some (.slice A0 l0.length c0) := (zK BKg1.out 0).trans rfl; have hfzg1 := zG BKg1.out 0; have hczg4 : w10.cell? ⟨g4, 0, none⟩ = some (.int .i64 t8) := (zK BKg4.out 0).trans rfl; have hfzg4 := zG BKg4.out 0; have hczg4_1 : w10.cell? ⟨g4, 1, none⟩ = some (.int .i64 t9) := (zK BKg4.out 1).trans rfl; have hfzg4_1 := zG BKg4.out 1; have hczg4_2 : w10.cell? ⟨g4, 2, none⟩ = some (.slice Ao11 t10.length co11) := (zK BKg4.out 2).trans rfl; have hfzg4_2 := zG BKg4.out 2; have hczg6 : w10.cell? ⟨g6, 0, none⟩ = some (.slice Ao15 t14.length co15) := (zK BKg6.out 0).trans rfl; have hfzg6 := zG BKg6.out 0; have hczg7 : w10.cell? ⟨g7, 0, none⟩ = some (.int .i64 t17) := (zK BKg7.out 0).trans rfl; have hfzg7 := zG BKg7.out 0; have hczg7_1 : w10.cell? ⟨g7, 1, none⟩ = some (.int .i64 t18) := (zK BKg7.out 1).trans rfl; have hfzg7_1 := zG BKg7.out 1; have hczg7_2 : w10.cell? ⟨g7, 2, none⟩ = some (.slice Ao20 t19.length co20) := (zK BKg7.out 2).trans rfl; have hfzg7_2 := zG BKg7.out 2))
 (try clear hczg1 hfzg1 hczg4 hfzg4 hczg4_1 hfzg4_1 hczg4_2 hfzg4_2 hczg6 hfzg6 hczg7 hfzg7 hczg7_1 hfzg7_1 hczg7_2 hfzg7_2)
 have nOo6 := zA.mk (ObS.drew HOo6.out)
 have nOo11 := zA.mk (ObR.drew HOo11.out)
 have nOo15 := zA.mk (ObS.drew HOo15.out)
 have nOo20 := zA.mk (ObR.drew HOo20.out)
 have nBg1 := zA.mk (zL BKg1.out)
 have nBg4 := zA.mk (zL BKg4.out)
 have nBg6 := zA.mk (zL BKg6.out)
 have nBg7 := zA.mk (zL BKg7.out)
 have nHB := zA.mk (zD HB.out)
 have nHT := zA.mk (zDw HT.out)
 clear HB HT HOo6 HOo11 HOo15 HOo20 BKg1 BKg4 BKg6 BKg7
 have HOo6 := nOo6
 have HOo11 := nOo11
 have HOo15 := nOo15
 have HOo20 := nOo20
 have BKg1 := nBg1
 have BKg4 := nBg4
 have BKg6 := nBg6
 have BKg7 := nBg7
 have HB := nHB
 have HT := nHT
 clear nHB nHT nOo6 nOo11 nOo15 nOo20 nBg1 nBg4 nBg6 nBg7
 refine Zf (n := 5) (S := fun w' => w'.cell? ⟨g6, 0, none⟩ = some (.slice Ao15 t14.length co15) ∧ w'.cell? ⟨g1, 0, none⟩ = some (.slice A0 l0.length c0)) (ds := []) #[false, false, false, false, false] (by kernel_rfl) rfl rfl ⟨(zK BKg6.out 0).trans rfl, (zK BKg1.out 0).trans rfl⟩ (fun hHeld => ?_)
 generalize hdr_ : World.drew _ = w11 at HOo6 HOo11 HOo15 HOo20 BKg1 BKg4 BKg6 BKg7 HB HT hHeld ⊢
 (try clear hdr_)
 refine qf (i := 0) (N := some 41) (v := ?_) (a' := ?_) #[true, false, false, false, false] rfl rfl (by kernel_rfl) (fun _ _ _ h => h) (Or.inl ⟨by rfl, ?_⟩) hHeld ?_ ?_
 rotate_left
 next =>
  rintro w' ⟨s0, s1⟩
  go_simp
  with_reducible rfl
 rotate_left
 next =>
  simp only [Act.put, yay, yby, ycy, zV, zW]
  rfl
 refine qf (i := 1) (N := some 42) (v := ?_) (a' := ?_) #[true, true, false, false, false] rfl rfl (by kernel_rfl) (fun _ _ _ h => h) (Or.inl ⟨by rfl, ?_⟩) hHeld ?_ ?_
 rotate_left
 next =>
  rintro w' ⟨s0, s1⟩
  go_simp
  with_reducible rfl
 rotate_left
 next =>
  simp only [Act.put, yay, yby, ycy, zV, zW]
  rfl
 refine zA2 (i := 2) (N := some 43) #[true, true, true, false, false] rfl rfl (by kernel_rfl) (by decide) (fun K hK => ?_)
 refine Qr Try.func17 (by kernel_rfl) rfl #[.agg #[.slice A0 l0.length c0]] (by rfl) rfl rfl (by (try simp only [yiy, yjy, yky]); first | done | rfl | (simp only [yly, ymy]; rfl)) ?_
 with_reducible refine (qT.calls k _ _ l0 t26 _ ?side1 ?side2 H25.out).mono ?_
 (case side1 => exact Kd.qD HR0.out HB.out)
 (case side2 => exact HC0.out)
 rintro e w12 ⟨vo27, rfl, ho0, hb⟩
 refine ⟨_, rfl, ?_⟩
 (try clear hczg1 hfzg1 hczg4 hfzg4 hczg4_1 hfzg4_1 hczg4_2 hfzg4_2 hczg6 hfzg6 hczg7 hfzg7 hczg7_1 hfzg7_1 hczg7_2 hfzg7_2)
 obtain ⟨loo27, hio27, hno27⟩ := ObS.made ho0 hb HT.out (zP HB.out)
 have nOo6 := zA.mk (ObS.below HOo6.out hb)
 have nOo11 := zA.mk (ObR.below HOo11.out hb)
 have nOo15 := zA.mk (ObS.below HOo15.out hb)
 have nOo20 := zA.mk (ObR.below HOo20.out hb)
 have nBg1 := zA.mk (zO (g := g1) (o := .cells #[.slice A0 l0.length c0] 24 (0, 0)) BKg1.out hb)
 have nBg4 := zA.mk (zO (g := g4) (o := .cells #[.int .i64 t8, .int .i64 t9, .slice Ao11 t10.length co11] 37 (0, 0)) BKg4.out hb)
 have nBg6 := zA.mk (zO (g := g6) (o := .cells #[.slice Ao15 t14.length co15] 30 (0, 0)) BKg6.out hb)
 have nBg7 := zA.mk (zO (g := g7) (o := .cells #[.int .i64 t17, .int .i64 t18, .slice Ao20 t19.length co20] 37 (0, 0)) BKg7.out hb)
 have nHB := zA.mk (zN HB.out hb)
 have nHT := zA.mk (qj HT.out hb)
 clear HB HT HOo6 HOo11 HOo15 HOo20 BKg1 BKg4 BKg6 BKg7
 have HOo6 := nOo6
 have HOo11 := nOo11
 have HOo15 := nOo15
 have HOo20 := nOo20
 have BKg1 := nBg1
 have BKg4 := nBg4
 have BKg6 := nBg6
 have BKg7 := nBg7
 have HB := nHB
 have HT := nHT
 clear nHB nHT nOo6 nOo11 nOo15 nOo20 nBg1 nBg4 nBg6 nBg7
 have HNo27 := zA.mk hno27.1
 clear HT
 have HT := zA.mk hno27.2.1
 have HOo27 := zA.mk hno27.2.2
 clear hno27 ho0
 obtain ⟨Ao27, co27, eeo27⟩ := HOo27.out.slice
 subst eeo27
 (try clear hb)
 (try clear hnd)
 refine hK.out _ _ ⟨(zK BKg6.out 0).trans rfl, (zK BKg1.out 0).trans rfl⟩ (fun hHeld => ?_)
 clear hK K
 refine QH (a' := ?_) ?_ ?_
 rotate_left
 next =>
  show Act.put _ (some 43) _ = _
  simp only [Act.put, yay, yby, ycy, zV, zW]
  rfl
 refine zA2 (i := 3) (N := some 44) #[true, true, true, true, false] rfl rfl (by kernel_rfl) (by decide) (fun K hK => ?_)
 refine Qr Try.func20 (by kernel_rfl) rfl #[.agg #[.slice Ao15 t14.length co15], .agg #[.slice Ao27 t26.length co27]] (by rfl) rfl rfl (by (try simp only [yiy, yjy, yky]); first | done | rfl | (simp only [yly, ymy]; rfl)) ?_
 with_reducible refine (ZG.calls k _ _ t14 _ _ t26 true _ ?side1 ?side2 ?side3 ?side4 H28.out).mono ?_
 (case side1 => exact (ObS.reads HOo15.out).2.2)
 (case side2 => exact ObS.room HOo15.out)
 (case side3 => exact (ObS.reads HOo27.out).2.2)
 (case side4 => exact ObS.room HOo27.out)
 rintro e w13 ⟨rfl, hb⟩
 refine ⟨_, rfl, ?_⟩
 (try clear hczg1 hfzg1 hczg4 hfzg4 hczg4_1 hfzg4_1 hczg4_2 hfzg4_2 hczg6 hfzg6 hczg7 hfzg7 hczg7_1 hfzg7_1 hczg7_2 hfzg7_2)
 have nOo6 := zA.mk (ObS.below HOo6.out hb)
 have nOo11 := zA.mk (ObR.below HOo11.out hb)
 have nOo15 := zA.mk (ObS.below HOo15.out hb)
 have nOo20 := zA.mk (ObR.below HOo20.out hb)
 have nOo27 := zA.mk (ObS.below HOo27.out hb)
 have nBg1 := zA.mk (zO (g := g1) (o := .cells #[.slice A0 l0.length c0] 24 (0, 0)) BKg1.out hb)
 have nBg4 := zA.mk (zO (g := g4) (o := .cells #[.int .i64 t8, .int .i64 t9, .slice Ao11 t10.length co11] 37 (0, 0)) BKg4.out hb)
 have nBg6 := zA.mk (zO (g := g6) (o := .cells #[.slice Ao15 t14.length co15] 30 (0, 0)) BKg6.out hb)
 have nBg7 := zA.mk (zO (g := g7) (o := .cells #[.int .i64 t17, .int .i64 t18, .slice Ao20 t19.length co20] 37 (0, 0)) BKg7.out hb)
 have nHB := zA.mk (zN HB.out hb)
 have nHT := zA.mk (qj HT.out hb)
 clear HB HT HOo6 HOo11 HOo15 HOo20 HOo27 BKg1 BKg4 BKg6 BKg7
 have HOo6 := nOo6
 have HOo11 := nOo11
 have HOo15 := nOo15
 have HOo20 := nOo20
 have HOo27 := nOo27
 have BKg1 := nBg1
 have BKg4 := nBg4
 have BKg6 := nBg6
 have BKg7 := nBg7
 have HB := nHB
 have HT := nHT
 clear nHB nHT nOo6 nOo11 nOo15 nOo20 nOo27 nBg1 nBg4 nBg6 nBg7
 (try clear hb)
 (try clear hnd)
 refine hK.out _ _ ⟨(zK BKg6.out 0).trans rfl, (zK BKg1.out 0).trans rfl⟩ (fun hHeld => ?_)
 clear hK K
 refine QH (a' := ?_) ?_ ?_
 rotate_left
 next =>
  show Act.put _ (some 44) _ = _
  simp only [Act.put, yay, yby, ycy, zV, zW]
  rfl
 refine za (i := 4) (N := some 45) (v := ?_) (a' := ?_) #[true, true, true, true, true] rfl rfl (by kernel_rfl) (fun _ _ _ h => h) (Or.inl ⟨by rfl, ?_⟩) ?_ ?_
 rotate_left
 next =>
  intro w'
  go_simp
  with_reducible rfl
 rotate_left
 next =>
  simp only [Act.put, yay, yby, ycy, zV, zW]
  rfl
 refine QQ (by kernel_rfl) ?_
 have hczg1 : w13.cell? ⟨g1, 0, none⟩ = some (.slice A0 l0.length c0) := (zK BKg1.out 0).trans rfl
 have hfzg1 := zG BKg1.out 0
 have hczg4 : w13.cell? ⟨g4, 0, none⟩ = some (.int .i64 t8) := (zK BKg4.out 0).trans rfl
 have hfzg4 := zG BKg4.out 0
 have hczg4_1 : w13.cell? ⟨g4, 1, none⟩ = some (.int .i64 t9) := (zK BKg4.out 1).trans rfl
 have hfzg4_1 := zG BKg4.out 1
 have hczg4_2 : w13.cell? ⟨g4, 2, none⟩ = some (.slice Ao11 t10.length co11) := (zK BKg4.out 2).trans rfl
 have hfzg4_2 := zG BKg4.out 2
 have hczg6 : w13.cell? ⟨g6, 0, none⟩ = some (.slice Ao15 t14.length co15) := (zK BKg6.out 0).trans rfl
 have hfzg6 := zG BKg6.out 0
 have hczg7 : w13.cell? ⟨g7, 0, none⟩ = some (.int .i64 t17) := (zK BKg7.out 0).trans rfl
 have hfzg7 := zG BKg7.out 0
 have hczg7_1 : w13.cell? ⟨g7, 1, none⟩ = some (.int .i64 t18) := (zK BKg7.out 1).trans rfl
 have hfzg7_1 := zG BKg7.out 1
 have hczg7_2 : w13.cell? ⟨g7, 2, none⟩ = some (.slice Ao20 t19.length co20) := (zK BKg7.out 2).trans rfl
 have hfzg7_2 := zG BKg7.out 2
 try go_wp2_with (first | ((with_reducible refine zX (f := 25) rfl ?_); refine qI (some 48) rfl rfl Try.func25 (by kernel_rfl) rfl #[.agg #[.slice Ao15 t14.length co15], .int .i64 1] rfl (by (try simp only [yiy, yjy, yky]); first | done | rfl | (simp only [yly, ymy]; rfl)) ?_; (with_reducible refine (ZA.calls k (fun k_ => loo15 ≤ k_ ∧ k_ < hio15) (.slice Ao15 t14.length co15) t14 1 m31 y32 w _ HB.out (ObS.row HOo15.out) H30.out).mono ?_); rintro e w14 ⟨rfl, hy, hb, hk0⟩; refine ⟨_, rfl, ?_⟩; have hk := hk0; have nM := zA.mk (ObS.marked HOo15.out hy hk.1); (try clear hczg1 hfzg1 hczg4 hfzg4 hczg4_1 hfzg4_1 hczg4_2 hfzg4_2 hczg6 hfzg6 hczg7 hfzg7 hczg7_1 hfzg7_1 hczg7_2 hfzg7_2); have nOo6 := zA.mk (ObS.kept HOo6.out hk (by have := HNg1.out; have := HNo6.out; have := HNo11.out; have := HNg4.out; have := HNo15.out; have := HNg6.out; have := HNo20.out; have := HNg7.out; have := HNo27.out; omega)); have nOo11 := zA.mk (ObR.kept HOo11.out hk (by have := HNg1.out; have := HNo6.out; have := HNo11.out; have := HNg4.out; have := HNo15.out; have := HNg6.out; have := HNo20.out; have := HNg7.out; have := HNo27.out; omega)); have nOo20 := zA.mk (ObR.kept HOo20.out hk (by have := HNg1.out; have := HNo6.out; have := HNo11.out; have := HNg4.out; have := HNo15.out; have := HNg6.out; have := HNo20.out; have := HNg7.out; have := HNo27.out; omega)); have nOo27 := zA.mk (ObS.kept HOo27.out hk (by have := HNg1.out; have := HNo6.out; have := HNo11.out; have := HNg4.out; have := HNo15.out; have := HNg6.out; have := HNo20.out; have := HNg7.out; have := HNo27.out; omega)); have nBg1 := zA.mk (QN (g := g1) (o := .cells #[.slice A0 l0.length c0] 24 (0, 0)) BKg1.out hk (fun h_ => by have h1_ := h_.1; have h2_ := h_.2; have := HNg1.out; have := HNo6.out; have := HNo11.out; have := HNg4.out; have := HNo15.out; have := HNg6.out; have := HNo20.out; have := HNg7.out; have := HNo27.out; omega)); have nBg4 := zA.mk (QN (g := g4) (o := .cells #[.int .i64 t8, .int .i64 t9, .slice Ao11 t10.length co11] 37 (0, 0)) BKg4.out hk (fun h_ => by have h1_ := h_.1; have h2_ := h_.2; have := HNg1.out; have := HNo6.out; have := HNo11.out; have := HNg4.out; have := HNo15.out; have := HNg6.out; have := HNo20.out; have := HNg7.out; have := HNo27.out; omega)); have nBg6 := zA.mk (QN (g := g6) (o := .cells #[.slice Ao15 t14.length co15] 30 (0, 0)) BKg6.out hk (fun h_ => by have h1_ := h_.1; have h2_ := h_.2; have := HNg1.out; have := HNo6.out; have := HNo11.out; have := HNg4.out; have := HNo15.out; have := HNg6.out; have := HNo20.out; have := HNg7.out; have := HNo27.out; omega)); have nBg7 := zA.mk (QN (g := g7) (o := .cells #[.int .i64 t17, .int .i64 t18, .slice Ao20 t19.length co20] 37 (0, 0)) BKg7.out hk (fun h_ => by have h1_ := h_.1; have h2_ := h_.2; have := HNg1.out; have := HNo6.out; have := HNo11.out; have := HNg4.out; have := HNo15.out; have := HNg6.out; have := HNo20.out; have := HNg7.out; have := HNo27.out; omega)); have nHT := zA.mk (Nat.le_trans HT.out hk.1); clear HB HT HOo6 HOo11 HOo15 HOo20 HOo27 BKg1 BKg4 BKg6 BKg7; have HOo6 := nOo6; have HOo11 := nOo11; have HOo15 := nM; have HOo20 := nOo20; have HOo27 := nOo27; have BKg1 := nBg1; have BKg4 := nBg4; have BKg6 := nBg6; have BKg7 := nBg7; have HB := zA.mk hb; have HT := nHT; (try clear hy); clear hb hk0 hk nM nHT nOo6 nOo11 nOo20 nOo27 nBg1 nBg4 nBg6 nBg7; have hczg1 : w14.cell? ⟨g1, 0, none⟩ = some (.slice A0 l0.length c0) := (zK BKg1.out 0).trans rfl; have hfzg1 := zG BKg1.out 0; have hczg4 : w14.cell? ⟨g4, 0, none⟩ = some (.int .i64 t8) := (zK BKg4.out 0).trans rfl; have hfzg4 := zG BKg4.out 0; have hczg4_1 : w14.cell? ⟨g4, 1, none⟩ = some (.int .i64 t9) := (zK BKg4.out 1).trans rfl; have hfzg4_1 := zG BKg4.out 1; have hczg4_2 : w14.cell? ⟨g4, 2, none⟩ = some (.slice Ao11 t10.length co11) := (zK BKg4.out 2).trans rfl; have hfzg4_2 := zG BKg4.out 2; have hczg6 : w14.cell? ⟨g6, 0, none⟩ = some (.slice Ao15 t14.length co15) := (zK BKg6.out 0).trans rfl; have hfzg6 := zG BKg6.out 0; have hczg7 : w14.cell? ⟨g7, 0, none⟩ = some (.int .i64 t17) := (zK BKg7.out 0).trans rfl; have hfzg7 := zG BKg7.out 0; have hczg7_1 : w14.cell? ⟨g7, 1, none⟩ = some (.int .i64 t18) := (zK BKg7.out 1).trans rfl; have hfzg7_1 := zG BKg7.out 1; have hczg7_2 : w14.cell? ⟨g7, 2, none⟩ = some (.slice Ao20 t19.length co20) := (zK BKg7.out 2).trans rfl; have hfzg7_2 := zG BKg7.out 2))
 try go_wp2_with (first | (go_at_call 24; (with_reducible refine (ZH.calls k t17 t18 _ _ t19 t8 t9 _ _ t10 true _ ?side1 ?side2 ?side3 ?side4 H34.out).mono ?_); (case side1 => exact (ObR.reads HOo20.out).2.2); (case side2 => exact ObR.room HOo20.out); (case side3 => exact (ObR.reads HOo11.out).2.2); (case side4 => exact ObR.room HOo11.out); rintro e w15 ⟨rfl, hb⟩; (try clear hczg1 hfzg1 hczg4 hfzg4 hczg4_1 hfzg4_1 hczg4_2 hfzg4_2 hczg6 hfzg6 hczg7 hfzg7 hczg7_1 hfzg7_1 hczg7_2 hfzg7_2); have nOo6 := zA.mk (ObS.below HOo6.out hb); have nOo11 := zA.mk (ObR.below HOo11.out hb); have nOo15 := zA.mk (ObS.below HOo15.out hb); have nOo20 := zA.mk (ObR.below HOo20.out hb); have nOo27 := zA.mk (ObS.below HOo27.out hb); have nBg1 := zA.mk (zO (g := g1) (o := .cells #[.slice A0 l0.length c0] 24 (0, 0)) BKg1.out hb); have nBg4 := zA.mk (zO (g := g4) (o := .cells #[.int .i64 t8, .int .i64 t9, .slice Ao11 t10.length co11] 37 (0, 0)) BKg4.out hb); have nBg6 := zA.mk (zO (g := g6) (o := .cells #[.slice Ao15 t14.length co15] 30 (0, 0)) BKg6.out hb); have nBg7 := zA.mk (zO (g := g7) (o := .cells #[.int .i64 t17, .int .i64 t18, .slice Ao20 t19.length co20] 37 (0, 0)) BKg7.out hb); have nHB := zA.mk (zN HB.out hb); have nHT := zA.mk (qj HT.out hb); clear HB HT HOo6 HOo11 HOo15 HOo20 HOo27 BKg1 BKg4 BKg6 BKg7; have HOo6 := nOo6; have HOo11 := nOo11; have HOo15 := nOo15; have HOo20 := nOo20; have HOo27 := nOo27; have BKg1 := nBg1; have BKg4 := nBg4; have BKg6 := nBg6; have BKg7 := nBg7; have HB := nHB; have HT := nHT; clear nHB nHT nOo6 nOo11 nOo15 nOo20 nOo27 nBg1 nBg4 nBg6 nBg7; (try clear hb); (try clear hnd); have hczg1 : w15.cell? ⟨g1, 0, none⟩ = some (.slice A0 l0.length c0) := (zK BKg1.out 0).trans rfl; have hfzg1 := zG BKg1.out 0; have hczg4 : w15.cell? ⟨g4, 0, none⟩ = some (.int .i64 t8) := (zK BKg4.out 0).trans rfl; have hfzg4 := zG BKg4.out 0; have hczg4_1 : w15.cell? ⟨g4, 1, none⟩ = some (.int .i64 t9) := (zK BKg4.out 1).trans rfl; have hfzg4_1 := zG BKg4.out 1; have hczg4_2 : w15.cell? ⟨g4, 2, none⟩ = some (.slice Ao11 t10.length co11) := (zK BKg4.out 2).trans rfl; have hfzg4_2 := zG BKg4.out 2; have hczg6 : w15.cell? ⟨g6, 0, none⟩ = some (.slice Ao15 t14.length co15) := (zK BKg6.out 0).trans rfl; have hfzg6 := zG BKg6.out 0; have hczg7 : w15.cell? ⟨g7, 0, none⟩ = some (.int .i64 t17) := (zK BKg7.out 0).trans rfl; have hfzg7 := zG BKg7.out 0; have hczg7_1 : w15.cell? ⟨g7, 1, none⟩ = some (.int .i64 t18) := (zK BKg7.out 1).trans rfl; have hfzg7_1 := zG BKg7.out 1; have hczg7_2 : w15.cell? ⟨g7, 2, none⟩ = some (.slice Ao20 t19.length co20) := (zK BKg7.out 2).trans rfl; have hfzg7_2 := zG BKg7.out 2) | ((with_reducible refine zX (f := 26) rfl ?_); refine qI (some 64) rfl rfl Try.func26 (by kernel_rfl) rfl #[.agg #[.int .i64 t17, .int .i64 t18, .slice Ao20 t19.length co20], .int .i64 1] rfl (by (try simp only [yiy, yjy, yky]); first | done | rfl | (simp only [yly, ymy]; rfl)) ?_; (with_reducible refine (Zi.calls k t17 t18 (fun k_ => some k_ = (.slice Ao20 t19.length co20 : Value).ownBlock) (.slice Ao20 t19.length co20) t19 1 m38 y39 w _ HB.out (Kd.QV rfl (ObR.row HOo20.out)) H37.out).mono ?_); rintro e w16 ⟨rfl, hy, hb, hk0⟩; refine ⟨_, rfl, ?_⟩; have hk := ObR.range HOo20.out hk0; have nM := zA.mk (ObR.marked HOo20.out rfl hy hk.1); (try clear hczg1 hfzg1 hczg4 hfzg4 hczg4_1 hfzg4_1 hczg4_2 hfzg4_2 hczg6 hfzg6 hczg7 hfzg7 hczg7_1 hfzg7_1 hczg7_2 hfzg7_2); have nOo6 := zA.mk (ObS.kept HOo6.out hk (by have := HNg1.out; have := HNo6.out; have := HNo11.out; have := HNg4.out; have := HNo15.out; have := HNg6.out; have := HNo20.out; have := HNg7.out; have := HNo27.out; omega)); have nOo11 := zA.mk (ObR.kept HOo11.out hk (by have := HNg1.out; have := HNo6.out; have := HNo11.out; have := HNg4.out; have := HNo15.out; have := HNg6.out; have := HNo20.out; have := HNg7.out; have := HNo27.out; omega)); have nOo15 := zA.mk (ObS.kept HOo15.out hk (by have := HNg1.out; have := HNo6.out; have := HNo11.out; have := HNg4.out; have := HNo15.out; have := HNg6.out; have := HNo20.out; have := HNg7.out; have := HNo27.out; omega)); have nOo27 := zA.mk (ObS.kept HOo27.out hk (by have := HNg1.out; have := HNo6.out; have := HNo11.out; have := HNg4.out; have := HNo15.out; have := HNg6.out; have := HNo20.out; have := HNg7.out; have := HNo27.out; omega)); have nBg1 := zA.mk (QN (g := g1) (o := .cells #[.slice A0 l0.length c0] 24 (0, 0)) BKg1.out hk (fun h_ => by have h1_ := h_.1; have h2_ := h_.2; have := HNg1.out; have := HNo6.out; have := HNo11.out; have := HNg4.out; have := HNo15.out; have := HNg6.out; have := HNo20.out; have := HNg7.out; have := HNo27.out; omega)); have nBg4 := zA.mk (QN (g := g4) (o := .cells #[.int .i64 t8, .int .i64 t9, .slice Ao11 t10.length co11] 37 (0, 0)) BKg4.out hk (fun h_ => by have h1_ := h_.1; have h2_ := h_.2; have := HNg1.out; have := HNo6.out; have := HNo11.out; have := HNg4.out; have := HNo15.out; have := HNg6.out; have := HNo20.out; have := HNg7.out; have := HNo27.out; omega)); have nBg6 := zA.mk (QN (g := g6) (o := .cells #[.slice Ao15 t14.length co15] 30 (0, 0)) BKg6.out hk (fun h_ => by have h1_ := h_.1; have h2_ := h_.2; have := HNg1.out; have := HNo6.out; have := HNo11.out; have := HNg4.out; have := HNo15.out; have := HNg6.out; have := HNo20.out; have := HNg7.out; have := HNo27.out; omega)); have nBg7 := zA.mk (QN (g := g7) (o := .cells #[.int .i64 t17, .int .i64 t18, .slice Ao20 t19.length co20] 37 (0, 0)) BKg7.out hk (fun h_ => by have h1_ := h_.1; have h2_ := h_.2; have := HNg1.out; have := HNo6.out; have := HNo11.out; have := HNg4.out; have := HNo15.out; have := HNg6.out; have := HNo20.out; have := HNg7.out; have := HNo27.out; omega)); have nHT := zA.mk (Nat.le_trans HT.out hk.1); clear HB HT HOo6 HOo11 HOo15 HOo20 HOo27 BKg1 BKg4 BKg6 BKg7; have HOo6 := nOo6; have HOo11 := nOo11; have HOo15 := nOo15; have HOo20 := nM; have HOo27 := nOo27; have BKg1 := nBg1; have BKg4 := nBg4; have BKg6 := nBg6; have BKg7 := nBg7; have HB := zA.mk hb; have HT := nHT; (try clear hy); clear hb hk0 hk nM nHT nOo6 nOo11 nOo15 nOo27 nBg1 nBg4 nBg6 nBg7; have hczg1 : w16.cell? ⟨g1, 0, none⟩ = some (.slice A0 l0.length c0) := (zK BKg1.out 0).trans rfl; have hfzg1 := zG BKg1.out 0; have hczg4 : w16.cell? ⟨g4, 0, none⟩ = some (.int .i64 t8) := (zK BKg4.out 0).trans rfl; have hfzg4 := zG BKg4.out 0; have hczg4_1 : w16.cell? ⟨g4, 1, none⟩ = some (.int .i64 t9) := (zK BKg4.out 1).trans rfl; have hfzg4_1 := zG BKg4.out 1; have hczg4_2 : w16.cell? ⟨g4, 2, none⟩ = some (.slice Ao11 t10.length co11) := (zK BKg4.out 2).trans rfl; have hfzg4_2 := zG BKg4.out 2; have hczg6 : w16.cell? ⟨g6, 0, none⟩ = some (.slice Ao15 t14.length co15) := (zK BKg6.out 0).trans rfl; have hfzg6 := zG BKg6.out 0; have hczg7 : w16.cell? ⟨g7, 0, none⟩ = some (.int .i64 t17) := (zK BKg7.out 0).trans rfl; have hfzg7 := zG BKg7.out 0; have hczg7_1 : w16.cell? ⟨g7, 1, none⟩ = some (.int .i64 t18) := (zK BKg7.out 1).trans rfl; have hfzg7_1 := zG BKg7.out 1; have hczg7_2 : w16.cell? ⟨g7, 2, none⟩ = some (.slice Ao20 t19.length co20) := (zK BKg7.out 2).trans rfl; have hfzg7_2 := zG BKg7.out 2) | ((with_reducible refine zX (f := 27) rfl ?_); refine qI (some 67) rfl rfl Try.func27 (by kernel_rfl) rfl #[.agg #[.int .i64 t17, .int .i64 t18, .slice Ao20 y39.length co20], .int .i64 1] rfl (by (try simp only [yiy, yjy, yky]); first | done | (rw [show y39.length = t19.length from (ObR.reads HOo20.out).1.symm] <;> rfl) | rfl | (simp only [yly, ymy]; rfl)) ?_; (with_reducible refine (ZM.calls k t17 t18 _ _ y39 1 t41 _ ?side1 ?side2 H40.out).mono ?_); (case side1 => exact (ObR.reads HOo20.out).2.2); (case side2 => exact ObR.room HOo20.out); rintro e w17 ⟨rfl, hb⟩; refine ⟨_, rfl, ?_⟩; (try clear hczg1 hfzg1 hczg4 hfzg4 hczg4_1 hfzg4_1 hczg4_2 hfzg4_2 hczg6 hfzg6 hczg7 hfzg7 hczg7_1 hfzg7_1 hczg7_2 hfzg7_2); have nOo6 := zA.mk (ObS.below HOo6.out hb); have nOo11 := zA.mk (ObR.below HOo11.out hb); have nOo15 := zA.mk (ObS.below HOo15.out hb); have nOo20 := zA.mk (ObR.below HOo20.out hb); have nOo27 := zA.mk (ObS.below HOo27.out hb); have nBg1 := zA.mk (zO (g := g1) (o := .cells #[.slice A0 l0.length c0] 24 (0, 0)) BKg1.out hb); have nBg4 := zA.mk (zO (g := g4) (o := .cells #[.int .i64 t8, .int .i64 t9, .slice Ao11 t10.length co11] 37 (0, 0)) BKg4.out hb); have nBg6 := zA.mk (zO (g := g6) (o := .cells #[.slice Ao15 t14.length co15] 30 (0, 0)) BKg6.out hb); have nBg7 := zA.mk (zO (g := g7) (o := .cells #[.int .i64 t17, .int .i64 t18, .slice Ao20 t19.length co20] 37 (0, 0)) BKg7.out hb); have nHB := zA.mk (zN HB.out hb); have nHT := zA.mk (qj HT.out hb); clear HB HT HOo6 HOo11 HOo15 HOo20 HOo27 BKg1 BKg4 BKg6 BKg7; have HOo6 := nOo6; have HOo11 := nOo11; have HOo15 := nOo15; have HOo20 := nOo20; have HOo27 := nOo27; have BKg1 := nBg1; have BKg4 := nBg4; have BKg6 := nBg6; have BKg7 := nBg7; have HB := nHB; have HT := nHT; clear nHB nHT nOo6 nOo11 nOo15 nOo20 nOo27 nBg1 nBg4 nBg6 nBg7; (try clear hb); (try clear hnd); have hczg1 : w17.cell? ⟨g1, 0, none⟩ = some (.slice A0 l0.length c0) := (zK BKg1.out 0).trans rfl; have hfzg1 := zG BKg1.out 0; have hczg4 : w17.cell? ⟨g4, 0, none⟩ = some (.int .i64 t8) := (zK BKg4.out 0).trans rfl; have hfzg4 := zG BKg4.out 0; have hczg4_1 : w17.cell? ⟨g4, 1, none⟩ = some (.int .i64 t9) := (zK BKg4.out 1).trans rfl; have hfzg4_1 := zG BKg4.out 1; have hczg4_2 : w17.cell? ⟨g4, 2, none⟩ = some (.slice Ao11 t10.length co11) := (zK BKg4.out 2).trans rfl; have hfzg4_2 := zG BKg4.out 2; have hczg6 : w17.cell? ⟨g6, 0, none⟩ = some (.slice Ao15 t14.length co15) := (zK BKg6.out 0).trans rfl; have hfzg6 := zG BKg6.out 0; have hczg7 : w17.cell? ⟨g7, 0, none⟩ = some (.int .i64 t17) := (zK BKg7.out 0).trans rfl; have hfzg7 := zG BKg7.out 0; have hczg7_1 : w17.cell? ⟨g7, 1, none⟩ = some (.int .i64 t18) := (zK BKg7.out 1).trans rfl; have hfzg7_1 := zG BKg7.out 1; have hczg7_2 : w17.cell? ⟨g7, 2, none⟩ = some (.slice Ao20 t19.length co20) := (zK BKg7.out 2).trans rfl; have hfzg7_2 := zG BKg7.out 2) | ((with_reducible refine zX (f := 17) rfl ?_); refine qI (some 75) rfl rfl Try.func17 (by kernel_rfl) rfl #[.agg #[.slice A0 l0.length c0]] rfl (by (try simp only [yiy, yjy, yky]); first | done | rfl | (simp only [yly, ymy]; rfl)) ?_; (with_reducible refine (qT.calls k _ _ l0 t45 _ ?side1 ?side2 H44.out).mono ?_); (case side1 => exact Kd.qD HR0.out HB.out); (case side2 => exact HC0.out); rintro e w18 ⟨vo46, rfl, ho0, hb⟩; refine ⟨_, rfl, ?_⟩; (try clear hczg1 hfzg1 hczg4 hfzg4 hczg4_1 hfzg4_1 hczg4_2 hfzg4_2 hczg6 hfzg6 hczg7 hfzg7 hczg7_1 hfzg7_1 hczg7_2 hfzg7_2); obtain ⟨loo46, hio46, hno46⟩ := ObS.made ho0 hb HT.out (zP HB.out); have nOo6 := zA.mk (ObS.below HOo6.out hb); have nOo11 := zA.mk (ObR.below HOo11.out hb); have nOo15 := zA.mk (ObS.below HOo15.out hb); have nOo20 := zA.mk (ObR.below HOo20.out hb); have nOo27 := zA.mk (ObS.below HOo27.out hb); have nBg1 := zA.mk (zO (g := g1) (o := .cells #[.slice A0 l0.length c0] 24 (0, 0)) BKg1.out hb); have nBg4 := zA.mk (zO (g := g4) (o := .cells #[.int .i64 t8, .int .i64 t9, .slice Ao11 t10.length co11] 37 (0, 0)) BKg4.out hb); have nBg6 := zA.mk (zO (g := g6) (o := .cells #[.slice Ao15 t14.length co15] 30 (0, 0)) BKg6.out hb); have nBg7 := zA.mk (zO (g := g7) (o := .cells #[.int .i64 t17, .int .i64 t18, .slice Ao20 t19.length co20] 37 (0, 0)) BKg7.out hb); have nHB := zA.mk (zN HB.out hb); have nHT := zA.mk (qj HT.out hb); clear HB HT HOo6 HOo11 HOo15 HOo20 HOo27 BKg1 BKg4 BKg6 BKg7; have HOo6 := nOo6; have HOo11 := nOo11; have HOo15 := nOo15; have HOo20 := nOo20; have HOo27 := nOo27; have BKg1 := nBg1; have BKg4 := nBg4; have BKg6 := nBg6; have BKg7 := nBg7; have HB := nHB; have HT := nHT; clear nHB nHT nOo6 nOo11 nOo15 nOo20 nOo27 nBg1 nBg4 nBg6 nBg7; have HNo46 := zA.mk hno46.1; clear HT; have HT := zA.mk hno46.2.1; have HOo46 := zA.mk hno46.2.2; clear hno46 ho0; obtain ⟨Ao46, co46, eeo46⟩ := HOo46.out.slice; subst eeo46; (try clear hb); (try clear hnd); have hczg1 : w18.cell? ⟨g1, 0, none⟩ = some (.slice A0 l0.length c0) := (zK BKg1.out 0).trans rfl; have hfzg1 := zG BKg1.out 0; have hczg4 : w18.cell? ⟨g4, 0, none⟩ = some (.int .i64 t8) := (zK BKg4.out 0).trans rfl; have hfzg4 := zG BKg4.out 0; have hczg4_1 : w18.cell? ⟨g4, 1, none⟩ = some (.int .i64 t9) := (zK BKg4.out 1).trans rfl; have hfzg4_1 := zG BKg4.out 1; have hczg4_2 : w18.cell? ⟨g4, 2, none⟩ = some (.slice Ao11 t10.length co11) := (zK BKg4.out 2).trans rfl; have hfzg4_2 := zG BKg4.out 2; have hczg6 : w18.cell? ⟨g6, 0, none⟩ = some (.slice Ao15 t14.length co15) := (zK BKg6.out 0).trans rfl; have hfzg6 := zG BKg6.out 0; have hczg7 : w18.cell? ⟨g7, 0, none⟩ = some (.int .i64 t17) := (zK BKg7.out 0).trans rfl; have hfzg7 := zG BKg7.out 0; have hczg7_1 : w18.cell? ⟨g7, 1, none⟩ = some (.int .i64 t18) := (zK BKg7.out 1).trans rfl; have hfzg7_1 := zG BKg7.out 1; have hczg7_2 : w18.cell? ⟨g7, 2, none⟩ = some (.slice Ao20 t19.length co20) := (zK BKg7.out 2).trans rfl; have hfzg7_2 := zG BKg7.out 2) | ((with_reducible refine zX (f := 23) rfl ?_); refine qI (some 76) rfl rfl Try.func23 (by kernel_rfl) rfl #[.agg #[.slice Ao46 t45.length co46]] rfl (by (try simp only [yiy, yjy, yky]); first | done | rfl | (simp only [yly, ymy]; rfl)) ?_; (with_reducible refine (qn.calls k _ _ t45 t48 t49 t50 t52 _ ?side1 ?side2 H47.out).mono ?_); (case side1 => exact (ObS.reads HOo46.out).2.2); (case side2 => exact ObS.room HOo46.out); rintro e w19 ⟨vo51, rfl, ho0, hb⟩; refine ⟨_, rfl, ?_⟩; (try clear hczg1 hfzg1 hczg4 hfzg4 hczg4_1 hfzg4_1 hczg4_2 hfzg4_2 hczg6 hfzg6 hczg7 hfzg7 hczg7_1 hfzg7_1 hczg7_2 hfzg7_2); obtain ⟨loo51, hio51, hno51⟩ := ObR.made ho0 hb HT.out (zP HB.out); have nOo6 := zA.mk (ObS.below HOo6.out hb); have nOo11 := zA.mk (ObR.below HOo11.out hb); have nOo15 := zA.mk (ObS.below HOo15.out hb); have nOo20 := zA.mk (ObR.below HOo20.out hb); have nOo27 := zA.mk (ObS.below HOo27.out hb); have nOo46 := zA.mk (ObS.below HOo46.out hb); have nBg1 := zA.mk (zO (g := g1) (o := .cells #[.slice A0 l0.length c0] 24 (0, 0)) BKg1.out hb); have nBg4 := zA.mk (zO (g := g4) (o := .cells #[.int .i64 t8, .int .i64 t9, .slice Ao11 t10.length co11] 37 (0, 0)) BKg4.out hb); have nBg6 := zA.mk (zO (g := g6) (o := .cells #[.slice Ao15 t14.length co15] 30 (0, 0)) BKg6.out hb); have nBg7 := zA.mk (zO (g := g7) (o := .cells #[.int .i64 t17, .int .i64 t18, .slice Ao20 t19.length co20] 37 (0, 0)) BKg7.out hb); have nHB := zA.mk (zN HB.out hb); have nHT := zA.mk (qj HT.out hb); clear HB HT HOo6 HOo11 HOo15 HOo20 HOo27 HOo46 BKg1 BKg4 BKg6 BKg7; have HOo6 := nOo6; have HOo11 := nOo11; have HOo15 := nOo15; have HOo20 := nOo20; have HOo27 := nOo27; have HOo46 := nOo46; have BKg1 := nBg1; have BKg4 := nBg4; have BKg6 := nBg6; have BKg7 := nBg7; have HB := nHB; have HT := nHT; clear nHB nHT nOo6 nOo11 nOo15 nOo20 nOo27 nOo46 nBg1 nBg4 nBg6 nBg7; have HNo51 := zA.mk hno51.1; clear HT; have HT := zA.mk hno51.2.1; have HOo51 := zA.mk hno51.2.2; clear hno51 ho0; obtain ⟨Ao51, co51, eeo51⟩ := HOo51.out.slice; subst eeo51; (try clear hb); (try clear hnd); have hczg1 : w19.cell? ⟨g1, 0, none⟩ = some (.slice A0 l0.length c0) := (zK BKg1.out 0).trans rfl; have hfzg1 := zG BKg1.out 0; have hczg4 : w19.cell? ⟨g4, 0, none⟩ = some (.int .i64 t8) := (zK BKg4.out 0).trans rfl; have hfzg4 := zG BKg4.out 0; have hczg4_1 : w19.cell? ⟨g4, 1, none⟩ = some (.int .i64 t9) := (zK BKg4.out 1).trans rfl; have hfzg4_1 := zG BKg4.out 1; have hczg4_2 : w19.cell? ⟨g4, 2, none⟩ = some (.slice Ao11 t10.length co11) := (zK BKg4.out 2).trans rfl; have hfzg4_2 := zG BKg4.out 2; have hczg6 : w19.cell? ⟨g6, 0, none⟩ = some (.slice Ao15 t14.length co15) := (zK BKg6.out 0).trans rfl; have hfzg6 := zG BKg6.out 0; have hczg7 : w19.cell? ⟨g7, 0, none⟩ = some (.int .i64 t17) := (zK BKg7.out 0).trans rfl; have hfzg7 := zG BKg7.out 0; have hczg7_1 : w19.cell? ⟨g7, 1, none⟩ = some (.int .i64 t18) := (zK BKg7.out 1).trans rfl; have hfzg7_1 := zG BKg7.out 1; have hczg7_2 : w19.cell? ⟨g7, 2, none⟩ = some (.slice Ao20 t19.length co20) := (zK BKg7.out 2).trans rfl; have hfzg7_2 := zG BKg7.out 2) | ((with_reducible refine ze (N := 12) rfl ?_); refine zc ?hg (N := 12) ?hd (cs := #[.int .i64 0, .int .i64 0, .slice none 0 0]) (t := 37) ?hr ?_; (case hd => rfl); (case hg => rfl); (case hr => first | (go_simp; done) | (go_simp; rfl)); intro g12 hg w20 hbox hb; (try clear hczg1 hfzg1 hczg4 hfzg4 hczg4_1 hfzg4_1 hczg4_2 hfzg4_2 hczg6 hfzg6 hczg7 hfzg7 hczg7_1 hfzg7_1 hczg7_2 hfzg7_2); have HNg12 := zA.mk (by rw [hg]; exact HT.out : hio51 ≤ g12); have HXg12 := zA.mk (show g12 + 1 ≤ w20.heap.size from qG hbox); have nOo6 := zA.mk (ObS.below HOo6.out hb); have nOo11 := zA.mk (ObR.below HOo11.out hb); have nOo15 := zA.mk (ObS.below HOo15.out hb); have nOo20 := zA.mk (ObR.below HOo20.out hb); have nOo27 := zA.mk (ObS.below HOo27.out hb); have nOo46 := zA.mk (ObS.below HOo46.out hb); have nOo51 := zA.mk (ObR.below HOo51.out hb); have nBg1 := zA.mk (zO (g := g1) (o := .cells #[.slice A0 l0.length c0] 24 (0, 0)) BKg1.out hb); have nBg4 := zA.mk (zO (g := g4) (o := .cells #[.int .i64 t8, .int .i64 t9, .slice Ao11 t10.length co11] 37 (0, 0)) BKg4.out hb); have nBg6 := zA.mk (zO (g := g6) (o := .cells #[.slice Ao15 t14.length co15] 30 (0, 0)) BKg6.out hb); have nBg7 := zA.mk (zO (g := g7) (o := .cells #[.int .i64 t17, .int .i64 t18, .slice Ao20 t19.length co20] 37 (0, 0)) BKg7.out hb); have nHB := zA.mk (zN HB.out hb); have nHT := zA.mk (qj HT.out hb); clear HB HT HOo6 HOo11 HOo15 HOo20 HOo27 HOo46 HOo51 BKg1 BKg4 BKg6 BKg7; have HOo6 := nOo6; have HOo11 := nOo11; have HOo15 := nOo15; have HOo20 := nOo20; have HOo27 := nOo27; have HOo46 := nOo46; have HOo51 := nOo51; have BKg1 := nBg1; have BKg4 := nBg4; have BKg6 := nBg6; have BKg7 := nBg7; have HB := nHB; have HT := nHT; clear nHB nHT nOo6 nOo11 nOo15 nOo20 nOo27 nOo46 nOo51 nBg1 nBg4 nBg6 nBg7; clear HT; have HT := HXg12; clear HXg12; have BKg12 := zA.mk hbox; clear hg hbox hb; have hnbg12_g1 : g12 ≠ g1 := (by have := HNg1.out; have := HNo6.out; have := HNo11.out; have := HNg4.out; have := HNo15.out; have := HNg6.out; have := HNo20.out; have := HNg7.out; have := HNo27.out; have := HNo46.out; have := HNo51.out; have := HNg12.out; omega); have hnbg1_g12 : g1 ≠ g12 := (by have := HNg1.out; have := HNo6.out; have := HNo11.out; have := HNg4.out; have := HNo15.out; have := HNg6.out; have := HNo20.out; have := HNg7.out; have := HNo27.out; have := HNo46.out; have := HNo51.out; have := HNg12.out; omega); have hnbg12_g4 : g12 ≠ g4 := (by have := HNg1.out; have := HNo6.out; have := HNo11.out; have := HNg4.out; have := HNo15.out; have := HNg6.out; have := HNo20.out; have := HNg7.out; have := HNo27.out; have := HNo46.out; have := HNo51.out; have := HNg12.out; omega); have hnbg4_g12 : g4 ≠ g12 := (by have := HNg1.out; have := HNo6.out; have := HNo11.out; have := HNg4.out; have := HNo15.out; have := HNg6.out; have := HNo20.out; have := HNg7.out; have := HNo27.out; have := HNo46.out; have := HNo51.out; have := HNg12.out; omega); have hnbg12_g6 : g12 ≠ g6 := (by have := HNg1.out; have := HNo6.out; have := HNo11.out; have := HNg4.out; have := HNo15.out; have := HNg6.out; have := HNo20.out; have := HNg7.out; have := HNo27.out; have := HNo46.out; have := HNo51.out; have := HNg12.out; omega); have hnbg6_g12 : g6 ≠ g12 := (by have := HNg1.out; have := HNo6.out; have := HNo11.out; have := HNg4.out; have := HNo15.out; have := HNg6.out; have := HNo20.out; have := HNg7.out; have := HNo27.out; have := HNo46.out; have := HNo51.out; have := HNg12.out; omega); have hnbg12_g7 : g12 ≠ g7 := (by have := HNg1.out; have := HNo6.out; have := HNo11.out; have := HNg4.out; have := HNo15.out; have := HNg6.out; have := HNo20.out; have := HNg7.out; have := HNo27.out; have := HNo46.out; have := HNo51.out; have := HNg12.out; omega); have hnbg7_g12 : g7 ≠ g12 := (by have := HNg1.out; have := HNo6.out; have := HNo11.out; have := HNg4.out; have := HNo15.out; have := HNg6.out; have := HNo20.out; have := HNg7.out; have := HNo27.out; have := HNo46.out; have := HNo51.out; have := HNg12.out; omega); have hczg1 : w20.cell? ⟨g1, 0, none⟩ = some (.slice A0 l0.length c0) := (zK BKg1.out 0).trans rfl; have hfzg1 := zG BKg1.out 0; have hczg4 : w20.cell? ⟨g4, 0, none⟩ = some (.int .i64 t8) := (zK BKg4.out 0).trans rfl; have hfzg4 := zG BKg4.out 0; have hczg4_1 : w20.cell? ⟨g4, 1, none⟩ = some (.int .i64 t9) := (zK BKg4.out 1).trans rfl; have hfzg4_1 := zG BKg4.out 1; have hczg4_2 : w20.cell? ⟨g4, 2, none⟩ = some (.slice Ao11 t10.length co11) := (zK BKg4.out 2).trans rfl; have hfzg4_2 := zG BKg4.out 2; have hczg6 : w20.cell? ⟨g6, 0, none⟩ = some (.slice Ao15 t14.length co15) := (zK BKg6.out 0).trans rfl; have hfzg6 := zG BKg6.out 0; have hczg7 : w20.cell? ⟨g7, 0, none⟩ = some (.int .i64 t17) := (zK BKg7.out 0).trans rfl; have hfzg7 := zG BKg7.out 0; have hczg7_1 : w20.cell? ⟨g7, 1, none⟩ = some (.int .i64 t18) := (zK BKg7.out 1).trans rfl; have hfzg7_1 := zG BKg7.out 1; have hczg7_2 : w20.cell? ⟨g7, 2, none⟩ = some (.slice Ao20 t19.length co20) := (zK BKg7.out 2).trans rfl; have hfzg7_2 := zG BKg7.out 2; have hczg12 : w20.cell? ⟨g12, 0, none⟩ = some (.int .i64 0) := (zK BKg12.out 0).trans rfl; have hfzg12 := zG BKg12.out 0; have hczg12_1 : w20.cell? ⟨g12, 1, none⟩ = some (.int .i64 0) := (zK BKg12.out 1).trans rfl; have hfzg12_1 := zG BKg12.out 1; have hczg12_2 : w20.cell? ⟨g12, 2, none⟩ = some (.slice none 0 0) := (zK BKg12.out 2).trans rfl; have hfzg12_2 := zG BKg12.out 2) | ((with_reducible refine zX (f := 24) rfl ?_); refine qI (some 81) rfl rfl Try.func24 (by kernel_rfl) rfl #[.agg #[.int .i64 t48, .int .i64 t49, .slice Ao51 t50.length co51], .agg #[.int .i64 t8, .int .i64 t9, .slice Ao11 t10.length co11]] rfl (by (try simp only [yiy, yjy, yky]); first | done | rfl | (simp only [yly, ymy]; rfl)) ?_; (with_reducible refine (ZH.calls k t48 t49 _ _ t50 t8 t9 _ _ t10 true _ ?side1 ?side2 ?side3 ?side4 H53.out).mono ?_); (case side1 => exact (ObR.reads (ObR.far (g := g12) (i := 2) (ObR.far (g := g12) (i := 1) (ObR.far (g := g12) (i := 0) HOo51.out (by have := HNg1.out; have := HNo6.out; have := HNo11.out; have := HNg4.out; have := HNo15.out; have := HNg6.out; have := HNo20.out; have := HNg7.out; have := HNo27.out; have := HNo46.out; have := HNo51.out; have := HNg12.out; omega) _) (by have := HNg1.out; have := HNo6.out; have := HNo11.out; have := HNg4.out; have := HNo15.out; have := HNg6.out; have := HNo20.out; have := HNg7.out; have := HNo27.out; have := HNo46.out; have := HNo51.out; have := HNg12.out; omega) _) (by have := HNg1.out; have := HNo6.out; have := HNo11.out; have := HNg4.out; have := HNo15.out; have := HNg6.out; have := HNo20.out; have := HNg7.out; have := HNo27.out; have := HNo46.out; have := HNo51.out; have := HNg12.out; omega) _)).2.2); (case side2 => exact ObR.room HOo51.out); (case side3 => exact (ObR.reads (ObR.far (g := g12) (i := 2) (ObR.far (g := g12) (i := 1) (ObR.far (g := g12) (i := 0) HOo11.out (by have := HNg1.out; have := HNo6.out; have := HNo11.out; have := HNg4.out; have := HNo15.out; have := HNg6.out; have := HNo20.out; have := HNg7.out; have := HNo27.out; have := HNo46.out; have := HNo51.out; have := HNg12.out; omega) _) (by have := HNg1.out; have := HNo6.out; have := HNo11.out; have := HNg4.out; have := HNo15.out; have := HNg6.out; have := HNo20.out; have := HNg7.out; have := HNo27.out; have := HNo46.out; have := HNo51.out; have := HNg12.out; omega) _) (by have := HNg1.out; have := HNo6.out; have := HNo11.out; have := HNg4.out; have := HNo15.out; have := HNg6.out; have := HNo20.out; have := HNg7.out; have := HNo27.out; have := HNo46.out; have := HNo51.out; have := HNg12.out; omega) _)).2.2); (case side4 => exact ObR.room HOo11.out); rintro e w21 ⟨rfl, hb⟩; refine ⟨_, rfl, ?_⟩; (try clear hczg1 hfzg1 hczg4 hfzg4 hczg4_1 hfzg4_1 hczg4_2 hfzg4_2 hczg6 hfzg6 hczg7 hfzg7 hczg7_1 hfzg7_1 hczg7_2 hfzg7_2 hczg12 hfzg12 hczg12_1 hfzg12_1 hczg12_2 hfzg12_2); have nOo6 := zA.mk (ObS.below (ObS.far (g := g12) (i := 2) (ObS.far (g := g12) (i := 1) (ObS.far (g := g12) (i := 0) HOo6.out (by have := HNg1.out; have := HNo6.out; have := HNo11.out; have := HNg4.out; have := HNo15.out; have := HNg6.out; have := HNo20.out; have := HNg7.out; have := HNo27.out; have := HNo46.out; have := HNo51.out; have := HNg12.out; omega) _) (by have := HNg1.out; have := HNo6.out; have := HNo11.out; have := HNg4.out; have := HNo15.out; have := HNg6.out; have := HNo20.out; have := HNg7.out; have := HNo27.out; have := HNo46.out; have := HNo51.out; have := HNg12.out; omega) _) (by have := HNg1.out; have := HNo6.out; have := HNo11.out; have := HNg4.out; have := HNo15.out; have := HNg6.out; have := HNo20.out; have := HNg7.out; have := HNo27.out; have := HNo46.out; have := HNo51.out; have := HNg12.out; omega) _) hb); have nOo11 := zA.mk (ObR.below (ObR.far (g := g12) (i := 2) (ObR.far (g := g12) (i := 1) (ObR.far (g := g12) (i := 0) HOo11.out (by have := HNg1.out; have := HNo6.out; have := HNo11.out; have := HNg4.out; have := HNo15.out; have := HNg6.out; have := HNo20.out; have := HNg7.out; have := HNo27.out; have := HNo46.out; have := HNo51.out; have := HNg12.out; omega) _) (by have := HNg1.out; have := HNo6.out; have := HNo11.out; have := HNg4.out; have := HNo15.out; have := HNg6.out; have := HNo20.out; have := HNg7.out; have := HNo27.out; have := HNo46.out; have := HNo51.out; have := HNg12.out; omega) _) (by have := HNg1.out; have := HNo6.out; have := HNo11.out; have := HNg4.out; have := HNo15.out; have := HNg6.out; have := HNo20.out; have := HNg7.out; have := HNo27.out; have := HNo46.out; have := HNo51.out; have := HNg12.out; omega) _) hb); have nOo15 := zA.mk (ObS.below (ObS.far (g := g12) (i := 2) (ObS.far (g := g12) (i := 1) (ObS.far (g := g12) (i := 0) HOo15.out (by have := HNg1.out; have := HNo6.out; have := HNo11.out; have := HNg4.out; have := HNo15.out; have := HNg6.out; have := HNo20.out; have := HNg7.out; have := HNo27.out; have := HNo46.out; have := HNo51.out; have := HNg12.out; omega) _) (by have := HNg1.out; have := HNo6.out; have := HNo11.out; have := HNg4.out; have := HNo15.out; have := HNg6.out; have := HNo20.out; have := HNg7.out; have := HNo27.out; have := HNo46.out; have := HNo51.out; have := HNg12.out; omega) _) (by have := HNg1.out; have := HNo6.out; have := HNo11.out; have := HNg4.out; have := HNo15.out; have := HNg6.out; have := HNo20.out; have := HNg7.out; have := HNo27.out; have := HNo46.out; have := HNo51.out; have := HNg12.out; omega) _) hb); have nOo20 := zA.mk (ObR.below (ObR.far (g := g12) (i := 2) (ObR.far (g := g12) (i := 1) (ObR.far (g := g12) (i := 0) HOo20.out (by have := HNg1.out; have := HNo6.out; have := HNo11.out; have := HNg4.out; have := HNo15.out; have := HNg6.out; have := HNo20.out; have := HNg7.out; have := HNo27.out; have := HNo46.out; have := HNo51.out; have := HNg12.out; omega) _) (by have := HNg1.out; have := HNo6.out; have := HNo11.out; have := HNg4.out; have := HNo15.out; have := HNg6.out; have := HNo20.out; have := HNg7.out; have := HNo27.out; have := HNo46.out; have := HNo51.out; have := HNg12.out; omega) _) (by have := HNg1.out; have := HNo6.out; have := HNo11.out; have := HNg4.out; have := HNo15.out; have := HNg6.out; have := HNo20.out; have := HNg7.out; have := HNo27.out; have := HNo46.out; have := HNo51.out; have := HNg12.out; omega) _) hb); have nOo27 := zA.mk (ObS.below (ObS.far (g := g12) (i := 2) (ObS.far (g := g12) (i := 1) (ObS.far (g := g12) (i := 0) HOo27.out (by have := HNg1.out; have := HNo6.out; have := HNo11.out; have := HNg4.out; have := HNo15.out; have := HNg6.out; have := HNo20.out; have := HNg7.out; have := HNo27.out; have := HNo46.out; have := HNo51.out; have := HNg12.out; omega) _) (by have := HNg1.out; have := HNo6.out; have := HNo11.out; have := HNg4.out; have := HNo15.out; have := HNg6.out; have := HNo20.out; have := HNg7.out; have := HNo27.out; have := HNo46.out; have := HNo51.out; have := HNg12.out; omega) _) (by have := HNg1.out; have := HNo6.out; have := HNo11.out; have := HNg4.out; have := HNo15.out; have := HNg6.out; have := HNo20.out; have := HNg7.out; have := HNo27.out; have := HNo46.out; have := HNo51.out; have := HNg12.out; omega) _) hb); have nOo46 := zA.mk (ObS.below (ObS.far (g := g12) (i := 2) (ObS.far (g := g12) (i := 1) (ObS.far (g := g12) (i := 0) HOo46.out (by have := HNg1.out; have := HNo6.out; have := HNo11.out; have := HNg4.out; have := HNo15.out; have := HNg6.out; have := HNo20.out; have := HNg7.out; have := HNo27.out; have := HNo46.out; have := HNo51.out; have := HNg12.out; omega) _) (by have := HNg1.out; have := HNo6.out; have := HNo11.out; have := HNg4.out; have := HNo15.out; have := HNg6.out; have := HNo20.out; have := HNg7.out; have := HNo27.out; have := HNo46.out; have := HNo51.out; have := HNg12.out; omega) _) (by have := HNg1.out; have := HNo6.out; have := HNo11.out; have := HNg4.out; have := HNo15.out; have := HNg6.out; have := HNo20.out; have := HNg7.out; have := HNo27.out; have := HNo46.out; have := HNo51.out; have := HNg12.out; omega) _) hb); have nOo51 := zA.mk (ObR.below (ObR.far (g := g12) (i := 2) (ObR.far (g := g12) (i := 1) (ObR.far (g := g12) (i := 0) HOo51.out (by have := HNg1.out; have := HNo6.out; have := HNo11.out; have := HNg4.out; have := HNo15.out; have := HNg6.out; have := HNo20.out; have := HNg7.out; have := HNo27.out; have := HNo46.out; have := HNo51.out; have := HNg12.out; omega) _) (by have := HNg1.out; have := HNo6.out; have := HNo11.out; have := HNg4.out; have := HNo15.out; have := HNg6.out; have := HNo20.out; have := HNg7.out; have := HNo27.out; have := HNo46.out; have := HNo51.out; have := HNg12.out; omega) _) (by have := HNg1.out; have := HNo6.out; have := HNo11.out; have := HNg4.out; have := HNo15.out; have := HNg6.out; have := HNo20.out; have := HNg7.out; have := HNo27.out; have := HNo46.out; have := HNo51.out; have := HNg12.out; omega) _) hb); have nBg1 := zA.mk (zO (g := g1) (o := .cells #[.slice A0 l0.length c0] 24 (0, 0)) (zn (p := ⟨g12, 2, none⟩) (zn (p := ⟨g12, 1, none⟩) (zn (p := ⟨g12, 0, none⟩) BKg1.out (show g1 ≠ g12 from (by have := HNg1.out; have := HNo6.out; have := HNo11.out; have := HNg4.out; have := HNo15.out; have := HNg6.out; have := HNo20.out; have := HNg7.out; have := HNo27.out; have := HNo46.out; have := HNo51.out; have := HNg12.out; omega)) _) (show g1 ≠ g12 from (by have := HNg1.out; have := HNo6.out; have := HNo11.out; have := HNg4.out; have := HNo15.out; have := HNg6.out; have := HNo20.out; have := HNg7.out; have := HNo27.out; have := HNo46.out; have := HNo51.out; have := HNg12.out; omega)) _) (show g1 ≠ g12 from (by have := HNg1.out; have := HNo6.out; have := HNo11.out; have := HNg4.out; have := HNo15.out; have := HNg6.out; have := HNo20.out; have := HNg7.out; have := HNo27.out; have := HNo46.out; have := HNo51.out; have := HNg12.out; omega)) _) hb); have nBg4 := zA.mk (zO (g := g4) (o := .cells #[.int .i64 t8, .int .i64 t9, .slice Ao11 t10.length co11] 37 (0, 0)) (zn (p := ⟨g12, 2, none⟩) (zn (p := ⟨g12, 1, none⟩) (zn (p := ⟨g12, 0, none⟩) BKg4.out (show g4 ≠ g12 from (by have := HNg1.out; have := HNo6.out; have := HNo11.out; have := HNg4.out; have := HNo15.out; have := HNg6.out; have := HNo20.out; have := HNg7.out; have := HNo27.out; have := HNo46.out; have := HNo51.out; have := HNg12.out; omega)) _) (show g4 ≠ g12 from (by have := HNg1.out; have := HNo6.out; have := HNo11.out; have := HNg4.out; have := HNo15.out; have := HNg6.out; have := HNo20.out; have := HNg7.out; have := HNo27.out; have := HNo46.out; have := HNo51.out; have := HNg12.out; omega)) _) (show g4 ≠ g12 from (by have := HNg1.out; have := HNo6.out; have := HNo11.out; have := HNg4.out; have := HNo15.out; have := HNg6.out; have := HNo20.out; have := HNg7.out; have := HNo27.out; have := HNo46.out; have := HNo51.out; have := HNg12.out; omega)) _) hb); have nBg6 := zA.mk (zO (g := g6) (o := .cells #[.slice Ao15 t14.length co15] 30 (0, 0)) (zn (p := ⟨g12, 2, none⟩) (zn (p := ⟨g12, 1, none⟩) (zn (p := ⟨g12, 0, none⟩) BKg6.out (show g6 ≠ g12 from (by have := HNg1.out; have := HNo6.out; have := HNo11.out; have := HNg4.out; have := HNo15.out; have := HNg6.out; have := HNo20.out; have := HNg7.out; have := HNo27.out; have := HNo46.out; have := HNo51.out; have := HNg12.out; omega)) _) (show g6 ≠ g12 from (by have := HNg1.out; have := HNo6.out; have := HNo11.out; have := HNg4.out; have := HNo15.out; have := HNg6.out; have := HNo20.out; have := HNg7.out; have := HNo27.out; have := HNo46.out; have := HNo51.out; have := HNg12.out; omega)) _) (show g6 ≠ g12 from (by have := HNg1.out; have := HNo6.out; have := HNo11.out; have := HNg4.out; have := HNo15.out; have := HNg6.out; have := HNo20.out; have := HNg7.out; have := HNo27.out; have := HNo46.out; have := HNo51.out; have := HNg12.out; omega)) _) hb); have nBg7 := zA.mk (zO (g := g7) (o := .cells #[.int .i64 t17, .int .i64 t18, .slice Ao20 t19.length co20] 37 (0, 0)) (zn (p := ⟨g12, 2, none⟩) (zn (p := ⟨g12, 1, none⟩) (zn (p := ⟨g12, 0, none⟩) BKg7.out (show g7 ≠ g12 from (by have := HNg1.out; have := HNo6.out; have := HNo11.out; have := HNg4.out; have := HNo15.out; have := HNg6.out; have := HNo20.out; have := HNg7.out; have := HNo27.out; have := HNo46.out; have := HNo51.out; have := HNg12.out; omega)) _) (show g7 ≠ g12 from (by have := HNg1.out; have := HNo6.out; have := HNo11.out; have := HNg4.out; have := HNo15.out; have := HNg6.out; have := HNo20.out; have := HNg7.out; have := HNo27.out; have := HNo46.out; have := HNo51.out; have := HNg12.out; omega)) _) (show g7 ≠ g12 from (by have := HNg1.out; have := HNo6.out; have := HNo11.out; have := HNg4.out; have := HNo15.out; have := HNg6.out; have := HNo20.out; have := HNg7.out; have := HNo27.out; have := HNo46.out; have := HNo51.out; have := HNg12.out; omega)) _) hb); have nBg12 := zA.mk (zO (g := g12) (o := .cells #[.int .i64 t48, .int .i64 t49, .slice Ao51 t50.length co51] 37 (0, 0)) (zu (cs := #[.int .i64 t48, .int .i64 t49, .slice none 0 0]) (zu (cs := #[.int .i64 t48, .int .i64 0, .slice none 0 0]) (zu (cs := #[.int .i64 0, .int .i64 0, .slice none 0 0]) BKg12.out 0 _ rfl) 1 _ rfl) 2 _ rfl) hb); have nHB := zA.mk (zN (zF (zF (zF HB.out (show w.heap.size ≤ g12 from (by have := HNg1.out; have := HNo6.out; have := HNo11.out; have := HNg4.out; have := HNo15.out; have := HNg6.out; have := HNo20.out; have := HNg7.out; have := HNo27.out; have := HNo46.out; have := HNo51.out; have := HNg12.out; omega))) (show w.heap.size ≤ g12 from (by have := HNg1.out; have := HNo6.out; have := HNo11.out; have := HNg4.out; have := HNo15.out; have := HNg6.out; have := HNo20.out; have := HNg7.out; have := HNo27.out; have := HNo46.out; have := HNo51.out; have := HNg12.out; omega))) (show w.heap.size ≤ g12 from (by have := HNg1.out; have := HNo6.out; have := HNo11.out; have := HNg4.out; have := HNo15.out; have := HNg6.out; have := HNo20.out; have := HNg7.out; have := HNo27.out; have := HNo46.out; have := HNo51.out; have := HNg12.out; omega))) hb); have nHT := zA.mk (qj (Zu (Zu (Zu HT.out))) hb); clear HB HT HOo6 HOo11 HOo15 HOo20 HOo27 HOo46 HOo51 BKg1 BKg4 BKg6 BKg7 BKg12; have HOo6 := nOo6; have HOo11 := nOo11; have HOo15 := nOo15; have HOo20 := nOo20; have HOo27 := nOo27; have HOo46 := nOo46; have HOo51 := nOo51; have BKg1 := nBg1; have BKg4 := nBg4; have BKg6 := nBg6; have BKg7 := nBg7; have BKg12 := nBg12; have HB := nHB; have HT := nHT; clear nHB nHT nOo6 nOo11 nOo15 nOo20 nOo27 nOo46 nOo51 nBg1 nBg4 nBg6 nBg7 nBg12; (try clear hb); (try clear hnd); have hczg1 : w21.cell? ⟨g1, 0, none⟩ = some (.slice A0 l0.length c0) := (zK BKg1.out 0).trans rfl; have hfzg1 := zG BKg1.out 0; have hczg4 : w21.cell? ⟨g4, 0, none⟩ = some (.int .i64 t8) := (zK BKg4.out 0).trans rfl; have hfzg4 := zG BKg4.out 0; have hczg4_1 : w21.cell? ⟨g4, 1, none⟩ = some (.int .i64 t9) := (zK BKg4.out 1).trans rfl; have hfzg4_1 := zG BKg4.out 1; have hczg4_2 : w21.cell? ⟨g4, 2, none⟩ = some (.slice Ao11 t10.length co11) := (zK BKg4.out 2).trans rfl; have hfzg4_2 := zG BKg4.out 2; have hczg6 : w21.cell? ⟨g6, 0, none⟩ = some (.slice Ao15 t14.length co15) := (zK BKg6.out 0).trans rfl; have hfzg6 := zG BKg6.out 0; have hczg7 : w21.cell? ⟨g7, 0, none⟩ = some (.int .i64 t17) := (zK BKg7.out 0).trans rfl; have hfzg7 := zG BKg7.out 0; have hczg7_1 : w21.cell? ⟨g7, 1, none⟩ = some (.int .i64 t18) := (zK BKg7.out 1).trans rfl; have hfzg7_1 := zG BKg7.out 1; have hczg7_2 : w21.cell? ⟨g7, 2, none⟩ = some (.slice Ao20 t19.length co20) := (zK BKg7.out 2).trans rfl; have hfzg7_2 := zG BKg7.out 2; have hczg12 : w21.cell? ⟨g12, 0, none⟩ = some (.int .i64 t48) := (zK BKg12.out 0).trans rfl; have hfzg12 := zG BKg12.out 0; have hczg12_1 : w21.cell? ⟨g12, 1, none⟩ = some (.int .i64 t49) := (zK BKg12.out 1).trans rfl; have hfzg12_1 := zG BKg12.out 1; have hczg12_2 : w21.cell? ⟨g12, 2, none⟩ = some (.slice Ao51 t50.length co51) := (zK BKg12.out 2).trans rfl; have hfzg12_2 := zG BKg12.out 2) | ((with_reducible refine zX (f := 27) rfl ?_); refine qI (some 90) rfl rfl Try.func27 (by kernel_rfl) rfl #[.agg #[.int .i64 t17, .int .i64 t18, .slice Ao20 y39.length co20], .int .i64 1] rfl (by (try simp only [yiy, yjy, yky]); first | done | (rw [show y39.length = t19.length from (ObR.reads HOo20.out).1.symm] <;> rfl) | rfl | (simp only [yly, ymy]; rfl)) ?_; (with_reducible refine (ZM.calls k t17 t18 _ _ y39 1 t57 _ ?side1 ?side2 H56.out).mono ?_); (case side1 => exact (ObR.reads HOo20.out).2.2); (case side2 => exact ObR.room HOo20.out); rintro e w22 ⟨rfl, hb⟩; refine ⟨_, rfl, ?_⟩; (try clear hczg1 hfzg1 hczg4 hfzg4 hczg4_1 hfzg4_1 hczg4_2 hfzg4_2 hczg6 hfzg6 hczg7 hfzg7 hczg7_1 hfzg7_1 hczg7_2 hfzg7_2 hczg12 hfzg12 hczg12_1 hfzg12_1 hczg12_2 hfzg12_2); have nOo6 := zA.mk (ObS.below HOo6.out hb); have nOo11 := zA.mk (ObR.below HOo11.out hb); have nOo15 := zA.mk (ObS.below HOo15.out hb); have nOo20 := zA.mk (ObR.below HOo20.out hb); have nOo27 := zA.mk (ObS.below HOo27.out hb); have nOo46 := zA.mk (ObS.below HOo46.out hb); have nOo51 := zA.mk (ObR.below HOo51.out hb); have nBg1 := zA.mk (zO (g := g1) (o := .cells #[.slice A0 l0.length c0] 24 (0, 0)) BKg1.out hb); have nBg4 := zA.mk (zO (g := g4) (o := .cells #[.int .i64 t8, .int .i64 t9, .slice Ao11 t10.length co11] 37 (0, 0)) BKg4.out hb); have nBg6 := zA.mk (zO (g := g6) (o := .cells #[.slice Ao15 t14.length co15] 30 (0, 0)) BKg6.out hb); have nBg7 := zA.mk (zO (g := g7) (o := .cells #[.int .i64 t17, .int .i64 t18, .slice Ao20 t19.length co20] 37 (0, 0)) BKg7.out hb); have nBg12 := zA.mk (zO (g := g12) (o := .cells #[.int .i64 t48, .int .i64 t49, .slice Ao51 t50.length co51] 37 (0, 0)) BKg12.out hb); have nHB := zA.mk (zN HB.out hb); have nHT := zA.mk (qj HT.out hb); clear HB HT HOo6 HOo11 HOo15 HOo20 HOo27 HOo46 HOo51 BKg1 BKg4 BKg6 BKg7 BKg12; have HOo6 := nOo6; have HOo11 := nOo11; have HOo15 := nOo15; have HOo20 := nOo20; have HOo27 := nOo27; have HOo46 := nOo46; have HOo51 := nOo51; have BKg1 := nBg1; have BKg4 := nBg4; have BKg6 := nBg6; have BKg7 := nBg7; have BKg12 := nBg12; have HB := nHB; have HT := nHT; clear nHB nHT nOo6 nOo11 nOo15 nOo20 nOo27 nOo46 nOo51 nBg1 nBg4 nBg6 nBg7 nBg12; (try clear hb); (try clear hnd); have hczg1 : w22.cell? ⟨g1, 0, none⟩ = some (.slice A0 l0.length c0) := (zK BKg1.out 0).trans rfl; have hfzg1 := zG BKg1.out 0; have hczg4 : w22.cell? ⟨g4, 0, none⟩ = some (.int .i64 t8) := (zK BKg4.out 0).trans rfl; have hfzg4 := zG BKg4.out 0; have hczg4_1 : w22.cell? ⟨g4, 1, none⟩ = some (.int .i64 t9) := (zK BKg4.out 1).trans rfl; have hfzg4_1 := zG BKg4.out 1; have hczg4_2 : w22.cell? ⟨g4, 2, none⟩ = some (.slice Ao11 t10.length co11) := (zK BKg4.out 2).trans rfl; have hfzg4_2 := zG BKg4.out 2; have hczg6 : w22.cell? ⟨g6, 0, none⟩ = some (.slice Ao15 t14.length co15) := (zK BKg6.out 0).trans rfl; have hfzg6 := zG BKg6.out 0; have hczg7 : w22.cell? ⟨g7, 0, none⟩ = some (.int .i64 t17) := (zK BKg7.out 0).trans rfl; have hfzg7 := zG BKg7.out 0; have hczg7_1 : w22.cell? ⟨g7, 1, none⟩ = some (.int .i64 t18) := (zK BKg7.out 1).trans rfl; have hfzg7_1 := zG BKg7.out 1; have hczg7_2 : w22.cell? ⟨g7, 2, none⟩ = some (.slice Ao20 t19.length co20) := (zK BKg7.out 2).trans rfl; have hfzg7_2 := zG BKg7.out 2; have hczg12 : w22.cell? ⟨g12, 0, none⟩ = some (.int .i64 t48) := (zK BKg12.out 0).trans rfl; have hfzg12 := zG BKg12.out 0; have hczg12_1 : w22.cell? ⟨g12, 1, none⟩ = some (.int .i64 t49) := (zK BKg12.out 1).trans rfl; have hfzg12_1 := zG BKg12.out 1; have hczg12_2 : w22.cell? ⟨g12, 2, none⟩ = some (.slice Ao51 t50.length co51) := (zK BKg12.out 2).trans rfl; have hfzg12_2 := zG BKg12.out 2))
 go_ret
 exact ⟨by first | rfl | (simp <;> rfl), HB.out⟩
end Go.Proofs.Ythjpdljdodalaaa.P
