/- The statement FnExactOrientedFormSaid, proved: part 6 of 8 (texts of this session and of the kit's print, put together and cut to what is used by a program of it). -/
import Derived.Test.YtdgdnnjigigkcaaMFnExactOrientedForm5
namespace Go.Proofs.Ytdgdnnjigigkcaa.P
open Go.RowKit Go.Proofs.YtdgdnnjigigkcaaW.PrintWords Go.Proofs.YtdgdnnjigigkcaaW.PrintLast Go.Proofs.YtdgdnnjigigkcaaW.PrintMore
attribute [local go_sem] Qm Qn JO JP QT QU Qo Qp
set_option linter.unusedVariables false
set_option linter.unusedSimpArgs false
def qM.l0 : Nat → Int → List (List (zh)) → List (List (zh)) → Option ((List (List (zh))))
 | 0, _, _, _ => none
 | k + 1, x4, x102000, x104000 => if x4 < (x102000.length : Int) then ((some (([] : List (zh)) : List (zh))).bind fun y104 => (if 0 ≤ x4 then (if y104.length + (zC x102000 x4).length < 8796093022208 then (if x104000.length < 5864062014805 then (qM.l0 k (wrap64 (x4 + 1)) x102000 (x104000 ++ [(y104 ++ (zC x102000 x4))])) else (none)) else (none)) else (none))) else (some x104000)
def qM.f (k : Nat) (l0_0 : List (List (zh))) : Option ((List (List (zh)))) := qM.l0 k 0 l0_0 ([] : List (List (zh)))
def qM.T5 : Bool × List (List Nat × List Nat) := (true, [([], []), ([0], [0]), ([], []), ([], []), ([3], [3]), ([], []), ([4, 5], [4, 5]), ([6], [6]), ([2, 7], [2, 7]), ([8], [8]), ([1, 9, 8], [1, 9]), ([0, 1, 2, 3, 4, 5, 6, 7, 8, 9, 10], []), ([11, 10, 10, 0, 1, 2, 3, 4, 5, 6, 7, 8, 9, 10], [10, 11])])
def qM.B5 : List Nat := [0, 1, 0, 0, 8, 0, 56, 120, 252, 508, 1023, 2047, 4095]
theorem qM.tab5 : Jq .any (opsOf Try.f69 5) = qM.T5 := by kernel_rfl
theorem qM.bits5 : QM qM.T5.2 qM.B5 = true := by kernel_rfl
set_option maxHeartbeats 8000000 in
set_option maxRecDepth 100000 in
theorem qM.calls (k : Nat) (A0_0 : Option Addr) (c0_0 : Nat) (l0_0 : List (List (zh))) (r : List (List (zh))) (w : World) (hr0_0 : Kd.C (Kd.slice 74 qJ) w A0_0 l0_0.length l0_0) (hc0_0 : l0_0.length ≤ c0_0) (h : qM.f k l0_0 = some r) :
 Calls Try.prog 69 #[.agg #[.slice A0_0 l0_0.length c0_0]] w fun e w' => ∃ v0_ : Value, e = .returned (.agg #[v0_]) ∧ Kd.S (Kd.slice 74 qJ) 75 w' w.heap.size (fun _ => True) v0_ r ∧ Below w.heap.size w w' := by
 have hu28 := Try.underlying28
 have HR0_0 := zA.mk hr0_0
 have HC0_0 := zA.mk hc0_0
 clear hr0_0 hc0_0
 have HB := zA.mk (yqy w.heap.size w)
 have H : (qM.l0 k 0 l0_0 ([] : List (List (zh)))) = some r := h
 clear h
 have H' := zA.mk H
 clear H
 go_enter Try.func69, Try.ntmps69
 go_wp2_with (first | ((with_reducible refine zm (N := 1) rfl ?_); refine zp ?hg (N := 1) ?hd (cs := #[.slice A0_0 l0_0.length c0_0]) (t := 28) ?hr ?_; (case hd => rfl); (case hg => rfl); (case hr => first | (go_simp; done) | (go_simp; rfl)); intro gb101 hg w2 hbox hb; have n0_ := zA.mk (zO (by repeat (first | (with_reducible first | exact HB.out | apply zD | apply zB | apply zE) | exact HB.out)) hb); have n1_ := zA.mk (hbox); have n2_ := zA.mk ((by rw [hg]; exact (zP (by repeat (first | (with_reducible first | exact HB.out | apply zD | apply zB | apply zE) | exact HB.out))) : w.heap.size ≤ gb101)); have n3_ := zA.mk ((by rw [hg]; exact (zP (by repeat (first | (with_reducible first | exact HB.out | apply zD | apply zB | apply zE) | exact HB.out))) : w.heap.size ≤ gb101)); clear HB; have HB := n0_; have BK101 := n1_; have GW101 := n2_; have GE101 := n3_; clear n0_ n1_ n2_ n3_; clear hb hbox hg) | ((with_reducible refine zm (N := 2) rfl ?_); refine zp ?hg (N := 2) ?hd (cs := #[.slice none 0 0]) (t := 28) ?hr ?_; (case hd => rfl); (case hg => rfl); (case hr => first | (go_simp; done) | (go_simp; rfl)); intro gb102 hg w3 hbox hb; have n0_ := zA.mk (zN (g := gb101) (o := .cells #[.slice A0_0 l0_0.length c0_0] 28 (0, 0)) (by (with_reducible repeat (first | refine zI ?_ _ | refine zK ?_ | refine zH ?_ _)); exact BK101.out) hb); have n1_ := zA.mk (zO (by repeat (first | (with_reducible first | exact HB.out | apply zD | apply zB | apply zE | refine zG ?_ GE101.out) | exact HB.out)) hb); have n2_ := zA.mk (hbox); have n3_ := zA.mk ((by rw [hg]; exact (zP (by repeat (first | (with_reducible first | exact HB.out | apply zD | apply zB | apply zE | refine zG ?_ GE101.out) | exact HB.out))) : w.heap.size ≤ gb102)); have n4_ := zA.mk ((by rw [hg]; exact (zP (by repeat (first | (with_reducible first | exact HB.out | apply zD | apply zB | apply zE | refine zG ?_ GE101.out) | exact HB.out))) : w.heap.size ≤ gb102)); have n5_ := zA.mk ((by rw [hg]; exact Nat.ne_of_lt (qE (g := gb101) (o := .cells #[.slice A0_0 l0_0.length c0_0] 28 (0, 0)) (by (with_reducible repeat (first | refine zI ?_ _ | refine zK ?_ | refine zH ?_ _)); exact BK101.out)) : gb101 ≠ gb102)); have n6_ := zA.mk ((by rw [hg]; exact Nat.ne_of_gt (qE (g := gb101) (o := .cells #[.slice A0_0 l0_0.length c0_0] 28 (0, 0)) (by (with_reducible repeat (first | refine zI ?_ _ | refine zK ?_ | refine zH ?_ _)); exact BK101.out)) : gb102 ≠ gb101)); clear BK101; clear HB; have BK101 := n0_; have HB := n1_; have BK102 := n2_; have GW102 := n3_; have GE102 := n4_; have NB101_102 := n5_; have NB102_101 := n6_; clear n0_ n1_ n2_ n3_ n4_ n5_ n6_; clear hb hbox hg) | ((with_reducible refine zm (N := 3) rfl ?_); refine zp ?hg (N := 3) ?hd (cs := #[.slice none 0 0]) (t := 28) ?hr ?_; (case hd => rfl); (case hg => rfl); (case hr => first | (go_simp; done) | (go_simp; rfl)); intro gb103 hg w4 hbox hb; have n0_ := zA.mk (zN (g := gb101) (o := .cells #[.slice A0_0 l0_0.length c0_0] 28 (0, 0)) (by (with_reducible repeat (first | refine zI ?_ _ | refine zK ?_ | refine zH ?_ _)); exact BK101.out) hb); have n1_ := zA.mk (zN (g := gb102) (o := .cells #[.slice none 0 0] 28 (0, 0)) (by (with_reducible repeat (first | refine zI ?_ _ | refine zK ?_ | refine zH ?_ _)); exact BK102.out) hb); have n2_ := zA.mk (zO (by repeat (first | (with_reducible first | exact HB.out | apply zD | apply zB | apply zE | refine zG ?_ GE101.out | refine zG ?_ GE102.out) | exact HB.out)) hb); have n3_ := zA.mk (hbox); have n4_ := zA.mk ((by rw [hg]; exact (zP (by repeat (first | (with_reducible first | exact HB.out | apply zD | apply zB | apply zE | refine zG ?_ GE101.out | refine zG ?_ GE102.out) | exact HB.out))) : w.heap.size ≤ gb103)); have n5_ := zA.mk ((by rw [hg]; exact (zP (by repeat (first | (with_reducible first | exact HB.out | apply zD | apply zB | apply zE | refine zG ?_ GE101.out | refine zG ?_ GE102.out) | exact HB.out))) : w.heap.size ≤ gb103)); have n6_ := zA.mk ((by rw [hg]; exact Nat.ne_of_lt (qE (g := gb101) (o := .cells #[.slice A0_0 l0_0.length c0_0] 28 (0, 0)) (by (with_reducible repeat (first | refine zI ?_ _ | refine zK ?_ | refine zH ?_ _)); exact BK101.out)) : gb101 ≠ gb103)); have n7_ := zA.mk ((by rw [hg]; exact Nat.ne_of_gt (qE (g := gb101) (o := .cells #[.slice A0_0 l0_0.length c0_0] 28 (0, 0)) (by (with_reducible repeat (first | refine zI ?_ _ | refine zK ?_ | refine zH ?_ _)); exact BK101.out)) : gb103 ≠ gb101)); have n8_ := zA.mk ((by rw [hg]; exact Nat.ne_of_lt (qE (g := gb102) (o := .cells #[.slice none 0 0] 28 (0, 0)) (by (with_reducible repeat (first | refine zI ?_ _ | refine zK ?_ | refine zH ?_ _)); exact BK102.out)) : gb102 ≠ gb103)); have n9_ := zA.mk ((by rw [hg]; exact Nat.ne_of_gt (qE (g := gb102) (o := .cells #[.slice none 0 0] 28 (0, 0)) (by (with_reducible repeat (first | refine zI ?_ _ | refine zK ?_ | refine zH ?_ _)); exact BK102.out)) : gb103 ≠ gb102)); clear BK101; clear BK102; clear HB; have BK101 := n0_; have BK102 := n1_; have HB := n2_; have BK103 := n3_; have GW103 := n4_; have GE103 := n5_; have NB101_103 := n6_; have NB103_101 := n7_; have NB102_103 := n8_; have NB103_102 := n9_; clear n0_ n1_ n2_ n3_ n4_ n5_ n6_ n7_ n8_ n9_; clear hb hbox hg; have hnb5 := NB103_101.out; have hnc5 := NB101_103.out; have hnb6 := NB103_102.out; have hnc6 := NB102_103.out; have hcz7_0 : w4.cell? ⟨gb103, 0, none⟩ = some (.slice none 0 0) := (zJ BK103.out 0).trans rfl; have hfz7_0 := zL BK103.out 0))
 go_loopg [4] k (fun kq v4 w' => ∃ (x4_1 : Int) (x104000_1 : List (List (zh))) (u104000 : Value), v4 = .int .i64 x4_1 ∧ zA (qM.l0 kq x4_1 l0_0 x104000_1 = some r) ∧ zA (kq ≤ k) ∧ zA (Kd.S (Kd.slice 74 qJ) 75 w' w.heap.size (fun _ => True) u104000 x104000_1) ∧ zA (w'.heap[gb101]? = some (.cells #[(.slice A0_0 l0_0.length c0_0)] 28 (0, 0))) ∧ zA (w'.heap[gb102]? = some (.cells #[(.slice none 0 0)] 28 (0, 0))) ∧ zA (w'.heap[gb103]? = some (.cells #[u104000] 28 (0, 0))) ∧ zA (Below w.heap.size w w'))
 case atStart => exact ⟨(0), (([] : List (List (zh)))), (.slice none 0 0), (by first | rfl | (simp; done) | (simp [*]; done)), H', ⟨ypy _⟩, ⟨by first | exact Kd.zAq _ _ _ _ _ | exact Kd.zBP _ _ _ _ _ | exact Kd.zBQ _ _ _ _ _ | exact Kd.zBJ _ _ _ _ _ | exact Kd.Jl _ _ _ _ _⟩, ⟨by (with_reducible repeat (first | refine zI ?_ _ | refine zK ?_ | refine zH ?_ _)); refine zv ?_ NB101_103.out _; (with_reducible repeat (first | refine zI ?_ _ | refine zK ?_ | refine zH ?_ _)); exact BK101.out⟩, ⟨by (with_reducible repeat (first | refine zI ?_ _ | refine zK ?_ | refine zH ?_ _)); refine zv ?_ NB102_103.out _; (with_reducible repeat (first | refine zI ?_ _ | refine zK ?_ | refine zH ?_ _)); exact BK102.out⟩, ⟨by (with_reducible repeat (first | refine zI ?_ _ | refine zK ?_ | refine zH ?_ _)); refine qH (cs := #[.slice none 0 0]) ?_ 0 _ rfl; (with_reducible repeat (first | refine zI ?_ _ | refine zK ?_ | refine zH ?_ _)); exact BK103.out⟩, ⟨by repeat (first | (with_reducible first | exact HB.out | apply zD | apply zB | apply zE | refine zG ?_ GE101.out | refine zG ?_ GE102.out | refine zG ?_ GE103.out) | exact HB.out)⟩⟩
 case round =>
  clear H'
  try clear p2
  try clear c5
  try clear c6
  try clear hcz7_0
  try clear hfz7_0
  obtain ⟨x4_1, x104000_1, u104000, rfl, HA, HK1, HO_104000, BK101, BK102, BK103, HB⟩ := hrel
  cases gk with
  | zero => exact absurd HA.out (by simp [qM.l0])
  | succ k1 =>
   have H := HA.out
   clear HA
   simp only [qM.l0] at H
   by_cases c8 : x4_1 < (l0_0.length : Int)
   rotate_left
   next =>
    rw [if_neg c8] at H
    have c8b0 : decide (x4_1 < (l0_0.length : Int)) = false := yhy c8
    clear c8
    obtain rfl := yey H
    have hnb23 := NB101_102.out
    have hnc23 := NB102_101.out
    have hnb24 := NB101_103.out
    have hnc24 := NB103_101.out
    have hcz25_0 : wr.cell? ⟨gb101, 0, none⟩ = some (.slice A0_0 l0_0.length c0_0) := (zJ BK101.out 0).trans rfl
    have hfz25_0 := zL BK101.out 0
    have hnb26 := NB103_102.out
    have hnc26 := NB102_103.out
    have hcz27_0 : wr.cell? ⟨gb103, 0, none⟩ = some (u104000) := (zJ BK103.out 0).trans rfl
    have hfz27_0 := zL BK103.out 0
    obtain ⟨Ao28, co28, eo28⟩ := Kd.QY HO_104000.out
    subst eo28
    have hcz29_0 : wr.cell? ⟨gb102, 0, none⟩ = some (.slice none 0 0) := (zJ BK102.out 0).trans rfl
    have hfz29_0 := zL BK102.out 0
    go_wp2
    refine bodyPost_ret (results_cell_row rfl _ _ gb102 28 #[.slice Ao28 x104000_1.length co28] (0, 0) _ rfl (by (with_reducible repeat (first | refine zI ?_ _ | refine zK ?_ | refine zH ?_ _)); refine qH (cs := #[.slice none 0 0]) ?_ 0 _ rfl; (with_reducible repeat (first | refine zI ?_ _ | refine zK ?_ | refine zH ?_ _)); exact BK102.out) Try.underlying28 rfl (by kernel_rfl)) rfl ?_
    exact ⟨_, by first | rfl | (simp [zX, zY] <;> rfl) | (simp [*, zX, zY] <;> rfl), by (with_reducible repeat (first | apply Kd.Ze | apply Kd.QN | apply Kd.Zz)); exact Kd.Qk (Kd.zBk (p := ⟨gb102, 0, none⟩) (Kd.Jc HO_104000.out BK102.out (by decide)) (fun _ hk => hk.2) (.slice Ao28 x104000_1.length co28)) (fun _ hk => trivial), by repeat (first | (with_reducible first | exact HB.out | apply zD | apply zB | apply zE | refine zG ?_ GE101.out | refine zG ?_ GE102.out | refine zG ?_ GE103.out) | exact HB.out)⟩
   rw [if_pos c8] at H
   have c8b0 : decide (x4_1 < (l0_0.length : Int)) = true := ygy c8
   clear c8
   obtain ⟨y104, hy104⟩ : ∃ y_ : List (zh), y_ = (([] : List (zh))) := ⟨_, rfl⟩
   replace H : (if 0 ≤ x4_1 then (if y104.length + (zC l0_0 x4_1).length < 8796093022208 then (if x104000_1.length < 5864062014805 then (qM.l0 k1 (wrap64 (x4_1 + 1)) l0_0 (x104000_1 ++ [(y104 ++ (zC l0_0 x4_1))])) else (none)) else (none)) else (none)) = some r := by first | (rw [hy104]; with_reducible exact H) | (have H2_ := (yfy _ _).symm.trans H; rw [hy104]; with_reducible exact H2_) | (have H2_ := (yfy _ _).symm.trans H; with_reducible exact H2_) | with_reducible exact H | (rw [hy104]; exact H) | exact H
   have Ny104 := zA.mk hy104
   clear hy104
   by_cases c9 : 0 ≤ x4_1
   rotate_left
   next =>
    rw [if_neg c9] at H
    exact absurd H (by simp)
   rw [if_pos c9] at H
   have c9b0 : decide (0 ≤ x4_1) = true := ygy c9
   clear c9
   by_cases c10 : y104.length + (zC l0_0 x4_1).length < 8796093022208
   rotate_left
   next =>
    rw [if_neg c10] at H
    exact absurd H (by simp)
   rw [if_pos c10] at H
   have LMc10 := zA.mk c10
   clear c10
   obtain ⟨y108, hy108⟩ : ∃ y_ : List (zh), y_ = (y104 ++ (zC l0_0 x4_1)) := ⟨_, rfl⟩
   replace H : (if x104000_1.length < 5864062014805 then (qM.l0 k1 (wrap64 (x4_1 + 1)) l0_0 (x104000_1 ++ [y108])) else (none)) = some r := by first | (rw [hy108]; with_reducible exact H) | (have H2_ := (yfy _ _).symm.trans H; rw [hy108]; with_reducible exact H2_) | (have H2_ := (yfy _ _).symm.trans H; with_reducible exact H2_) | with_reducible exact H | (rw [hy108]; exact H) | exact H
   have Ny108 := zA.mk hy108
   clear hy108
   by_cases c11 : x104000_1.length < 5864062014805
   rotate_left
   next =>
    rw [if_neg c11] at H
    exact absurd H (by simp)
   rw [if_pos c11] at H
   have LMc11 := zA.mk c11
   clear c11
   obtain ⟨y111, hy111⟩ : ∃ y_ : List (List (zh)), y_ = (x104000_1 ++ [y108]) := ⟨_, rfl⟩
   replace H : (qM.l0 k1 (wrap64 (x4_1 + 1)) l0_0 y111) = some r := by first | (rw [hy111]; with_reducible exact H) | (have H2_ := (yfy _ _).symm.trans H; rw [hy111]; with_reducible exact H2_) | (have H2_ := (yfy _ _).symm.trans H; with_reducible exact H2_) | with_reducible exact H | (rw [hy111]; exact H) | exact H
   have Ny111 := zA.mk hy111
   clear hy111
   have H' := zA.mk H
   clear H
   have hnb12 := NB101_102.out
   have hnc12 := NB102_101.out
   have hnb13 := NB101_103.out
   have hnc13 := NB103_101.out
   have hcz14_0 : wr.cell? ⟨gb101, 0, none⟩ = some (.slice A0_0 l0_0.length c0_0) := (zJ BK101.out 0).trans rfl
   have hfz14_0 := zL BK101.out 0
   try go_wp2
   have n0_ := zA.mk (Kd.Zz HO_104000.out)
   have n1_ := zA.mk (zK BK101.out)
   have n2_ := zA.mk (zK BK102.out)
   have n3_ := zA.mk (zK BK103.out)
   have n4_ := zA.mk (zE HB.out)
   clear HO_104000
   clear BK101
   clear BK102
   clear BK103
   clear HB
   have HO_104000 := n0_
   have BK101 := n1_
   have BK102 := n2_
   have BK103 := n3_
   have HB := n4_
   clear n0_ n1_ n2_ n3_ n4_
   have p107 : 0 ≤ (x4_1 : Int) := of_decide_eq_true (by first | (with_reducible assumption) | assumption)
   have q107 : x4_1 < (l0_0.length : Int) := of_decide_eq_true (by first | (with_reducible assumption) | assumption)
   obtain ⟨ad107, A107_0, c107_0, e107, hx107_0, hl107_0, hi107_0⟩ := qt HR0_0.out x4_1 p107 q107
   have hw107_0 := hx107_0
   cases e107
   replace hx107_0 := (HB.out.cell (yoy w _ hx107_0)).trans hx107_0
   have HR107_0 := zA.mk hi107_0
   have HC107_0 := zA.mk hl107_0
   clear hi107_0 hl107_0
   replace p107 := eq_true p107
   replace q107 := eq_true q107
   refine ZN (n := 13) (S := fun w' => w'.cell? ⟨gb103, 0, none⟩ = some (u104000) ∧ w'.cell? ⟨gb101, 0, none⟩ = some (.slice (some ad107) l0_0.length c0_0) ∧ w'.cell? (ad107.add (x4_1).toNat) = some (.slice A107_0 (zC l0_0 x4_1).length c107_0)) (ds := [12]) #[false, false, false, false, false, false, false, false, false, false, false, false, false] (by kernel_rfl) rfl rfl ⟨(zJ BK103.out 0).trans rfl, (zJ BK101.out 0).trans rfl, ((HB.out.cell (yoy w _ hw107_0)).trans hw107_0)⟩ (fun hHeld => ?_); refine qx qM.tab5 qM.bits5 (fun HT_ HW_ => ?_)
   generalize wr.drew = w15 at HO_104000 BK101 BK102 BK103 HB HR107_0 hx107_0 hHeld ⊢
   refine zg (i := 0) (N := some 13) (v := ?_) (a' := ?_) #[true, false, false, false, false, false, false, false, false, false, false, false, false] rfl rfl (zb HT_.out (by kernel_rfl)) (fun _ _ _ h => h) (Or.inl ⟨by rfl, ?_⟩) ?_ ?_
   rotate_left
   next =>
    intro w'
    go_simp
    with_reducible rfl
   rotate_left
   next =>
    simp only [Act.put, yay, yby, ycy, zT, zU]
    rfl
   refine zg (i := 3) (N := some 16) (v := ?_) (a' := ?_) #[true, false, false, true, false, false, false, false, false, false, false, false, false] rfl rfl (zb HT_.out (by kernel_rfl)) (fun _ _ _ h => h) (Or.inl ⟨by rfl, ?_⟩) ?_ ?_
   rotate_left
   next =>
    intro w'
    go_simp
    with_reducible rfl
   rotate_left
   next =>
    simp only [Act.put, yay, yby, ycy, zT, zU]
    rfl
   refine zg (i := 5) (N := some 18) (v := ?_) (a' := ?_) #[true, false, false, true, false, true, false, false, false, false, false, false, false] rfl rfl (zb HT_.out (by kernel_rfl)) (fun _ _ _ h => h) (Or.inl ⟨by rfl, ?_⟩) ?_ ?_
   rotate_left
   next =>
    intro w'
    go_simp
    with_reducible rfl
   rotate_left
   next =>
    simp only [Act.put, yay, yby, ycy, zT, zU]
    rfl
   refine qQ (i := 1) (N := some 14) (v := ?_) (a' := ?_) #[true, true, false, true, false, true, false, false, false, false, false, false, false] rfl rfl (zn HT_.out HW_.out (by kernel_rfl)) (fun _ _ _ h => h) (Or.inl ⟨by rfl, ?_⟩) hHeld ?_ ?_
   rotate_left
   next =>
    rintro w' ⟨s0, s1, s2⟩
    go_simp
    with_reducible rfl
   rotate_left
   next =>
    simp only [Act.put, yay, yby, ycy, zT, zU]
    rfl
   refine qQ (i := 4) (N := some 17) (v := ?_) (a' := ?_) #[true, true, false, true, true, true, false, false, false, false, false, false, false] rfl rfl (zn HT_.out HW_.out (by kernel_rfl)) (fun _ _ _ h => h) (Or.inl ⟨by rfl, ?_⟩) hHeld ?_ ?_
   rotate_left
   next =>
    rintro w' ⟨s0, s1, s2⟩
    go_simp
    with_reducible rfl
   rotate_left
   next =>
    simp only [Act.put, yay, yby, ycy, zT, zU]
    rfl
   refine zg (i := 6) (N := some 19) (v := ?_) (a' := ?_) #[true, true, false, true, true, true, true, false, false, false, false, false, false] rfl rfl (zb HT_.out (by kernel_rfl)) (fun _ _ _ h => h) (Or.inl ⟨by rfl, ?_⟩) ?_ ?_
   rotate_left
   next =>
    intro w'
    go_simp
    with_reducible rfl
   rotate_left
   next =>
    simp only [Act.put, yay, yby, ycy, zT, zU]
    rfl
   refine qQ (i := 7) (N := some 20) (v := ?_) (a' := ?_) #[true, true, false, true, true, true, true, true, false, false, false, false, false] rfl rfl (zn HT_.out HW_.out (by kernel_rfl)) (fun _ _ _ h => h) (Or.inl ⟨by rfl, ?_⟩) hHeld ?_ ?_
   rotate_left
   next =>
    rintro w' ⟨s0, s1, s2⟩
    go_simp
    with_reducible rfl
   rotate_left
   next =>
    simp only [Act.put, yay, yby, ycy, zT, zU]
    rfl
   refine QH (i := 2) (N := some 15) #[true, true, true, true, true, true, true, true, false, false, false, false, false] rfl rfl (ZF HT_.out (by kernel_rfl)) (by decide) (fun K hK => ?_)
   refine Kd.JW qJ _ 74 ?hg (N := 15) ?hd (xs := ([] : List (zh))) (inner := []) (ok := fun _ => True) (okp := fun _ => True) ?hr ?hp (fun _ hk => hk) trivial (yqy _ _) (ypy _) (by simp) ?_; (case hd => rfl); (case hg => rfl); (case hr => first | (go_simp; done) | (go_simp; rfl)); (case hp => exact (Zs.none _ _))
   intro v105 w16 ho17 hb hg_ hnew_
   clear hg_ hnew_
   (first | rw [← Ny104.out] at ho17 | (simp only [Int.reduceToNat] at ho17; rw [← Ny104.out] at ho17))
   have n0_ := zA.mk (Kd.zAN (by (with_reducible repeat (first | apply Kd.Ze | apply Kd.QN | apply Kd.Zz)); exact HO_104000.out) (Kd.QI ho17) hb)
   have n1_ := zA.mk (Kd.qy ho17 (zP (by repeat (first | (with_reducible first | exact HB.out | apply zD | apply zB | apply zE | refine zG ?_ GE101.out | refine zG ?_ GE102.out | refine zG ?_ GE103.out) | exact HB.out))))
   have n2_ := zA.mk (zN (g := gb101) (o := .cells #[.slice (some ad107) l0_0.length c0_0] 28 (0, 0)) (by (with_reducible repeat (first | refine zI ?_ _ | refine zK ?_ | refine zH ?_ _)); exact BK101.out) hb)
   have n3_ := zA.mk (zN (g := gb102) (o := .cells #[.slice none 0 0] 28 (0, 0)) (by (with_reducible repeat (first | refine zI ?_ _ | refine zK ?_ | refine zH ?_ _)); exact BK102.out) hb)
   have n4_ := zA.mk (zN (g := gb103) (o := .cells #[u104000] 28 (0, 0)) (by (with_reducible repeat (first | refine zI ?_ _ | refine zK ?_ | refine zH ?_ _)); exact BK103.out) hb)
   have n5_ := zA.mk (zO (by repeat (first | (with_reducible first | exact HB.out | apply zD | apply zB | apply zE | refine zG ?_ GE101.out | refine zG ?_ GE102.out | refine zG ?_ GE103.out) | exact HB.out)) hb)
   clear HO_104000
   clear BK101
   clear BK102
   clear BK103
   clear HB
   have HO_104000 := n0_
   have HO106 := n1_
   have BK101 := n2_
   have BK102 := n3_
   have BK103 := n4_
   have HB := n5_
   clear n0_ n1_ n2_ n3_ n4_ n5_
   clear hb ho17
   refine hK.out _ _ ⟨(zJ BK103.out 0).trans rfl, (zJ BK101.out 0).trans rfl, ((HB.out.cell (yoy w _ hw107_0)).trans hw107_0)⟩ (fun hHeld => ?_)
   clear hK K
   refine ZQ (a' := ?_) ?_ ?_
   rotate_left
   next =>
    show Act.put _ (some 15) _ = _
    simp only [Act.put, yay, yby, ycy, zT, zU]
    rfl
   refine QH (i := 8) (N := some 21) #[true, true, true, true, true, true, true, true, true, false, false, false, false] rfl rfl (ZF HT_.out (by kernel_rfl)) (by decide) (fun K hK => ?_)
   refine Kd.ZT qJ (w0 := w) w.heap.size (by rfl) (.tmp 15) (.tmp 20) 75 74 (.agg #[(.int .i64 0), (.int .i64 0)]) 16 rfl Try.underlying75 zDU rfl (by decide) (by omega) v105 y104 (zC l0_0 x4_1) _ _ _ (fun _ => True) (fun _ => False) rfl rfl ?aO ?aR (fun _ _ h => h) (fun _ h => h.elim) ?aF ?aB ?aS ?aL ?_
   (case aR => repeat (first | exact (Kd.qA HR107_0.out HB.out) | (with_reducible refine Kd.qB ?_ _) | (with_reducible refine Kd.qC ?_ _) | (with_reducible refine Kd.qW ?_)))
   (case aB => exact (by repeat (first | (with_reducible first | exact HB.out | apply zD | apply zB | apply zE | refine zG ?_ GE101.out | refine zG ?_ GE102.out | refine zG ?_ GE103.out) | exact HB.out)))
   (case aF => exact (fun _ _ => trivial))
   (case aO => exact (by (with_reducible repeat (first | apply Kd.zZ | apply Kd.za | apply Kd.zf)); exact HO106.out))
   (case aS => exact (zP (by repeat (first | (with_reducible first | exact HB.out | apply zD | apply zB | apply zE | refine zG ?_ GE101.out | refine zG ?_ GE102.out | refine zG ?_ GE103.out) | exact HB.out))))
   (case aL => have := LMc10.out; omega)
   intro v109 w18 ho hb hg hat
   rw [← Ny108.out] at ho
   have n0_ := zA.mk (Kd.zEb (ok := (fun _ => True)) (by (with_reducible repeat (first | apply Kd.Ze | apply Kd.QN | apply Kd.Zz)); exact HO_104000.out) hg hat)
   have n1_ := zA.mk (zu (g := gb101) (o := .cells #[.slice (some ad107) l0_0.length c0_0] 28 (0, 0)) (by (with_reducible repeat (first | refine zI ?_ _ | refine zK ?_ | refine zH ?_ _)); exact BK101.out) hg (Kd.QA HO106.out BK101.out (by decide)))
   have n2_ := zA.mk (zu (g := gb102) (o := .cells #[.slice none 0 0] 28 (0, 0)) (by (with_reducible repeat (first | refine zI ?_ _ | refine zK ?_ | refine zH ?_ _)); exact BK102.out) hg (Kd.QA HO106.out BK102.out (by decide)))
   have n3_ := zA.mk (zu (g := gb103) (o := .cells #[u104000] 28 (0, 0)) (by (with_reducible repeat (first | refine zI ?_ _ | refine zK ?_ | refine zH ?_ _)); exact BK103.out) hg (Kd.QA HO106.out BK103.out (by decide)))
   have n4_ := zA.mk (hb)
   have n5_ := zA.mk (ho)
   clear HO_104000
   clear BK101
   clear BK102
   clear BK103
   clear HB
   clear HO106
   have HO_104000 := n0_
   have BK101 := n1_
   have BK102 := n2_
   have BK103 := n3_
   have HB := n4_
   have HO110 := n5_
   clear n0_ n1_ n2_ n3_ n4_ n5_
   clear ho hb hg hat
   obtain ⟨Ao20, co20, eo20⟩ := Kd.qv HO110.out
   (first | subst eo20 | (injection eo20 with f1_ f2_ f3_; have f4_ := f1_.symm; have f5_ := f3_.symm; clear f1_ f2_ f3_; subst f4_; subst f5_))
   refine hK.out _ _ ⟨(zJ BK103.out 0).trans rfl, (zJ BK101.out 0).trans rfl, ((HB.out.cell (yoy w _ hw107_0)).trans hw107_0)⟩ (fun hHeld => ?_)
   clear hK K
   refine ZQ (a' := ?_) ?_ ?_
   rotate_left
   next =>
    show Act.put _ (some 21) _ = _
    simp only [Act.put, yay, yby, ycy, zT, zU]
    rfl
   refine QH (i := 9) (N := some 22) #[true, true, true, true, true, true, true, true, true, true, false, false, false] rfl rfl (ZF HT_.out (by kernel_rfl)) (by decide) (fun K hK => ?_)
   refine value_ (w1 := ?_) (v := ?_) (by rfl) rfl ?_ ?_
   rotate_left 2
   next =>
    go_simp
    constructor
    next =>
     rfl
    next =>
     rfl
   refine hK.out _ _ ⟨(zJ (zH BK103.out _) 0).trans rfl, (zJ (zH BK101.out _) 0).trans rfl, (World.cell?_alloc_lt _ _ _ (yoy _ _ (((HB.out.cell (yoy w _ hw107_0)).trans hw107_0)))).trans (((HB.out.cell (yoy w _ hw107_0)).trans hw107_0))⟩ (fun hHeld => ?_)
   clear hK K
   refine ZQ (a' := ?_) ?_ ?_
   rotate_left
   next =>
    show Act.put _ (some 22) _ = _
    simp only [Act.put, yay, yby, ycy, zT, zU]
    rfl
   refine QH (i := 10) (N := some 23) #[true, true, true, true, true, true, true, true, true, true, true, false, false] rfl rfl (ZF HT_.out (by kernel_rfl)) (by decide) (fun K hK => ?_)
   refine Kd.zBO (Kd.slice 74 qJ) (w0 := w) w.heap.size (by rfl) (.tmp 14) (.tmp 22) 26 75 (.slice none 0 0) 24 rfl Try.underlying26 zDV rfl (by decide) (by omega) u104000 x104000_1 y108 [.slice Ao20 y108.length co20] (fun _ => True) (fun k_ => some k_ = (.slice Ao20 y108.length co20 : Value).ownBlock) rfl rfl ?aP (fun k_ hk_ => ((Kd.qR (ok' := fun k_ => ((fun _ => True)) k_ ∧ some k_ ≠ (u104000 : Value).ownBlock) (Kd.Jn (HO110.out) (Kd.zAb HO_104000.out) (by decide)) (fun k_ hk => ⟨trivial, hk.2⟩))).1 k_ hk_.symm) ?aF ?aO ?aB ?aS ?aL ?_
   (case aP => exact Kd.zEX (Kd.qR (Kd.zA3 rfl (Kd.qR (ok' := fun k_ => ((fun _ => True)) k_ ∧ some k_ ≠ (u104000 : Value).ownBlock) (Kd.Jn (HO110.out) (Kd.zAb HO_104000.out) (by decide)) (fun k_ hk => ⟨trivial, hk.2⟩))) (fun _ h_ => h_)))
   (case aB => exact (by repeat (first | (with_reducible first | exact HB.out | apply zD | apply zB | apply zE | refine zG ?_ GE101.out | refine zG ?_ GE102.out | refine zG ?_ GE103.out) | exact HB.out)))
   (case aF => exact (fun _ _ => trivial))
   (case aO => exact (by (with_reducible repeat (first | apply Kd.Ze | apply Kd.QN | apply Kd.Zz)); exact Kd.Qk HO_104000.out (fun k_ hk => ⟨trivial, fun e_ => hk.2 e_⟩)))
   (case aS => exact (zP (by repeat (first | (with_reducible first | exact HB.out | apply zD | apply zB | apply zE | refine zG ?_ GE101.out | refine zG ?_ GE102.out | refine zG ?_ GE103.out) | exact HB.out))))
   (case aL => have := LMc11.out; omega)
   intro v112 w19 ho hb hg hat
   rw [← Ny111.out] at ho
   have n0_ := zA.mk (zu (g := gb101) (o := .cells #[.slice (some ad107) l0_0.length c0_0] 28 (0, 0)) (by (with_reducible repeat (first | refine zI ?_ _ | refine zK ?_ | refine zH ?_ _)); exact BK101.out) hg (Kd.zE0 HO_104000.out BK101.out (by decide)))
   have n1_ := zA.mk (zu (g := gb102) (o := .cells #[.slice none 0 0] 28 (0, 0)) (by (with_reducible repeat (first | refine zI ?_ _ | refine zK ?_ | refine zH ?_ _)); exact BK102.out) hg (Kd.zE0 HO_104000.out BK102.out (by decide)))
   have n2_ := zA.mk (zu (g := gb103) (o := .cells #[u104000] 28 (0, 0)) (by (with_reducible repeat (first | refine zI ?_ _ | refine zK ?_ | refine zH ?_ _)); exact BK103.out) hg (Kd.zE0 HO_104000.out BK103.out (by decide)))
   have n3_ := zA.mk (hb)
   have n4_ := zA.mk (ho)
   clear BK101
   clear BK102
   clear BK103
   clear HB
   clear HO_104000
   clear HO110
   have BK101 := n0_
   have BK102 := n1_
   have BK103 := n2_
   have HB := n3_
   have HO113 := n4_
   clear n0_ n1_ n2_ n3_ n4_
   clear ho hb hg hat
   obtain ⟨Ao21, co21, eo21⟩ := Kd.QY HO113.out
   (first | subst eo21 | (injection eo21 with f1_ f2_ f3_; have f4_ := f1_.symm; have f5_ := f3_.symm; clear f1_ f2_ f3_; subst f4_; subst f5_))
   refine hK.out _ _ ⟨(zJ BK103.out 0).trans rfl, (zJ BK101.out 0).trans rfl, ((HB.out.cell (yoy w _ hw107_0)).trans hw107_0)⟩ (fun hHeld => ?_)
   clear hK K
   refine ZQ (a' := ?_) ?_ ?_
   rotate_left
   next =>
    show Act.put _ (some 23) _ = _
    simp only [Act.put, yay, yby, ycy, zT, zU]
    rfl
   refine zg (i := 11) (N := some 24) (v := ?_) (a' := ?_) #[true, true, true, true, true, true, true, true, true, true, true, true, false] rfl rfl (zb HT_.out (by kernel_rfl)) (fun _ _ _ h => h) (Or.inl ⟨by rfl, ?_⟩) ?_ ?_
   rotate_left
   next =>
    intro w'
    go_simp
    with_reducible rfl
   rotate_left
   next =>
    simp only [Act.put, yay, yby, ycy, zT, zU]
    rfl
   refine zCs (i := 12) (N := none) #[true, true, true, true, true, true, true, true, true, true, true, true, true] rfl rfl (ZF HT_.out (by kernel_rfl)) (by decide) (fun K hK => ?_)
   have hs22 : w19.cell? ⟨gb103, 0, none⟩ = some (u104000) := (zJ BK103.out 0).trans rfl
   have hfs22 := zL BK103.out 0
   have hns22_0 := NB101_103.out
   have hns22_1 := NB102_103.out
   have hms22_0 := NB103_101.out
   have hms22_1 := NB103_102.out
   refine zAJ (w1 := ?_) (by rfl) rfl ?_ ?_
   rotate_left
   next =>
    go_simp
    rfl
   refine hK.out _ _ ?_
   clear hK K
   refine Zo (ZS HT_.out (by kernel_rfl)) ?_
   try go_wp2
   go_roundg k1
   case measure => have := HK1.out; omega
   case rel => exact ⟨(wrap64 (x4_1 + 1)), (y111), (.slice Ao21 y111.length co21), (by first | rfl | (simp; done) | (simp [*]; done)), H', ⟨by have := HK1.out; omega⟩, ⟨by (with_reducible repeat (first | apply Kd.Ze | apply Kd.QN | apply Kd.Zz)); exact Kd.Qk (Kd.zBk (p := ⟨gb103, 0, none⟩) (Kd.Jc HO113.out BK103.out (by decide)) (fun _ hk => hk.2) (.slice Ao21 y111.length co21)) (fun _ hk => trivial)⟩, ⟨by (with_reducible repeat (first | refine zI ?_ _ | refine zK ?_ | refine zH ?_ _)); refine zv ?_ NB101_103.out _; (with_reducible repeat (first | refine zI ?_ _ | refine zK ?_ | refine zH ?_ _)); exact BK101.out⟩, ⟨by (with_reducible repeat (first | refine zI ?_ _ | refine zK ?_ | refine zH ?_ _)); refine zv ?_ NB102_103.out _; (with_reducible repeat (first | refine zI ?_ _ | refine zK ?_ | refine zH ?_ _)); exact BK102.out⟩, ⟨by (with_reducible repeat (first | refine zI ?_ _ | refine zK ?_ | refine zH ?_ _)); refine qH (cs := #[u104000]) ?_ 0 _ rfl; (with_reducible repeat (first | refine zI ?_ _ | refine zK ?_ | refine zH ?_ _)); exact BK103.out⟩, ⟨by repeat (first | (with_reducible first | exact HB.out | apply zD | apply zB | apply zE | refine zG ?_ GE101.out | refine zG ?_ GE102.out | refine zG ?_ GE103.out) | exact HB.out)⟩⟩
def QQ (k : Nat) : Bool := decide (∀ m : Fin 24, zr.f k (m.val : Int) = some (JD (m.val : Int))) && (decide (∀ m n : Fin 24, qZ.f k (m.val : Int) (n.val : Int) = some (QD (m.val : Int) (n.val : Int))) && decide (∀ (m : Fin 24) (f : Fin 4), qz.f k (m.val : Int) (f.val : Int) = some (rd (ZR (m.val : Int)) (f.val : Int))))
theorem zBV {p : Int} (h0 : 0 ≤ p) (h1 : p ≤ 23) : ∃ m : Fin 24, p = (m.val : Int) := ⟨⟨p.toNat, by omega⟩, by simp; omega⟩
theorem Ju {k : Nat} (h : QQ k = true) : (∀ m : Fin 24, zr.f k (m.val : Int) = some (JD (m.val : Int))) ∧ (∀ m n : Fin 24, qZ.f k (m.val : Int) (n.val : Int) = some (QD (m.val : Int) (n.val : Int))) ∧ (∀ (m : Fin 24) (f : Fin 4), qz.f k (m.val : Int) (f.val : Int) = some (rd (ZR (m.val : Int)) (f.val : Int))) := by
 unfold QQ at h
 rw [Bool.and_eq_true, Bool.and_eq_true, decide_eq_true_eq, decide_eq_true_eq, decide_eq_true_eq] at h
 exact h
theorem zBq {k : Nat} (h : QQ k = true) : QQ (k + 1) = true := by
 obtain ⟨a, b, c⟩ := Ju h
 unfold QQ
 rw [Bool.and_eq_true, Bool.and_eq_true, decide_eq_true_eq, decide_eq_true_eq, decide_eq_true_eq]
 exact ⟨fun m => zr.mono _ k _ (a m), fun m n => qZ.mono _ _ k _ (b m n), fun m f => qz.mono _ _ k _ (c m f)⟩
theorem zBr {k : Nat} (h : QQ k = true) {p : Int} (h0 : 0 ≤ p) (h1 : p ≤ 23) : zr.f k p = some (JD p) := by
 obtain ⟨m, rfl⟩ := zBV h0 h1; exact (Ju h).1 m
theorem zAF {k : Nat} (h : QQ k = true) {p q : Int} (h0 : 0 ≤ p) (h1 : p ≤ 23) (h2 : 0 ≤ q) (h3 : q ≤ 23) : qZ.f k p q = some (QD p q) := by
 obtain ⟨m, rfl⟩ := zBV h0 h1; obtain ⟨n, rfl⟩ := zBV h2 h3; exact (Ju h).2.1 m n
theorem zCy {k : Nat} (h : QQ k = true) {p f : Int} (h0 : 0 ≤ p) (h1 : p ≤ 23) (h2 : 0 ≤ f) (h3 : f < 4) : qz.f k p f = some (rd (ZR p) f) := by
 obtain ⟨m, rfl⟩ := zBV h0 h1
 obtain ⟨n, rfl⟩ : ∃ m : Fin 4, f = (m.val : Int) := ⟨⟨f.toNat, by omega⟩, by simp; omega⟩
 exact (Ju h).2.2 m n
def ZJ.f (k : Nat) (t : List (List zh)) (ts ps : List Int) : Option (List (List zh)) := (qM.f k t).bind fun u => if zBn t ts ps = true then (if QQ k = true then (if u.length = t.length then some (zAl t ts ps t.length u) else none) else none) else none
set_option maxHeartbeats 8000000 in
set_option maxRecDepth 100000 in
theorem ZJ.calls (k : Nat) (A0_0 : Option Addr) (c0_0 : Nat) (l0_0 : List (List zh)) (A1 : Option Addr) (c1 : Nat) (l1 : List Int) (A2 : Option Addr) (c2 : Nat) (l2 : List Int) (r : List (List zh)) (w : World) (hr0_0 : Kd.C (Kd.slice 74 qJ) w A0_0 l0_0.length l0_0) (hc0_0 : l0_0.length ≤ c0_0) (hr1 : Kd.C (Kd.int .i64) w A1 l1.length l1) (hc1 : l1.length ≤ c1) (hr2 : Kd.C (Kd.int .i64) w A2 l2.length l2) (hc2 : l2.length ≤ c2) (h : ZJ.f k l0_0 l1 l2 = some r) :
 Calls Try.prog 85 #[.agg #[.slice A0_0 l0_0.length c0_0], .slice A1 l1.length c1, .slice A2 l2.length c2] w fun e w' => ∃ v0_ : Value, e = .returned (.agg #[v0_]) ∧ Kd.S (Kd.slice 74 qJ) 75 w' w.heap.size (fun _ => True) v0_ r ∧ Below w.heap.size w w' := by
 unfold ZJ.f at h
 obtain ⟨u0, how, h⟩ := ydy.mp h
 by_cases hok : zBn l0_0 l1 l2 = true
 case neg => rw [if_neg hok] at h; cases h
 rw [if_pos hok] at h
 by_cases hpk : QQ k = true
 case neg => rw [if_neg hpk] at h; cases h
 rw [if_pos hpk] at h
 by_cases hul : u0.length = l0_0.length
 case neg => rw [if_neg hul] at h; cases h
 rw [if_pos hul] at h
 have hr := yey h
 clear h
 obtain ⟨hbig, h4, hf, ht, hts, hp, hps⟩ := zDY hok
 clear hok
 have HR := zA.mk hr0_0
 have HC := zA.mk hc0_0
 have HT := zA.mk hr1
 have HP := zA.mk hr2
 have H4 := zA.mk h4
 have HF := zA.mk hf
 have HTS := zA.mk hts
 have HPS := zA.mk hps
 have HRR := zA.mk hr
 have L1 := zA.mk ht
 have L2 := zA.mk hp
 have HOW := zA.mk how
 have HPK := zA.mk hpk
 have HU := zA.mk hul
 clear hr0_0 hr1 hr2 h4 hf hts hps hr hc0_0 hc1 hc2 ht hp how hpk hul
 have B3 := zA.mk (zH (ZH (W := w) rfl (.cells #[.slice A0_0 l0_0.length c0_0] 28)) (.cells #[.slice none 0 0] 28))
 have B6 := zA.mk (ZH (W := w.alloc (.cells #[.slice A0_0 l0_0.length c0_0] 28)) (n := w.heap.size + 1) (by simp) (.cells #[.slice none 0 0] 28))
 have HB := zA.mk (zD (zD (yqy w.heap.size w) (.cells #[.slice A0_0 l0_0.length c0_0] 28)) (.cells #[.slice none 0 0] 28))
 go_enter Try.func85, Try.ntmps85
 go_wp2_with fail
 generalize World.alloc (World.alloc w _) _ = w0 at B3 B6 HB ⊢
 refine (qM.calls k A0_0 c0_0 l0_0 u0 w0 (Kd.qA HR.out HB.out) HC.out HOW.out).mono ?_
 rintro e w3 ⟨v1, rfl, ho, hb⟩
 have HO := zA.mk (Kd.JN ho (zP HB.out))
 have B32 := zA.mk (zN B3.out hb)
 have B62 := zA.mk (zN B6.out hb)
 have HB2 := zA.mk (zO HB.out hb)
 clear ho hb B3 B6 HB HOW
 have B3 := B32
 have B6 := B62
 have HB := HB2
 clear B32 B62 HB2
 obtain ⟨A7, c7, ev⟩ := Kd.QY HO.out
 rw [HU.out] at ev
 subst ev
 have B7 := zA.mk (ZH (W := w3) rfl (.cells #[.slice A7 l0_0.length c7] 28))
 have HO2 := zA.mk (Kd.Ze HO.out (.cells #[.slice A7 l0_0.length c7] 28))
 have B32 := zA.mk (zH B3.out (.cells #[.slice A7 l0_0.length c7] 28))
 have B62 := zA.mk (zH B6.out (.cells #[.slice A7 l0_0.length c7] 28))
 have HB2 := zA.mk (zD HB.out (.cells #[.slice A7 l0_0.length c7] 28))
 have G7 := zA.mk (show w.heap.size + 1 < w3.heap.size from qE B6.out)
 clear HO B3 B6 HB
 have HO := HO2
 have B3 := B32
 have B6 := B62
 have HB := HB2
 clear HO2 B32 B62 HB2
 go_wp2
 generalize hg7 : w3.heap.size = g7 at *
 have GG := G7.out
 go_loopg [8] l0_0.length (fun gg v8 w' => ∃ i : Nat, i ≤ l0_0.length ∧ l0_0.length - i ≤ gg ∧ v8 = .int .i64 i ∧ zA (Kd.S (Kd.slice 74 qJ) 75 w' w.heap.size (fun _ => True) (.slice A7 l0_0.length c7) (zAl l0_0 l1 l2 i u0)) ∧ zA (w'.heap[w.heap.size]? = some (.cells #[.slice A0_0 l0_0.length c0_0] 28 (0, 0))) ∧ zA (w'.heap[w.heap.size + 1]? = some (.cells #[.slice none 0 0] 28 (0, 0))) ∧ zA (w'.heap[g7]? = some (.cells #[.slice A7 l0_0.length c7] 28 (0, 0))) ∧ zA (Below w.heap.size w w'))
 case atStart => exact ⟨0, Nat.zero_le _, by omega, rfl, HO, B3, B6, B7, HB⟩
 case round =>
  clear HO B3 B6 B7 HB hg7
  obtain ⟨i, hi, hg, rfl, HO, B3, B6, B7, HB⟩ := hrel
  have hx3 : wr.cell? ⟨w.heap.size, 0, none⟩ = some (.slice A0_0 l0_0.length c0_0) := (zJ B3.out 0).trans rfl
  by_cases hlt : i < l0_0.length
  rotate_left
  next =>
   obtain rfl : i = l0_0.length := by omega
   have hcz7 : wr.cell? ⟨g7, 0, none⟩ = some (.slice A7 l0_0.length c7) := (zJ B7.out 0).trans rfl
   have hcz6 : wr.cell? ⟨w.heap.size + 1, 0, none⟩ = some (.slice none 0 0) := (zJ B6.out 0).trans rfl
   have hfz6 := zL B6.out 0
   go_wp2
   refine bodyPost_ret (results_cell_row rfl _ _ (w.heap.size + 1) 28 #[.slice A7 l0_0.length c7] (0, 0) _ rfl (qH (cs := #[.slice none 0 0]) B6.out 0 _ rfl) Try.underlying28 rfl (by kernel_rfl)) rfl ?_
   refine ⟨_, rfl, ?_, zG HB.out (by omega)⟩
   rw [← HRR.out]
   exact Kd.zDz HO.out B6.out (by decide) 0 _
  have hltz : (i : Int) < (l0_0.length : Int) := by omega
  have hl1z : (i : Int) < (l1.length : Int) := by have := L1.out; omega
  have hl2z : (i : Int) < (l2.length : Int) := by have := L2.out; omega
  obtain ⟨ay, A3, c3, e4, hy, hl3, hi3⟩ := qt HR.out (i : Int) (by omega) hltz
  subst e4
  rw [yny] at hy
  have ex : zC l0_0 (i : Int) = l0_0[i] := by simp [zC, hlt]
  have h4 := H4.out l0_0[i] (List.getElem_mem hlt)
  have HFR := zA.mk (HF.out l0_0[i] (List.getElem_mem hlt))
  have HPB := zA.mk (Je HPS.out (i := (i : Int)) (by omega) hl2z)
  have HTB := zA.mk (Je HTS.out (i := (i : Int)) (by omega) hl1z)
  rw [← ex] at h4 HFR
  obtain ⟨aps, eps, hps0⟩ := Kd.qi HP.out (i : Int) (by omega) hl2z
  obtain ⟨ats, ets, hts0⟩ := Kd.qi HT.out (i : Int) (by omega) hl1z
  subst eps
  subst ets
  rw [yny] at hps0 hts0
  have HY := zA.mk hi3
  rw [h4] at hy
  clear hl3 hi3 ex
  have HYC := zA.mk hy
  have HPS0 := zA.mk hps0
  have HTS0 := zA.mk hts0
  have H4R := zA.mk h4
  clear hps0 hts0 h4 hy
  have HRK := zA.mk (show zAl l0_0 l1 l2 (i + 1) u0 = (zAl l0_0 l1 l2 i u0).set (rd l1 (i : Int)).toNat (zCc l0_0 l1 l2 (i : Int) 4) from rfl)
  generalize rd l1 (i : Int) = tsi at *
  generalize hpsi : rd l2 (i : Int) = ps at *
  have HPSI := zA.mk hpsi
  clear hpsi
  go_wp2_with fail
  refine (JU.calls (List.replicate 4 (⟨-1, 0⟩ : zh)) _ rfl).mono ?_
  rintro e w7 ⟨v10, rfl, ho10, hb⟩
  have HM := zA.mk (Kd.qy ho10 (zP HB.out))
  have HO2 := zA.mk (Kd.Qk (ok' := fun k => some k ≠ v10.ownBlock) (Kd.zAN HO.out (Kd.QI ho10) hb) (fun k hk => hk.2))
  have B32 := zA.mk (zN B3.out hb)
  have B62 := zA.mk (zN B6.out hb)
  have B72 := zA.mk (zN B7.out hb)
  have HB2 := zA.mk (zO HB.out hb)
  clear HO B3 B6 B7 HB
  have HO := HO2
  have B3 := B32
  have B6 := B62
  have B7 := B72
  have HB := HB2
  clear HO2 B32 B62 B72 HB2
  clear hb ho10 hx3
  obtain ⟨gm, cm, ev, hgm, hgl, cells, hcl⟩ := Kd.JJ HM.out (by decide)
  replace ev : v10 = .slice (some ⟨gm, 0, none⟩) 4 cm := ev
  subst ev
  have GM := zA.mk hgm
  clear hgm hgl hcl cells
  go_wp2
  go_loopg [10] 4 (fun gg v10 w' => ∃ f : Nat, f ≤ 4 ∧ 4 - f ≤ gg ∧ v10 = .int .i64 f ∧ zA (Kd.R qJ 74 w' w.heap.size (fun _ => True) (.slice (some ⟨gm, 0, none⟩) 4 cm) (zCc l0_0 l1 l2 (i : Int) f)) ∧ zA (Kd.S (Kd.slice 74 qJ) 75 w' w.heap.size (fun k => some k ≠ (Value.slice (some ⟨gm, 0, none⟩) 4 cm).ownBlock) (.slice A7 l0_0.length c7) (zAl l0_0 l1 l2 i u0)) ∧ zA (w'.heap[w.heap.size]? = some (.cells #[.slice (some ay) l0_0.length c0_0] 28 (0, 0))) ∧ zA (w'.heap[w.heap.size + 1]? = some (.cells #[.slice none 0 0] 28 (0, 0))) ∧ zA (w'.heap[g7]? = some (.cells #[.slice A7 l0_0.length c7] 28 (0, 0))) ∧ zA (Below w.heap.size w w'))
  case atStart => exact ⟨0, by omega, by omega, rfl, HM, HO, B3, B6, B7, HB⟩
  case round =>
   clear HM HO B3 B6 B7 HB
   obtain ⟨f, hf4, hgf, rfl, HM, HO, B3, B6, B7, HB⟩ := hrel
   by_cases hlf : f < 4
   rotate_left
   next =>
    obtain rfl : f = 4 := by omega
    obtain ⟨go, co, ev, hgo, hgl, cells, hcl⟩ := Kd.zCV HO.out (by rw [Zq, HU.out]; omega)
    injection ev with e1 e2 e3
    subst e1
    subst e3
    clear e2 hgl hcl cells
    have GO := zA.mk hgo
    clear hgo
    have ht0 := (HB.out.cell (yoy w _ HTS0.out)).trans HTS0.out
    have t0 := eq_true HTB.out.1
    have t1 := eq_true HTB.out.2
    have t2 := eq_true (show 0 ≤ (i : Int) by omega)
    have t3 := eq_true hl1z
    go_wp2
    refine ZN (n := 9) (S := fun w' => w'.cell? ⟨g7, 0, none⟩ = some (.slice (some ⟨go, 0, none⟩) l0_0.length c7) ∧ w'.cell? (ats.add i) = some (.int .i64 tsi)) (ds := [8]) #[false, false, false, false, false, false, false, false, false] (by kernel_rfl) rfl rfl ⟨(zJ B7.out 0).trans rfl, ht0⟩ (fun hHeld => ?_)
    have HO2 := zA.mk (Kd.Zz HO.out)
    have HM2 := zA.mk (Kd.zf HM.out)
    have B32 := zA.mk (zK B3.out)
    have B62 := zA.mk (zK B6.out)
    have B72 := zA.mk (zK B7.out)
    have HB2 := zA.mk (zE HB.out)
    clear HO HM B3 B6 B7 HB
    have HO := HO2
    have HM := HM2
    have B3 := B32
    have B6 := B62
    have B7 := B72
    have HB := HB2
    clear HO2 HM2 B32 B62 B72 HB2
    generalize wr.drew = w16 at HO HM B3 B6 B7 HB hHeld ⊢
    refine zg (i := 0) (N := some 67) (v := ?_) (a' := ?_) #[true, false, false, false, false, false, false, false, false] rfl rfl (by kernel_rfl) (fun _ _ _ h => h) (Or.inl ⟨by rfl, ?_⟩) ?_ ?_
    rotate_left
    next =>
     intro w'
     go_simp
     with_reducible rfl
    rotate_left
    next =>
     simp only [Act.put, yay, yby, ycy, zT, zU]
     rfl
    refine qQ (i := 1) (N := some 68) (v := ?_) (a' := ?_) #[true, true, false, false, false, false, false, false, false] rfl rfl (by kernel_rfl) (fun _ _ _ h => h) (Or.inl ⟨by rfl, ?_⟩) hHeld ?_ ?_
    rotate_left
    next =>
     rintro w' ⟨s0, s1⟩
     go_simp
     with_reducible rfl
    rotate_left
    next =>
     simp only [Act.put, yay, yby, ycy, zT, zU]
     rfl
    refine zg (i := 2) (N := some 69) (v := ?_) (a' := ?_) #[true, true, true, false, false, false, false, false, false] rfl rfl (by kernel_rfl) (fun _ _ _ h => h) (Or.inl ⟨by rfl, ?_⟩) ?_ ?_
    rotate_left
    next =>
     intro w'
     go_simp
     with_reducible rfl
    rotate_left
    next =>
     simp only [Act.put, yay, yby, ycy, zT, zU]
     rfl
    refine zg (i := 3) (N := some 70) (v := ?_) (a' := ?_) #[true, true, true, true, false, false, false, false, false] rfl rfl (by kernel_rfl) (fun _ _ _ h => h) (Or.inl ⟨by rfl, ?_⟩) ?_ ?_
    rotate_left
    next =>
     intro w'
     go_simp
     with_reducible rfl
    rotate_left
    next =>
     simp only [Act.put, yay, yby, ycy, zT, zU]
     rfl
    refine zg (i := 4) (N := some 71) (v := ?_) (a' := ?_) #[true, true, true, true, true, false, false, false, false] rfl rfl (by kernel_rfl) (fun _ _ _ h => h) (Or.inl ⟨by rfl, ?_⟩) ?_ ?_
    rotate_left
    next =>
     intro w'
     go_simp
     with_reducible rfl
    rotate_left
    next =>
     simp only [Act.put, yay, yby, ycy, zT, zU]
     rfl
    refine qQ (i := 5) (N := some 72) (v := ?_) (a' := ?_) #[true, true, true, true, true, true, false, false, false] rfl rfl (by kernel_rfl) (fun _ _ _ h => h) (Or.inl ⟨by rfl, ?_⟩) hHeld ?_ ?_
    rotate_left
    next =>
     rintro w' ⟨s0, s1⟩
     go_simp
     with_reducible rfl
    rotate_left
    next =>
     simp only [Act.put, yay, yby, ycy, zT, zU]
     rfl
    refine zg (i := 6) (N := some 73) (v := ?_) (a' := ?_) #[true, true, true, true, true, true, true, false, false] rfl rfl (by kernel_rfl) (fun _ _ _ h => h) (Or.inl ⟨by rfl, ?_⟩) ?_ ?_
    rotate_left
    next =>
     intro w'
     go_simp
     with_reducible rfl
    rotate_left
    next =>
     simp only [Act.put, yay, yby, ycy, zT, zU]
     rfl
    refine zg (i := 7) (N := some 74) (v := ?_) (a' := ?_) #[true, true, true, true, true, true, true, true, false] rfl rfl (by kernel_rfl) (fun _ _ _ h => h) (Or.inl ⟨by rfl, ?_⟩) ?_ ?_
    rotate_left
    next =>
     intro w'
     go_simp
     with_reducible rfl
    rotate_left
    next =>
     simp only [Act.put, yay, yby, ycy, zT, zU]
     rfl
    obtain ⟨⟨old, hx0⟩, hz0, hSS, hgr⟩ := zDZ HO.out HM.out tsi HTB.out.1 HTB.out.2
    refine zCs (i := 8) (N := none) #[true, true, true, true, true, true, true, true, true] rfl rfl (by kernel_rfl) (by decide) (fun K hK => ?_)
    refine zAJ (w1 := ?_) (by rfl) rfl ?_ ?_
    rotate_left
    next =>
     go_simp
     rfl
    refine hK.out _ _ ?_
    clear hK K
    refine Zo (by kernel_rfl) ?_
    have HO2 := zA.mk hSS
    have B32 := zA.mk (zu B3.out hgr (Kd.zE0 HO.out B3.out (by decide)))
    have B62 := zA.mk (zu B6.out hgr (Kd.zE0 HO.out B6.out (by decide)))
    have B72 := zA.mk (zu B7.out hgr (Kd.zE0 HO.out B7.out (by decide)))
    have HB2 := zA.mk (zG (j := tsi.toNat) (v := .slice (some ⟨gm, 0, none⟩) 4 cm) HB.out GO.out)
    clear hSS hgr hx0 hz0 HM
    clear HO B3 B6 B7 HB
    have HO := HO2
    have B3 := B32
    have B6 := B62
    have B7 := B72
    have HB := HB2
    clear HO2 B32 B62 B72 HB2
    generalize w16.setCell ⟨go, tsi.toNat, none⟩ (.slice (some ⟨gm, 0, none⟩) 4 cm) = w17 at HO B3 B6 B7 HB ⊢
    go_wp2
    go_roundg (l0_0.length - (i + 1))
    case measure => omega
    case rel => exact ⟨i + 1, by omega, ypy _, by go_num, ⟨by rw [HRK.out]; exact HO.out⟩, B3, B6, B7, HB⟩
   have hlfz : (f : Int) < 4 := by omega
   have hlr : (f : Int) < ((zC l0_0 (i : Int)).length : Int) := by have := H4R.out; omega
   obtain ⟨ad2, e2, hy2, hy3⟩ := ZM HY.out (f : Int) (by omega) hlr
   subst e2
   have hx3 : wr.cell? ⟨w.heap.size, 0, none⟩ = some (.slice (some ay) l0_0.length c0_0) := (zJ B3.out 0).trans rfl
   have hy := (HB.out.cell (yoy w _ HYC.out)).trans HYC.out
   replace hy2 := (HB.out.cell (yoy w _ hy2)).trans hy2
   replace hy3 := (HB.out.cell (yoy w _ hy3)).trans hy3
   rw [yny] at hy2 hy3
   have HK := zA.mk (show zCc l0_0 l1 l2 (i : Int) (f + 1) = if (zF (zC l0_0 (i : Int)) (f : Int)).f0 < 0 then zCc l0_0 l1 l2 (i : Int) f else (zCc l0_0 l1 l2 (i : Int) f).set (rd (ZR ps) (f : Int)).toNat ⟨rd l1 (zF (zC l0_0 (i : Int)) (f : Int)).f0, QD (QD (JD ps) (zF (zC l0_0 (i : Int)) (f : Int)).f1) (rd l2 (zF (zC l0_0 (i : Int)) (f : Int)).f0)⟩ from by rw [← HPSI.out]; rfl)
   have hlt2 : f < (zC l0_0 (i : Int)).length := by omega
   have exf : zF (zC l0_0 (i : Int)) (f : Int) = (zC l0_0 (i : Int))[f] := by simp [zF, hlt2]
   have HFB := zA.mk (HFR.out (zF (zC l0_0 (i : Int)) (f : Int)) (by rw [exf]; exact List.getElem_mem hlt2))
   clear exf hlt2
   generalize zF (zC l0_0 (i : Int)) (f : Int) = y at hy2 hy3 HK HFB
   obtain ⟨f0, f1⟩ := y
   clear hlr
   have BF := zA.mk (ZH (W := wr) rfl (.cells #[.int .i64 f0, .int .i64 f1] 74))
   have G8 := zA.mk (show w.heap.size ≤ wr.heap.size from zP HB.out)
   have HO2 := zA.mk (Kd.Ze HO.out (.cells #[.int .i64 f0, .int .i64 f1] 74))
   have HM2 := zA.mk (Kd.zZ HM.out (.cells #[.int .i64 f0, .int .i64 f1] 74))
   have B32 := zA.mk (zH B3.out (.cells #[.int .i64 f0, .int .i64 f1] 74))
   have B62 := zA.mk (zH B6.out (.cells #[.int .i64 f0, .int .i64 f1] 74))
   have B72 := zA.mk (zH B7.out (.cells #[.int .i64 f0, .int .i64 f1] 74))
   have HB2 := zA.mk (zD HB.out (.cells #[.int .i64 f0, .int .i64 f1] 74))
   clear HO HM B3 B6 B7 HB
   have HO := HO2
   have HM := HM2
   have B3 := B32
   have B6 := B62
   have B7 := B72
   have HB := HB2
   clear HO2 HM2 B32 B62 B72 HB2
   by_cases hb : f0 < 0
   next =>
    have HK2 := zA.mk (HK.out.trans (if_pos hb))
    have d0 : decide (0 ≤ f0) = false := yhy (by omega)
    clear HK HFB
    go_wp2
    go_roundg (4 - (f + 1))
    case measure => omega
    case rel => exact ⟨f + 1, by omega, by omega, by go_num, ⟨by rw [HK2.out]; exact HM.out⟩, HO, B3, B6, B7, HB⟩
   next =>
    have HK2 := zA.mk (HK.out.trans (if_neg hb))
    have d0 : decide (0 ≤ f0) = true := ygy (by omega)
    have HFB9 := zA.mk (show 0 ≤ f0 ∧ f0 < (l0_0.length : Int) ∧ 0 ≤ f1 ∧ f1 ≤ 23 from HFB.out (by first | exact hb | (show (0 : Int) ≤ f0; omega)))
    clear HK HFB
    have HFB := HFB9
    clear HFB9
    go_wp2
    have g0 := HFB.out.1
    have g1 : f0 < (l1.length : Int) := by have := HFB.out.2.1; have := L1.out; omega
    have g2 : f0 < (l2.length : Int) := by have := HFB.out.2.1; have := L2.out; omega
    obtain ⟨apx, epx, hp1⟩ := Kd.qi HP.out f0 g0 g2
    obtain rfl : aps = apx := by injection epx
    obtain ⟨atx, etx, ht1⟩ := Kd.qi HT.out f0 g0 g1
    obtain rfl : ats = atx := by injection etx
    have HPB2 := zA.mk (zCe HPB.out.1 HPB.out.2)
    have HPB3 := zA.mk (zCd HPB2.out.1 HPB2.out.2 HFB.out.2.2.1 HFB.out.2.2.2)
    have HPT := zA.mk (Je HPS.out g0 g2)
    clear epx etx hy hy2 hy3 hx3 hb d0
    generalize hw9 : wr.alloc (.cells #[.int .i64 f0, .int .i64 f1] 74) = w9 at HO HM B3 B6 B7 BF HB ⊢
    generalize wr.heap.size = gf at BF ⊢
    clear hw9
    generalize rd l1 f0 = tt at *
    generalize rd l2 f0 = pt at *
    replace hp1 := (HB.out.cell (yoy w _ hp1)).trans hp1
    replace ht1 := (HB.out.cell (yoy w _ ht1)).trans ht1
    have hp0 := (HB.out.cell (yoy w _ HPS0.out)).trans HPS0.out
    have p0 := eq_true g0
    have p1 := eq_true g1
    have p2 := eq_true g2
    refine ZN (n := 15) (S := fun w' => w'.cell? (aps.add i) = some (.int .i64 ps) ∧ w'.cell? ⟨gf, 0, none⟩ = some (.int .i64 f0) ∧ w'.cell? ⟨gf, 1, none⟩ = some (.int .i64 f1) ∧ w'.cell? (aps.add f0.toNat) = some (.int .i64 pt)) (ds := []) #[false, false, false, false, false, false, false, false, false, false, false, false, false, false, false] (by kernel_rfl) rfl rfl ⟨hp0, (zJ BF.out 0).trans rfl, (zJ BF.out 1).trans rfl, hp1⟩ (fun hHeld => ?_)
    have HO2 := zA.mk (Kd.Zz HO.out)
    have HM2 := zA.mk (Kd.zf HM.out)
    have B32 := zA.mk (zK B3.out)
    have B62 := zA.mk (zK B6.out)
    have B72 := zA.mk (zK B7.out)
    have BF2 := zA.mk (zK BF.out)
    have HB2 := zA.mk (zE HB.out)
    clear HO HM B3 B6 B7 BF HB
    have HO := HO2
    have HM := HM2
    have B3 := B32
    have B6 := B62
    have B7 := B72
    have BF := BF2
    have HB := HB2
    clear HO2 HM2 B32 B62 B72 BF2 HB2
    replace hp0 : w9.drew.cell? (aps.add i) = some (.int .i64 ps) := hp0
    replace hp1 : w9.drew.cell? (aps.add f0.toNat) = some (.int .i64 pt) := hp1
    replace ht1 : w9.drew.cell? (ats.add f0.toNat) = some (.int .i64 tt) := ht1
    generalize w9.drew = w10 at HO HM B3 B6 B7 BF HB hp0 hp1 ht1 hHeld ⊢
    refine zg (i := 0) (N := some 38) (v := ?_) (a' := ?_) #[true, false, false, false, false, false, false, false, false, false, false, false, false, false, false] rfl rfl (by kernel_rfl) (fun _ _ _ h => h) (Or.inl ⟨by rfl, ?_⟩) ?_ ?_
    rotate_left
    next =>
     intro w'
     go_simp
     with_reducible rfl
    rotate_left
    next =>
     simp only [Act.put, yay, yby, ycy, zT, zU]
     rfl
    refine zg (i := 1) (N := some 39) (v := ?_) (a' := ?_) #[true, true, false, false, false, false, false, false, false, false, false, false, false, false, false] rfl rfl (by kernel_rfl) (fun _ _ _ h => h) (Or.inl ⟨by rfl, ?_⟩) ?_ ?_
    rotate_left
    next =>
     intro w'
     go_simp
     with_reducible rfl
    rotate_left
    next =>
     simp only [Act.put, yay, yby, ycy, zT, zU]
     rfl
    refine zg (i := 2) (N := some 40) (v := ?_) (a' := ?_) #[true, true, true, false, false, false, false, false, false, false, false, false, false, false, false] rfl rfl (by kernel_rfl) (fun _ _ _ h => h) (Or.inl ⟨by rfl, ?_⟩) ?_ ?_
    rotate_left
    next =>
     intro w'
     go_simp
     with_reducible rfl
    rotate_left
    next =>
     simp only [Act.put, yay, yby, ycy, zT, zU]
     rfl
    refine qQ (i := 3) (N := some 41) (v := ?_) (a' := ?_) #[true, true, true, true, false, false, false, false, false, false, false, false, false, false, false] rfl rfl (by kernel_rfl) (fun _ _ _ h => h) (Or.inl ⟨by rfl, ?_⟩) hHeld ?_ ?_
    rotate_left
    next =>
     rintro w' ⟨s0, s1, s2, s3⟩
     go_simp
     with_reducible rfl
    rotate_left
    next =>
     simp only [Act.put, yay, yby, ycy, zT, zU]
     rfl
    refine zg (i := 5) (N := some 43) (v := ?_) (a' := ?_) #[true, true, true, true, false, true, false, false, false, false, false, false, false, false, false] rfl rfl (by kernel_rfl) (fun _ _ _ h => h) (Or.inl ⟨by rfl, ?_⟩) ?_ ?_
    rotate_left
    next =>
     intro w'
     go_simp
     with_reducible rfl
    rotate_left
    next =>
     simp only [Act.put, yay, yby, ycy, zT, zU]
     rfl
    refine qQ (i := 6) (N := some 44) (v := ?_) (a' := ?_) #[true, true, true, true, false, true, true, false, false, false, false, false, false, false, false] rfl rfl (by kernel_rfl) (fun _ _ _ h => h) (Or.inl ⟨by rfl, ?_⟩) hHeld ?_ ?_
    rotate_left
    next =>
     rintro w' ⟨s0, s1, s2, s3⟩
     go_simp
     with_reducible rfl
    rotate_left
    next =>
     simp only [Act.put, yay, yby, ycy, zT, zU]
     rfl
    refine zg (i := 8) (N := some 46) (v := ?_) (a' := ?_) #[true, true, true, true, false, true, true, false, true, false, false, false, false, false, false] rfl rfl (by kernel_rfl) (fun _ _ _ h => h) (Or.inl ⟨by rfl, ?_⟩) ?_ ?_
    rotate_left
    next =>
     intro w'
     go_simp
     with_reducible rfl
    rotate_left
    next =>
     simp only [Act.put, yay, yby, ycy, zT, zU]
     rfl
    refine zg (i := 9) (N := some 47) (v := ?_) (a' := ?_) #[true, true, true, true, false, true, true, false, true, true, false, false, false, false, false] rfl rfl (by kernel_rfl) (fun _ _ _ h => h) (Or.inl ⟨by rfl, ?_⟩) ?_ ?_
    rotate_left
    next =>
     intro w'
     go_simp
     with_reducible rfl
    rotate_left
    next =>
     simp only [Act.put, yay, yby, ycy, zT, zU]
     rfl
    refine qQ (i := 10) (N := some 48) (v := ?_) (a' := ?_) #[true, true, true, true, false, true, true, false, true, true, true, false, false, false, false] rfl rfl (by kernel_rfl) (fun _ _ _ h => h) (Or.inl ⟨by rfl, ?_⟩) hHeld ?_ ?_
    rotate_left
    next =>
     rintro w' ⟨s0, s1, s2, s3⟩
     go_simp
     with_reducible rfl
    rotate_left
    next =>
     simp only [Act.put, yay, yby, ycy, zT, zU]
     rfl
    refine zg (i := 11) (N := some 49) (v := ?_) (a' := ?_) #[true, true, true, true, false, true, true, false, true, true, true, true, false, false, false] rfl rfl (by kernel_rfl) (fun _ _ _ h => h) (Or.inl ⟨by rfl, ?_⟩) ?_ ?_
    rotate_left
    next =>
     intro w'
     go_simp
     with_reducible rfl
    rotate_left
    next =>
     simp only [Act.put, yay, yby, ycy, zT, zU]
     rfl
    refine qQ (i := 12) (N := some 50) (v := ?_) (a' := ?_) #[true, true, true, true, false, true, true, false, true, true, true, true, true, false, false] rfl rfl (by kernel_rfl) (fun _ _ _ h => h) (Or.inl ⟨by rfl, ?_⟩) hHeld ?_ ?_
    rotate_left
    next =>
     rintro w' ⟨s0, s1, s2, s3⟩
     go_simp
     with_reducible rfl
    rotate_left
    next =>
     simp only [Act.put, yay, yby, ycy, zT, zU]
     rfl
    refine QH (i := 4) (N := some 42) #[true, true, true, true, true, true, true, false, true, true, true, true, true, false, false] rfl rfl (by kernel_rfl) (by decide) (fun K hK => ?_)
    refine Zv Try.func113 (by kernel_rfl) rfl #[.int .i64 ps] (by rfl) rfl rfl (by (try simp only [yiy, yjy, yky]); first | done | rfl) ?_
    refine (zr.calls k ps (JD ps) _ (zBr HPK.out HPB.out.1 HPB.out.2)).mono ?_
    rintro e w11 ⟨rfl, hb⟩
    refine ⟨_, rfl, ?_⟩
    replace hp0 := (hb.cell (yoy _ _ hp0)).trans hp0
    replace hp1 := (hb.cell (yoy _ _ hp1)).trans hp1
    replace ht1 := (hb.cell (yoy _ _ ht1)).trans ht1
    have HO2 := zA.mk (Kd.Zw HO.out hb)
    have HM2 := zA.mk (Kd.qe HM.out hb)
    have B32 := zA.mk (zN B3.out hb)
    have B62 := zA.mk (zN B6.out hb)
    have B72 := zA.mk (zN B7.out hb)
    have BF2 := zA.mk (zN BF.out hb)
    have HB2 := zA.mk (zO HB.out hb)
    clear HO HM B3 B6 B7 BF HB
    have HO := HO2
    have HM := HM2
    have B3 := B32
    have B6 := B62
    have B7 := B72
    have BF := BF2
    have HB := HB2
    clear HO2 HM2 B32 B62 B72 BF2 HB2
    clear hb
    refine hK.out _ _ ⟨hp0, (zJ BF.out 0).trans rfl, (zJ BF.out 1).trans rfl, hp1⟩ (fun hHeld => ?_)
    clear hK K
    refine ZQ (a' := ?_) ?_ ?_
    rotate_left
    next =>
     show Act.put _ (some 42) _ = _
     simp only [Act.put, yay, yby, ycy, zT, zU]
     rfl
    refine QH (i := 7) (N := some 45) #[true, true, true, true, true, true, true, true, true, true, true, true, true, false, false] rfl rfl (by kernel_rfl) (by decide) (fun K hK => ?_)
    refine Zv Try.func132 (by kernel_rfl) rfl #[.int .i64 (JD ps), .int .i64 f1] (by rfl) rfl rfl (by (try simp only [yiy, yjy, yky]); first | done | rfl) ?_
    refine (qZ.calls k (JD ps) f1 (QD (JD ps) f1) _ (zAF HPK.out HPB2.out.1 HPB2.out.2 HFB.out.2.2.1 HFB.out.2.2.2)).mono ?_
    rintro e w12 ⟨rfl, hb⟩
    refine ⟨_, rfl, ?_⟩
    replace hp0 := (hb.cell (yoy _ _ hp0)).trans hp0
    replace hp1 := (hb.cell (yoy _ _ hp1)).trans hp1
    replace ht1 := (hb.cell (yoy _ _ ht1)).trans ht1
    have HO2 := zA.mk (Kd.Zw HO.out hb)
    have HM2 := zA.mk (Kd.qe HM.out hb)
    have B32 := zA.mk (zN B3.out hb)
    have B62 := zA.mk (zN B6.out hb)
    have B72 := zA.mk (zN B7.out hb)
    have BF2 := zA.mk (zN BF.out hb)
    have HB2 := zA.mk (zO HB.out hb)
    clear HO HM B3 B6 B7 BF HB
    have HO := HO2
    have HM := HM2
    have B3 := B32
    have B6 := B62
    have B7 := B72
    have BF := BF2
    have HB := HB2
    clear HO2 HM2 B32 B62 B72 BF2 HB2
    clear hb
    refine hK.out _ _ ⟨hp0, (zJ BF.out 0).trans rfl, (zJ BF.out 1).trans rfl, hp1⟩ (fun hHeld => ?_)
    clear hK K
    refine ZQ (a' := ?_) ?_ ?_
    rotate_left
    next =>
     show Act.put _ (some 45) _ = _
     simp only [Act.put, yay, yby, ycy, zT, zU]
     rfl
    refine QH (i := 13) (N := some 51) #[true, true, true, true, true, true, true, true, true, true, true, true, true, true, false] rfl rfl (by kernel_rfl) (by decide) (fun K hK => ?_)
    refine Zv Try.func132 (by kernel_rfl) rfl #[.int .i64 (QD (JD ps) f1), .int .i64 pt] (by rfl) rfl rfl (by (try simp only [yiy, yjy, yky]); first | done | rfl) ?_
    refine (qZ.calls k (QD (JD ps) f1) pt (QD (QD (JD ps) f1) pt) _ (zAF HPK.out HPB3.out.1 HPB3.out.2 HPT.out.1 HPT.out.2)).mono ?_
    rintro e w13 ⟨rfl, hb⟩
    refine ⟨_, rfl, ?_⟩
    replace hp0 := (hb.cell (yoy _ _ hp0)).trans hp0
    replace hp1 := (hb.cell (yoy _ _ hp1)).trans hp1
    replace ht1 := (hb.cell (yoy _ _ ht1)).trans ht1
    have HO2 := zA.mk (Kd.Zw HO.out hb)
    have HM2 := zA.mk (Kd.qe HM.out hb)
    have B32 := zA.mk (zN B3.out hb)
    have B62 := zA.mk (zN B6.out hb)
    have B72 := zA.mk (zN B7.out hb)
    have BF2 := zA.mk (zN BF.out hb)
    have HB2 := zA.mk (zO HB.out hb)
    clear HO HM B3 B6 B7 BF HB
    have HO := HO2
    have HM := HM2
    have B3 := B32
    have B6 := B62
    have B7 := B72
    have BF := BF2
    have HB := HB2
    clear HO2 HM2 B32 B62 B72 BF2 HB2
    clear hb
    refine hK.out _ _ ⟨hp0, (zJ BF.out 0).trans rfl, (zJ BF.out 1).trans rfl, hp1⟩ (fun hHeld => ?_)
    clear hK K
    refine ZQ (a' := ?_) ?_ ?_
    rotate_left
    next =>
     show Act.put _ (some 51) _ = _
     simp only [Act.put, yay, yby, ycy, zT, zU]
     rfl
    refine zg (i := 14) (N := some 12) (v := ?_) (a' := ?_) #[true, true, true, true, true, true, true, true, true, true, true, true, true, true, true] rfl rfl (by kernel_rfl) (fun _ _ _ h => h) (Or.inl ⟨by rfl, ?_⟩) ?_ ?_
    rotate_left
    next =>
     intro w'
     go_simp
     with_reducible rfl
    rotate_left
    next =>
     simp only [Act.put, yay, yby, ycy, zT, zU]
     rfl
    refine Zo (by kernel_rfl) ?_
    generalize hpp : QD (QD (JD ps) f1) pt = pp at *
    clear hpp hHeld hp1 HPB3 HPT
    go_wp2
    have HAT := zA.mk (zCy HPK.out (f := (f : Int)) HPB.out.1 HPB.out.2 (by omega) hlfz)
    have HIM := zA.mk (show 0 ≤ rd (ZR ps) (f : Int) ∧ rd (ZR ps) (f : Int) ≤ 3 from by obtain ⟨a, b, c, d⟩ := Qy ps HPB.out.1 HPB.out.2; exact QO a b c d (f : Int) (by omega) (by omega))
    generalize rd (ZR ps) (f : Int) = im at HAT HIM HK2
    have q0 := eq_true HIM.out.1
    have q1 := eq_true (show im < 4 by have := HIM.out.2; omega)
    refine ZN (n := 16) (S := fun w' => w'.cell? (aps.add i) = some (.int .i64 ps) ∧ w'.cell? ⟨gf, 0, none⟩ = some (.int .i64 f0) ∧ w'.cell? (ats.add f0.toNat) = some (.int .i64 tt)) (ds := [15]) #[false, false, false, false, false, false, false, false, false, false, false, false, false, false, false, false] (by kernel_rfl) rfl rfl ⟨hp0, (zJ BF.out 0).trans rfl, ht1⟩ (fun hHeld => ?_)
    have HO2 := zA.mk (Kd.Zz HO.out)
    have HM2 := zA.mk (Kd.zf HM.out)
    have B32 := zA.mk (zK B3.out)
    have B62 := zA.mk (zK B6.out)
    have B72 := zA.mk (zK B7.out)
    have BF2 := zA.mk (zK BF.out)
    have HB2 := zA.mk (zE HB.out)
    clear HO HM B3 B6 B7 BF HB
    have HO := HO2
    have HM := HM2
    have B3 := B32
    have B6 := B62
    have B7 := B72
    have BF := BF2
    have HB := HB2
    clear HO2 HM2 B32 B62 B72 BF2 HB2
    replace hp0 : w13.drew.cell? (aps.add i) = some (.int .i64 ps) := hp0
    replace ht1 : w13.drew.cell? (ats.add f0.toNat) = some (.int .i64 tt) := ht1
    generalize w13.drew = w19 at HO HM B3 B6 B7 BF HB hp0 ht1 hHeld ⊢
    refine zg (i := 0) (N := some 52) (v := ?_) (a' := ?_) #[true, false, false, false, false, false, false, false, false, false, false, false, false, false, false, false] rfl rfl (by kernel_rfl) (fun _ _ _ h => h) (Or.inl ⟨by rfl, ?_⟩) ?_ ?_
    rotate_left
    next =>
     intro w'
     go_simp
     with_reducible rfl
    rotate_left
    next =>
     simp only [Act.put, yay, yby, ycy, zT, zU]
     rfl
    refine zg (i := 1) (N := some 53) (v := ?_) (a' := ?_) #[true, true, false, false, false, false, false, false, false, false, false, false, false, false, false, false] rfl rfl (by kernel_rfl) (fun _ _ _ h => h) (Or.inl ⟨by rfl, ?_⟩) ?_ ?_
    rotate_left
    next =>
     intro w'
     go_simp
     with_reducible rfl
    rotate_left
    next =>
     simp only [Act.put, yay, yby, ycy, zT, zU]
     rfl
    refine zg (i := 2) (N := some 54) (v := ?_) (a' := ?_) #[true, true, true, false, false, false, false, false, false, false, false, false, false, false, false, false] rfl rfl (by kernel_rfl) (fun _ _ _ h => h) (Or.inl ⟨by rfl, ?_⟩) ?_ ?_
    rotate_left
    next =>
     intro w'
     go_simp
     with_reducible rfl
    rotate_left
    next =>
     simp only [Act.put, yay, yby, ycy, zT, zU]
     rfl
    refine zg (i := 3) (N := some 55) (v := ?_) (a' := ?_) #[true, true, true, true, false, false, false, false, false, false, false, false, false, false, false, false] rfl rfl (by kernel_rfl) (fun _ _ _ h => h) (Or.inl ⟨by rfl, ?_⟩) ?_ ?_
    rotate_left
    next =>
     intro w'
     go_simp
     with_reducible rfl
    rotate_left
    next =>
     simp only [Act.put, yay, yby, ycy, zT, zU]
     rfl
    refine qQ (i := 4) (N := some 56) (v := ?_) (a' := ?_) #[true, true, true, true, true, false, false, false, false, false, false, false, false, false, false, false] rfl rfl (by kernel_rfl) (fun _ _ _ h => h) (Or.inl ⟨by rfl, ?_⟩) hHeld ?_ ?_
    rotate_left
    next =>
     rintro w' ⟨s0, s1, s2⟩
     go_simp
     with_reducible rfl
    rotate_left
    next =>
     simp only [Act.put, yay, yby, ycy, zT, zU]
     rfl
    refine zg (i := 5) (N := some 57) (v := ?_) (a' := ?_) #[true, true, true, true, true, true, false, false, false, false, false, false, false, false, false, false] rfl rfl (by kernel_rfl) (fun _ _ _ h => h) (Or.inl ⟨by rfl, ?_⟩) ?_ ?_
    rotate_left
    next =>
     intro w'
     go_simp
     with_reducible rfl
    rotate_left
    next =>
     simp only [Act.put, yay, yby, ycy, zT, zU]
     rfl
    refine zg (i := 7) (N := some 59) (v := ?_) (a' := ?_) #[true, true, true, true, true, true, false, true, false, false, false, false, false, false, false, false] rfl rfl (by kernel_rfl) (fun _ _ _ h => h) (Or.inl ⟨by rfl, ?_⟩) ?_ ?_
    rotate_left
    next =>
     intro w'
     go_simp
     with_reducible rfl
    rotate_left
    next =>
     simp only [Act.put, yay, yby, ycy, zT, zU]
     rfl
    refine zg (i := 8) (N := some 60) (v := ?_) (a' := ?_) #[true, true, true, true, true, true, false, true, true, false, false, false, false, false, false, false] rfl rfl (by kernel_rfl) (fun _ _ _ h => h) (Or.inl ⟨by rfl, ?_⟩) ?_ ?_
    rotate_left
    next =>
     intro w'
     go_simp
     with_reducible rfl
    rotate_left
    next =>
     simp only [Act.put, yay, yby, ycy, zT, zU]
     rfl
    refine qQ (i := 9) (N := some 61) (v := ?_) (a' := ?_) #[true, true, true, true, true, true, false, true, true, true, false, false, false, false, false, false] rfl rfl (by kernel_rfl) (fun _ _ _ h => h) (Or.inl ⟨by rfl, ?_⟩) hHeld ?_ ?_
    rotate_left
    next =>
     rintro w' ⟨s0, s1, s2⟩
     go_simp
     with_reducible rfl
    rotate_left
    next =>
     simp only [Act.put, yay, yby, ycy, zT, zU]
     rfl
    refine zg (i := 10) (N := some 62) (v := ?_) (a' := ?_) #[true, true, true, true, true, true, false, true, true, true, true, false, false, false, false, false] rfl rfl (by kernel_rfl) (fun _ _ _ h => h) (Or.inl ⟨by rfl, ?_⟩) ?_ ?_
    rotate_left
    next =>
     intro w'
     go_simp
     with_reducible rfl
    rotate_left
    next =>
     simp only [Act.put, yay, yby, ycy, zT, zU]
     rfl
    refine qQ (i := 11) (N := some 63) (v := ?_) (a' := ?_) #[true, true, true, true, true, true, false, true, true, true, true, true, false, false, false, false] rfl rfl (by kernel_rfl) (fun _ _ _ h => h) (Or.inl ⟨by rfl, ?_⟩) hHeld ?_ ?_
    rotate_left
    next =>
     rintro w' ⟨s0, s1, s2⟩
     go_simp
     with_reducible rfl
    rotate_left
    next =>
     simp only [Act.put, yay, yby, ycy, zT, zU]
     rfl
    refine zg (i := 12) (N := some 64) (v := ?_) (a' := ?_) #[true, true, true, true, true, true, false, true, true, true, true, true, true, false, false, false] rfl rfl (by kernel_rfl) (fun _ _ _ h => h) (Or.inl ⟨by rfl, ?_⟩) ?_ ?_
    rotate_left
    next =>
     intro w'
     go_simp
     with_reducible rfl
    rotate_left
    next =>
     simp only [Act.put, yay, yby, ycy, zT, zU]
     rfl
    refine zg (i := 13) (N := some 65) (v := ?_) (a' := ?_) #[true, true, true, true, true, true, false, true, true, true, true, true, true, true, false, false] rfl rfl (by kernel_rfl) (fun _ _ _ h => h) (Or.inl ⟨by rfl, ?_⟩) ?_ ?_
    rotate_left
    next =>
     intro w'
     go_simp
     with_reducible rfl
    rotate_left
    next =>
     simp only [Act.put, yay, yby, ycy, zT, zU]
     rfl
    refine QH (i := 6) (N := some 58) #[true, true, true, true, true, true, true, true, true, true, true, true, true, true, false, false] rfl rfl (by kernel_rfl) (by decide) (fun K hK => ?_)
    refine Zv Try.func68 (by kernel_rfl) rfl #[.int .i64 ps, .int .i64 (f : Int)] (by rfl) rfl rfl (by (try simp only [yiy, yjy, yky]); first | done | rfl) ?_
    refine (qz.calls k ps (f : Int) im _ HAT.out).mono ?_
    rintro e w14 ⟨rfl, hb⟩
    refine ⟨_, rfl, ?_⟩
    replace hp0 := (hb.cell (yoy _ _ hp0)).trans hp0
    replace ht1 := (hb.cell (yoy _ _ ht1)).trans ht1
    have HO2 := zA.mk (Kd.Zw HO.out hb)
    have HM2 := zA.mk (Kd.qe HM.out hb)
    have B32 := zA.mk (zN B3.out hb)
    have B62 := zA.mk (zN B6.out hb)
    have B72 := zA.mk (zN B7.out hb)
    have BF2 := zA.mk (zN BF.out hb)
    have HB2 := zA.mk (zO HB.out hb)
    clear HO HM B3 B6 B7 BF HB
    have HO := HO2
    have HM := HM2
    have B3 := B32
    have B6 := B62
    have B7 := B72
    have BF := BF2
    have HB := HB2
    clear HO2 HM2 B32 B62 B72 BF2 HB2
    clear hb
    refine hK.out _ _ ⟨hp0, (zJ BF.out 0).trans rfl, ht1⟩ (fun hHeld => ?_)
    clear hK K
    refine ZQ (a' := ?_) ?_ ?_
    rotate_left
    next =>
     show Act.put _ (some 58) _ = _
     simp only [Act.put, yay, yby, ycy, zT, zU]
     rfl
    refine zg (i := 14) (N := some 66) (v := ?_) (a' := ?_) #[true, true, true, true, true, true, true, true, true, true, true, true, true, true, true, false] rfl rfl (by kernel_rfl) (fun _ _ _ h => h) (Or.inl ⟨by rfl, ?_⟩) ?_ ?_
    rotate_left
    next =>
     intro w'
     go_simp
     with_reducible rfl
    rotate_left
    next =>
     simp only [Act.put, yay, yby, ycy, zT, zU]
     rfl
    obtain ⟨⟨u1_, hx0⟩, ⟨u2_, hx1⟩, hz0, hz1, hMS, hgr⟩ := zCf HM.out im HIM.out.1 (by have := HIM.out.2; omega) ⟨tt, pp⟩
    refine zCs (i := 15) (N := none) #[true, true, true, true, true, true, true, true, true, true, true, true, true, true, true, true] rfl rfl (by kernel_rfl) (by decide) (fun K hK => ?_)
    refine zAJ (w1 := ?_) (by rfl) rfl ?_ ?_
    rotate_left
    next =>
     go_simp
     rfl
    refine hK.out _ _ ?_
    clear hK K
    refine Zo (by kernel_rfl) ?_
    have HM2 := zA.mk hMS
    have HO2 := zA.mk (Kd.zDR HO.out hgr (fun k hk => hk))
    have B32 := zA.mk (zu B3.out hgr (Kd.QA HM.out B3.out (by decide)))
    have B62 := zA.mk (zu B6.out hgr (Kd.QA HM.out B6.out (by decide)))
    have B72 := zA.mk (zu B7.out hgr (Kd.QA HM.out B7.out (by decide)))
    have HB2 := zA.mk (zG (j := im.toNat * 2 + 1) (v := .int .i64 pp) (zG (j := im.toNat * 2) (v := .int .i64 tt) HB.out GM.out) GM.out)
    clear hMS hgr hx0 hx1 hz0 hz1
    clear HM HO B3 B6 B7 HB
    have HM := HM2
    have HO := HO2
    have B3 := B32
    have B6 := B62
    have B7 := B72
    have HB := HB2
    clear HM2 HO2 B32 B62 B72 HB2
    generalize (w14.setCell ⟨gm, im.toNat * 2, none⟩ (.int .i64 tt)).setCell ⟨gm, im.toNat * 2 + 1, none⟩ (.int .i64 pp) = w15 at HO HM B3 B6 B7 HB ⊢
    go_wp2
    go_roundg (4 - (f + 1))
    case measure => omega
    case rel => exact ⟨f + 1, by omega, by omega, by go_num, ⟨by rw [HK2.out]; exact HM.out⟩, HO, B3, B6, B7, HB⟩
def qc.l0 : Nat → Int → List Int → Int → Option (List Int)
  | 0, _, _, _ => none
  | k + 1, x0, x3, x4 => if x4 < x0 then (if x3.length < 17592186044416 then (qc.l0 k x0 (x3 ++ [x4]) (wrap64 (x4 + 1))) else (none)) else (some x3)
def qc.f (k : Nat) (a0 : Int) : Option (List Int) := qc.l0 k a0 (([] : List Int)) 0
set_option maxHeartbeats 8000000 in
set_option maxRecDepth 100000 in
theorem qc.calls (k : Nat) (a0 : Int) (r : List Int) (w : World) (h : qc.f k a0 = some r) :
    Calls Try.prog 97 #[.int .i64 a0] w fun e w' => ∃ v0_ : Value, e = .returned (v0_) ∧ Kd.R (Kd.int .i64) 2 w' w.heap.size (fun _ => True) v0_ r ∧ Below w.heap.size w w' := by
  have HB := zA.mk (yqy w.heap.size w)
  have H : (qc.l0 k a0 (([] : List Int)) 0) = some r := h
  clear h
  obtain ⟨y101, hy101⟩ : ∃ y_ : List Int, y_ = (([] : List Int)) := ⟨_, rfl⟩
  replace H : (qc.l0 k a0 y101 0) = some r := by first | (rw [hy101]; with_reducible exact H) | (have H2_ := (yfy _ _).symm.trans H; rw [hy101]; with_reducible exact H2_) | (have H2_ := (yfy _ _).symm.trans H; with_reducible exact H2_) | with_reducible exact H | (rw [hy101]; exact H) | exact H
  have Ny101 := zA.mk hy101
  clear hy101
  have H' := zA.mk H
  clear H
  go_enter Try.func97, Try.ntmps97
  go_wp2_with (first | ((with_reducible refine zm (N := 5) rfl ?_); refine Kd.zBI (Kd.int .i64) _ 2 ?hg (N := 5) ?hd (xs := ([] : List Int)) (inner := []) (ok := fun _ => True) (okp := fun _ => True) ?hr ?hp (fun _ hk => hk) trivial (yqy _ _) (ypy _) (by simp) ?_; (case hd => rfl); (case hg => rfl); (case hr => first | (go_simp; done) | (go_simp; rfl)); (case hp => exact (Zs.none _ _)); intro v102 w2 ho3 hb hg_ hnew_; clear hg_ hnew_; (first | rw [← Ny101.out] at ho3 | (simp only [Int.reduceToNat] at ho3; rw [← Ny101.out] at ho3)); have n0_ := zA.mk (Kd.qy ho3 (zP (by repeat (first | (with_reducible first | exact HB.out | apply zD | apply zB | apply zE) | exact HB.out)))); have n1_ := zA.mk (zO (by repeat (first | (with_reducible first | exact HB.out | apply zD | apply zB | apply zE) | exact HB.out)) hb); clear HB; have HO103 := n0_; have HB := n1_; clear n0_ n1_; clear hb ho3))
  go_loopg [3, 4] k (fun kq v3 v4 w' => ∃ (x3_1 : List Int) (x4_1 : Int), v4 = .int .i64 x4_1 ∧ zA (qc.l0 kq a0 x3_1 x4_1 = some r) ∧ zA (kq ≤ k) ∧ zA (Kd.R (Kd.int .i64) 2 w' w.heap.size (fun _ => True) v3 x3_1) ∧ zA (Below w.heap.size w w'))
  case atStart => exact ⟨(y101), (0), (by first | rfl | (simp; done) | (simp [*]; done)), H', ⟨ypy _⟩, ⟨by (with_reducible repeat (first | apply Kd.zZ | apply Kd.za | apply Kd.zf)); exact HO103.out⟩, ⟨by repeat (first | (with_reducible first | exact HB.out | apply zD | apply zB | apply zE) | exact HB.out)⟩⟩
  case round =>
    clear H'
    try clear p2
    obtain ⟨x3_1, x4_1, rfl, HA, HK1, HO_3, HB⟩ := hrel
    cases gk with
    | zero => exact absurd HA.out (by simp [qc.l0])
    | succ k1 =>
      have H := HA.out
      clear HA
      simp only [qc.l0] at H
      by_cases c4 : x4_1 < a0
      · rw [if_pos c4] at H
        have c4b0 : decide (x4_1 < a0) = true := ygy c4
        clear c4
        by_cases c5 : x3_1.length < 17592186044416
        · rw [if_pos c5] at H
          have LMc5 := zA.mk c5
          clear c5
          obtain ⟨y104, hy104⟩ : ∃ y_ : List Int, y_ = (x3_1 ++ [x4_1]) := ⟨_, rfl⟩
          replace H : (qc.l0 k1 a0 y104 (wrap64 (x4_1 + 1))) = some r := by first | (rw [hy104]; with_reducible exact H) | (have H2_ := (yfy _ _).symm.trans H; rw [hy104]; with_reducible exact H2_) | (have H2_ := (yfy _ _).symm.trans H; with_reducible exact H2_) | with_reducible exact H | (rw [hy104]; exact H) | exact H
          have Ny104 := zA.mk hy104
          clear hy104
          have H' := zA.mk H
          clear H
          go_wp2_with (first | ((with_reducible refine Zd (b := .append) (xs := #[.tmp 11, .tmp 13]) rfl ?_); at_builtin; refine Kd.Qj (Kd.int .i64) (w0 := w) w.heap.size rfl (.tmp 11) (.tmp 13) 41 2 (.int .i64 0) 8 rfl Try.underlying41 JC rfl (by decide) (by omega) u3 x3_1 x4_1 [.int .i64 x4_1] (fun _ => True) (fun _ => False) rfl rfl ?aP (fun _ hk => hk.elim) ?aF ?aO ?aB ?aS ?aL ?_; (case aP => exact rfl); (case aB => exact (by repeat (first | (with_reducible first | exact HB.out | apply zD | apply zB | apply zE) | exact HB.out))); (case aF => exact (fun _ _ => trivial)); (case aO => exact (by (with_reducible repeat (first | apply Kd.zZ | apply Kd.za | apply Kd.zf)); exact HO_3.out)); (case aS => exact (zP (by repeat (first | (with_reducible first | exact HB.out | apply zD | apply zB | apply zE) | exact HB.out)))); (case aL => have := LMc5.out; omega); intro v105 w6 ho hb hg hat; rw [← Ny104.out] at ho; have n0_ := zA.mk (hb); have n1_ := zA.mk (ho); clear HB; clear HO_3; have HB := n0_; have HO106 := n1_; clear n0_ n1_; clear ho hb hg hat))
          go_roundg k1
          case measure => have := HK1.out; omega
          case rel => exact ⟨(y104), (wrap64 (x4_1 + 1)), (by first | rfl | (simp; done) | (simp [*]; done)), H', ⟨by have := HK1.out; omega⟩, ⟨by (with_reducible repeat (first | apply Kd.zZ | apply Kd.za | apply Kd.zf)); exact HO106.out⟩, ⟨by repeat (first | (with_reducible first | exact HB.out | apply zD | apply zB | apply zE) | exact HB.out)⟩⟩
        · rw [if_neg c5] at H
          exact absurd H (by simp)
      · rw [if_neg c4] at H
        have c4b0 : decide (x4_1 < a0) = false := yhy c4
        clear c4
        obtain rfl := yey H
        go_wp2
        go_ret
        exact ⟨_, by first | rfl | (simp [zX, zY] <;> rfl) | (simp [*, zX, zY] <;> rfl), by (with_reducible repeat (first | apply Kd.zZ | apply Kd.za | apply Kd.zf)); exact HO_3.out, by repeat (first | (with_reducible first | exact HB.out | apply zD | apply zB | apply zE) | exact HB.out)⟩
def qD.l0 : Nat → List Int → List Int → Int → List (List (zh)) → Option ((List (List (zh))))
 | 0, _, _, _, _ => none
 | k + 1, x1, x5, x6, x102000 => if x6 < (x1.length : Int) then (if 0 ≤ x6 then (if x5.length < 17592186044416 then (qD.l0 k x1 (x5 ++ [wrap64 (Int.tdiv (wrap64 (1 - (rd x1 x6))) 2)]) (wrap64 (x6 + 1)) x102000) else (none)) else (none)) else ((qF.f x102000).bind fun t110 => ((qc.f k t110).bind fun t111 => ((ZJ.f k x102000 t111 x5).bind fun t114 => (some t114))))
def qD.f (k : Nat) (l0_0 : List (List (zh))) (l1 : List Int) : Option ((List (List (zh)))) := qD.l0 k l1 (([] : List Int)) 0 l0_0
set_option maxHeartbeats 8000000 in
set_option maxRecDepth 100000 in
theorem qD.calls (k : Nat) (A0_0 : Option Addr) (c0_0 : Nat) (l0_0 : List (List (zh))) (A1 : Option Addr) (c1 : Nat) (l1 : List Int) (r : List (List (zh))) (w : World) (hr0_0 : Kd.C (Kd.slice 74 qJ) w A0_0 l0_0.length l0_0) (hc0_0 : l0_0.length ≤ c0_0) (hr1 : Kd.C (Kd.int .i64) w A1 l1.length l1) (hc1 : l1.length ≤ c1) (h : qD.f k l0_0 l1 = some r) :
 Calls Try.prog 88 #[.agg #[.slice A0_0 l0_0.length c0_0], .slice A1 l1.length c1] w fun e w' => ∃ v0_ : Value, e = .returned (.agg #[v0_]) ∧ Kd.S (Kd.slice 74 qJ) 75 w' w.heap.size (fun _ => True) v0_ r ∧ Below w.heap.size w w' := by
 have hu28 := Try.underlying28
 have HR0_0 := zA.mk hr0_0
 have HC0_0 := zA.mk hc0_0
 clear hr0_0 hc0_0
 have HR1 := zA.mk hr1
 have HC1 := zA.mk hc1
 clear hr1 hc1
 have HB := zA.mk (yqy w.heap.size w)
 have H : (qD.l0 k l1 (([] : List Int)) 0 l0_0) = some r := h
 clear h
 obtain ⟨y103, hy103⟩ : ∃ y_ : List Int, y_ = (([] : List Int)) := ⟨_, rfl⟩
 replace H : (qD.l0 k l1 y103 0 l0_0) = some r := by first | (rw [hy103]; with_reducible exact H) | (have H2_ := (yfy _ _).symm.trans H; rw [hy103]; with_reducible exact H2_) | (have H2_ := (yfy _ _).symm.trans H; with_reducible exact H2_) | with_reducible exact H | (rw [hy103]; exact H) | exact H
 have Ny103 := zA.mk hy103
 clear hy103
 have H' := zA.mk H
 clear H
 go_enter Try.func88, Try.ntmps88
 go_wp2_with (first | ((with_reducible refine zm (N := 2) rfl ?_); refine zp ?hg (N := 2) ?hd (cs := #[.slice A0_0 l0_0.length c0_0]) (t := 28) ?hr ?_; (case hd => rfl); (case hg => rfl); (case hr => first | (go_simp; done) | (go_simp; rfl)); intro gb101 hg w3 hbox hb; have n0_ := zA.mk (zO (by repeat (first | (with_reducible first | exact HB.out | apply zD | apply zB | apply zE) | exact HB.out)) hb); have n1_ := zA.mk (hbox); have n2_ := zA.mk ((by rw [hg]; exact (zP (by repeat (first | (with_reducible first | exact HB.out | apply zD | apply zB | apply zE) | exact HB.out))) : w.heap.size ≤ gb101)); have n3_ := zA.mk ((by rw [hg]; exact (zP (by repeat (first | (with_reducible first | exact HB.out | apply zD | apply zB | apply zE) | exact HB.out))) : w.heap.size ≤ gb101)); clear HB; have HB := n0_; have BK101 := n1_; have GW101 := n2_; have GE101 := n3_; clear n0_ n1_ n2_ n3_; clear hb hbox hg) | ((with_reducible refine zm (N := 4) rfl ?_); refine zp ?hg (N := 4) ?hd (cs := #[.slice none 0 0]) (t := 28) ?hr ?_; (case hd => rfl); (case hg => rfl); (case hr => first | (go_simp; done) | (go_simp; rfl)); intro gb102 hg w4 hbox hb; have n0_ := zA.mk (zN (g := gb101) (o := .cells #[.slice A0_0 l0_0.length c0_0] 28 (0, 0)) (by (with_reducible repeat (first | refine zI ?_ _ | refine zK ?_ | refine zH ?_ _)); exact BK101.out) hb); have n1_ := zA.mk (zO (by repeat (first | (with_reducible first | exact HB.out | apply zD | apply zB | apply zE | refine zG ?_ GE101.out) | exact HB.out)) hb); have n2_ := zA.mk (hbox); have n3_ := zA.mk ((by rw [hg]; exact (zP (by repeat (first | (with_reducible first | exact HB.out | apply zD | apply zB | apply zE | refine zG ?_ GE101.out) | exact HB.out))) : w.heap.size ≤ gb102)); have n4_ := zA.mk ((by rw [hg]; exact (zP (by repeat (first | (with_reducible first | exact HB.out | apply zD | apply zB | apply zE | refine zG ?_ GE101.out) | exact HB.out))) : w.heap.size ≤ gb102)); have n5_ := zA.mk ((by rw [hg]; exact Nat.ne_of_lt (qE (g := gb101) (o := .cells #[.slice A0_0 l0_0.length c0_0] 28 (0, 0)) (by (with_reducible repeat (first | refine zI ?_ _ | refine zK ?_ | refine zH ?_ _)); exact BK101.out)) : gb101 ≠ gb102)); have n6_ := zA.mk ((by rw [hg]; exact Nat.ne_of_gt (qE (g := gb101) (o := .cells #[.slice A0_0 l0_0.length c0_0] 28 (0, 0)) (by (with_reducible repeat (first | refine zI ?_ _ | refine zK ?_ | refine zH ?_ _)); exact BK101.out)) : gb102 ≠ gb101)); clear BK101; clear HB; have BK101 := n0_; have HB := n1_; have BK102 := n2_; have GW102 := n3_; have GE102 := n4_; have NB101_102 := n5_; have NB102_101 := n6_; clear n0_ n1_ n2_ n3_ n4_ n5_ n6_; clear hb hbox hg) | ((with_reducible refine zm (N := 7) rfl ?_); refine Kd.zBI (Kd.int .i64) _ 2 ?hg (N := 7) ?hd (xs := ([] : List Int)) (inner := []) (ok := fun _ => True) (okp := fun _ => True) ?hr ?hp (fun _ hk => hk) trivial (yqy _ _) (ypy _) (by simp) ?_; (case hd => rfl); (case hg => rfl); (case hr => first | (go_simp; done) | (go_simp; rfl)); (case hp => exact (Zs.none _ _)); intro v104 w5 ho6 hb hg_ hnew_; clear hg_ hnew_; (first | rw [← Ny103.out] at ho6 | (simp only [Int.reduceToNat] at ho6; rw [← Ny103.out] at ho6)); have n0_ := zA.mk (Kd.qy ho6 (zP (by repeat (first | (with_reducible first | exact HB.out | apply zD | apply zB | apply zE | refine zG ?_ GE101.out | refine zG ?_ GE102.out) | exact HB.out)))); have n1_ := zA.mk (zN (g := gb101) (o := .cells #[.slice A0_0 l0_0.length c0_0] 28 (0, 0)) (by (with_reducible repeat (first | refine zI ?_ _ | refine zK ?_ | refine zH ?_ _)); exact BK101.out) hb); have n2_ := zA.mk (zN (g := gb102) (o := .cells #[.slice none 0 0] 28 (0, 0)) (by (with_reducible repeat (first | refine zI ?_ _ | refine zK ?_ | refine zH ?_ _)); exact BK102.out) hb); have n3_ := zA.mk (zO (by repeat (first | (with_reducible first | exact HB.out | apply zD | apply zB | apply zE | refine zG ?_ GE101.out | refine zG ?_ GE102.out) | exact HB.out)) hb); clear BK101; clear BK102; clear HB; have HO105 := n0_; have BK101 := n1_; have BK102 := n2_; have HB := n3_; clear n0_ n1_ n2_ n3_; clear hb ho6))
 go_loopg [5, 6] k (fun kq v5 v6 w' => ∃ (x5_1 : List Int) (x6_1 : Int), v6 = .int .i64 x6_1 ∧ zA (qD.l0 kq l1 x5_1 x6_1 l0_0 = some r) ∧ zA (kq ≤ k) ∧ zA (Kd.R (Kd.int .i64) 2 w' w.heap.size (fun _ => True) v5 x5_1) ∧ zA (w'.heap[gb101]? = some (.cells #[(.slice A0_0 l0_0.length c0_0)] 28 (0, 0))) ∧ zA (w'.heap[gb102]? = some (.cells #[(.slice none 0 0)] 28 (0, 0))) ∧ zA (Below w.heap.size w w'))
 case atStart => exact ⟨(y103), (0), (by first | rfl | (simp; done) | (simp [*]; done)), H', ⟨ypy _⟩, ⟨by (with_reducible repeat (first | apply Kd.zZ | apply Kd.za | apply Kd.zf)); exact HO105.out⟩, ⟨by (with_reducible repeat (first | refine zI ?_ _ | refine zK ?_ | refine zH ?_ _)); exact BK101.out⟩, ⟨by (with_reducible repeat (first | refine zI ?_ _ | refine zK ?_ | refine zH ?_ _)); exact BK102.out⟩, ⟨by repeat (first | (with_reducible first | exact HB.out | apply zD | apply zB | apply zE | refine zG ?_ GE101.out | refine zG ?_ GE102.out) | exact HB.out)⟩⟩
 case round =>
  clear H'
  try clear c1
  try clear p2
  obtain ⟨x5_1, x6_1, rfl, HA, HK1, HO_5, BK101, BK102, HB⟩ := hrel
  cases gk with
  | zero => exact absurd HA.out (by simp [qD.l0])
  | succ k1 =>
   have H := HA.out
   clear HA
   simp only [qD.l0] at H
   by_cases c7 : x6_1 < (l1.length : Int)
   next =>
    rw [if_pos c7] at H
    have c7b0 : decide (x6_1 < (l1.length : Int)) = true := ygy c7
    clear c7
    by_cases c8 : 0 ≤ x6_1
    rotate_left
    next =>
     rw [if_neg c8] at H
     exact absurd H (by simp)
    rw [if_pos c8] at H
    have c8b0 : decide (0 ≤ x6_1) = true := ygy c8
    clear c8
    by_cases c9 : x5_1.length < 17592186044416
    rotate_left
    next =>
     rw [if_neg c9] at H
     exact absurd H (by simp)
    rw [if_pos c9] at H
    have LMc9 := zA.mk c9
    clear c9
    obtain ⟨y107, hy107⟩ : ∃ y_ : List Int, y_ = (x5_1 ++ [wrap64 (Int.tdiv (wrap64 (1 - (rd l1 x6_1))) 2)]) := ⟨_, rfl⟩
    replace H : (qD.l0 k1 l1 y107 (wrap64 (x6_1 + 1)) l0_0) = some r := by first | (rw [hy107]; with_reducible exact H) | (have H2_ := (yfy _ _).symm.trans H; rw [hy107]; with_reducible exact H2_) | (have H2_ := (yfy _ _).symm.trans H; with_reducible exact H2_) | with_reducible exact H | (rw [hy107]; exact H) | exact H
    have Ny107 := zA.mk hy107
    clear hy107
    have H' := zA.mk H
    clear H
    have p106 : 0 ≤ (x6_1 : Int) := of_decide_eq_true (by first | (with_reducible assumption) | assumption)
    have q106 : x6_1 < (l1.length : Int) := of_decide_eq_true (by first | (with_reducible assumption) | assumption)
    obtain ⟨ad106, e106, hx106_0⟩ := Kd.qi HR1.out x6_1 p106 q106
    cases e106
    replace hx106_0 := (HB.out.cell (yoy w _ hx106_0)).trans hx106_0
    replace p106 := eq_true p106
    replace q106 := eq_true q106
    go_wp2_with (first | ((with_reducible refine Zd (b := .append) (xs := #[.tmp 14, .tmp 21]) rfl ?_); at_builtin; refine Kd.Qj (Kd.int .i64) (w0 := w) w.heap.size rfl (.tmp 14) (.tmp 21) 41 2 (.int .i64 0) 8 rfl Try.underlying41 JC rfl (by decide) (by omega) u5 x5_1 (wrap64 (Int.tdiv (wrap64 (1 - (rd l1 x6_1))) 2)) [.int .i64 (wrap64 (Int.tdiv (wrap64 (1 - (rd l1 x6_1))) 2))] (fun _ => True) (fun _ => False) rfl rfl ?aP (fun _ hk => hk.elim) ?aF ?aO ?aB ?aS ?aL ?_; (case aP => exact rfl); (case aB => exact (by repeat (first | (with_reducible first | exact HB.out | apply zD | apply zB | apply zE | refine zG ?_ GE101.out | refine zG ?_ GE102.out) | exact HB.out))); (case aF => exact (fun _ _ => trivial)); (case aO => exact (by (with_reducible repeat (first | apply Kd.zZ | apply Kd.za | apply Kd.zf)); exact HO_5.out)); (case aS => exact (zP (by repeat (first | (with_reducible first | exact HB.out | apply zD | apply zB | apply zE | refine zG ?_ GE101.out | refine zG ?_ GE102.out) | exact HB.out)))); (case aL => have := LMc9.out; omega); intro v108 w10 ho hb hg hat; rw [← Ny107.out] at ho; have n0_ := zA.mk (zu (g := gb101) (o := .cells #[.slice A0_0 l0_0.length c0_0] 28 (0, 0)) (by (with_reducible repeat (first | refine zI ?_ _ | refine zK ?_ | refine zH ?_ _)); exact BK101.out) hg (Kd.QA HO_5.out BK101.out (by decide))); have n1_ := zA.mk (zu (g := gb102) (o := .cells #[.slice none 0 0] 28 (0, 0)) (by (with_reducible repeat (first | refine zI ?_ _ | refine zK ?_ | refine zH ?_ _)); exact BK102.out) hg (Kd.QA HO_5.out BK102.out (by decide))); have n2_ := zA.mk (hb); have n3_ := zA.mk (ho); clear BK101; clear BK102; clear HB; clear HO_5; have BK101 := n0_; have BK102 := n1_; have HB := n2_; have HO109 := n3_; clear n0_ n1_ n2_ n3_; clear ho hb hg hat))
    go_roundg k1
    case measure => have := HK1.out; omega
    case rel => exact ⟨(y107), (wrap64 (x6_1 + 1)), (by first | rfl | (simp; done) | (simp [*]; done)), H', ⟨by have := HK1.out; omega⟩, ⟨by (with_reducible repeat (first | apply Kd.zZ | apply Kd.za | apply Kd.zf)); exact HO109.out⟩, ⟨by (with_reducible repeat (first | refine zI ?_ _ | refine zK ?_ | refine zH ?_ _)); exact BK101.out⟩, ⟨by (with_reducible repeat (first | refine zI ?_ _ | refine zK ?_ | refine zH ?_ _)); exact BK102.out⟩, ⟨by repeat (first | (with_reducible first | exact HB.out | apply zD | apply zB | apply zE | refine zG ?_ GE101.out | refine zG ?_ GE102.out) | exact HB.out)⟩⟩
   next =>
    rw [if_neg c7] at H
    have c7b0 : decide (x6_1 < (l1.length : Int)) = false := yhy c7
    clear c7
    replace H := ydy.mp H
    obtain ⟨t110, A110, H⟩ := H
    replace H : ((qc.f k1 t110).bind fun t111 => ((ZJ.f k1 l0_0 t111 x5_1).bind fun t114 => (some t114))) = some r := H
    have A11 := zA.mk A110
    clear A110
    replace H := ydy.mp H
    obtain ⟨t111, A120, H⟩ := H
    replace H : ((ZJ.f k1 l0_0 t111 x5_1).bind fun t114 => (some t114)) = some r := H
    have A12 := zA.mk A120
    clear A120
    replace H := ydy.mp H
    obtain ⟨t114, A130, H⟩ := H
    replace H : (some t114) = some r := H
    have A13 := zA.mk A130
    clear A130
    obtain rfl := yey H
    try go_wp2
    have n0_ := zA.mk (Kd.zf HO_5.out)
    have n1_ := zA.mk (zK BK101.out)
    have n2_ := zA.mk (zK BK102.out)
    have n3_ := zA.mk (zE HB.out)
    clear HO_5
    clear BK101
    clear BK102
    clear HB
    have HO_5 := n0_
    have BK101 := n1_
    have BK102 := n2_
    have HB := n3_
    clear n0_ n1_ n2_ n3_
    refine ZN (n := 7) (S := fun w' => w'.cell? ⟨gb101, 0, none⟩ = some (.slice A0_0 l0_0.length c0_0)) (ds := []) #[false, false, false, false, false, false, false] (by kernel_rfl) rfl rfl ((zJ BK101.out 0).trans rfl) (fun hHeld => ?_)
    generalize wr.drew = w14 at HO_5 BK101 BK102 HB hHeld ⊢
    refine zg (i := 4) (N := some 27) (v := ?_) (a' := ?_) #[false, false, false, false, true, false, false] rfl rfl (by kernel_rfl) (fun _ _ _ h => h) (Or.inl ⟨by rfl, ?_⟩) ?_ ?_
    rotate_left
    next =>
     intro w'
     go_simp
     with_reducible rfl
    rotate_left
    next =>
     simp only [Act.put, yay, yby, ycy, zT, zU]
     rfl
    refine qQ (i := 0) (N := some 23) (v := ?_) (a' := ?_) #[true, false, false, false, true, false, false] rfl rfl (by kernel_rfl) (fun _ _ _ h => h) (Or.inl ⟨by rfl, ?_⟩) hHeld ?_ ?_
    rotate_left
    next =>
     intro w' s0
     go_simp
     with_reducible rfl
    rotate_left
    next =>
     simp only [Act.put, yay, yby, ycy, zT, zU]
     rfl
    refine qQ (i := 1) (N := some 24) (v := ?_) (a' := ?_) #[true, true, false, false, true, false, false] rfl rfl (by kernel_rfl) (fun _ _ _ h => h) (Or.inl ⟨by rfl, ?_⟩) hHeld ?_ ?_
    rotate_left
    next =>
     intro w' s0
     go_simp
     with_reducible rfl
    rotate_left
    next =>
     simp only [Act.put, yay, yby, ycy, zT, zU]
     rfl
    refine QH (i := 2) (N := some 25) #[true, true, true, false, true, false, false] rfl rfl (by kernel_rfl) (by decide) (fun K hK => ?_)
    refine Zv Try.func65 (by kernel_rfl) rfl #[.agg #[.slice A0_0 l0_0.length c0_0]] (by rfl) rfl rfl (by (try simp only [yiy, yjy, yky]); first | done | rfl | (simp only [yly, ymy]; rfl)) ?_
    with_reducible refine (qF.calls _ _ l0_0 t110 _ ?side1 ?side2 A11.out).mono ?_
    (case side1 => repeat (first | exact (Kd.qA HR0_0.out HB.out) | (with_reducible refine Kd.qB ?_ _) | (with_reducible refine Kd.qC ?_ _) | (with_reducible refine Kd.qW ?_)))
    (case side2 => exact HC0_0.out)
    rintro e w15 ⟨rfl, hb⟩
    refine ⟨_, rfl, ?_⟩
    have n0_ := zA.mk (Kd.qe (by (with_reducible repeat (first | apply Kd.zZ | apply Kd.za | apply Kd.zf)); exact HO_5.out) hb)
    have n1_ := zA.mk (zN (g := gb101) (o := .cells #[.slice A0_0 l0_0.length c0_0] 28 (0, 0)) (by (with_reducible repeat (first | refine zI ?_ _ | refine zK ?_ | refine zH ?_ _)); exact BK101.out) hb)
    have n2_ := zA.mk (zN (g := gb102) (o := .cells #[.slice none 0 0] 28 (0, 0)) (by (with_reducible repeat (first | refine zI ?_ _ | refine zK ?_ | refine zH ?_ _)); exact BK102.out) hb)
    have n3_ := zA.mk (zO (by repeat (first | (with_reducible first | exact HB.out | apply zD | apply zB | apply zE | refine zG ?_ GE101.out | refine zG ?_ GE102.out) | exact HB.out)) hb)
    clear HO_5
    clear BK101
    clear BK102
    clear HB
    have HO_5 := n0_
    have BK101 := n1_
    have BK102 := n2_
    have HB := n3_
    clear n0_ n1_ n2_ n3_
    (try clear hb)
    (try clear hb2)
    (try clear hk)
    (try clear hi)
    refine hK.out _ _ ((zJ BK101.out 0).trans rfl) (fun hHeld => ?_)
    clear hK K
    refine ZQ (a' := ?_) ?_ ?_
    rotate_left
    next =>
     show Act.put _ (some 25) _ = _
     simp only [Act.put, yay, yby, ycy, zT, zU]
     rfl
    refine QH (i := 3) (N := some 26) #[true, true, true, true, true, false, false] rfl rfl (by kernel_rfl) (by decide) (fun K hK => ?_)
    refine Zv Try.func97 (by kernel_rfl) rfl #[.int .i64 t110] (by rfl) rfl rfl (by (try simp only [yiy, yjy, yky]); first | done | rfl | (simp only [yly, ymy]; rfl)) ?_
    with_reducible refine (qc.calls k1 t110 t111 _ A12.out).mono ?_
    rintro e w16 ⟨v112, rfl, ho0, hb⟩
    refine ⟨_, rfl, ?_⟩
    have n0_ := zA.mk (Kd.QB (by (with_reducible repeat (first | apply Kd.zZ | apply Kd.za | apply Kd.zf)); exact HO_5.out) (Kd.QI ho0) hb)
    have n1_ := zA.mk (Kd.qy (Kd.JK ho0 (Kd.zAS (by (with_reducible repeat (first | apply Kd.zZ | apply Kd.za | apply Kd.zf)); exact HO_5.out))) (zP (by repeat (first | (with_reducible first | exact HB.out | apply zD | apply zB | apply zE | refine zG ?_ GE101.out | refine zG ?_ GE102.out) | exact HB.out))))
    have n2_ := zA.mk (zN (g := gb101) (o := .cells #[.slice A0_0 l0_0.length c0_0] 28 (0, 0)) (by (with_reducible repeat (first | refine zI ?_ _ | refine zK ?_ | refine zH ?_ _)); exact BK101.out) hb)
    have n3_ := zA.mk (zN (g := gb102) (o := .cells #[.slice none 0 0] 28 (0, 0)) (by (with_reducible repeat (first | refine zI ?_ _ | refine zK ?_ | refine zH ?_ _)); exact BK102.out) hb)
    have n4_ := zA.mk (zO (by repeat (first | (with_reducible first | exact HB.out | apply zD | apply zB | apply zE | refine zG ?_ GE101.out | refine zG ?_ GE102.out) | exact HB.out)) hb)
    clear HO_5
    clear BK101
    clear BK102
    clear HB
    have HO_5 := n0_
    have HO113 := n1_
    have BK101 := n2_
    have BK102 := n3_
    have HB := n4_
    clear n0_ n1_ n2_ n3_ n4_
    (try clear hb)
    (try clear hb2)
    (try clear hk)
    (try clear hi)
    (try clear ho0)
    obtain ⟨Ao17, co17, eo17⟩ := Kd.qv HO113.out
    (first | subst eo17 | (injection eo17 with f1_ f2_ f3_; have f4_ := f1_.symm; have f5_ := f3_.symm; clear f1_ f2_ f3_; subst f4_; subst f5_))
    obtain ⟨Ao18, co18, eo18⟩ := Kd.qv HO_5.out
    (first | subst eo18 | (injection eo18 with f1_ f2_ f3_; have f4_ := f1_.symm; have f5_ := f3_.symm; clear f1_ f2_ f3_; subst f4_; subst f5_))
    refine hK.out _ _ ((zJ BK101.out 0).trans rfl) (fun hHeld => ?_)
    clear hK K
    refine ZQ (a' := ?_) ?_ ?_
    rotate_left
    next =>
     show Act.put _ (some 26) _ = _
     simp only [Act.put, yay, yby, ycy, zT, zU]
     rfl
    refine QH (i := 5) (N := some 28) #[true, true, true, true, true, true, false] rfl rfl (by kernel_rfl) (by decide) (fun K hK => ?_)
    refine Zv Try.func85 (by kernel_rfl) rfl #[.agg #[.slice A0_0 l0_0.length c0_0], .slice Ao17 t111.length co17, .slice Ao18 x5_1.length co18] (by rfl) rfl rfl (by (try simp only [yiy, yjy, yky]); first | done | rfl | (simp only [yly, ymy]; rfl)) ?_
    with_reducible refine (ZJ.calls k1 _ _ l0_0 _ _ t111 _ _ x5_1 t114 _ ?side1 ?side2 ?side3 ?side4 ?side5 ?side6 A13.out).mono ?_
    (case side1 => repeat (first | exact (Kd.qA HR0_0.out HB.out) | (with_reducible refine Kd.qB ?_ _) | (with_reducible refine Kd.qC ?_ _) | (with_reducible refine Kd.qW ?_)))
    (case side2 => exact HC0_0.out)
    (case side3 => repeat (first | exact (Kd.zj HO113.out).2.2 | (with_reducible refine Kd.qB ?_ _) | (with_reducible refine Kd.qC ?_ _) | (with_reducible refine Kd.qW ?_)))
    (case side4 => exact (Kd.zj HO113.out).2.1)
    (case side5 => repeat (first | exact (Kd.zj HO_5.out).2.2 | (with_reducible refine Kd.qB ?_ _) | (with_reducible refine Kd.qC ?_ _) | (with_reducible refine Kd.qW ?_)))
    (case side6 => exact (Kd.zj HO_5.out).2.1)
    rintro e w19 ⟨v115, rfl, ho0, hb⟩
    refine ⟨_, rfl, ?_⟩
    have n0_ := zA.mk (Kd.qe (by (with_reducible repeat (first | apply Kd.zZ | apply Kd.za | apply Kd.zf)); exact HO_5.out) hb)
    have n1_ := zA.mk (Kd.qe (by (with_reducible repeat (first | apply Kd.zZ | apply Kd.za | apply Kd.zf)); exact HO113.out) hb)
    have n2_ := zA.mk (Kd.JN ho0 (zP (by repeat (first | (with_reducible first | exact HB.out | apply zD | apply zB | apply zE | refine zG ?_ GE101.out | refine zG ?_ GE102.out) | exact HB.out))))
    have n3_ := zA.mk (zN (g := gb101) (o := .cells #[.slice A0_0 l0_0.length c0_0] 28 (0, 0)) (by (with_reducible repeat (first | refine zI ?_ _ | refine zK ?_ | refine zH ?_ _)); exact BK101.out) hb)
    have n4_ := zA.mk (zN (g := gb102) (o := .cells #[.slice none 0 0] 28 (0, 0)) (by (with_reducible repeat (first | refine zI ?_ _ | refine zK ?_ | refine zH ?_ _)); exact BK102.out) hb)
    have n5_ := zA.mk (zO (by repeat (first | (with_reducible first | exact HB.out | apply zD | apply zB | apply zE | refine zG ?_ GE101.out | refine zG ?_ GE102.out) | exact HB.out)) hb)
    clear HO_5
    clear HO113
    clear BK101
    clear BK102
    clear HB
    have HO_5 := n0_
    have HO113 := n1_
    have HO116 := n2_
    have BK101 := n3_
    have BK102 := n4_
    have HB := n5_
    clear n0_ n1_ n2_ n3_ n4_ n5_
    (try clear hb)
    (try clear hb2)
    (try clear hk)
    (try clear hi)
    (try clear ho0)
    obtain ⟨Ao20, co20, eo20⟩ := Kd.QY HO116.out
    (first | subst eo20 | (injection eo20 with f1_ f2_ f3_; have f4_ := f1_.symm; have f5_ := f3_.symm; clear f1_ f2_ f3_; subst f4_; subst f5_))
    refine hK.out _ _ ((zJ BK101.out 0).trans rfl) (fun hHeld => ?_)
    clear hK K
    refine ZQ (a' := ?_) ?_ ?_
    rotate_left
    next =>
     show Act.put _ (some 28) _ = _
     simp only [Act.put, yay, yby, ycy, zT, zU]
     rfl
    refine QH (i := 6) (N := none) #[true, true, true, true, true, true, true] rfl rfl (by kernel_rfl) (by decide) (fun K hK => ?_)
    have hs21 : w19.cell? ⟨gb102, 0, none⟩ = some (.slice none 0 0) := (zJ BK102.out 0).trans rfl
    have hfs21 := zL BK102.out 0
    have hns21_0 := NB101_102.out
    have hms21_0 := NB102_101.out
    refine zAJ (w1 := ?_) (by rfl) rfl ?_ ?_
    rotate_left
    next =>
     go_simp
     rfl
    refine hK.out _ _ (((cell_far (p := ⟨gb102, _, none⟩) NB101_102.out _).trans (hHeld))) (fun hHeld => ?_)
    clear hK K
    refine Zo (by kernel_rfl) ?_
    try go_wp2
    refine bodyPost_ret (results_cell_row rfl _ _ gb102 28 #[.slice Ao20 t114.length co20] (0, 0) _ rfl (by (with_reducible repeat (first | refine zI ?_ _ | refine zK ?_ | refine zH ?_ _)); refine qH (cs := #[.slice none 0 0]) ?_ 0 _ rfl; (with_reducible repeat (first | refine zI ?_ _ | refine zK ?_ | refine zH ?_ _)); exact BK102.out) Try.underlying28 rfl (by kernel_rfl)) rfl ?_
    exact ⟨_, by first | rfl | (simp [zX, zY] <;> rfl) | (simp [*, zX, zY] <;> rfl), by (with_reducible repeat (first | apply Kd.Ze | apply Kd.QN | apply Kd.Zz)); exact Kd.Qk (Kd.zBk (p := ⟨gb102, 0, none⟩) (Kd.Jc HO116.out BK102.out (by decide)) (fun _ hk => hk.2) (.slice Ao20 t114.length co20)) (fun _ hk => trivial), by repeat (first | (with_reducible first | exact HB.out | apply zD | apply zB | apply zE | refine zG ?_ GE101.out | refine zG ?_ GE102.out) | exact HB.out)⟩
def Za.f (k : Nat) (l0_0 : List (List (zh))) : Option ((List (List (zh))) × Int) := (ZP.f k l0_0).bind fun bt103 => (if bt103.2 = 0 then ((qD.f k l0_0 bt103.1).bind fun t107 => (some (t107, 0))) else (some (([] : List (List (zh))), bt103.2)))
set_option maxHeartbeats 8000000 in
set_option maxRecDepth 100000 in
theorem Za.calls (k : Nat) (A0_0 : Option Addr) (c0_0 : Nat) (l0_0 : List (List (zh))) (r1 : List (List (zh))) (r2 : Int) (w : World) (hr0_0 : Kd.C (Kd.slice 74 qJ) w A0_0 l0_0.length l0_0) (hc0_0 : l0_0.length ≤ c0_0) (h : Za.f k l0_0 = some (r1, r2)) :
    Calls Try.prog 37 #[.agg #[.slice A0_0 l0_0.length c0_0]] w fun e w' => ∃ v0_ : Value, e = .returned (.tuple #[.agg #[v0_], .int .i64 r2]) ∧ Kd.S (Kd.slice 74 qJ) 75 w' w.heap.size (fun _ => True) v0_ r1 ∧ Below w.heap.size w w' := by
  have hu28 := Try.underlying28
  have HR0_0 := zA.mk hr0_0
  have HC0_0 := zA.mk hc0_0
  clear hr0_0 hc0_0
  have HB := zA.mk (yqy w.heap.size w)
  have H : ((ZP.f k l0_0).bind fun bt103 => (if bt103.2 = 0 then ((qD.f k l0_0 bt103.1).bind fun t107 => (some (t107, 0))) else (some (([] : List (List (zh))), bt103.2)))) = some (r1, r2) := h
  clear h
  replace H := ydy.mp H
  obtain ⟨⟨t103, t106⟩, A20, H⟩ := H
  replace H : (if t106 = 0 then ((qD.f k l0_0 t103).bind fun t107 => (some (t107, 0))) else (some (([] : List (List (zh))), t106))) = some (r1, r2) := H
  have A2 := zA.mk A20
  clear A20
  by_cases c3 : t106 = 0
  · rw [if_pos c3] at H
    have c3b0 : (t106 == 0) = true := beq_iff_eq.mpr c3
    have c3b1 : (t106 != 0) = false := bne_eq_false_iff_eq.mpr c3
    clear c3
    replace H := ydy.mp H
    obtain ⟨t107, A40, H⟩ := H
    replace H : (some (t107, 0)) = some (r1, r2) := H
    have A4 := zA.mk A40
    clear A40
    simp only [Option.some.injEq, Prod.mk.injEq] at H
    obtain ⟨rfl, rfl⟩ := H
    go_enter Try.func37, Try.ntmps37
    go_wp2_with (first | ((with_reducible refine zm (N := 1) rfl ?_); refine zp ?hg (N := 1) ?hd (cs := #[.slice A0_0 l0_0.length c0_0]) (t := 28) ?hr ?_; (case hd => rfl); (case hg => rfl); (case hr => first | (go_simp; done) | (go_simp; rfl)); intro gb101 hg w5 hbox hb; have n0_ := zA.mk (zO (by repeat (first | (with_reducible first | exact HB.out | apply zD | apply zB | apply zE) | exact HB.out)) hb); have n1_ := zA.mk (hbox); have n2_ := zA.mk ((by rw [hg]; exact (zP (by repeat (first | (with_reducible first | exact HB.out | apply zD | apply zB | apply zE) | exact HB.out))) : w.heap.size ≤ gb101)); have n3_ := zA.mk ((by rw [hg]; exact (zP (by repeat (first | (with_reducible first | exact HB.out | apply zD | apply zB | apply zE) | exact HB.out))) : w.heap.size ≤ gb101)); clear HB; have HB := n0_; have BK101 := n1_; have GW101 := n2_; have GE101 := n3_; clear n0_ n1_ n2_ n3_; clear hb hbox hg) | ((with_reducible refine zm (N := 2) rfl ?_); refine zp ?hg (N := 2) ?hd (cs := #[.slice none 0 0]) (t := 28) ?hr ?_; (case hd => rfl); (case hg => rfl); (case hr => first | (go_simp; done) | (go_simp; rfl)); intro gb102 hg w6 hbox hb; have n0_ := zA.mk (zN (g := gb101) (o := .cells #[.slice A0_0 l0_0.length c0_0] 28 (0, 0)) (by (with_reducible repeat (first | refine zI ?_ _ | refine zK ?_ | refine zH ?_ _)); exact BK101.out) hb); have n1_ := zA.mk (zO (by repeat (first | (with_reducible first | exact HB.out | apply zD | apply zB | apply zE | refine zG ?_ GE101.out) | exact HB.out)) hb); have n2_ := zA.mk (hbox); have n3_ := zA.mk ((by rw [hg]; exact (zP (by repeat (first | (with_reducible first | exact HB.out | apply zD | apply zB | apply zE | refine zG ?_ GE101.out) | exact HB.out))) : w.heap.size ≤ gb102)); have n4_ := zA.mk ((by rw [hg]; exact (zP (by repeat (first | (with_reducible first | exact HB.out | apply zD | apply zB | apply zE | refine zG ?_ GE101.out) | exact HB.out))) : w.heap.size ≤ gb102)); have n5_ := zA.mk ((by rw [hg]; exact Nat.ne_of_lt (qE (g := gb101) (o := .cells #[.slice A0_0 l0_0.length c0_0] 28 (0, 0)) (by (with_reducible repeat (first | refine zI ?_ _ | refine zK ?_ | refine zH ?_ _)); exact BK101.out)) : gb101 ≠ gb102)); have n6_ := zA.mk ((by rw [hg]; exact Nat.ne_of_gt (qE (g := gb101) (o := .cells #[.slice A0_0 l0_0.length c0_0] 28 (0, 0)) (by (with_reducible repeat (first | refine zI ?_ _ | refine zK ?_ | refine zH ?_ _)); exact BK101.out)) : gb102 ≠ gb101)); clear BK101; clear HB; have BK101 := n0_; have HB := n1_; have BK102 := n2_; have GW102 := n3_; have GE102 := n4_; have NB101_102 := n5_; have NB102_101 := n6_; clear n0_ n1_ n2_ n3_ n4_ n5_ n6_; clear hb hbox hg; have hnb7 := NB101_102.out; have hnc7 := NB102_101.out; have hcz8_0 : w6.cell? ⟨gb101, 0, none⟩ = some (.slice A0_0 l0_0.length c0_0) := (zJ BK101.out 0).trans rfl; have hfz8_0 := zL BK101.out 0) | ((with_reducible refine ze (f := 91) rfl ?_); refine qP (some 8) rfl rfl Try.func91 (by kernel_rfl) rfl #[.agg #[.slice A0_0 l0_0.length c0_0]] rfl (by (try simp only [yiy, yjy, yky]); first | done | rfl | (simp only [yly, ymy]; rfl)) ?_; (with_reducible refine (ZP.calls k _ _ l0_0 t103 t106 _ ?side1 ?side2 A2.out).mono ?_); (case side1 => repeat (first | exact (Kd.qA HR0_0.out HB.out) | (with_reducible refine Kd.qB ?_ _) | (with_reducible refine Kd.qC ?_ _) | (with_reducible refine Kd.qW ?_))); (case side2 => exact HC0_0.out); rintro e w9 ⟨v104, rfl, ho0, hb⟩; refine ⟨_, rfl, ?_⟩; have n0_ := zA.mk (Kd.qy ho0 (zP (by repeat (first | (with_reducible first | exact HB.out | apply zD | apply zB | apply zE | refine zG ?_ GE101.out | refine zG ?_ GE102.out) | exact HB.out)))); have n1_ := zA.mk (zN (g := gb101) (o := .cells #[.slice A0_0 l0_0.length c0_0] 28 (0, 0)) (by (with_reducible repeat (first | refine zI ?_ _ | refine zK ?_ | refine zH ?_ _)); exact BK101.out) hb); have n2_ := zA.mk (zN (g := gb102) (o := .cells #[.slice none 0 0] 28 (0, 0)) (by (with_reducible repeat (first | refine zI ?_ _ | refine zK ?_ | refine zH ?_ _)); exact BK102.out) hb); have n3_ := zA.mk (zO (by repeat (first | (with_reducible first | exact HB.out | apply zD | apply zB | apply zE | refine zG ?_ GE101.out | refine zG ?_ GE102.out) | exact HB.out)) hb); clear BK101; clear BK102; clear HB; have HO105 := n0_; have BK101 := n1_; have BK102 := n2_; have HB := n3_; clear n0_ n1_ n2_ n3_; (try clear hb); (try clear hb2); (try clear hk); (try clear hi); (try clear ho0); have hcz10_0 : w9.cell? ⟨gb101, 0, none⟩ = some (.slice A0_0 l0_0.length c0_0) := (zJ BK101.out 0).trans rfl; have hfz10_0 := zL BK101.out 0; obtain ⟨Ao11, co11, eo11⟩ := Kd.qv HO105.out; subst eo11) | ((with_reducible refine ze (f := 88) rfl ?_); refine qP (some 17) rfl rfl Try.func88 (by kernel_rfl) rfl #[.agg #[.slice A0_0 l0_0.length c0_0], .slice Ao11 t103.length co11] rfl (by (try simp only [yiy, yjy, yky]); first | done | rfl | (simp only [yly, ymy]; rfl)) ?_; (with_reducible refine (qD.calls k _ _ l0_0 _ _ t103 t107 _ ?side1 ?side2 ?side3 ?side4 A4.out).mono ?_); (case side1 => repeat (first | exact (Kd.qA HR0_0.out HB.out) | (with_reducible refine Kd.qB ?_ _) | (with_reducible refine Kd.qC ?_ _) | (with_reducible refine Kd.qW ?_))); (case side2 => exact HC0_0.out); (case side3 => repeat (first | exact (Kd.zj HO105.out).2.2 | (with_reducible refine Kd.qB ?_ _) | (with_reducible refine Kd.qC ?_ _) | (with_reducible refine Kd.qW ?_))); (case side4 => exact (Kd.zj HO105.out).2.1); rintro e w12 ⟨v108, rfl, ho0, hb⟩; refine ⟨_, rfl, ?_⟩; have n0_ := zA.mk (Kd.qe (by (with_reducible repeat (first | apply Kd.zZ | apply Kd.za | apply Kd.zf)); exact HO105.out) hb); have n1_ := zA.mk (Kd.JN ho0 (zP (by repeat (first | (with_reducible first | exact HB.out | apply zD | apply zB | apply zE | refine zG ?_ GE101.out | refine zG ?_ GE102.out) | exact HB.out)))); have n2_ := zA.mk (zN (g := gb101) (o := .cells #[.slice A0_0 l0_0.length c0_0] 28 (0, 0)) (by (with_reducible repeat (first | refine zI ?_ _ | refine zK ?_ | refine zH ?_ _)); exact BK101.out) hb); have n3_ := zA.mk (zN (g := gb102) (o := .cells #[.slice none 0 0] 28 (0, 0)) (by (with_reducible repeat (first | refine zI ?_ _ | refine zK ?_ | refine zH ?_ _)); exact BK102.out) hb); have n4_ := zA.mk (zO (by repeat (first | (with_reducible first | exact HB.out | apply zD | apply zB | apply zE | refine zG ?_ GE101.out | refine zG ?_ GE102.out) | exact HB.out)) hb); clear HO105; clear BK101; clear BK102; clear HB; have HO105 := n0_; have HO109 := n1_; have BK101 := n2_; have BK102 := n3_; have HB := n4_; clear n0_ n1_ n2_ n3_ n4_; (try clear hb); (try clear hb2); (try clear hk); (try clear hi); (try clear ho0); obtain ⟨Ao13, co13, eo13⟩ := Kd.QY HO109.out; subst eo13; have hcz14_0 : w12.cell? ⟨gb102, 0, none⟩ = some (.slice none 0 0) := (zJ BK102.out 0).trans rfl; have hfz14_0 := zL BK102.out 0))
    refine bodyPost_ret (JV rfl _ _ gb102 28 #[.slice Ao13 t107.length co13] (0, 0) _ rfl (by (with_reducible repeat (first | refine zI ?_ _ | refine zK ?_ | refine zH ?_ _)); refine qH (cs := #[.slice none 0 0]) ?_ 0 _ rfl; (with_reducible repeat (first | refine zI ?_ _ | refine zK ?_ | refine zH ?_ _)); exact BK102.out) Try.underlying28 rfl (by kernel_rfl)) rfl ?_
    exact ⟨_, by first | rfl | (simp [zX, zY] <;> rfl) | (simp [*, zX, zY] <;> rfl), by (with_reducible repeat (first | apply Kd.Ze | apply Kd.QN | apply Kd.Zz)); exact Kd.Qk (Kd.zBk (p := ⟨gb102, 0, none⟩) (Kd.Jc HO109.out BK102.out (by decide)) (fun _ hk => hk.2) (.slice Ao13 t107.length co13)) (fun _ hk => trivial), by repeat (first | (with_reducible first | exact HB.out | apply zD | apply zB | apply zE | refine zG ?_ GE101.out | refine zG ?_ GE102.out) | exact HB.out)⟩
  · rw [if_neg c3] at H
    have c3b0 : (t106 == 0) = false := beq_eq_false_iff_ne.mpr c3
    have c3b1 : (t106 != 0) = true := bne_iff_ne.mpr c3
    simp only [Option.some.injEq, Prod.mk.injEq] at H
    obtain ⟨rfl, rfl⟩ := H
    go_enter Try.func37, Try.ntmps37
    go_wp2_with (first | ((with_reducible refine zm (N := 1) rfl ?_); refine zp ?hg (N := 1) ?hd (cs := #[.slice A0_0 l0_0.length c0_0]) (t := 28) ?hr ?_; (case hd => rfl); (case hg => rfl); (case hr => first | (go_simp; done) | (go_simp; rfl)); intro gb101 hg w15 hbox hb; have n0_ := zA.mk (zO (by repeat (first | (with_reducible first | exact HB.out | apply zD | apply zB | apply zE) | exact HB.out)) hb); have n1_ := zA.mk (hbox); have n2_ := zA.mk ((by rw [hg]; exact (zP (by repeat (first | (with_reducible first | exact HB.out | apply zD | apply zB | apply zE) | exact HB.out))) : w.heap.size ≤ gb101)); have n3_ := zA.mk ((by rw [hg]; exact (zP (by repeat (first | (with_reducible first | exact HB.out | apply zD | apply zB | apply zE) | exact HB.out))) : w.heap.size ≤ gb101)); clear HB; have HB := n0_; have BK101 := n1_; have GW101 := n2_; have GE101 := n3_; clear n0_ n1_ n2_ n3_; clear hb hbox hg) | ((with_reducible refine zm (N := 2) rfl ?_); refine zp ?hg (N := 2) ?hd (cs := #[.slice none 0 0]) (t := 28) ?hr ?_; (case hd => rfl); (case hg => rfl); (case hr => first | (go_simp; done) | (go_simp; rfl)); intro gb102 hg w16 hbox hb; have n0_ := zA.mk (zN (g := gb101) (o := .cells #[.slice A0_0 l0_0.length c0_0] 28 (0, 0)) (by (with_reducible repeat (first | refine zI ?_ _ | refine zK ?_ | refine zH ?_ _)); exact BK101.out) hb); have n1_ := zA.mk (zO (by repeat (first | (with_reducible first | exact HB.out | apply zD | apply zB | apply zE | refine zG ?_ GE101.out) | exact HB.out)) hb); have n2_ := zA.mk (hbox); have n3_ := zA.mk ((by rw [hg]; exact (zP (by repeat (first | (with_reducible first | exact HB.out | apply zD | apply zB | apply zE | refine zG ?_ GE101.out) | exact HB.out))) : w.heap.size ≤ gb102)); have n4_ := zA.mk ((by rw [hg]; exact (zP (by repeat (first | (with_reducible first | exact HB.out | apply zD | apply zB | apply zE | refine zG ?_ GE101.out) | exact HB.out))) : w.heap.size ≤ gb102)); have n5_ := zA.mk ((by rw [hg]; exact Nat.ne_of_lt (qE (g := gb101) (o := .cells #[.slice A0_0 l0_0.length c0_0] 28 (0, 0)) (by (with_reducible repeat (first | refine zI ?_ _ | refine zK ?_ | refine zH ?_ _)); exact BK101.out)) : gb101 ≠ gb102)); have n6_ := zA.mk ((by rw [hg]; exact Nat.ne_of_gt (qE (g := gb101) (o := .cells #[.slice A0_0 l0_0.length c0_0] 28 (0, 0)) (by (with_reducible repeat (first | refine zI ?_ _ | refine zK ?_ | refine zH ?_ _)); exact BK101.out)) : gb102 ≠ gb101)); clear BK101; clear HB; have BK101 := n0_; have HB := n1_; have BK102 := n2_; have GW102 := n3_; have GE102 := n4_; have NB101_102 := n5_; have NB102_101 := n6_; clear n0_ n1_ n2_ n3_ n4_ n5_ n6_; clear hb hbox hg; have hnb17 := NB101_102.out; have hnc17 := NB102_101.out; have hcz18_0 : w16.cell? ⟨gb101, 0, none⟩ = some (.slice A0_0 l0_0.length c0_0) := (zJ BK101.out 0).trans rfl; have hfz18_0 := zL BK101.out 0) | ((with_reducible refine ze (f := 91) rfl ?_); refine qP (some 8) rfl rfl Try.func91 (by kernel_rfl) rfl #[.agg #[.slice A0_0 l0_0.length c0_0]] rfl (by (try simp only [yiy, yjy, yky]); first | done | rfl | (simp only [yly, ymy]; rfl)) ?_; (with_reducible refine (ZP.calls k _ _ l0_0 t103 t106 _ ?side1 ?side2 A2.out).mono ?_); (case side1 => repeat (first | exact (Kd.qA HR0_0.out HB.out) | (with_reducible refine Kd.qB ?_ _) | (with_reducible refine Kd.qC ?_ _) | (with_reducible refine Kd.qW ?_))); (case side2 => exact HC0_0.out); rintro e w19 ⟨v104, rfl, ho0, hb⟩; refine ⟨_, rfl, ?_⟩; have n0_ := zA.mk (Kd.qy ho0 (zP (by repeat (first | (with_reducible first | exact HB.out | apply zD | apply zB | apply zE | refine zG ?_ GE101.out | refine zG ?_ GE102.out) | exact HB.out)))); have n1_ := zA.mk (zN (g := gb101) (o := .cells #[.slice A0_0 l0_0.length c0_0] 28 (0, 0)) (by (with_reducible repeat (first | refine zI ?_ _ | refine zK ?_ | refine zH ?_ _)); exact BK101.out) hb); have n2_ := zA.mk (zN (g := gb102) (o := .cells #[.slice none 0 0] 28 (0, 0)) (by (with_reducible repeat (first | refine zI ?_ _ | refine zK ?_ | refine zH ?_ _)); exact BK102.out) hb); have n3_ := zA.mk (zO (by repeat (first | (with_reducible first | exact HB.out | apply zD | apply zB | apply zE | refine zG ?_ GE101.out | refine zG ?_ GE102.out) | exact HB.out)) hb); clear BK101; clear BK102; clear HB; have HO105 := n0_; have BK101 := n1_; have BK102 := n2_; have HB := n3_; clear n0_ n1_ n2_ n3_; (try clear hb); (try clear hb2); (try clear hk); (try clear hi); (try clear ho0); have hcz20_0 : w19.cell? ⟨gb102, 0, none⟩ = some (.slice none 0 0) := (zJ BK102.out 0).trans rfl; have hfz20_0 := zL BK102.out 0))
    refine bodyPost_ret (JV rfl _ _ gb102 28 #[.slice none 0 0] (0, 0) _ rfl (by (with_reducible repeat (first | refine zI ?_ _ | refine zK ?_ | refine zH ?_ _)); refine qH (cs := #[.slice none 0 0]) ?_ 0 _ rfl; (with_reducible repeat (first | refine zI ?_ _ | refine zK ?_ | refine zH ?_ _)); exact BK102.out) Try.underlying28 rfl (by kernel_rfl)) rfl ?_
    exact ⟨_, by first | rfl | (simp [zX, zY] <;> rfl) | (simp [*, zX, zY] <;> rfl), by first | exact Kd.zAq _ _ _ _ _ | exact Kd.zBP _ _ _ _ _ | exact Kd.zBQ _ _ _ _ _ | exact Kd.zBJ _ _ _ _ _ | exact Kd.Jl _ _ _ _ _, by repeat (first | (with_reducible first | exact HB.out | apply zD | apply zB | apply zE | refine zG ?_ GE101.out | refine zG ?_ GE102.out) | exact HB.out)⟩
end Go.Proofs.Ytdgdnnjigigkcaa.P
namespace Go.Proofs.Ytdgdnnjigigkcaa.Lib
open Go.RowKit Go.Proofs.YtdgdnnjigigkcaaW.PrintWords
set_option linter.unusedVariables false
section
variable {α : Type} {d : Kd α} {e b lo hi lo2 hi2 T : Nat} {w w' W : World} {v : Value} {xs ys : List α}
def ObS (d : Kd α) (e b : Nat) (w : World) (lo hi : Nat) (v : Value) (xs : List α) : Prop := hi ≤ w.heap.size ∧ Kd.S d e w b (fun k => lo ≤ k ∧ k < hi) v xs
theorem size_set (w : World) (g i : Nat) (u : Value) : w.heap.size ≤ (w.setCell ⟨g, i, none⟩ u).heap.size := ((yqy 0 w).setCell (Nat.zero_le _) u).size
theorem ObS.made (ho : Kd.S d e w' W.heap.size (fun _ => True) v xs) (hb : Below W.heap.size W w') (hT : T ≤ W.heap.size) (hB : b ≤ W.heap.size) : ∃ lo hi, (T ≤ lo ∧ lo ≤ hi) ∧ hi ≤ w'.heap.size ∧ ObS d e b w' lo hi v xs :=
  ⟨W.heap.size, w'.heap.size, ⟨hT, hb.size⟩, ypy _, ypy _, Kd.JN (Kd.Qk (Kd.zDQ ho) (fun k hk => ⟨hk.2.1, hk.2.2.1⟩)) hB⟩
theorem ObS.below (h : ObS d e b w lo hi v xs) (hb : Below w.heap.size w w') : ObS d e b w' lo hi v xs := ⟨Nat.le_trans h.1 hb.size, Kd.Zw h.2 hb⟩
theorem ObS.drew (h : ObS d e b w lo hi v xs) : ObS d e b w.drew lo hi v xs := ⟨h.1, Kd.Zz h.2⟩
theorem ObS.far {g i : Nat} (h : ObS d e b w lo hi v xs) (hg : g < lo ∨ hi ≤ g) (u : Value) : ObS d e b (w.setCell ⟨g, i, none⟩ u) lo hi v xs :=
  ⟨Nat.le_trans h.1 (size_set _ _ _ _), Kd.zBk h.2 (fun k hk => by show k ≠ g; have := hk.1; have := hk.2; omega) u⟩
theorem ObS.kept (h : ObS d e b w lo hi v xs) (hk : Kept w w' (fun k => lo2 ≤ k ∧ k < hi2)) (hd : hi ≤ lo2 ∨ hi2 ≤ lo) : ObS d e b w' lo hi v xs :=
  ⟨Nat.le_trans h.1 hk.1, Kd.S_kept h.2 hk (fun k h1 h2 => by have := h1.1; have := h1.2; have := h2.1; have := h2.2; omega)⟩
theorem ObS.slice (h : ObS d e b w lo hi v xs) : ∃ A c, v = .slice A xs.length c := Kd.QY h.2
theorem ObS.reads {A : Option Addr} {n c : Nat} (h : ObS d e b w lo hi (.slice A n c) xs) : n = xs.length ∧ n ≤ c ∧ d.C w A xs.length xs := Kd.zAO h.2
theorem ObS.room {A : Option Addr} {n c : Nat} (h : ObS d e b w lo hi (.slice A n c) xs) : xs.length ≤ c := by have := h.reads; omega
theorem ObS.marked (h : ObS d e b w lo hi v xs) (hy : Kd.S d e w' b (fun k => lo ≤ k ∧ k < hi) v ys) (hs : w.heap.size ≤ w'.heap.size) : ObS d e b w' lo hi v ys := ⟨Nat.le_trans h.1 hs, hy⟩
theorem ObS.row (h : ObS d e b w lo hi v xs) : Kd.S d e w b (fun k => lo ≤ k ∧ k < hi) v xs := h.2
theorem ZA (h : T ≤ w.heap.size) (hb : Below w.heap.size w w') : T ≤ w'.heap.size := Nat.le_trans h hb.size
theorem zEC (h : T ≤ w.heap.size) : T ≤ w.drew.heap.size := h
theorem zA5 {g i : Nat} {u : Value} (h : T ≤ w.heap.size) : T ≤ (w.setCell ⟨g, i, none⟩ u).heap.size := Nat.le_trans h (size_set _ _ _ _)
end
end Go.Proofs.Ytdgdnnjigigkcaa.Lib
namespace Go.Proofs.Ytdgdnnjigigkcaa.P
open Go.RowKit Go.Proofs.YtdgdnnjigigkcaaW.PrintWords Go.Proofs.YtdgdnnjigigkcaaW.PrintLast Go.Proofs.YtdgdnnjigigkcaaW.PrintMore
attribute [local go_sem] Qm Qn JO JP QT QU Qo Qp
set_option linter.unusedVariables false
set_option linter.unusedSimpArgs false
open Go.Proofs.Ytdgdnnjigigkcaa.Lib
def ZE.f (k : Nat) (l0 : List (List (qI))) : Option Bool := (ZK.f k l0 1048576).bind fun t2 => if t2 < 0 then some true else (qV.f k l0).bind fun t5 => (Za.f k t5).bind fun bt3 => (qV.f k l0).bind fun t12 => (ZD.f k t12).bind fun bt5 => (qU.f k bt5.1 bt3.1).bind fun t19 => if t19 = true then if bt5.2 = bt3.2 then (qV.f k l0).bind fun t22 => (qU.f k t12 t22).bind fun t25 => if t25 = true then (qp.f k t12 1).bind fun bt12 => if bt12.1 < 0 then some false else (qU.f k bt5.1 bt3.1).bind fun t31 => if t31 = true then if bt5.2 = bt3.2 then (qp.f k bt5.1 1).bind fun bt17 => (qo.f k bt17.2 1).bind fun t37 => if t37 < 0 then some false else if t37 = bt17.1 then (qV.f k l0).bind fun t41 => (ZD.f k t41).bind fun bt22 => (qU.f k bt22.1 bt3.1).bind fun t48 => if t48 = true then if bt22.2 = bt3.2 then (qo.f k bt17.2 1).bind fun t51 => if t51 < 0 then some false else if t51 = bt17.1 then some true else some false else some false else some false else some false else some false else some false else some false else some false else some false
set_option maxHeartbeats 8000000 in
set_option maxRecDepth 100000 in
theorem ZE.calls (k : Nat) (A0 : Option Addr) (c0 : Nat) (l0 : List (List (qI))) (w : World) (hr0 : Kd.C (Kd.slice 133 Zt) w A0 l0.length l0) (hc0 : l0.length ≤ c0) (h : ZE.f k l0 = some true) :
 Calls Try.prog 10 #[.agg #[.slice A0 l0.length c0]] w fun e w' => e = .returned (.bool true) ∧ Below w.heap.size w w' := by
 have hu24 := Try.underlying24
 have hu28 := Try.underlying28
 have HR0 := zA.mk hr0
 have HC0 := zA.mk hc0
 clear hr0 hc0
 have HB := zA.mk (yqy w.heap.size w)
 have HT := zA.mk (ypy w.heap.size)
 have H := h
 clear h
 unfold ZE.f at H
 obtain ⟨t2, H10, H⟩ := ydy.mp H
 have H1 := zA.mk H10
 clear H10
 by_cases cC3 : t2 < 0
 next =>
  have dC3 : decide (t2 < 0) = true := ygy cC3
  clear cC3 H
  go_enter Try.func10, Try.ntmps10
  try go_wp2_with (first | ((with_reducible refine zm (N := 1) rfl ?_); refine zp ?hg (N := 1) ?hd (cs := #[.slice A0 l0.length c0]) (t := 24) ?hr ?_; (case hd => rfl); (case hg => rfl); (case hr => first | (go_simp; done) | (go_simp; rfl)); intro g1 hg w1 hbox hb; have HNg1 := zA.mk (by rw [hg]; exact HT.out : w.heap.size ≤ g1); have HXg1 := zA.mk (show g1 + 1 ≤ w1.heap.size from qE hbox); have nHB := zA.mk (zO HB.out hb); have nHT := zA.mk (ZA HT.out hb); clear HB HT  ; have HB := nHB; have HT := nHT; clear nHB nHT  ; clear HT; have HT := HXg1; clear HXg1; have BKg1 := zA.mk hbox; clear hg hbox hb; have hczg1 : w1.cell? ⟨g1, 0, none⟩ = some (.slice A0 l0.length c0) := (zJ BKg1.out 0).trans rfl; have hfzg1 := zL BKg1.out 0) | ((with_reducible refine ze (f := 15) rfl ?_); refine qP (some 16) rfl rfl Try.func15 (by kernel_rfl) rfl #[.agg #[.slice A0 l0.length c0], .int .i64 1048576] rfl (by (try simp only [yiy, yjy, yky]); first | done | rfl | (simp only [yly, ymy]; rfl)) ?_; (with_reducible refine (ZK.calls k _ _ l0 1048576 t2 _ ?side1 ?side2 H1.out).mono ?_); (case side1 => exact Kd.qA HR0.out HB.out); (case side2 => exact HC0.out); rintro e w2 ⟨rfl, hb⟩; refine ⟨_, rfl, ?_⟩; (try clear hczg1 hfzg1); have nBg1 := zA.mk (zN (g := g1) (o := .cells #[.slice A0 l0.length c0] 24 (0, 0)) BKg1.out hb); have nHB := zA.mk (zO HB.out hb); have nHT := zA.mk (ZA HT.out hb); clear HB HT  BKg1; have BKg1 := nBg1; have HB := nHB; have HT := nHT; clear nHB nHT  nBg1; (try clear hb); (try clear hnd); have hczg1 : w2.cell? ⟨g1, 0, none⟩ = some (.slice A0 l0.length c0) := (zJ BKg1.out 0).trans rfl; have hfzg1 := zL BKg1.out 0))
  go_ret
  exact ⟨by first | rfl | (simp <;> rfl), HB.out⟩
 rw [if_neg cC3] at H
 have dC3 : decide (t2 < 0) = false := yhy cC3
 clear cC3
 obtain ⟨t5, H40, H⟩ := ydy.mp H
 have H4 := zA.mk H40
 clear H40
 obtain ⟨⟨t8, t10⟩, H70, H⟩ := ydy.mp H
 have H7 := zA.mk H70
 clear H70
 obtain ⟨t12, H110, H⟩ := ydy.mp H
 have H11 := zA.mk H110
 clear H110
 obtain ⟨⟨t15, t17⟩, H140, H⟩ := ydy.mp H
 have H14 := zA.mk H140
 clear H140
 obtain ⟨t19, H180, H⟩ := ydy.mp H
 obtain rfl : t19 = true := by cases t19 with | true => rfl | false => exact absurd H (by simp)
 replace H := H
 have H18 := zA.mk H180
 clear H180
 rw [if_pos rfl] at H
 have cC20 : t17 = t10 := by by_cases c_ : t17 = t10; exact c_; rw [if_neg c_] at H; cases H
 rw [if_pos cC20] at H
 have dC20 : (t17 != t10) = false := by rw [cC20]; exact bne_self_eq_false _
 clear cC20
 obtain ⟨t22, H210, H⟩ := ydy.mp H
 have H21 := zA.mk H210
 clear H210
 obtain ⟨t25, H240, H⟩ := ydy.mp H
 obtain rfl : t25 = true := by cases t25 with | true => rfl | false => exact absurd H (by simp)
 replace H := H
 have H24 := zA.mk H240
 clear H240
 rw [if_pos rfl] at H
 obtain ⟨⟨m27, y28⟩, H260, H⟩ := ydy.mp H
 have H26 := zA.mk H260
 clear H260
 dsimp only at H
 have cC29 : ¬ (m27 < 0) := fun c_ => by rw [if_pos c_] at H; cases H
 rw [if_neg cC29] at H
 have dC29 : decide (m27 < 0) = false := yhy cC29
 clear cC29
 obtain ⟨t31, H300, H⟩ := ydy.mp H
 obtain rfl : t31 = true := by cases t31 with | true => rfl | false => exact absurd H (by simp)
 replace H := H
 have H30 := zA.mk H300
 clear H300
 rw [if_pos rfl] at H
 have cC32 : t17 = t10 := by by_cases c_ : t17 = t10; exact c_; rw [if_neg c_] at H; cases H
 rw [if_pos cC32] at H
 have dC32 : (t17 != t10) = false := by rw [cC32]; exact bne_self_eq_false _
 clear cC32
 obtain ⟨⟨m34, y35⟩, H330, H⟩ := ydy.mp H
 have H33 := zA.mk H330
 clear H330
 dsimp only at H
 obtain ⟨t37, H360, H⟩ := ydy.mp H
 have H36 := zA.mk H360
 clear H360
 have cC38 : ¬ (t37 < 0) := fun c_ => by rw [if_pos c_] at H; cases H
 rw [if_neg cC38] at H
 have dC38 : decide (t37 < 0) = false := yhy cC38
 clear cC38
 have cC39 : t37 = m34 := by by_cases c_ : t37 = m34; exact c_; rw [if_neg c_] at H; cases H
 rw [if_pos cC39] at H
 have dC39 : (t37 != m34) = false := by rw [cC39]; exact bne_self_eq_false _
 clear cC39
 obtain ⟨t41, H400, H⟩ := ydy.mp H
 have H40 := zA.mk H400
 clear H400
 obtain ⟨⟨t44, t46⟩, H430, H⟩ := ydy.mp H
 have H43 := zA.mk H430
 clear H430
 obtain ⟨t48, H470, H⟩ := ydy.mp H
 obtain rfl : t48 = true := by cases t48 with | true => rfl | false => exact absurd H (by simp)
 replace H := H
 have H47 := zA.mk H470
 clear H470
 rw [if_pos rfl] at H
 have cC49 : t46 = t10 := by by_cases c_ : t46 = t10; exact c_; rw [if_neg c_] at H; cases H
 rw [if_pos cC49] at H
 have dC49 : (t46 != t10) = false := by rw [cC49]; exact bne_self_eq_false _
 clear cC49
 obtain ⟨t51, H500, H⟩ := ydy.mp H
 have H50 := zA.mk H500
 clear H500
 have cC52 : ¬ (t51 < 0) := fun c_ => by rw [if_pos c_] at H; cases H
 rw [if_neg cC52] at H
 have dC52 : decide (t51 < 0) = false := yhy cC52
 clear cC52
 have cC53 : t51 = m34 := by by_cases c_ : t51 = m34; exact c_; rw [if_neg c_] at H; cases H
 rw [if_pos cC53] at H
 have dC53 : (t51 != m34) = false := by rw [cC53]; exact bne_self_eq_false _
 clear cC53
 clear H
 go_enter Try.func10, Try.ntmps10
 try go_wp2_with (first | ((with_reducible refine zm (N := 1) rfl ?_); refine zp ?hg (N := 1) ?hd (cs := #[.slice A0 l0.length c0]) (t := 24) ?hr ?_; (case hd => rfl); (case hg => rfl); (case hr => first | (go_simp; done) | (go_simp; rfl)); intro g1 hg w1 hbox hb; have HNg1 := zA.mk (by rw [hg]; exact HT.out : w.heap.size ≤ g1); have HXg1 := zA.mk (show g1 + 1 ≤ w1.heap.size from qE hbox); have nHB := zA.mk (zO HB.out hb); have nHT := zA.mk (ZA HT.out hb); clear HB HT  ; have HB := nHB; have HT := nHT; clear nHB nHT  ; clear HT; have HT := HXg1; clear HXg1; have BKg1 := zA.mk hbox; clear hg hbox hb; have hczg1 : w1.cell? ⟨g1, 0, none⟩ = some (.slice A0 l0.length c0) := (zJ BKg1.out 0).trans rfl; have hfzg1 := zL BKg1.out 0) | ((with_reducible refine ze (f := 15) rfl ?_); refine qP (some 16) rfl rfl Try.func15 (by kernel_rfl) rfl #[.agg #[.slice A0 l0.length c0], .int .i64 1048576] rfl (by (try simp only [yiy, yjy, yky]); first | done | rfl | (simp only [yly, ymy]; rfl)) ?_; (with_reducible refine (ZK.calls k _ _ l0 1048576 t2 _ ?side1 ?side2 H1.out).mono ?_); (case side1 => exact Kd.qA HR0.out HB.out); (case side2 => exact HC0.out); rintro e w2 ⟨rfl, hb⟩; refine ⟨_, rfl, ?_⟩; (try clear hczg1 hfzg1); have nBg1 := zA.mk (zN (g := g1) (o := .cells #[.slice A0 l0.length c0] 24 (0, 0)) BKg1.out hb); have nHB := zA.mk (zO HB.out hb); have nHT := zA.mk (ZA HT.out hb); clear HB HT  BKg1; have BKg1 := nBg1; have HB := nHB; have HT := nHT; clear nHB nHT  nBg1; (try clear hb); (try clear hnd); have hczg1 : w2.cell? ⟨g1, 0, none⟩ = some (.slice A0 l0.length c0) := (zJ BKg1.out 0).trans rfl; have hfzg1 := zL BKg1.out 0) | ((with_reducible refine ze (f := 17) rfl ?_); refine qP (some 21) rfl rfl Try.func17 (by kernel_rfl) rfl #[.agg #[.slice A0 l0.length c0]] rfl (by (try simp only [yiy, yjy, yky]); first | done | rfl | (simp only [yly, ymy]; rfl)) ?_; (with_reducible refine (qV.calls k _ _ l0 t5 _ ?side1 ?side2 H4.out).mono ?_); (case side1 => exact Kd.qA HR0.out HB.out); (case side2 => exact HC0.out); rintro e w3 ⟨vo6, rfl, ho0, hb⟩; refine ⟨_, rfl, ?_⟩; (try clear hczg1 hfzg1); obtain ⟨loo6, hio6, hno6⟩ := ObS.made ho0 hb HT.out (zP HB.out); have nBg1 := zA.mk (zN (g := g1) (o := .cells #[.slice A0 l0.length c0] 24 (0, 0)) BKg1.out hb); have nHB := zA.mk (zO HB.out hb); have nHT := zA.mk (ZA HT.out hb); clear HB HT  BKg1; have BKg1 := nBg1; have HB := nHB; have HT := nHT; clear nHB nHT  nBg1; have HNo6 := zA.mk hno6.1; clear HT; have HT := zA.mk hno6.2.1; have HOo6 := zA.mk hno6.2.2; clear hno6 ho0; obtain ⟨Ao6, co6, eeo6⟩ := HOo6.out.slice; subst eeo6; (try clear hb); (try clear hnd); have hczg1 : w3.cell? ⟨g1, 0, none⟩ = some (.slice A0 l0.length c0) := (zJ BKg1.out 0).trans rfl; have hfzg1 := zL BKg1.out 0) | ((with_reducible refine ze (f := 37) rfl ?_); refine qP (some 22) rfl rfl Try.func37 (by kernel_rfl) rfl #[.agg #[.slice Ao6 t5.length co6]] rfl (by (try simp only [yiy, yjy, yky]); first | done | rfl | (simp only [yly, ymy]; rfl)) ?_; (with_reducible refine (Za.calls k _ _ t5 t8 t10 _ ?side1 ?side2 H7.out).mono ?_); (case side1 => exact (ObS.reads HOo6.out).2.2); (case side2 => exact ObS.room HOo6.out); rintro e w4 ⟨vo9, rfl, ho0, hb⟩; refine ⟨_, rfl, ?_⟩; (try clear hczg1 hfzg1); obtain ⟨loo9, hio9, hno9⟩ := ObS.made ho0 hb HT.out (zP HB.out); have nOo6 := zA.mk (ObS.below HOo6.out hb); have nBg1 := zA.mk (zN (g := g1) (o := .cells #[.slice A0 l0.length c0] 24 (0, 0)) BKg1.out hb); have nHB := zA.mk (zO HB.out hb); have nHT := zA.mk (ZA HT.out hb); clear HB HT HOo6 BKg1; have HOo6 := nOo6; have BKg1 := nBg1; have HB := nHB; have HT := nHT; clear nHB nHT nOo6 nBg1; have HNo9 := zA.mk hno9.1; clear HT; have HT := zA.mk hno9.2.1; have HOo9 := zA.mk hno9.2.2; clear hno9 ho0; obtain ⟨Ao9, co9, eeo9⟩ := HOo9.out.slice; subst eeo9; (try clear hb); (try clear hnd); have hczg1 : w4.cell? ⟨g1, 0, none⟩ = some (.slice A0 l0.length c0) := (zJ BKg1.out 0).trans rfl; have hfzg1 := zL BKg1.out 0) | ((with_reducible refine zm (N := 4) rfl ?_); refine zp ?hg (N := 4) ?hd (cs := #[.slice none 0 0]) (t := 28) ?hr ?_; (case hd => rfl); (case hg => rfl); (case hr => first | (go_simp; done) | (go_simp; rfl)); intro g4 hg w5 hbox hb; (try clear hczg1 hfzg1); have HNg4 := zA.mk (by rw [hg]; exact HT.out : hio9 ≤ g4); have HXg4 := zA.mk (show g4 + 1 ≤ w5.heap.size from qE hbox); have nOo6 := zA.mk (ObS.below HOo6.out hb); have nOo9 := zA.mk (ObS.below HOo9.out hb); have nBg1 := zA.mk (zN (g := g1) (o := .cells #[.slice A0 l0.length c0] 24 (0, 0)) BKg1.out hb); have nHB := zA.mk (zO HB.out hb); have nHT := zA.mk (ZA HT.out hb); clear HB HT HOo6 HOo9 BKg1; have HOo6 := nOo6; have HOo9 := nOo9; have BKg1 := nBg1; have HB := nHB; have HT := nHT; clear nHB nHT nOo6 nOo9 nBg1; clear HT; have HT := HXg4; clear HXg4; have BKg4 := zA.mk hbox; clear hg hbox hb; have hnbg4_g1 : g4 ≠ g1 := (by have := HNg1.out; have := HNo6.out; have := HNo9.out; have := HNg4.out; omega); have hnbg1_g4 : g1 ≠ g4 := (by have := HNg1.out; have := HNo6.out; have := HNo9.out; have := HNg4.out; omega); have hczg1 : w5.cell? ⟨g1, 0, none⟩ = some (.slice A0 l0.length c0) := (zJ BKg1.out 0).trans rfl; have hfzg1 := zL BKg1.out 0; have hczg4 : w5.cell? ⟨g4, 0, none⟩ = some (.slice none 0 0) := (zJ BKg4.out 0).trans rfl; have hfzg4 := zL BKg4.out 0) | ((with_reducible refine ze (f := 17) rfl ?_); refine qP (some 26) rfl rfl Try.func17 (by kernel_rfl) rfl #[.agg #[.slice A0 l0.length c0]] rfl (by (try simp only [yiy, yjy, yky]); first | done | rfl | (simp only [yly, ymy]; rfl)) ?_; (with_reducible refine (qV.calls k _ _ l0 t12 _ ?side1 ?side2 H11.out).mono ?_); (case side1 => exact Kd.qA HR0.out (zG HB.out (show w.heap.size ≤ g4 from (by have := HNg1.out; have := HNo6.out; have := HNo9.out; have := HNg4.out; omega)))); (case side2 => exact HC0.out); rintro e w6 ⟨vo13, rfl, ho0, hb⟩; refine ⟨_, rfl, ?_⟩; (try clear hczg1 hfzg1 hczg4 hfzg4); obtain ⟨loo13, hio13, hno13⟩ := ObS.made ho0 hb (zA5 HT.out) (zP (zG HB.out (show w.heap.size ≤ g4 from (by have := HNg1.out; have := HNo6.out; have := HNo9.out; have := HNg4.out; omega)))); have nOo6 := zA.mk (ObS.below (ObS.far (g := g4) (i := 0) HOo6.out (by have := HNg1.out; have := HNo6.out; have := HNo9.out; have := HNg4.out; omega) _) hb); have nOo9 := zA.mk (ObS.below (ObS.far (g := g4) (i := 0) HOo9.out (by have := HNg1.out; have := HNo6.out; have := HNo9.out; have := HNg4.out; omega) _) hb); have nBg1 := zA.mk (zN (g := g1) (o := .cells #[.slice A0 l0.length c0] 24 (0, 0)) (zv (p := ⟨g4, 0, none⟩) BKg1.out (show g1 ≠ g4 from (by have := HNg1.out; have := HNo6.out; have := HNo9.out; have := HNg4.out; omega)) _) hb); have nBg4 := zA.mk (zN (g := g4) (o := .cells #[.slice Ao9 t8.length co9] 28 (0, 0)) (qH (cs := #[.slice none 0 0]) BKg4.out 0 _ rfl) hb); have nHB := zA.mk (zO (zG HB.out (show w.heap.size ≤ g4 from (by have := HNg1.out; have := HNo6.out; have := HNo9.out; have := HNg4.out; omega))) hb); have nHT := zA.mk (ZA (zA5 HT.out) hb); clear HB HT HOo6 HOo9 BKg1 BKg4; have HOo6 := nOo6; have HOo9 := nOo9; have BKg1 := nBg1; have BKg4 := nBg4; have HB := nHB; have HT := nHT; clear nHB nHT nOo6 nOo9 nBg1 nBg4; have HNo13 := zA.mk hno13.1; clear HT; have HT := zA.mk hno13.2.1; have HOo13 := zA.mk hno13.2.2; clear hno13 ho0; obtain ⟨Ao13, co13, eeo13⟩ := HOo13.out.slice; subst eeo13; (try clear hb); (try clear hnd); have hczg1 : w6.cell? ⟨g1, 0, none⟩ = some (.slice A0 l0.length c0) := (zJ BKg1.out 0).trans rfl; have hfzg1 := zL BKg1.out 0; have hczg4 : w6.cell? ⟨g4, 0, none⟩ = some (.slice Ao9 t8.length co9) := (zJ BKg4.out 0).trans rfl; have hfzg4 := zL BKg4.out 0) | ((with_reducible refine zm (N := 6) rfl ?_); refine zp ?hg (N := 6) ?hd (cs := #[.slice none 0 0]) (t := 28) ?hr ?_; (case hd => rfl); (case hg => rfl); (case hr => first | (go_simp; done) | (go_simp; rfl)); intro g6 hg w7 hbox hb; (try clear hczg1 hfzg1 hczg4 hfzg4); have HNg6 := zA.mk (by rw [hg]; exact HT.out : hio13 ≤ g6); have HXg6 := zA.mk (show g6 + 1 ≤ w7.heap.size from qE hbox); have nOo6 := zA.mk (ObS.below HOo6.out hb); have nOo9 := zA.mk (ObS.below HOo9.out hb); have nOo13 := zA.mk (ObS.below HOo13.out hb); have nBg1 := zA.mk (zN (g := g1) (o := .cells #[.slice A0 l0.length c0] 24 (0, 0)) BKg1.out hb); have nBg4 := zA.mk (zN (g := g4) (o := .cells #[.slice Ao9 t8.length co9] 28 (0, 0)) BKg4.out hb); have nHB := zA.mk (zO HB.out hb); have nHT := zA.mk (ZA HT.out hb); clear HB HT HOo6 HOo9 HOo13 BKg1 BKg4; have HOo6 := nOo6; have HOo9 := nOo9; have HOo13 := nOo13; have BKg1 := nBg1; have BKg4 := nBg4; have HB := nHB; have HT := nHT; clear nHB nHT nOo6 nOo9 nOo13 nBg1 nBg4; clear HT; have HT := HXg6; clear HXg6; have BKg6 := zA.mk hbox; clear hg hbox hb; have hnbg6_g1 : g6 ≠ g1 := (by have := HNg1.out; have := HNo6.out; have := HNo9.out; have := HNg4.out; have := HNo13.out; have := HNg6.out; omega); have hnbg1_g6 : g1 ≠ g6 := (by have := HNg1.out; have := HNo6.out; have := HNo9.out; have := HNg4.out; have := HNo13.out; have := HNg6.out; omega); have hnbg6_g4 : g6 ≠ g4 := (by have := HNg1.out; have := HNo6.out; have := HNo9.out; have := HNg4.out; have := HNo13.out; have := HNg6.out; omega); have hnbg4_g6 : g4 ≠ g6 := (by have := HNg1.out; have := HNo6.out; have := HNo9.out; have := HNg4.out; have := HNo13.out; have := HNg6.out; omega); have hczg1 : w7.cell? ⟨g1, 0, none⟩ = some (.slice A0 l0.length c0) := (zJ BKg1.out 0).trans rfl; have hfzg1 := zL BKg1.out 0; have hczg4 : w7.cell? ⟨g4, 0, none⟩ = some (.slice Ao9 t8.length co9) := (zJ BKg4.out 0).trans rfl; have hfzg4 := zL BKg4.out 0; have hczg6 : w7.cell? ⟨g6, 0, none⟩ = some (.slice none 0 0) := (zJ BKg6.out 0).trans rfl; have hfzg6 := zL BKg6.out 0) | ((with_reducible refine ze (f := 38) rfl ?_); refine qP (some 29) rfl rfl Try.func38 (by kernel_rfl) rfl #[.agg #[.slice Ao13 t12.length co13]] rfl (by (try simp only [yiy, yjy, yky]); first | done | rfl | (simp only [yly, ymy]; rfl)) ?_; (with_reducible refine (ZD.calls k _ _ t12 t15 t17 _ ?side1 ?side2 H14.out).mono ?_); (case side1 => exact (ObS.reads (ObS.far (g := g6) (i := 0) HOo13.out (by have := HNg1.out; have := HNo6.out; have := HNo9.out; have := HNg4.out; have := HNo13.out; have := HNg6.out; omega) _)).2.2); (case side2 => exact ObS.room HOo13.out); rintro e w8 ⟨vo16, rfl, ho0, hb⟩; refine ⟨_, rfl, ?_⟩; (try clear hczg1 hfzg1 hczg4 hfzg4 hczg6 hfzg6); obtain ⟨loo16, hio16, hno16⟩ := ObS.made ho0 hb (zA5 HT.out) (zP (zG HB.out (show w.heap.size ≤ g6 from (by have := HNg1.out; have := HNo6.out; have := HNo9.out; have := HNg4.out; have := HNo13.out; have := HNg6.out; omega)))); have nOo6 := zA.mk (ObS.below (ObS.far (g := g6) (i := 0) HOo6.out (by have := HNg1.out; have := HNo6.out; have := HNo9.out; have := HNg4.out; have := HNo13.out; have := HNg6.out; omega) _) hb); have nOo9 := zA.mk (ObS.below (ObS.far (g := g6) (i := 0) HOo9.out (by have := HNg1.out; have := HNo6.out; have := HNo9.out; have := HNg4.out; have := HNo13.out; have := HNg6.out; omega) _) hb); have nOo13 := zA.mk (ObS.below (ObS.far (g := g6) (i := 0) HOo13.out (by have := HNg1.out; have := HNo6.out; have := HNo9.out; have := HNg4.out; have := HNo13.out; have := HNg6.out; omega) _) hb); have nBg1 := zA.mk (zN (g := g1) (o := .cells #[.slice A0 l0.length c0] 24 (0, 0)) (zv (p := ⟨g6, 0, none⟩) BKg1.out (show g1 ≠ g6 from (by have := HNg1.out; have := HNo6.out; have := HNo9.out; have := HNg4.out; have := HNo13.out; have := HNg6.out; omega)) _) hb); have nBg4 := zA.mk (zN (g := g4) (o := .cells #[.slice Ao9 t8.length co9] 28 (0, 0)) (zv (p := ⟨g6, 0, none⟩) BKg4.out (show g4 ≠ g6 from (by have := HNg1.out; have := HNo6.out; have := HNo9.out; have := HNg4.out; have := HNo13.out; have := HNg6.out; omega)) _) hb); have nBg6 := zA.mk (zN (g := g6) (o := .cells #[.slice Ao13 t12.length co13] 28 (0, 0)) (qH (cs := #[.slice none 0 0]) BKg6.out 0 _ rfl) hb); have nHB := zA.mk (zO (zG HB.out (show w.heap.size ≤ g6 from (by have := HNg1.out; have := HNo6.out; have := HNo9.out; have := HNg4.out; have := HNo13.out; have := HNg6.out; omega))) hb); have nHT := zA.mk (ZA (zA5 HT.out) hb); clear HB HT HOo6 HOo9 HOo13 BKg1 BKg4 BKg6; have HOo6 := nOo6; have HOo9 := nOo9; have HOo13 := nOo13; have BKg1 := nBg1; have BKg4 := nBg4; have BKg6 := nBg6; have HB := nHB; have HT := nHT; clear nHB nHT nOo6 nOo9 nOo13 nBg1 nBg4 nBg6; have HNo16 := zA.mk hno16.1; clear HT; have HT := zA.mk hno16.2.1; have HOo16 := zA.mk hno16.2.2; clear hno16 ho0; obtain ⟨Ao16, co16, eeo16⟩ := HOo16.out.slice; subst eeo16; (try clear hb); (try clear hnd); have hczg1 : w8.cell? ⟨g1, 0, none⟩ = some (.slice A0 l0.length c0) := (zJ BKg1.out 0).trans rfl; have hfzg1 := zL BKg1.out 0; have hczg4 : w8.cell? ⟨g4, 0, none⟩ = some (.slice Ao9 t8.length co9) := (zJ BKg4.out 0).trans rfl; have hfzg4 := zL BKg4.out 0; have hczg6 : w8.cell? ⟨g6, 0, none⟩ = some (.slice Ao13 t12.length co13) := (zJ BKg6.out 0).trans rfl; have hfzg6 := zL BKg6.out 0) | ((with_reducible refine zm (N := 7) rfl ?_); refine zp ?hg (N := 7) ?hd (cs := #[.slice none 0 0]) (t := 28) ?hr ?_; (case hd => rfl); (case hg => rfl); (case hr => first | (go_simp; done) | (go_simp; rfl)); intro g7 hg w9 hbox hb; (try clear hczg1 hfzg1 hczg4 hfzg4 hczg6 hfzg6); have HNg7 := zA.mk (by rw [hg]; exact HT.out : hio16 ≤ g7); have HXg7 := zA.mk (show g7 + 1 ≤ w9.heap.size from qE hbox); have nOo6 := zA.mk (ObS.below HOo6.out hb); have nOo9 := zA.mk (ObS.below HOo9.out hb); have nOo13 := zA.mk (ObS.below HOo13.out hb); have nOo16 := zA.mk (ObS.below HOo16.out hb); have nBg1 := zA.mk (zN (g := g1) (o := .cells #[.slice A0 l0.length c0] 24 (0, 0)) BKg1.out hb); have nBg4 := zA.mk (zN (g := g4) (o := .cells #[.slice Ao9 t8.length co9] 28 (0, 0)) BKg4.out hb); have nBg6 := zA.mk (zN (g := g6) (o := .cells #[.slice Ao13 t12.length co13] 28 (0, 0)) BKg6.out hb); have nHB := zA.mk (zO HB.out hb); have nHT := zA.mk (ZA HT.out hb); clear HB HT HOo6 HOo9 HOo13 HOo16 BKg1 BKg4 BKg6; have HOo6 := nOo6; have HOo9 := nOo9; have HOo13 := nOo13; have HOo16 := nOo16; have BKg1 := nBg1; have BKg4 := nBg4; have BKg6 := nBg6; have HB := nHB; have HT := nHT; clear nHB nHT nOo6 nOo9 nOo13 nOo16 nBg1 nBg4 nBg6; clear HT; have HT := HXg7; clear HXg7; have BKg7 := zA.mk hbox; clear hg hbox hb; have hnbg7_g1 : g7 ≠ g1 := (by have := HNg1.out; have := HNo6.out; have := HNo9.out; have := HNg4.out; have := HNo13.out; have := HNg6.out; have := HNo16.out; have := HNg7.out; omega); have hnbg1_g7 : g1 ≠ g7 := (by have := HNg1.out; have := HNo6.out; have := HNo9.out; have := HNg4.out; have := HNo13.out; have := HNg6.out; have := HNo16.out; have := HNg7.out; omega); have hnbg7_g4 : g7 ≠ g4 := (by have := HNg1.out; have := HNo6.out; have := HNo9.out; have := HNg4.out; have := HNo13.out; have := HNg6.out; have := HNo16.out; have := HNg7.out; omega); have hnbg4_g7 : g4 ≠ g7 := (by have := HNg1.out; have := HNo6.out; have := HNo9.out; have := HNg4.out; have := HNo13.out; have := HNg6.out; have := HNo16.out; have := HNg7.out; omega); have hnbg7_g6 : g7 ≠ g6 := (by have := HNg1.out; have := HNo6.out; have := HNo9.out; have := HNg4.out; have := HNo13.out; have := HNg6.out; have := HNo16.out; have := HNg7.out; omega); have hnbg6_g7 : g6 ≠ g7 := (by have := HNg1.out; have := HNo6.out; have := HNo9.out; have := HNg4.out; have := HNo13.out; have := HNg6.out; have := HNo16.out; have := HNg7.out; omega); have hczg1 : w9.cell? ⟨g1, 0, none⟩ = some (.slice A0 l0.length c0) := (zJ BKg1.out 0).trans rfl; have hfzg1 := zL BKg1.out 0; have hczg4 : w9.cell? ⟨g4, 0, none⟩ = some (.slice Ao9 t8.length co9) := (zJ BKg4.out 0).trans rfl; have hfzg4 := zL BKg4.out 0; have hczg6 : w9.cell? ⟨g6, 0, none⟩ = some (.slice Ao13 t12.length co13) := (zJ BKg6.out 0).trans rfl; have hfzg6 := zL BKg6.out 0; have hczg7 : w9.cell? ⟨g7, 0, none⟩ = some (.slice none 0 0) := (zJ BKg7.out 0).trans rfl; have hfzg7 := zL BKg7.out 0) | ((with_reducible refine ze (f := 19) rfl ?_); refine qP (some 34) rfl rfl Try.func19 (by kernel_rfl) rfl #[.agg #[.slice Ao16 t15.length co16], .agg #[.slice Ao9 t8.length co9]] rfl (by (try simp only [yiy, yjy, yky]); first | done | rfl | (simp only [yly, ymy]; rfl)) ?_; (with_reducible refine (qU.calls k _ _ t15 _ _ t8 true _ ?side1 ?side2 ?side3 ?side4 H18.out).mono ?_); (case side1 => exact (ObS.reads (ObS.far (g := g7) (i := 0) HOo16.out (by have := HNg1.out; have := HNo6.out; have := HNo9.out; have := HNg4.out; have := HNo13.out; have := HNg6.out; have := HNo16.out; have := HNg7.out; omega) _)).2.2); (case side2 => exact ObS.room HOo16.out); (case side3 => exact (ObS.reads (ObS.far (g := g7) (i := 0) HOo9.out (by have := HNg1.out; have := HNo6.out; have := HNo9.out; have := HNg4.out; have := HNo13.out; have := HNg6.out; have := HNo16.out; have := HNg7.out; omega) _)).2.2); (case side4 => exact ObS.room HOo9.out); rintro e w10 ⟨rfl, hb⟩; refine ⟨_, rfl, ?_⟩; (try clear hczg1 hfzg1 hczg4 hfzg4 hczg6 hfzg6 hczg7 hfzg7); have nOo6 := zA.mk (ObS.below (ObS.far (g := g7) (i := 0) HOo6.out (by have := HNg1.out; have := HNo6.out; have := HNo9.out; have := HNg4.out; have := HNo13.out; have := HNg6.out; have := HNo16.out; have := HNg7.out; omega) _) hb); have nOo9 := zA.mk (ObS.below (ObS.far (g := g7) (i := 0) HOo9.out (by have := HNg1.out; have := HNo6.out; have := HNo9.out; have := HNg4.out; have := HNo13.out; have := HNg6.out; have := HNo16.out; have := HNg7.out; omega) _) hb); have nOo13 := zA.mk (ObS.below (ObS.far (g := g7) (i := 0) HOo13.out (by have := HNg1.out; have := HNo6.out; have := HNo9.out; have := HNg4.out; have := HNo13.out; have := HNg6.out; have := HNo16.out; have := HNg7.out; omega) _) hb); have nOo16 := zA.mk (ObS.below (ObS.far (g := g7) (i := 0) HOo16.out (by have := HNg1.out; have := HNo6.out; have := HNo9.out; have := HNg4.out; have := HNo13.out; have := HNg6.out; have := HNo16.out; have := HNg7.out; omega) _) hb); have nBg1 := zA.mk (zN (g := g1) (o := .cells #[.slice A0 l0.length c0] 24 (0, 0)) (zv (p := ⟨g7, 0, none⟩) BKg1.out (show g1 ≠ g7 from (by have := HNg1.out; have := HNo6.out; have := HNo9.out; have := HNg4.out; have := HNo13.out; have := HNg6.out; have := HNo16.out; have := HNg7.out; omega)) _) hb); have nBg4 := zA.mk (zN (g := g4) (o := .cells #[.slice Ao9 t8.length co9] 28 (0, 0)) (zv (p := ⟨g7, 0, none⟩) BKg4.out (show g4 ≠ g7 from (by have := HNg1.out; have := HNo6.out; have := HNo9.out; have := HNg4.out; have := HNo13.out; have := HNg6.out; have := HNo16.out; have := HNg7.out; omega)) _) hb); have nBg6 := zA.mk (zN (g := g6) (o := .cells #[.slice Ao13 t12.length co13] 28 (0, 0)) (zv (p := ⟨g7, 0, none⟩) BKg6.out (show g6 ≠ g7 from (by have := HNg1.out; have := HNo6.out; have := HNo9.out; have := HNg4.out; have := HNo13.out; have := HNg6.out; have := HNo16.out; have := HNg7.out; omega)) _) hb); have nBg7 := zA.mk (zN (g := g7) (o := .cells #[.slice Ao16 t15.length co16] 28 (0, 0)) (qH (cs := #[.slice none 0 0]) BKg7.out 0 _ rfl) hb); have nHB := zA.mk (zO (zG HB.out (show w.heap.size ≤ g7 from (by have := HNg1.out; have := HNo6.out; have := HNo9.out; have := HNg4.out; have := HNo13.out; have := HNg6.out; have := HNo16.out; have := HNg7.out; omega))) hb); have nHT := zA.mk (ZA (zA5 HT.out) hb); clear HB HT HOo6 HOo9 HOo13 HOo16 BKg1 BKg4 BKg6 BKg7; have HOo6 := nOo6; have HOo9 := nOo9; have HOo13 := nOo13; have HOo16 := nOo16; have BKg1 := nBg1; have BKg4 := nBg4; have BKg6 := nBg6; have BKg7 := nBg7; have HB := nHB; have HT := nHT; clear nHB nHT nOo6 nOo9 nOo13 nOo16 nBg1 nBg4 nBg6 nBg7; (try clear hb); (try clear hnd); have hczg1 : w10.cell? ⟨g1, 0, none⟩ = some (.slice A0 l0.length c0) := (zJ BKg1.out 0).trans rfl; have hfzg1 := zL BKg1.out 0; have hczg4 : w10.cell? ⟨g4, 0, none⟩ = some (.slice Ao9 t8.length co9) := (zJ BKg4.out 0).trans rfl; have hfzg4 := zL BKg4.out 0; have hczg6 : w10.cell? ⟨g6, 0, none⟩ = some (.slice Ao13 t12.length co13) := (zJ BKg6.out 0).trans rfl; have hfzg6 := zL BKg6.out 0; have hczg7 : w10.cell? ⟨g7, 0, none⟩ = some (.slice Ao16 t15.length co16) := (zJ BKg7.out 0).trans rfl; have hfzg7 := zL BKg7.out 0))
 (try clear hczg1 hfzg1 hczg4 hfzg4 hczg6 hfzg6 hczg7 hfzg7)
 have nOo6 := zA.mk (ObS.drew HOo6.out)
 have nOo9 := zA.mk (ObS.drew HOo9.out)
 have nOo13 := zA.mk (ObS.drew HOo13.out)
 have nOo16 := zA.mk (ObS.drew HOo16.out)
 have nBg1 := zA.mk (zK BKg1.out)
 have nBg4 := zA.mk (zK BKg4.out)
 have nBg6 := zA.mk (zK BKg6.out)
 have nBg7 := zA.mk (zK BKg7.out)
 have nHB := zA.mk (zE HB.out)
 have nHT := zA.mk (zEC HT.out)
 clear HB HT HOo6 HOo9 HOo13 HOo16 BKg1 BKg4 BKg6 BKg7
 have HOo6 := nOo6
 have HOo9 := nOo9
 have HOo13 := nOo13
 have HOo16 := nOo16
 have BKg1 := nBg1
 have BKg4 := nBg4
 have BKg6 := nBg6
 have BKg7 := nBg7
 have HB := nHB
 have HT := nHT
 clear nHB nHT nOo6 nOo9 nOo13 nOo16 nBg1 nBg4 nBg6 nBg7
 refine ZN (n := 5) (S := fun w' => w'.cell? ⟨g6, 0, none⟩ = some (.slice Ao13 t12.length co13) ∧ w'.cell? ⟨g1, 0, none⟩ = some (.slice A0 l0.length c0)) (ds := []) #[false, false, false, false, false] (by kernel_rfl) rfl rfl ⟨(zJ BKg6.out 0).trans rfl, (zJ BKg1.out 0).trans rfl⟩ (fun hHeld => ?_)
 generalize hdr_ : World.drew _ = w11 at HOo6 HOo9 HOo13 HOo16 BKg1 BKg4 BKg6 BKg7 HB HT hHeld ⊢
 (try clear hdr_)
 refine qQ (i := 0) (N := some 41) (v := ?_) (a' := ?_) #[true, false, false, false, false] rfl rfl (by kernel_rfl) (fun _ _ _ h => h) (Or.inl ⟨by rfl, ?_⟩) hHeld ?_ ?_
 rotate_left
 next =>
  rintro w' ⟨s0, s1⟩
  go_simp
  with_reducible rfl
 rotate_left
 next =>
  simp only [Act.put, yay, yby, ycy, zT, zU]
  rfl
 refine qQ (i := 1) (N := some 42) (v := ?_) (a' := ?_) #[true, true, false, false, false] rfl rfl (by kernel_rfl) (fun _ _ _ h => h) (Or.inl ⟨by rfl, ?_⟩) hHeld ?_ ?_
 rotate_left
 next =>
  rintro w' ⟨s0, s1⟩
  go_simp
  with_reducible rfl
 rotate_left
 next =>
  simp only [Act.put, yay, yby, ycy, zT, zU]
  rfl
 refine QH (i := 2) (N := some 43) #[true, true, true, false, false] rfl rfl (by kernel_rfl) (by decide) (fun K hK => ?_)
 refine Zv Try.func17 (by kernel_rfl) rfl #[.agg #[.slice A0 l0.length c0]] (by rfl) rfl rfl (by (try simp only [yiy, yjy, yky]); first | done | rfl | (simp only [yly, ymy]; rfl)) ?_
 with_reducible refine (qV.calls k _ _ l0 t22 _ ?side1 ?side2 H21.out).mono ?_
 (case side1 => exact Kd.qA HR0.out HB.out)
 (case side2 => exact HC0.out)
 rintro e w12 ⟨vo23, rfl, ho0, hb⟩
 refine ⟨_, rfl, ?_⟩
 (try clear hczg1 hfzg1 hczg4 hfzg4 hczg6 hfzg6 hczg7 hfzg7)
 obtain ⟨loo23, hio23, hno23⟩ := ObS.made ho0 hb HT.out (zP HB.out)
 have nOo6 := zA.mk (ObS.below HOo6.out hb)
 have nOo9 := zA.mk (ObS.below HOo9.out hb)
 have nOo13 := zA.mk (ObS.below HOo13.out hb)
 have nOo16 := zA.mk (ObS.below HOo16.out hb)
 have nBg1 := zA.mk (zN (g := g1) (o := .cells #[.slice A0 l0.length c0] 24 (0, 0)) BKg1.out hb)
 have nBg4 := zA.mk (zN (g := g4) (o := .cells #[.slice Ao9 t8.length co9] 28 (0, 0)) BKg4.out hb)
 have nBg6 := zA.mk (zN (g := g6) (o := .cells #[.slice Ao13 t12.length co13] 28 (0, 0)) BKg6.out hb)
 have nBg7 := zA.mk (zN (g := g7) (o := .cells #[.slice Ao16 t15.length co16] 28 (0, 0)) BKg7.out hb)
 have nHB := zA.mk (zO HB.out hb)
 have nHT := zA.mk (ZA HT.out hb)
 clear HB HT HOo6 HOo9 HOo13 HOo16 BKg1 BKg4 BKg6 BKg7
 have HOo6 := nOo6
 have HOo9 := nOo9
 have HOo13 := nOo13
 have HOo16 := nOo16
 have BKg1 := nBg1
 have BKg4 := nBg4
 have BKg6 := nBg6
 have BKg7 := nBg7
 have HB := nHB
 have HT := nHT
 clear nHB nHT nOo6 nOo9 nOo13 nOo16 nBg1 nBg4 nBg6 nBg7
 have HNo23 := zA.mk hno23.1
 clear HT
 have HT := zA.mk hno23.2.1
 have HOo23 := zA.mk hno23.2.2
 clear hno23 ho0
 obtain ⟨Ao23, co23, eeo23⟩ := HOo23.out.slice
 subst eeo23
 (try clear hb)
 (try clear hnd)
 refine hK.out _ _ ⟨(zJ BKg6.out 0).trans rfl, (zJ BKg1.out 0).trans rfl⟩ (fun hHeld => ?_)
 clear hK K
 refine ZQ (a' := ?_) ?_ ?_
 rotate_left
 next =>
  show Act.put _ (some 43) _ = _
  simp only [Act.put, yay, yby, ycy, zT, zU]
  rfl
 refine QH (i := 3) (N := some 44) #[true, true, true, true, false] rfl rfl (by kernel_rfl) (by decide) (fun K hK => ?_)
 refine Zv Try.func19 (by kernel_rfl) rfl #[.agg #[.slice Ao13 t12.length co13], .agg #[.slice Ao23 t22.length co23]] (by rfl) rfl rfl (by (try simp only [yiy, yjy, yky]); first | done | rfl | (simp only [yly, ymy]; rfl)) ?_
 with_reducible refine (qU.calls k _ _ t12 _ _ t22 true _ ?side1 ?side2 ?side3 ?side4 H24.out).mono ?_
 (case side1 => exact (ObS.reads HOo13.out).2.2)
 (case side2 => exact ObS.room HOo13.out)
 (case side3 => exact (ObS.reads HOo23.out).2.2)
 (case side4 => exact ObS.room HOo23.out)
 rintro e w13 ⟨rfl, hb⟩
 refine ⟨_, rfl, ?_⟩
 (try clear hczg1 hfzg1 hczg4 hfzg4 hczg6 hfzg6 hczg7 hfzg7)
 have nOo6 := zA.mk (ObS.below HOo6.out hb)
 have nOo9 := zA.mk (ObS.below HOo9.out hb)
 have nOo13 := zA.mk (ObS.below HOo13.out hb)
 have nOo16 := zA.mk (ObS.below HOo16.out hb)
 have nOo23 := zA.mk (ObS.below HOo23.out hb)
 have nBg1 := zA.mk (zN (g := g1) (o := .cells #[.slice A0 l0.length c0] 24 (0, 0)) BKg1.out hb)
 have nBg4 := zA.mk (zN (g := g4) (o := .cells #[.slice Ao9 t8.length co9] 28 (0, 0)) BKg4.out hb)
 have nBg6 := zA.mk (zN (g := g6) (o := .cells #[.slice Ao13 t12.length co13] 28 (0, 0)) BKg6.out hb)
 have nBg7 := zA.mk (zN (g := g7) (o := .cells #[.slice Ao16 t15.length co16] 28 (0, 0)) BKg7.out hb)
 have nHB := zA.mk (zO HB.out hb)
 have nHT := zA.mk (ZA HT.out hb)
 clear HB HT HOo6 HOo9 HOo13 HOo16 HOo23 BKg1 BKg4 BKg6 BKg7
 have HOo6 := nOo6
 have HOo9 := nOo9
 have HOo13 := nOo13
 have HOo16 := nOo16
 have HOo23 := nOo23
 have BKg1 := nBg1
 have BKg4 := nBg4
 have BKg6 := nBg6
 have BKg7 := nBg7
 have HB := nHB
 have HT := nHT
 clear nHB nHT nOo6 nOo9 nOo13 nOo16 nOo23 nBg1 nBg4 nBg6 nBg7
 (try clear hb)
 (try clear hnd)
 refine hK.out _ _ ⟨(zJ BKg6.out 0).trans rfl, (zJ BKg1.out 0).trans rfl⟩ (fun hHeld => ?_)
 clear hK K
 refine ZQ (a' := ?_) ?_ ?_
 rotate_left
 next =>
  show Act.put _ (some 44) _ = _
  simp only [Act.put, yay, yby, ycy, zT, zU]
  rfl
 refine zg (i := 4) (N := some 45) (v := ?_) (a' := ?_) #[true, true, true, true, true] rfl rfl (by kernel_rfl) (fun _ _ _ h => h) (Or.inl ⟨by rfl, ?_⟩) ?_ ?_
 rotate_left
 next =>
  intro w'
  go_simp
  with_reducible rfl
 rotate_left
 next =>
  simp only [Act.put, yay, yby, ycy, zT, zU]
  rfl
 refine Zo (by kernel_rfl) ?_
 have hczg1 : w13.cell? ⟨g1, 0, none⟩ = some (.slice A0 l0.length c0) := (zJ BKg1.out 0).trans rfl
 have hfzg1 := zL BKg1.out 0
 have hczg4 : w13.cell? ⟨g4, 0, none⟩ = some (.slice Ao9 t8.length co9) := (zJ BKg4.out 0).trans rfl
 have hfzg4 := zL BKg4.out 0
 have hczg6 : w13.cell? ⟨g6, 0, none⟩ = some (.slice Ao13 t12.length co13) := (zJ BKg6.out 0).trans rfl
 have hfzg6 := zL BKg6.out 0
 have hczg7 : w13.cell? ⟨g7, 0, none⟩ = some (.slice Ao16 t15.length co16) := (zJ BKg7.out 0).trans rfl
 have hfzg7 := zL BKg7.out 0
 try go_wp2_with (first | ((with_reducible refine ze (f := 20) rfl ?_); refine qP (some 48) rfl rfl Try.func20 (by kernel_rfl) rfl #[.agg #[.slice Ao13 t12.length co13], .int .i64 1] rfl (by (try simp only [yiy, yjy, yky]); first | done | rfl | (simp only [yly, ymy]; rfl)) ?_; (with_reducible refine (qp.calls k (fun k_ => loo13 ≤ k_ ∧ k_ < hio13) (.slice Ao13 t12.length co13) t12 1 m27 y28 w _ HB.out (ObS.row HOo13.out) H26.out).mono ?_); rintro e w14 ⟨rfl, hy, hb, hk0⟩; refine ⟨_, rfl, ?_⟩; have hk := hk0; have nM := zA.mk (ObS.marked HOo13.out hy hk.1); (try clear hczg1 hfzg1 hczg4 hfzg4 hczg6 hfzg6 hczg7 hfzg7); have nOo6 := zA.mk (ObS.kept HOo6.out hk (by have := HNg1.out; have := HNo6.out; have := HNo9.out; have := HNg4.out; have := HNo13.out; have := HNg6.out; have := HNo16.out; have := HNg7.out; have := HNo23.out; omega)); have nOo9 := zA.mk (ObS.kept HOo9.out hk (by have := HNg1.out; have := HNo6.out; have := HNo9.out; have := HNg4.out; have := HNo13.out; have := HNg6.out; have := HNo16.out; have := HNg7.out; have := HNo23.out; omega)); have nOo16 := zA.mk (ObS.kept HOo16.out hk (by have := HNg1.out; have := HNo6.out; have := HNo9.out; have := HNg4.out; have := HNo13.out; have := HNg6.out; have := HNo16.out; have := HNg7.out; have := HNo23.out; omega)); have nOo23 := zA.mk (ObS.kept HOo23.out hk (by have := HNg1.out; have := HNo6.out; have := HNo9.out; have := HNg4.out; have := HNo13.out; have := HNg6.out; have := HNo16.out; have := HNg7.out; have := HNo23.out; omega)); have nBg1 := zA.mk (Ql (g := g1) (o := .cells #[.slice A0 l0.length c0] 24 (0, 0)) BKg1.out hk (fun h_ => by have h1_ := h_.1; have h2_ := h_.2; have := HNg1.out; have := HNo6.out; have := HNo9.out; have := HNg4.out; have := HNo13.out; have := HNg6.out; have := HNo16.out; have := HNg7.out; have := HNo23.out; omega)); have nBg4 := zA.mk (Ql (g := g4) (o := .cells #[.slice Ao9 t8.length co9] 28 (0, 0)) BKg4.out hk (fun h_ => by have h1_ := h_.1; have h2_ := h_.2; have := HNg1.out; have := HNo6.out; have := HNo9.out; have := HNg4.out; have := HNo13.out; have := HNg6.out; have := HNo16.out; have := HNg7.out; have := HNo23.out; omega)); have nBg6 := zA.mk (Ql (g := g6) (o := .cells #[.slice Ao13 t12.length co13] 28 (0, 0)) BKg6.out hk (fun h_ => by have h1_ := h_.1; have h2_ := h_.2; have := HNg1.out; have := HNo6.out; have := HNo9.out; have := HNg4.out; have := HNo13.out; have := HNg6.out; have := HNo16.out; have := HNg7.out; have := HNo23.out; omega)); have nBg7 := zA.mk (Ql (g := g7) (o := .cells #[.slice Ao16 t15.length co16] 28 (0, 0)) BKg7.out hk (fun h_ => by have h1_ := h_.1; have h2_ := h_.2; have := HNg1.out; have := HNo6.out; have := HNo9.out; have := HNg4.out; have := HNo13.out; have := HNg6.out; have := HNo16.out; have := HNg7.out; have := HNo23.out; omega)); have nHT := zA.mk (Nat.le_trans HT.out hk.1); clear HB HT HOo6 HOo9 HOo13 HOo16 HOo23 BKg1 BKg4 BKg6 BKg7; have HOo6 := nOo6; have HOo9 := nOo9; have HOo13 := nM; have HOo16 := nOo16; have HOo23 := nOo23; have BKg1 := nBg1; have BKg4 := nBg4; have BKg6 := nBg6; have BKg7 := nBg7; have HB := zA.mk hb; have HT := nHT; (try clear hy); clear hb hk0 hk nM nHT nOo6 nOo9 nOo16 nOo23 nBg1 nBg4 nBg6 nBg7; have hczg1 : w14.cell? ⟨g1, 0, none⟩ = some (.slice A0 l0.length c0) := (zJ BKg1.out 0).trans rfl; have hfzg1 := zL BKg1.out 0; have hczg4 : w14.cell? ⟨g4, 0, none⟩ = some (.slice Ao9 t8.length co9) := (zJ BKg4.out 0).trans rfl; have hfzg4 := zL BKg4.out 0; have hczg6 : w14.cell? ⟨g6, 0, none⟩ = some (.slice Ao13 t12.length co13) := (zJ BKg6.out 0).trans rfl; have hfzg6 := zL BKg6.out 0; have hczg7 : w14.cell? ⟨g7, 0, none⟩ = some (.slice Ao16 t15.length co16) := (zJ BKg7.out 0).trans rfl; have hfzg7 := zL BKg7.out 0))
 try go_wp2_with (first | (go_at_call 19; (with_reducible refine (qU.calls k _ _ t15 _ _ t8 true _ ?side1 ?side2 ?side3 ?side4 H30.out).mono ?_); (case side1 => exact (ObS.reads HOo16.out).2.2); (case side2 => exact ObS.room HOo16.out); (case side3 => exact (ObS.reads HOo9.out).2.2); (case side4 => exact ObS.room HOo9.out); rintro e w15 ⟨rfl, hb⟩; (try clear hczg1 hfzg1 hczg4 hfzg4 hczg6 hfzg6 hczg7 hfzg7); have nOo6 := zA.mk (ObS.below HOo6.out hb); have nOo9 := zA.mk (ObS.below HOo9.out hb); have nOo13 := zA.mk (ObS.below HOo13.out hb); have nOo16 := zA.mk (ObS.below HOo16.out hb); have nOo23 := zA.mk (ObS.below HOo23.out hb); have nBg1 := zA.mk (zN (g := g1) (o := .cells #[.slice A0 l0.length c0] 24 (0, 0)) BKg1.out hb); have nBg4 := zA.mk (zN (g := g4) (o := .cells #[.slice Ao9 t8.length co9] 28 (0, 0)) BKg4.out hb); have nBg6 := zA.mk (zN (g := g6) (o := .cells #[.slice Ao13 t12.length co13] 28 (0, 0)) BKg6.out hb); have nBg7 := zA.mk (zN (g := g7) (o := .cells #[.slice Ao16 t15.length co16] 28 (0, 0)) BKg7.out hb); have nHB := zA.mk (zO HB.out hb); have nHT := zA.mk (ZA HT.out hb); clear HB HT HOo6 HOo9 HOo13 HOo16 HOo23 BKg1 BKg4 BKg6 BKg7; have HOo6 := nOo6; have HOo9 := nOo9; have HOo13 := nOo13; have HOo16 := nOo16; have HOo23 := nOo23; have BKg1 := nBg1; have BKg4 := nBg4; have BKg6 := nBg6; have BKg7 := nBg7; have HB := nHB; have HT := nHT; clear nHB nHT nOo6 nOo9 nOo13 nOo16 nOo23 nBg1 nBg4 nBg6 nBg7; (try clear hb); (try clear hnd); have hczg1 : w15.cell? ⟨g1, 0, none⟩ = some (.slice A0 l0.length c0) := (zJ BKg1.out 0).trans rfl; have hfzg1 := zL BKg1.out 0; have hczg4 : w15.cell? ⟨g4, 0, none⟩ = some (.slice Ao9 t8.length co9) := (zJ BKg4.out 0).trans rfl; have hfzg4 := zL BKg4.out 0; have hczg6 : w15.cell? ⟨g6, 0, none⟩ = some (.slice Ao13 t12.length co13) := (zJ BKg6.out 0).trans rfl; have hfzg6 := zL BKg6.out 0; have hczg7 : w15.cell? ⟨g7, 0, none⟩ = some (.slice Ao16 t15.length co16) := (zJ BKg7.out 0).trans rfl; have hfzg7 := zL BKg7.out 0) | ((with_reducible refine ze (f := 20) rfl ?_); refine qP (some 64) rfl rfl Try.func20 (by kernel_rfl) rfl #[.agg #[.slice Ao16 t15.length co16], .int .i64 1] rfl (by (try simp only [yiy, yjy, yky]); first | done | rfl | (simp only [yly, ymy]; rfl)) ?_; (with_reducible refine (qp.calls k (fun k_ => loo16 ≤ k_ ∧ k_ < hio16) (.slice Ao16 t15.length co16) t15 1 m34 y35 w _ HB.out (ObS.row HOo16.out) H33.out).mono ?_); rintro e w16 ⟨rfl, hy, hb, hk0⟩; refine ⟨_, rfl, ?_⟩; have hk := hk0; have nM := zA.mk (ObS.marked HOo16.out hy hk.1); (try clear hczg1 hfzg1 hczg4 hfzg4 hczg6 hfzg6 hczg7 hfzg7); have nOo6 := zA.mk (ObS.kept HOo6.out hk (by have := HNg1.out; have := HNo6.out; have := HNo9.out; have := HNg4.out; have := HNo13.out; have := HNg6.out; have := HNo16.out; have := HNg7.out; have := HNo23.out; omega)); have nOo9 := zA.mk (ObS.kept HOo9.out hk (by have := HNg1.out; have := HNo6.out; have := HNo9.out; have := HNg4.out; have := HNo13.out; have := HNg6.out; have := HNo16.out; have := HNg7.out; have := HNo23.out; omega)); have nOo13 := zA.mk (ObS.kept HOo13.out hk (by have := HNg1.out; have := HNo6.out; have := HNo9.out; have := HNg4.out; have := HNo13.out; have := HNg6.out; have := HNo16.out; have := HNg7.out; have := HNo23.out; omega)); have nOo23 := zA.mk (ObS.kept HOo23.out hk (by have := HNg1.out; have := HNo6.out; have := HNo9.out; have := HNg4.out; have := HNo13.out; have := HNg6.out; have := HNo16.out; have := HNg7.out; have := HNo23.out; omega)); have nBg1 := zA.mk (Ql (g := g1) (o := .cells #[.slice A0 l0.length c0] 24 (0, 0)) BKg1.out hk (fun h_ => by have h1_ := h_.1; have h2_ := h_.2; have := HNg1.out; have := HNo6.out; have := HNo9.out; have := HNg4.out; have := HNo13.out; have := HNg6.out; have := HNo16.out; have := HNg7.out; have := HNo23.out; omega)); have nBg4 := zA.mk (Ql (g := g4) (o := .cells #[.slice Ao9 t8.length co9] 28 (0, 0)) BKg4.out hk (fun h_ => by have h1_ := h_.1; have h2_ := h_.2; have := HNg1.out; have := HNo6.out; have := HNo9.out; have := HNg4.out; have := HNo13.out; have := HNg6.out; have := HNo16.out; have := HNg7.out; have := HNo23.out; omega)); have nBg6 := zA.mk (Ql (g := g6) (o := .cells #[.slice Ao13 t12.length co13] 28 (0, 0)) BKg6.out hk (fun h_ => by have h1_ := h_.1; have h2_ := h_.2; have := HNg1.out; have := HNo6.out; have := HNo9.out; have := HNg4.out; have := HNo13.out; have := HNg6.out; have := HNo16.out; have := HNg7.out; have := HNo23.out; omega)); have nBg7 := zA.mk (Ql (g := g7) (o := .cells #[.slice Ao16 t15.length co16] 28 (0, 0)) BKg7.out hk (fun h_ => by have h1_ := h_.1; have h2_ := h_.2; have := HNg1.out; have := HNo6.out; have := HNo9.out; have := HNg4.out; have := HNo13.out; have := HNg6.out; have := HNo16.out; have := HNg7.out; have := HNo23.out; omega)); have nHT := zA.mk (Nat.le_trans HT.out hk.1); clear HB HT HOo6 HOo9 HOo13 HOo16 HOo23 BKg1 BKg4 BKg6 BKg7; have HOo6 := nOo6; have HOo9 := nOo9; have HOo13 := nOo13; have HOo16 := nM; have HOo23 := nOo23; have BKg1 := nBg1; have BKg4 := nBg4; have BKg6 := nBg6; have BKg7 := nBg7; have HB := zA.mk hb; have HT := nHT; (try clear hy); clear hb hk0 hk nM nHT nOo6 nOo9 nOo13 nOo23 nBg1 nBg4 nBg6 nBg7; have hczg1 : w16.cell? ⟨g1, 0, none⟩ = some (.slice A0 l0.length c0) := (zJ BKg1.out 0).trans rfl; have hfzg1 := zL BKg1.out 0; have hczg4 : w16.cell? ⟨g4, 0, none⟩ = some (.slice Ao9 t8.length co9) := (zJ BKg4.out 0).trans rfl; have hfzg4 := zL BKg4.out 0; have hczg6 : w16.cell? ⟨g6, 0, none⟩ = some (.slice Ao13 t12.length co13) := (zJ BKg6.out 0).trans rfl; have hfzg6 := zL BKg6.out 0; have hczg7 : w16.cell? ⟨g7, 0, none⟩ = some (.slice Ao16 t15.length co16) := (zJ BKg7.out 0).trans rfl; have hfzg7 := zL BKg7.out 0) | ((with_reducible refine ze (f := 21) rfl ?_); refine qP (some 67) rfl rfl Try.func21 (by kernel_rfl) rfl #[.agg #[.slice Ao16 y35.length co16], .int .i64 1] rfl (by (try simp only [yiy, yjy, yky]); first | done | (rw [show y35.length = t15.length from (ObS.reads HOo16.out).1.symm] <;> rfl) | rfl | (simp only [yly, ymy]; rfl)) ?_; (with_reducible refine (qo.calls k _ _ y35 1 t37 _ ?side1 ?side2 H36.out).mono ?_); (case side1 => exact (ObS.reads HOo16.out).2.2); (case side2 => exact ObS.room HOo16.out); rintro e w17 ⟨rfl, hb⟩; refine ⟨_, rfl, ?_⟩; (try clear hczg1 hfzg1 hczg4 hfzg4 hczg6 hfzg6 hczg7 hfzg7); have nOo6 := zA.mk (ObS.below HOo6.out hb); have nOo9 := zA.mk (ObS.below HOo9.out hb); have nOo13 := zA.mk (ObS.below HOo13.out hb); have nOo16 := zA.mk (ObS.below HOo16.out hb); have nOo23 := zA.mk (ObS.below HOo23.out hb); have nBg1 := zA.mk (zN (g := g1) (o := .cells #[.slice A0 l0.length c0] 24 (0, 0)) BKg1.out hb); have nBg4 := zA.mk (zN (g := g4) (o := .cells #[.slice Ao9 t8.length co9] 28 (0, 0)) BKg4.out hb); have nBg6 := zA.mk (zN (g := g6) (o := .cells #[.slice Ao13 t12.length co13] 28 (0, 0)) BKg6.out hb); have nBg7 := zA.mk (zN (g := g7) (o := .cells #[.slice Ao16 t15.length co16] 28 (0, 0)) BKg7.out hb); have nHB := zA.mk (zO HB.out hb); have nHT := zA.mk (ZA HT.out hb); clear HB HT HOo6 HOo9 HOo13 HOo16 HOo23 BKg1 BKg4 BKg6 BKg7; have HOo6 := nOo6; have HOo9 := nOo9; have HOo13 := nOo13; have HOo16 := nOo16; have HOo23 := nOo23; have BKg1 := nBg1; have BKg4 := nBg4; have BKg6 := nBg6; have BKg7 := nBg7; have HB := nHB; have HT := nHT; clear nHB nHT nOo6 nOo9 nOo13 nOo16 nOo23 nBg1 nBg4 nBg6 nBg7; (try clear hb); (try clear hnd); have hczg1 : w17.cell? ⟨g1, 0, none⟩ = some (.slice A0 l0.length c0) := (zJ BKg1.out 0).trans rfl; have hfzg1 := zL BKg1.out 0; have hczg4 : w17.cell? ⟨g4, 0, none⟩ = some (.slice Ao9 t8.length co9) := (zJ BKg4.out 0).trans rfl; have hfzg4 := zL BKg4.out 0; have hczg6 : w17.cell? ⟨g6, 0, none⟩ = some (.slice Ao13 t12.length co13) := (zJ BKg6.out 0).trans rfl; have hfzg6 := zL BKg6.out 0; have hczg7 : w17.cell? ⟨g7, 0, none⟩ = some (.slice Ao16 t15.length co16) := (zJ BKg7.out 0).trans rfl; have hfzg7 := zL BKg7.out 0) | ((with_reducible refine ze (f := 17) rfl ?_); refine qP (some 75) rfl rfl Try.func17 (by kernel_rfl) rfl #[.agg #[.slice A0 l0.length c0]] rfl (by (try simp only [yiy, yjy, yky]); first | done | rfl | (simp only [yly, ymy]; rfl)) ?_; (with_reducible refine (qV.calls k _ _ l0 t41 _ ?side1 ?side2 H40.out).mono ?_); (case side1 => exact Kd.qA HR0.out HB.out); (case side2 => exact HC0.out); rintro e w18 ⟨vo42, rfl, ho0, hb⟩; refine ⟨_, rfl, ?_⟩; (try clear hczg1 hfzg1 hczg4 hfzg4 hczg6 hfzg6 hczg7 hfzg7); obtain ⟨loo42, hio42, hno42⟩ := ObS.made ho0 hb HT.out (zP HB.out); have nOo6 := zA.mk (ObS.below HOo6.out hb); have nOo9 := zA.mk (ObS.below HOo9.out hb); have nOo13 := zA.mk (ObS.below HOo13.out hb); have nOo16 := zA.mk (ObS.below HOo16.out hb); have nOo23 := zA.mk (ObS.below HOo23.out hb); have nBg1 := zA.mk (zN (g := g1) (o := .cells #[.slice A0 l0.length c0] 24 (0, 0)) BKg1.out hb); have nBg4 := zA.mk (zN (g := g4) (o := .cells #[.slice Ao9 t8.length co9] 28 (0, 0)) BKg4.out hb); have nBg6 := zA.mk (zN (g := g6) (o := .cells #[.slice Ao13 t12.length co13] 28 (0, 0)) BKg6.out hb); have nBg7 := zA.mk (zN (g := g7) (o := .cells #[.slice Ao16 t15.length co16] 28 (0, 0)) BKg7.out hb); have nHB := zA.mk (zO HB.out hb); have nHT := zA.mk (ZA HT.out hb); clear HB HT HOo6 HOo9 HOo13 HOo16 HOo23 BKg1 BKg4 BKg6 BKg7; have HOo6 := nOo6; have HOo9 := nOo9; have HOo13 := nOo13; have HOo16 := nOo16; have HOo23 := nOo23; have BKg1 := nBg1; have BKg4 := nBg4; have BKg6 := nBg6; have BKg7 := nBg7; have HB := nHB; have HT := nHT; clear nHB nHT nOo6 nOo9 nOo13 nOo16 nOo23 nBg1 nBg4 nBg6 nBg7; have HNo42 := zA.mk hno42.1; clear HT; have HT := zA.mk hno42.2.1; have HOo42 := zA.mk hno42.2.2; clear hno42 ho0; obtain ⟨Ao42, co42, eeo42⟩ := HOo42.out.slice; subst eeo42; (try clear hb); (try clear hnd); have hczg1 : w18.cell? ⟨g1, 0, none⟩ = some (.slice A0 l0.length c0) := (zJ BKg1.out 0).trans rfl; have hfzg1 := zL BKg1.out 0; have hczg4 : w18.cell? ⟨g4, 0, none⟩ = some (.slice Ao9 t8.length co9) := (zJ BKg4.out 0).trans rfl; have hfzg4 := zL BKg4.out 0; have hczg6 : w18.cell? ⟨g6, 0, none⟩ = some (.slice Ao13 t12.length co13) := (zJ BKg6.out 0).trans rfl; have hfzg6 := zL BKg6.out 0; have hczg7 : w18.cell? ⟨g7, 0, none⟩ = some (.slice Ao16 t15.length co16) := (zJ BKg7.out 0).trans rfl; have hfzg7 := zL BKg7.out 0) | ((with_reducible refine ze (f := 38) rfl ?_); refine qP (some 76) rfl rfl Try.func38 (by kernel_rfl) rfl #[.agg #[.slice Ao42 t41.length co42]] rfl (by (try simp only [yiy, yjy, yky]); first | done | rfl | (simp only [yly, ymy]; rfl)) ?_; (with_reducible refine (ZD.calls k _ _ t41 t44 t46 _ ?side1 ?side2 H43.out).mono ?_); (case side1 => exact (ObS.reads HOo42.out).2.2); (case side2 => exact ObS.room HOo42.out); rintro e w19 ⟨vo45, rfl, ho0, hb⟩; refine ⟨_, rfl, ?_⟩; (try clear hczg1 hfzg1 hczg4 hfzg4 hczg6 hfzg6 hczg7 hfzg7); obtain ⟨loo45, hio45, hno45⟩ := ObS.made ho0 hb HT.out (zP HB.out); have nOo6 := zA.mk (ObS.below HOo6.out hb); have nOo9 := zA.mk (ObS.below HOo9.out hb); have nOo13 := zA.mk (ObS.below HOo13.out hb); have nOo16 := zA.mk (ObS.below HOo16.out hb); have nOo23 := zA.mk (ObS.below HOo23.out hb); have nOo42 := zA.mk (ObS.below HOo42.out hb); have nBg1 := zA.mk (zN (g := g1) (o := .cells #[.slice A0 l0.length c0] 24 (0, 0)) BKg1.out hb); have nBg4 := zA.mk (zN (g := g4) (o := .cells #[.slice Ao9 t8.length co9] 28 (0, 0)) BKg4.out hb); have nBg6 := zA.mk (zN (g := g6) (o := .cells #[.slice Ao13 t12.length co13] 28 (0, 0)) BKg6.out hb); have nBg7 := zA.mk (zN (g := g7) (o := .cells #[.slice Ao16 t15.length co16] 28 (0, 0)) BKg7.out hb); have nHB := zA.mk (zO HB.out hb); have nHT := zA.mk (ZA HT.out hb); clear HB HT HOo6 HOo9 HOo13 HOo16 HOo23 HOo42 BKg1 BKg4 BKg6 BKg7; have HOo6 := nOo6; have HOo9 := nOo9; have HOo13 := nOo13; have HOo16 := nOo16; have HOo23 := nOo23; have HOo42 := nOo42; have BKg1 := nBg1; have BKg4 := nBg4; have BKg6 := nBg6; have BKg7 := nBg7; have HB := nHB; have HT := nHT; clear nHB nHT nOo6 nOo9 nOo13 nOo16 nOo23 nOo42 nBg1 nBg4 nBg6 nBg7; have HNo45 := zA.mk hno45.1; clear HT; have HT := zA.mk hno45.2.1; have HOo45 := zA.mk hno45.2.2; clear hno45 ho0; obtain ⟨Ao45, co45, eeo45⟩ := HOo45.out.slice; subst eeo45; (try clear hb); (try clear hnd); have hczg1 : w19.cell? ⟨g1, 0, none⟩ = some (.slice A0 l0.length c0) := (zJ BKg1.out 0).trans rfl; have hfzg1 := zL BKg1.out 0; have hczg4 : w19.cell? ⟨g4, 0, none⟩ = some (.slice Ao9 t8.length co9) := (zJ BKg4.out 0).trans rfl; have hfzg4 := zL BKg4.out 0; have hczg6 : w19.cell? ⟨g6, 0, none⟩ = some (.slice Ao13 t12.length co13) := (zJ BKg6.out 0).trans rfl; have hfzg6 := zL BKg6.out 0; have hczg7 : w19.cell? ⟨g7, 0, none⟩ = some (.slice Ao16 t15.length co16) := (zJ BKg7.out 0).trans rfl; have hfzg7 := zL BKg7.out 0) | ((with_reducible refine zm (N := 12) rfl ?_); refine zp ?hg (N := 12) ?hd (cs := #[.slice none 0 0]) (t := 28) ?hr ?_; (case hd => rfl); (case hg => rfl); (case hr => first | (go_simp; done) | (go_simp; rfl)); intro g12 hg w20 hbox hb; (try clear hczg1 hfzg1 hczg4 hfzg4 hczg6 hfzg6 hczg7 hfzg7); have HNg12 := zA.mk (by rw [hg]; exact HT.out : hio45 ≤ g12); have HXg12 := zA.mk (show g12 + 1 ≤ w20.heap.size from qE hbox); have nOo6 := zA.mk (ObS.below HOo6.out hb); have nOo9 := zA.mk (ObS.below HOo9.out hb); have nOo13 := zA.mk (ObS.below HOo13.out hb); have nOo16 := zA.mk (ObS.below HOo16.out hb); have nOo23 := zA.mk (ObS.below HOo23.out hb); have nOo42 := zA.mk (ObS.below HOo42.out hb); have nOo45 := zA.mk (ObS.below HOo45.out hb); have nBg1 := zA.mk (zN (g := g1) (o := .cells #[.slice A0 l0.length c0] 24 (0, 0)) BKg1.out hb); have nBg4 := zA.mk (zN (g := g4) (o := .cells #[.slice Ao9 t8.length co9] 28 (0, 0)) BKg4.out hb); have nBg6 := zA.mk (zN (g := g6) (o := .cells #[.slice Ao13 t12.length co13] 28 (0, 0)) BKg6.out hb); have nBg7 := zA.mk (zN (g := g7) (o := .cells #[.slice Ao16 t15.length co16] 28 (0, 0)) BKg7.out hb); have nHB := zA.mk (zO HB.out hb); have nHT := zA.mk (ZA HT.out hb); clear HB HT HOo6 HOo9 HOo13 HOo16 HOo23 HOo42 HOo45 BKg1 BKg4 BKg6 BKg7; have HOo6 := nOo6; have HOo9 := nOo9; have HOo13 := nOo13; have HOo16 := nOo16; have HOo23 := nOo23; have HOo42 := nOo42; have HOo45 := nOo45; have BKg1 := nBg1; have BKg4 := nBg4; have BKg6 := nBg6; have BKg7 := nBg7; have HB := nHB; have HT := nHT; clear nHB nHT nOo6 nOo9 nOo13 nOo16 nOo23 nOo42 nOo45 nBg1 nBg4 nBg6 nBg7; clear HT; have HT := HXg12; clear HXg12; have BKg12 := zA.mk hbox; clear hg hbox hb; have hnbg12_g1 : g12 ≠ g1 := (by have := HNg1.out; have := HNo6.out; have := HNo9.out; have := HNg4.out; have := HNo13.out; have := HNg6.out; have := HNo16.out; have := HNg7.out; have := HNo23.out; have := HNo42.out; have := HNo45.out; have := HNg12.out; omega); have hnbg1_g12 : g1 ≠ g12 := (by have := HNg1.out; have := HNo6.out; have := HNo9.out; have := HNg4.out; have := HNo13.out; have := HNg6.out; have := HNo16.out; have := HNg7.out; have := HNo23.out; have := HNo42.out; have := HNo45.out; have := HNg12.out; omega); have hnbg12_g4 : g12 ≠ g4 := (by have := HNg1.out; have := HNo6.out; have := HNo9.out; have := HNg4.out; have := HNo13.out; have := HNg6.out; have := HNo16.out; have := HNg7.out; have := HNo23.out; have := HNo42.out; have := HNo45.out; have := HNg12.out; omega); have hnbg4_g12 : g4 ≠ g12 := (by have := HNg1.out; have := HNo6.out; have := HNo9.out; have := HNg4.out; have := HNo13.out; have := HNg6.out; have := HNo16.out; have := HNg7.out; have := HNo23.out; have := HNo42.out; have := HNo45.out; have := HNg12.out; omega); have hnbg12_g6 : g12 ≠ g6 := (by have := HNg1.out; have := HNo6.out; have := HNo9.out; have := HNg4.out; have := HNo13.out; have := HNg6.out; have := HNo16.out; have := HNg7.out; have := HNo23.out; have := HNo42.out; have := HNo45.out; have := HNg12.out; omega); have hnbg6_g12 : g6 ≠ g12 := (by have := HNg1.out; have := HNo6.out; have := HNo9.out; have := HNg4.out; have := HNo13.out; have := HNg6.out; have := HNo16.out; have := HNg7.out; have := HNo23.out; have := HNo42.out; have := HNo45.out; have := HNg12.out; omega); have hnbg12_g7 : g12 ≠ g7 := (by have := HNg1.out; have := HNo6.out; have := HNo9.out; have := HNg4.out; have := HNo13.out; have := HNg6.out; have := HNo16.out; have := HNg7.out; have := HNo23.out; have := HNo42.out; have := HNo45.out; have := HNg12.out; omega); have hnbg7_g12 : g7 ≠ g12 := (by have := HNg1.out; have := HNo6.out; have := HNo9.out; have := HNg4.out; have := HNo13.out; have := HNg6.out; have := HNo16.out; have := HNg7.out; have := HNo23.out; have := HNo42.out; have := HNo45.out; have := HNg12.out; omega); have hczg1 : w20.cell? ⟨g1, 0, none⟩ = some (.slice A0 l0.length c0) := (zJ BKg1.out 0).trans rfl; have hfzg1 := zL BKg1.out 0; have hczg4 : w20.cell? ⟨g4, 0, none⟩ = some (.slice Ao9 t8.length co9) := (zJ BKg4.out 0).trans rfl; have hfzg4 := zL BKg4.out 0; have hczg6 : w20.cell? ⟨g6, 0, none⟩ = some (.slice Ao13 t12.length co13) := (zJ BKg6.out 0).trans rfl; have hfzg6 := zL BKg6.out 0; have hczg7 : w20.cell? ⟨g7, 0, none⟩ = some (.slice Ao16 t15.length co16) := (zJ BKg7.out 0).trans rfl; have hfzg7 := zL BKg7.out 0; have hczg12 : w20.cell? ⟨g12, 0, none⟩ = some (.slice none 0 0) := (zJ BKg12.out 0).trans rfl; have hfzg12 := zL BKg12.out 0) | ((with_reducible refine ze (f := 19) rfl ?_); refine qP (some 81) rfl rfl Try.func19 (by kernel_rfl) rfl #[.agg #[.slice Ao45 t44.length co45], .agg #[.slice Ao9 t8.length co9]] rfl (by (try simp only [yiy, yjy, yky]); first | done | rfl | (simp only [yly, ymy]; rfl)) ?_; (with_reducible refine (qU.calls k _ _ t44 _ _ t8 true _ ?side1 ?side2 ?side3 ?side4 H47.out).mono ?_); (case side1 => exact (ObS.reads (ObS.far (g := g12) (i := 0) HOo45.out (by have := HNg1.out; have := HNo6.out; have := HNo9.out; have := HNg4.out; have := HNo13.out; have := HNg6.out; have := HNo16.out; have := HNg7.out; have := HNo23.out; have := HNo42.out; have := HNo45.out; have := HNg12.out; omega) _)).2.2); (case side2 => exact ObS.room HOo45.out); (case side3 => exact (ObS.reads (ObS.far (g := g12) (i := 0) HOo9.out (by have := HNg1.out; have := HNo6.out; have := HNo9.out; have := HNg4.out; have := HNo13.out; have := HNg6.out; have := HNo16.out; have := HNg7.out; have := HNo23.out; have := HNo42.out; have := HNo45.out; have := HNg12.out; omega) _)).2.2); (case side4 => exact ObS.room HOo9.out); rintro e w21 ⟨rfl, hb⟩; refine ⟨_, rfl, ?_⟩; (try clear hczg1 hfzg1 hczg4 hfzg4 hczg6 hfzg6 hczg7 hfzg7 hczg12 hfzg12); have nOo6 := zA.mk (ObS.below (ObS.far (g := g12) (i := 0) HOo6.out (by have := HNg1.out; have := HNo6.out; have := HNo9.out; have := HNg4.out; have := HNo13.out; have := HNg6.out; have := HNo16.out; have := HNg7.out; have := HNo23.out; have := HNo42.out; have := HNo45.out; have := HNg12.out; omega) _) hb); have nOo9 := zA.mk (ObS.below (ObS.far (g := g12) (i := 0) HOo9.out (by have := HNg1.out; have := HNo6.out; have := HNo9.out; have := HNg4.out; have := HNo13.out; have := HNg6.out; have := HNo16.out; have := HNg7.out; have := HNo23.out; have := HNo42.out; have := HNo45.out; have := HNg12.out; omega) _) hb); have nOo13 := zA.mk (ObS.below (ObS.far (g := g12) (i := 0) HOo13.out (by have := HNg1.out; have := HNo6.out; have := HNo9.out; have := HNg4.out; have := HNo13.out; have := HNg6.out; have := HNo16.out; have := HNg7.out; have := HNo23.out; have := HNo42.out; have := HNo45.out; have := HNg12.out; omega) _) hb); have nOo16 := zA.mk (ObS.below (ObS.far (g := g12) (i := 0) HOo16.out (by have := HNg1.out; have := HNo6.out; have := HNo9.out; have := HNg4.out; have := HNo13.out; have := HNg6.out; have := HNo16.out; have := HNg7.out; have := HNo23.out; have := HNo42.out; have := HNo45.out; have := HNg12.out; omega) _) hb); have nOo23 := zA.mk (ObS.below (ObS.far (g := g12) (i := 0) HOo23.out (by have := HNg1.out; have := HNo6.out; have := HNo9.out; have := HNg4.out; have := HNo13.out; have := HNg6.out; have := HNo16.out; have := HNg7.out; have := HNo23.out; have := HNo42.out; have := HNo45.out; have := HNg12.out; omega) _) hb); have nOo42 := zA.mk (ObS.below (ObS.far (g := g12) (i := 0) HOo42.out (by have := HNg1.out; have := HNo6.out; have := HNo9.out; have := HNg4.out; have := HNo13.out; have := HNg6.out; have := HNo16.out; have := HNg7.out; have := HNo23.out; have := HNo42.out; have := HNo45.out; have := HNg12.out; omega) _) hb); have nOo45 := zA.mk (ObS.below (ObS.far (g := g12) (i := 0) HOo45.out (by have := HNg1.out; have := HNo6.out; have := HNo9.out; have := HNg4.out; have := HNo13.out; have := HNg6.out; have := HNo16.out; have := HNg7.out; have := HNo23.out; have := HNo42.out; have := HNo45.out; have := HNg12.out; omega) _) hb); have nBg1 := zA.mk (zN (g := g1) (o := .cells #[.slice A0 l0.length c0] 24 (0, 0)) (zv (p := ⟨g12, 0, none⟩) BKg1.out (show g1 ≠ g12 from (by have := HNg1.out; have := HNo6.out; have := HNo9.out; have := HNg4.out; have := HNo13.out; have := HNg6.out; have := HNo16.out; have := HNg7.out; have := HNo23.out; have := HNo42.out; have := HNo45.out; have := HNg12.out; omega)) _) hb); have nBg4 := zA.mk (zN (g := g4) (o := .cells #[.slice Ao9 t8.length co9] 28 (0, 0)) (zv (p := ⟨g12, 0, none⟩) BKg4.out (show g4 ≠ g12 from (by have := HNg1.out; have := HNo6.out; have := HNo9.out; have := HNg4.out; have := HNo13.out; have := HNg6.out; have := HNo16.out; have := HNg7.out; have := HNo23.out; have := HNo42.out; have := HNo45.out; have := HNg12.out; omega)) _) hb); have nBg6 := zA.mk (zN (g := g6) (o := .cells #[.slice Ao13 t12.length co13] 28 (0, 0)) (zv (p := ⟨g12, 0, none⟩) BKg6.out (show g6 ≠ g12 from (by have := HNg1.out; have := HNo6.out; have := HNo9.out; have := HNg4.out; have := HNo13.out; have := HNg6.out; have := HNo16.out; have := HNg7.out; have := HNo23.out; have := HNo42.out; have := HNo45.out; have := HNg12.out; omega)) _) hb); have nBg7 := zA.mk (zN (g := g7) (o := .cells #[.slice Ao16 t15.length co16] 28 (0, 0)) (zv (p := ⟨g12, 0, none⟩) BKg7.out (show g7 ≠ g12 from (by have := HNg1.out; have := HNo6.out; have := HNo9.out; have := HNg4.out; have := HNo13.out; have := HNg6.out; have := HNo16.out; have := HNg7.out; have := HNo23.out; have := HNo42.out; have := HNo45.out; have := HNg12.out; omega)) _) hb); have nBg12 := zA.mk (zN (g := g12) (o := .cells #[.slice Ao45 t44.length co45] 28 (0, 0)) (qH (cs := #[.slice none 0 0]) BKg12.out 0 _ rfl) hb); have nHB := zA.mk (zO (zG HB.out (show w.heap.size ≤ g12 from (by have := HNg1.out; have := HNo6.out; have := HNo9.out; have := HNg4.out; have := HNo13.out; have := HNg6.out; have := HNo16.out; have := HNg7.out; have := HNo23.out; have := HNo42.out; have := HNo45.out; have := HNg12.out; omega))) hb); have nHT := zA.mk (ZA (zA5 HT.out) hb); clear HB HT HOo6 HOo9 HOo13 HOo16 HOo23 HOo42 HOo45 BKg1 BKg4 BKg6 BKg7 BKg12; have HOo6 := nOo6; have HOo9 := nOo9; have HOo13 := nOo13; have HOo16 := nOo16; have HOo23 := nOo23; have HOo42 := nOo42; have HOo45 := nOo45; have BKg1 := nBg1; have BKg4 := nBg4; have BKg6 := nBg6; have BKg7 := nBg7; have BKg12 := nBg12; have HB := nHB; have HT := nHT; clear nHB nHT nOo6 nOo9 nOo13 nOo16 nOo23 nOo42 nOo45 nBg1 nBg4 nBg6 nBg7 nBg12; (try clear hb); (try clear hnd); have hczg1 : w21.cell? ⟨g1, 0, none⟩ = some (.slice A0 l0.length c0) := (zJ BKg1.out 0).trans rfl; have hfzg1 := zL BKg1.out 0; have hczg4 : w21.cell? ⟨g4, 0, none⟩ = some (.slice Ao9 t8.length co9) := (zJ BKg4.out 0).trans rfl; have hfzg4 := zL BKg4.out 0; have hczg6 : w21.cell? ⟨g6, 0, none⟩ = some (.slice Ao13 t12.length co13) := (zJ BKg6.out 0).trans rfl; have hfzg6 := zL BKg6.out 0; have hczg7 : w21.cell? ⟨g7, 0, none⟩ = some (.slice Ao16 t15.length co16) := (zJ BKg7.out 0).trans rfl; have hfzg7 := zL BKg7.out 0; have hczg12 : w21.cell? ⟨g12, 0, none⟩ = some (.slice Ao45 t44.length co45) := (zJ BKg12.out 0).trans rfl; have hfzg12 := zL BKg12.out 0) | ((with_reducible refine ze (f := 21) rfl ?_); refine qP (some 90) rfl rfl Try.func21 (by kernel_rfl) rfl #[.agg #[.slice Ao16 y35.length co16], .int .i64 1] rfl (by (try simp only [yiy, yjy, yky]); first | done | (rw [show y35.length = t15.length from (ObS.reads HOo16.out).1.symm] <;> rfl) | rfl | (simp only [yly, ymy]; rfl)) ?_; (with_reducible refine (qo.calls k _ _ y35 1 t51 _ ?side1 ?side2 H50.out).mono ?_); (case side1 => exact (ObS.reads HOo16.out).2.2); (case side2 => exact ObS.room HOo16.out); rintro e w22 ⟨rfl, hb⟩; refine ⟨_, rfl, ?_⟩; (try clear hczg1 hfzg1 hczg4 hfzg4 hczg6 hfzg6 hczg7 hfzg7 hczg12 hfzg12); have nOo6 := zA.mk (ObS.below HOo6.out hb); have nOo9 := zA.mk (ObS.below HOo9.out hb); have nOo13 := zA.mk (ObS.below HOo13.out hb); have nOo16 := zA.mk (ObS.below HOo16.out hb); have nOo23 := zA.mk (ObS.below HOo23.out hb); have nOo42 := zA.mk (ObS.below HOo42.out hb); have nOo45 := zA.mk (ObS.below HOo45.out hb); have nBg1 := zA.mk (zN (g := g1) (o := .cells #[.slice A0 l0.length c0] 24 (0, 0)) BKg1.out hb); have nBg4 := zA.mk (zN (g := g4) (o := .cells #[.slice Ao9 t8.length co9] 28 (0, 0)) BKg4.out hb); have nBg6 := zA.mk (zN (g := g6) (o := .cells #[.slice Ao13 t12.length co13] 28 (0, 0)) BKg6.out hb); have nBg7 := zA.mk (zN (g := g7) (o := .cells #[.slice Ao16 t15.length co16] 28 (0, 0)) BKg7.out hb); have nBg12 := zA.mk (zN (g := g12) (o := .cells #[.slice Ao45 t44.length co45] 28 (0, 0)) BKg12.out hb); have nHB := zA.mk (zO HB.out hb); have nHT := zA.mk (ZA HT.out hb); clear HB HT HOo6 HOo9 HOo13 HOo16 HOo23 HOo42 HOo45 BKg1 BKg4 BKg6 BKg7 BKg12; have HOo6 := nOo6; have HOo9 := nOo9; have HOo13 := nOo13; have HOo16 := nOo16; have HOo23 := nOo23; have HOo42 := nOo42; have HOo45 := nOo45; have BKg1 := nBg1; have BKg4 := nBg4; have BKg6 := nBg6; have BKg7 := nBg7; have BKg12 := nBg12; have HB := nHB; have HT := nHT; clear nHB nHT nOo6 nOo9 nOo13 nOo16 nOo23 nOo42 nOo45 nBg1 nBg4 nBg6 nBg7 nBg12; (try clear hb); (try clear hnd); have hczg1 : w22.cell? ⟨g1, 0, none⟩ = some (.slice A0 l0.length c0) := (zJ BKg1.out 0).trans rfl; have hfzg1 := zL BKg1.out 0; have hczg4 : w22.cell? ⟨g4, 0, none⟩ = some (.slice Ao9 t8.length co9) := (zJ BKg4.out 0).trans rfl; have hfzg4 := zL BKg4.out 0; have hczg6 : w22.cell? ⟨g6, 0, none⟩ = some (.slice Ao13 t12.length co13) := (zJ BKg6.out 0).trans rfl; have hfzg6 := zL BKg6.out 0; have hczg7 : w22.cell? ⟨g7, 0, none⟩ = some (.slice Ao16 t15.length co16) := (zJ BKg7.out 0).trans rfl; have hfzg7 := zL BKg7.out 0; have hczg12 : w22.cell? ⟨g12, 0, none⟩ = some (.slice Ao45 t44.length co45) := (zJ BKg12.out 0).trans rfl; have hfzg12 := zL BKg12.out 0))
 go_ret
 exact ⟨by first | rfl | (simp <;> rfl), HB.out⟩
end Go.Proofs.Ytdgdnnjigigkcaa.P
namespace Go.Proofs.Ytdgdnnjigigkcaa.Lib
set_option linter.unusedVariables false
open Go.RowKit Go.Proofs.YtdgdnnjigigkcaaW.PrintWords
theorem zCF {σ ρ : Type} (L : Nat → σ → Option ρ) (I : σ → Prop) (m : σ → Nat) (g : σ → ρ)
    (h : ∀ s, I s → (∃ K, ∀ k, K ≤ k → L (k + 1) s = some (g s)) ∨ (∃ s' K, I s' ∧ m s' < m s ∧ g s' = g s ∧ ∀ k, K ≤ k → L (k + 1) s = L k s')) :
    ∀ s, I s → Ev (fun k => L k s) (g s) := by
  have key : ∀ (n : Nat) (s : σ), m s < n → I s → Ev (fun k => L k s) (g s) := by
    intro n
    induction n with
    | zero => intro s hs; omega
    | succ n ih =>
      intro s hs hi
      rcases h s hi with ⟨K, hK⟩ | ⟨s', K, hi', hm, hg, hK⟩
      · refine ⟨K + 1, fun k hk => ?_⟩
        obtain ⟨j, rfl⟩ : ∃ j, k = j + 1 := ⟨k - 1, by omega⟩
        exact hK j (by omega)
      · obtain ⟨K', hK'⟩ := ih s' (by omega) hi'
        refine ⟨max K K' + 1, fun k hk => ?_⟩
        obtain ⟨j, rfl⟩ : ∃ j, k = j + 1 := ⟨k - 1, by omega⟩
        show L (j + 1) s = some (g s)
        rw [hK j (by omega), ← hg]
        exact hK' j (by omega)
  intro s hi
  exact key (m s + 1) s (by omega) hi
theorem Jv {σ ρ : Type} (L : Nat → σ → Option ρ) (I : σ → Prop) (m : σ → Nat) (g : σ → ρ)
    (h : ∀ s, I s → (∀ k, L (k + 1) s = some (g s)) ∨ (∃ s', I s' ∧ m s' < m s ∧ g s' = g s ∧ ∀ k, L (k + 1) s = L k s')) :
    ∀ s, I s → Ev (fun k => L k s) (g s) :=
  zCF L I m g fun s hi => by
    rcases h s hi with h1 | ⟨s', h1, h2, h3, h4⟩
    · exact .inl ⟨0, fun k _ => h1 k⟩
    · exact .inr ⟨s', 0, h1, h2, h3, fun k _ => h4 k⟩
theorem Zy {x : Int} (h0 : -9223372036854775808 ≤ x) (h1 : x ≤ 9223372036854775807) : wrap64 x = x := by
  unfold wrap64; omega
theorem ZV {n : Nat} (h : n ≤ 4611686018427387904) : wrap64 ((n : Int) + 1) = ((n + 1 : Nat) : Int) := by
  rw [Zy (by omega) (by omega)]; rfl
theorem rd_lt (xs : List Int) (n : Nat) (h : n < xs.length) : rd xs (n : Int) = xs[n] := by simp [rd, h]
theorem Zb {α : Type} {c : Prop} [Decidable c] {f g : Nat → Option α} {r : α} (h : ¬ c) (k : Ev g r) : Ev (fun n => if c then f n else g n) r := Ev.congr (fun _ => if_neg h) k
theorem qn {α : Type} {c : Prop} [Decidable c] {f g : Nat → Option α} {r : α} (h : c) (k : Ev f r) : Ev (fun n => if c then f n else g n) r := Ev.congr (fun _ => if_pos h) k
theorem zBW {α : Type} {r r' : α} (h : r = r') : Ev (fun _ => some r) r' := h ▸ Ev.now r
theorem JX {α : Type} {o : Option α} {r : α} (h : o = some r) : Ev (fun _ => o) r := ⟨0, fun _ _ => h⟩
theorem zAh {α : Type} {g : Nat → Option α} {r : α} (h : ∀ k, g k = some r) : Ev g r := ⟨0, fun k _ => h k⟩
theorem qk {α : Type} {g f : Nat → Option α} {r : α} (h : ∀ k, g (k + 1) = f k) (k : Ev f r) : Ev g r := Ev.step h k
theorem zCg {α : Type} {f : α → Option Bool} {p : α → Bool} : ∀ (i : Nat) (l : List α), (∀ x ∈ l, f x = some (p x)) → ∃ r, zE9 f i l = some r ∧ decide (0 ≤ r) = l.any p
  | i, [], _ => ⟨-1, rfl, rfl⟩
  | i, x :: xs, h => by
    rw [zBm, h x (List.mem_cons_self ..), yfy]
    cases hp : p x with
    | true => exact ⟨i, by rw [if_pos rfl], by simp [hp]⟩
    | false =>
      obtain ⟨r, h1, h2⟩ := zCg (i + 1) xs (fun y hy => h y (List.mem_cons_of_mem _ hy))
      exact ⟨r, by rw [if_neg (by simp)]; exact h1, by rw [h2]; simp [hp]⟩
theorem contO {α : Type} {f : α → Option Bool} {p : α → Bool} (l : List α) (h : ∀ x ∈ l, f x = some (p x)) : (zE9 f 0 l).bind (fun i => some (decide (0 ≤ i))) = some (l.any p) := by
  obtain ⟨r, h1, h2⟩ := zCg 0 l h
  rw [h1, yfy, h2]
def QK (a : Int) : Nat → List Int
  | 0 => []
  | n + 1 => a :: QK (a + 1) n
theorem Jw (a : Int) (n : Nat) : (QK a n).length = n := by
  induction n generalizing a with
  | zero => rfl
  | succ n ih => simp [QK, ih]
theorem zAi (a : Int) (n : Nat) : QK a (n + 1) = QK a n ++ [a + n] := by
  induction n generalizing a with
  | zero => simp [QK]
  | succ n ih => rw [QK, ih (a + 1)]; simp [QK]; omega
end Go.Proofs.Ytdgdnnjigigkcaa.Lib
namespace Go.Proofs.Ytdgdnnjigigkcaa.P
open Go.RowKit Go.Proofs.YtdgdnnjigigkcaaW.PrintWords Go.Proofs.Ytdgdnnjigigkcaa.Lib
set_option linter.unusedVariables false
theorem zB2 (a b c : Int) : ZO.f a b c = some (decide (b ≤ a) && decide (a ≤ c)) := by
  unfold ZO.f
  by_cases h : b ≤ a <;> simp [h]
theorem zED (a b c : Int) : Zu.f a b c = some (decide (b ≤ a) && decide (a ≤ c)) := by
  unfold Zu.f
  by_cases h : b ≤ a <;> simp [h]
theorem zCG (a : Int) : qb.f a = some (decide (0 ≤ a) && decide (a ≤ 23)) := by
  unfold qb.f
  by_cases h : 0 ≤ a
  · rw [if_pos h]; simp [h]; omega
  · rw [if_neg h]; simp [h]
theorem zDd (a : Int) : Zh.f a = some (decide (0 ≤ a) && decide (a ≤ 23)) := by
  unfold Zh.f; rw [zB2]; rfl
theorem zCh {p : Int} (h0 : 0 ≤ p) (h1 : p ≤ 23) : ∃ m : Fin 24, p = (m.val : Int) := ⟨⟨p.toNat, by omega⟩, by simp; omega⟩
theorem zBs {p : Int} (h0 : 0 ≤ p) (h1 : p ≤ 23) : Ev (fun k => zS.f k p) (ZR p) := by
  obtain ⟨m, rfl⟩ := zCh h0 h1
  have key : ∀ m : Fin 24, zS.f 5 (m.val : Int) = some (ZR (m.val : Int)) := by decide +kernel
  exact Ev.of (fun k => zS.mono _ k) (key m)
theorem zDe (p : Int) : (ZR p).length = 4 := rfl
theorem zCi {p f : Int} (h0 : 0 ≤ p) (h1 : p ≤ 23) (hf0 : 0 ≤ f) (hf1 : f ≤ 3) : 0 ≤ rd (ZR p) f ∧ rd (ZR p) f ≤ 3 := by
  obtain ⟨a, b, c, d⟩ := Qy p h0 h1
  exact QO a b c d f hf0 hf1
theorem zEE {p f : Int} (h0 : 0 ≤ p) (h1 : p ≤ 23) (hf0 : 0 ≤ f) (hf1 : f ≤ 3) : Ev (fun k => qz.f k p f) (rd (ZR p) f) := by
  refine Ev.bind (zBs h0 h1) ?_
  exact qn hf0 (qn (by rw [zDe]; omega) (Ev.now _))
theorem zCz {p : Int} (h0 : 0 ≤ p) (h1 : p ≤ 23) : Ev (fun k => zr.f k p) (JD p) := by
  obtain ⟨m, rfl⟩ := zCh h0 h1
  have key : ∀ m : Fin 24, zr.f 40 (m.val : Int) = some (JD (m.val : Int)) := by decide +kernel
  exact Ev.of (fun k => zr.mono _ k) (key m)
theorem zDf {q p f : Int} (h0 : 0 ≤ p) (h1 : p ≤ 23) (hf0 : 0 ≤ f) (hf1 : f ≤ 3) : ZB.f q p f = some (rd (ZR p) f) := if_pos ⟨h0, h1, hf0, hf1⟩
theorem zD0 {q p a : Int} (h0 : 0 ≤ p) (h1 : p ≤ 23) : qm.f q p a = some (a, JD p) := by
  unfold qm.f Zp.f
  rw [if_pos ⟨h0, h1⟩]; rfl
abbrev Tri := List (List zh)
def Small (t : Tri) : Prop := t.length ≤ 1048576 ∧ ∀ r ∈ t, r.length ≤ 1048576
def zCj (t : List (List qI)) : Prop := t.length ≤ 1048576 ∧ ∀ r ∈ t, r.length ≤ 1048576
def Fits (t : List (List qI)) : Prop := t.length ≤ 9223372036854775807 ∧ ∀ r ∈ t, r.length ≤ 9223372036854775807
theorem Qu (t : List (List qI)) (n : Nat) (h : n < t.length) : ZG t (n : Int) = t[n] := by simp [ZG, h]
theorem QR (t : Tri) (n : Nat) (h : n < t.length) : zC t (n : Int) = t[n] := by simp [zC, h]
theorem zBX (t : List qI) (n : Nat) (h : n < t.length) : Zl t (n : Int) = t[n] := by simp [Zl, h]
theorem JY (t : List zh) (n : Nat) (h : n < t.length) : zF t (n : Int) = t[n] := by simp [zF, h]
theorem zB3 (r : List qI) (a : Int) (h0 : 0 ≤ a) (h1 : a ≤ 1048576) (h : r.length ≤ 9223372036854775807) : Zr.f r a = some (if a - r.length < 0 then -1 else a - r.length) := by
  unfold Zr.f
  rw [Zy (by omega) (by omega)]
  split <;> rfl
theorem zCH (t : List (List qI)) (h : Fits t) (hl : t.length ≤ 1048576) : ∃ r, Ev (fun k => qK.l0 k t (1048576 - t.length) 0) r ∧ (0 ≤ r → ∀ x ∈ t, x.length ≤ 1048576) := by
  have key : ∀ d n : Nat, ∀ a : Int, n + d = t.length → 0 ≤ a → a ≤ 1048576 → ∃ r, Ev (fun k => qK.l0 k t a (n : Int)) r ∧ (0 ≤ r → ∀ x ∈ t.drop n, x.length ≤ 1048576) := by
    intro d
    induction d with
    | zero =>
      intro n a hn h0 h1
      refine ⟨a, qk (f := fun _ => some a) (fun k => ?_) (Ev.now a), fun _ x hx => ?_⟩
      · simp only [qK.l0]; rw [if_neg (by omega)]
      · rw [List.drop_eq_nil_of_le (by omega)] at hx; cases hx
    | succ d ih =>
      intro n a hn h0 h1
      have hlt : n < t.length := by omega
      have hf := h.2 t[n] (List.getElem_mem hlt)
      by_cases hc : a - t[n].length < 0
      · refine ⟨-1, qk (f := fun _ => some (-1)) (fun k => ?_) (Ev.now (-1)), fun h => by omega⟩
        simp only [qK.l0]
        rw [if_pos (by omega), if_pos (by omega), Qu t n hlt, zB3 _ a h0 h1 hf, yfy, if_pos hc]
        rfl
      · obtain ⟨r, hr, hr2⟩ := ih (n + 1) (a - t[n].length) (by omega) (by omega) (by omega)
        refine ⟨r, qk (fun k => ?_) hr, fun h x hx => ?_⟩
        · simp only [qK.l0]
          rw [if_pos (by omega), if_pos (by omega), Qu t n hlt, zB3 _ a h0 h1 hf, yfy, if_neg hc, if_neg (by omega), ZV (by omega)]
        · rw [List.drop_eq_getElem_cons hlt] at hx
          rcases List.mem_cons.1 hx with rfl | hx
          · omega
          · exact hr2 h x hx
  obtain ⟨r, hr, hr2⟩ := key t.length 0 (1048576 - t.length) (by omega) (by omega) (by omega)
  exact ⟨r, hr, fun h => by have := hr2 h; rwa [List.drop_zero] at this⟩
theorem Jx (t : List (List qI)) (h : Fits t) : ∃ r, Ev (fun k => ZK.f k t 1048576) r ∧ (¬ r < 0 → zCj t) := by
  by_cases hl : (1048576 - (t.length : Int)) < 0
  · refine ⟨-1, ?_, fun h => by omega⟩
    refine Ev.bind (a := -1) (zAh (fun k => ?_)) (qn (by omega) (Ev.now _))
    unfold qK.f
    have := h.1
    rw [Zy (by omega) (by omega), if_pos hl]
  · obtain ⟨r, hr, hr2⟩ := zCH t h (by omega)
    have h2 : Ev (fun k => qK.f k t 1048576) r := by
      refine Ev.congr (fun k => ?_) hr
      unfold qK.f
      rw [Zy (by omega) (by omega), if_neg hl]
    by_cases hn : r < 0
    · exact ⟨-1, Ev.bind h2 (qn hn (Ev.now _)), fun h => by omega⟩
    · exact ⟨r, Ev.bind h2 (Zb hn (Ev.now _)), fun _ => ⟨by omega, hr2 (by omega)⟩⟩
def cvF (x : qI) : zh := ⟨x.f0, x.f1⟩
def cvR (r : List qI) : List zh := r.map cvF
def cvT (t : List (List qI)) : Tri := t.map cvR
theorem zDg {t : List (List qI)} (h : zCj t) : Small (cvT t) := by
  refine ⟨by simp [cvT]; exact h.1, fun r hr => ?_⟩
  obtain ⟨s, hs, rfl⟩ := List.mem_map.1 hr
  simp [cvR]; exact h.2 s hs
theorem zAG {α β : Type} (f : α → β) (l : List α) (z : β) (n : Nat) (h : n < l.length) :
    ((l.take n).map f ++ List.replicate (l.length - n) z).set n (f l[n]) = (l.take (n + 1)).map f ++ List.replicate (l.length - (n + 1)) z := by
  have e : l.length - n = (l.length - (n + 1)) + 1 := by omega
  rw [e, List.replicate_succ, List.set_append_right _ _ (by simp; omega)]
  have : n - ((l.take n).map f).length = 0 := by simp; omega
  rw [this, yby, List.take_succ_eq_append_getElem h, List.map_append, List.append_assoc]
  rfl
theorem zD1 (l : List qI) (h : l.length ≤ 1048576) : Ev (fun k => qY.f k l) (cvR l) := by
  have hl : Ev (fun k => qY.l0 k l (List.replicate l.length Qt) 0) (cvR l) := by
    refine Jv (fun k (s : List zh × Int) => qY.l0 k l s.1 s.2) (fun s => ∃ n : Nat, n ≤ l.length ∧ s.2 = n ∧ s.1 = (l.take n).map cvF ++ List.replicate (l.length - n) Qt) (fun s => l.length - s.2.toNat) (fun _ => cvR l) ?_ (List.replicate l.length Qt, 0) ⟨0, by omega, rfl, by simp⟩
    rintro ⟨a, i⟩ ⟨n, hn, rfl, rfl⟩
    dsimp only
    by_cases hlt : n < l.length
    · refine .inr ⟨((l.take (n + 1)).map cvF ++ List.replicate (l.length - (n + 1)) Qt, ((n + 1 : Nat) : Int)), ⟨n + 1, by omega, rfl, rfl⟩, by simp; omega, rfl, fun k => ?_⟩
      simp only [qY.l0, Qf.f, yfy]
      rw [if_pos (by omega), if_pos (by omega), if_pos (by simp; omega), ZV (by omega), yny, zBX l n hlt]
      have := zAG cvF l Qt n hlt
      rw [← this]
      rfl
    · obtain rfl : n = l.length := by omega
      refine .inl fun k => ?_
      simp only [qY.l0]
      rw [if_neg (by omega)]
      simp [cvR]
  refine Ev.congr (fun k => ?_) hl
  unfold qY.f
  rw [if_pos (by omega), if_pos (by simp; omega), yny]
theorem zCI (l : List (List qI)) (h : zCj l) : Ev (fun k => qO.f k l) (cvT l) := by
  have hl : Ev (fun k => qO.l0 k l (List.replicate l.length []) 0) (cvT l) := by
    refine zCF (fun k (s : Tri × Int) => qO.l0 k l s.1 s.2) (fun s => ∃ n : Nat, n ≤ l.length ∧ s.2 = n ∧ s.1 = (l.take n).map cvR ++ List.replicate (l.length - n) []) (fun s => l.length - s.2.toNat) (fun _ => cvT l) ?_ (List.replicate l.length [], 0) ⟨0, by omega, rfl, by simp⟩
    rintro ⟨a, i⟩ ⟨n, hn, rfl, rfl⟩
    dsimp only
    by_cases hlt : n < l.length
    · obtain ⟨K, hK⟩ := zD1 l[n] (h.2 _ (List.getElem_mem hlt))
      refine .inr ⟨((l.take (n + 1)).map cvR ++ List.replicate (l.length - (n + 1)) [], ((n + 1 : Nat) : Int)), K, ⟨n + 1, by omega, rfl, rfl⟩, by simp; omega, rfl, fun k hk => ?_⟩
      have e : qY.f k l[n] = some _ := hK k hk
      have h1 := h.1
      simp only [qO.l0]
      rw [if_pos (by omega), if_pos (by omega), Qu l n hlt, e, yfy, if_pos (by simp; omega), ZV (by omega), yny, zAG cvR l [] n hlt]
    · obtain rfl : n = l.length := by omega
      refine .inl ⟨0, fun k _ => ?_⟩
      simp only [qO.l0]
      rw [if_neg (by omega)]
      simp [cvT]
  have h1 := h.1
  refine Ev.congr (fun k => ?_) hl
  unfold qO.f
  rw [if_pos (by omega), if_pos (by simp; omega), yny]
theorem Jy (l : List (List qI)) (h : zCj l) : Ev (fun k => qV.f k l) (cvT l) := Ev.bind (zCI l h) (Ev.now _)
theorem zD2 (l : List zh) (h : l.length ≤ 1048576) : Ev (fun k => zy.f k l l) true := by
  have hl : Ev (fun k => zy.l0 k l l 0) true := by
    refine Jv (fun k (s : Int) => zy.l0 k l l s) (fun s => ∃ n : Nat, n ≤ l.length ∧ s = n) (fun s => l.length - s.toNat) (fun _ => true) ?_ 0 ⟨0, by omega, rfl⟩
    rintro i ⟨n, hn, rfl⟩
    by_cases hlt : n < l.length
    · refine .inr ⟨((n + 1 : Nat) : Int), ⟨n + 1, by omega, rfl⟩, by simp; omega, rfl, fun k => ?_⟩
      simp only [zy.l0, QP.f]
      rw [if_pos (by omega), if_pos (by omega), if_pos (by omega), if_pos trivial, if_pos trivial, yfy, if_pos rfl, ZV (by omega)]
    · refine .inl fun k => ?_
      simp only [zy.l0]
      rw [if_neg (by omega)]
  refine Ev.congr (fun k => ?_) hl
  unfold zy.f
  rw [if_pos rfl]
theorem Qr (l : Tri) (h : Small l) : Ev (fun k => qU.f k l l) true := by
  have hl : Ev (fun k => zt.l0 k l l 0) true := by
    refine zCF (fun k (s : Int) => zt.l0 k l l s) (fun s => ∃ n : Nat, n ≤ l.length ∧ s = n) (fun s => l.length - s.toNat) (fun _ => true) ?_ 0 ⟨0, by omega, rfl⟩
    rintro i ⟨n, hn, rfl⟩
    by_cases hlt : n < l.length
    · obtain ⟨K, hK⟩ := zD2 l[n] (h.2 _ (List.getElem_mem hlt))
      refine .inr ⟨((n + 1 : Nat) : Int), K, ⟨n + 1, by omega, rfl⟩, by simp; omega, rfl, fun k hk => ?_⟩
      have e : zy.f k l[n] l[n] = some _ := hK k hk
      have h1 := h.1
      simp only [zt.l0]
      rw [if_pos (by omega), if_pos (by omega), if_pos (by omega), QR l n hlt, e, yfy, if_pos rfl, ZV (by omega)]
    · refine .inl ⟨0, fun k _ => ?_⟩
      simp only [zt.l0]
      rw [if_neg (by omega)]
  have h2 : Ev (fun k => zt.f k l l) true := by
    refine Ev.congr (fun k => ?_) hl
    unfold zt.f
    rw [if_pos rfl]
  exact Ev.bind h2 (qn rfl (Ev.now _))
abbrev fc (t : Tri) (a f : Int) : zh := zF (zC t a) f
def zAL (t : Tri) (a f : Int) : Bool :=
  if (fc t a f).f0 = -1 then (fc t a f).f1 == 0
  else if 0 ≤ (fc t a f).f0 ∧ (fc t a f).f0 < (t.length : Int) ∧ 0 ≤ (fc t a f).f1 ∧ (fc t a f).f1 ≤ 23 then
    ((fc t (fc t a f).f0 (rd (ZR (fc t a f).f1) f)).f0 == a && (fc t (fc t a f).f0 (rd (ZR (fc t a f).f1) f)).f1 == JD (fc t a f).f1) && !((fc t a f).f0 == a && rd (ZR (fc t a f).f1) f == f)
  else false
def Qz (t : Tri) (a : Int) : Int → Nat → Bool
  | _, 0 => true
  | f, d + 1 => zAL t a f && Qz t a (f + 1) d
def Ja (t : Tri) : Int → Nat → Bool
  | _, 0 => true
  | a, d + 1 => Qz t a 0 4 && Ja t (a + 1) d
def Qh (t : Tri) : Bool := decide (t.length ≤ 8) && (t.all (fun r => decide (r.length = 4)) && Ja t 0 t.length)
section
variable {t : Tri}
theorem row4 (h4 : ∀ r ∈ t, r.length = 4) {a : Int} (h0 : 0 ≤ a) (h1 : a < t.length) : (zC t a).length = 4 := by
  obtain ⟨n, rfl⟩ := Int.eq_ofNat_of_zero_le h0
  rw [QR t n (by omega)]
  exact h4 _ (List.getElem_mem _)
theorem zAr (h4 : ∀ r ∈ t, r.length = 4) (hn : t.length ≤ 8) {a f : Int} (h0 : 0 ≤ a) (h1 : a < t.length) (hf0 : 0 ≤ f) (hf1 : f ≤ 3) : Ev (fun k => zV.f k t a f) (zAL t a f) := by
  have hr := row4 h4 h0 h1
  refine Ev.congr (fun k => by unfold zV.f; rw [if_pos h0, if_pos h1, if_pos hf0, if_pos (by omega)]) ?_
  change Ev (fun k => if (fc t a f).f0 = -1 then some ((fc t a f).f1 == 0) else _) (zAL t a f)
  unfold zAL
  by_cases hb : (fc t a f).f0 = -1
  · rw [if_pos hb]; exact qn hb (Ev.now _)
  · refine Zb hb ?_
    rw [if_neg hb]
    have hix : qd.f t (fc t a f).f0 = some (decide (0 ≤ (fc t a f).f0) && decide ((fc t a f).f0 ≤ (t.length : Int) - 1)) := by
      unfold qd.f qN.f
      rw [yfy, Zy (by omega) (by omega), zB2]; rfl
    have hfalse : Ev (fun k => zV.j0 k a f true t (fc t a f).f0 (fc t a f).f1) false := qk (fun k => by rw [zV.j0, if_pos rfl]) (Ev.now false)
    refine Ev.bind (JX hix) ?_
    by_cases hi : 0 ≤ (fc t a f).f0 ∧ (fc t a f).f0 < (t.length : Int)
    · refine qn (by simp; omega) ?_
      refine Ev.bind (JX (zDd _)) ?_
      by_cases hp : 0 ≤ (fc t a f).f1 ∧ (fc t a f).f1 ≤ 23
      · rw [if_pos ⟨hi.1, hi.2, hp.1, hp.2⟩]
        have e : (!(decide (0 ≤ (fc t a f).f1) && decide ((fc t a f).f1 ≤ 23))) = false := by simp [hp]
        rw [e]
        refine qk (fun k => by rw [zV.j0, if_neg (by simp), zDf hp.1 hp.2 hf0 hf1, yfy]) ?_
        obtain ⟨hg0, hg1⟩ := zCi hp.1 hp.2 hf0 hf1
        have hr2 := row4 h4 hi.1 hi.2
        refine qn hi.1 (qn hi.2 (qn hg0 (qn (by rw [hr2]; omega) ?_)))
        refine Ev.bind (JX (zD0 hp.1 hp.2)) ?_
        change Ev (fun k => if ((fc t (fc t a f).f0 (rd (ZR (fc t a f).f1) f)).f0 == a && (fc t (fc t a f).f0 (rd (ZR (fc t a f).f1) f)).f1 == JD (fc t a f).f1) = true then _ else _) _
        generalize ((fc t (fc t a f).f0 (rd (ZR (fc t a f).f1) f)).f0 == a && (fc t (fc t a f).f0 (rd (ZR (fc t a f).f1) f)).f1 == JD (fc t a f).f1) = b
        cases b with
        | false => refine Zb (by simp) ?_; rw [Bool.false_and]; exact Ev.now false
        | true =>
          refine qn rfl ?_
          rw [Bool.true_and]
          by_cases ha : (fc t a f).f0 = a
          · refine qn ha (zBW ?_)
            rw [ha]; simp [bne]
          · refine Zb ha (zBW ?_)
            simp [ha]
      · rw [if_neg (by omega)]
        have e : (!(decide (0 ≤ (fc t a f).f1) && decide ((fc t a f).f1 ≤ 23))) = true := by
          rw [Bool.not_eq_true', Bool.and_eq_false_iff, decide_eq_false_iff_not, decide_eq_false_iff_not]; omega
        rw [e]
        exact hfalse
    · rw [if_neg (by omega)]
      refine Zb ?_ hfalse
      rw [Bool.and_eq_true, decide_eq_true_eq, decide_eq_true_eq]; omega
theorem zB4 (h4 : ∀ r ∈ t, r.length = 4) (hn : t.length ≤ 8) {a : Int} (h0 : 0 ≤ a) (h1 : a < t.length) {R : Bool} (hR : Ev (fun k => zW.l0 k (t.length : Int) (a + 1) t) R) :
    ∀ (d : Nat) (f : Int), 0 ≤ f → f + d = 4 → Ev (fun k => zW.l1 k a (t.length : Int) a f t) (Qz t a f d && R)
  | 0, f, hf, he => by
    refine qk (fun k => by rw [zW.l1, if_neg (by omega), Zy (by omega) (by omega)]) ?_
    rw [Qz, Bool.true_and]; exact hR
  | d + 1, f, hf, he => by
    refine qk (fun k => by rw [zW.l1, if_pos (by omega)]) ?_
    refine Ev.bind (zAr h4 hn h0 h1 hf (by omega)) ?_
    rw [Qz]
    cases hg : zAL t a f with
    | false => exact Zb (by simp) (by rw [Bool.false_and, Bool.false_and]; exact Ev.now false)
    | true =>
      refine qn rfl ?_
      rw [Bool.true_and]
      exact Ev.congr (fun k => by rw [Zy (by omega) (by omega)]) (zB4 h4 hn h0 h1 hR d (f + 1) (by omega) (by omega))
theorem zB5 (h4 : ∀ r ∈ t, r.length = 4) (hn : t.length ≤ 8) : ∀ (d : Nat) (a : Int), 0 ≤ a → a + d = t.length → Ev (fun k => zW.l0 k (t.length : Int) a t) (Ja t a d)
  | 0, a, ha, he => by
    refine qk (fun k => by rw [zW.l0, if_neg (by omega)]) ?_
    exact Ev.now true
  | d + 1, a, ha, he => by
    refine qk (fun k => by rw [zW.l0, if_pos (by omega)]) ?_
    rw [Ja]
    exact zB4 h4 hn ha (by omega) (zB5 h4 hn d (a + 1) (by omega) (by omega)) 4 0 (by omega) (by omega)
theorem zBY : t.all (fun r => decide (r.length = 4)) = true ↔ ∀ r ∈ t, r.length = 4 := by simp
theorem zDh (h : Small t) : zl.f t = some (!(t.all fun r => decide (r.length = 4))) := by
  unfold zl.f zw.f
  rw [contO (p := fun r => !(decide (r.length = 4))) t (fun r _ => by
    show qa.f r = _
    unfold qa.f
    congr 1
    by_cases h : r.length = 4
    · simp [h]
    · have : ¬ ((r.length : Int) = 4) := by omega
      simp [h, this]), List.not_all_eq_any_not]
theorem zBZ (h : Small t) : Ev (fun k => zW.f k t) (Qh t) := by
  have hfalse : Ev (fun k => zW.j0 k true t) false := qk (fun k => by rw [zW.j0, if_pos rfl]) (Ev.now false)
  unfold Qh
  by_cases h8 : t.length ≤ 8
  · refine Ev.congr (fun k => by unfold zW.f; rw [if_neg (by omega), zDh h, yfy]) ?_
    rw [ygy h8, Bool.true_and]
    cases hall : t.all (fun r => decide (r.length = 4)) with
    | false => rw [Bool.false_and]; exact hfalse
    | true =>
      rw [Bool.true_and]
      refine qk (fun k => by rw [zW.j0, if_neg (by simp)]) ?_
      exact zB5 (zBY.1 hall) h8 t.length 0 (by omega) (by omega)
  · refine Ev.congr (fun k => by unfold zW.f; rw [if_pos (by omega)]) ?_
    rw [yhy h8, Bool.false_and]; exact hfalse
theorem zB6 (h4 : ∀ r ∈ t, r.length = 4) (hn : t.length ≤ 8) {a : Int} (h0 : 0 ≤ a) (h1 : a < t.length) {R : Bool} (hR : Ev (fun k => zM.l1 k (a + 1) t) R) :
    ∀ (d : Nat) (f : Int), 0 ≤ f → f + d = 4 → Ev (fun k => zM.l2 k a f t) (Qz t a f d && R)
  | 0, f, hf, he => by
    refine qk (fun k => by rw [zM.l2, if_neg (by omega), Zy (by omega) (by omega)]) ?_
    rw [Qz, Bool.true_and]; exact hR
  | d + 1, f, hf, he => by
    have hr := row4 h4 h0 h1
    have ih : Ev (fun k => zM.l2 k a (wrap64 (f + 1)) t) (Qz t a (f + 1) d && R) := Ev.congr (fun k => by rw [Zy (by omega) (by omega)]) (zB6 h4 hn h0 h1 hR d (f + 1) (by omega) (by omega))
    refine qk (fun k => by rw [zM.l2, if_pos (by omega), if_pos h0, if_pos h1, if_pos hf, if_pos (by omega)]) ?_
    change Ev (fun k => if (fc t a f).f0 = -1 then zM.j3 k a f ((fc t a f).f1 == 0) t (fc t a f).f0 (fc t a f).f1 else zM.j3 k a f false t (fc t a f).f0 (fc t a f).f1) _
    rw [Qz]
    have hstop : ∀ b, Ev (fun k => zM.j4 k a f true t (fc t a f).f0 (fc t a f).f1) (false && b) := fun b => by
      rw [Bool.false_and]; exact qk (fun k => by rw [zM.j4, if_pos rfl]) (Ev.now false)
    have hgo : Ev (fun k => zM.j3 k a f true t (fc t a f).f0 (fc t a f).f1) (Qz t a (f + 1) d && R) := qk (fun k => by rw [zM.j3, if_pos rfl]) ih
    have hrest : (¬ ((fc t a f).f0 = -1 ∧ (fc t a f).f1 = 0)) → Ev (fun k => zM.j3 k a f false t (fc t a f).f0 (fc t a f).f1) (zAL t a f && Qz t a (f + 1) d && R) := by
      intro hnb
      refine qk (fun k => by rw [zM.j3, qF.f, if_neg (by simp), yfy, zED, yfy, Zy (by omega) (by omega)]) ?_
      unfold zAL
      by_cases hi : 0 ≤ (fc t a f).f0 ∧ (fc t a f).f0 < (t.length : Int)
      · refine qn (by simp; omega) ?_
        refine Ev.bind (JX (zCG _)) ?_
        rw [if_neg (by omega)]
        by_cases hp : 0 ≤ (fc t a f).f1 ∧ (fc t a f).f1 ≤ 23
        · rw [if_pos ⟨hi.1, hi.2, hp.1, hp.2⟩]
          have e : (!(decide (0 ≤ (fc t a f).f1) && decide ((fc t a f).f1 ≤ 23))) = false := by simp [hp]
          rw [e]
          obtain ⟨hg0, hg1⟩ := zCi hp.1 hp.2 hf (by omega)
          have hr2 := row4 h4 hi.1 hi.2
          refine qk (fun k => by rw [zM.j4, if_neg (by simp)]) ?_
          refine Ev.bind (zEE hp.1 hp.2 hf (by omega)) ?_
          refine Ev.bind (zCz hp.1 hp.2) ?_
          refine qn hi.1 (qn hi.2 (qn hg0 (qn (by rw [hr2]; omega) ?_)))
          change Ev (fun k => if (!((fc t (fc t a f).f0 (rd (ZR (fc t a f).f1) f)).f0 == a) || !((fc t (fc t a f).f0 (rd (ZR (fc t a f).f1) f)).f1 == JD (fc t a f).f1)) = true then _ else _) _
          generalize ((fc t (fc t a f).f0 (rd (ZR (fc t a f).f1) f)).f0 == a) = b1
          generalize ((fc t (fc t a f).f0 (rd (ZR (fc t a f).f1) f)).f1 == JD (fc t a f).f1) = b2
          cases b1 with
          | false => exact qn rfl (by rw [Bool.false_and, Bool.false_and, Bool.false_and, Bool.false_and]; exact Ev.now false)
          | true =>
            cases b2 with
            | false => exact qn rfl (by rw [Bool.true_and, Bool.false_and, Bool.false_and, Bool.false_and]; exact Ev.now false)
            | true =>
              refine Zb (by simp) ?_
              rw [Bool.true_and, Bool.true_and]
              by_cases ha : (fc t a f).f0 = a
              · refine qn ha ?_
                by_cases hg : rd (ZR (fc t a f).f1) f = f
                · refine qn hg ?_
                  rw [ha, hg]
                  simp
                  exact Ev.now false
                · refine Zb hg ?_
                  have : (rd (ZR (fc t a f).f1) f == f) = false := by simp [hg]
                  rw [this, Bool.and_false, Bool.not_false, Bool.true_and]
                  exact ih
              · refine Zb ha ?_
                have : ((fc t a f).f0 == a) = false := by simp [ha]
                rw [this, Bool.false_and, Bool.not_false, Bool.true_and]
                exact ih
        · rw [if_neg (by omega)]
          have e : (!(decide (0 ≤ (fc t a f).f1) && decide ((fc t a f).f1 ≤ 23))) = true := by
            rw [Bool.not_eq_true', Bool.and_eq_false_iff, decide_eq_false_iff_not, decide_eq_false_iff_not]; omega
          rw [e, Bool.false_and]
          exact hstop R
      · have hg : (if (fc t a f).f0 = -1 then ((fc t a f).f1 == 0) else if 0 ≤ (fc t a f).f0 ∧ (fc t a f).f0 < (t.length : Int) ∧ 0 ≤ (fc t a f).f1 ∧ (fc t a f).f1 ≤ 23 then
            ((fc t (fc t a f).f0 (rd (ZR (fc t a f).f1) f)).f0 == a && (fc t (fc t a f).f0 (rd (ZR (fc t a f).f1) f)).f1 == JD (fc t a f).f1) && !((fc t a f).f0 == a && rd (ZR (fc t a f).f1) f == f) else false) = false := by
          by_cases hb : (fc t a f).f0 = -1
          · rw [if_pos hb]; simp; intro h; exact hnb ⟨hb, h⟩
          · rw [if_neg hb, if_neg (by omega)]
        rw [hg, Bool.false_and]
        refine Zb ?_ (hstop R)
        rw [Bool.and_eq_true, decide_eq_true_eq, decide_eq_true_eq]; omega
    by_cases hb : (fc t a f).f0 = -1
    · refine qn hb ?_
      by_cases h0' : (fc t a f).f1 = 0
      · have e : zAL t a f = true := by unfold zAL; rw [if_pos hb]; simp [h0']
        rw [e, Bool.true_and]
        have e2 : ((fc t a f).f1 == 0) = true := by simp [h0']
        rw [e2]; exact hgo
      · have e2 : ((fc t a f).f1 == 0) = false := by simp [h0']
        rw [e2]; exact hrest (fun h => h0' h.2)
    · exact Zb hb (hrest (fun h => hb h.1))
theorem zB7 (h4 : ∀ r ∈ t, r.length = 4) (hn : t.length ≤ 8) : ∀ (d : Nat) (a : Int), 0 ≤ a → a + d = t.length → Ev (fun k => zM.l1 k a t) (Ja t a d)
  | 0, a, ha, he => by
    refine qk (fun k => by rw [zM.l1, qF.f, yfy, if_neg (by omega)]) ?_
    exact Ev.now true
  | d + 1, a, ha, he => by
    refine qk (fun k => by rw [zM.l1, qF.f, yfy, if_pos (by omega)]) ?_
    rw [Ja]
    exact zB6 h4 hn ha (by omega) (zB7 h4 hn d (a + 1) (by omega) (by omega)) 4 0 (by omega) (by omega)
theorem zD3 (h8 : t.length ≤ 8) (d : Nat) : ∀ n : Nat, n + d = t.length → (t.all (fun r => decide (r.length = 4)) = (t.drop n).all (fun r => decide (r.length = 4))) → Ev (fun k => zM.l0 k (n : Int) t) (t.all (fun r => decide (r.length = 4)) && Ja t 0 t.length) := by
  induction d with
  | zero =>
    intro n hn ha
    refine qk (fun k => by rw [zM.l0, if_neg (by omega)]) ?_
    have hall : t.all (fun r => decide (r.length = 4)) = true := by rw [ha, List.drop_eq_nil_of_le (by omega)]; rfl
    rw [hall, Bool.true_and]
    exact zB7 (zBY.1 hall) h8 t.length 0 (by omega) (by omega)
  | succ d ih =>
    intro n hn ha
    have hlt : n < t.length := by omega
    refine qk (fun k => by rw [zM.l0, if_pos (by omega), if_pos (by omega), QR t n hlt]) ?_
    rw [List.drop_eq_getElem_cons hlt, List.all_cons] at ha
    by_cases h : t[n].length = 4
    · refine qn (by omega) ?_
      refine Ev.congr (fun k => by rw [ZV (by omega)]) (ih (n + 1) (by omega) ?_)
      rw [ha, ygy h, Bool.true_and]
    · refine Zb (by omega) ?_
      rw [ha, yhy h, Bool.false_and, Bool.false_and]
      exact Ev.now false
theorem zBa (t : Tri) : Ev (fun k => zM.f k t) (Qh t) := by
  refine Ev.congr (fun k => by unfold zM.f qF.f; rw [yfy]) ?_
  unfold Qh
  by_cases h8 : t.length ≤ 8
  · refine Zb (by omega) ?_
    rw [ygy h8, Bool.true_and]
    exact zD3 h8 t.length 0 (by omega) (by rw [List.drop_zero])
  · refine qn (by omega) ?_
    rw [yhy h8, Bool.false_and]
    exact Ev.now false
end
theorem Zc {t : Tri} (h : Qh t = true) : t.length ≤ 8 ∧ (∀ r ∈ t, r.length = 4) ∧ Ja t 0 t.length = true := by
  unfold Qh at h
  rw [Bool.and_eq_true, Bool.and_eq_true, decide_eq_true_eq] at h
  exact ⟨h.1, zBY.1 h.2.1, h.2.2⟩
theorem zDi (t : Tri) (a : Int) (d : Nat) : ∀ f, Qz t a f d = true → ∀ g, f ≤ g → g < f + d → zAL t a g = true := by
  induction d with
  | zero => intro f _ g h1 h2; omega
  | succ d ih =>
    intro f h g h1 h2
    rw [Qz, Bool.and_eq_true] at h
    by_cases e : g = f
    · rw [e]; exact h.1
    · exact ih (f + 1) h.2 g (by omega) (by omega)
theorem zDj (t : Tri) (d : Nat) : ∀ a, Ja t a d = true → ∀ b, a ≤ b → b < a + d → ∀ g, 0 ≤ g → g ≤ 3 → zAL t b g = true := by
  induction d with
  | zero => intro a _ b h1 h2; omega
  | succ d ih =>
    intro a h b h1 h2 g hg0 hg1
    rw [Ja, Bool.and_eq_true] at h
    by_cases e : b = a
    · rw [e]; exact zDi t a 4 0 h.1 g hg0 (by omega)
    · exact ih (a + 1) h.2 b (by omega) (by omega) g hg0 hg1
theorem zBt {t : Tri} (h : Qh t = true) {a f : Int} (h0 : 0 ≤ a) (h1 : a < t.length) (hf0 : 0 ≤ f) (hf1 : f ≤ 3) :
    ((fc t a f).f0 = -1 ∧ (fc t a f).f1 = 0) ∨
    ((0 ≤ (fc t a f).f0 ∧ (fc t a f).f0 < (t.length : Int) ∧ 0 ≤ (fc t a f).f1 ∧ (fc t a f).f1 ≤ 23) ∧
      (fc t (fc t a f).f0 (rd (ZR (fc t a f).f1) f)).f0 = a ∧ (fc t (fc t a f).f0 (rd (ZR (fc t a f).f1) f)).f1 = JD (fc t a f).f1 ∧ ¬ ((fc t a f).f0 = a ∧ rd (ZR (fc t a f).f1) f = f)) := by
  have hg := zDj t t.length 0 (Zc h).2.2 a h0 (by omega) f hf0 hf1
  unfold zAL at hg
  by_cases hb : (fc t a f).f0 = -1
  · rw [if_pos hb] at hg
    exact .inl ⟨hb, by simpa using hg⟩
  · rw [if_neg hb] at hg
    by_cases hi : 0 ≤ (fc t a f).f0 ∧ (fc t a f).f0 < (t.length : Int) ∧ 0 ≤ (fc t a f).f1 ∧ (fc t a f).f1 ≤ 23
    · rw [if_pos hi, Bool.and_eq_true, Bool.and_eq_true, Bool.not_eq_true'] at hg
      refine .inr ⟨hi, eq_of_beq hg.1.1, eq_of_beq hg.1.2, fun hc => ?_⟩
      have := hg.2
      rw [Bool.and_eq_false_iff] at this
      rcases this with h2 | h2
      · exact absurd hc.1 (by simpa using h2)
      · exact absurd hc.2 (by simpa using h2)
    · rw [if_neg hi] at hg; cases hg
theorem zCJ {t : Tri} (h : Qh t = true) : Small t := ⟨by have := (Zc h).1; omega, fun r hr => by have := (Zc h).2.1 r hr; omega⟩
theorem zDk {t : Tri} (h : Qh t = true) {a : Int} (h0 : 0 ≤ a) (h1 : a < t.length) : (zC t a).length = 4 := row4 (Zc h).2.1 h0 h1
def zB8 (n : Nat) : List Int → List Bool → Bool
  | [], _ => true
  | x :: xs, seen => if (0 ≤ x ∧ x < (n : Int)) ∧ seen.getD x.toNat false = false then zB8 n xs (seen.set x.toNat true) else false
def Qg (n : Nat) (l : List Int) : Bool := zB8 n l (List.replicate n false) && decide (l.length = n)
theorem zB9 (n : Nat) : ∀ (l : List Int) (seen : List Bool), seen.length = n → zB8 n l seen = true →
    ∃ fin : List Bool, fin.length = n ∧ fin.count true = seen.count true + l.length ∧ ∀ i : Nat, fin[i]? = some true → seen[i]? = some true ∨ (i : Int) ∈ l
  | [], seen, hl, _ => ⟨seen, hl, by simp, fun i h => .inl h⟩
  | x :: xs, seen, hl, h => by
    rw [zB8] at h
    by_cases hc : (0 ≤ x ∧ x < (n : Int)) ∧ seen.getD x.toNat false = false
    · rw [if_pos hc] at h
      obtain ⟨⟨h0, h1⟩, h2⟩ := hc
      have hlt : x.toNat < seen.length := by omega
      obtain ⟨fin, f1, f2, f3⟩ := zB9 n xs (seen.set x.toNat true) (by simp [hl]) h
      have hx : seen[x.toNat] = false := by simpa [hlt] using h2
      refine ⟨fin, f1, ?_, fun i hi => ?_⟩
      · rw [f2, List.count_set hlt, hx]; simp; omega
      · rcases f3 i hi with h4 | h4
        · rw [List.getElem?_set] at h4
          by_cases e : x.toNat = i
          · exact .inr (by rw [← e, Int.toNat_of_nonneg h0]; exact List.mem_cons_self)
          · rw [if_neg e] at h4; exact .inl h4
        · exact .inr (List.mem_cons_of_mem _ h4)
    · rw [if_neg hc] at h; cases h
theorem zAH (n : Nat) : ∀ (l : List Int) (seen : List Bool), zB8 n l seen = true → ∀ x ∈ l, 0 ≤ x ∧ x < (n : Int)
  | [], _, _ => fun x hx => by cases hx
  | y :: ys, seen, h => by
    rw [zB8] at h
    by_cases hc : (0 ≤ y ∧ y < (n : Int)) ∧ seen.getD y.toNat false = false
    · rw [if_pos hc] at h
      intro x hx
      rcases List.mem_cons.1 hx with rfl | hx
      · exact hc.1
      · exact zAH n ys _ h x hx
    · rw [if_neg hc] at h; cases h
theorem Jg {n : Nat} {l : List Int} (h : Qg n l = true) : l.length = n := by
  unfold Qg at h; rw [Bool.and_eq_true, decide_eq_true_eq] at h; exact h.2
theorem zBb {n : Nat} {l : List Int} (h : Qg n l = true) : ∀ x ∈ l, 0 ≤ x ∧ x < (n : Int) := by
  unfold Qg at h; rw [Bool.and_eq_true] at h; exact zAH n l _ h.1
theorem zCK {n : Nat} {l : List Int} (h : Qg n l = true) : ∀ i : Nat, i < n → (i : Int) ∈ l := by
  have hlen := Jg h
  unfold Qg at h; rw [Bool.and_eq_true] at h
  obtain ⟨fin, f1, f2, f3⟩ := zB9 n l _ (by simp) h.1
  have e : fin.count true = fin.length := by rw [f2, f1, hlen, List.count_replicate]; simp
  rw [List.count_eq_length] at e
  intro i hi
  have h2 : i < fin.length := by omega
  rcases f3 i (by rw [List.getElem?_eq_getElem h2, ← e fin[i] (List.getElem_mem h2)]) with h3 | h3
  · rw [List.getElem?_replicate, if_pos hi] at h3; cases h3
  · exact h3
theorem zCk (t : Tri) (ts ps : List Int) (i : Nat) : ∀ (m : Nat) (u v : Tri), u.length = v.length → ((∃ a : Nat, a < m ∧ rd ts (a : Int) = (i : Int)) ∨ u[i]? = v[i]?) → (zAl t ts ps m u)[i]? = (zAl t ts ps m v)[i]?
  | 0, u, v, hl, h => by
    rcases h with ⟨a, ha, _⟩ | h
    · omega
    · exact h
  | m + 1, u, v, hl, h => by
    rw [zAl, zAl, List.getElem?_set, List.getElem?_set, Zq, Zq, hl]
    by_cases e : (rd ts (m : Int)).toNat = i
    · rw [if_pos e, if_pos e]
    · rw [if_neg e, if_neg e]
      refine zCk t ts ps i m u v hl ?_
      rcases h with ⟨a, ha, h⟩ | h
      · rcases Nat.lt_or_ge a m with h2 | h2
        · exact .inl ⟨a, h2, h⟩
        · obtain rfl : a = m := by omega
          exact absurd (by rw [h]; rfl) e
      · exact .inr h
theorem zEF (t : Tri) (ts ps : List Int) {n : Nat} (hp : Qg n ts = true) {u v : Tri} (hu : u.length = n) (hv : v.length = n) : zAl t ts ps n u = zAl t ts ps n v := by
  apply List.ext_getElem?
  intro i
  by_cases hi : i < n
  · obtain ⟨a, ha, he⟩ := List.getElem_of_mem (zCK hp i hi)
    refine zCk t ts ps i n u v (by omega) (.inl ⟨a, by have := Jg hp; omega, ?_⟩)
    rw [rd_lt _ _ ha]; exact he
  · rw [List.getElem?_eq_none (by rw [Zq]; omega), List.getElem?_eq_none (by rw [Zq]; omega)]
theorem zCL {t : Tri} (hs : Small t) : Ev (fun k => qM.f k t) t := by
  refine Jv (fun k (s : Int × Tri) => qM.l0 k s.1 t s.2) (fun s => ∃ n : Nat, n ≤ t.length ∧ s.1 = n ∧ s.2 = t.take n) (fun s => t.length - s.1.toNat) (fun _ => t) ?_ (0, []) ⟨0, by omega, rfl, by simp⟩
  rintro ⟨i, acc⟩ ⟨n, hn, rfl, rfl⟩
  dsimp only
  have hl := hs.1
  by_cases hlt : n < t.length
  · have hr := hs.2 t[n] (List.getElem_mem hlt)
    refine .inr ⟨(((n + 1 : Nat) : Int), t.take (n + 1)), ⟨n + 1, by omega, rfl, rfl⟩, by simp; omega, rfl, fun k => ?_⟩
    simp only [qM.l0]
    rw [if_pos (by omega), yfy, if_pos (by omega), QR t n hlt, if_pos (by simp; omega), if_pos (by simp; omega), ZV (by omega), List.nil_append, List.take_succ_eq_append_getElem hlt]
  · obtain rfl : n = t.length := by omega
    refine .inl fun k => ?_
    simp only [qM.l0]
    rw [if_neg (by omega), List.take_length]
def okPs (n : Nat) (ps : List Int) : Bool := decide (ps.length = n) && ps.all (fun p => decide (0 ≤ p) && decide (p ≤ 23))
def zBu (n : Nat) (ts ps : List Int) : Bool := Qg n ts && okPs n ps
theorem zEl {n : Nat} {ts ps : List Int} (h : zBu n ts ps = true) : ts.length = n ∧ (∀ x ∈ ts, 0 ≤ x ∧ x < (n : Int)) ∧ ps.length = n ∧ ∀ x ∈ ps, 0 ≤ x ∧ x ≤ 23 := by
  unfold zBu okPs at h
  simp only [Bool.and_eq_true, decide_eq_true_eq, List.all_eq_true] at h
  exact ⟨Jg h.1, zBb h.1, h.2.1, h.2.2⟩
def relT (t : Tri) (ts ps : List Int) : Tri := zAl t ts ps t.length (List.replicate t.length [])
theorem zBv (t : Tri) (ts ps : List Int) (u : Tri) (hu : ∀ r ∈ u, r.length ≤ 4) : ∀ n, ∀ r ∈ zAl t ts ps n u, r.length ≤ 4
  | 0 => hu
  | n + 1 => fun r hr => by
    rw [zAl] at hr
    rcases List.mem_or_eq_of_mem_set hr with h | h
    · exact zBv t ts ps u hu n r h
    · rw [h, zAd]; omega
theorem zD4 {t : Tri} (h : t.length ≤ 8) (ts ps : List Int) : Small (relT t ts ps) :=
  ⟨by unfold relT; rw [Zq, List.length_replicate]; omega, fun r hr => by have := zBv t ts ps _ (fun r hr => by rw [(List.mem_replicate.1 hr).2]; simp) _ r hr; omega⟩
theorem zCl {t : Tri} (h : Qh t = true) {ts ps : List Int} (hl : zBu t.length ts ps = true) : zBn t ts ps = true := by
  obtain ⟨h8, h4, _⟩ := Zc h
  obtain ⟨a, b, c, d⟩ := zEl hl
  unfold zBn
  simp only [Bool.and_eq_true, decide_eq_true_eq, List.all_eq_true]
  refine ⟨⟨⟨⟨⟨by omega, fun r hr => ⟨h4 r hr, fun x hx => ?_⟩⟩, a⟩, b⟩, c⟩, d⟩
  unfold okF
  by_cases hb : x.f0 < 0
  · rw [ygy hb]; rfl
  · rw [yhy hb, Bool.false_or, Bool.and_eq_true, Bool.and_eq_true, decide_eq_true_eq, decide_eq_true_eq, decide_eq_true_eq]
    obtain ⟨i, hi, rfl⟩ := List.getElem_of_mem hr
    obtain ⟨j, hj, rfl⟩ := List.getElem_of_mem hx
    have hj4 := h4 _ (List.getElem_mem hi)
    have e : fc t (i : Int) (j : Int) = t[i][j] := by show zF (zC t (i : Int)) (j : Int) = _; rw [QR t i hi, JY _ j hj]
    rcases zBt h (a := (i : Int)) (f := (j : Int)) (by omega) (by omega) (by omega) (by omega) with ⟨e1, _⟩ | ⟨e1, _⟩
    · rw [e] at e1; exact absurd (by omega) hb
    · rw [e] at e1; exact ⟨⟨e1.2.1, e1.2.2.1⟩, e1.2.2.2⟩
theorem zA6 {t : Tri} (h : Qh t = true) {ts ps : List Int} (hl : zBu t.length ts ps = true) : qG.f t ts ps = some (relT t ts ps) := by
  unfold qG.f; rw [if_pos (zCl h hl)]; rfl
theorem zAI : ∀ d : Nat, QQ (40 + d) = true
  | 0 => by decide +kernel
  | d + 1 => zBq (zAI d)
theorem zD5 {α : Type} {g h : Nat → Option α} {r : α} (k : Ev g r) : Ev (fun n => if QQ n = true then g n else h n) r := by
  obtain ⟨K, hK⟩ := k
  refine ⟨K + 40, fun n hn => ?_⟩
  have := zAI (n - 40)
  rw [show 40 + (n - 40) = n by omega] at this
  show (if QQ n = true then g n else h n) = some r
  rw [if_pos this]
  exact hK n (by omega)
theorem zCM {t : Tri} {ts ps : List Int} (h : Qh t = true) (hl : zBu t.length ts ps = true) : Ev (fun k => ZJ.f k t ts ps) (relT t ts ps) := by
  refine Ev.bind (zCL (zCJ h)) (qn (zCl h hl) (zD5 (qn rfl (zBW ?_))))
  have hp : Qg t.length ts = true := by unfold zBu at hl; rw [Bool.and_eq_true] at hl; exact hl.1
  exact (zEF t ts ps hp (u := List.replicate t.length []) (v := t) (by simp) rfl).symm
theorem zET (n : Nat) (hn : n ≤ 1000) : ∀ (d i : Nat), i + d = n → Ev (fun k => qh.l0 k (QK 0 i) (n : Int) (i : Int)) (QK 0 n)
  | 0, i, hd => by
    obtain rfl : i = n := by omega
    exact qk (f := fun _ => some (QK 0 i)) (fun k => by rw [qh.l0, if_neg (by omega)]) (Ev.now _)
  | d + 1, i, hd => by
    refine qk (fun k => ?_) (zET n hn d (i + 1) (by omega))
    rw [qh.l0, if_pos (by omega), if_pos (by rw [Jw]; omega), ZV (by omega), zAi, Int.zero_add]
theorem zEU (n : Nat) (hn : n ≤ 1000) : ∀ (d i : Nat), i + d = n → Ev (fun k => qc.l0 k (n : Int) (QK 0 i) (i : Int)) (QK 0 n)
  | 0, i, hd => by
    obtain rfl : i = n := by omega
    exact qk (f := fun _ => some (QK 0 i)) (fun k => by rw [qc.l0, if_neg (by omega)]) (Ev.now _)
  | d + 1, i, hd => by
    refine qk (fun k => ?_) (zEU n hn d (i + 1) (by omega))
    rw [qc.l0, if_pos (by omega), if_pos (by rw [Jw]; omega), ZV (by omega), zAi, Int.zero_add]
theorem zD6 {n : Nat} (hn : n ≤ 8) : Qg n (QK 0 n) = true := by
  have key : ∀ m : Fin 9, Qg m.val (QK 0 m.val) = true := by decide +kernel
  exact key ⟨n, by omega⟩
theorem zEm (p : Nat → Bool) (n : Nat) : okPs n (exP p n n) = true := by
  unfold okPs
  rw [Bool.and_eq_true, decide_eq_true_eq, List.all_eq_true]
  refine ⟨QE p n n, fun x hx => ?_⟩
  unfold exP at hx
  obtain ⟨i, _, rfl⟩ := List.mem_map.1 hx
  split <;> decide
theorem zCm (p : Nat → Bool) {n : Nat} (hn : n ≤ 8) : zBu n (QK 0 n) (exP p n n) = true := by
  unfold zBu; rw [zD6 hn, zEm]; rfl
def exT (t : Tri) (p : Nat → Bool) : Tri := relT t (QK 0 t.length) (exP p t.length t.length)
theorem zEn (p : Nat → Bool) (n i : Nat) (h : i < (exP p n n).length) : (exP p n n)[i] = if p i = true then 1 else 0 := by
  have hi : i < n := by rw [QE] at h; exact h
  simp [exP, hi]
theorem zBw {t : Tri} (h : Qh t = true) (sg : List Int) (hl : sg.length = t.length) (hs : ∀ i : Nat, i < t.length → rd sg (i : Int) = 0 ∨ rd sg (i : Int) = 1 ∨ rd sg (i : Int) = -1) : ∀ d i : Nat, i + d = t.length →
    Ev (fun k => qD.l0 k sg ((exP (zD9 sg) t.length t.length).take i) (i : Int) t) (exT t (zD9 sg)) := by
  obtain ⟨h8, h4, _⟩ := Zc h
  intro d
  induction d with
  | zero =>
    intro i hi
    refine qk (f := fun k => (qF.f t).bind fun x => (qc.f k x).bind fun u => (ZJ.f k t u (exP (zD9 sg) t.length t.length)).bind fun y => some y) (fun k => by rw [qD.l0, if_neg (by omega), List.take_of_length_le (by rw [QE]; omega)]) ?_
    refine Ev.bind (a := (t.length : Int)) (JX (by unfold qF.f; rfl)) (Ev.bind (zEU t.length (by omega) t.length 0 (by omega)) (Ev.bind (zCM h (zCm _ h8)) (Ev.now _)))
  | succ d ih =>
    intro i hi
    refine qk (fun k => ?_) (ih (i + 1) (by omega))
    have hlt : i < (exP (zD9 sg) t.length t.length).length := by rw [QE]; omega
    rw [qD.l0, if_pos (by omega), if_pos (by omega), if_pos (by rw [ymy]; omega), ZV (by omega), List.take_succ_eq_append_getElem hlt, zEn]
    have e : wrap64 (Int.tdiv (wrap64 (1 - rd sg (i : Int))) 2) = if zD9 sg i = true then 1 else 0 := by
      unfold zD9
      rcases hs i (by omega) with e | e | e <;> rw [e] <;> decide +kernel
    rw [e]
theorem zBx {t : Tri} (h : Qh t = true) (sg : List Int) (hl : sg.length = t.length) (hs : ∀ i : Nat, i < t.length → rd sg (i : Int) = 0 ∨ rd sg (i : Int) = 1 ∨ rd sg (i : Int) = -1) : Ev (fun k => qD.f k t sg) (exT t (zD9 sg)) := by
  have := zBw h sg hl hs t.length 0 (by omega)
  rw [List.take_zero] at this
  exact this
theorem zBy {t : Tri} (h : Qh t = true) (p : Nat → Bool) : Ev (fun k => if t.length ≤ 1000000 then (qh.f k (t.length : Int)).bind fun cs => (qG.f t cs (exP p t.length t.length)).bind fun r => some (r, (0 : Int)) else none) (exT t p, 0) := by
  have h8 := (Zc h).1
  refine qn (by omega) (Ev.bind (zET t.length (by omega) t.length 0 (by omega)) (Ev.bind (JX (zA6 h (zCm p h8))) (Ev.now _)))
theorem zDl {t : Tri} (h : Qh t = true) (p : Nat → Bool) : Small (exT t p) := zD4 (Zc h).1 _ _
theorem zEG {p : Int} (h0 : 0 ≤ p) (h1 : p ≤ 23) : zBd p = 1 ∨ zBd p = -1 := by
  obtain ⟨m, rfl⟩ := zCh h0 h1
  have key : ∀ m : Fin 24, zBd (m.val : Int) = 1 ∨ zBd (m.val : Int) = -1 := by decide +kernel
  exact key m
theorem zBz {p : Int} (h0 : 0 ≤ p) (h1 : p ≤ 23) : Ev (fun k => zi.f k p) (zBd p) := by
  obtain ⟨m, rfl⟩ := zCh h0 h1
  have key : ∀ m : Fin 24, zi.f 40 (m.val : Int) = some (zBd (m.val : Int)) := by decide +kernel
  exact Ev.of (fun k => zi.mono _ k) (key m)
def zc : List Int → Nat
  | [] => 0
  | x :: xs => (if x = 0 then 1 else 0) + zc xs
theorem zc_le (l : List Int) : zc l ≤ l.length := by
  induction l with
  | nil => simp [zc]
  | cons x xs ih => simp only [zc, List.length_cons]; split <;> omega
theorem zDm : ∀ (l : List Int) (n : Nat) (v : Int), n < l.length → l.getD n 0 = 0 → v ≠ 0 → zc (l.set n v) + 1 = zc l
  | [], n, v, h, _, _ => by simp at h
  | x :: xs, 0, v, _, hz, hv => by
    have hx : x = 0 := by simpa using hz
    simp [zc, hx, hv]; omega
  | x :: xs, n + 1, v, h, hz, hv => by
    have := zDm xs n v (by simpa using h) (by simpa using hz) hv
    simp only [ycy, zc]; omega
abbrev pm (x : Int) : Prop := x = 1 ∨ x = -1
structure Inv (n : Nat) (sg qu : List Int) : Prop where
  len : sg.length = n
  small : ∀ x : Int, 0 ≤ x → x < n → rd sg x = 0 ∨ pm (rd sg x)
  queue : ∀ x ∈ qu, 0 ≤ x ∧ x < n ∧ pm (rd sg x)
theorem zC0 {l : List Int} {a b v : Int} (ha0 : 0 ≤ a) (ha1 : a < l.length) (hb : 0 ≤ b) : rd (l.set a.toNat v) b = if b = a then v else rd l b := by
  unfold rd
  by_cases e : b = a
  · subst e
    rw [if_pos rfl]
    have : b.toNat < l.length := by omega
    simp [List.getD_eq_getElem?_getD, this]
  · rw [if_neg e]
    have : a.toNat ≠ b.toNat := by omega
    simp [List.getD_eq_getElem?_getD, List.getElem?_set_ne this]
theorem zCn {l : List Int} {i : Int} (h0 : 0 ≤ i) (h1 : i < l.length) : rd l i ∈ l := by
  obtain ⟨n, rfl⟩ := Int.eq_ofNat_of_zero_le h0
  rw [rd_lt l n (by omega)]
  exact List.getElem_mem _
theorem Inv.set {n : Nat} {sg qu : List Int} (h : Inv n sg qu) {k v : Int} (h0 : 0 ≤ k) (h1 : k < n) (hv : pm v) : Inv n (sg.set k.toNat v) (qu ++ [k]) := by
  have hl := h.len
  refine ⟨by rw [List.length_set]; exact hl, fun x hx0 hx1 => ?_, fun x hx => ?_⟩
  · rw [zC0 h0 (by omega) hx0]
    split
    · exact .inr hv
    · exact h.small x hx0 hx1
  · rcases List.mem_append.1 hx with hx | hx
    · obtain ⟨a, b, c⟩ := h.queue x hx
      refine ⟨a, b, ?_⟩
      rw [zC0 h0 (by omega) a]
      split
      · exact hv
      · exact c
    · rw [List.mem_singleton.1 hx]
      refine ⟨h0, h1, ?_⟩
      rw [zC0 h0 (by omega) h0, if_pos rfl]
      exact hv
theorem zEo {s p : Int} (hs : pm s) (hp : pm p) : wrap64 (s * wrap64 (-p)) = wrap64 (wrap64 (-s) * p) ∧ pm (wrap64 (wrap64 (-s) * p)) := by
  rcases hs with rfl | rfl <;> rcases hp with rfl | rfl <;> decide +kernel
theorem zEH {n : Nat} {sg qu : List Int} (h : Inv n sg qu) (ok : Bool) {i k p : Int} (hi0 : 0 ≤ i) (hi1 : i < qu.length) (h0 : 0 ≤ k) (h1 : k < n) (hp : pm p) :
    ∃ (sg' qu' : List Int) (c : Bool), vis sg qu ok i k (wrap64 (-p)) = (sg', qu', ok && c) ∧ Inv n sg' qu' ∧ qu.length ≤ qu'.length ∧ rd qu' i = rd qu i ∧ zc sg' + qu'.length = zc sg + qu.length ∧
      (rd sg k = 0 → sg' = sg.set k.toNat (wrap64 (wrap64 (-(rd sg (rd qu i))) * p)) ∧ qu' = qu ++ [k] ∧ c = true) ∧
      (rd sg k ≠ 0 → sg' = sg ∧ qu' = qu ∧ (c = true ↔ rd sg k = wrap64 (wrap64 (-(rd sg (rd qu i))) * p))) := by
  obtain ⟨q0, q1, qs⟩ := h.queue _ (zCn hi0 hi1)
  obtain ⟨we, wp⟩ := zEo qs hp
  unfold vis
  rw [we]
  generalize wrap64 (wrap64 (-(rd sg (rd qu i))) * p) = want at wp ⊢
  have hl := h.len
  by_cases hz : rd sg k = 0
  · rw [if_pos hz]
    refine ⟨sg.set k.toNat want, qu ++ [k], true, by simp, h.set h0 h1 wp, by simp, zEQ qu k i hi0 hi1, ?_, fun _ => ⟨rfl, rfl, rfl⟩, fun hn => absurd hz hn⟩
    have := zDm sg k.toNat want (by omega) hz (by rcases wp with rfl | rfl <;> decide)
    simp; omega
  · rw [if_neg hz]
    have hs := (h.small k h0 h1).resolve_left hz
    by_cases hc : rd sg k = wrap64 (-want)
    · rw [if_pos hc]
      refine ⟨sg, qu, false, by simp, h, ypy _, rfl, rfl, fun hn => absurd hn hz, fun _ => ⟨rfl, rfl, ?_⟩⟩
      constructor
      · intro hf; cases hf
      · intro he
        rw [he] at hc
        rcases wp with rfl | rfl <;> revert hc <;> decide +kernel
    · rw [if_neg hc]
      refine ⟨sg, qu, true, by simp, h, ypy _, rfl, rfl, fun hn => absurd hn hz, fun _ => ⟨rfl, rfl, ?_⟩⟩
      refine ⟨fun _ => ?_, fun _ => rfl⟩
      rcases hs with e | e <;> rcases wp with rfl | rfl <;> rw [e] at hc ⊢ <;> first | rfl | (exact absurd rfl hc) | (revert hc; decide +kernel)
section
variable {t : Tri}
theorem zCo (h : Qh t = true) {a f : Int} (h0 : 0 ≤ a) (h1 : a < t.length) (hf0 : 0 ≤ f) (hf1 : f ≤ 3) (hb : ¬ (fc t a f).f0 < 0) : (0 ≤ (fc t a f).f0 ∧ (fc t a f).f0 < (t.length : Int)) ∧ (0 ≤ (fc t a f).f1 ∧ (fc t a f).f1 ≤ 23) := by
  rcases zBt h h0 h1 hf0 hf1 with ⟨e, _⟩ | ⟨e, _⟩
  · omega
  · exact ⟨⟨e.1, e.2.1⟩, e.2.2⟩
theorem zCN (h : Qh t = true) (a i : Int) (hi0 : 0 ≤ i) : ∀ (d f : Nat) (sg qu : List Int) (ok : Bool), f + d = 4 → Inv t.length sg qu → i < qu.length → zc sg + qu.length ≤ 100 →
    ∃ (sg' qu' : List Int) (c : Bool), Qq i ((zC t (rd qu i)).drop f) (sg, qu, ok) = (sg', qu', ok && c) ∧ Inv t.length sg' qu' ∧ qu.length ≤ qu'.length ∧ rd qu' i = rd qu i ∧ zc sg' + qu'.length = zc sg + qu.length ∧
      (c = true → ∀ R, Ev (fun k => zR.l1 k sg' a qu' (wrap64 (i + 1)) t) R → Ev (fun k => zR.l2 k sg a qu i (f : Int) t) R) ∧ (c = false → Ev (fun k => zR.l2 k sg a qu i (f : Int) t) ([], false))
  | 0, f, sg, qu, ok, hf, hI, hi1, hM => by
    obtain rfl : f = 4 := by omega
    obtain ⟨q0, q1, qs⟩ := hI.queue _ (zCn hi0 hi1)
    have hr := zDk h q0 q1
    refine ⟨sg, qu, true, by rw [List.drop_eq_nil_of_le (by omega)]; simp [Qq], hI, ypy _, rfl, rfl, fun _ R hR => ?_, fun hc => by cases hc⟩
    exact qk (fun k => by rw [zR.l2, if_neg (by omega)]) hR
  | d + 1, f, sg, qu, ok, hf, hI, hi1, hM => by
    obtain ⟨q0, q1, qs⟩ := hI.queue _ (zCn hi0 hi1)
    have hr := zDk h q0 q1
    have hl := hI.len
    have hlt : f < (zC t (rd qu i)).length := by omega
    have ex : (zC t (rd qu i))[f] = fc t (rd qu i) (f : Int) := (JY _ f hlt).symm
    rw [List.drop_eq_getElem_cons hlt, Qq, ex]
    have hstep : ∀ {R : List Int × Bool} {g : Nat → Option (List Int × Bool)}, (∀ k, zR.l2 (k + 1) sg a qu i (f : Int) t = g k) → Ev g R → Ev (fun k => zR.l2 k sg a qu i (f : Int) t) R := fun hg hR => qk hg hR
    have hw : wrap64 ((f : Int) + 1) = ((f + 1 : Nat) : Int) := ZV (by omega)
    by_cases hb : (fc t (rd qu i) (f : Int)).f0 < 0
    · rw [if_pos hb]
      obtain ⟨sg', qu', c, e1, e2, e3, e4, e5, e6, e7⟩ := zCN h a i hi0 d (f + 1) sg qu ok (by omega) hI hi1 hM
      have hs : ∀ k, zR.l2 (k + 1) sg a qu i (f : Int) t = zR.l2 k sg a qu i ((f + 1 : Nat) : Int) t := fun k => by
        rw [zR.l2, if_pos (by omega), if_pos hi0, if_pos (by omega), if_pos q0, if_pos q1, if_pos (by omega), if_pos (by omega), if_pos hb, hw]
      exact ⟨sg', qu', c, e1, e2, e3, e4, e5, fun hc R hR => hstep hs (e6 hc R hR), fun hc => hstep hs (e7 hc)⟩
    · rw [if_neg hb]
      obtain ⟨⟨g0, g1⟩, p0, p1⟩ := zCo h q0 q1 (by omega : (0 : Int) ≤ (f : Int)) (by omega) hb
      have hp := zEG p0 p1
      obtain ⟨sg1, qu1, c1, v1, v2, v3, v4, v5, v6, v7⟩ := zEH hI ok hi0 hi1 g0 g1 hp
      dsimp only
      rw [v1]
      have hqs := zBz p0 p1
      obtain ⟨sg', qu', c, e1, e2, e3, e4, e5, e6, e7⟩ := zCN h a i hi0 d (f + 1) sg1 qu1 (ok && c1) (by omega) v2 (by omega) (by omega)
      rw [v4] at e1
      have hs : ∀ {R : List Int × Bool} {g : Nat → Option (List Int × Bool)}, (∀ k, (if rd sg (fc t (rd qu i) (f : Int)).f0 = 0 then ((some (sg.set ((fc t (rd qu i) (f : Int)).f0 : Int).toNat (wrap64 ((wrap64 (-(rd sg (rd qu i)))) * zBd (fc t (rd qu i) (f : Int)).f1)) : List Int)).bind fun y119 => (if qu.length < 17592186044416 then (if (rd y119 ((fc t (rd qu i) (f : Int)).f0)) = (wrap64 ((wrap64 (-(rd sg (rd qu i)))) * zBd (fc t (rd qu i) (f : Int)).f1)) then (zR.l2 k y119 a (qu ++ [(fc t (rd qu i) (f : Int)).f0]) i (wrap64 ((f : Int) + 1)) t) else (some (([] : List Int), false))) else (none))) else (if (rd sg ((fc t (rd qu i) (f : Int)).f0)) = (wrap64 ((wrap64 (-(rd sg (rd qu i)))) * zBd (fc t (rd qu i) (f : Int)).f1)) then (zR.l2 k sg a qu i (wrap64 ((f : Int) + 1)) t) else (some (([] : List Int), false)))) = g k) → Ev g R → Ev (fun k => zR.l2 k sg a qu i (f : Int) t) R := by
        intro R g hg hR
        refine hstep (g := fun k => (zi.f k ((fc t (rd qu i) (f : Int)).f1)).bind fun t117 => _) (fun k => by rw [zR.l2, if_pos (by omega), if_pos hi0, if_pos (by omega), if_pos q0, if_pos q1, if_pos (by omega), if_pos (by omega), if_neg hb, if_pos (by rw [hl]; exact q1)]) ?_
        refine Ev.bind hqs ?_
        refine qn g0 (qn (by rw [hl]; exact g1) ?_)
        exact Ev.congr hg hR
      have hqlen : qu.length < 17592186044416 := by omega
      by_cases hz : rd sg (fc t (rd qu i) (f : Int)).f0 = 0
      · obtain ⟨a1, a2, a3⟩ := v6 hz
        subst a1 a2 a3
        refine ⟨sg', qu', c, by simpa using e1, e2, by omega, by rw [e4, v4], by omega, fun hc R hR => ?_, fun hc => ?_⟩
        · exact hs (fun k => by rw [if_pos hz, yfy, if_pos hqlen, if_pos (by rw [zC0 g0 (by rw [hl]; exact g1) g0, if_pos rfl]), hw]) (e6 hc R hR)
        · exact hs (fun k => by rw [if_pos hz, yfy, if_pos hqlen, if_pos (by rw [zC0 g0 (by rw [hl]; exact g1) g0, if_pos rfl]), hw]) (e7 hc)
      · obtain ⟨a1, a2, a3⟩ := v7 hz
        have b1 := a1.symm
        have b2 := a2.symm
        clear a1 a2
        subst b1 b2
        cases c1 with
        | true =>
          have he := a3.1 rfl
          refine ⟨sg', qu', c, by simpa using e1, e2, by omega, e4, by omega, fun hc R hR => ?_, fun hc => ?_⟩
          · exact hs (fun k => by rw [if_neg hz, if_pos he, hw]) (e6 hc R hR)
          · exact hs (fun k => by rw [if_neg hz, if_pos he, hw]) (e7 hc)
        | false =>
          have he : ¬ rd sg (fc t (rd qu i) (f : Int)).f0 = wrap64 ((wrap64 (-(rd sg (rd qu i)))) * zBd (fc t (rd qu i) (f : Int)).f1) := fun e => by have := a3.2 e; cases this
          refine ⟨sg', qu', false, by rw [e1]; simp, e2, by omega, e4, by omega, fun hc => (by cases hc), fun _ => ?_⟩
          exact hs (fun k => by rw [if_neg hz, if_neg he]) (Ev.now _)
theorem zC1 (h : Qh t = true) (a : Int) : ∀ (m : Nat) (sg qu : List Int) (ok : Bool) (i : Int), Inv t.length sg qu → 0 ≤ i → zc sg + qu.length ≤ 100 → (zc sg + qu.length : Int) - i < m →
    ∃ (sg' : List Int) (c : Bool), Ev (fun k => inQ t k i (sg, qu, ok)) (sg', ok && c) ∧ Inv t.length sg' [] ∧
      (c = true → ∀ R, Ev (fun k => zR.l0 k sg' (wrap64 (a + 1)) t) R → Ev (fun k => zR.l1 k sg a qu i t) R) ∧ (c = false → Ev (fun k => zR.l1 k sg a qu i t) ([], false))
  | 0, sg, qu, ok, i, hI, hi0, hM, hm => by
    refine ⟨sg, true, ?_, ⟨hI.len, hI.small, fun x hx => by cases hx⟩, fun _ R hR => ?_, fun hc => by cases hc⟩
    · exact qk (g := fun k => inQ t k i (sg, qu, ok)) (f := fun _ => some (sg, ok && true)) (fun k => by rw [inQ, if_neg (by dsimp only; omega), Bool.and_true]) (Ev.now _)
    · exact qk (fun k => by rw [zR.l1, if_neg (by omega)]) hR
  | m + 1, sg, qu, ok, i, hI, hi0, hM, hm => by
    by_cases hi1 : i < (qu.length : Int)
    · obtain ⟨q0, q1, qs⟩ := hI.queue _ (zCn hi0 hi1)
      have hr := zDk h q0 q1
      obtain ⟨sg1, qu1, c1, r1, r2, r3, r4, r5, r6, r7⟩ := zCN h a i hi0 4 0 sg qu ok (by omega) hI hi1 hM
      rw [List.drop_zero] at r1
      obtain ⟨sg', c, e1, e2, e3, e4⟩ := zC1 h a m sg1 qu1 (ok && c1) (i + 1) r2 (by omega) (by omega) (by omega)
      have hw : wrap64 (i + 1) = i + 1 := Zy (by omega) (by omega)
      rw [hw] at r6
      have hok : zEh t (rd qu i) qu.length := by
        refine ⟨⟨q0, q1⟩, by omega, fun y hy hb => ?_, by omega⟩
        obtain ⟨f, hf, rfl⟩ := List.mem_iff_getElem.1 hy
        have ex : (zC t (rd qu i))[f] = fc t (rd qu i) (f : Int) := (JY _ f hf).symm
        rw [ex] at hb ⊢
        obtain ⟨⟨x1, x2⟩, x3, x4⟩ := zCo h q0 q1 (by omega : (0 : Int) ≤ (f : Int)) (by omega) hb
        exact ⟨x1, x2, x3, x4⟩
      have hs : ∀ {R : List Int × Bool}, Ev (fun k => zR.l2 k sg a qu i 0 t) R → Ev (fun k => zR.l1 k sg a qu i t) R := fun hR => qk (fun k => by rw [zR.l1, if_pos hi1]) hR
      refine ⟨sg', c1 && c, ?_, e2, fun hc R hR => ?_, fun hc => ?_⟩
      · rw [← Bool.and_assoc]
        refine qk (g := fun k => inQ t k i (sg, qu, ok)) (fun k => ?_) e1
        rw [inQ]
        dsimp only
        rw [if_pos hi1, if_pos hok, r1]
      · rw [Bool.and_eq_true] at hc
        exact hs (r6 hc.1 R (e3 hc.2 R hR))
      · cases c1 with
        | false => exact hs (r7 rfl)
        | true => exact hs (r6 rfl _ (e4 (by simpa using hc)))
    · refine ⟨sg, true, ?_, ⟨hI.len, hI.small, fun x hx => by cases hx⟩, fun _ R hR => ?_, fun hc => by cases hc⟩
      · exact qk (g := fun k => inQ t k i (sg, qu, ok)) (f := fun _ => some (sg, ok && true)) (fun k => by rw [inQ, if_neg (by dsimp only; omega), Bool.and_true]) (Ev.now _)
      · exact qk (fun k => by rw [zR.l1, if_neg hi1]) hR
theorem zCO (h : Qh t = true) : ∀ (d : Nat) (a : Int) (sg : List Int) (ok : Bool), Inv t.length sg [] → 0 ≤ a → a + d = t.length →
    ∃ (sg' : List Int) (c : Bool), Ev (fun k => zDq t k d a sg ok) (sg', ok && c) ∧ Inv t.length sg' [] ∧ (c = true → Ev (fun k => zR.l0 k sg a t) (sg', true)) ∧ (c = false → Ev (fun k => zR.l0 k sg a t) ([], false))
  | 0, a, sg, ok, hI, ha, hd => by
    refine ⟨sg, true, ?_, hI, fun _ => ?_, fun hc => by cases hc⟩
    · exact zAh fun k => by rw [zDq, Bool.and_true]
    · exact qk (f := fun _ => some (sg, true)) (fun k => by rw [zR.l0, qF.f, yfy, if_neg (by omega)]) (Ev.now _)
  | d + 1, a, sg, ok, hI, ha, hd => by
    have h8 := (Zc h).1
    have hl := hI.len
    have hw : wrap64 (a + 1) = a + 1 := Zy (by omega) (by omega)
    have hs : ∀ {R : List Int × Bool} {g : Nat → Option (List Int × Bool)}, (∀ k, (if (rd sg a) = 0 then (zR.l1 k (sg.set (a : Int).toNat 1) a (([a] : List Int)) 0 t) else (zR.l0 k sg (wrap64 (a + 1)) t)) = g k) → Ev g R → Ev (fun k => zR.l0 k sg a t) R := fun hg hR =>
      qk (fun k => by rw [zR.l0, qF.f, yfy, if_pos (by omega), if_pos ha, if_pos (by omega)]; exact hg k) hR
    by_cases hz : rd sg a = 0
    · have hI1 : Inv t.length (sg.set a.toNat 1) [a] := by simpa using hI.set (k := a) (v := 1) ha (by omega) (.inl rfl)
      have hzc := zDm sg a.toNat 1 (by omega) hz (by decide)
      have hzl := zc_le sg
      obtain ⟨sg1, c1, e1, e2, e3, e4⟩ := zC1 h a 200 (sg.set a.toNat 1) [a] ok 0 hI1 (by omega) (by simp; omega) (by simp; omega)
      obtain ⟨sg', c, f1, f2, f3, f4⟩ := zCO h d (a + 1) sg1 (ok && c1) e2 (by omega) (by omega)
      rw [hw] at e3
      refine ⟨sg', c1 && c, ?_, f2, fun hc => ?_, fun hc => ?_⟩
      · rw [← Bool.and_assoc]
        refine Ev.congr (fun k => by rw [zDq, if_pos hz]) (Ev.bind e1 ?_)
        exact f1
      · rw [Bool.and_eq_true] at hc
        exact hs (fun k => if_pos hz) (e3 hc.1 _ (f3 hc.2))
      · cases c1 with
        | false => exact hs (fun k => if_pos hz) (e4 rfl)
        | true => exact hs (fun k => if_pos hz) (e3 rfl _ (f4 (by simpa using hc)))
    · obtain ⟨sg', c, f1, f2, f3, f4⟩ := zCO h d (a + 1) sg ok hI (by omega) (by omega)
      refine ⟨sg', c, Ev.congr (fun k => by rw [zDq, if_neg hz]) f1, f2, fun hc => ?_, fun hc => ?_⟩
      · exact hs (fun k => by rw [if_neg hz, hw]) (f3 hc)
      · exact hs (fun k => by rw [if_neg hz, hw]) (f4 hc)
theorem zD7 (h : Qh t = true) : ∃ (sg : List Int) (c : Bool), Ev (fun k => zx.f k t) (sg, c) ∧ Inv t.length sg [] ∧ (c = true → Ev (fun k => zR.f k t) (sg, true)) ∧ (c = false → Ev (fun k => zR.f k t) ([], false)) := by
  have h8 := (Zc h).1
  have hrep : ∀ x : Int, rd (List.replicate t.length 0) x = 0 := fun x => by
    unfold rd
    by_cases hx : x.toNat < t.length
    · simp [List.getD_eq_getElem?_getD, hx]
    · simp [List.getD_eq_getElem?_getD, hx]
  have hI : Inv t.length (List.replicate t.length 0) [] := ⟨List.length_replicate, fun x _ _ => .inl (hrep x), fun x hx => by cases hx⟩
  obtain ⟨sg, c, e1, e2, e3, e4⟩ := zCO h t.length 0 (List.replicate t.length 0) true hI (by omega) (by omega)
  rw [Bool.true_and] at e1
  have hf : ∀ k, zR.f k t = zR.l0 k (List.replicate t.length 0) 0 t := fun k => by
    unfold zR.f
    rw [if_pos (by omega), if_pos (by omega), yny]
  refine ⟨sg, c, Ev.congr (fun k => ?_) e1, e2, fun hc => Ev.congr hf (e3 hc), fun hc => Ev.congr hf (e4 hc)⟩
  unfold zx.f zCw
  rw [if_pos (by omega)]
end
theorem zAj {t : Tri} (hs : Small t) : ∃ r : Tri × Int, Small r.1 ∧ Ev (fun k => Za.f k t) r ∧ Ev (fun k => ZD.f k t) r := by
  have hsmN : Small ([] : Tri) := ⟨by simp, fun r hr => by cases hr⟩
  have h1 := zBa t
  have h2 := zBZ hs
  cases h : Qh t with
  | false =>
    rw [h] at h1 h2
    exact ⟨([], 1), hsmN, Ev.bind (Ev.bind h1 (Zb (by simp) (Ev.now ([], 1)))) (Zb (by decide) (Ev.now _)), Ev.bind (Ev.bind h2 (Zb (by simp) (Ev.now ([], 1)))) (Zb (by decide) (Ev.now _))⟩
  | true =>
    rw [h] at h1 h2
    obtain ⟨sg, c, e1, e2, e3, e4⟩ := zD7 h
    have h8 := (Zc h).1
    cases c with
    | true =>
      refine ⟨(exT t (zD9 sg), 0), zDl h _, ?_, ?_⟩
      · refine Ev.bind (Ev.bind h1 (qn rfl (Ev.bind (e3 rfl) (qn rfl (Ev.now (sg, 0)))))) (qn rfl (Ev.bind (zBx h sg e2.len (fun i hi => ?_)) (Ev.now _)))
        rcases e2.small (i : Int) (by omega) (by omega) with e | e | e
        · exact .inl e
        · exact .inr (.inl e)
        · exact .inr (.inr e)
      · refine Ev.bind (Ev.bind h2 (qn rfl (Ev.bind e1 (qn rfl (Ev.now (sg, 0)))))) (qn rfl ?_)
        have := zBy h (zD9 sg)
        exact qn ⟨by omega, e2.len⟩ (Ev.congr (fun k => (if_pos (by omega)).symm) this)
    | false => exact ⟨([], 5), hsmN, Ev.bind (Ev.bind h1 (qn rfl (Ev.bind (e4 rfl) (Zb (by simp) (Ev.now ([], 5)))))) (Zb (by decide) (Ev.now _)), Ev.bind (Ev.bind h2 (qn rfl (Ev.bind e1 (Zb (by simp) (Ev.now ([], 5)))))) (Zb (by decide) (Ev.now _))⟩
def mkR (a : Int) : Nat → List zh
  | 0 => []
  | n + 1 => ⟨a, a + 1⟩ :: mkR (a + 2) n
theorem JA (a : Int) (n : Nat) : (mkR a n).length = n := by
  induction n generalizing a with
  | zero => rfl
  | succ n ih => simp [mkR, ih]
theorem zEp (a : Int) (n i : Nat) (z : zh) (h : i < n) : (mkR a n).getD i z = ⟨a + 2 * i, a + 2 * i + 1⟩ := by
  induction n generalizing a i with
  | zero => omega
  | succ n ih =>
    cases i with
    | zero => simp [mkR]
    | succ i => simp only [mkR, List.getD_cons_succ]; rw [ih (a + 2) i (by omega)]; congr 1 <;> omega
theorem zEI (a : Int) (n : Nat) : mkR a (n + 1) = mkR a n ++ [⟨a + 2 * n, a + 2 * n + 1⟩] := by
  induction n generalizing a with
  | zero => simp [mkR]
  | succ n ih =>
    rw [mkR, ih (a + 2)]
    have e : a + 2 + 2 * (n : Int) = a + 2 * ((n + 1 : Nat) : Int) := by omega
    rw [e]; rfl
theorem mk_set (l : List zh) (a : Int) (n : Nat) (h : n < l.length) : (mkR a n ++ l.drop n).set n ⟨a + 2 * n, a + 2 * n + 1⟩ = mkR a (n + 1) ++ l.drop (n + 1) := by
  rw [List.set_append_right _ _ (by rw [JA]; exact ypy _), JA, Nat.sub_self, List.drop_eq_getElem_cons h, yby, zEI, List.append_assoc]
  rfl
theorem zCP (l : List zh) (n : Nat) (v : zh) (h : n < l.length) : zF (l.set n v) (n : Int) = v := by
  rw [JY _ n (by rw [List.length_set]; exact h), List.getElem_set_self]
theorem zC2 (l : List zh) (a : Int) (h : l.length ≤ 1099511627776) (h0 : 0 ≤ a) (h1 : a ≤ 4398046511104) : Ev (fun k => qS.f k l a) (a + 2 * l.length, mkR a l.length) := by
  have hl : Ev (fun k => qS.l0 k l a 0) (a + 2 * l.length, mkR a l.length) := by
    refine Jv (fun k (s : List zh × Int × Int) => qS.l0 k s.1 s.2.1 s.2.2) (fun s => ∃ n : Nat, n ≤ l.length ∧ s.2.2 = n ∧ s.2.1 = a + 2 * n ∧ s.1 = mkR a n ++ l.drop n) (fun s => l.length - s.2.2.toNat) (fun _ => (a + 2 * l.length, mkR a l.length)) ?_ (l, a, 0) ⟨0, by omega, rfl, by simp, by simp [mkR]⟩
    rintro ⟨x, b, i⟩ ⟨n, hn, rfl, rfl, rfl⟩
    dsimp only
    have hlen : (mkR a n ++ l.drop n).length = l.length := by simp [JA]; omega
    by_cases hlt : n < l.length
    · refine .inr ⟨(mkR a (n + 1) ++ l.drop (n + 1), a + 2 * ((n + 1 : Nat) : Int), ((n + 1 : Nat) : Int)), ⟨n + 1, by omega, rfl, rfl, rfl⟩, by simp; omega, rfl, fun k => ?_⟩
      simp only [qS.l0]
      rw [if_pos (by rw [hlen]; omega), if_pos (by omega), yfy, yny, zCP _ n _ (by rw [hlen]; exact hlt), List.set_set, Zy (x := a + 2 * (n : Int) + 1) (by omega) (by omega), mk_set l a n hlt, ZV (by omega), Zy (by omega) (by omega)]
      congr 1; omega
    · obtain rfl : n = l.length := by omega
      refine .inl fun k => ?_
      simp only [qS.l0]
      rw [if_neg (by rw [hlen]; omega)]
      simp
  exact hl
def zBA : Tri → Nat
  | [] => 0
  | r :: rs => 2 * r.length + zBA rs
def mkT (a : Int) : Tri → Tri
  | [] => []
  | r :: rs => mkR a r.length :: mkT (a + 2 * r.length) rs
theorem zDn (t : Tri) (h : ∀ r ∈ t, r.length ≤ 1048576) : zBA t ≤ 2097152 * t.length := by
  induction t with
  | nil => simp [zBA]
  | cons r rs ih =>
    have h1 := h r (List.mem_cons_self ..)
    have h2 := ih (fun x hx => h x (List.mem_cons_of_mem _ hx))
    simp only [zBA, List.length_cons]; omega
theorem zC3 : ∀ (suf : Tri) (pre : Tri) (a : Int), (∀ r ∈ suf, r.length ≤ 1048576) → 0 ≤ a → a + zBA suf ≤ 4398046511104 → Ev (fun k => ql.go k suf.length (pre ++ suf) a pre.length) (a + zBA suf, pre ++ mkT a suf)
  | [], pre, a, _, h0, h1 => zAh fun k => by simp [ql.go, zBA, mkT]
  | r :: rs, pre, a, hr, h0, h1 => by
    simp only [zBA] at h1
    have hm := zC2 r a (by have := hr r (List.mem_cons_self ..); omega) h0 (by omega)
    have ih := zC3 rs (pre ++ [mkR a r.length]) (a + 2 * r.length) (fun x hx => hr x (List.mem_cons_of_mem _ hx)) (by omega) (by omega)
    simp only [List.length_cons, ql.go]
    have e0 : List.getD (pre ++ r :: rs) pre.length [] = r := by simp
    rw [e0]
    refine Ev.bind hm ?_
    dsimp only
    have e1 : (pre ++ r :: rs).set pre.length (mkR a r.length) = pre ++ [mkR a r.length] ++ rs := by
      rw [List.set_append_right _ _ (ypy _), Nat.sub_self, yby]; simp
    rw [e1]
    have e2 : pre.length + 1 = (pre ++ [mkR a r.length]).length := by simp
    rw [e2]
    have e3 : (a + ((zBA (r :: rs) : Nat) : Int), pre ++ mkT a (r :: rs)) = (a + 2 * r.length + (zBA rs : Int), pre ++ [mkR a r.length] ++ mkT (a + 2 * r.length) rs) := by
      simp only [zBA, mkT, List.append_assoc, List.singleton_append]; congr 1; omega
    rw [e3]
    exact ih
theorem Qb (t : Tri) (a : Int) (hs : Small t) (h0 : 0 ≤ a) (h1 : a ≤ 1048576) : Ev (fun k => qp.f k t a) (a + zBA t, mkT a t) := by
  have := zC3 t [] a hs.2 h0 (by have := zDn t hs.2; have := hs.1; omega)
  rw [List.nil_append, List.nil_append] at this
  exact this
theorem zC4 (a : Int) (m : Nat) (h : m ≤ 1099511627776) (h0 : 0 ≤ a) (h1 : a ≤ 4398046511104) : Ev (fun k => qX.f k (mkR a m) a) (a + 2 * m) := by
  have hl : Ev (fun k => qX.l0 k (mkR a m) a 0) (a + 2 * m) := by
    refine Jv (fun k (s : Int × Int) => qX.l0 k (mkR a m) s.1 s.2) (fun s => ∃ n : Nat, n ≤ m ∧ s.2 = n ∧ s.1 = a + 2 * n) (fun s => m - s.2.toNat) (fun _ => a + 2 * m) ?_ (a, 0) ⟨0, by omega, rfl, by simp⟩
    rintro ⟨b, i⟩ ⟨n, hn, rfl, rfl⟩
    dsimp only
    by_cases hlt : n < m
    · refine .inr ⟨(a + 2 * ((n + 1 : Nat) : Int), ((n + 1 : Nat) : Int)), ⟨n + 1, by omega, rfl, rfl⟩, by simp; omega, rfl, fun k => ?_⟩
      have e : zF (mkR a m) (n : Int) = ⟨a + 2 * n, a + 2 * n + 1⟩ := by unfold zF; rw [yny, zEp a m n _ hlt]
      simp only [qX.l0]
      rw [if_pos (by rw [JA]; omega), if_pos (by omega), e, if_pos rfl, Zy (x := a + 2 * (n : Int) + 1) (by omega) (by omega), if_pos rfl, ZV (by omega), Zy (by omega) (by omega)]
      congr 1; omega
    · obtain rfl : n = m := by omega
      refine .inl fun k => ?_
      simp only [qX.l0]
      rw [if_neg (by rw [JA]; omega)]
  exact hl
theorem zC5 : ∀ (suf : Tri) (pre : Tri) (a : Int), (∀ r ∈ suf, r.length ≤ 1048576) → pre.length + suf.length ≤ 1048576 → 0 ≤ a → a + zBA suf ≤ 4398046511104 → Ev (fun k => qL.l0 k (pre ++ mkT a suf) a (pre.length : Int)) (a + zBA suf)
  | [], pre, a, _, hn, h0, h1 => by
    refine qk (f := fun _ => some a) (fun k => ?_) (zBW (by simp [zBA]))
    rw [qL.l0, if_neg (by simp [mkT])]
  | r :: rs, pre, a, hr, hn, h0, h1 => by
    simp only [zBA, List.length_cons] at h1 hn
    have hm := zC4 a r.length (by have := hr r (List.mem_cons_self ..); omega) h0 (by omega)
    have ih := zC5 rs (pre ++ [mkR a r.length]) (a + 2 * r.length) (fun x hx => hr x (List.mem_cons_of_mem _ hx)) (by simp; omega) (by omega) (by omega)
    have e1 : pre ++ mkT a (r :: rs) = pre ++ [mkR a r.length] ++ mkT (a + 2 * r.length) rs := by simp [mkT]
    have e4 : zC (pre ++ mkT a (r :: rs)) (pre.length : Int) = mkR a r.length := by
      rw [QR _ _ (by simp [mkT])]; simp [mkT]
    refine qk (fun k => by rw [qL.l0, if_pos (by simp [mkT]; omega), if_pos (by omega), e4]) (Ev.bind hm ?_)
    refine Zb (by omega) ?_
    have e2 : wrap64 ((pre.length : Int) + 1) = ((pre ++ [mkR a r.length]).length : Int) := by rw [ZV (by omega)]; simp
    have e3 : (a + ((zBA (r :: rs) : Nat) : Int)) = a + 2 * r.length + (zBA rs : Int) := by simp only [zBA]; omega
    rw [e1, e3]
    exact Ev.congr (fun k => by rw [e2]) ih
theorem JZ (t : Tri) (a : Int) (hs : Small t) (h0 : 0 ≤ a) (h1 : a ≤ 1048576) : Ev (fun k => qo.f k (mkT a t) a) (a + zBA t) := by
  have := zC5 t [] a hs.2 (by have := hs.1; simp; omega) h0 (by have := zDn t hs.2; have := hs.1; omega)
  rw [List.nil_append] at this
  refine Ev.bind (g := fun k => qL.f k (mkT a t) a) this ?_
  exact Zb (by omega) (Ev.now _)
end Go.Proofs.Ytdgdnnjigigkcaa.P
