/- The statement FnExactDiscsOfSaid, proved: part 4 of 8 (texts of this session and of the kit's print, put together and cut to what is used by a program of it). -/
import Derived.Test.YtfnopcbicceeaaaMFnExactDiscsOf3
namespace Go.Proofs.Ytfnopcbicceeaaa.P
open Go.RowKit Go.Proofs.YtfnopcbicceeaaaW.PrintWords Go.Proofs.YtfnopcbicceeaaaW.PrintLast Go.Proofs.YtfnopcbicceeaaaW.PrintMore
attribute [local go_sem] Qd Qe JC JD QH QI Qf Qg
set_option linter.unusedVariables false
set_option linter.unusedSimpArgs false
def zy.l0 : Nat → List (List (zq)) → List (List (zq)) → Int → Option (Bool)
 | 0, _, _, _ => none
 | k + 1, x0, x1, x5 => if x5 < (x0.length : Int) then (if 0 ≤ x5 then (if x5 < (x1.length : Int) then ((qG.f k (zE x0 x5) (zE x1 x5)).bind fun t103 => (if t103 = true then (zy.l0 k x0 x1 (wrap64 (x5 + 1))) else (some false))) else (none)) else (none)) else (some true)
def zy.f (k : Nat) (l0 : List (List (zq))) (l1 : List (List (zq))) : Option (Bool) := if (l0.length : Int) = (l1.length : Int) then (zy.l0 k l0 l1 0) else (some false)
def zy.T6 : Bool × List (List Nat × List Nat) := (true, [([], []), ([], []), ([0, 1], [0, 1]), ([2], [2]), ([], []), ([], []), ([4, 5], [4, 5]), ([6], [6]), ([3, 7], [3, 7]), ([8], [8])])
def zy.B6 : List Nat := [0, 0, 3, 7, 0, 0, 48, 112, 255, 511]
theorem zy.zG3 : zAV .any (opsOf Try.f47 6) = zy.T6 := by kernel_rfl
theorem zy.zCy : Qp zy.T6.2 zy.B6 = true := by kernel_rfl
set_option maxHeartbeats 8000000 in
set_option maxRecDepth 100000 in
theorem zy.calls (k : Nat) (A0 : Option Addr) (c0 : Nat) (l0 : List (List (zq))) (A1 : Option Addr) (c1 : Nat) (l1 : List (List (zq))) (r : Bool) (w : World) (hr0 : Kd.C (Kd.slice 59 qx) w A0 l0.length l0) (hc0 : l0.length ≤ c0) (hr1 : Kd.C (Kd.slice 59 qx) w A1 l1.length l1) (hc1 : l1.length ≤ c1) (h : zy.f k l0 l1 = some r) :
 Calls Try.prog 47 #[.slice A0 l0.length c0, .slice A1 l1.length c1] w fun e w' => e = .returned (.bool r) ∧ Below w.heap.size w w' := by
 have HR0 := zA.mk hr0
 have HC0 := zA.mk hc0
 clear hr0 hc0
 have HR1 := zA.mk hr1
 have HC1 := zA.mk hc1
 clear hr1 hc1
 have HB := zA.mk (yry w.heap.size w)
 have H : (if (l0.length : Int) = (l1.length : Int) then (zy.l0 k l0 l1 0) else (some false)) = some r := h
 clear h
 by_cases c3 : (l0.length : Int) = (l1.length : Int)
 rotate_left
 next =>
  rw [if_neg c3] at H
  have c3b0 : ((l0.length : Int) == (l1.length : Int)) = false := beq_eq_false_iff_ne.mpr c3
  have c3b1 : ((l0.length : Int) != (l1.length : Int)) = true := bne_iff_ne.mpr c3
  have c3b2 : (l0.length == l1.length) = false := by first | simpa using c3 | (simp at c3 ⊢; omega)
  obtain rfl := yey H
  go_enter Try.func47, Try.ntmps47
  go_wp2
  go_ret
  exact ⟨by first | rfl | (simp [zQ, zR] <;> rfl) | (simp [*, zQ, zR] <;> rfl), by repeat (first | (with_reducible first | exact HB.out | apply zC | apply zB | apply zD) | exact HB.out)⟩
 rw [if_pos c3] at H
 have c3b0 : ((l0.length : Int) == (l1.length : Int)) = true := beq_iff_eq.mpr c3
 have c3b1 : ((l0.length : Int) != (l1.length : Int)) = false := bne_eq_false_iff_eq.mpr c3
 have c3b2 : (l0.length == l1.length) = true := by first | simpa using c3 | (simp at c3 ⊢; omega)
 clear c3
 have H' := zA.mk H
 clear H
 go_enter Try.func47, Try.ntmps47
 go_wp2
 go_loopg [5] k (fun kq v5 w' => ∃ (x5_1 : Int), v5 = .int .i64 x5_1 ∧ zA (zy.l0 kq l0 l1 x5_1 = some r) ∧ zA (kq ≤ k) ∧ zA (Below w.heap.size w w'))
 case atStart => exact ⟨(0), (by first | rfl | (simp; done) | (simp [*]; done)), H', ⟨yqy _⟩, ⟨by repeat (first | (with_reducible first | exact HB.out | apply zC | apply zB | apply zD) | exact HB.out)⟩⟩
 case round =>
  clear H'
  try clear c1
  try clear p2
  try clear c3
  try clear c3b0
  try clear c3b1
  try clear c3b2
  obtain ⟨x5_1, rfl, HA, HK1, HB⟩ := hrel
  cases gk with
  | zero => exact absurd HA.out (by simp [zy.l0])
  | succ k1 =>
   have H := HA.out
   clear HA
   simp only [zy.l0] at H
   by_cases c4 : x5_1 < (l0.length : Int)
   rotate_left
   next =>
    rw [if_neg c4] at H
    have c4b0 : decide (x5_1 < (l0.length : Int)) = false := yhy c4
    clear c4
    obtain rfl := yey H
    go_wp2
    go_ret
    exact ⟨by first | rfl | (simp [zQ, zR] <;> rfl) | (simp [*, zQ, zR] <;> rfl), by repeat (first | (with_reducible first | exact HB.out | apply zC | apply zB | apply zD) | exact HB.out)⟩
   rw [if_pos c4] at H
   have c4b0 : decide (x5_1 < (l0.length : Int)) = true := ygy c4
   clear c4
   by_cases c5 : 0 ≤ x5_1
   rotate_left
   next =>
    rw [if_neg c5] at H
    exact absurd H (by simp)
   rw [if_pos c5] at H
   have c5b0 : decide (0 ≤ x5_1) = true := ygy c5
   clear c5
   by_cases c6 : x5_1 < (l1.length : Int)
   rotate_left
   next =>
    rw [if_neg c6] at H
    exact absurd H (by simp)
   rw [if_pos c6] at H
   have c6b0 : decide (x5_1 < (l1.length : Int)) = true := ygy c6
   clear c6
   replace H := ydy.mp H
   obtain ⟨t103, A70, H⟩ := H
   replace H : (if t103 = true then (zy.l0 k1 l0 l1 (wrap64 (x5_1 + 1))) else (some false)) = some r := H
   have A7 := zA.mk A70
   clear A70
   by_cases c8 : t103 = true
   rotate_left
   next =>
    replace c8 := Bool.eq_false_iff.mpr c8
    subst c8
    have H1 : (some false) = some r := by rw [if_neg (show ¬ (false = true) by decide)] at H; exact H
    clear H
    have H := H1
    clear H1
    obtain rfl := yey H
    try go_wp2
    have n0_ := zA.mk (zD HB.out)
    clear HB
    have HB := n0_
    clear n0_
    have p101 : 0 ≤ (x5_1 : Int) := of_decide_eq_true (by first | (with_reducible assumption) | assumption)
    have q101 : x5_1 < (l0.length : Int) := of_decide_eq_true (by first | (with_reducible assumption) | assumption)
    obtain ⟨ad101, A101_0, c101_0, e101, hx101_0, hl101_0, hi101_0⟩ := ZR HR0.out x5_1 p101 q101
    have hw101_0 := hx101_0
    cases e101
    replace hx101_0 := (HB.out.cell (ypy w _ hx101_0)).trans hx101_0
    have HR101_0 := zA.mk hi101_0
    have HC101_0 := zA.mk hl101_0
    clear hi101_0 hl101_0
    replace p101 := eq_true p101
    replace q101 := eq_true q101
    have p102 : 0 ≤ (x5_1 : Int) := of_decide_eq_true (by first | (with_reducible assumption) | assumption)
    have q102 : x5_1 < (l1.length : Int) := of_decide_eq_true (by first | (with_reducible assumption) | assumption)
    obtain ⟨ad102, A102_0, c102_0, e102, hx102_0, hl102_0, hi102_0⟩ := ZR HR1.out x5_1 p102 q102
    have hw102_0 := hx102_0
    cases e102
    replace hx102_0 := (HB.out.cell (ypy w _ hx102_0)).trans hx102_0
    have HR102_0 := zA.mk hi102_0
    have HC102_0 := zA.mk hl102_0
    clear hi102_0 hl102_0
    replace p102 := eq_true p102
    replace q102 := eq_true q102
    refine QG (n := 10) (S := fun w' => w'.cell? (ad101.add (x5_1).toNat) = some (.slice A101_0 (zE l0 x5_1).length c101_0) ∧ w'.cell? (ad102.add (x5_1).toNat) = some (.slice A102_0 (zE l1 x5_1).length c102_0)) (ds := []) #[false, false, false, false, false, false, false, false, false, false] (by kernel_rfl) rfl rfl ⟨((HB.out.cell (ypy w _ hw101_0)).trans hw101_0), ((HB.out.cell (ypy w _ hw102_0)).trans hw102_0)⟩ (fun hHeld => ?_); refine Zi zy.zG3 zy.zCy (fun HT_ HW_ => ?_)
    generalize wr.drew = w11 at HB HR101_0 HR102_0 hx101_0 hx102_0 hHeld ⊢
    refine zo (i := 0) (N := some 17) (v := ?_) (a' := ?_) #[true, false, false, false, false, false, false, false, false, false] rfl rfl (zl HT_.out (by kernel_rfl)) (fun _ _ _ h => h) (Or.inl ⟨by rfl, ?_⟩) ?_ ?_
    rotate_left
    next =>
     intro w'
     go_simp
     with_reducible rfl
    rotate_left
    next =>
     simp only [Act.put, yay, yby, ycy, zW, zX]
     rfl
    refine zo (i := 1) (N := some 18) (v := ?_) (a' := ?_) #[true, true, false, false, false, false, false, false, false, false] rfl rfl (zl HT_.out (by kernel_rfl)) (fun _ _ _ h => h) (Or.inl ⟨by rfl, ?_⟩) ?_ ?_
    rotate_left
    next =>
     intro w'
     go_simp
     with_reducible rfl
    rotate_left
    next =>
     simp only [Act.put, yay, yby, ycy, zW, zX]
     rfl
    refine zo (i := 2) (N := some 19) (v := ?_) (a' := ?_) #[true, true, true, false, false, false, false, false, false, false] rfl rfl (zl HT_.out (by kernel_rfl)) (fun _ _ _ h => h) (Or.inl ⟨by rfl, ?_⟩) ?_ ?_
    rotate_left
    next =>
     intro w'
     go_simp
     with_reducible rfl
    rotate_left
    next =>
     simp only [Act.put, yay, yby, ycy, zW, zX]
     rfl
    refine zo (i := 4) (N := some 21) (v := ?_) (a' := ?_) #[true, true, true, false, true, false, false, false, false, false] rfl rfl (zl HT_.out (by kernel_rfl)) (fun _ _ _ h => h) (Or.inl ⟨by rfl, ?_⟩) ?_ ?_
    rotate_left
    next =>
     intro w'
     go_simp
     with_reducible rfl
    rotate_left
    next =>
     simp only [Act.put, yay, yby, ycy, zW, zX]
     rfl
    refine zo (i := 5) (N := some 22) (v := ?_) (a' := ?_) #[true, true, true, false, true, true, false, false, false, false] rfl rfl (zl HT_.out (by kernel_rfl)) (fun _ _ _ h => h) (Or.inl ⟨by rfl, ?_⟩) ?_ ?_
    rotate_left
    next =>
     intro w'
     go_simp
     with_reducible rfl
    rotate_left
    next =>
     simp only [Act.put, yay, yby, ycy, zW, zX]
     rfl
    refine zo (i := 6) (N := some 23) (v := ?_) (a' := ?_) #[true, true, true, false, true, true, true, false, false, false] rfl rfl (zl HT_.out (by kernel_rfl)) (fun _ _ _ h => h) (Or.inl ⟨by rfl, ?_⟩) ?_ ?_
    rotate_left
    next =>
     intro w'
     go_simp
     with_reducible rfl
    rotate_left
    next =>
     simp only [Act.put, yay, yby, ycy, zW, zX]
     rfl
    refine ZV (i := 3) (N := some 20) (v := ?_) (a' := ?_) #[true, true, true, true, true, true, true, false, false, false] rfl rfl (qm HT_.out HW_.out (by kernel_rfl)) (fun _ _ _ h => h) (Or.inl ⟨by rfl, ?_⟩) hHeld ?_ ?_
    rotate_left
    next =>
     rintro w' ⟨s0, s1⟩
     go_simp
     with_reducible rfl
    rotate_left
    next =>
     simp only [Act.put, yay, yby, ycy, zW, zX]
     rfl
    refine ZV (i := 7) (N := some 24) (v := ?_) (a' := ?_) #[true, true, true, true, true, true, true, true, false, false] rfl rfl (qm HT_.out HW_.out (by kernel_rfl)) (fun _ _ _ h => h) (Or.inl ⟨by rfl, ?_⟩) hHeld ?_ ?_
    rotate_left
    next =>
     rintro w' ⟨s0, s1⟩
     go_simp
     with_reducible rfl
    rotate_left
    next =>
     simp only [Act.put, yay, yby, ycy, zW, zX]
     rfl
    refine zAH (i := 8) (N := some 25) #[true, true, true, true, true, true, true, true, true, false] rfl rfl (QD HT_.out (by kernel_rfl)) (by decide) (fun K hK => ?_)
    refine Qz Try.func86 (by kernel_rfl) rfl #[.slice A101_0 (zE l0 x5_1).length c101_0, .slice A102_0 (zE l1 x5_1).length c102_0] (by rfl) rfl rfl (by (try simp only [yiy, yjy, yky]); first | done | rfl | (simp only [yly, ymy]; rfl)) ?_
    with_reducible refine (qG.calls k1 _ _ (zE l0 x5_1) _ _ (zE l1 x5_1) false _ ?side1 ?side2 ?side3 ?side4 A7.out).mono ?_
    (case side1 => repeat (first | exact (Kd.ze HR101_0.out HB.out) | (with_reducible refine Kd.zf ?_ _) | (with_reducible refine Kd.zg ?_ _) | (with_reducible refine Kd.zz ?_)))
    (case side2 => exact HC101_0.out)
    (case side3 => repeat (first | exact (Kd.ze HR102_0.out HB.out) | (with_reducible refine Kd.zf ?_ _) | (with_reducible refine Kd.zg ?_ _) | (with_reducible refine Kd.zz ?_)))
    (case side4 => exact HC102_0.out)
    rintro e w12 ⟨rfl, hb⟩
    refine ⟨_, rfl, ?_⟩
    have n0_ := zA.mk (zN (by repeat (first | (with_reducible first | exact HB.out | apply zC | apply zB | apply zD) | exact HB.out)) hb)
    clear HB
    have HB := n0_
    clear n0_
    (try clear hb)
    (try clear hb2)
    (try clear hk)
    (try clear hi)
    refine hK.out _ _ ⟨((HB.out.cell (ypy w _ hw101_0)).trans hw101_0), ((HB.out.cell (ypy w _ hw102_0)).trans hw102_0)⟩ (fun hHeld => ?_)
    clear hK K
    refine QN (a' := ?_) ?_ ?_
    rotate_left
    next =>
     show Act.put _ (some 25) _ = _
     simp only [Act.put, yay, yby, ycy, zW, zX]
     rfl
    refine zo (i := 9) (N := some 26) (v := ?_) (a' := ?_) #[true, true, true, true, true, true, true, true, true, true] rfl rfl (zl HT_.out (by kernel_rfl)) (fun _ _ _ h => h) (Or.inl ⟨by rfl, ?_⟩) ?_ ?_
    rotate_left
    next =>
     intro w'
     go_simp
     with_reducible rfl
    rotate_left
    next =>
     simp only [Act.put, yay, yby, ycy, zW, zX]
     rfl
    refine Qy (QP HT_.out (by kernel_rfl)) ?_
    try go_wp2
    go_ret
    exact ⟨by first | rfl | (simp [zQ, zR] <;> rfl) | (simp [*, zQ, zR] <;> rfl), by repeat (first | (with_reducible first | exact HB.out | apply zC | apply zB | apply zD) | exact HB.out)⟩
   subst c8
   have H1 : (zy.l0 k1 l0 l1 (wrap64 (x5_1 + 1))) = some r := by rw [if_pos rfl] at H; exact H
   clear H
   have H := H1
   clear H1
   have H' := zA.mk H
   clear H
   try go_wp2
   have n0_ := zA.mk (zD HB.out)
   clear HB
   have HB := n0_
   clear n0_
   have p101 : 0 ≤ (x5_1 : Int) := of_decide_eq_true (by first | (with_reducible assumption) | assumption)
   have q101 : x5_1 < (l0.length : Int) := of_decide_eq_true (by first | (with_reducible assumption) | assumption)
   obtain ⟨ad101, A101_0, c101_0, e101, hx101_0, hl101_0, hi101_0⟩ := ZR HR0.out x5_1 p101 q101
   have hw101_0 := hx101_0
   cases e101
   replace hx101_0 := (HB.out.cell (ypy w _ hx101_0)).trans hx101_0
   have HR101_0 := zA.mk hi101_0
   have HC101_0 := zA.mk hl101_0
   clear hi101_0 hl101_0
   replace p101 := eq_true p101
   replace q101 := eq_true q101
   have p102 : 0 ≤ (x5_1 : Int) := of_decide_eq_true (by first | (with_reducible assumption) | assumption)
   have q102 : x5_1 < (l1.length : Int) := of_decide_eq_true (by first | (with_reducible assumption) | assumption)
   obtain ⟨ad102, A102_0, c102_0, e102, hx102_0, hl102_0, hi102_0⟩ := ZR HR1.out x5_1 p102 q102
   have hw102_0 := hx102_0
   cases e102
   replace hx102_0 := (HB.out.cell (ypy w _ hx102_0)).trans hx102_0
   have HR102_0 := zA.mk hi102_0
   have HC102_0 := zA.mk hl102_0
   clear hi102_0 hl102_0
   replace p102 := eq_true p102
   replace q102 := eq_true q102
   refine QG (n := 10) (S := fun w' => w'.cell? (ad101.add (x5_1).toNat) = some (.slice A101_0 (zE l0 x5_1).length c101_0) ∧ w'.cell? (ad102.add (x5_1).toNat) = some (.slice A102_0 (zE l1 x5_1).length c102_0)) (ds := []) #[false, false, false, false, false, false, false, false, false, false] (by kernel_rfl) rfl rfl ⟨((HB.out.cell (ypy w _ hw101_0)).trans hw101_0), ((HB.out.cell (ypy w _ hw102_0)).trans hw102_0)⟩ (fun hHeld => ?_); refine Zi zy.zG3 zy.zCy (fun HT_ HW_ => ?_)
   generalize wr.drew = w9 at HB HR101_0 HR102_0 hx101_0 hx102_0 hHeld ⊢
   refine zo (i := 0) (N := some 17) (v := ?_) (a' := ?_) #[true, false, false, false, false, false, false, false, false, false] rfl rfl (zl HT_.out (by kernel_rfl)) (fun _ _ _ h => h) (Or.inl ⟨by rfl, ?_⟩) ?_ ?_
   rotate_left
   next =>
    intro w'
    go_simp
    with_reducible rfl
   rotate_left
   next =>
    simp only [Act.put, yay, yby, ycy, zW, zX]
    rfl
   refine zo (i := 1) (N := some 18) (v := ?_) (a' := ?_) #[true, true, false, false, false, false, false, false, false, false] rfl rfl (zl HT_.out (by kernel_rfl)) (fun _ _ _ h => h) (Or.inl ⟨by rfl, ?_⟩) ?_ ?_
   rotate_left
   next =>
    intro w'
    go_simp
    with_reducible rfl
   rotate_left
   next =>
    simp only [Act.put, yay, yby, ycy, zW, zX]
    rfl
   refine zo (i := 2) (N := some 19) (v := ?_) (a' := ?_) #[true, true, true, false, false, false, false, false, false, false] rfl rfl (zl HT_.out (by kernel_rfl)) (fun _ _ _ h => h) (Or.inl ⟨by rfl, ?_⟩) ?_ ?_
   rotate_left
   next =>
    intro w'
    go_simp
    with_reducible rfl
   rotate_left
   next =>
    simp only [Act.put, yay, yby, ycy, zW, zX]
    rfl
   refine zo (i := 4) (N := some 21) (v := ?_) (a' := ?_) #[true, true, true, false, true, false, false, false, false, false] rfl rfl (zl HT_.out (by kernel_rfl)) (fun _ _ _ h => h) (Or.inl ⟨by rfl, ?_⟩) ?_ ?_
   rotate_left
   next =>
    intro w'
    go_simp
    with_reducible rfl
   rotate_left
   next =>
    simp only [Act.put, yay, yby, ycy, zW, zX]
    rfl
   refine zo (i := 5) (N := some 22) (v := ?_) (a' := ?_) #[true, true, true, false, true, true, false, false, false, false] rfl rfl (zl HT_.out (by kernel_rfl)) (fun _ _ _ h => h) (Or.inl ⟨by rfl, ?_⟩) ?_ ?_
   rotate_left
   next =>
    intro w'
    go_simp
    with_reducible rfl
   rotate_left
   next =>
    simp only [Act.put, yay, yby, ycy, zW, zX]
    rfl
   refine zo (i := 6) (N := some 23) (v := ?_) (a' := ?_) #[true, true, true, false, true, true, true, false, false, false] rfl rfl (zl HT_.out (by kernel_rfl)) (fun _ _ _ h => h) (Or.inl ⟨by rfl, ?_⟩) ?_ ?_
   rotate_left
   next =>
    intro w'
    go_simp
    with_reducible rfl
   rotate_left
   next =>
    simp only [Act.put, yay, yby, ycy, zW, zX]
    rfl
   refine ZV (i := 3) (N := some 20) (v := ?_) (a' := ?_) #[true, true, true, true, true, true, true, false, false, false] rfl rfl (qm HT_.out HW_.out (by kernel_rfl)) (fun _ _ _ h => h) (Or.inl ⟨by rfl, ?_⟩) hHeld ?_ ?_
   rotate_left
   next =>
    rintro w' ⟨s0, s1⟩
    go_simp
    with_reducible rfl
   rotate_left
   next =>
    simp only [Act.put, yay, yby, ycy, zW, zX]
    rfl
   refine ZV (i := 7) (N := some 24) (v := ?_) (a' := ?_) #[true, true, true, true, true, true, true, true, false, false] rfl rfl (qm HT_.out HW_.out (by kernel_rfl)) (fun _ _ _ h => h) (Or.inl ⟨by rfl, ?_⟩) hHeld ?_ ?_
   rotate_left
   next =>
    rintro w' ⟨s0, s1⟩
    go_simp
    with_reducible rfl
   rotate_left
   next =>
    simp only [Act.put, yay, yby, ycy, zW, zX]
    rfl
   refine zAH (i := 8) (N := some 25) #[true, true, true, true, true, true, true, true, true, false] rfl rfl (QD HT_.out (by kernel_rfl)) (by decide) (fun K hK => ?_)
   refine Qz Try.func86 (by kernel_rfl) rfl #[.slice A101_0 (zE l0 x5_1).length c101_0, .slice A102_0 (zE l1 x5_1).length c102_0] (by rfl) rfl rfl (by (try simp only [yiy, yjy, yky]); first | done | rfl | (simp only [yly, ymy]; rfl)) ?_
   with_reducible refine (qG.calls k1 _ _ (zE l0 x5_1) _ _ (zE l1 x5_1) true _ ?side1 ?side2 ?side3 ?side4 A7.out).mono ?_
   (case side1 => repeat (first | exact (Kd.ze HR101_0.out HB.out) | (with_reducible refine Kd.zf ?_ _) | (with_reducible refine Kd.zg ?_ _) | (with_reducible refine Kd.zz ?_)))
   (case side2 => exact HC101_0.out)
   (case side3 => repeat (first | exact (Kd.ze HR102_0.out HB.out) | (with_reducible refine Kd.zf ?_ _) | (with_reducible refine Kd.zg ?_ _) | (with_reducible refine Kd.zz ?_)))
   (case side4 => exact HC102_0.out)
   rintro e w10 ⟨rfl, hb⟩
   refine ⟨_, rfl, ?_⟩
   have n0_ := zA.mk (zN (by repeat (first | (with_reducible first | exact HB.out | apply zC | apply zB | apply zD) | exact HB.out)) hb)
   clear HB
   have HB := n0_
   clear n0_
   (try clear hb)
   (try clear hb2)
   (try clear hk)
   (try clear hi)
   refine hK.out _ _ ⟨((HB.out.cell (ypy w _ hw101_0)).trans hw101_0), ((HB.out.cell (ypy w _ hw102_0)).trans hw102_0)⟩ (fun hHeld => ?_)
   clear hK K
   refine QN (a' := ?_) ?_ ?_
   rotate_left
   next =>
    show Act.put _ (some 25) _ = _
    simp only [Act.put, yay, yby, ycy, zW, zX]
    rfl
   refine zo (i := 9) (N := some 26) (v := ?_) (a' := ?_) #[true, true, true, true, true, true, true, true, true, true] rfl rfl (zl HT_.out (by kernel_rfl)) (fun _ _ _ h => h) (Or.inl ⟨by rfl, ?_⟩) ?_ ?_
   rotate_left
   next =>
    intro w'
    go_simp
    with_reducible rfl
   rotate_left
   next =>
    simp only [Act.put, yay, yby, ycy, zW, zX]
    rfl
   refine Qy (QP HT_.out (by kernel_rfl)) ?_
   try go_wp2
   go_roundg k1
   case measure => have := HK1.out; omega
   case rel => exact ⟨(wrap64 (x5_1 + 1)), (by first | rfl | (simp; done) | (simp [*]; done)), H', ⟨by have := HK1.out; omega⟩, ⟨by repeat (first | (with_reducible first | exact HB.out | apply zC | apply zB | apply zD) | exact HB.out)⟩⟩
def Zc.f (k : Nat) (l0_0 : List (List (zq))) (l1_0 : List (List (zq))) : Option (Bool) := (zy.f k l0_0 l1_0).bind fun t103 => (if t103 = true then (some true) else (some false))
set_option maxHeartbeats 8000000 in
set_option maxRecDepth 100000 in
theorem Zc.calls (k : Nat) (A0_0 : Option Addr) (c0_0 : Nat) (l0_0 : List (List (zq))) (A1_0 : Option Addr) (c1_0 : Nat) (l1_0 : List (List (zq))) (r : Bool) (w : World) (hr0_0 : Kd.C (Kd.slice 59 qx) w A0_0 l0_0.length l0_0) (hc0_0 : l0_0.length ≤ c0_0) (hr1_0 : Kd.C (Kd.slice 59 qx) w A1_0 l1_0.length l1_0) (hc1_0 : l1_0.length ≤ c1_0) (h : Zc.f k l0_0 l1_0 = some r) :
    Calls Try.prog 12 #[.agg #[.slice A0_0 l0_0.length c0_0], .agg #[.slice A1_0 l1_0.length c1_0]] w fun e w' => e = .returned (.bool r) ∧ Below w.heap.size w w' := by
  have hu30 := Try.underlying30
  have HR0_0 := zA.mk hr0_0
  have HC0_0 := zA.mk hc0_0
  clear hr0_0 hc0_0
  have HR1_0 := zA.mk hr1_0
  have HC1_0 := zA.mk hc1_0
  clear hr1_0 hc1_0
  have HB := zA.mk (yry w.heap.size w)
  have H : ((zy.f k l0_0 l1_0).bind fun t103 => (if t103 = true then (some true) else (some false))) = some r := h
  clear h
  replace H := ydy.mp H
  obtain ⟨t103, A30, H⟩ := H
  replace H : (if t103 = true then (some true) else (some false)) = some r := H
  have A3 := zA.mk A30
  clear A30
  by_cases c4 : t103 = true
  · subst c4
    have H1 : (some true) = some r := by rw [if_pos rfl] at H; exact H
    clear H
    have H := H1
    clear H1
    obtain rfl := yey H
    go_enter Try.func12, Try.ntmps12
    go_wp2_with (first | ((with_reducible refine zd (N := 2) rfl ?_); refine zb ?hg (N := 2) ?hd (cs := #[.slice A0_0 l0_0.length c0_0]) (t := 30) ?hr ?_; (case hd => rfl); (case hg => rfl); (case hr => first | (go_simp; done) | (go_simp; rfl)); intro gb101 hg w5 hbox hb; have n0_ := zA.mk (zN (by repeat (first | (with_reducible first | exact HB.out | apply zC | apply zB | apply zD) | exact HB.out)) hb); have n1_ := zA.mk (hbox); have n2_ := zA.mk ((by rw [hg]; exact (zO (by repeat (first | (with_reducible first | exact HB.out | apply zC | apply zB | apply zD) | exact HB.out))) : w.heap.size ≤ gb101)); have n3_ := zA.mk ((by rw [hg]; exact (zO (by repeat (first | (with_reducible first | exact HB.out | apply zC | apply zB | apply zD) | exact HB.out))) : w.heap.size ≤ gb101)); clear HB; have HB := n0_; have BK101 := n1_; have GW101 := n2_; have GE101 := n3_; clear n0_ n1_ n2_ n3_; clear hb hbox hg) | ((with_reducible refine zd (N := 3) rfl ?_); refine zb ?hg (N := 3) ?hd (cs := #[.slice A1_0 l1_0.length c1_0]) (t := 30) ?hr ?_; (case hd => rfl); (case hg => rfl); (case hr => first | (go_simp; done) | (go_simp; rfl)); intro gb102 hg w6 hbox hb; have n0_ := zA.mk (zP (g := gb101) (o := .cells #[.slice A0_0 l0_0.length c0_0] 30 (0, 0)) (by (with_reducible repeat (first | refine zI ?_ _ | refine zJ ?_ | refine zH ?_ _)); exact BK101.out) hb); have n1_ := zA.mk (zN (by repeat (first | (with_reducible first | exact HB.out | apply zC | apply zB | apply zD | refine zF ?_ GE101.out) | exact HB.out)) hb); have n2_ := zA.mk (hbox); have n3_ := zA.mk ((by rw [hg]; exact (zO (by repeat (first | (with_reducible first | exact HB.out | apply zC | apply zB | apply zD | refine zF ?_ GE101.out) | exact HB.out))) : w.heap.size ≤ gb102)); have n4_ := zA.mk ((by rw [hg]; exact (zO (by repeat (first | (with_reducible first | exact HB.out | apply zC | apply zB | apply zD | refine zF ?_ GE101.out) | exact HB.out))) : w.heap.size ≤ gb102)); have n5_ := zA.mk ((by rw [hg]; exact Nat.ne_of_lt (qS (g := gb101) (o := .cells #[.slice A0_0 l0_0.length c0_0] 30 (0, 0)) (by (with_reducible repeat (first | refine zI ?_ _ | refine zJ ?_ | refine zH ?_ _)); exact BK101.out)) : gb101 ≠ gb102)); have n6_ := zA.mk ((by rw [hg]; exact Nat.ne_of_gt (qS (g := gb101) (o := .cells #[.slice A0_0 l0_0.length c0_0] 30 (0, 0)) (by (with_reducible repeat (first | refine zI ?_ _ | refine zJ ?_ | refine zH ?_ _)); exact BK101.out)) : gb102 ≠ gb101)); clear BK101; clear HB; have BK101 := n0_; have HB := n1_; have BK102 := n2_; have GW102 := n3_; have GE102 := n4_; have NB101_102 := n5_; have NB102_101 := n6_; clear n0_ n1_ n2_ n3_ n4_ n5_ n6_; clear hb hbox hg; have hnb7 := NB101_102.out; have hnc7 := NB102_101.out; have hcz8_0 : w6.cell? ⟨gb101, 0, none⟩ = some (.slice A0_0 l0_0.length c0_0) := (zK BK101.out 0).trans rfl; have hfz8_0 := zL BK101.out 0; have hcz9_0 : w6.cell? ⟨gb102, 0, none⟩ = some (.slice A1_0 l1_0.length c1_0) := (zK BK102.out 0).trans rfl; have hfz9_0 := zL BK102.out 0) | ((with_reducible refine zS (f := 47) rfl ?_); refine qB (some 9) rfl rfl Try.func47 (by kernel_rfl) rfl #[.slice A0_0 l0_0.length c0_0, .slice A1_0 l1_0.length c1_0] rfl (by (try simp only [yiy, yjy, yky]); first | done | rfl | (simp only [yly, ymy]; rfl)) ?_; (with_reducible refine (zy.calls k _ _ l0_0 _ _ l1_0 true _ ?side1 ?side2 ?side3 ?side4 A3.out).mono ?_); (case side1 => repeat (first | exact (Kd.ze HR0_0.out HB.out) | (with_reducible refine Kd.zf ?_ _) | (with_reducible refine Kd.zg ?_ _) | (with_reducible refine Kd.zz ?_))); (case side2 => exact HC0_0.out); (case side3 => repeat (first | exact (Kd.ze HR1_0.out HB.out) | (with_reducible refine Kd.zf ?_ _) | (with_reducible refine Kd.zg ?_ _) | (with_reducible refine Kd.zz ?_))); (case side4 => exact HC1_0.out); rintro e w10 ⟨rfl, hb⟩; refine ⟨_, rfl, ?_⟩; have n0_ := zA.mk (zP (g := gb101) (o := .cells #[.slice A0_0 l0_0.length c0_0] 30 (0, 0)) (by (with_reducible repeat (first | refine zI ?_ _ | refine zJ ?_ | refine zH ?_ _)); exact BK101.out) hb); have n1_ := zA.mk (zP (g := gb102) (o := .cells #[.slice A1_0 l1_0.length c1_0] 30 (0, 0)) (by (with_reducible repeat (first | refine zI ?_ _ | refine zJ ?_ | refine zH ?_ _)); exact BK102.out) hb); have n2_ := zA.mk (zN (by repeat (first | (with_reducible first | exact HB.out | apply zC | apply zB | apply zD | refine zF ?_ GE101.out | refine zF ?_ GE102.out) | exact HB.out)) hb); clear BK101; clear BK102; clear HB; have BK101 := n0_; have BK102 := n1_; have HB := n2_; clear n0_ n1_ n2_; (try clear hb); (try clear hb2); (try clear hk); (try clear hi)))
    go_ret
    exact ⟨by first | rfl | (simp [zQ, zR] <;> rfl) | (simp [*, zQ, zR] <;> rfl), by repeat (first | (with_reducible first | exact HB.out | apply zC | apply zB | apply zD | refine zF ?_ GE101.out | refine zF ?_ GE102.out) | exact HB.out)⟩
  · replace c4 := Bool.eq_false_iff.mpr c4
    subst c4
    have H1 : (some false) = some r := by rw [if_neg (show ¬ (false = true) by decide)] at H; exact H
    clear H
    have H := H1
    clear H1
    obtain rfl := yey H
    go_enter Try.func12, Try.ntmps12
    go_wp2_with (first | ((with_reducible refine zd (N := 2) rfl ?_); refine zb ?hg (N := 2) ?hd (cs := #[.slice A0_0 l0_0.length c0_0]) (t := 30) ?hr ?_; (case hd => rfl); (case hg => rfl); (case hr => first | (go_simp; done) | (go_simp; rfl)); intro gb101 hg w11 hbox hb; have n0_ := zA.mk (zN (by repeat (first | (with_reducible first | exact HB.out | apply zC | apply zB | apply zD) | exact HB.out)) hb); have n1_ := zA.mk (hbox); have n2_ := zA.mk ((by rw [hg]; exact (zO (by repeat (first | (with_reducible first | exact HB.out | apply zC | apply zB | apply zD) | exact HB.out))) : w.heap.size ≤ gb101)); have n3_ := zA.mk ((by rw [hg]; exact (zO (by repeat (first | (with_reducible first | exact HB.out | apply zC | apply zB | apply zD) | exact HB.out))) : w.heap.size ≤ gb101)); clear HB; have HB := n0_; have BK101 := n1_; have GW101 := n2_; have GE101 := n3_; clear n0_ n1_ n2_ n3_; clear hb hbox hg) | ((with_reducible refine zd (N := 3) rfl ?_); refine zb ?hg (N := 3) ?hd (cs := #[.slice A1_0 l1_0.length c1_0]) (t := 30) ?hr ?_; (case hd => rfl); (case hg => rfl); (case hr => first | (go_simp; done) | (go_simp; rfl)); intro gb102 hg w12 hbox hb; have n0_ := zA.mk (zP (g := gb101) (o := .cells #[.slice A0_0 l0_0.length c0_0] 30 (0, 0)) (by (with_reducible repeat (first | refine zI ?_ _ | refine zJ ?_ | refine zH ?_ _)); exact BK101.out) hb); have n1_ := zA.mk (zN (by repeat (first | (with_reducible first | exact HB.out | apply zC | apply zB | apply zD | refine zF ?_ GE101.out) | exact HB.out)) hb); have n2_ := zA.mk (hbox); have n3_ := zA.mk ((by rw [hg]; exact (zO (by repeat (first | (with_reducible first | exact HB.out | apply zC | apply zB | apply zD | refine zF ?_ GE101.out) | exact HB.out))) : w.heap.size ≤ gb102)); have n4_ := zA.mk ((by rw [hg]; exact (zO (by repeat (first | (with_reducible first | exact HB.out | apply zC | apply zB | apply zD | refine zF ?_ GE101.out) | exact HB.out))) : w.heap.size ≤ gb102)); have n5_ := zA.mk ((by rw [hg]; exact Nat.ne_of_lt (qS (g := gb101) (o := .cells #[.slice A0_0 l0_0.length c0_0] 30 (0, 0)) (by (with_reducible repeat (first | refine zI ?_ _ | refine zJ ?_ | refine zH ?_ _)); exact BK101.out)) : gb101 ≠ gb102)); have n6_ := zA.mk ((by rw [hg]; exact Nat.ne_of_gt (qS (g := gb101) (o := .cells #[.slice A0_0 l0_0.length c0_0] 30 (0, 0)) (by (with_reducible repeat (first | refine zI ?_ _ | refine zJ ?_ | refine zH ?_ _)); exact BK101.out)) : gb102 ≠ gb101)); clear BK101; clear HB; have BK101 := n0_; have HB := n1_; have BK102 := n2_; have GW102 := n3_; have GE102 := n4_; have NB101_102 := n5_; have NB102_101 := n6_; clear n0_ n1_ n2_ n3_ n4_ n5_ n6_; clear hb hbox hg; have hnb13 := NB101_102.out; have hnc13 := NB102_101.out; have hcz14_0 : w12.cell? ⟨gb101, 0, none⟩ = some (.slice A0_0 l0_0.length c0_0) := (zK BK101.out 0).trans rfl; have hfz14_0 := zL BK101.out 0; have hcz15_0 : w12.cell? ⟨gb102, 0, none⟩ = some (.slice A1_0 l1_0.length c1_0) := (zK BK102.out 0).trans rfl; have hfz15_0 := zL BK102.out 0) | ((with_reducible refine zS (f := 47) rfl ?_); refine qB (some 9) rfl rfl Try.func47 (by kernel_rfl) rfl #[.slice A0_0 l0_0.length c0_0, .slice A1_0 l1_0.length c1_0] rfl (by (try simp only [yiy, yjy, yky]); first | done | rfl | (simp only [yly, ymy]; rfl)) ?_; (with_reducible refine (zy.calls k _ _ l0_0 _ _ l1_0 false _ ?side1 ?side2 ?side3 ?side4 A3.out).mono ?_); (case side1 => repeat (first | exact (Kd.ze HR0_0.out HB.out) | (with_reducible refine Kd.zf ?_ _) | (with_reducible refine Kd.zg ?_ _) | (with_reducible refine Kd.zz ?_))); (case side2 => exact HC0_0.out); (case side3 => repeat (first | exact (Kd.ze HR1_0.out HB.out) | (with_reducible refine Kd.zf ?_ _) | (with_reducible refine Kd.zg ?_ _) | (with_reducible refine Kd.zz ?_))); (case side4 => exact HC1_0.out); rintro e w16 ⟨rfl, hb⟩; refine ⟨_, rfl, ?_⟩; have n0_ := zA.mk (zP (g := gb101) (o := .cells #[.slice A0_0 l0_0.length c0_0] 30 (0, 0)) (by (with_reducible repeat (first | refine zI ?_ _ | refine zJ ?_ | refine zH ?_ _)); exact BK101.out) hb); have n1_ := zA.mk (zP (g := gb102) (o := .cells #[.slice A1_0 l1_0.length c1_0] 30 (0, 0)) (by (with_reducible repeat (first | refine zI ?_ _ | refine zJ ?_ | refine zH ?_ _)); exact BK102.out) hb); have n2_ := zA.mk (zN (by repeat (first | (with_reducible first | exact HB.out | apply zC | apply zB | apply zD | refine zF ?_ GE101.out | refine zF ?_ GE102.out) | exact HB.out)) hb); clear BK101; clear BK102; clear HB; have BK101 := n0_; have BK102 := n1_; have HB := n2_; clear n0_ n1_ n2_; (try clear hb); (try clear hb2); (try clear hk); (try clear hi)))
    go_ret
    exact ⟨by first | rfl | (simp [zQ, zR] <;> rfl) | (simp [*, zQ, zR] <;> rfl), by repeat (first | (with_reducible first | exact HB.out | apply zC | apply zB | apply zD | refine zF ?_ GE101.out | refine zF ?_ GE102.out) | exact HB.out)⟩
def qi.l0 : Nat → List (qk) → Int → Int → Option (Int)
  | 0, _, _, _ => none
  | k + 1, x0, x1, x5 => if x5 < (x0.length : Int) then (if 0 ≤ x5 then (if ((zj x0 x5).f0) = x1 then (if ((zj x0 x5).f1) = (wrap64 (x1 + 1)) then (if ((zj x0 x5).f2) = (wrap64 ((wrap64 (x1 + 1)) + 1)) then (qi.l0 k x0 (wrap64 ((wrap64 ((wrap64 (x1 + 1)) + 1)) + 1)) (wrap64 (x5 + 1))) else (some (-1))) else (some (-1))) else (some (-1))) else (none)) else (some x1)
def qi.f (k : Nat) (l0 : List (qk)) (a1 : Int) : Option (Int) := qi.l0 k l0 a1 0
set_option maxHeartbeats 8000000 in
set_option maxRecDepth 100000 in
theorem qi.calls (k : Nat) (A0 : Option Addr) (c0 : Nat) (l0 : List (qk)) (a1 : Int) (r : Int) (w : World) (hr0 : Kd.C Zv w A0 l0.length l0) (hc0 : l0.length ≤ c0) (h : qi.f k l0 a1 = some r) :
    Calls Try.prog 31 #[.slice A0 l0.length c0, .int .i64 a1] w fun e w' => e = .returned (.int .i64 r) ∧ zZ w w' := by
  have HR0 := zA.mk hr0
  have HC0 := zA.mk hc0
  clear hr0 hc0
  have H : (qi.l0 k l0 a1 0) = some r := h
  clear h
  have H' := zA.mk H
  clear H
  go_enter Try.func31, Try.ntmps31
  go_wp2
  go_loopg [1, 5] k (fun kq v1 v5 w' => ∃ (x1_1 : Int) (x5_1 : Int), v1 = .int .i64 x1_1 ∧ v5 = .int .i64 x5_1 ∧ zA (qi.l0 kq l0 x1_1 x5_1 = some r) ∧ zA (kq ≤ k) ∧ zZ w w')
  case atStart => exact ⟨(a1), (0), (by first | rfl | (simp; done) | (simp [*]; done)), (by first | rfl | (simp; done) | (simp [*]; done)), H', ⟨yqy _⟩, by repeat (first | exact zZ.refl _ | apply zZ.step)⟩
  case round =>
    clear H'
    try clear p2
    obtain ⟨x1_1, x5_1, rfl, rfl, HA, HK1, ⟨m1, rfl⟩⟩ := hrel
    cases gk with
    | zero => exact absurd HA.out (by simp [qi.l0])
    | succ k1 =>
      have H := HA.out
      clear HA
      simp only [qi.l0] at H
      by_cases c3 : x5_1 < (l0.length : Int)
      · rw [if_pos c3] at H
        have c3b0 : decide (x5_1 < (l0.length : Int)) = true := ygy c3
        clear c3
        by_cases c4 : 0 ≤ x5_1
        · rw [if_pos c4] at H
          have c4b0 : decide (0 ≤ x5_1) = true := ygy c4
          clear c4
          by_cases c5 : ((zj l0 x5_1).f0) = x1_1
          · rw [if_pos c5] at H
            have c5b0 : (((zj l0 x5_1).f0) == x1_1) = true := beq_iff_eq.mpr c5
            have c5b1 : (((zj l0 x5_1).f0) != x1_1) = false := bne_eq_false_iff_eq.mpr c5
            clear c5
            by_cases c6 : ((zj l0 x5_1).f1) = (wrap64 (x1_1 + 1))
            · rw [if_pos c6] at H
              have c6b0 : (((zj l0 x5_1).f1) == (wrap64 (x1_1 + 1))) = true := beq_iff_eq.mpr c6
              have c6b1 : (((zj l0 x5_1).f1) != (wrap64 (x1_1 + 1))) = false := bne_eq_false_iff_eq.mpr c6
              clear c6
              by_cases c7 : ((zj l0 x5_1).f2) = (wrap64 ((wrap64 (x1_1 + 1)) + 1))
              · rw [if_pos c7] at H
                have c7b0 : (((zj l0 x5_1).f2) == (wrap64 ((wrap64 (x1_1 + 1)) + 1))) = true := beq_iff_eq.mpr c7
                have c7b1 : (((zj l0 x5_1).f2) != (wrap64 ((wrap64 (x1_1 + 1)) + 1))) = false := bne_eq_false_iff_eq.mpr c7
                clear c7
                have H' := zA.mk H
                clear H
                have p101 : 0 ≤ (x5_1 : Int) := of_decide_eq_true (by first | (with_reducible assumption) | assumption)
                have q101 : x5_1 < (l0.length : Int) := of_decide_eq_true (by first | (with_reducible assumption) | assumption)
                obtain ⟨ad101, e101, hx101_0, hx101_1, hx101_2⟩ := QW HR0.out x5_1 p101 q101
                cases e101
                replace p101 := eq_true p101
                replace q101 := eq_true q101
                have p102 : 0 ≤ (x5_1 : Int) := of_decide_eq_true (by first | (with_reducible assumption) | assumption)
                have q102 : x5_1 < (l0.length : Int) := of_decide_eq_true (by first | (with_reducible assumption) | assumption)
                obtain ⟨ad102, e102, hx102_0, hx102_1, hx102_2⟩ := QW HR0.out x5_1 p102 q102
                obtain rfl : ad101 = ad102 := (by injection e102)
                replace p102 := eq_true p102
                replace q102 := eq_true q102
                have p103 : 0 ≤ (x5_1 : Int) := of_decide_eq_true (by first | (with_reducible assumption) | assumption)
                have q103 : x5_1 < (l0.length : Int) := of_decide_eq_true (by first | (with_reducible assumption) | assumption)
                obtain ⟨ad103, e103, hx103_0, hx103_1, hx103_2⟩ := QW HR0.out x5_1 p103 q103
                obtain rfl : ad101 = ad103 := (by injection e103)
                replace p103 := eq_true p103
                replace q103 := eq_true q103
                go_wp2
                go_roundg k1
                case measure => have := HK1.out; omega
                case rel => exact ⟨(wrap64 ((wrap64 ((wrap64 (x1_1 + 1)) + 1)) + 1)), (wrap64 (x5_1 + 1)), (by first | rfl | (simp; done) | (simp [*]; done)), (by first | rfl | (simp; done) | (simp [*]; done)), H', ⟨by have := HK1.out; omega⟩, by repeat (first | exact zZ.refl _ | apply zZ.step)⟩
              · rw [if_neg c7] at H
                have c7b0 : (((zj l0 x5_1).f2) == (wrap64 ((wrap64 (x1_1 + 1)) + 1))) = false := beq_eq_false_iff_ne.mpr c7
                have c7b1 : (((zj l0 x5_1).f2) != (wrap64 ((wrap64 (x1_1 + 1)) + 1))) = true := bne_iff_ne.mpr c7
                obtain rfl := yey H
                have p101 : 0 ≤ (x5_1 : Int) := of_decide_eq_true (by first | (with_reducible assumption) | assumption)
                have q101 : x5_1 < (l0.length : Int) := of_decide_eq_true (by first | (with_reducible assumption) | assumption)
                obtain ⟨ad101, e101, hx101_0, hx101_1, hx101_2⟩ := QW HR0.out x5_1 p101 q101
                cases e101
                replace p101 := eq_true p101
                replace q101 := eq_true q101
                have p102 : 0 ≤ (x5_1 : Int) := of_decide_eq_true (by first | (with_reducible assumption) | assumption)
                have q102 : x5_1 < (l0.length : Int) := of_decide_eq_true (by first | (with_reducible assumption) | assumption)
                obtain ⟨ad102, e102, hx102_0, hx102_1, hx102_2⟩ := QW HR0.out x5_1 p102 q102
                obtain rfl : ad101 = ad102 := (by injection e102)
                replace p102 := eq_true p102
                replace q102 := eq_true q102
                have p103 : 0 ≤ (x5_1 : Int) := of_decide_eq_true (by first | (with_reducible assumption) | assumption)
                have q103 : x5_1 < (l0.length : Int) := of_decide_eq_true (by first | (with_reducible assumption) | assumption)
                obtain ⟨ad103, e103, hx103_0, hx103_1, hx103_2⟩ := QW HR0.out x5_1 p103 q103
                obtain rfl : ad101 = ad103 := (by injection e103)
                replace p103 := eq_true p103
                replace q103 := eq_true q103
                go_wp2
                go_ret
                exact ⟨by first | rfl | (simp; done) | (simp [*]; done), by repeat (first | exact zZ.refl _ | apply zZ.step)⟩
            · rw [if_neg c6] at H
              have c6b0 : (((zj l0 x5_1).f1) == (wrap64 (x1_1 + 1))) = false := beq_eq_false_iff_ne.mpr c6
              have c6b1 : (((zj l0 x5_1).f1) != (wrap64 (x1_1 + 1))) = true := bne_iff_ne.mpr c6
              obtain rfl := yey H
              have p101 : 0 ≤ (x5_1 : Int) := of_decide_eq_true (by first | (with_reducible assumption) | assumption)
              have q101 : x5_1 < (l0.length : Int) := of_decide_eq_true (by first | (with_reducible assumption) | assumption)
              obtain ⟨ad101, e101, hx101_0, hx101_1, hx101_2⟩ := QW HR0.out x5_1 p101 q101
              cases e101
              replace p101 := eq_true p101
              replace q101 := eq_true q101
              have p102 : 0 ≤ (x5_1 : Int) := of_decide_eq_true (by first | (with_reducible assumption) | assumption)
              have q102 : x5_1 < (l0.length : Int) := of_decide_eq_true (by first | (with_reducible assumption) | assumption)
              obtain ⟨ad102, e102, hx102_0, hx102_1, hx102_2⟩ := QW HR0.out x5_1 p102 q102
              obtain rfl : ad101 = ad102 := (by injection e102)
              replace p102 := eq_true p102
              replace q102 := eq_true q102
              go_wp2
              go_ret
              exact ⟨by first | rfl | (simp; done) | (simp [*]; done), by repeat (first | exact zZ.refl _ | apply zZ.step)⟩
          · rw [if_neg c5] at H
            have c5b0 : (((zj l0 x5_1).f0) == x1_1) = false := beq_eq_false_iff_ne.mpr c5
            have c5b1 : (((zj l0 x5_1).f0) != x1_1) = true := bne_iff_ne.mpr c5
            obtain rfl := yey H
            have p101 : 0 ≤ (x5_1 : Int) := of_decide_eq_true (by first | (with_reducible assumption) | assumption)
            have q101 : x5_1 < (l0.length : Int) := of_decide_eq_true (by first | (with_reducible assumption) | assumption)
            obtain ⟨ad101, e101, hx101_0, hx101_1, hx101_2⟩ := QW HR0.out x5_1 p101 q101
            cases e101
            replace p101 := eq_true p101
            replace q101 := eq_true q101
            go_wp2
            go_ret
            exact ⟨by first | rfl | (simp; done) | (simp [*]; done), by repeat (first | exact zZ.refl _ | apply zZ.step)⟩
        · rw [if_neg c4] at H
          exact absurd H (by simp)
      · rw [if_neg c3] at H
        have c3b0 : decide (x5_1 < (l0.length : Int)) = false := yhy c3
        clear c3
        obtain rfl := yey H
        go_wp2
        go_ret
        exact ⟨by first | rfl | (simp; done) | (simp [*]; done), by repeat (first | exact zZ.refl _ | apply zZ.step)⟩
def qa.l0 : Nat → List (qk) → Int → Int → Option (Int × (List (qk)))
  | 0, _, _, _ => none
  | k + 1, x0, x1, x5 => if x5 < (x0.length : Int) then (if 0 ≤ x5 then ((some (x0.set (x5 : Int).toNat (⟨x1, (zj x0 x5).f1, (zj x0 x5).f2⟩ : qk) : List (qk))).bind fun y101 => ((some (y101.set (x5 : Int).toNat (⟨(zj y101 x5).f0, wrap64 (x1 + 1), (zj y101 x5).f2⟩ : qk) : List (qk))).bind fun y102 => (qa.l0 k (y102.set (x5 : Int).toNat (⟨(zj y102 x5).f0, (zj y102 x5).f1, wrap64 ((wrap64 (x1 + 1)) + 1)⟩ : qk)) (wrap64 ((wrap64 ((wrap64 (x1 + 1)) + 1)) + 1)) (wrap64 (x5 + 1))))) else (none)) else (some (x1, x0))
def qa.f (k : Nat) (l0 : List (qk)) (a1 : Int) : Option (Int × (List (qk))) := qa.l0 k l0 a1 0
set_option maxHeartbeats 8000000 in
set_option maxRecDepth 100000 in
theorem qa.calls (k : Nat) (P0_ : Nat → Prop) (u9000_ : Value) (l0 : List (qk)) (a1 : Int) (r1 : Int) (r2 : List (qk)) (w0 w : World) (hB : Below w0.heap.size w0 w) (ho0 : Kd.R Zv 89 w w0.heap.size P0_ u9000_ l0) (h : qa.f k l0 a1 = some (r1, r2)) :
    Calls Try.prog 30 #[u9000_, .int .i64 a1] w fun e w' => e = .returned (.int .i64 r1) ∧ Kd.R Zv 89 w' w0.heap.size (fun k_ => (P0_ k_ ∨ w.heap.size ≤ k_)) u9000_ r2 ∧ Below w0.heap.size w0 w' ∧ Kept w w' (fun k_ => P0_ k_) := by
  have HO0 := zA.mk (show Kd.R Zv 89 w w0.heap.size (fun k_ => (P0_ k_ ∨ w.heap.size ≤ k_)) u9000_ l0 from Kd.qW ho0 (fun k_ hk => (.inl hk)))
  have HK := zA.mk (Kept.refl w (fun k_ => P0_ k_))
  have HW0 := zA.mk hB.size
  have HB := zA.mk hB
  clear hB
  have H : (qa.l0 k l0 a1 0) = some (r1, r2) := h
  clear h
  have H' := zA.mk H
  clear H
  go_enter Try.func30, Try.ntmps30
  go_wp2
  go_loopg [1, 5] k (fun kq v1 v5 w' => ∃ (x0_1 : List (qk)) (x1_1 : Int) (x5_1 : Int), v1 = .int .i64 x1_1 ∧ v5 = .int .i64 x5_1 ∧ zA (qa.l0 kq x0_1 x1_1 x5_1 = some (r1, r2)) ∧ zA (kq ≤ k) ∧ zA (Kd.R Zv 89 w' w0.heap.size (fun k_ => (P0_ k_ ∨ w.heap.size ≤ k_)) u9000_ x0_1) ∧ zA (Kept w w' (fun k_ => P0_ k_)) ∧ zA (Below w0.heap.size w0 w'))
  case atStart => exact ⟨(l0), (a1), (0), (by first | rfl | (simp; done) | (simp [*]; done)), (by first | rfl | (simp; done) | (simp [*]; done)), H', ⟨yqy _⟩, ⟨by (with_reducible repeat (first | apply Kd.zm | apply Kd.zk | apply Kd.zu)); exact HO0.out⟩, ⟨by repeat (first | (with_reducible first | exact HK.out | apply Kept.alloc | apply Kept.drewN | apply Kept.drew) | exact HK.out)⟩, ⟨by repeat (first | (with_reducible first | exact HB.out | apply zC | apply zB | apply zD) | exact HB.out)⟩⟩
  case round =>
    clear H'
    try clear p2
    obtain ⟨x0_1, x1_1, x5_1, rfl, rfl, HA, HK1, HO_0, HK, HB⟩ := hrel
    cases gk with
    | zero => exact absurd HA.out (by simp [qa.l0])
    | succ k1 =>
      have H := HA.out
      clear HA
      simp only [qa.l0] at H
      by_cases c3 : x5_1 < (x0_1.length : Int)
      · rw [if_pos c3] at H
        have c3b0 : decide (x5_1 < (x0_1.length : Int)) = true := ygy c3
        clear c3
        by_cases c4 : 0 ≤ x5_1
        · rw [if_pos c4] at H
          have c4b0 : decide (0 ≤ x5_1) = true := ygy c4
          clear c4
          obtain ⟨y101, hy101⟩ : ∃ y_ : List (qk), y_ = (x0_1.set (x5_1 : Int).toNat (⟨x1_1, (zj x0_1 x5_1).f1, (zj x0_1 x5_1).f2⟩ : qk)) := ⟨_, rfl⟩
          replace H : ((some (y101.set (x5_1 : Int).toNat (⟨(zj y101 x5_1).f0, wrap64 (x1_1 + 1), (zj y101 x5_1).f2⟩ : qk) : List (qk))).bind fun y102 => (qa.l0 k1 (y102.set (x5_1 : Int).toNat (⟨(zj y102 x5_1).f0, (zj y102 x5_1).f1, wrap64 ((wrap64 (x1_1 + 1)) + 1)⟩ : qk)) (wrap64 ((wrap64 ((wrap64 (x1_1 + 1)) + 1)) + 1)) (wrap64 (x5_1 + 1)))) = some (r1, r2) := by first | (rw [hy101]; with_reducible exact H) | (have H2_ := (yfy _ _).symm.trans H; rw [hy101]; with_reducible exact H2_) | (have H2_ := (yfy _ _).symm.trans H; with_reducible exact H2_) | with_reducible exact H | (rw [hy101]; exact H) | exact H
          have Ny101 := zA.mk hy101
          clear hy101
          obtain ⟨y102, hy102⟩ : ∃ y_ : List (qk), y_ = (y101.set (x5_1 : Int).toNat (⟨(zj y101 x5_1).f0, wrap64 (x1_1 + 1), (zj y101 x5_1).f2⟩ : qk)) := ⟨_, rfl⟩
          replace H : (qa.l0 k1 (y102.set (x5_1 : Int).toNat (⟨(zj y102 x5_1).f0, (zj y102 x5_1).f1, wrap64 ((wrap64 (x1_1 + 1)) + 1)⟩ : qk)) (wrap64 ((wrap64 ((wrap64 (x1_1 + 1)) + 1)) + 1)) (wrap64 (x5_1 + 1))) = some (r1, r2) := by first | (rw [hy102]; with_reducible exact H) | (have H2_ := (yfy _ _).symm.trans H; rw [hy102]; with_reducible exact H2_) | (have H2_ := (yfy _ _).symm.trans H; with_reducible exact H2_) | with_reducible exact H | (rw [hy102]; exact H) | exact H
          have Ny102 := zA.mk hy102
          clear hy102
          obtain ⟨y103, hy103⟩ : ∃ y_ : List (qk), y_ = (y102.set (x5_1 : Int).toNat (⟨(zj y102 x5_1).f0, (zj y102 x5_1).f1, wrap64 ((wrap64 (x1_1 + 1)) + 1)⟩ : qk)) := ⟨_, rfl⟩
          replace H : (qa.l0 k1 y103 (wrap64 ((wrap64 ((wrap64 (x1_1 + 1)) + 1)) + 1)) (wrap64 (x5_1 + 1))) = some (r1, r2) := by first | (rw [hy103]; with_reducible exact H) | (have H2_ := (yfy _ _).symm.trans H; rw [hy103]; with_reducible exact H2_) | (have H2_ := (yfy _ _).symm.trans H; with_reducible exact H2_) | with_reducible exact H | (rw [hy103]; exact H) | exact H
          have Ny103 := zA.mk hy103
          clear hy103
          have H' := zA.mk H
          clear H
          obtain ⟨Ao8, co8, eo8⟩ := Kd.ZP HO_0.out
          subst eo8
          have p5 : 0 ≤ (x5_1 : Int) := of_decide_eq_true (by first | (with_reducible assumption) | assumption)
          have q5 : (x5_1 : Int) < ((x0_1.length : Int) : Int) := of_decide_eq_true (by first | (with_reducible assumption) | assumption)
          obtain ⟨go5, co5, eo5, gb5, gl5, cl5, HG5⟩ := Kd.zA3 HO_0.out (by omega)
          (first | cases eo5 | (injection eo5 with ea_ en_ ec_; (first | subst ea_ | (injection ea_ with ea_; subst ea_)); subst ec_; clear en_))
          have GB5 := zA.mk gb5
          have GG5 := zA.mk HG5
          clear gb5 gl5 HG5
          have HMgo5 := zA.mk (show (P0_ go5 ∨ w.heap.size ≤ go5) from (HO_0.out.1 _ rfl))
          obtain ⟨ce5, hcl5, hM5, hcc5, hfr5⟩ := Kd.Qv HO_0.out zCp (x5_1 : Int) p5 q5
          obtain rfl := QV hM5
          have hx5_0 : wr.cell? ⟨go5, (x5_1 : Int).toNat * 3, none⟩ = some (.int .i64 ((zj x0_1 x5_1).f0)) := hcc5 0 _ rfl
          have hx5_1 : wr.cell? ⟨go5, (x5_1 : Int).toNat * 3 + 1, none⟩ = some (.int .i64 ((zj x0_1 x5_1).f1)) := hcc5 1 _ rfl
          have hx5_2 : wr.cell? ⟨go5, (x5_1 : Int).toNat * 3 + 2, none⟩ = some (.int .i64 ((zj x0_1 x5_1).f2)) := hcc5 2 _ rfl
          have hf5_0 : wr.frozen? ⟨go5, (x5_1 : Int).toNat * 3, none⟩ = false := hfr5 0
          have hf5_1 : wr.frozen? ⟨go5, (x5_1 : Int).toNat * 3 + 1, none⟩ = false := hfr5 1
          have hf5_2 : wr.frozen? ⟨go5, (x5_1 : Int).toNat * 3 + 2, none⟩ = false := hfr5 2
          clear hcl5 hcc5 hfr5 hM5
          replace p5 := eq_true p5
          replace q5 := eq_true q5
          have HX9 := zA.mk (show Kd.R Zv 89 wr w0.heap.size (fun k_ => (P0_ k_ ∨ w.heap.size ≤ k_)) (.slice (some ⟨go5, 0, none⟩) x0_1.length co8) x0_1 from (by (with_reducible repeat (first | apply Kd.zm | apply Kd.zk | apply Kd.zu)); exact HO_0.out))
          obtain ⟨ce9, hcl9, hM9, hcc9, hfr9⟩ := Kd.Qv HX9.out zCp (x5_1 : Int) (of_decide_eq_true (by first | (with_reducible assumption) | assumption)) (by have h_ : (x5_1 : Int) < ((x0_1.length : Int) : Int) := of_decide_eq_true (by first | (with_reducible assumption) | assumption); first | exact h_ | (have e_ := (Kd.zv HO_0.out).1; omega) | simpa using h_)
          obtain rfl := QV hM9
          have HP9 := Kd.zDH HX9.out (x5_1 : Int) (of_decide_eq_true (by first | (with_reducible assumption) | assumption)) (by have h_ : (x5_1 : Int) < ((x0_1.length : Int) : Int) := of_decide_eq_true (by first | (with_reducible assumption) | assumption); first | exact h_ | (have e_ := (Kd.zv HO_0.out).1; omega) | simpa using h_) (seg := [.int .i64 x1_1]) (j := 0) hcl9 hcc9 (show 1 ≤ 3 from by decide) (x' := (⟨x1_1, (zj x0_1 x5_1).f1, (zj x0_1 x5_1).f2⟩ : qk)) (Jk _ _ _ (⟨x1_1, (zj x0_1 x5_1).f1, (zj x0_1 x5_1).f2⟩ : qk) ) (fun _ hk => hk)
          have hx9_0 := hcc9 0 _ rfl
          (try simp only [show (Zv).sz = 3 from rfl, Nat.mul_one, Nat.add_zero] at hx9_0)
          have hf9_0 := hfr9 0
          (try simp only [show (Zv).sz = 3 from rfl, Nat.mul_one, Nat.add_zero] at hf9_0)
          clear hcl9 hcc9 hfr9 hM9
          go_wp2_with (first | ((with_reducible refine ZH (t := 2) (p := 16) rfl ?_); refine qz (t := 2) (p := 16) (v := ?vo_w10) (w1 := (wr.setCell ⟨go5, (x5_1 : Int).toNat * 3, none⟩ (.int .i64 x1_1))) ?hg ?ho ?hn ?hr ?_; (case ho => rfl); (case hg => rfl); (case hn => rfl); (case hr => first | (go_simp; done) | (go_simp; rfl)); intro w10 hw; have hg : wr.grownBy w10 (some go5) := (by rw [hw]; exact HP9.2); have hp_ : Kd.R Zv 89 w10 w0.heap.size (fun k_ => (P0_ k_ ∨ w.heap.size ≤ k_)) (.slice (some ⟨go5, 0, none⟩) x0_1.length co8) y101 := (by rw [hw, Ny101.out]; exact HP9.1); clear HP9; have n0_ := zA.mk (hp_); have n1_ := zA.mk ((by rw [hw]; exact zF (HB.out) GB5.out : Below w0.heap.size w0 w10)); have n2_ := zA.mk (Kept.Jy (S := (fun k_ => P0_ k_)) hg (by repeat (first | (with_reducible first | exact HK.out | apply Kept.alloc | apply Kept.drewN | apply Kept.drew) | exact HK.out)) (fun k_ e_ => (HO_0.out.1 k_ e_))); clear HO_0; clear HB; clear HK; have HO_0 := n0_; have HB := n1_; have HK := n2_; clear n0_ n1_ n2_; clear hg hw hp_; have p6 : 0 ≤ (x5_1 : Int) := of_decide_eq_true (by first | (with_reducible assumption) | assumption); have q6 : (x5_1 : Int) < ((x0_1.length : Int) : Int) := of_decide_eq_true (by first | (with_reducible assumption) | assumption); obtain ⟨ce6, hcl6, hM6, hcc6, hfr6⟩ := Kd.Qv HO_0.out zCp (x5_1 : Int) p6 q6; obtain rfl := QV hM6; have hx6_0 : w10.cell? ⟨go5, (x5_1 : Int).toNat * 3, none⟩ = some (.int .i64 ((zj y101 x5_1).f0)) := hcc6 0 _ rfl; have hx6_1 : w10.cell? ⟨go5, (x5_1 : Int).toNat * 3 + 1, none⟩ = some (.int .i64 ((zj y101 x5_1).f1)) := hcc6 1 _ rfl; have hx6_2 : w10.cell? ⟨go5, (x5_1 : Int).toNat * 3 + 2, none⟩ = some (.int .i64 ((zj y101 x5_1).f2)) := hcc6 2 _ rfl; have hf6_0 : w10.frozen? ⟨go5, (x5_1 : Int).toNat * 3, none⟩ = false := hfr6 0; have hf6_1 : w10.frozen? ⟨go5, (x5_1 : Int).toNat * 3 + 1, none⟩ = false := hfr6 1; have hf6_2 : w10.frozen? ⟨go5, (x5_1 : Int).toNat * 3 + 2, none⟩ = false := hfr6 2; clear hcl6 hcc6 hfr6; (try clear hM6); replace p6 := eq_true p6; replace q6 := eq_true q6; have HX11 := zA.mk (show Kd.R Zv 89 w10 w0.heap.size (fun k_ => (P0_ k_ ∨ w.heap.size ≤ k_)) (.slice (some ⟨go5, 0, none⟩) x0_1.length co8) y101 from (by (with_reducible repeat (first | apply Kd.zm | apply Kd.zk | apply Kd.zu)); exact HO_0.out)); obtain ⟨ce11, hcl11, hM11, hcc11, hfr11⟩ := Kd.Qv HX11.out zCp (x5_1 : Int) (of_decide_eq_true (by first | (with_reducible assumption) | assumption)) (by have h_ : (x5_1 : Int) < ((x0_1.length : Int) : Int) := of_decide_eq_true (by first | (with_reducible assumption) | assumption); first | exact h_ | (have e_ := (Kd.zv HO_0.out).1; omega) | simpa using h_); obtain rfl := QV hM11; have HP11 := Kd.zDH HX11.out (x5_1 : Int) (of_decide_eq_true (by first | (with_reducible assumption) | assumption)) (by have h_ : (x5_1 : Int) < ((x0_1.length : Int) : Int) := of_decide_eq_true (by first | (with_reducible assumption) | assumption); first | exact h_ | (have e_ := (Kd.zv HO_0.out).1; omega) | simpa using h_) (seg := [.int .i64 (wrap64 (x1_1 + 1))]) (j := 1) hcl11 hcc11 (show 2 ≤ 3 from by decide) (x' := (⟨(zj y101 x5_1).f0, wrap64 (x1_1 + 1), (zj y101 x5_1).f2⟩ : qk)) (Jk _ _ _ (⟨(zj y101 x5_1).f0, wrap64 (x1_1 + 1), (zj y101 x5_1).f2⟩ : qk) ) (fun _ hk => hk); have hx11_1 := hcc11 1 _ rfl; (try simp only [show (Zv).sz = 3 from rfl, Nat.mul_one, Nat.add_zero] at hx11_1); have hf11_1 := hfr11 1; (try simp only [show (Zv).sz = 3 from rfl, Nat.mul_one, Nat.add_zero] at hf11_1); clear hcl11 hcc11 hfr11 hM11) | ((with_reducible refine ZH (t := 2) (p := 23) rfl ?_); refine qz (t := 2) (p := 23) (v := ?vo_w12) (w1 := (w10.setCell ⟨go5, (x5_1 : Int).toNat * 3 + 1, none⟩ (.int .i64 (wrap64 (x1_1 + 1))))) ?hg ?ho ?hn ?hr ?_; (case ho => rfl); (case hg => rfl); (case hn => rfl); (case hr => first | (go_simp; done) | (go_simp; rfl)); intro w12 hw; have hg : w10.grownBy w12 (some go5) := (by rw [hw]; exact HP11.2); have hp_ : Kd.R Zv 89 w12 w0.heap.size (fun k_ => (P0_ k_ ∨ w.heap.size ≤ k_)) (.slice (some ⟨go5, 0, none⟩) x0_1.length co8) y102 := (by rw [hw, Ny102.out]; exact HP11.1); clear HP11; have n0_ := zA.mk (hp_); have n1_ := zA.mk ((by rw [hw]; exact zF (HB.out) GB5.out : Below w0.heap.size w0 w12)); have n2_ := zA.mk (Kept.Jy (S := (fun k_ => P0_ k_)) hg (by repeat (first | (with_reducible first | exact HK.out | apply Kept.alloc | apply Kept.drewN | apply Kept.drew) | exact HK.out)) (fun k_ e_ => (HO_0.out.1 k_ e_))); clear HO_0; clear HB; clear HK; have HO_0 := n0_; have HB := n1_; have HK := n2_; clear n0_ n1_ n2_; clear hg hw hp_; have p7 : 0 ≤ (x5_1 : Int) := of_decide_eq_true (by first | (with_reducible assumption) | assumption); have q7 : (x5_1 : Int) < ((x0_1.length : Int) : Int) := of_decide_eq_true (by first | (with_reducible assumption) | assumption); obtain ⟨ce7, hcl7, hM7, hcc7, hfr7⟩ := Kd.Qv HO_0.out zCp (x5_1 : Int) p7 q7; obtain rfl := QV hM7; have hx7_0 : w12.cell? ⟨go5, (x5_1 : Int).toNat * 3, none⟩ = some (.int .i64 ((zj y102 x5_1).f0)) := hcc7 0 _ rfl; have hx7_1 : w12.cell? ⟨go5, (x5_1 : Int).toNat * 3 + 1, none⟩ = some (.int .i64 ((zj y102 x5_1).f1)) := hcc7 1 _ rfl; have hx7_2 : w12.cell? ⟨go5, (x5_1 : Int).toNat * 3 + 2, none⟩ = some (.int .i64 ((zj y102 x5_1).f2)) := hcc7 2 _ rfl; have hf7_0 : w12.frozen? ⟨go5, (x5_1 : Int).toNat * 3, none⟩ = false := hfr7 0; have hf7_1 : w12.frozen? ⟨go5, (x5_1 : Int).toNat * 3 + 1, none⟩ = false := hfr7 1; have hf7_2 : w12.frozen? ⟨go5, (x5_1 : Int).toNat * 3 + 2, none⟩ = false := hfr7 2; clear hcl7 hcc7 hfr7; (try clear hM7); replace p7 := eq_true p7; replace q7 := eq_true q7; have HX13 := zA.mk (show Kd.R Zv 89 w12 w0.heap.size (fun k_ => (P0_ k_ ∨ w.heap.size ≤ k_)) (.slice (some ⟨go5, 0, none⟩) x0_1.length co8) y102 from (by (with_reducible repeat (first | apply Kd.zm | apply Kd.zk | apply Kd.zu)); exact HO_0.out)); obtain ⟨ce13, hcl13, hM13, hcc13, hfr13⟩ := Kd.Qv HX13.out zCp (x5_1 : Int) (of_decide_eq_true (by first | (with_reducible assumption) | assumption)) (by have h_ : (x5_1 : Int) < ((x0_1.length : Int) : Int) := of_decide_eq_true (by first | (with_reducible assumption) | assumption); first | exact h_ | (have e_ := (Kd.zv HO_0.out).1; omega) | simpa using h_); obtain rfl := QV hM13; have HP13 := Kd.zDH HX13.out (x5_1 : Int) (of_decide_eq_true (by first | (with_reducible assumption) | assumption)) (by have h_ : (x5_1 : Int) < ((x0_1.length : Int) : Int) := of_decide_eq_true (by first | (with_reducible assumption) | assumption); first | exact h_ | (have e_ := (Kd.zv HO_0.out).1; omega) | simpa using h_) (seg := [.int .i64 (wrap64 ((wrap64 (x1_1 + 1)) + 1))]) (j := 2) hcl13 hcc13 (show 3 ≤ 3 from by decide) (x' := (⟨(zj y102 x5_1).f0, (zj y102 x5_1).f1, wrap64 ((wrap64 (x1_1 + 1)) + 1)⟩ : qk)) (Jk _ _ _ (⟨(zj y102 x5_1).f0, (zj y102 x5_1).f1, wrap64 ((wrap64 (x1_1 + 1)) + 1)⟩ : qk) ) (fun _ hk => hk); have hx13_2 := hcc13 2 _ rfl; (try simp only [show (Zv).sz = 3 from rfl, Nat.mul_one, Nat.add_zero] at hx13_2); have hf13_2 := hfr13 2; (try simp only [show (Zv).sz = 3 from rfl, Nat.mul_one, Nat.add_zero] at hf13_2); clear hcl13 hcc13 hfr13 hM13) | ((with_reducible refine ZH (t := 2) (p := 30) rfl ?_); refine qz (t := 2) (p := 30) (v := ?vo_w14) (w1 := (w12.setCell ⟨go5, (x5_1 : Int).toNat * 3 + 2, none⟩ (.int .i64 (wrap64 ((wrap64 (x1_1 + 1)) + 1))))) ?hg ?ho ?hn ?hr ?_; (case ho => rfl); (case hg => rfl); (case hn => rfl); (case hr => first | (go_simp; done) | (go_simp; rfl)); intro w14 hw; have hg : w12.grownBy w14 (some go5) := (by rw [hw]; exact HP13.2); have hp_ : Kd.R Zv 89 w14 w0.heap.size (fun k_ => (P0_ k_ ∨ w.heap.size ≤ k_)) (.slice (some ⟨go5, 0, none⟩) x0_1.length co8) y103 := (by rw [hw, Ny103.out]; exact HP13.1); clear HP13; have n0_ := zA.mk (hp_); have n1_ := zA.mk ((by rw [hw]; exact zF (HB.out) GB5.out : Below w0.heap.size w0 w14)); have n2_ := zA.mk (Kept.Jy (S := (fun k_ => P0_ k_)) hg (by repeat (first | (with_reducible first | exact HK.out | apply Kept.alloc | apply Kept.drewN | apply Kept.drew) | exact HK.out)) (fun k_ e_ => (HO_0.out.1 k_ e_))); clear HO_0; clear HB; clear HK; have HO_0 := n0_; have HB := n1_; have HK := n2_; clear n0_ n1_ n2_; clear hg hw hp_))
          go_roundg k1
          case measure => have := HK1.out; omega
          case rel => exact ⟨(y103), (wrap64 ((wrap64 ((wrap64 (x1_1 + 1)) + 1)) + 1)), (wrap64 (x5_1 + 1)), (by first | rfl | (simp; done) | (simp [*]; done)), (by first | rfl | (simp; done) | (simp [*]; done)), H', ⟨by have := HK1.out; omega⟩, ⟨by (with_reducible repeat (first | apply Kd.zm | apply Kd.zk | apply Kd.zu)); exact HO_0.out⟩, ⟨by repeat (first | (with_reducible first | exact HK.out | apply Kept.alloc | apply Kept.drewN | apply Kept.drew) | exact HK.out)⟩, ⟨by repeat (first | (with_reducible first | exact HB.out | apply zC | apply zB | apply zD) | exact HB.out)⟩⟩
        · rw [if_neg c4] at H
          exact absurd H (by simp)
      · rw [if_neg c3] at H
        have c3b0 : decide (x5_1 < (x0_1.length : Int)) = false := yhy c3
        clear c3
        simp only [Option.some.injEq, Prod.mk.injEq] at H
        obtain ⟨rfl, rfl⟩ := H
        obtain ⟨Ao15, co15, eo15⟩ := Kd.ZP HO_0.out
        subst eo15
        go_wp2
        go_ret
        exact ⟨by first | rfl | (simp [zQ, zR] <;> rfl) | (simp [*, zQ, zR] <;> rfl), by (with_reducible repeat (first | apply Kd.zm | apply Kd.zk | apply Kd.zu)); exact HO_0.out, by repeat (first | (with_reducible first | exact HB.out | apply zC | apply zB | apply zD) | exact HB.out), by repeat (first | (with_reducible first | exact HK.out | apply Kept.alloc | apply Kept.drewN | apply Kept.drew) | exact HK.out)⟩
def qZ.l0 : Nat → List Int → Int → Int → Option (Int × List Int)
  | 0, _, _, _ => none
  | k + 1, x0, x1, x5 => if x5 < (x0.length : Int) then (if 0 ≤ x5 then (qZ.l0 k (x0.set (x5 : Int).toNat x1) (wrap64 (x1 + 1)) (wrap64 (x5 + 1))) else (none)) else (some (x1, x0))
def qZ.f (k : Nat) (l0 : List Int) (a1 : Int) : Option (Int × List Int) := qZ.l0 k l0 a1 0
set_option maxHeartbeats 8000000 in
set_option maxRecDepth 100000 in
theorem qZ.calls (k : Nat) (P0_ : Nat → Prop) (u9000_ : Value) (l0 : List Int) (a1 : Int) (r1 : Int) (r2 : List Int) (w0 w : World) (hB : Below w0.heap.size w0 w) (ho0 : Kd.R (Kd.int .i64) 2 w w0.heap.size P0_ u9000_ l0) (h : qZ.f k l0 a1 = some (r1, r2)) :
    Calls Try.prog 29 #[u9000_, .int .i64 a1] w fun e w' => e = .returned (.int .i64 r1) ∧ Kd.R (Kd.int .i64) 2 w' w0.heap.size (fun k_ => (P0_ k_ ∨ w.heap.size ≤ k_)) u9000_ r2 ∧ Below w0.heap.size w0 w' ∧ Kept w w' (fun k_ => P0_ k_) := by
  have HO0 := zA.mk (show Kd.R (Kd.int .i64) 2 w w0.heap.size (fun k_ => (P0_ k_ ∨ w.heap.size ≤ k_)) u9000_ l0 from Kd.qW ho0 (fun k_ hk => (.inl hk)))
  have HK := zA.mk (Kept.refl w (fun k_ => P0_ k_))
  have HW0 := zA.mk hB.size
  have HB := zA.mk hB
  clear hB
  have H : (qZ.l0 k l0 a1 0) = some (r1, r2) := h
  clear h
  have H' := zA.mk H
  clear H
  go_enter Try.func29, Try.ntmps29
  go_wp2
  go_loopg [1, 5] k (fun kq v1 v5 w' => ∃ (x0_1 : List Int) (x1_1 : Int) (x5_1 : Int), v1 = .int .i64 x1_1 ∧ v5 = .int .i64 x5_1 ∧ zA (qZ.l0 kq x0_1 x1_1 x5_1 = some (r1, r2)) ∧ zA (kq ≤ k) ∧ zA (Kd.R (Kd.int .i64) 2 w' w0.heap.size (fun k_ => (P0_ k_ ∨ w.heap.size ≤ k_)) u9000_ x0_1) ∧ zA (Kept w w' (fun k_ => P0_ k_)) ∧ zA (Below w0.heap.size w0 w'))
  case atStart => exact ⟨(l0), (a1), (0), (by first | rfl | (simp; done) | (simp [*]; done)), (by first | rfl | (simp; done) | (simp [*]; done)), H', ⟨yqy _⟩, ⟨by (with_reducible repeat (first | apply Kd.zm | apply Kd.zk | apply Kd.zu)); exact HO0.out⟩, ⟨by repeat (first | (with_reducible first | exact HK.out | apply Kept.alloc | apply Kept.drewN | apply Kept.drew) | exact HK.out)⟩, ⟨by repeat (first | (with_reducible first | exact HB.out | apply zC | apply zB | apply zD) | exact HB.out)⟩⟩
  case round =>
    clear H'
    try clear c2
    try clear p2
    obtain ⟨x0_1, x1_1, x5_1, rfl, rfl, HA, HK1, HO_0, HK, HB⟩ := hrel
    cases gk with
    | zero => exact absurd HA.out (by simp [qZ.l0])
    | succ k1 =>
      have H := HA.out
      clear HA
      simp only [qZ.l0] at H
      by_cases c3 : x5_1 < (x0_1.length : Int)
      · rw [if_pos c3] at H
        have c3b0 : decide (x5_1 < (x0_1.length : Int)) = true := ygy c3
        clear c3
        by_cases c4 : 0 ≤ x5_1
        · rw [if_pos c4] at H
          have c4b0 : decide (0 ≤ x5_1) = true := ygy c4
          clear c4
          obtain ⟨y101, hy101⟩ : ∃ y_ : List Int, y_ = (x0_1.set (x5_1 : Int).toNat x1_1) := ⟨_, rfl⟩
          replace H : (qZ.l0 k1 y101 (wrap64 (x1_1 + 1)) (wrap64 (x5_1 + 1))) = some (r1, r2) := by first | (rw [hy101]; with_reducible exact H) | (have H2_ := (yfy _ _).symm.trans H; rw [hy101]; with_reducible exact H2_) | (have H2_ := (yfy _ _).symm.trans H; with_reducible exact H2_) | with_reducible exact H | (rw [hy101]; exact H) | exact H
          have Ny101 := zA.mk hy101
          clear hy101
          have H' := zA.mk H
          clear H
          obtain ⟨Ao6, co6, eo6⟩ := Kd.ZP HO_0.out
          subst eo6
          have p5 : 0 ≤ (x5_1 : Int) := of_decide_eq_true (by first | (with_reducible assumption) | assumption)
          have q5 : (x5_1 : Int) < ((x0_1.length : Int) : Int) := of_decide_eq_true (by first | (with_reducible assumption) | assumption)
          obtain ⟨go5, co5, eo5, gb5, gl5, cl5, HG5⟩ := Kd.zA3 HO_0.out (by omega)
          (first | cases eo5 | (injection eo5 with ea_ en_ ec_; (first | subst ea_ | (injection ea_ with ea_; subst ea_)); subst ec_; clear en_))
          have GB5 := zA.mk gb5
          have GG5 := zA.mk HG5
          clear gb5 gl5 HG5
          have HMgo5 := zA.mk (show (P0_ go5 ∨ w.heap.size ≤ go5) from (HO_0.out.1 _ rfl))
          obtain ⟨hx5_0, hf5_0⟩ := Kd.Zw 0 HO_0.out (x5_1 : Int) p5 q5
          replace p5 := eq_true p5
          replace q5 := eq_true q5
          have HP7 := Kd.Jh HO_0.out (x5_1 : Int) x1_1
          go_wp2_with (first | ((with_reducible refine ZH (t := 2) (p := 15) rfl ?_); refine qz (t := 2) (p := 15) (v := ?vo_w8) (w1 := (wr.setCell ⟨go5, (x5_1 : Int).toNat, none⟩ (.int .i64 x1_1))) ?hg ?ho ?hn ?hr ?_; (case ho => rfl); (case hg => rfl); (case hn => rfl); (case hr => first | (go_simp; done) | (go_simp; rfl)); intro w8 hw; have hg : wr.grownBy w8 (some go5) := (by rw [hw]; exact HP7.2); have hp_ : Kd.R (Kd.int .i64) 2 w8 w0.heap.size (fun k_ => (P0_ k_ ∨ w.heap.size ≤ k_)) (.slice (some ⟨go5, 0, none⟩) x0_1.length co6) y101 := (by rw [hw, Ny101.out]; exact HP7.1); clear HP7; have n0_ := zA.mk (hp_); have n1_ := zA.mk ((by rw [hw]; exact zF (HB.out) GB5.out : Below w0.heap.size w0 w8)); have n2_ := zA.mk (Kept.Jy (S := (fun k_ => P0_ k_)) hg (by repeat (first | (with_reducible first | exact HK.out | apply Kept.alloc | apply Kept.drewN | apply Kept.drew) | exact HK.out)) (fun k_ e_ => (HO_0.out.1 k_ e_))); clear HO_0; clear HB; clear HK; have HO_0 := n0_; have HB := n1_; have HK := n2_; clear n0_ n1_ n2_; clear hg hw hp_))
          go_roundg k1
          case measure => have := HK1.out; omega
          case rel => exact ⟨(y101), (wrap64 (x1_1 + 1)), (wrap64 (x5_1 + 1)), (by first | rfl | (simp; done) | (simp [*]; done)), (by first | rfl | (simp; done) | (simp [*]; done)), H', ⟨by have := HK1.out; omega⟩, ⟨by (with_reducible repeat (first | apply Kd.zm | apply Kd.zk | apply Kd.zu)); exact HO_0.out⟩, ⟨by repeat (first | (with_reducible first | exact HK.out | apply Kept.alloc | apply Kept.drewN | apply Kept.drew) | exact HK.out)⟩, ⟨by repeat (first | (with_reducible first | exact HB.out | apply zC | apply zB | apply zD) | exact HB.out)⟩⟩
        · rw [if_neg c4] at H
          exact absurd H (by simp)
      · rw [if_neg c3] at H
        have c3b0 : decide (x5_1 < (x0_1.length : Int)) = false := yhy c3
        clear c3
        simp only [Option.some.injEq, Prod.mk.injEq] at H
        obtain ⟨rfl, rfl⟩ := H
        obtain ⟨Ao9, co9, eo9⟩ := Kd.ZP HO_0.out
        subst eo9
        go_wp2
        go_ret
        exact ⟨by first | rfl | (simp [zQ, zR] <;> rfl) | (simp [*, zQ, zR] <;> rfl), by (with_reducible repeat (first | apply Kd.zm | apply Kd.zk | apply Kd.zu)); exact HO_0.out, by repeat (first | (with_reducible first | exact HB.out | apply zC | apply zB | apply zD) | exact HB.out), by repeat (first | (with_reducible first | exact HK.out | apply Kept.alloc | apply Kept.drewN | apply Kept.drew) | exact HK.out)⟩
def qb.l0 : Nat → List (zq) → Int → Int → Option (Int × (List (zq)))
  | 0, _, _, _ => none
  | k + 1, x0, x1, x5 => if x5 < (x0.length : Int) then (if 0 ≤ x5 then ((some (x0.set (x5 : Int).toNat (⟨x1, (zG x0 x5).f1⟩ : zq) : List (zq))).bind fun y101 => (qb.l0 k (y101.set (x5 : Int).toNat (⟨(zG y101 x5).f0, wrap64 (x1 + 1)⟩ : zq)) (wrap64 ((wrap64 (x1 + 1)) + 1)) (wrap64 (x5 + 1)))) else (none)) else (some (x1, x0))
def qb.f (k : Nat) (l0 : List (zq)) (a1 : Int) : Option (Int × (List (zq))) := qb.l0 k l0 a1 0
set_option maxHeartbeats 8000000 in
set_option maxRecDepth 100000 in
theorem qb.calls (k : Nat) (P0_ : Nat → Prop) (u9000_ : Value) (l0 : List (zq)) (a1 : Int) (r1 : Int) (r2 : List (zq)) (w0 w : World) (hB : Below w0.heap.size w0 w) (ho0 : Kd.R qx 59 w w0.heap.size P0_ u9000_ l0) (h : qb.f k l0 a1 = some (r1, r2)) :
    Calls Try.prog 93 #[u9000_, .int .i64 a1] w fun e w' => e = .returned (.int .i64 r1) ∧ Kd.R qx 59 w' w0.heap.size (fun k_ => (P0_ k_ ∨ w.heap.size ≤ k_)) u9000_ r2 ∧ Below w0.heap.size w0 w' ∧ Kept w w' (fun k_ => P0_ k_) := by
  have HO0 := zA.mk (show Kd.R qx 59 w w0.heap.size (fun k_ => (P0_ k_ ∨ w.heap.size ≤ k_)) u9000_ l0 from Kd.qW ho0 (fun k_ hk => (.inl hk)))
  have HK := zA.mk (Kept.refl w (fun k_ => P0_ k_))
  have HW0 := zA.mk hB.size
  have HB := zA.mk hB
  clear hB
  have H : (qb.l0 k l0 a1 0) = some (r1, r2) := h
  clear h
  have H' := zA.mk H
  clear H
  go_enter Try.func93, Try.ntmps93
  go_wp2
  go_loopg [1, 5] k (fun kq v1 v5 w' => ∃ (x0_1 : List (zq)) (x1_1 : Int) (x5_1 : Int), v1 = .int .i64 x1_1 ∧ v5 = .int .i64 x5_1 ∧ zA (qb.l0 kq x0_1 x1_1 x5_1 = some (r1, r2)) ∧ zA (kq ≤ k) ∧ zA (Kd.R qx 59 w' w0.heap.size (fun k_ => (P0_ k_ ∨ w.heap.size ≤ k_)) u9000_ x0_1) ∧ zA (Kept w w' (fun k_ => P0_ k_)) ∧ zA (Below w0.heap.size w0 w'))
  case atStart => exact ⟨(l0), (a1), (0), (by first | rfl | (simp; done) | (simp [*]; done)), (by first | rfl | (simp; done) | (simp [*]; done)), H', ⟨yqy _⟩, ⟨by (with_reducible repeat (first | apply Kd.zm | apply Kd.zk | apply Kd.zu)); exact HO0.out⟩, ⟨by repeat (first | (with_reducible first | exact HK.out | apply Kept.alloc | apply Kept.drewN | apply Kept.drew) | exact HK.out)⟩, ⟨by repeat (first | (with_reducible first | exact HB.out | apply zC | apply zB | apply zD) | exact HB.out)⟩⟩
  case round =>
    clear H'
    try clear p2
    obtain ⟨x0_1, x1_1, x5_1, rfl, rfl, HA, HK1, HO_0, HK, HB⟩ := hrel
    cases gk with
    | zero => exact absurd HA.out (by simp [qb.l0])
    | succ k1 =>
      have H := HA.out
      clear HA
      simp only [qb.l0] at H
      by_cases c3 : x5_1 < (x0_1.length : Int)
      · rw [if_pos c3] at H
        have c3b0 : decide (x5_1 < (x0_1.length : Int)) = true := ygy c3
        clear c3
        by_cases c4 : 0 ≤ x5_1
        · rw [if_pos c4] at H
          have c4b0 : decide (0 ≤ x5_1) = true := ygy c4
          clear c4
          obtain ⟨y101, hy101⟩ : ∃ y_ : List (zq), y_ = (x0_1.set (x5_1 : Int).toNat (⟨x1_1, (zG x0_1 x5_1).f1⟩ : zq)) := ⟨_, rfl⟩
          replace H : (qb.l0 k1 (y101.set (x5_1 : Int).toNat (⟨(zG y101 x5_1).f0, wrap64 (x1_1 + 1)⟩ : zq)) (wrap64 ((wrap64 (x1_1 + 1)) + 1)) (wrap64 (x5_1 + 1))) = some (r1, r2) := by first | (rw [hy101]; with_reducible exact H) | (have H2_ := (yfy _ _).symm.trans H; rw [hy101]; with_reducible exact H2_) | (have H2_ := (yfy _ _).symm.trans H; with_reducible exact H2_) | with_reducible exact H | (rw [hy101]; exact H) | exact H
          have Ny101 := zA.mk hy101
          clear hy101
          obtain ⟨y102, hy102⟩ : ∃ y_ : List (zq), y_ = (y101.set (x5_1 : Int).toNat (⟨(zG y101 x5_1).f0, wrap64 (x1_1 + 1)⟩ : zq)) := ⟨_, rfl⟩
          replace H : (qb.l0 k1 y102 (wrap64 ((wrap64 (x1_1 + 1)) + 1)) (wrap64 (x5_1 + 1))) = some (r1, r2) := by first | (rw [hy102]; with_reducible exact H) | (have H2_ := (yfy _ _).symm.trans H; rw [hy102]; with_reducible exact H2_) | (have H2_ := (yfy _ _).symm.trans H; with_reducible exact H2_) | with_reducible exact H | (rw [hy102]; exact H) | exact H
          have Ny102 := zA.mk hy102
          clear hy102
          have H' := zA.mk H
          clear H
          obtain ⟨Ao7, co7, eo7⟩ := Kd.ZP HO_0.out
          subst eo7
          have p5 : 0 ≤ (x5_1 : Int) := of_decide_eq_true (by first | (with_reducible assumption) | assumption)
          have q5 : (x5_1 : Int) < ((x0_1.length : Int) : Int) := of_decide_eq_true (by first | (with_reducible assumption) | assumption)
          obtain ⟨go5, co5, eo5, gb5, gl5, cl5, HG5⟩ := Kd.zA3 HO_0.out (by omega)
          (first | cases eo5 | (injection eo5 with ea_ en_ ec_; (first | subst ea_ | (injection ea_ with ea_; subst ea_)); subst ec_; clear en_))
          have GB5 := zA.mk gb5
          have GG5 := zA.mk HG5
          clear gb5 gl5 HG5
          have HMgo5 := zA.mk (show (P0_ go5 ∨ w.heap.size ≤ go5) from (HO_0.out.1 _ rfl))
          obtain ⟨ce5, hcl5, hM5, hcc5, hfr5⟩ := Kd.Qv HO_0.out Jc (x5_1 : Int) p5 q5
          obtain rfl := QU hM5
          have hx5_0 : wr.cell? ⟨go5, (x5_1 : Int).toNat * 2, none⟩ = some (.int .i64 ((zG x0_1 x5_1).f0)) := hcc5 0 _ rfl
          have hx5_1 : wr.cell? ⟨go5, (x5_1 : Int).toNat * 2 + 1, none⟩ = some (.int .i64 ((zG x0_1 x5_1).f1)) := hcc5 1 _ rfl
          have hf5_0 : wr.frozen? ⟨go5, (x5_1 : Int).toNat * 2, none⟩ = false := hfr5 0
          have hf5_1 : wr.frozen? ⟨go5, (x5_1 : Int).toNat * 2 + 1, none⟩ = false := hfr5 1
          clear hcl5 hcc5 hfr5 hM5
          replace p5 := eq_true p5
          replace q5 := eq_true q5
          have HX8 := zA.mk (show Kd.R qx 59 wr w0.heap.size (fun k_ => (P0_ k_ ∨ w.heap.size ≤ k_)) (.slice (some ⟨go5, 0, none⟩) x0_1.length co7) x0_1 from (by (with_reducible repeat (first | apply Kd.zm | apply Kd.zk | apply Kd.zu)); exact HO_0.out))
          obtain ⟨ce8, hcl8, hM8, hcc8, hfr8⟩ := Kd.Qv HX8.out Jc (x5_1 : Int) (of_decide_eq_true (by first | (with_reducible assumption) | assumption)) (by have h_ : (x5_1 : Int) < ((x0_1.length : Int) : Int) := of_decide_eq_true (by first | (with_reducible assumption) | assumption); first | exact h_ | (have e_ := (Kd.zv HO_0.out).1; omega) | simpa using h_)
          obtain rfl := QU hM8
          have HP8 := Kd.zDH HX8.out (x5_1 : Int) (of_decide_eq_true (by first | (with_reducible assumption) | assumption)) (by have h_ : (x5_1 : Int) < ((x0_1.length : Int) : Int) := of_decide_eq_true (by first | (with_reducible assumption) | assumption); first | exact h_ | (have e_ := (Kd.zv HO_0.out).1; omega) | simpa using h_) (seg := [.int .i64 x1_1]) (j := 0) hcl8 hcc8 (show 1 ≤ 2 from by decide) (x' := (⟨x1_1, (zG x0_1 x5_1).f1⟩ : zq)) (zAK _ _ _ (⟨x1_1, (zG x0_1 x5_1).f1⟩ : zq) ) (fun _ hk => hk)
          have hx8_0 := hcc8 0 _ rfl
          (try simp only [show (qx).sz = 2 from rfl, Nat.mul_one, Nat.add_zero] at hx8_0)
          have hf8_0 := hfr8 0
          (try simp only [show (qx).sz = 2 from rfl, Nat.mul_one, Nat.add_zero] at hf8_0)
          clear hcl8 hcc8 hfr8 hM8
          go_wp2_with (first | ((with_reducible refine ZH (t := 2) (p := 16) rfl ?_); refine qz (t := 2) (p := 16) (v := ?vo_w9) (w1 := (wr.setCell ⟨go5, (x5_1 : Int).toNat * 2, none⟩ (.int .i64 x1_1))) ?hg ?ho ?hn ?hr ?_; (case ho => rfl); (case hg => rfl); (case hn => rfl); (case hr => first | (go_simp; done) | (go_simp; rfl)); intro w9 hw; have hg : wr.grownBy w9 (some go5) := (by rw [hw]; exact HP8.2); have hp_ : Kd.R qx 59 w9 w0.heap.size (fun k_ => (P0_ k_ ∨ w.heap.size ≤ k_)) (.slice (some ⟨go5, 0, none⟩) x0_1.length co7) y101 := (by rw [hw, Ny101.out]; exact HP8.1); clear HP8; have n0_ := zA.mk (hp_); have n1_ := zA.mk ((by rw [hw]; exact zF (HB.out) GB5.out : Below w0.heap.size w0 w9)); have n2_ := zA.mk (Kept.Jy (S := (fun k_ => P0_ k_)) hg (by repeat (first | (with_reducible first | exact HK.out | apply Kept.alloc | apply Kept.drewN | apply Kept.drew) | exact HK.out)) (fun k_ e_ => (HO_0.out.1 k_ e_))); clear HO_0; clear HB; clear HK; have HO_0 := n0_; have HB := n1_; have HK := n2_; clear n0_ n1_ n2_; clear hg hw hp_; have p6 : 0 ≤ (x5_1 : Int) := of_decide_eq_true (by first | (with_reducible assumption) | assumption); have q6 : (x5_1 : Int) < ((x0_1.length : Int) : Int) := of_decide_eq_true (by first | (with_reducible assumption) | assumption); obtain ⟨ce6, hcl6, hM6, hcc6, hfr6⟩ := Kd.Qv HO_0.out Jc (x5_1 : Int) p6 q6; obtain rfl := QU hM6; have hx6_0 : w9.cell? ⟨go5, (x5_1 : Int).toNat * 2, none⟩ = some (.int .i64 ((zG y101 x5_1).f0)) := hcc6 0 _ rfl; have hx6_1 : w9.cell? ⟨go5, (x5_1 : Int).toNat * 2 + 1, none⟩ = some (.int .i64 ((zG y101 x5_1).f1)) := hcc6 1 _ rfl; have hf6_0 : w9.frozen? ⟨go5, (x5_1 : Int).toNat * 2, none⟩ = false := hfr6 0; have hf6_1 : w9.frozen? ⟨go5, (x5_1 : Int).toNat * 2 + 1, none⟩ = false := hfr6 1; clear hcl6 hcc6 hfr6; (try clear hM6); replace p6 := eq_true p6; replace q6 := eq_true q6; have HX10 := zA.mk (show Kd.R qx 59 w9 w0.heap.size (fun k_ => (P0_ k_ ∨ w.heap.size ≤ k_)) (.slice (some ⟨go5, 0, none⟩) x0_1.length co7) y101 from (by (with_reducible repeat (first | apply Kd.zm | apply Kd.zk | apply Kd.zu)); exact HO_0.out)); obtain ⟨ce10, hcl10, hM10, hcc10, hfr10⟩ := Kd.Qv HX10.out Jc (x5_1 : Int) (of_decide_eq_true (by first | (with_reducible assumption) | assumption)) (by have h_ : (x5_1 : Int) < ((x0_1.length : Int) : Int) := of_decide_eq_true (by first | (with_reducible assumption) | assumption); first | exact h_ | (have e_ := (Kd.zv HO_0.out).1; omega) | simpa using h_); obtain rfl := QU hM10; have HP10 := Kd.zDH HX10.out (x5_1 : Int) (of_decide_eq_true (by first | (with_reducible assumption) | assumption)) (by have h_ : (x5_1 : Int) < ((x0_1.length : Int) : Int) := of_decide_eq_true (by first | (with_reducible assumption) | assumption); first | exact h_ | (have e_ := (Kd.zv HO_0.out).1; omega) | simpa using h_) (seg := [.int .i64 (wrap64 (x1_1 + 1))]) (j := 1) hcl10 hcc10 (show 2 ≤ 2 from by decide) (x' := (⟨(zG y101 x5_1).f0, wrap64 (x1_1 + 1)⟩ : zq)) (zAK _ _ _ (⟨(zG y101 x5_1).f0, wrap64 (x1_1 + 1)⟩ : zq) ) (fun _ hk => hk); have hx10_1 := hcc10 1 _ rfl; (try simp only [show (qx).sz = 2 from rfl, Nat.mul_one, Nat.add_zero] at hx10_1); have hf10_1 := hfr10 1; (try simp only [show (qx).sz = 2 from rfl, Nat.mul_one, Nat.add_zero] at hf10_1); clear hcl10 hcc10 hfr10 hM10) | ((with_reducible refine ZH (t := 2) (p := 23) rfl ?_); refine qz (t := 2) (p := 23) (v := ?vo_w11) (w1 := (w9.setCell ⟨go5, (x5_1 : Int).toNat * 2 + 1, none⟩ (.int .i64 (wrap64 (x1_1 + 1))))) ?hg ?ho ?hn ?hr ?_; (case ho => rfl); (case hg => rfl); (case hn => rfl); (case hr => first | (go_simp; done) | (go_simp; rfl)); intro w11 hw; have hg : w9.grownBy w11 (some go5) := (by rw [hw]; exact HP10.2); have hp_ : Kd.R qx 59 w11 w0.heap.size (fun k_ => (P0_ k_ ∨ w.heap.size ≤ k_)) (.slice (some ⟨go5, 0, none⟩) x0_1.length co7) y102 := (by rw [hw, Ny102.out]; exact HP10.1); clear HP10; have n0_ := zA.mk (hp_); have n1_ := zA.mk ((by rw [hw]; exact zF (HB.out) GB5.out : Below w0.heap.size w0 w11)); have n2_ := zA.mk (Kept.Jy (S := (fun k_ => P0_ k_)) hg (by repeat (first | (with_reducible first | exact HK.out | apply Kept.alloc | apply Kept.drewN | apply Kept.drew) | exact HK.out)) (fun k_ e_ => (HO_0.out.1 k_ e_))); clear HO_0; clear HB; clear HK; have HO_0 := n0_; have HB := n1_; have HK := n2_; clear n0_ n1_ n2_; clear hg hw hp_))
          go_roundg k1
          case measure => have := HK1.out; omega
          case rel => exact ⟨(y102), (wrap64 ((wrap64 (x1_1 + 1)) + 1)), (wrap64 (x5_1 + 1)), (by first | rfl | (simp; done) | (simp [*]; done)), (by first | rfl | (simp; done) | (simp [*]; done)), H', ⟨by have := HK1.out; omega⟩, ⟨by (with_reducible repeat (first | apply Kd.zm | apply Kd.zk | apply Kd.zu)); exact HO_0.out⟩, ⟨by repeat (first | (with_reducible first | exact HK.out | apply Kept.alloc | apply Kept.drewN | apply Kept.drew) | exact HK.out)⟩, ⟨by repeat (first | (with_reducible first | exact HB.out | apply zC | apply zB | apply zD) | exact HB.out)⟩⟩
        · rw [if_neg c4] at H
          exact absurd H (by simp)
      · rw [if_neg c3] at H
        have c3b0 : decide (x5_1 < (x0_1.length : Int)) = false := yhy c3
        clear c3
        simp only [Option.some.injEq, Prod.mk.injEq] at H
        obtain ⟨rfl, rfl⟩ := H
        obtain ⟨Ao12, co12, eo12⟩ := Kd.ZP HO_0.out
        subst eo12
        go_wp2
        go_ret
        exact ⟨by first | rfl | (simp [zQ, zR] <;> rfl) | (simp [*, zQ, zR] <;> rfl), by (with_reducible repeat (first | apply Kd.zm | apply Kd.zk | apply Kd.zu)); exact HO_0.out, by repeat (first | (with_reducible first | exact HB.out | apply zC | apply zB | apply zD) | exact HB.out), by repeat (first | (with_reducible first | exact HK.out | apply Kept.alloc | apply Kept.drewN | apply Kept.drew) | exact HK.out)⟩
def qv.go (k : Nat) : Nat → List (List zq) → Int → Nat → Option (Int × List (List zq))
  | 0, l, a, _ => some (a, l)
  | d + 1, l, a, i => (qb.f k (l.getD i []) a).bind fun p => qv.go k d (l.set i p.2) p.1 (i + 1)
def qv.f (k : Nat) (l : List (List zq)) (a : Int) : Option (Int × List (List zq)) := qv.go k l.length l a 0
set_option maxHeartbeats 8000000 in
set_option maxRecDepth 100000 in
theorem qv.calls (k : Nat) (P0_ : Nat → Prop) (v : Value) (l0 : List (List zq)) (a1 r1 : Int) (r2 : List (List zq)) (w0 w : World) (hB : Below w0.heap.size w0 w) (ho0 : Kd.S (Kd.slice 59 qx) 60 w w0.heap.size P0_ v l0) (h : qv.f k l0 a1 = some (r1, r2)) :
    Calls Try.prog 54 #[v, .int .i64 a1] w fun e w' => e = .returned (.int .i64 r1) ∧ Kd.S (Kd.slice 59 qx) 60 w' w0.heap.size P0_ v r2 ∧ Below w0.heap.size w0 w' ∧ Kept w w' P0_ := by
  obtain ⟨A, c, rfl⟩ := Kd.JS ho0
  have hbig : l0.length ≤ 9223372036854775807 := (Kd.QK ho0).2.2.2.1
  have HO := zA.mk ho0
  have HB := zA.mk hB
  have HK := zA.mk (Kept.refl w P0_)
  have H' := zA.mk (show qv.go k l0.length l0 a1 0 = some (r1, r2) from h)
  clear h hB ho0
  go_enter Try.func54, Try.ntmps54
  go_wp2
  go_loopg [1, 5] l0.length (fun gg v1 v5 w' => ∃ (d i : Nat) (l : List (List zq)) (a : Int), i + d = l0.length ∧ d ≤ gg ∧ zA (l.length = l0.length) ∧ v1 = .int .i64 a ∧ v5 = .int .i64 i ∧ zA (qv.go k d l a i = some (r1, r2)) ∧ zA (Kd.S (Kd.slice 59 qx) 60 w' w0.heap.size P0_ (.slice A l0.length c) l) ∧ zA (Below w0.heap.size w0 w') ∧ zA (Kept w w' P0_))
  case atStart => exact ⟨l0.length, 0, l0, a1, by omega, by omega, ⟨rfl⟩, rfl, rfl, H', HO, HB, HK⟩
  case round =>
    clear H' HO HB HK
    obtain ⟨d, i, l, a, hid, hg, HL, rfl, rfl, HA, HO, HB, HK⟩ := hrel
    cases d with
    | zero =>
      obtain rfl : i = l0.length := by omega
      have H2 := zA.mk (yey HA.out)
      clear HA
      go_wp2
      go_ret
      obtain ⟨e1, e2⟩ := Prod.mk.inj H2.out
      exact ⟨by rw [e1]; rfl, by rw [← e2]; exact HO.out, HB.out, HK.out⟩
    | succ d =>
      have hltz : (i : Int) < (l0.length : Int) := by omega
      have hL := HL.out
      obtain ⟨p, hp, H⟩ := ydy.mp HA.out
      obtain ⟨p1, p2⟩ := p
      have HH := zA.mk H
      have HP := zA.mk hp
      clear HA hp H
      rcases A with _ | ad
      · obtain ⟨g, cap, ev, _, _, _⟩ := Kd.zFw HO.out (by omega)
        cases ev
      obtain ⟨oki, cs, hcl, hM, hcc, hoki, hback⟩ := Kd.zFY (ad := ad) HO.out [] (i : Int) (by omega) (by omega)
      obtain ⟨v1, rfl, hR⟩ := hM
      have hx := hcc 0 v1 rfl
      rw [yny] at hR hx hback
      have hx2 : wr.cell? (ad.add i) = some v1 := by
        have e : i * (Kd.slice 59 qx).sz + 0 = i := by show i * 1 + 0 = i; omega
        rw [e] at hx; exact hx
      clear hcl hcc hx
      have HR := zA.mk (Kd.JA rfl hR)
      have HI := zA.mk (show ∀ k_, v1.ownBlock = some k_ → oki k_ from hR.1)
      have HOK := zA.mk hoki
      have HBK := zA.mk (@hback)
      clear hR hoki hback
      generalize l.getD i [] = y at HP HR
      obtain ⟨A1, c1, rfl⟩ := Kd.ZP HR.out
      clear hL
      go_wp2_with (first | (go_at_call 93; (with_reducible refine (qb.calls k (fun k_ => some k_ = (.slice A1 y.length c1 : Value).ownBlock) (.slice A1 y.length c1) y a p1 p2 w0 _ HB.out HR.out HP.out).mono ?_); rintro e w' ⟨rfl, hy, hb, hk⟩; have HO2 := zA.mk (HBK.out (w1 := w') (row := (.slice A1 y.length c1 : Value).ownBlock) (x' := p2) ⟨hb.os.trans HB.out.os.symm, hb.tape.trans HB.out.tape.symm, hb.output.trans HB.out.output.symm, hk.1, fun k_ h1 h2 => hk.2 k_ h1 h2⟩ (fun k_ e_ => HI.out k_ e_) ⟨_, rfl, Kd.zG1 rfl hy (fun k_ e_ => HI.out k_ e_)⟩); have HB2 := zA.mk hb; have HK2 := zA.mk (HK.out.zFa hk (fun k_ e_ => .inl (HOK.out k_ (HI.out k_ e_.symm)).1)); clear hy hb hk HB HK HBK HO))
      go_roundg d
      case measure => omega
      case rel => exact ⟨d, i + 1, l.set i p2, p1, by omega, by omega, ⟨by rw [List.length_set]; exact HL.out⟩, rfl, by go_num, HH, HO2, HB2, HK2⟩
def ZX.f (k : Nat) (l : List (List zq)) (a : Int) : Option (Int × List (List zq)) := qv.f k l a
set_option maxHeartbeats 8000000 in
set_option maxRecDepth 100000 in
theorem ZX.calls (k : Nat) (P0_ : Nat → Prop) (v : Value) (l0 : List (List zq)) (a1 r1 : Int) (r2 : List (List zq)) (w0 w : World) (hB : Below w0.heap.size w0 w) (ho0 : Kd.S (Kd.slice 59 qx) 60 w w0.heap.size P0_ v l0) (h : ZX.f k l0 a1 = some (r1, r2)) :
    Calls Try.prog 15 #[.agg #[v], .int .i64 a1] w fun e w' => e = .returned (.int .i64 r1) ∧ Kd.S (Kd.slice 59 qx) 60 w' w0.heap.size P0_ v r2 ∧ Below w0.heap.size w0 w' ∧ Kept w w' P0_ := by
  obtain ⟨A, c, rfl⟩ := Kd.JS ho0
  have HO := zA.mk ho0
  have HB := zA.mk hB
  have H' := zA.mk h
  clear h hB ho0
  go_enter Try.func15, Try.ntmps15
  go_wp2_with fail
  refine (qv.calls k P0_ (.slice A l0.length c) l0 a1 r1 r2 w0 _ (zC HB.out _) (Kd.qN HO.out _) H'.out).mono ?_
  rintro e w' ⟨rfl, hy, hb, hk⟩
  have HO2 := zA.mk hy
  have HB2 := zA.mk hb
  have HK2 := zA.mk ((Kept.refl w P0_).alloc _ |>.zFa hk (fun _ h_ => .inl h_))
  clear hy hb hk HO HB H'
  go_wp2
  go_ret
  exact ⟨rfl, HO2.out, HB2.out, HK2.out⟩
def Zy.f (l0 : List (qR)) (a1 : Int) : Option (Int) := if (wrap64 (a1 - (l0.length : Int))) < 0 then (some (-1)) else (some (wrap64 (a1 - (l0.length : Int))))
set_option maxHeartbeats 8000000 in
set_option maxRecDepth 100000 in
theorem Zy.calls (A0 : Option Addr) (c0 : Nat) (l0 : List (qR)) (a1 : Int) (r : Int) (w : World) (hr0 : Kd.C QA w A0 l0.length l0) (hc0 : l0.length ≤ c0) (h : Zy.f l0 a1 = some r) :
    Calls Try.prog 74 #[.slice A0 l0.length c0, .int .i64 a1] w fun e w' => e = .returned (.int .i64 r) ∧ zZ w w' := by
  have HR0 := zA.mk hr0
  have HC0 := zA.mk hc0
  clear hr0 hc0
  have H : (if (wrap64 (a1 - (l0.length : Int))) < 0 then (some (-1)) else (some (wrap64 (a1 - (l0.length : Int))))) = some r := h
  clear h
  by_cases c3 : (wrap64 (a1 - (l0.length : Int))) < 0
  · rw [if_pos c3] at H
    have c3b0 : decide ((wrap64 (a1 - (l0.length : Int))) < 0) = true := ygy c3
    clear c3
    obtain rfl := yey H
    go_enter Try.func74, Try.ntmps74
    go_wp2
    go_ret
    exact ⟨by first | rfl | (simp; done) | (simp [*]; done), by repeat (first | exact zZ.refl _ | apply zZ.step)⟩
  · rw [if_neg c3] at H
    have c3b0 : decide ((wrap64 (a1 - (l0.length : Int))) < 0) = false := yhy c3
    clear c3
    obtain rfl := yey H
    go_enter Try.func74, Try.ntmps74
    go_wp2
    go_ret
    exact ⟨by first | rfl | (simp; done) | (simp [*]; done), by repeat (first | exact zZ.refl _ | apply zZ.step)⟩
def qT.l0 : Nat → List (List (qR)) → Int → Int → Option (Int)
  | 0, _, _, _ => none
  | k + 1, x0, x1, x5 => if x5 < (x0.length : Int) then (if 0 ≤ x5 then ((Zy.f (ZQ x0 x5) x1).bind fun t102 => (if t102 < 0 then (some (-1)) else (qT.l0 k x0 t102 (wrap64 (x5 + 1))))) else (none)) else (some x1)
def qT.f (k : Nat) (l0 : List (List (qR))) (a1 : Int) : Option (Int) := if (wrap64 (a1 - (l0.length : Int))) < 0 then (some (-1)) else (qT.l0 k l0 (wrap64 (a1 - (l0.length : Int))) 0)
set_option maxHeartbeats 8000000 in
set_option maxRecDepth 100000 in
theorem qT.calls (k : Nat) (A0 : Option Addr) (c0 : Nat) (l0 : List (List (qR))) (a1 : Int) (r : Int) (w : World) (hr0 : Kd.C (Kd.slice 123 QA) w A0 l0.length l0) (hc0 : l0.length ≤ c0) (h : qT.f k l0 a1 = some r) :
    Calls Try.prog 32 #[.slice A0 l0.length c0, .int .i64 a1] w fun e w' => e = .returned (.int .i64 r) ∧ zZ w w' := by
  have HR0 := zA.mk hr0
  have HC0 := zA.mk hc0
  clear hr0 hc0
  have H : (if (wrap64 (a1 - (l0.length : Int))) < 0 then (some (-1)) else (qT.l0 k l0 (wrap64 (a1 - (l0.length : Int))) 0)) = some r := h
  clear h
  by_cases c3 : (wrap64 (a1 - (l0.length : Int))) < 0
  · rw [if_pos c3] at H
    have c3b0 : decide ((wrap64 (a1 - (l0.length : Int))) < 0) = true := ygy c3
    clear c3
    obtain rfl := yey H
    go_enter Try.func32, Try.ntmps32
    go_wp2
    go_ret
    exact ⟨by first | rfl | (simp; done) | (simp [*]; done), by repeat (first | exact zZ.refl _ | apply zZ.step)⟩
  · rw [if_neg c3] at H
    have c3b0 : decide ((wrap64 (a1 - (l0.length : Int))) < 0) = false := yhy c3
    clear c3
    have H' := zA.mk H
    clear H
    go_enter Try.func32, Try.ntmps32
    go_wp2
    go_loopg [1, 5] k (fun kq v1 v5 w' => ∃ (x1_1 : Int) (x5_1 : Int), v1 = .int .i64 x1_1 ∧ v5 = .int .i64 x5_1 ∧ zA (qT.l0 kq l0 x1_1 x5_1 = some r) ∧ zA (kq ≤ k) ∧ zZ w w')
    case atStart => exact ⟨(wrap64 (a1 - (l0.length : Int))), (0), (by first | rfl | (simp; done) | (simp [*]; done)), (by first | rfl | (simp; done) | (simp [*]; done)), H', ⟨yqy _⟩, by repeat (first | exact zZ.refl _ | apply zZ.step)⟩
    case round =>
      clear H'
      try clear p2
      try clear c3
      try clear c3b0
      obtain ⟨x1_1, x5_1, rfl, rfl, HA, HK1, ⟨m1, rfl⟩⟩ := hrel
      cases gk with
      | zero => exact absurd HA.out (by simp [qT.l0])
      | succ k1 =>
        have H := HA.out
        clear HA
        simp only [qT.l0] at H
        by_cases c4 : x5_1 < (l0.length : Int)
        · rw [if_pos c4] at H
          have c4b0 : decide (x5_1 < (l0.length : Int)) = true := ygy c4
          clear c4
          by_cases c5 : 0 ≤ x5_1
          · rw [if_pos c5] at H
            have c5b0 : decide (0 ≤ x5_1) = true := ygy c5
            clear c5
            replace H := ydy.mp H
            obtain ⟨t102, A60, H⟩ := H
            replace H : (if t102 < 0 then (some (-1)) else (qT.l0 k1 l0 t102 (wrap64 (x5_1 + 1)))) = some r := H
            have A6 := zA.mk A60
            clear A60
            by_cases c7 : t102 < 0
            · rw [if_pos c7] at H
              have c7b0 : decide (t102 < 0) = true := ygy c7
              clear c7
              obtain rfl := yey H
              have p101 : 0 ≤ (x5_1 : Int) := of_decide_eq_true (by first | (with_reducible assumption) | assumption)
              have q101 : x5_1 < (l0.length : Int) := of_decide_eq_true (by first | (with_reducible assumption) | assumption)
              obtain ⟨ad101, A101_0, c101_0, e101, hx101_0, hl101_0, hi101_0⟩ := zA8 HR0.out x5_1 p101 q101
              cases e101
              have HR101_0 := zA.mk hi101_0
              have HC101_0 := zA.mk hl101_0
              clear hi101_0 hl101_0
              replace p101 := eq_true p101
              replace q101 := eq_true q101
              go_wp2_with (first | ((with_reducible refine zS (f := 74) rfl ?_); refine qB (some 23) rfl rfl Try.func74 (by kernel_rfl) rfl #[.slice A101_0 (ZQ l0 x5_1).length c101_0, .int .i64 x1_1] rfl (by (try simp only [yiy, yjy, yky]); first | done | rfl | (simp only [yly, ymy]; rfl)) ?_; (with_reducible refine (Zy.calls _ _ (ZQ l0 x5_1) x1_1 t102 _ ?side1 ?side2 A6.out).mono ?_); (case side1 => repeat (first | exact HR101_0.out | (with_reducible refine Kd.zf ?_ _) | (with_reducible refine Kd.zg ?_ _) | (with_reducible refine Kd.zz ?_))); (case side2 => exact HC101_0.out); rintro e w' ⟨rfl, ⟨nd, rfl⟩⟩; refine ⟨_, rfl, ?_⟩))
              go_ret
              exact ⟨by first | rfl | (simp; done) | (simp [*]; done), by repeat (first | exact zZ.refl _ | apply zZ.step)⟩
            · rw [if_neg c7] at H
              have c7b0 : decide (t102 < 0) = false := yhy c7
              clear c7
              have H' := zA.mk H
              clear H
              have p101 : 0 ≤ (x5_1 : Int) := of_decide_eq_true (by first | (with_reducible assumption) | assumption)
              have q101 : x5_1 < (l0.length : Int) := of_decide_eq_true (by first | (with_reducible assumption) | assumption)
              obtain ⟨ad101, A101_0, c101_0, e101, hx101_0, hl101_0, hi101_0⟩ := zA8 HR0.out x5_1 p101 q101
              cases e101
              have HR101_0 := zA.mk hi101_0
              have HC101_0 := zA.mk hl101_0
              clear hi101_0 hl101_0
              replace p101 := eq_true p101
              replace q101 := eq_true q101
              go_wp2_with (first | ((with_reducible refine zS (f := 74) rfl ?_); refine qB (some 23) rfl rfl Try.func74 (by kernel_rfl) rfl #[.slice A101_0 (ZQ l0 x5_1).length c101_0, .int .i64 x1_1] rfl (by (try simp only [yiy, yjy, yky]); first | done | rfl | (simp only [yly, ymy]; rfl)) ?_; (with_reducible refine (Zy.calls _ _ (ZQ l0 x5_1) x1_1 t102 _ ?side1 ?side2 A6.out).mono ?_); (case side1 => repeat (first | exact HR101_0.out | (with_reducible refine Kd.zf ?_ _) | (with_reducible refine Kd.zg ?_ _) | (with_reducible refine Kd.zz ?_))); (case side2 => exact HC101_0.out); rintro e w' ⟨rfl, ⟨nd, rfl⟩⟩; refine ⟨_, rfl, ?_⟩))
              go_roundg k1
              case measure => have := HK1.out; omega
              case rel => exact ⟨(t102), (wrap64 (x5_1 + 1)), (by first | rfl | (simp; done) | (simp [*]; done)), (by first | rfl | (simp; done) | (simp [*]; done)), H', ⟨by have := HK1.out; omega⟩, by repeat (first | exact zZ.refl _ | apply zZ.step)⟩
          · rw [if_neg c5] at H
            exact absurd H (by simp)
        · rw [if_neg c4] at H
          have c4b0 : decide (x5_1 < (l0.length : Int)) = false := yhy c4
          clear c4
          obtain rfl := yey H
          go_wp2
          go_ret
          exact ⟨by first | rfl | (simp; done) | (simp [*]; done), by repeat (first | exact zZ.refl _ | apply zZ.step)⟩
def ZU.f (k : Nat) (l0_0 : List (List (qR))) (a1 : Int) : Option (Int) := (qT.f k l0_0 a1).bind fun t102 => (if t102 < 0 then (some (-1)) else (some t102))
set_option maxHeartbeats 8000000 in
set_option maxRecDepth 100000 in
theorem ZU.calls (k : Nat) (A0_0 : Option Addr) (c0_0 : Nat) (l0_0 : List (List (qR))) (a1 : Int) (r : Int) (w : World) (hr0_0 : Kd.C (Kd.slice 123 QA) w A0_0 l0_0.length l0_0) (hc0_0 : l0_0.length ≤ c0_0) (h : ZU.f k l0_0 a1 = some r) :
    Calls Try.prog 8 #[.agg #[.slice A0_0 l0_0.length c0_0], .int .i64 a1] w fun e w' => e = .returned (.int .i64 r) ∧ Below w.heap.size w w' := by
  have hu24 := Try.underlying24
  have HR0_0 := zA.mk hr0_0
  have HC0_0 := zA.mk hc0_0
  clear hr0_0 hc0_0
  have HB := zA.mk (yry w.heap.size w)
  have H : ((qT.f k l0_0 a1).bind fun t102 => (if t102 < 0 then (some (-1)) else (some t102))) = some r := h
  clear h
  replace H := ydy.mp H
  obtain ⟨t102, A30, H⟩ := H
  replace H : (if t102 < 0 then (some (-1)) else (some t102)) = some r := H
  have A3 := zA.mk A30
  clear A30
  by_cases c4 : t102 < 0
  · rw [if_pos c4] at H
    have c4b0 : decide (t102 < 0) = true := ygy c4
    clear c4
    obtain rfl := yey H
    go_enter Try.func8, Try.ntmps8
    go_wp2_with (first | ((with_reducible refine zd (N := 2) rfl ?_); refine zb ?hg (N := 2) ?hd (cs := #[.slice A0_0 l0_0.length c0_0]) (t := 24) ?hr ?_; (case hd => rfl); (case hg => rfl); (case hr => first | (go_simp; done) | (go_simp; rfl)); intro gb101 hg w5 hbox hb; have n0_ := zA.mk (zN (by repeat (first | (with_reducible first | exact HB.out | apply zC | apply zB | apply zD) | exact HB.out)) hb); have n1_ := zA.mk (hbox); have n2_ := zA.mk ((by rw [hg]; exact (zO (by repeat (first | (with_reducible first | exact HB.out | apply zC | apply zB | apply zD) | exact HB.out))) : w.heap.size ≤ gb101)); have n3_ := zA.mk ((by rw [hg]; exact (zO (by repeat (first | (with_reducible first | exact HB.out | apply zC | apply zB | apply zD) | exact HB.out))) : w.heap.size ≤ gb101)); clear HB; have HB := n0_; have BK101 := n1_; have GW101 := n2_; have GE101 := n3_; clear n0_ n1_ n2_ n3_; clear hb hbox hg; have hcz6_0 : w5.cell? ⟨gb101, 0, none⟩ = some (.slice A0_0 l0_0.length c0_0) := (zK BK101.out 0).trans rfl; have hfz6_0 := zL BK101.out 0) | ((with_reducible refine zS (f := 32) rfl ?_); refine qB (some 8) rfl rfl Try.func32 (by kernel_rfl) rfl #[.slice A0_0 l0_0.length c0_0, .int .i64 a1] rfl (by (try simp only [yiy, yjy, yky]); first | done | rfl | (simp only [yly, ymy]; rfl)) ?_; (with_reducible refine (qT.calls k _ _ l0_0 a1 t102 _ ?side1 ?side2 A3.out).mono ?_); (case side1 => repeat (first | exact (Kd.ze HR0_0.out HB.out) | (with_reducible refine Kd.zf ?_ _) | (with_reducible refine Kd.zg ?_ _) | (with_reducible refine Kd.zz ?_))); (case side2 => exact HC0_0.out); rintro e w' ⟨rfl, ⟨nd, rfl⟩⟩; refine ⟨_, rfl, ?_⟩))
    go_ret
    exact ⟨by first | rfl | (simp [zQ, zR] <;> rfl) | (simp [*, zQ, zR] <;> rfl), by repeat (first | (with_reducible first | exact HB.out | apply zC | apply zB | apply zD | refine zF ?_ GE101.out) | exact HB.out)⟩
  · rw [if_neg c4] at H
    have c4b0 : decide (t102 < 0) = false := yhy c4
    clear c4
    obtain rfl := yey H
    go_enter Try.func8, Try.ntmps8
    go_wp2_with (first | ((with_reducible refine zd (N := 2) rfl ?_); refine zb ?hg (N := 2) ?hd (cs := #[.slice A0_0 l0_0.length c0_0]) (t := 24) ?hr ?_; (case hd => rfl); (case hg => rfl); (case hr => first | (go_simp; done) | (go_simp; rfl)); intro gb101 hg w7 hbox hb; have n0_ := zA.mk (zN (by repeat (first | (with_reducible first | exact HB.out | apply zC | apply zB | apply zD) | exact HB.out)) hb); have n1_ := zA.mk (hbox); have n2_ := zA.mk ((by rw [hg]; exact (zO (by repeat (first | (with_reducible first | exact HB.out | apply zC | apply zB | apply zD) | exact HB.out))) : w.heap.size ≤ gb101)); have n3_ := zA.mk ((by rw [hg]; exact (zO (by repeat (first | (with_reducible first | exact HB.out | apply zC | apply zB | apply zD) | exact HB.out))) : w.heap.size ≤ gb101)); clear HB; have HB := n0_; have BK101 := n1_; have GW101 := n2_; have GE101 := n3_; clear n0_ n1_ n2_ n3_; clear hb hbox hg; have hcz8_0 : w7.cell? ⟨gb101, 0, none⟩ = some (.slice A0_0 l0_0.length c0_0) := (zK BK101.out 0).trans rfl; have hfz8_0 := zL BK101.out 0) | ((with_reducible refine zS (f := 32) rfl ?_); refine qB (some 8) rfl rfl Try.func32 (by kernel_rfl) rfl #[.slice A0_0 l0_0.length c0_0, .int .i64 a1] rfl (by (try simp only [yiy, yjy, yky]); first | done | rfl | (simp only [yly, ymy]; rfl)) ?_; (with_reducible refine (qT.calls k _ _ l0_0 a1 t102 _ ?side1 ?side2 A3.out).mono ?_); (case side1 => repeat (first | exact (Kd.ze HR0_0.out HB.out) | (with_reducible refine Kd.zf ?_ _) | (with_reducible refine Kd.zg ?_ _) | (with_reducible refine Kd.zz ?_))); (case side2 => exact HC0_0.out); rintro e w' ⟨rfl, ⟨nd, rfl⟩⟩; refine ⟨_, rfl, ?_⟩))
    go_ret
    exact ⟨by first | rfl | (simp [zQ, zR] <;> rfl) | (simp [*, zQ, zR] <;> rfl), by repeat (first | (with_reducible first | exact HB.out | apply zC | apply zB | apply zD | refine zF ?_ GE101.out) | exact HB.out)⟩
def qM.l0 : Nat → List Int → List Int → Int → Option (List Int)
  | 0, _, _, _ => none
  | k + 1, x0, x3, x4 => if x4 < (x0.length : Int) then (if 0 ≤ x4 then (if x4 < (x3.length : Int) then (qM.l0 k x0 (x3.set (x4 : Int).toNat (rd x0 x4)) (wrap64 (x4 + 1))) else (none)) else (none)) else (some x3)
def qM.f (k : Nat) (l0 : List Int) : Option (List Int) := if 0 ≤ (l0.length : Int) then (if ((l0.length : Int) : Int).toNat ≤ 35184372088832 then (qM.l0 k l0 (List.replicate ((l0.length : Int) : Int).toNat 0) 0) else (none)) else (none)
set_option maxHeartbeats 8000000 in
set_option maxRecDepth 100000 in
theorem qM.calls (k : Nat) (A0 : Option Addr) (c0 : Nat) (l0 : List Int) (r : List Int) (w : World) (hr0 : Kd.C (Kd.int .i64) w A0 l0.length l0) (hc0 : l0.length ≤ c0) (h : qM.f k l0 = some r) :
    Calls Try.prog 25 #[.slice A0 l0.length c0] w fun e w' => ∃ v0_ : Value, e = .returned (v0_) ∧ Kd.R (Kd.int .i64) 2 w' w.heap.size (fun _ => True) v0_ r ∧ Below w.heap.size w w' := by
  have HR0 := zA.mk hr0
  have HC0 := zA.mk hc0
  clear hr0 hc0
  have HB := zA.mk (yry w.heap.size w)
  have H : (if 0 ≤ (l0.length : Int) then (if ((l0.length : Int) : Int).toNat ≤ 35184372088832 then (qM.l0 k l0 (List.replicate ((l0.length : Int) : Int).toNat 0) 0) else (none)) else (none)) = some r := h
  clear h
  by_cases c2 : 0 ≤ (l0.length : Int)
  · rw [if_pos c2] at H
    have c2b0 := eq_true c2
    have c2b1 : decide (0 ≤ (l0.length : Int)) = true := ygy c2
    clear c2
    by_cases c3 : ((l0.length : Int) : Int).toNat ≤ 35184372088832
    · rw [if_pos c3] at H
      have c3b0 := eq_true c3
      have c3b1 : decide (((l0.length : Int) : Int).toNat ≤ 35184372088832) = true := ygy c3
      clear c3
      obtain ⟨y101, hy101⟩ : ∃ y_ : List Int, y_ = (List.replicate ((l0.length : Int) : Int).toNat 0) := ⟨_, rfl⟩
      replace H : (qM.l0 k l0 y101 0) = some r := by first | (rw [hy101]; with_reducible exact H) | (have H2_ := (yfy _ _).symm.trans H; rw [hy101]; with_reducible exact H2_) | (have H2_ := (yfy _ _).symm.trans H; with_reducible exact H2_) | with_reducible exact H | (rw [hy101]; exact H) | exact H
      have Ny101 := zA.mk hy101
      clear hy101
      have H' := zA.mk H
      clear H
      go_enter Try.func25, Try.ntmps25
      go_wp2_with (first | ((with_reducible refine zd (N := 7) rfl ?_); refine Kd.zCj (Kd.int .i64) _ 2 rfl (N := 7) rfl 44 _ _ rfl (l0.length : Int) rfl rfl Try.underlying44 (.int .i64 0) 8 Jb rfl (by decide) (by omega) 0 (ok := fun _ => True) (okp := fun _ => True) rfl (fun _ hk => hk) trivial (of_decide_eq_true (by first | (with_reducible assumption) | assumption)) (Nat.le_trans (Nat.mul_le_mul_right _ (of_decide_eq_true (by first | (with_reducible assumption) | assumption) : (l0.length : Int).toNat ≤ 35184372088832)) (by omega)) (yry _ _) (yqy _) ?_; intro v102 w4 ho5 hb hg_ hnew_; clear hg_ hnew_; (first | rw [← Ny101.out] at ho5 | (simp only [Int.reduceToNat] at ho5; rw [← Ny101.out] at ho5)); have n0_ := zA.mk (Kd.Zb ho5 (zO (by repeat (first | (with_reducible first | exact HB.out | apply zC | apply zB | apply zD) | exact HB.out)))); have n1_ := zA.mk (zN (by repeat (first | (with_reducible first | exact HB.out | apply zC | apply zB | apply zD) | exact HB.out)) hb); clear HB; have HO103 := n0_; have HB := n1_; clear n0_ n1_; clear hb ho5))
      go_loopg [4] k (fun kq v4 w' => ∃ (x3_1 : List Int) (x4_1 : Int), v4 = .int .i64 x4_1 ∧ zA (qM.l0 kq l0 x3_1 x4_1 = some r) ∧ zA (kq ≤ k) ∧ zA (Kd.R (Kd.int .i64) 2 w' w.heap.size (fun _ => True) v102 x3_1) ∧ zA (Below w.heap.size w w'))
      case atStart => exact ⟨(y101), (0), (by first | rfl | (simp; done) | (simp [*]; done)), H', ⟨yqy _⟩, ⟨by (with_reducible repeat (first | apply Kd.zm | apply Kd.zk | apply Kd.zu)); exact HO103.out⟩, ⟨by repeat (first | (with_reducible first | exact HB.out | apply zC | apply zB | apply zD) | exact HB.out)⟩⟩
      case round =>
        clear H'
        try clear c2
        try clear c2b0
        try clear c2b1
        try clear p2
        try clear c3
        try clear c3b0
        try clear c3b1
        obtain ⟨x3_1, x4_1, rfl, HA, HK1, HO_3, HB⟩ := hrel
        cases gk with
        | zero => exact absurd HA.out (by simp [qM.l0])
        | succ k1 =>
          have H := HA.out
          clear HA
          simp only [qM.l0] at H
          by_cases c6 : x4_1 < (l0.length : Int)
          · rw [if_pos c6] at H
            have c6b0 : decide (x4_1 < (l0.length : Int)) = true := ygy c6
            clear c6
            by_cases c7 : 0 ≤ x4_1
            · rw [if_pos c7] at H
              have c7b0 : decide (0 ≤ x4_1) = true := ygy c7
              clear c7
              by_cases c8 : x4_1 < (x3_1.length : Int)
              · rw [if_pos c8] at H
                have c8b0 : decide (x4_1 < (x3_1.length : Int)) = true := ygy c8
                clear c8
                obtain ⟨y105, hy105⟩ : ∃ y_ : List Int, y_ = (x3_1.set (x4_1 : Int).toNat (rd l0 x4_1)) := ⟨_, rfl⟩
                replace H : (qM.l0 k1 l0 y105 (wrap64 (x4_1 + 1))) = some r := by first | (rw [hy105]; with_reducible exact H) | (have H2_ := (yfy _ _).symm.trans H; rw [hy105]; with_reducible exact H2_) | (have H2_ := (yfy _ _).symm.trans H; with_reducible exact H2_) | with_reducible exact H | (rw [hy105]; exact H) | exact H
                have Ny105 := zA.mk hy105
                clear hy105
                have H' := zA.mk H
                clear H
                have p104 : 0 ≤ (x4_1 : Int) := of_decide_eq_true (by first | (with_reducible assumption) | assumption)
                have q104 : x4_1 < (l0.length : Int) := of_decide_eq_true (by first | (with_reducible assumption) | assumption)
                obtain ⟨ad104, e104, hx104_0⟩ := Kd.ZI HR0.out x4_1 p104 q104
                cases e104
                replace hx104_0 := (HB.out.cell (ypy w _ hx104_0)).trans hx104_0
                replace p104 := eq_true p104
                replace q104 := eq_true q104
                have p9 : 0 ≤ (x4_1 : Int) := of_decide_eq_true (by first | (with_reducible assumption) | assumption)
                have q9 : (x4_1 : Int) < ((x3_1.length : Int) : Int) := of_decide_eq_true (by first | (with_reducible assumption) | assumption)
                obtain ⟨go9, co9, eo9, gb9, gl9, cl9, HG9⟩ := Kd.zA3 HO_3.out (by omega)
                (first | cases eo9 | (injection eo9 with ea_ en_ ec_; (first | subst ea_ | (injection ea_ with ea_; subst ea_)); subst ec_; clear en_))
                have GB9 := zA.mk gb9
                have GG9 := zA.mk HG9
                clear gb9 gl9 HG9
                obtain ⟨hx9_0, hf9_0⟩ := Kd.Zw 0 HO_3.out (x4_1 : Int) p9 q9
                replace p9 := eq_true p9
                replace q9 := eq_true q9
                have HP10 := Kd.Jh HO_3.out (x4_1 : Int) (rd l0 x4_1)
                go_wp2_with (first | ((with_reducible refine ZH (t := 2) (p := 20) rfl ?_); refine qz (t := 2) (p := 20) (v := ?vo_w11) (w1 := (wr.setCell ⟨go9, (x4_1 : Int).toNat, none⟩ (.int .i64 (rd l0 x4_1)))) ?hg ?ho ?hn ?hr ?_; (case ho => rfl); (case hg => rfl); (case hn => rfl); (case hr => first | (go_simp; done) | (go_simp; rfl)); intro w11 hw; have hg : wr.grownBy w11 (some go9) := (by rw [hw]; exact HP10.2); have hp_ : Kd.R (Kd.int .i64) 2 w11 w.heap.size (fun _ => True) (.slice (some ⟨go9, 0, none⟩) x3_1.length co9) y105 := (by rw [hw, Ny105.out]; exact HP10.1); clear HP10; have n0_ := zA.mk (hp_); have n1_ := zA.mk ((by rw [hw]; exact zF (HB.out) GB9.out : Below w.heap.size w w11)); clear HO_3; clear HB; have HO_3 := n0_; have HB := n1_; clear n0_ n1_; clear hg hw hp_))
                go_roundg k1
                case measure => have := HK1.out; omega
                case rel => exact ⟨(y105), (wrap64 (x4_1 + 1)), (by first | rfl | (simp; done) | (simp [*]; done)), H', ⟨by have := HK1.out; omega⟩, ⟨by (with_reducible repeat (first | apply Kd.zm | apply Kd.zk | apply Kd.zu)); exact HO_3.out⟩, ⟨by repeat (first | (with_reducible first | exact HB.out | apply zC | apply zB | apply zD) | exact HB.out)⟩⟩
              · rw [if_neg c8] at H
                exact absurd H (by simp)
            · rw [if_neg c7] at H
              exact absurd H (by simp)
          · rw [if_neg c6] at H
            have c6b0 : decide (x4_1 < (l0.length : Int)) = false := yhy c6
            clear c6
            obtain rfl := yey H
            go_wp2
            go_ret
            exact ⟨_, by first | rfl | (simp [zQ, zR] <;> rfl) | (simp [*, zQ, zR] <;> rfl), by (with_reducible repeat (first | apply Kd.zm | apply Kd.zk | apply Kd.zu)); exact HO_3.out, by repeat (first | (with_reducible first | exact HB.out | apply zC | apply zB | apply zD) | exact HB.out)⟩
    · rw [if_neg c3] at H
      exact absurd H (by simp)
  · rw [if_neg c2] at H
    exact absurd H (by simp)
def Qs.f (a0_0 : Int) (a0_1 : Int) : Option (Int × Int) := some (a0_0, a0_1)
set_option maxHeartbeats 8000000 in
set_option maxRecDepth 100000 in
theorem Qs.calls (a0_0 : Int) (a0_1 : Int) (r1 : Int) (r2 : Int) (w : World) (h : Qs.f a0_0 a0_1 = some (r1, r2)) :
    Calls Try.prog 123 #[.agg #[.int .i64 a0_0, .int .i64 a0_1]] w fun e w' => e = .returned (.agg #[.int .i64 r1, .int .i64 r2]) ∧ Below w.heap.size w w' := by
  have hu123 := Try.underlying123
  have hu59 := Try.underlying59
  have HB := zA.mk (yry w.heap.size w)
  have H : (some (a0_0, a0_1)) = some (r1, r2) := h
  clear h
  simp only [Option.some.injEq, Prod.mk.injEq] at H
  obtain ⟨rfl, rfl⟩ := H
  go_enter Try.func123, Try.ntmps123
  go_wp2_with (first | ((with_reducible refine zd (N := 1) rfl ?_); refine zb ?hg (N := 1) ?hd (cs := #[.int .i64 a0_0, .int .i64 a0_1]) (t := 123) ?hr ?_; (case hd => rfl); (case hg => rfl); (case hr => first | (go_simp; done) | (go_simp; rfl)); intro gb101 hg w2 hbox hb; have n0_ := zA.mk (zN (by repeat (first | (with_reducible first | exact HB.out | apply zC | apply zB | apply zD) | exact HB.out)) hb); have n1_ := zA.mk (hbox); have n2_ := zA.mk ((by rw [hg]; exact (zO (by repeat (first | (with_reducible first | exact HB.out | apply zC | apply zB | apply zD) | exact HB.out))) : w.heap.size ≤ gb101)); have n3_ := zA.mk ((by rw [hg]; exact (zO (by repeat (first | (with_reducible first | exact HB.out | apply zC | apply zB | apply zD) | exact HB.out))) : w.heap.size ≤ gb101)); clear HB; have HB := n0_; have BK101 := n1_; have GW101 := n2_; have GE101 := n3_; clear n0_ n1_ n2_ n3_; clear hb hbox hg) | ((with_reducible refine zd (N := 2) rfl ?_); refine zb ?hg (N := 2) ?hd (cs := #[.int .i64 0, .int .i64 0]) (t := 59) ?hr ?_; (case hd => rfl); (case hg => rfl); (case hr => first | (go_simp; done) | (go_simp; rfl)); intro gb102 hg w3 hbox hb; have n0_ := zA.mk (zP (g := gb101) (o := .cells #[.int .i64 a0_0, .int .i64 a0_1] 123 (0, 0)) (by (with_reducible repeat (first | refine zI ?_ _ | refine zJ ?_ | refine zH ?_ _)); exact BK101.out) hb); have n1_ := zA.mk (zN (by repeat (first | (with_reducible first | exact HB.out | apply zC | apply zB | apply zD | refine zF ?_ GE101.out) | exact HB.out)) hb); have n2_ := zA.mk (hbox); have n3_ := zA.mk ((by rw [hg]; exact (zO (by repeat (first | (with_reducible first | exact HB.out | apply zC | apply zB | apply zD | refine zF ?_ GE101.out) | exact HB.out))) : w.heap.size ≤ gb102)); have n4_ := zA.mk ((by rw [hg]; exact (zO (by repeat (first | (with_reducible first | exact HB.out | apply zC | apply zB | apply zD | refine zF ?_ GE101.out) | exact HB.out))) : w.heap.size ≤ gb102)); have n5_ := zA.mk ((by rw [hg]; exact Nat.ne_of_lt (qS (g := gb101) (o := .cells #[.int .i64 a0_0, .int .i64 a0_1] 123 (0, 0)) (by (with_reducible repeat (first | refine zI ?_ _ | refine zJ ?_ | refine zH ?_ _)); exact BK101.out)) : gb101 ≠ gb102)); have n6_ := zA.mk ((by rw [hg]; exact Nat.ne_of_gt (qS (g := gb101) (o := .cells #[.int .i64 a0_0, .int .i64 a0_1] 123 (0, 0)) (by (with_reducible repeat (first | refine zI ?_ _ | refine zJ ?_ | refine zH ?_ _)); exact BK101.out)) : gb102 ≠ gb101)); clear BK101; clear HB; have BK101 := n0_; have HB := n1_; have BK102 := n2_; have GW102 := n3_; have GE102 := n4_; have NB101_102 := n5_; have NB102_101 := n6_; clear n0_ n1_ n2_ n3_ n4_ n5_ n6_; clear hb hbox hg) | ((with_reducible refine zd (N := 3) rfl ?_); refine zb ?hg (N := 3) ?hd (cs := #[.int .i64 0, .int .i64 0]) (t := 59) ?hr ?_; (case hd => rfl); (case hg => rfl); (case hr => first | (go_simp; done) | (go_simp; rfl)); intro gb103 hg w4 hbox hb; have n0_ := zA.mk (zP (g := gb101) (o := .cells #[.int .i64 a0_0, .int .i64 a0_1] 123 (0, 0)) (by (with_reducible repeat (first | refine zI ?_ _ | refine zJ ?_ | refine zH ?_ _)); exact BK101.out) hb); have n1_ := zA.mk (zP (g := gb102) (o := .cells #[.int .i64 0, .int .i64 0] 59 (0, 0)) (by (with_reducible repeat (first | refine zI ?_ _ | refine zJ ?_ | refine zH ?_ _)); exact BK102.out) hb); have n2_ := zA.mk (zN (by repeat (first | (with_reducible first | exact HB.out | apply zC | apply zB | apply zD | refine zF ?_ GE101.out | refine zF ?_ GE102.out) | exact HB.out)) hb); have n3_ := zA.mk (hbox); have n4_ := zA.mk ((by rw [hg]; exact (zO (by repeat (first | (with_reducible first | exact HB.out | apply zC | apply zB | apply zD | refine zF ?_ GE101.out | refine zF ?_ GE102.out) | exact HB.out))) : w.heap.size ≤ gb103)); have n5_ := zA.mk ((by rw [hg]; exact (zO (by repeat (first | (with_reducible first | exact HB.out | apply zC | apply zB | apply zD | refine zF ?_ GE101.out | refine zF ?_ GE102.out) | exact HB.out))) : w.heap.size ≤ gb103)); have n6_ := zA.mk ((by rw [hg]; exact Nat.ne_of_lt (qS (g := gb101) (o := .cells #[.int .i64 a0_0, .int .i64 a0_1] 123 (0, 0)) (by (with_reducible repeat (first | refine zI ?_ _ | refine zJ ?_ | refine zH ?_ _)); exact BK101.out)) : gb101 ≠ gb103)); have n7_ := zA.mk ((by rw [hg]; exact Nat.ne_of_gt (qS (g := gb101) (o := .cells #[.int .i64 a0_0, .int .i64 a0_1] 123 (0, 0)) (by (with_reducible repeat (first | refine zI ?_ _ | refine zJ ?_ | refine zH ?_ _)); exact BK101.out)) : gb103 ≠ gb101)); have n8_ := zA.mk ((by rw [hg]; exact Nat.ne_of_lt (qS (g := gb102) (o := .cells #[.int .i64 0, .int .i64 0] 59 (0, 0)) (by (with_reducible repeat (first | refine zI ?_ _ | refine zJ ?_ | refine zH ?_ _)); exact BK102.out)) : gb102 ≠ gb103)); have n9_ := zA.mk ((by rw [hg]; exact Nat.ne_of_gt (qS (g := gb102) (o := .cells #[.int .i64 0, .int .i64 0] 59 (0, 0)) (by (with_reducible repeat (first | refine zI ?_ _ | refine zJ ?_ | refine zH ?_ _)); exact BK102.out)) : gb103 ≠ gb102)); clear BK101; clear BK102; clear HB; have BK101 := n0_; have BK102 := n1_; have HB := n2_; have BK103 := n3_; have GW103 := n4_; have GE103 := n5_; have NB101_103 := n6_; have NB103_101 := n7_; have NB102_103 := n8_; have NB103_102 := n9_; clear n0_ n1_ n2_ n3_ n4_ n5_ n6_ n7_ n8_ n9_; clear hb hbox hg; have hnb5 := NB101_102.out; have hnc5 := NB102_101.out; have hnb6 := NB101_103.out; have hnc6 := NB103_101.out; have hcz7_0 : w4.cell? ⟨gb101, 0, none⟩ = some (.int .i64 a0_0) := (zK BK101.out 0).trans rfl; have hcz7_1 : w4.cell? ⟨gb101, 1, none⟩ = some (.int .i64 a0_1) := (zK BK101.out 1).trans rfl; have hfz7_0 := zL BK101.out 0; have hfz7_1 := zL BK101.out 1; have hnb8 := NB103_102.out; have hnc8 := NB102_103.out; have hcz9_0 : w4.cell? ⟨gb103, 0, none⟩ = some (.int .i64 0) := (zK BK103.out 0).trans rfl; have hcz9_1 : w4.cell? ⟨gb103, 1, none⟩ = some (.int .i64 0) := (zK BK103.out 1).trans rfl; have hfz9_0 := zL BK103.out 0; have hfz9_1 := zL BK103.out 1; have hcz10_0 : w4.cell? ⟨gb102, 0, none⟩ = some (.int .i64 0) := (zK BK102.out 0).trans rfl; have hcz10_1 : w4.cell? ⟨gb102, 1, none⟩ = some (.int .i64 0) := (zK BK102.out 1).trans rfl; have hfz10_0 := zL BK102.out 0; have hfz10_1 := zL BK102.out 1))
  refine bodyPost_ret (results_cell_row rfl _ _ gb102 59 #[.int .i64 a0_0, .int .i64 a0_1] (0, 0) _ rfl (by (with_reducible repeat (first | refine zI ?_ _ | refine zJ ?_ | refine zH ?_ _)); refine qe (cs := #[.int .i64 a0_0, .int .i64 0]) ?_ 1 _ rfl; (with_reducible repeat (first | refine zI ?_ _ | refine zJ ?_ | refine zH ?_ _)); refine qe (cs := #[.int .i64 0, .int .i64 0]) ?_ 0 _ rfl; (with_reducible repeat (first | refine zI ?_ _ | refine zJ ?_ | refine zH ?_ _)); refine qX ?_ NB102_103.out _; (with_reducible repeat (first | refine zI ?_ _ | refine zJ ?_ | refine zH ?_ _)); refine qX ?_ NB102_103.out _; (with_reducible repeat (first | refine zI ?_ _ | refine zJ ?_ | refine zH ?_ _)); exact BK102.out) Try.underlying59 rfl (by kernel_rfl)) rfl ?_
  exact ⟨by first | rfl | (simp [zQ, zR] <;> rfl) | (simp [*, zQ, zR] <;> rfl), by repeat (first | (with_reducible first | exact HB.out | apply zC | apply zB | apply zD | refine zF ?_ GE101.out | refine zF ?_ GE102.out | refine zF ?_ GE103.out) | exact HB.out)⟩
def qj.l0 : Nat → List (qR) → List (zq) → Int → Option ((List (zq)))
  | 0, _, _, _ => none
  | k + 1, x0, x3, x4 => if x4 < (x0.length : Int) then (if 0 ≤ x4 then ((Qs.f ((Zt x0 x4).f0) ((Zt x0 x4).f1)).bind fun bt105 => (if x4 < (x3.length : Int) then (qj.l0 k x0 (x3.set (x4 : Int).toNat (⟨bt105.1, bt105.2⟩ : zq)) (wrap64 (x4 + 1))) else (none))) else (none)) else (some x3)
def qj.f (k : Nat) (l0 : List (qR)) : Option ((List (zq))) := if 0 ≤ (l0.length : Int) then (if ((l0.length : Int) : Int).toNat ≤ 17592186044416 then (qj.l0 k l0 (List.replicate ((l0.length : Int) : Int).toNat Jc) 0) else (none)) else (none)
set_option maxHeartbeats 8000000 in
set_option maxRecDepth 100000 in
theorem qj.calls (k : Nat) (A0 : Option Addr) (c0 : Nat) (l0 : List (qR)) (r : List (zq)) (w : World) (hr0 : Kd.C QA w A0 l0.length l0) (hc0 : l0.length ≤ c0) (h : qj.f k l0 = some r) :
    Calls Try.prog 77 #[.slice A0 l0.length c0] w fun e w' => ∃ v0_ : Value, e = .returned (v0_) ∧ Kd.R qx 59 w' w.heap.size (fun _ => True) v0_ r ∧ Below w.heap.size w w' := by
  have hu123 := Try.underlying123
  have hu59 := Try.underlying59
  have HR0 := zA.mk hr0
  have HC0 := zA.mk hc0
  clear hr0 hc0
  have HB := zA.mk (yry w.heap.size w)
  have H : (if 0 ≤ (l0.length : Int) then (if ((l0.length : Int) : Int).toNat ≤ 17592186044416 then (qj.l0 k l0 (List.replicate ((l0.length : Int) : Int).toNat Jc) 0) else (none)) else (none)) = some r := h
  clear h
  by_cases c2 : 0 ≤ (l0.length : Int)
  · rw [if_pos c2] at H
    have c2b0 := eq_true c2
    have c2b1 : decide (0 ≤ (l0.length : Int)) = true := ygy c2
    clear c2
    by_cases c3 : ((l0.length : Int) : Int).toNat ≤ 17592186044416
    · rw [if_pos c3] at H
      have c3b0 := eq_true c3
      have c3b1 : decide (((l0.length : Int) : Int).toNat ≤ 17592186044416) = true := ygy c3
      clear c3
      obtain ⟨y101, hy101⟩ : ∃ y_ : List (zq), y_ = (List.replicate ((l0.length : Int) : Int).toNat Jc) := ⟨_, rfl⟩
      replace H : (qj.l0 k l0 y101 0) = some r := by first | (rw [hy101]; with_reducible exact H) | (have H2_ := (yfy _ _).symm.trans H; rw [hy101]; with_reducible exact H2_) | (have H2_ := (yfy _ _).symm.trans H; with_reducible exact H2_) | with_reducible exact H | (rw [hy101]; exact H) | exact H
      have Ny101 := zA.mk hy101
      clear hy101
      have H' := zA.mk H
      clear H
      go_enter Try.func77, Try.ntmps77
      go_wp2_with (first | ((with_reducible refine zd (N := 7) rfl ?_); refine Kd.zCj qx _ 59 rfl (N := 7) rfl 60 _ _ rfl (l0.length : Int) rfl rfl Try.underlying60 (.agg #[(.int .i64 0), (.int .i64 0)]) 16 info59 rfl (by decide) (by omega) Jc (ok := fun _ => True) (okp := fun _ => True) (zAK _ _ _ Jc ) (fun _ hk => hk) trivial (of_decide_eq_true (by first | (with_reducible assumption) | assumption)) (Nat.le_trans (Nat.mul_le_mul_right _ (of_decide_eq_true (by first | (with_reducible assumption) | assumption) : (l0.length : Int).toNat ≤ 17592186044416)) (by omega)) (yry _ _) (yqy _) ?_; intro v102 w4 ho5 hb hg_ hnew_; clear hg_ hnew_; (first | rw [← Ny101.out] at ho5 | (simp only [Int.reduceToNat] at ho5; rw [← Ny101.out] at ho5)); have n0_ := zA.mk (Kd.Zb ho5 (zO (by repeat (first | (with_reducible first | exact HB.out | apply zC | apply zB | apply zD) | exact HB.out)))); have n1_ := zA.mk (zN (by repeat (first | (with_reducible first | exact HB.out | apply zC | apply zB | apply zD) | exact HB.out)) hb); clear HB; have HO103 := n0_; have HB := n1_; clear n0_ n1_; clear hb ho5))
      go_loopg [4] k (fun kq v4 w' => ∃ (x3_1 : List (zq)) (x4_1 : Int), v4 = .int .i64 x4_1 ∧ zA (qj.l0 kq l0 x3_1 x4_1 = some r) ∧ zA (kq ≤ k) ∧ zA (Kd.R qx 59 w' w.heap.size (fun _ => True) v102 x3_1) ∧ zA (Below w.heap.size w w'))
      case atStart => exact ⟨(y101), (0), (by first | rfl | (simp; done) | (simp [*]; done)), H', ⟨yqy _⟩, ⟨by (with_reducible repeat (first | apply Kd.zm | apply Kd.zk | apply Kd.zu)); exact HO103.out⟩, ⟨by repeat (first | (with_reducible first | exact HB.out | apply zC | apply zB | apply zD) | exact HB.out)⟩⟩
      case round =>
        clear H'
        try clear c2
        try clear c2b0
        try clear c2b1
        try clear p2
        try clear c3
        try clear c3b0
        try clear c3b1
        obtain ⟨x3_1, x4_1, rfl, HA, HK1, HO_3, HB⟩ := hrel
        cases gk with
        | zero => exact absurd HA.out (by simp [qj.l0])
        | succ k1 =>
          have H := HA.out
          clear HA
          simp only [qj.l0] at H
          by_cases c6 : x4_1 < (l0.length : Int)
          · rw [if_pos c6] at H
            have c6b0 : decide (x4_1 < (l0.length : Int)) = true := ygy c6
            clear c6
            by_cases c7 : 0 ≤ x4_1
            · rw [if_pos c7] at H
              have c7b0 : decide (0 ≤ x4_1) = true := ygy c7
              clear c7
              replace H := ydy.mp H
              obtain ⟨⟨t105, t106⟩, A80, H⟩ := H
              replace H : (if x4_1 < (x3_1.length : Int) then (qj.l0 k1 l0 (x3_1.set (x4_1 : Int).toNat (⟨t105, t106⟩ : zq)) (wrap64 (x4_1 + 1))) else (none)) = some r := H
              have A8 := zA.mk A80
              clear A80
              by_cases c9 : x4_1 < (x3_1.length : Int)
              · rw [if_pos c9] at H
                have c9b0 : decide (x4_1 < (x3_1.length : Int)) = true := ygy c9
                clear c9
                obtain ⟨y107, hy107⟩ : ∃ y_ : List (zq), y_ = (x3_1.set (x4_1 : Int).toNat (⟨t105, t106⟩ : zq)) := ⟨_, rfl⟩
                replace H : (qj.l0 k1 l0 y107 (wrap64 (x4_1 + 1))) = some r := by first | (rw [hy107]; with_reducible exact H) | (have H2_ := (yfy _ _).symm.trans H; rw [hy107]; with_reducible exact H2_) | (have H2_ := (yfy _ _).symm.trans H; with_reducible exact H2_) | with_reducible exact H | (rw [hy107]; exact H) | exact H
                have Ny107 := zA.mk hy107
                clear hy107
                have H' := zA.mk H
                clear H
                have p104 : 0 ≤ (x4_1 : Int) := of_decide_eq_true (by first | (with_reducible assumption) | assumption)
                have q104 : x4_1 < (l0.length : Int) := of_decide_eq_true (by first | (with_reducible assumption) | assumption)
                obtain ⟨ad104, e104, hx104_0, hx104_1⟩ := zED HR0.out x4_1 p104 q104
                cases e104
                replace hx104_0 := (HB.out.cell (ypy w _ hx104_0)).trans hx104_0
                replace hx104_1 := (HB.out.cell (ypy w _ hx104_1)).trans hx104_1
                replace p104 := eq_true p104
                replace q104 := eq_true q104
                go_wp2_with (first | ((with_reducible refine zS (f := 123) rfl ?_); refine qB (some 20) rfl rfl Try.func123 (by kernel_rfl) rfl #[.agg #[.int .i64 ((Zt l0 x4_1).f0), .int .i64 ((Zt l0 x4_1).f1)]] rfl (by (try simp only [yiy, yjy, yky]); first | done | rfl | (simp only [yly, ymy]; rfl)) ?_; (with_reducible refine (Qs.calls ((Zt l0 x4_1).f0) ((Zt l0 x4_1).f1) t105 t106 _ A8.out).mono ?_); rintro e w11 ⟨rfl, hb⟩; refine ⟨_, rfl, ?_⟩; have n0_ := zA.mk (Kd.Zk (by (with_reducible repeat (first | apply Kd.zm | apply Kd.zk | apply Kd.zu)); exact HO_3.out) hb); have n1_ := zA.mk (zN (by repeat (first | (with_reducible first | exact HB.out | apply zC | apply zB | apply zD) | exact HB.out)) hb); clear HO_3; clear HB; have HO_3 := n0_; have HB := n1_; clear n0_ n1_; (try clear hb); (try clear hb2); (try clear hk); (try clear hi); have p10 : 0 ≤ (x4_1 : Int) := of_decide_eq_true (by first | (with_reducible assumption) | assumption); have q10 : (x4_1 : Int) < ((x3_1.length : Int) : Int) := of_decide_eq_true (by first | (with_reducible assumption) | assumption); obtain ⟨go10, co10, eo10, gb10, gl10, cl10, HG10⟩ := Kd.zA3 HO_3.out (by omega); (first | cases eo10 | (injection eo10 with ea_ en_ ec_; (first | subst ea_ | (injection ea_ with ea_; subst ea_)); subst ec_; clear en_)); have GB10 := zA.mk gb10; have GG10 := zA.mk HG10; clear gb10 gl10 HG10; obtain ⟨ce10, hcl10, hM10, hcc10, hfr10⟩ := Kd.Qv HO_3.out Jc (x4_1 : Int) p10 q10; obtain rfl := QU hM10; have hx10_0 : w11.cell? ⟨go10, (x4_1 : Int).toNat * 2, none⟩ = some (.int .i64 ((zG x3_1 x4_1).f0)) := hcc10 0 _ rfl; have hx10_1 : w11.cell? ⟨go10, (x4_1 : Int).toNat * 2 + 1, none⟩ = some (.int .i64 ((zG x3_1 x4_1).f1)) := hcc10 1 _ rfl; have hf10_0 : w11.frozen? ⟨go10, (x4_1 : Int).toNat * 2, none⟩ = false := hfr10 0; have hf10_1 : w11.frozen? ⟨go10, (x4_1 : Int).toNat * 2 + 1, none⟩ = false := hfr10 1; clear hcl10 hcc10 hfr10; (try clear hM10); replace p10 := eq_true p10; replace q10 := eq_true q10; have HX12 := zA.mk (show Kd.R qx 59 w11 w.heap.size (fun _ => True) (.slice (some ⟨go10, 0, none⟩) x3_1.length co10) x3_1 from (by (with_reducible repeat (first | apply Kd.zm | apply Kd.zk | apply Kd.zu)); exact HO_3.out)); obtain ⟨ce12, hcl12, hM12, hcc12, hfr12⟩ := Kd.Qv HX12.out Jc (x4_1 : Int) (of_decide_eq_true (by first | (with_reducible assumption) | assumption)) (by have h_ : (x4_1 : Int) < ((x3_1.length : Int) : Int) := of_decide_eq_true (by first | (with_reducible assumption) | assumption); first | exact h_ | (have e_ := (Kd.zv HO_3.out).1; omega) | simpa using h_); obtain rfl := QU hM12; have HP12 := Kd.zDH HX12.out (x4_1 : Int) (of_decide_eq_true (by first | (with_reducible assumption) | assumption)) (by have h_ : (x4_1 : Int) < ((x3_1.length : Int) : Int) := of_decide_eq_true (by first | (with_reducible assumption) | assumption); first | exact h_ | (have e_ := (Kd.zv HO_3.out).1; omega) | simpa using h_) (seg := [.int .i64 t105, .int .i64 t106]) (j := 0) hcl12 hcc12 (show 2 ≤ 2 from by decide) (x' := (⟨t105, t106⟩ : zq)) (zAK _ _ _ (⟨t105, t106⟩ : zq) ) (fun _ hk => hk); have hx12_0 := hcc12 0 _ rfl; (try simp only [show (qx).sz = 2 from rfl, Nat.mul_one, Nat.add_zero] at hx12_0); have hf12_0 := hfr12 0; (try simp only [show (qx).sz = 2 from rfl, Nat.mul_one, Nat.add_zero] at hf12_0); have hx12_1 := hcc12 1 _ rfl; (try simp only [show (qx).sz = 2 from rfl, Nat.mul_one, Nat.add_zero] at hx12_1); have hf12_1 := hfr12 1; (try simp only [show (qx).sz = 2 from rfl, Nat.mul_one, Nat.add_zero] at hf12_1); clear hcl12 hcc12 hfr12 hM12) | ((with_reducible refine ZH (t := 59) (p := 21) rfl ?_); refine qz (t := 59) (p := 21) (v := ?vo_w13) (w1 := ((w11.setCell ⟨go10, (x4_1 : Int).toNat * 2, none⟩ (.int .i64 t105)).setCell ⟨go10, (x4_1 : Int).toNat * 2 + 1, none⟩ (.int .i64 t106))) ?hg ?ho ?hn ?hr ?_; (case ho => rfl); (case hg => rfl); (case hn => rfl); (case hr => first | (go_simp; done) | (go_simp; rfl)); intro w13 hw; have hg : w11.grownBy w13 (some go10) := (by rw [hw]; exact HP12.2); have hp_ : Kd.R qx 59 w13 w.heap.size (fun _ => True) (.slice (some ⟨go10, 0, none⟩) x3_1.length co10) y107 := (by rw [hw, Ny107.out]; exact HP12.1); clear HP12; have n0_ := zA.mk (hp_); have n1_ := zA.mk ((by rw [hw]; exact zF (zF (HB.out) GB10.out) GB10.out : Below w.heap.size w w13)); clear HO_3; clear HB; have HO_3 := n0_; have HB := n1_; clear n0_ n1_; clear hg hw hp_))
                go_roundg k1
                case measure => have := HK1.out; omega
                case rel => exact ⟨(y107), (wrap64 (x4_1 + 1)), (by first | rfl | (simp; done) | (simp [*]; done)), H', ⟨by have := HK1.out; omega⟩, ⟨by (with_reducible repeat (first | apply Kd.zm | apply Kd.zk | apply Kd.zu)); exact HO_3.out⟩, ⟨by repeat (first | (with_reducible first | exact HB.out | apply zC | apply zB | apply zD) | exact HB.out)⟩⟩
              · rw [if_neg c9] at H
                exact absurd H (by simp)
            · rw [if_neg c7] at H
              exact absurd H (by simp)
          · rw [if_neg c6] at H
            have c6b0 : decide (x4_1 < (l0.length : Int)) = false := yhy c6
            clear c6
            obtain rfl := yey H
            go_wp2
            go_ret
            exact ⟨_, by first | rfl | (simp [zQ, zR] <;> rfl) | (simp [*, zQ, zR] <;> rfl), by (with_reducible repeat (first | apply Kd.zm | apply Kd.zk | apply Kd.zu)); exact HO_3.out, by repeat (first | (with_reducible first | exact HB.out | apply zC | apply zB | apply zD) | exact HB.out)⟩
    · rw [if_neg c3] at H
      exact absurd H (by simp)
  · rw [if_neg c2] at H
    exact absurd H (by simp)
def qV.l0 : Nat → List (List (qR)) → List (List (zq)) → Int → Option ((List (List (zq))))
  | 0, _, _, _ => none
  | k + 1, x0, x3, x4 => if x4 < (x0.length : Int) then (if 0 ≤ x4 then ((qj.f k (ZQ x0 x4)).bind fun t105 => (if x4 < (x3.length : Int) then (qV.l0 k x0 (x3.set (x4 : Int).toNat t105) (wrap64 (x4 + 1))) else (none))) else (none)) else (some x3)
def qV.f (k : Nat) (l0 : List (List (qR))) : Option ((List (List (zq)))) := if 0 ≤ (l0.length : Int) then (if ((l0.length : Int) : Int).toNat ≤ 11728124029610 then (qV.l0 k l0 (List.replicate ((l0.length : Int) : Int).toNat []) 0) else (none)) else (none)
set_option maxHeartbeats 8000000 in
set_option maxRecDepth 100000 in
theorem qV.calls (k : Nat) (A0 : Option Addr) (c0 : Nat) (l0 : List (List (qR))) (r : List (List (zq))) (w : World) (hr0 : Kd.C (Kd.slice 123 QA) w A0 l0.length l0) (hc0 : l0.length ≤ c0) (h : qV.f k l0 = some r) :
    Calls Try.prog 39 #[.slice A0 l0.length c0] w fun e w' => ∃ v0_ : Value, e = .returned (v0_) ∧ Kd.S (Kd.slice 59 qx) 60 w' w.heap.size (fun _ => True) v0_ r ∧ Below w.heap.size w w' := by
  have HR0 := zA.mk hr0
  have HC0 := zA.mk hc0
  clear hr0 hc0
  have HB := zA.mk (yry w.heap.size w)
  have H : (if 0 ≤ (l0.length : Int) then (if ((l0.length : Int) : Int).toNat ≤ 11728124029610 then (qV.l0 k l0 (List.replicate ((l0.length : Int) : Int).toNat []) 0) else (none)) else (none)) = some r := h
  clear h
  by_cases c2 : 0 ≤ (l0.length : Int)
  · rw [if_pos c2] at H
    have c2b0 := eq_true c2
    have c2b1 : decide (0 ≤ (l0.length : Int)) = true := ygy c2
    clear c2
    by_cases c3 : ((l0.length : Int) : Int).toNat ≤ 11728124029610
    · rw [if_pos c3] at H
      have c3b0 := eq_true c3
      have c3b1 : decide (((l0.length : Int) : Int).toNat ≤ 11728124029610) = true := ygy c3
      clear c3
      obtain ⟨y101, hy101⟩ : ∃ y_ : List (List (zq)), y_ = (List.replicate ((l0.length : Int) : Int).toNat []) := ⟨_, rfl⟩
      replace H : (qV.l0 k l0 y101 0) = some r := by first | (rw [hy101]; with_reducible exact H) | (have H2_ := (yfy _ _).symm.trans H; rw [hy101]; with_reducible exact H2_) | (have H2_ := (yfy _ _).symm.trans H; with_reducible exact H2_) | with_reducible exact H | (rw [hy101]; exact H) | exact H
      have Ny101 := zA.mk hy101
      clear hy101
      have H' := zA.mk H
      clear H
      go_enter Try.func39, Try.ntmps39
      go_wp2_with (first | ((with_reducible refine zd (N := 7) rfl ?_); refine Kd.S_make (Kd.slice 59 qx) _ 60 rfl (N := 7) rfl 28 _ _ rfl (l0.length : Int) rfl rfl Try.underlying28 (.slice none 0 0) 24 info60 rfl (by decide) (by omega) [] (ok := fun _ => True) (okp := fun _ => True) ⟨_, rfl, Kd.zAy _ _ _ _ _⟩ (fun _ hk => hk) trivial (of_decide_eq_true (by first | (with_reducible assumption) | assumption)) (Nat.le_trans (Nat.mul_le_mul_right _ (of_decide_eq_true (by first | (with_reducible assumption) | assumption) : (l0.length : Int).toNat ≤ 11728124029610)) (by omega)) (yry _ _) (yqy _) ?_; intro v102 w4 ho5 hb hg_ hnew_; clear hg_ hnew_; (first | rw [← Ny101.out] at ho5 | (simp only [Int.reduceToNat] at ho5; rw [← Ny101.out] at ho5)); have n0_ := zA.mk (Kd.zA7 ho5 (zO (by repeat (first | (with_reducible first | exact HB.out | apply zC | apply zB | apply zD) | exact HB.out)))); have n1_ := zA.mk (zN (by repeat (first | (with_reducible first | exact HB.out | apply zC | apply zB | apply zD) | exact HB.out)) hb); clear HB; have HO103 := n0_; have HB := n1_; clear n0_ n1_; clear hb ho5))
      go_loopg [4] k (fun kq v4 w' => ∃ (x3_1 : List (List (zq))) (x4_1 : Int), v4 = .int .i64 x4_1 ∧ zA (qV.l0 kq l0 x3_1 x4_1 = some r) ∧ zA (kq ≤ k) ∧ zA (Kd.S (Kd.slice 59 qx) 60 w' w.heap.size (fun _ => True) v102 x3_1) ∧ zA (Below w.heap.size w w'))
      case atStart => exact ⟨(y101), (0), (by first | rfl | (simp; done) | (simp [*]; done)), H', ⟨yqy _⟩, ⟨by (with_reducible repeat (first | apply Kd.qN | apply Kd.qO | apply Kd.ql)); exact HO103.out⟩, ⟨by repeat (first | (with_reducible first | exact HB.out | apply zC | apply zB | apply zD) | exact HB.out)⟩⟩
      case round =>
        clear H'
        try clear c2
        try clear c2b0
        try clear c2b1
        try clear p2
        try clear c3
        try clear c3b0
        try clear c3b1
        obtain ⟨x3_1, x4_1, rfl, HA, HK1, HO_3, HB⟩ := hrel
        cases gk with
        | zero => exact absurd HA.out (by simp [qV.l0])
        | succ k1 =>
          have H := HA.out
          clear HA
          simp only [qV.l0] at H
          by_cases c6 : x4_1 < (l0.length : Int)
          · rw [if_pos c6] at H
            have c6b0 : decide (x4_1 < (l0.length : Int)) = true := ygy c6
            clear c6
            by_cases c7 : 0 ≤ x4_1
            · rw [if_pos c7] at H
              have c7b0 : decide (0 ≤ x4_1) = true := ygy c7
              clear c7
              replace H := ydy.mp H
              obtain ⟨t105, A80, H⟩ := H
              replace H : (if x4_1 < (x3_1.length : Int) then (qV.l0 k1 l0 (x3_1.set (x4_1 : Int).toNat t105) (wrap64 (x4_1 + 1))) else (none)) = some r := H
              have A8 := zA.mk A80
              clear A80
              by_cases c9 : x4_1 < (x3_1.length : Int)
              · rw [if_pos c9] at H
                have c9b0 : decide (x4_1 < (x3_1.length : Int)) = true := ygy c9
                clear c9
                obtain ⟨y108, hy108⟩ : ∃ y_ : List (List (zq)), y_ = (x3_1.set (x4_1 : Int).toNat t105) := ⟨_, rfl⟩
                replace H : (qV.l0 k1 l0 y108 (wrap64 (x4_1 + 1))) = some r := by first | (rw [hy108]; with_reducible exact H) | (have H2_ := (yfy _ _).symm.trans H; rw [hy108]; with_reducible exact H2_) | (have H2_ := (yfy _ _).symm.trans H; with_reducible exact H2_) | with_reducible exact H | (rw [hy108]; exact H) | exact H
                have Ny108 := zA.mk hy108
                clear hy108
                have H' := zA.mk H
                clear H
                have p104 : 0 ≤ (x4_1 : Int) := of_decide_eq_true (by first | (with_reducible assumption) | assumption)
                have q104 : x4_1 < (l0.length : Int) := of_decide_eq_true (by first | (with_reducible assumption) | assumption)
                obtain ⟨ad104, A104_0, c104_0, e104, hx104_0, hl104_0, hi104_0⟩ := zA8 HR0.out x4_1 p104 q104
                cases e104
                replace hx104_0 := (HB.out.cell (ypy w _ hx104_0)).trans hx104_0
                have HR104_0 := zA.mk hi104_0
                have HC104_0 := zA.mk hl104_0
                clear hi104_0 hl104_0
                replace p104 := eq_true p104
                replace q104 := eq_true q104
                go_wp2_with (first | ((with_reducible refine zS (f := 77) rfl ?_); refine qB (some 20) rfl rfl Try.func77 (by kernel_rfl) rfl #[.slice A104_0 (ZQ l0 x4_1).length c104_0] rfl (by (try simp only [yiy, yjy, yky]); first | done | rfl | (simp only [yly, ymy]; rfl)) ?_; (with_reducible refine (qj.calls k1 _ _ (ZQ l0 x4_1) t105 _ ?side1 ?side2 A8.out).mono ?_); (case side1 => repeat (first | exact (Kd.ze HR104_0.out HB.out) | (with_reducible refine Kd.zf ?_ _) | (with_reducible refine Kd.zg ?_ _) | (with_reducible refine Kd.zz ?_))); (case side2 => exact HC104_0.out); rintro e w11 ⟨v106, rfl, ho0, hb⟩; refine ⟨_, rfl, ?_⟩; have n0_ := zA.mk (Kd.Jw (by (with_reducible repeat (first | apply Kd.qN | apply Kd.qO | apply Kd.ql)); exact HO_3.out) (Kd.JI ho0) hb); have n1_ := zA.mk (Kd.Zb ho0 (zO (by repeat (first | (with_reducible first | exact HB.out | apply zC | apply zB | apply zD) | exact HB.out)))); have n2_ := zA.mk (zN (by repeat (first | (with_reducible first | exact HB.out | apply zC | apply zB | apply zD) | exact HB.out)) hb); clear HO_3; clear HB; have HO_3 := n0_; have HO107 := n1_; have HB := n2_; clear n0_ n1_ n2_; (try clear hb); (try clear hb2); (try clear hk); (try clear hi); (try clear ho0); have p10 : 0 ≤ (x4_1 : Int) := of_decide_eq_true (by first | (with_reducible assumption) | assumption); have q10 : (x4_1 : Int) < ((x3_1.length : Int) : Int) := of_decide_eq_true (by first | (with_reducible assumption) | assumption); obtain ⟨go10, co10, eo10, gb10, gl10, cl10, HG10⟩ := Kd.zFw HO_3.out (by omega); (first | cases eo10 | (injection eo10 with ea_ en_ ec_; (first | subst ea_ | (injection ea_ with ea_; subst ea_)); subst ec_; clear en_)); have GB10 := zA.mk gb10; have GG10 := zA.mk HG10; clear gb10 gl10 HG10; obtain ⟨_, ce10, hcl10, hM10, hcc10, hfr10, _, _⟩ := Kd.zFz HO_3.out [] (x4_1 : Int) p10 q10; obtain ⟨ve10_0, rfl, ge10_0⟩ := hM10; have hx10_0 := hcc10 0 _ rfl; have hf10_0 := hfr10 0; (try simp only [show ((Kd.slice 59 qx)).sz = 1 from rfl, Nat.mul_one, Nat.add_zero] at hx10_0); (try simp only [show ((Kd.slice 59 qx)).sz = 1 from rfl, Nat.mul_one, Nat.add_zero] at hf10_0); clear hcl10 hcc10 hfr10; (try clear hM10); replace p10 := eq_true p10; replace q10 := eq_true q10; have n_ := zA.mk (Kd.Zj (ok' := (fun k_ => some k_ ≠ (v106 : Value).ownBlock)) HO_3.out (fun k_ hk => hk.2)); clear HO_3; have HO_3 := n_; clear n_; have HX12 := zA.mk (show Kd.S (Kd.slice 59 qx) 60 w11 w.heap.size (fun k_ => ((fun _ => True)) k_ ∧ ¬ ((fun k_ => some k_ = (v106 : Value).ownBlock)) k_) (.slice (some ⟨go10, 0, none⟩) x3_1.length co10) x3_1 from (by (with_reducible repeat (first | apply Kd.qN | apply Kd.qO | apply Kd.ql)); exact Kd.Zj HO_3.out (fun k_ hk => ⟨trivial, fun e_ => hk e_⟩))); obtain ⟨oki12, ce12, hcl12, hM12, hcc12, hfr12, hoki12, hH12⟩ := Kd.zFz HX12.out [] (x4_1 : Int) (of_decide_eq_true (by first | (with_reducible assumption) | assumption)) (by have h_ : (x4_1 : Int) < ((x3_1.length : Int) : Int) := of_decide_eq_true (by first | (with_reducible assumption) | assumption); first | exact h_ | (have e_ := (Kd.QK HO_3.out).1; omega) | simpa using h_); obtain ⟨ve12_0, rfl, ge12_0⟩ := hM12; have HP12 := Kd.S_seg hH12 (of_decide_eq_true (by first | (with_reducible assumption) | assumption)) (by have h_ : (x4_1 : Int) < ((x3_1.length : Int) : Int) := of_decide_eq_true (by first | (with_reducible assumption) | assumption); first | exact h_ | (have e_ := (Kd.QK HO_3.out).1; omega) | simpa using h_) (seg := [v106]) (j := 0) (show 1 ≤ 1 from by decide) (x' := t105) (Kd.zFQ (Kd.qW (Kd.JA rfl (Kd.qW (ok' := fun k_ => ((fun _ => True)) k_ ∧ k_ ≠ go10) (Kd.Qc (HO107.out) (Kd.JB HO_3.out) (by decide)) (fun k_ hk => ⟨trivial, fun e_ => (hk.2) (by rw [e_]; rfl)⟩))) (fun _ h_ => Or.inr (h_)))) (fun _ hk => hk) (fun k_ hk_ => ((Kd.qW (ok' := fun k_ => ((fun _ => True)) k_ ∧ k_ ≠ go10) (Kd.Qc (HO107.out) (Kd.JB HO_3.out) (by decide)) (fun k_ hk => ⟨trivial, fun e_ => (hk.2) (by rw [e_]; rfl)⟩))).1 k_ hk_.symm); have hx12_0 := hcc12 0 _ rfl; (try simp only [show ((Kd.slice 59 qx)).sz = 1 from rfl, Nat.mul_one, Nat.add_zero] at hx12_0); have hf12_0 := hfr12 0; (try simp only [show ((Kd.slice 59 qx)).sz = 1 from rfl, Nat.mul_one, Nat.add_zero] at hf12_0); clear hcl12 hcc12 hfr12 hoki12 hH12; (try clear hM12); (try simp only [show ((Kd.slice 59 qx)).sz = 1 from rfl, Nat.mul_one, Nat.add_zero] at HP12)) | ((with_reducible refine ZH (t := 60) (p := 21) rfl ?_); refine qz (t := 60) (p := 21) (v := ?vo_w13) (w1 := (w11.setCell ⟨go10, (x4_1 : Int).toNat, none⟩ (v106))) ?hg ?ho ?hn ?hr ?_; (case ho => rfl); (case hg => rfl); (case hn => rfl); (case hr => first | (go_simp; done) | (go_simp; rfl) | (obtain ⟨ea_, ec_, ev_⟩ := Kd.ZP HO107.out; rw [ev_]; first | (go_simp; done) | (go_simp; rfl)) | (obtain ⟨ea_, ec_, ev_⟩ := Kd.ZP (Kd.S_R HO107.out); rw [ev_]; first | (go_simp; done) | (go_simp; rfl))); intro w13 hw; have hg : w11.grownBy w13 (some go10) := (by rw [hw]; exact HP12.2); have hp_ : Kd.S (Kd.slice 59 qx) 60 w13 w.heap.size (fun _ => True) (.slice (some ⟨go10, 0, none⟩) x3_1.length co10) y108 := (by rw [hw, Ny108.out]; exact HP12.1); clear HP12; have n0_ := zA.mk (hp_); have n1_ := zA.mk ((by rw [hw]; exact zF (HB.out) GB10.out : Below w.heap.size w w13)); clear HO_3; clear HB; clear HO107; have HO_3 := n0_; have HB := n1_; clear n0_ n1_; clear hg hw hp_))
                go_roundg k1
                case measure => have := HK1.out; omega
                case rel => exact ⟨(y108), (wrap64 (x4_1 + 1)), (by first | rfl | (simp; done) | (simp [*]; done)), H', ⟨by have := HK1.out; omega⟩, ⟨by (with_reducible repeat (first | apply Kd.qN | apply Kd.qO | apply Kd.ql)); exact HO_3.out⟩, ⟨by repeat (first | (with_reducible first | exact HB.out | apply zC | apply zB | apply zD) | exact HB.out)⟩⟩
              · rw [if_neg c9] at H
                exact absurd H (by simp)
            · rw [if_neg c7] at H
              exact absurd H (by simp)
          · rw [if_neg c6] at H
            have c6b0 : decide (x4_1 < (l0.length : Int)) = false := yhy c6
            clear c6
            obtain rfl := yey H
            go_wp2
            go_ret
            exact ⟨_, by first | rfl | (simp [zQ, zR] <;> rfl) | (simp [*, zQ, zR] <;> rfl), by (with_reducible repeat (first | apply Kd.qN | apply Kd.qO | apply Kd.ql)); exact HO_3.out, by repeat (first | (with_reducible first | exact HB.out | apply zC | apply zB | apply zD) | exact HB.out)⟩
    · rw [if_neg c3] at H
      exact absurd H (by simp)
  · rw [if_neg c2] at H
    exact absurd H (by simp)
def qf.f (k : Nat) (l0_0 : List (List (qR))) : Option ((List (List (zq)))) := (qV.f k l0_0).bind fun t104 => (some t104)
set_option maxHeartbeats 8000000 in
set_option maxRecDepth 100000 in
theorem qf.calls (k : Nat) (A0_0 : Option Addr) (c0_0 : Nat) (l0_0 : List (List (qR))) (r : List (List (zq))) (w : World) (hr0_0 : Kd.C (Kd.slice 123 QA) w A0_0 l0_0.length l0_0) (hc0_0 : l0_0.length ≤ c0_0) (h : qf.f k l0_0 = some r) :
    Calls Try.prog 10 #[.agg #[.slice A0_0 l0_0.length c0_0]] w fun e w' => ∃ v0_ : Value, e = .returned (.agg #[v0_]) ∧ Kd.S (Kd.slice 59 qx) 60 w' w.heap.size (fun _ => True) v0_ r ∧ Below w.heap.size w w' := by
  have hu24 := Try.underlying24
  have hu30 := Try.underlying30
  have HR0_0 := zA.mk hr0_0
  have HC0_0 := zA.mk hc0_0
  clear hr0_0 hc0_0
  have HB := zA.mk (yry w.heap.size w)
  have H : ((qV.f k l0_0).bind fun t104 => (some t104)) = some r := h
  clear h
  replace H := ydy.mp H
  obtain ⟨t104, A20, H⟩ := H
  replace H : (some t104) = some r := H
  have A2 := zA.mk A20
  clear A20
  obtain rfl := yey H
  go_enter Try.func10, Try.ntmps10
  go_wp2_with (first | ((with_reducible refine zd (N := 1) rfl ?_); refine zb ?hg (N := 1) ?hd (cs := #[.slice A0_0 l0_0.length c0_0]) (t := 24) ?hr ?_; (case hd => rfl); (case hg => rfl); (case hr => first | (go_simp; done) | (go_simp; rfl)); intro gb101 hg w3 hbox hb; have n0_ := zA.mk (zN (by repeat (first | (with_reducible first | exact HB.out | apply zC | apply zB | apply zD) | exact HB.out)) hb); have n1_ := zA.mk (hbox); have n2_ := zA.mk ((by rw [hg]; exact (zO (by repeat (first | (with_reducible first | exact HB.out | apply zC | apply zB | apply zD) | exact HB.out))) : w.heap.size ≤ gb101)); have n3_ := zA.mk ((by rw [hg]; exact (zO (by repeat (first | (with_reducible first | exact HB.out | apply zC | apply zB | apply zD) | exact HB.out))) : w.heap.size ≤ gb101)); clear HB; have HB := n0_; have BK101 := n1_; have GW101 := n2_; have GE101 := n3_; clear n0_ n1_ n2_ n3_; clear hb hbox hg) | ((with_reducible refine zd (N := 2) rfl ?_); refine zb ?hg (N := 2) ?hd (cs := #[.slice none 0 0]) (t := 30) ?hr ?_; (case hd => rfl); (case hg => rfl); (case hr => first | (go_simp; done) | (go_simp; rfl)); intro gb102 hg w4 hbox hb; have n0_ := zA.mk (zP (g := gb101) (o := .cells #[.slice A0_0 l0_0.length c0_0] 24 (0, 0)) (by (with_reducible repeat (first | refine zI ?_ _ | refine zJ ?_ | refine zH ?_ _)); exact BK101.out) hb); have n1_ := zA.mk (zN (by repeat (first | (with_reducible first | exact HB.out | apply zC | apply zB | apply zD | refine zF ?_ GE101.out) | exact HB.out)) hb); have n2_ := zA.mk (hbox); have n3_ := zA.mk ((by rw [hg]; exact (zO (by repeat (first | (with_reducible first | exact HB.out | apply zC | apply zB | apply zD | refine zF ?_ GE101.out) | exact HB.out))) : w.heap.size ≤ gb102)); have n4_ := zA.mk ((by rw [hg]; exact (zO (by repeat (first | (with_reducible first | exact HB.out | apply zC | apply zB | apply zD | refine zF ?_ GE101.out) | exact HB.out))) : w.heap.size ≤ gb102)); have n5_ := zA.mk ((by rw [hg]; exact Nat.ne_of_lt (qS (g := gb101) (o := .cells #[.slice A0_0 l0_0.length c0_0] 24 (0, 0)) (by (with_reducible repeat (first | refine zI ?_ _ | refine zJ ?_ | refine zH ?_ _)); exact BK101.out)) : gb101 ≠ gb102)); have n6_ := zA.mk ((by rw [hg]; exact Nat.ne_of_gt (qS (g := gb101) (o := .cells #[.slice A0_0 l0_0.length c0_0] 24 (0, 0)) (by (with_reducible repeat (first | refine zI ?_ _ | refine zJ ?_ | refine zH ?_ _)); exact BK101.out)) : gb102 ≠ gb101)); clear BK101; clear HB; have BK101 := n0_; have HB := n1_; have BK102 := n2_; have GW102 := n3_; have GE102 := n4_; have NB101_102 := n5_; have NB102_101 := n6_; clear n0_ n1_ n2_ n3_ n4_ n5_ n6_; clear hb hbox hg) | ((with_reducible refine zd (N := 3) rfl ?_); refine zb ?hg (N := 3) ?hd (cs := #[.slice none 0 0]) (t := 30) ?hr ?_; (case hd => rfl); (case hg => rfl); (case hr => first | (go_simp; done) | (go_simp; rfl)); intro gb103 hg w5 hbox hb; have n0_ := zA.mk (zP (g := gb101) (o := .cells #[.slice A0_0 l0_0.length c0_0] 24 (0, 0)) (by (with_reducible repeat (first | refine zI ?_ _ | refine zJ ?_ | refine zH ?_ _)); exact BK101.out) hb); have n1_ := zA.mk (zP (g := gb102) (o := .cells #[.slice none 0 0] 30 (0, 0)) (by (with_reducible repeat (first | refine zI ?_ _ | refine zJ ?_ | refine zH ?_ _)); exact BK102.out) hb); have n2_ := zA.mk (zN (by repeat (first | (with_reducible first | exact HB.out | apply zC | apply zB | apply zD | refine zF ?_ GE101.out | refine zF ?_ GE102.out) | exact HB.out)) hb); have n3_ := zA.mk (hbox); have n4_ := zA.mk ((by rw [hg]; exact (zO (by repeat (first | (with_reducible first | exact HB.out | apply zC | apply zB | apply zD | refine zF ?_ GE101.out | refine zF ?_ GE102.out) | exact HB.out))) : w.heap.size ≤ gb103)); have n5_ := zA.mk ((by rw [hg]; exact (zO (by repeat (first | (with_reducible first | exact HB.out | apply zC | apply zB | apply zD | refine zF ?_ GE101.out | refine zF ?_ GE102.out) | exact HB.out))) : w.heap.size ≤ gb103)); have n6_ := zA.mk ((by rw [hg]; exact Nat.ne_of_lt (qS (g := gb101) (o := .cells #[.slice A0_0 l0_0.length c0_0] 24 (0, 0)) (by (with_reducible repeat (first | refine zI ?_ _ | refine zJ ?_ | refine zH ?_ _)); exact BK101.out)) : gb101 ≠ gb103)); have n7_ := zA.mk ((by rw [hg]; exact Nat.ne_of_gt (qS (g := gb101) (o := .cells #[.slice A0_0 l0_0.length c0_0] 24 (0, 0)) (by (with_reducible repeat (first | refine zI ?_ _ | refine zJ ?_ | refine zH ?_ _)); exact BK101.out)) : gb103 ≠ gb101)); have n8_ := zA.mk ((by rw [hg]; exact Nat.ne_of_lt (qS (g := gb102) (o := .cells #[.slice none 0 0] 30 (0, 0)) (by (with_reducible repeat (first | refine zI ?_ _ | refine zJ ?_ | refine zH ?_ _)); exact BK102.out)) : gb102 ≠ gb103)); have n9_ := zA.mk ((by rw [hg]; exact Nat.ne_of_gt (qS (g := gb102) (o := .cells #[.slice none 0 0] 30 (0, 0)) (by (with_reducible repeat (first | refine zI ?_ _ | refine zJ ?_ | refine zH ?_ _)); exact BK102.out)) : gb103 ≠ gb102)); clear BK101; clear BK102; clear HB; have BK101 := n0_; have BK102 := n1_; have HB := n2_; have BK103 := n3_; have GW103 := n4_; have GE103 := n5_; have NB101_103 := n6_; have NB103_101 := n7_; have NB102_103 := n8_; have NB103_102 := n9_; clear n0_ n1_ n2_ n3_ n4_ n5_ n6_ n7_ n8_ n9_; clear hb hbox hg; have hnb6 := NB101_102.out; have hnc6 := NB102_101.out; have hnb7 := NB101_103.out; have hnc7 := NB103_101.out; have hcz8_0 : w5.cell? ⟨gb101, 0, none⟩ = some (.slice A0_0 l0_0.length c0_0) := (zK BK101.out 0).trans rfl; have hfz8_0 := zL BK101.out 0) | ((with_reducible refine zS (f := 39) rfl ?_); refine qB (some 6) rfl rfl Try.func39 (by kernel_rfl) rfl #[.slice A0_0 l0_0.length c0_0] rfl (by (try simp only [yiy, yjy, yky]); first | done | rfl | (simp only [yly, ymy]; rfl)) ?_; (with_reducible refine (qV.calls k _ _ l0_0 t104 _ ?side1 ?side2 A2.out).mono ?_); (case side1 => repeat (first | exact (Kd.ze HR0_0.out HB.out) | (with_reducible refine Kd.zf ?_ _) | (with_reducible refine Kd.zg ?_ _) | (with_reducible refine Kd.zz ?_))); (case side2 => exact HC0_0.out); rintro e w9 ⟨v105, rfl, ho0, hb⟩; refine ⟨_, rfl, ?_⟩; have n0_ := zA.mk (Kd.zA7 ho0 (zO (by repeat (first | (with_reducible first | exact HB.out | apply zC | apply zB | apply zD | refine zF ?_ GE101.out | refine zF ?_ GE102.out | refine zF ?_ GE103.out) | exact HB.out)))); have n1_ := zA.mk (zP (g := gb101) (o := .cells #[.slice A0_0 l0_0.length c0_0] 24 (0, 0)) (by (with_reducible repeat (first | refine zI ?_ _ | refine zJ ?_ | refine zH ?_ _)); exact BK101.out) hb); have n2_ := zA.mk (zP (g := gb102) (o := .cells #[.slice none 0 0] 30 (0, 0)) (by (with_reducible repeat (first | refine zI ?_ _ | refine zJ ?_ | refine zH ?_ _)); exact BK102.out) hb); have n3_ := zA.mk (zP (g := gb103) (o := .cells #[.slice none 0 0] 30 (0, 0)) (by (with_reducible repeat (first | refine zI ?_ _ | refine zJ ?_ | refine zH ?_ _)); exact BK103.out) hb); have n4_ := zA.mk (zN (by repeat (first | (with_reducible first | exact HB.out | apply zC | apply zB | apply zD | refine zF ?_ GE101.out | refine zF ?_ GE102.out | refine zF ?_ GE103.out) | exact HB.out)) hb); clear BK101; clear BK102; clear BK103; clear HB; have HO106 := n0_; have BK101 := n1_; have BK102 := n2_; have BK103 := n3_; have HB := n4_; clear n0_ n1_ n2_ n3_ n4_; (try clear hb); (try clear hb2); (try clear hk); (try clear hi); (try clear ho0); obtain ⟨Ao10, co10, eo10⟩ := Kd.JS HO106.out; subst eo10; have hnb11 := NB103_102.out; have hnc11 := NB102_103.out; have hcz12_0 : w9.cell? ⟨gb103, 0, none⟩ = some (.slice none 0 0) := (zK BK103.out 0).trans rfl; have hfz12_0 := zL BK103.out 0; have hcz13_0 : w9.cell? ⟨gb102, 0, none⟩ = some (.slice none 0 0) := (zK BK102.out 0).trans rfl; have hfz13_0 := zL BK102.out 0))
  refine bodyPost_ret (results_cell_row rfl _ _ gb102 30 #[.slice Ao10 t104.length co10] (0, 0) _ rfl (by (with_reducible repeat (first | refine zI ?_ _ | refine zJ ?_ | refine zH ?_ _)); refine qe (cs := #[.slice none 0 0]) ?_ 0 _ rfl; (with_reducible repeat (first | refine zI ?_ _ | refine zJ ?_ | refine zH ?_ _)); refine qX ?_ NB102_103.out _; (with_reducible repeat (first | refine zI ?_ _ | refine zJ ?_ | refine zH ?_ _)); exact BK102.out) Try.underlying30 rfl (by kernel_rfl)) rfl ?_
  exact ⟨_, by first | rfl | (simp [zQ, zR] <;> rfl) | (simp [*, zQ, zR] <;> rfl), by (with_reducible repeat (first | apply Kd.qN | apply Kd.qO | apply Kd.ql)); exact Kd.Zj (Kd.zB7 (p := ⟨gb102, 0, none⟩) (Kd.zB7 (p := ⟨gb103, 0, none⟩) (Kd.zAW (Kd.zAW HO106.out BK103.out (by decide)) BK102.out (by decide)) (fun _ hk => hk.1.2) (.slice Ao10 t104.length co10)) (fun _ hk => hk.2) (.slice Ao10 t104.length co10)) (fun _ hk => trivial), by repeat (first | (with_reducible first | exact HB.out | apply zC | apply zB | apply zD | refine zF ?_ GE101.out | refine zF ?_ GE102.out | refine zF ?_ GE103.out) | exact HB.out)⟩
def QZ.f (a0 : Int) (a1 : Int) (a2 : Int) : Option (Bool) := if a0 ≥ a1 then (some (decide (a0 ≤ a2))) else (some false)
set_option maxHeartbeats 8000000 in
set_option maxRecDepth 100000 in
theorem QZ.calls (a0 : Int) (a1 : Int) (a2 : Int) (r : Bool) (w : World) (h : QZ.f a0 a1 a2 = some r) :
    Calls Try.prog 147 #[.int .i64 a0, .int .i64 a1, .int .i64 a2] w fun e w' => e = .returned (.bool r) ∧ zZ w w' := by
  have H : (if a0 ≥ a1 then (some (decide (a0 ≤ a2))) else (some false)) = some r := h
  clear h
  by_cases c4 : a0 ≥ a1
  · rw [if_pos c4] at H
    have c4b0 : decide (a1 ≤ a0) = true := ygy c4
    clear c4
    obtain rfl := yey H
    go_enter Try.func147, Try.ntmps147
    go_wp2
    go_ret
    exact ⟨by first | rfl | (simp; done) | (simp [*]; done), by repeat (first | exact zZ.refl _ | apply zZ.step)⟩
  · rw [if_neg c4] at H
    have c4b0 : decide (a1 ≤ a0) = false := yhy c4
    clear c4
    obtain rfl := yey H
    go_enter Try.func147, Try.ntmps147
    go_wp2
    go_ret
    exact ⟨by first | rfl | (simp; done) | (simp [*]; done), by repeat (first | exact zZ.refl _ | apply zZ.step)⟩
def zt.f (l0_0 : List (List (zq))) : Option (Int) := some (l0_0.length : Int)
set_option maxHeartbeats 8000000 in
set_option maxRecDepth 100000 in
theorem zt.calls (A0_0 : Option Addr) (c0_0 : Nat) (l0_0 : List (List (zq))) (r : Int) (w : World) (hr0_0 : Kd.C (Kd.slice 59 qx) w A0_0 l0_0.length l0_0) (hc0_0 : l0_0.length ≤ c0_0) (h : zt.f l0_0 = some r) :
    Calls Try.prog 34 #[.agg #[.slice A0_0 l0_0.length c0_0]] w fun e w' => e = .returned (.int .i64 r) ∧ Below w.heap.size w w' := by
  have hu30 := Try.underlying30
  have HR0_0 := zA.mk hr0_0
  have HC0_0 := zA.mk hc0_0
  clear hr0_0 hc0_0
  have HB := zA.mk (yry w.heap.size w)
  have H : (some (l0_0.length : Int)) = some r := h
  clear h
  obtain rfl := yey H
  go_enter Try.func34, Try.ntmps34
  go_wp2_with (first | ((with_reducible refine zd (N := 1) rfl ?_); refine zb ?hg (N := 1) ?hd (cs := #[.slice A0_0 l0_0.length c0_0]) (t := 30) ?hr ?_; (case hd => rfl); (case hg => rfl); (case hr => first | (go_simp; done) | (go_simp; rfl)); intro gb101 hg w2 hbox hb; have n0_ := zA.mk (zN (by repeat (first | (with_reducible first | exact HB.out | apply zC | apply zB | apply zD) | exact HB.out)) hb); have n1_ := zA.mk (hbox); have n2_ := zA.mk ((by rw [hg]; exact (zO (by repeat (first | (with_reducible first | exact HB.out | apply zC | apply zB | apply zD) | exact HB.out))) : w.heap.size ≤ gb101)); have n3_ := zA.mk ((by rw [hg]; exact (zO (by repeat (first | (with_reducible first | exact HB.out | apply zC | apply zB | apply zD) | exact HB.out))) : w.heap.size ≤ gb101)); clear HB; have HB := n0_; have BK101 := n1_; have GW101 := n2_; have GE101 := n3_; clear n0_ n1_ n2_ n3_; clear hb hbox hg; have hcz3_0 : w2.cell? ⟨gb101, 0, none⟩ = some (.slice A0_0 l0_0.length c0_0) := (zK BK101.out 0).trans rfl; have hfz3_0 := zL BK101.out 0))
  go_ret
  exact ⟨by first | rfl | (simp [zQ, zR] <;> rfl) | (simp [*, zQ, zR] <;> rfl), by repeat (first | (with_reducible first | exact HB.out | apply zC | apply zB | apply zD | refine zF ?_ GE101.out) | exact HB.out)⟩
def zV.l0 : Nat → Int → List Int → List Int → Int → Int → Option (List Int)
 | 0, _, _, _, _, _ => none
 | k + 1, x0, x3, x4, x5, x6 => if x6 ≥ 0 then (if x5 = 0 then (none) else (if 0 ≤ (wrap64 (Int.tdiv x0 x5)) then (if (wrap64 (Int.tdiv x0 x5)) < (x3.length : Int) then (if x4.length < 17592186044416 then ((some (x4 ++ [rd x3 (wrap64 (Int.tdiv x0 x5))] : List Int)).bind fun y108 => ((some (([] : List Int) : List Int)).bind fun y111 => (if (wrap64 (Int.tdiv x0 x5)) ≤ (x3.length : Int) then ((some (x3.take ((wrap64 (Int.tdiv x0 x5)) : Int).toNat : List Int)).bind fun y114 => (if y111.length + y114.length < 17592186044416 then ((some (y111 ++ y114 : List Int)).bind fun y118 => (if 0 ≤ (wrap64 ((wrap64 (Int.tdiv x0 x5)) + 1)) then (if (wrap64 ((wrap64 (Int.tdiv x0 x5)) + 1)) ≤ (x3.length : Int) then ((some (x3.drop ((wrap64 ((wrap64 (Int.tdiv x0 x5)) + 1)) : Int).toNat : List Int)).bind fun y121 => (if y118.length + y121.length < 17592186044416 then ((some (y118 ++ y121 : List Int)).bind fun y125 => (if x6 > 0 then (if x6 = 0 then (none) else (zV.l0 k (Int.tmod x0 x5) y125 y108 (wrap64 (Int.tdiv x5 x6)) (wrap64 (x6 - 1)))) else (zV.l0 k (Int.tmod x0 x5) y125 y108 x5 (wrap64 (x6 - 1))))) else (none))) else (none)) else (none))) else (none))) else (none)))) else (none)) else (none)) else (none))) else (some x4)
def zV.f (k : Nat) (a0 : Int) : Option (List Int) := zV.l0 k a0 (([0, 1, 2, 3] : List Int)) (([] : List Int)) 6 3
theorem zV.zAn : ∀ k, (∀ y0 y1 y2 y3 y4, LeO (zV.l0 k y0 y1 y2 y3 y4) (zV.l0 (k + 1) y0 y1 y2 y3 y4))
 | 0 => fun _ _ _ _ _ r h => by simp [zV.l0] at h
 | k + 1 => by
  have ih0 := zV.zAn k
  next =>
   intro y0 y1 y2 y3 y4
   unfold zV.l0
   repeat' first
   | (with_reducible exact ih0 _ _ _ _ _)
   | (with_reducible exact LeO.refl _)
   | (with_reducible exact LeO.none _)
   | (with_reducible refine LeO.ite ?_ ?_)
   | (with_reducible refine LeO.bind ?_ (fun _ => ?_))
   | exact ih0 _ _ _ _ _
   | exact LeO.none _
   | refine LeO.ite ?_ ?_
   | refine LeO.bind ?_ (fun _ => ?_)
theorem zV.mono : ∀ a0 k, LeO (zV.f k a0) (zV.f (k + 1) a0) := by
 intro a0 k
 have ih0 := zV.zAn k
 unfold zV.f
 repeat' first
  | (with_reducible exact ih0 _ _ _ _ _)
  | (with_reducible exact LeO.refl _)
  | (with_reducible exact LeO.none _)
  | (with_reducible refine LeO.ite ?_ ?_)
  | (with_reducible refine LeO.bind ?_ (fun _ => ?_))
  | exact ih0 _ _ _ _ _
  | exact LeO.none _
  | refine LeO.ite ?_ ?_
  | refine LeO.bind ?_ (fun _ => ?_)
def zV.T10 : Bool × List (List Nat × List Nat) := (true, [([], []), ([], []), ([], []), ([1, 2], [1, 2]), ([0, 3], [0, 3]), ([], []), ([], []), ([6], [6]), ([5, 7], [5, 7]), ([4, 8, 4], [4, 8]), ([9, 9, 0, 1, 2, 3, 4, 5, 6, 7, 8, 9], [1, 5, 9])])
def zV.B10 : List Nat := [0, 0, 0, 6, 15, 0, 0, 64, 224, 511, 1023]
theorem zV.tab10 : zAV .any (opsOf Try.f76 10) = zV.T10 := by kernel_rfl
theorem zV.zG4 : Qp zV.T10.2 zV.B10 = true := by kernel_rfl
set_option maxHeartbeats 8000000 in
set_option maxRecDepth 100000 in
theorem zV.calls (k : Nat) (a0 : Int) (r : List Int) (w : World) (h : zV.f k a0 = some r) :
 Calls Try.prog 76 #[.int .i64 a0] w fun e w' => ∃ v0_ : Value, e = .returned (v0_) ∧ Kd.R (Kd.int .i64) 2 w' w.heap.size (fun _ => True) v0_ r ∧ Below w.heap.size w w' := by
 have HB := zA.mk (yry w.heap.size w)
 have H : (zV.l0 k a0 (([0, 1, 2, 3] : List Int)) (([] : List Int)) 6 3) = some r := h
 clear h
 obtain ⟨y101, hy101⟩ : ∃ y_ : List Int, y_ = (([0, 1, 2, 3] : List Int)) := ⟨_, rfl⟩
 replace H : (zV.l0 k a0 y101 (([] : List Int)) 6 3) = some r := by first | (rw [hy101]; with_reducible exact H) | (have H2_ := (yfy _ _).symm.trans H; rw [hy101]; with_reducible exact H2_) | (have H2_ := (yfy _ _).symm.trans H; with_reducible exact H2_) | with_reducible exact H | (rw [hy101]; exact H) | exact H
 have Ny101 := zA.mk hy101
 clear hy101
 obtain ⟨y104, hy104⟩ : ∃ y_ : List Int, y_ = (([] : List Int)) := ⟨_, rfl⟩
 replace H : (zV.l0 k a0 y101 y104 6 3) = some r := by first | (rw [hy104]; with_reducible exact H) | (have H2_ := (yfy _ _).symm.trans H; rw [hy104]; with_reducible exact H2_) | (have H2_ := (yfy _ _).symm.trans H; with_reducible exact H2_) | with_reducible exact H | (rw [hy104]; exact H) | exact H
 have Ny104 := zA.mk hy104
 clear hy104
 have H' := zA.mk H
 clear H
 go_enter Try.func76, Try.ntmps76
 go_wp2_with (first | ((with_reducible refine zd (N := 8) rfl ?_); refine Kd.zCi (Kd.int .i64) _ 2 ?hg (N := 8) ?hd (xs := ([0, 1, 2, 3] : List Int)) (inner := [.int .i64 0, .int .i64 1, .int .i64 2, .int .i64 3]) (ok := fun _ => True) (okp := fun _ => True) ?hr ?hp (fun _ hk => hk) trivial (yry _ _) (yqy _) (by simp) ?_; (case hd => rfl); (case hg => rfl); (case hr => first | (go_simp; done) | (go_simp; rfl)); (case hp => exact (QS.one (show Kd.M (Kd.int .i64) _ _ _ 0 [.int .i64 0] from rfl) (QS.one (show Kd.M (Kd.int .i64) _ _ _ 1 [.int .i64 1] from rfl) (QS.one (show Kd.M (Kd.int .i64) _ _ _ 2 [.int .i64 2] from rfl) (QS.one (show Kd.M (Kd.int .i64) _ _ _ 3 [.int .i64 3] from rfl) (QS.none _ _)))))); intro v102 w2 ho3 hb hg_ hnew_; clear hg_ hnew_; (first | rw [← Ny101.out] at ho3 | (simp only [Int.reduceToNat] at ho3; rw [← Ny101.out] at ho3)); have n0_ := zA.mk (Kd.Zb ho3 (zO (by repeat (first | (with_reducible first | exact HB.out | apply zC | apply zB | apply zD) | exact HB.out)))); have n1_ := zA.mk (zN (by repeat (first | (with_reducible first | exact HB.out | apply zC | apply zB | apply zD) | exact HB.out)) hb); clear HB; have HO103 := n0_; have HB := n1_; clear n0_ n1_; clear hb ho3) | ((with_reducible refine zd (N := 9) rfl ?_); refine Kd.zCi (Kd.int .i64) _ 2 ?hg (N := 9) ?hd (xs := ([] : List Int)) (inner := []) (ok := fun _ => True) (okp := fun _ => True) ?hr ?hp (fun _ hk => hk) trivial (yry _ _) (yqy _) (by simp) ?_; (case hd => rfl); (case hg => rfl); (case hr => first | (go_simp; done) | (go_simp; rfl)); (case hp => exact (QS.none _ _)); intro v105 w4 ho5 hb hg_ hnew_; clear hg_ hnew_; (first | rw [← Ny104.out] at ho5 | (simp only [Int.reduceToNat] at ho5; rw [← Ny104.out] at ho5)); have n0_ := zA.mk (Kd.JP (by (with_reducible repeat (first | apply Kd.zm | apply Kd.zk | apply Kd.zu)); exact HO103.out) (Kd.JI ho5) hb); have n1_ := zA.mk (Kd.Zb (Kd.zB0 ho5 (Kd.zBM (by (with_reducible repeat (first | apply Kd.zm | apply Kd.zk | apply Kd.zu)); exact HO103.out))) (zO (by repeat (first | (with_reducible first | exact HB.out | apply zC | apply zB | apply zD) | exact HB.out)))); have n2_ := zA.mk (zN (by repeat (first | (with_reducible first | exact HB.out | apply zC | apply zB | apply zD) | exact HB.out)) hb); clear HO103; clear HB; have HO103 := n0_; have HO106 := n1_; have HB := n2_; clear n0_ n1_ n2_; clear hb ho5))
 go_loopg [0, 3, 4, 5, 6] k (fun kq v0 v3 v4 v5 v6 w' => ∃ (x0_1 : Int) (x3_1 : List Int) (x4_1 : List Int) (x5_1 : Int) (x6_1 : Int), v0 = .int .i64 x0_1 ∧ v5 = .int .i64 x5_1 ∧ v6 = .int .i64 x6_1 ∧ zA (zV.l0 kq x0_1 x3_1 x4_1 x5_1 x6_1 = some r) ∧ zA (kq ≤ k) ∧ zA (Kd.R (Kd.int .i64) 2 w' w.heap.size (fun k_ => some k_ ≠ (v4 : Value).ownBlock) v3 x3_1) ∧ zA (Kd.R (Kd.int .i64) 2 w' w.heap.size (fun k_ => some k_ ≠ (v3 : Value).ownBlock) v4 x4_1) ∧ zA (Below w.heap.size w w'))
 case atStart => exact ⟨(a0), (y101), (y104), (6), (3), (by first | rfl | (simp; done) | (simp [*]; done)), (by first | rfl | (simp; done) | (simp [*]; done)), (by first | rfl | (simp; done) | (simp [*]; done)), H', ⟨yqy _⟩, ⟨by (with_reducible repeat (first | apply Kd.zm | apply Kd.zk | apply Kd.zu)); exact Kd.qW HO103.out (fun _ hk => hk.2)⟩, ⟨by (with_reducible repeat (first | apply Kd.zm | apply Kd.zk | apply Kd.zu)); exact Kd.qW HO106.out (fun _ hk => hk.2)⟩, ⟨by repeat (first | (with_reducible first | exact HB.out | apply zC | apply zB | apply zD) | exact HB.out)⟩⟩
 case round =>
  clear H'
  try clear p2
  obtain ⟨x0_1, x3_1, x4_1, x5_1, x6_1, rfl, rfl, rfl, HA, HK1, HO_3, HO_4, HB⟩ := hrel
  cases gk with
  | zero => exact absurd HA.out (by simp [zV.l0])
  | succ k1 =>
   have H := HA.out
   clear HA
   simp only [zV.l0] at H
   by_cases c6 : x6_1 ≥ 0
   rotate_left
   next =>
    rw [if_neg c6] at H
    have c6b0 : decide (0 ≤ x6_1) = false := yhy c6
    clear c6
    obtain rfl := yey H
    go_wp2
    go_ret
    exact ⟨_, by first | rfl | (simp [zQ, zR] <;> rfl) | (simp [*, zQ, zR] <;> rfl), by (with_reducible repeat (first | apply Kd.zm | apply Kd.zk | apply Kd.zu)); exact Kd.qW HO_4.out (fun _ hk => trivial), by repeat (first | (with_reducible first | exact HB.out | apply zC | apply zB | apply zD) | exact HB.out)⟩
   rw [if_pos c6] at H
   have c6b0 : decide (0 ≤ x6_1) = true := ygy c6
   clear c6
   by_cases c7 : x5_1 = 0
   next =>
    rw [if_pos c7] at H
    exact absurd H (by simp)
   next =>
    rw [if_neg c7] at H
    have c7b0 : (x5_1 == 0) = false := beq_eq_false_iff_ne.mpr c7
    have c7b1 : (x5_1 != 0) = true := bne_iff_ne.mpr c7
    obtain ⟨ji8, hji8⟩ : ∃ j_ : Int, (wrap64 (Int.tdiv x0_1 x5_1)) = j_ := ⟨_, rfl⟩
    replace H : (if 0 ≤ (ji8) then (if (ji8) < (x3_1.length : Int) then (if x4_1.length < 17592186044416 then ((some (x4_1 ++ [rd x3_1 (ji8)] : List Int)).bind fun y108 => ((some (([] : List Int) : List Int)).bind fun y111 => (if (ji8) ≤ (x3_1.length : Int) then ((some (x3_1.take ((ji8) : Int).toNat : List Int)).bind fun y114 => (if y111.length + y114.length < 17592186044416 then ((some (y111 ++ y114 : List Int)).bind fun y118 => (if 0 ≤ (wrap64 ((ji8) + 1)) then (if (wrap64 ((ji8) + 1)) ≤ (x3_1.length : Int) then ((some (x3_1.drop ((wrap64 ((ji8) + 1)) : Int).toNat : List Int)).bind fun y121 => (if y118.length + y121.length < 17592186044416 then ((some (y118 ++ y121 : List Int)).bind fun y125 => (if x6_1 > 0 then (if x6_1 = 0 then (none) else (zV.l0 k1 (Int.tmod x0_1 x5_1) y125 y108 (wrap64 (Int.tdiv x5_1 x6_1)) (wrap64 (x6_1 - 1)))) else (zV.l0 k1 (Int.tmod x0_1 x5_1) y125 y108 x5_1 (wrap64 (x6_1 - 1))))) else (none))) else (none)) else (none))) else (none))) else (none)))) else (none)) else (none)) else (none)) = some r := by first | (rw [hji8] at H; exact H) | (simp only [hji8] at H ⊢; exact H)
    have hji8w : (IntKind.i64.wrap (Int.tdiv x0_1 x5_1)) = ji8 := (zW _).trans hji8
    by_cases c9 : 0 ≤ (ji8)
    rotate_left
    next =>
     rw [if_neg c9] at H
     exact absurd H (by simp)
    rw [if_pos c9] at H
    have c9b0 : decide (0 ≤ (ji8)) = true := ygy c9
    clear c9
    by_cases c10 : (ji8) < (x3_1.length : Int)
    rotate_left
    next =>
     rw [if_neg c10] at H
     exact absurd H (by simp)
    rw [if_pos c10] at H
    have c10b0 : decide ((ji8) < (x3_1.length : Int)) = true := ygy c10
    clear c10
    by_cases c11 : x4_1.length < 17592186044416
    rotate_left
    next =>
     rw [if_neg c11] at H
     exact absurd H (by simp)
    rw [if_pos c11] at H
    have LMc11 := zA.mk c11
    clear c11
    obtain ⟨y108, hy108⟩ : ∃ y_ : List Int, y_ = (x4_1 ++ [rd x3_1 (ji8)]) := ⟨_, rfl⟩
    replace H : ((some (([] : List Int) : List Int)).bind fun y111 => (if (ji8) ≤ (x3_1.length : Int) then ((some (x3_1.take ((ji8) : Int).toNat : List Int)).bind fun y114 => (if y111.length + y114.length < 17592186044416 then ((some (y111 ++ y114 : List Int)).bind fun y118 => (if 0 ≤ (wrap64 ((ji8) + 1)) then (if (wrap64 ((ji8) + 1)) ≤ (x3_1.length : Int) then ((some (x3_1.drop ((wrap64 ((ji8) + 1)) : Int).toNat : List Int)).bind fun y121 => (if y118.length + y121.length < 17592186044416 then ((some (y118 ++ y121 : List Int)).bind fun y125 => (if x6_1 > 0 then (if x6_1 = 0 then (none) else (zV.l0 k1 (Int.tmod x0_1 x5_1) y125 y108 (wrap64 (Int.tdiv x5_1 x6_1)) (wrap64 (x6_1 - 1)))) else (zV.l0 k1 (Int.tmod x0_1 x5_1) y125 y108 x5_1 (wrap64 (x6_1 - 1))))) else (none))) else (none)) else (none))) else (none))) else (none))) = some r := by first | (rw [hy108]; with_reducible exact H) | (have H2_ := (yfy _ _).symm.trans H; rw [hy108]; with_reducible exact H2_) | (have H2_ := (yfy _ _).symm.trans H; with_reducible exact H2_) | with_reducible exact H | (rw [hy108]; exact H) | exact H
    have Ny108 := zA.mk hy108
    clear hy108
    obtain ⟨y111, hy111⟩ : ∃ y_ : List Int, y_ = (([] : List Int)) := ⟨_, rfl⟩
    replace H : (if (ji8) ≤ (x3_1.length : Int) then ((some (x3_1.take ((ji8) : Int).toNat : List Int)).bind fun y114 => (if y111.length + y114.length < 17592186044416 then ((some (y111 ++ y114 : List Int)).bind fun y118 => (if 0 ≤ (wrap64 ((ji8) + 1)) then (if (wrap64 ((ji8) + 1)) ≤ (x3_1.length : Int) then ((some (x3_1.drop ((wrap64 ((ji8) + 1)) : Int).toNat : List Int)).bind fun y121 => (if y118.length + y121.length < 17592186044416 then ((some (y118 ++ y121 : List Int)).bind fun y125 => (if x6_1 > 0 then (if x6_1 = 0 then (none) else (zV.l0 k1 (Int.tmod x0_1 x5_1) y125 y108 (wrap64 (Int.tdiv x5_1 x6_1)) (wrap64 (x6_1 - 1)))) else (zV.l0 k1 (Int.tmod x0_1 x5_1) y125 y108 x5_1 (wrap64 (x6_1 - 1))))) else (none))) else (none)) else (none))) else (none))) else (none)) = some r := by first | (rw [hy111]; with_reducible exact H) | (have H2_ := (yfy _ _).symm.trans H; rw [hy111]; with_reducible exact H2_) | (have H2_ := (yfy _ _).symm.trans H; with_reducible exact H2_) | with_reducible exact H | (rw [hy111]; exact H) | exact H
    have Ny111 := zA.mk hy111
    clear hy111
    have c12b0 := eq_true (of_decide_eq_true (by first | (with_reducible assumption) | assumption) : 0 ≤ (ji8))
    by_cases c13 : (ji8) ≤ (x3_1.length : Int)
    rotate_left
    next =>
     rw [if_neg c13] at H
     exact absurd H (by simp)
    rw [if_pos c13] at H
    have c13b0 := eq_true c13
    have c13b1 : decide ((ji8) ≤ (x3_1.length : Int)) = true := ygy c13
    clear c13
    obtain ⟨y114, hy114⟩ : ∃ y_ : List Int, y_ = (x3_1.take ((ji8) : Int).toNat) := ⟨_, rfl⟩
    replace H : (if y111.length + y114.length < 17592186044416 then ((some (y111 ++ y114 : List Int)).bind fun y118 => (if 0 ≤ (wrap64 ((ji8) + 1)) then (if (wrap64 ((ji8) + 1)) ≤ (x3_1.length : Int) then ((some (x3_1.drop ((wrap64 ((ji8) + 1)) : Int).toNat : List Int)).bind fun y121 => (if y118.length + y121.length < 17592186044416 then ((some (y118 ++ y121 : List Int)).bind fun y125 => (if x6_1 > 0 then (if x6_1 = 0 then (none) else (zV.l0 k1 (Int.tmod x0_1 x5_1) y125 y108 (wrap64 (Int.tdiv x5_1 x6_1)) (wrap64 (x6_1 - 1)))) else (zV.l0 k1 (Int.tmod x0_1 x5_1) y125 y108 x5_1 (wrap64 (x6_1 - 1))))) else (none))) else (none)) else (none))) else (none)) = some r := by first | (rw [hy114]; with_reducible exact H) | (have H2_ := (yfy _ _).symm.trans H; rw [hy114]; with_reducible exact H2_) | (have H2_ := (yfy _ _).symm.trans H; with_reducible exact H2_) | with_reducible exact H | (rw [hy114]; exact H) | exact H
    have Ny114 := zA.mk hy114
    clear hy114
    by_cases c14 : y111.length + y114.length < 17592186044416
    rotate_left
    next =>
     rw [if_neg c14] at H
     exact absurd H (by simp)
    rw [if_pos c14] at H
    have LMc14 := zA.mk c14
    clear c14
    obtain ⟨y118, hy118⟩ : ∃ y_ : List Int, y_ = (y111 ++ y114) := ⟨_, rfl⟩
    replace H : (if 0 ≤ (wrap64 ((ji8) + 1)) then (if (wrap64 ((ji8) + 1)) ≤ (x3_1.length : Int) then ((some (x3_1.drop ((wrap64 ((ji8) + 1)) : Int).toNat : List Int)).bind fun y121 => (if y118.length + y121.length < 17592186044416 then ((some (y118 ++ y121 : List Int)).bind fun y125 => (if x6_1 > 0 then (if x6_1 = 0 then (none) else (zV.l0 k1 (Int.tmod x0_1 x5_1) y125 y108 (wrap64 (Int.tdiv x5_1 x6_1)) (wrap64 (x6_1 - 1)))) else (zV.l0 k1 (Int.tmod x0_1 x5_1) y125 y108 x5_1 (wrap64 (x6_1 - 1))))) else (none))) else (none)) else (none)) = some r := by first | (rw [hy118]; with_reducible exact H) | (have H2_ := (yfy _ _).symm.trans H; rw [hy118]; with_reducible exact H2_) | (have H2_ := (yfy _ _).symm.trans H; with_reducible exact H2_) | with_reducible exact H | (rw [hy118]; exact H) | exact H
    have Ny118 := zA.mk hy118
    clear hy118
    obtain ⟨ji15, hji15⟩ : ∃ j_ : Int, (wrap64 ((ji8) + 1)) = j_ := ⟨_, rfl⟩
    replace H : (if 0 ≤ (ji15) then (if (ji15) ≤ (x3_1.length : Int) then ((some (x3_1.drop ((ji15) : Int).toNat : List Int)).bind fun y121 => (if y118.length + y121.length < 17592186044416 then ((some (y118 ++ y121 : List Int)).bind fun y125 => (if x6_1 > 0 then (if x6_1 = 0 then (none) else (zV.l0 k1 (Int.tmod x0_1 x5_1) y125 y108 (wrap64 (Int.tdiv x5_1 x6_1)) (wrap64 (x6_1 - 1)))) else (zV.l0 k1 (Int.tmod x0_1 x5_1) y125 y108 x5_1 (wrap64 (x6_1 - 1))))) else (none))) else (none)) else (none)) = some r := by first | (rw [hji15] at H; exact H) | (simp only [hji15] at H ⊢; exact H)
    have hji15w : (IntKind.i64.wrap ((ji8) + 1)) = ji15 := (zW _).trans hji15
    by_cases c16 : 0 ≤ (ji15)
    rotate_left
    next =>
     rw [if_neg c16] at H
     exact absurd H (by simp)
    rw [if_pos c16] at H
    have c16b0 := eq_true c16
    have c16b1 : decide (0 ≤ (ji15)) = true := ygy c16
    clear c16
    by_cases c17 : (ji15) ≤ (x3_1.length : Int)
    rotate_left
    next =>
     rw [if_neg c17] at H
     exact absurd H (by simp)
    rw [if_pos c17] at H
    have c17b0 := eq_true c17
    have c17b1 : decide ((ji15) ≤ (x3_1.length : Int)) = true := ygy c17
    clear c17
    obtain ⟨y121, hy121⟩ : ∃ y_ : List Int, y_ = (x3_1.drop ((ji15) : Int).toNat) := ⟨_, rfl⟩
    replace H : (if y118.length + y121.length < 17592186044416 then ((some (y118 ++ y121 : List Int)).bind fun y125 => (if x6_1 > 0 then (if x6_1 = 0 then (none) else (zV.l0 k1 (Int.tmod x0_1 x5_1) y125 y108 (wrap64 (Int.tdiv x5_1 x6_1)) (wrap64 (x6_1 - 1)))) else (zV.l0 k1 (Int.tmod x0_1 x5_1) y125 y108 x5_1 (wrap64 (x6_1 - 1))))) else (none)) = some r := by first | (rw [hy121]; with_reducible exact H) | (have H2_ := (yfy _ _).symm.trans H; rw [hy121]; with_reducible exact H2_) | (have H2_ := (yfy _ _).symm.trans H; with_reducible exact H2_) | with_reducible exact H | (rw [hy121]; exact H) | exact H
    have Ny121 := zA.mk hy121
    clear hy121
    by_cases c18 : y118.length + y121.length < 17592186044416
    rotate_left
    next =>
     rw [if_neg c18] at H
     exact absurd H (by simp)
    rw [if_pos c18] at H
    have LMc18 := zA.mk c18
    clear c18
    obtain ⟨y125, hy125⟩ : ∃ y_ : List Int, y_ = (y118 ++ y121) := ⟨_, rfl⟩
    replace H : (if x6_1 > 0 then (if x6_1 = 0 then (none) else (zV.l0 k1 (Int.tmod x0_1 x5_1) y125 y108 (wrap64 (Int.tdiv x5_1 x6_1)) (wrap64 (x6_1 - 1)))) else (zV.l0 k1 (Int.tmod x0_1 x5_1) y125 y108 x5_1 (wrap64 (x6_1 - 1)))) = some r := by first | (rw [hy125]; with_reducible exact H) | (have H2_ := (yfy _ _).symm.trans H; rw [hy125]; with_reducible exact H2_) | (have H2_ := (yfy _ _).symm.trans H; with_reducible exact H2_) | with_reducible exact H | (rw [hy125]; exact H) | exact H
    have Ny125 := zA.mk hy125
    clear hy125
    by_cases c19 : x6_1 > 0
    rotate_left
    next =>
     rw [if_neg c19] at H
     have c19b0 : decide (0 < x6_1) = false := yhy c19
     clear c19
     have H' := zA.mk H
     clear H
     obtain ⟨Ao30, co30, eo30⟩ := Kd.ZP HO_3.out
     subst eo30
     have p107 : 0 ≤ ((ji8) : Int) := of_decide_eq_true (by first | (with_reducible assumption) | assumption)
     have q107 : (ji8) < (x3_1.length : Int) := of_decide_eq_true (by first | (with_reducible assumption) | assumption)
     obtain ⟨ad107, e107, hx107_0⟩ := Kd.ZI (Kd.zv HO_3.out).2.2 (ji8) p107 q107
     cases e107
     replace p107 := eq_true p107
     replace q107 := eq_true q107
     try go_wp2_with (first | ((with_reducible refine Ze (b := .append) (xs := #[.tmp 20, .tmp 25]) rfl ?_); at_builtin; refine Kd.JO (Kd.int .i64) (w0 := w) w.heap.size rfl (.tmp 20) (.tmp 25) 44 2 (.int .i64 0) 8 rfl Try.underlying44 Jb rfl (by decide) (by omega) u4 x4_1 (rd x3_1 (ji8)) [.int .i64 (rd x3_1 (ji8))] (fun k_ => some k_ ≠ (.slice (some ad107) x3_1.length co30 : Value).ownBlock) (fun _ => False) rfl rfl ?aP (fun _ hk => hk.elim) ?aF ?aO ?aB ?aS ?aL ?_; (case aP => exact rfl); (case aB => exact (by repeat (first | (with_reducible first | exact HB.out | apply zC | apply zB | apply zD) | exact HB.out))); (case aF => exact (fun k_ hk => Kd.Jg (Kd.zBM (by (with_reducible repeat (first | apply Kd.zm | apply Kd.zk | apply Kd.zu)); exact HO_3.out)) k_ hk)); (case aO => exact (by (with_reducible repeat (first | apply Kd.zm | apply Kd.zk | apply Kd.zu)); exact HO_4.out)); (case aS => exact (zO (by repeat (first | (with_reducible first | exact HB.out | apply zC | apply zB | apply zD) | exact HB.out)))); (case aL => have := LMc11.out; omega); intro v109 w31 ho hb hg hat; rw [← Ny108.out] at ho; have n0_ := zA.mk (Kd.Zd (ok := (fun _ => True)) (by (with_reducible repeat (first | apply Kd.zm | apply Kd.zk | apply Kd.zu)); exact Kd.qW HO_3.out (fun _ hk => ⟨trivial, hk⟩)) hg hat); have n1_ := zA.mk (hb); have n2_ := zA.mk (ho); clear HO_3; clear HB; clear HO_4; have HO_3 := n0_; have HB := n1_; have HO110 := n2_; clear n0_ n1_ n2_; clear ho hb hg hat))
     have n0_ := zA.mk (Kd.zu HO_3.out)
     have n1_ := zA.mk (Kd.zu HO110.out)
     have n2_ := zA.mk (zD HB.out)
     clear HO_3
     clear HO110
     clear HB
     have HO_3 := n0_
     have HO110 := n1_
     have HB := n2_
     clear n0_ n1_ n2_
     have q33 : ((ji8) : Int) ≤ ((x3_1.length : Int) : Int) := of_decide_eq_true (by first | (with_reducible assumption) | assumption)
     obtain ⟨i033, hi033, _, hsz33, _⟩ := info_parts Jb
     have hroom33 : x3_1.length ≤ co30 := (Kd.zv HO_3.out).2.1
     have hC33 : Kd.C (Kd.int .i64) _ (some ad107) x3_1.length x3_1 := (Kd.zv HO_3.out).2.2
     have hcut33 := zFt (P := Try.prog) 44 2 .i64 Try.underlying44 hi033 (some ad107) x3_1.length co30 (ji8) (of_decide_eq_true (by first | (with_reducible assumption) | assumption)) q33 hroom33
     have hr33 := Kd.zBc (m := ((ji8) : Int).toNat) hC33 (by omega)
     have hy33 : y114.length = ((ji8) : Int).toNat := (by rw [Ny114.out, ymy]; omega)
     rw [← Ny114.out] at hr33
     rw [← hy33] at hcut33
     have HR117 := zA.mk hr33
     have HC117 := zA.mk (show y114.length ≤ co30 from by omega)
     clear hr33 hC33 hroom33 hi033 hsz33
     have KY33 := zA.mk hy33
     clear hy33
     have KL33 := zA.mk (show ((ji8) : Int).toNat ≤ x3_1.length from by omega)
     replace q33 := eq_true q33
     have q34 : ((ji15) : Int) ≤ ((x3_1.length : Int) : Int) := of_decide_eq_true (by first | (with_reducible assumption) | assumption)
     obtain ⟨i034, hi034, _, hsz34, _⟩ := info_parts Jb
     have hroom34 : x3_1.length ≤ co30 := (Kd.zv HO_3.out).2.1
     have hC34 : Kd.C (Kd.int .i64) _ (some ad107) x3_1.length x3_1 := (Kd.zv HO_3.out).2.2
     have q034 : (0 : Int) ≤ ((ji15) : Int) := of_decide_eq_true (by first | (with_reducible assumption) | assumption)
     have hcut34 := zDh (P := Try.prog) 44 2 .i64 Try.underlying44 hi034 1 hsz34 (some ad107) x3_1.length co30 (ji15) q034 q34
     have hr34 := Kd.zBd (m := ((ji15) : Int).toNat) (c := co30) hC34 (by omega) hroom34
     obtain ⟨A34, hA34⟩ : ∃ A1, A1 = (if co30 = ((ji15) : Int).toNat then (some ad107) else ((some ad107) : Option Addr).map (·.add (((ji15) : Int).toNat * 1))) := ⟨_, rfl⟩
     obtain ⟨c34, hc34⟩ : ∃ c1, c1 = co30 - ((ji15) : Int).toNat := ⟨_, rfl⟩
     have hy34 : y121.length = x3_1.length - ((ji15) : Int).toNat := (by rw [Ny121.out, yly] <;> omega)
     rw [show (x3_1).drop ((ji15) : Int).toNat = y121 from Ny121.out.symm] at hr34
     replace hr34 : Kd.C (Kd.int .i64) _ A34 y121.length y121 := (by rw [hA34]; exact hr34)
     rw [← hy34, ← hA34, ← hc34] at hcut34
     have HR124 := zA.mk hr34
     have HC124 := zA.mk (show y121.length ≤ c34 from by rw [hy34, hc34]; exact Nat.sub_le_sub_right hroom34 _)
     clear hr34 hC34 hroom34 hi034 hsz34 hc34
     have KY34 := zA.mk hy34
     have KA34 := zA.mk hA34
     clear hy34 hA34
     have KL34 := zA.mk (show ((ji15) : Int).toNat ≤ x3_1.length from by omega)
     replace q34 := eq_true q34
     refine QG (n := 11) (S := fun w' => True) (ds := []) #[false, false, false, false, false, false, false, false, false, false, false] (by kernel_rfl) rfl rfl trivial (fun hHeld => ?_); refine Zi zV.tab10 zV.zG4 (fun HT_ HW_ => ?_)
     generalize w31.drew = w32 at HO_3 HO110 HB HR117 HR124 hHeld ⊢
     refine zo (i := 1) (N := some 28) (v := ?_) (a' := ?_) #[false, true, false, false, false, false, false, false, false, false, false] rfl rfl (zl HT_.out (by kernel_rfl)) (fun _ _ _ h => h) (Or.inl ⟨by rfl, ?_⟩) ?_ ?_
     rotate_left
     next =>
      intro w'
      go_simp
      with_reducible rfl
     rotate_left
     next =>
      simp only [Act.put, yay, yby, ycy, zW, zX]
      rfl
     refine zo (i := 2) (N := some 29) (v := ?_) (a' := ?_) #[false, true, true, false, false, false, false, false, false, false, false] rfl rfl (zl HT_.out (by kernel_rfl)) (fun _ _ _ h => h) (Or.inl ⟨by rfl, ?_⟩) ?_ ?_
     rotate_left
     next =>
      intro w'
      go_simp
      with_reducible rfl
     rotate_left
     next =>
      simp only [Act.put, yay, yby, ycy, zW, zX]
      rfl
     refine zo (i := 3) (N := some 30) (v := ?_) (a' := ?_) #[false, true, true, true, false, false, false, false, false, false, false] rfl rfl (zl HT_.out (by kernel_rfl)) (fun _ _ _ h => h) (Or.inl ⟨by rfl, ?_⟩) ?_ ?_
     rotate_left
     next =>
      intro w'
      go_simp
      with_reducible rfl
     rotate_left
     next =>
      simp only [Act.put, yay, yby, ycy, zW, zX]
      rfl
     refine zo (i := 5) (N := some 32) (v := ?_) (a' := ?_) #[false, true, true, true, false, true, false, false, false, false, false] rfl rfl (zl HT_.out (by kernel_rfl)) (fun _ _ _ h => h) (Or.inl ⟨by rfl, ?_⟩) ?_ ?_
     rotate_left
     next =>
      intro w'
      go_simp
      with_reducible rfl
     rotate_left
     next =>
      simp only [Act.put, yay, yby, ycy, zW, zX]
      rfl
     refine zo (i := 6) (N := some 33) (v := ?_) (a' := ?_) #[false, true, true, true, false, true, true, false, false, false, false] rfl rfl (zl HT_.out (by kernel_rfl)) (fun _ _ _ h => h) (Or.inl ⟨by rfl, ?_⟩) ?_ ?_
     rotate_left
     next =>
      intro w'
      go_simp
      with_reducible rfl
     rotate_left
     next =>
      simp only [Act.put, yay, yby, ycy, zW, zX]
      rfl
     refine zo (i := 7) (N := some 34) (v := ?_) (a' := ?_) #[false, true, true, true, false, true, true, true, false, false, false] rfl rfl (zl HT_.out (by kernel_rfl)) (fun _ _ _ h => h) (Or.inl ⟨by rfl, ?_⟩) ?_ ?_
     rotate_left
     next =>
      intro w'
      go_simp
      with_reducible rfl
     rotate_left
     next =>
      simp only [Act.put, yay, yby, ycy, zW, zX]
      rfl
     refine zo (i := 8) (N := some 35) (v := ?_) (a' := ?_) #[false, true, true, true, false, true, true, true, true, false, false] rfl rfl (zl HT_.out (by kernel_rfl)) (fun _ _ _ h => h) (Or.inl ⟨by rfl, ?_⟩) ?_ ?_
     rotate_left
     next =>
      intro w'
      go_simp
      with_reducible rfl
     rotate_left
     next =>
      simp only [Act.put, yay, yby, ycy, zW, zX]
      rfl
     refine zAH (i := 0) (N := some 27) #[true, true, true, true, false, true, true, true, true, false, false] rfl rfl (QD HT_.out (by kernel_rfl)) (by decide) (fun K hK => ?_)
     refine Kd.zBe (Kd.int .i64) _ 2 ?hg (N := 27) ?hd (xs := ([] : List Int)) (inner := []) (ok := fun _ => True) (okp := fun _ => True) ?hr ?hp (fun _ hk => hk) trivial (yry _ _) (yqy _) (by simp) ?_; (case hd => rfl); (case hg => rfl); (case hr => first | (go_simp; done) | (go_simp; rfl)); (case hp => exact (QS.none _ _))
     intro v112 w35 ho36 hb hg_ hnew_
     clear hg_ hnew_
     (first | rw [← Ny111.out] at ho36 | (simp only [Int.reduceToNat] at ho36; rw [← Ny111.out] at ho36))
     have n0_ := zA.mk (Kd.JP (by (with_reducible repeat (first | apply Kd.zm | apply Kd.zk | apply Kd.zu)); exact HO_3.out) (Kd.JI ho36) hb)
     have n1_ := zA.mk (Kd.JP (by (with_reducible repeat (first | apply Kd.zm | apply Kd.zk | apply Kd.zu)); exact HO110.out) (Kd.JI ho36) hb)
     have n2_ := zA.mk (Kd.Zb (Kd.zB0 (Kd.zB0 ho36 (Kd.zBM (by (with_reducible repeat (first | apply Kd.zm | apply Kd.zk | apply Kd.zu)); exact HO_3.out))) (Kd.zBM (by (with_reducible repeat (first | apply Kd.zm | apply Kd.zk | apply Kd.zu)); exact HO110.out))) (zO (by repeat (first | (with_reducible first | exact HB.out | apply zC | apply zB | apply zD) | exact HB.out))))
     have n3_ := zA.mk (Kd.ze (by repeat (first | (with_reducible exact HR117.out) | (with_reducible refine Kd.zf ?_ _) | (with_reducible refine Kd.zg ?_ _) | (with_reducible refine Kd.zz ?_) | exact HR117.out)) hb)
     have n4_ := zA.mk (Kd.ze (by repeat (first | (with_reducible exact HR124.out) | (with_reducible refine Kd.zf ?_ _) | (with_reducible refine Kd.zg ?_ _) | (with_reducible refine Kd.zz ?_) | exact HR124.out)) hb)
     have n5_ := zA.mk (zN (by repeat (first | (with_reducible first | exact HB.out | apply zC | apply zB | apply zD) | exact HB.out)) hb)
     clear HO_3
     clear HO110
     clear HR117
     clear HR124
     clear HB
     have HO_3 := n0_
     have HO110 := n1_
     have HO113 := n2_
     have HR117 := n3_
     have HR124 := n4_
     have HB := n5_
     clear n0_ n1_ n2_ n3_ n4_ n5_
     clear hb ho36
     refine hK.out _ _ trivial (fun hHeld => ?_)
     clear hK K
     refine QN (a' := ?_) ?_ ?_
     rotate_left
     next =>
      show Act.put _ (some 27) _ = _
      simp only [Act.put, yay, yby, ycy, zW, zX]
      rfl
     refine zAH (i := 4) (N := some 31) #[true, true, true, true, true, true, true, true, true, false, false] rfl rfl (QD HT_.out (by kernel_rfl)) (by decide) (fun K hK => ?_)
     refine Kd.Zu (Kd.int .i64) (w0 := w) w.heap.size (by rfl) (.tmp 27) (.tmp 30) 44 2 (.int .i64 0) 8 rfl Try.underlying44 Jb rfl (by decide) (by omega) v112 y111 y114 _ _ _ (fun k_ => some k_ ≠ (.slice (some ad107) x3_1.length co30 : Value).ownBlock ∧ some k_ ≠ (v109 : Value).ownBlock) (fun _ => False) rfl rfl ?aO ?aR (fun _ _ h => h) (fun _ h => h.elim) ?aF ?aB ?aS ?aL ?_
     (case aR => repeat (first | exact (by repeat (first | (with_reducible exact HR117.out) | (with_reducible refine Kd.zf ?_ _) | (with_reducible refine Kd.zg ?_ _) | (with_reducible refine Kd.zz ?_) | exact HR117.out)) | (with_reducible refine Kd.zf ?_ _) | (with_reducible refine Kd.zg ?_ _) | (with_reducible refine Kd.zz ?_)))
     (case aB => exact (by repeat (first | (with_reducible first | exact HB.out | apply zC | apply zB | apply zD) | exact HB.out)))
     (case aF => exact (fun k_ hk => ⟨Kd.Jg (Kd.zBM (by (with_reducible repeat (first | apply Kd.zm | apply Kd.zk | apply Kd.zu)); exact HO_3.out)) k_ hk, Kd.Jg (Kd.zBM (by (with_reducible repeat (first | apply Kd.zm | apply Kd.zk | apply Kd.zu)); exact HO110.out)) k_ hk⟩))
     (case aO => exact (by (with_reducible repeat (first | apply Kd.zm | apply Kd.zk | apply Kd.zu)); exact Kd.qW HO113.out (fun _ hk => ⟨hk.1.2, hk.2⟩)))
     (case aS => exact (zO (by repeat (first | (with_reducible first | exact HB.out | apply zC | apply zB | apply zD) | exact HB.out))))
     (case aL => have := LMc14.out; omega)
     intro v119 w37 ho hb hg hat
     rw [← Ny118.out] at ho
     have n0_ := zA.mk (Kd.Zd (ok := (fun k_ => some k_ ≠ (v109 : Value).ownBlock)) (by (with_reducible repeat (first | apply Kd.zm | apply Kd.zk | apply Kd.zu)); exact Kd.qW HO_3.out (fun _ hk => ⟨hk.1.2, hk.2⟩)) hg hat)
     have n1_ := zA.mk (Kd.Zd (ok := (fun k_ => some k_ ≠ (.slice (some ad107) x3_1.length co30 : Value).ownBlock)) (by (with_reducible repeat (first | apply Kd.zm | apply Kd.zk | apply Kd.zu)); exact HO110.out) hg hat)
     have n2_ := zA.mk (hb)
     have n3_ := zA.mk ((show Kd.C (Kd.int .i64) w37 (some ad107) y114.length y114 from by rw [Ny114.out]; exact Kd.zBc (m := ((ji8) : Int).toNat) ((Kd.zv (Kd.Zd (ok := (fun k_ => some k_ ≠ (v109 : Value).ownBlock)) (by (with_reducible repeat (first | apply Kd.zm | apply Kd.zk | apply Kd.zu)); exact Kd.qW HO_3.out (fun _ hk => ⟨hk.1.2, hk.2⟩)) hg hat)).2.2) KL33.out))
     have n4_ := zA.mk ((show Kd.C (Kd.int .i64) w37 A34 y121.length y121 from by rw [Ny121.out, KA34.out]; exact Kd.zBd (m := ((ji15) : Int).toNat) (c := co30) ((Kd.zv (Kd.Zd (ok := (fun k_ => some k_ ≠ (v109 : Value).ownBlock)) (by (with_reducible repeat (first | apply Kd.zm | apply Kd.zk | apply Kd.zu)); exact Kd.qW HO_3.out (fun _ hk => ⟨hk.1.2, hk.2⟩)) hg hat)).2.2) KL34.out ((Kd.zv (Kd.Zd (ok := (fun k_ => some k_ ≠ (v109 : Value).ownBlock)) (by (with_reducible repeat (first | apply Kd.zm | apply Kd.zk | apply Kd.zu)); exact Kd.qW HO_3.out (fun _ hk => ⟨hk.1.2, hk.2⟩)) hg hat)).2.1)))
     have n5_ := zA.mk (ho)
     clear HO_3
     clear HO110
     clear HB
     clear HR117
     clear HR124
     clear HO113
     have HO_3 := n0_
     have HO110 := n1_
     have HB := n2_
     have HR117 := n3_
     have HR124 := n4_
     have HO120 := n5_
     clear n0_ n1_ n2_ n3_ n4_ n5_
     clear ho hb hg hat
     refine hK.out _ _ trivial (fun hHeld => ?_)
     clear hK K
     refine QN (a' := ?_) ?_ ?_
     rotate_left
     next =>
      show Act.put _ (some 31) _ = _
      simp only [Act.put, yay, yby, ycy, zW, zX]
      rfl
     refine zAH (i := 9) (N := some 36) #[true, true, true, true, true, true, true, true, true, true, false] rfl rfl (QD HT_.out (by kernel_rfl)) (by decide) (fun K hK => ?_)
     refine Kd.Zu (Kd.int .i64) (w0 := w) w.heap.size (by rfl) (.tmp 31) (.tmp 35) 44 2 (.int .i64 0) 8 rfl Try.underlying44 Jb rfl (by decide) (by omega) v119 y118 y121 _ _ _ (fun k_ => some k_ ≠ (.slice (some ad107) x3_1.length co30 : Value).ownBlock ∧ some k_ ≠ (v109 : Value).ownBlock) (fun _ => False) rfl rfl ?aO ?aR (fun _ _ h => h) (fun _ h => h.elim) ?aF ?aB ?aS ?aL ?_
     (case aR => repeat (first | exact (by repeat (first | (with_reducible exact HR124.out) | (with_reducible refine Kd.zf ?_ _) | (with_reducible refine Kd.zg ?_ _) | (with_reducible refine Kd.zz ?_) | exact HR124.out)) | (with_reducible refine Kd.zf ?_ _) | (with_reducible refine Kd.zg ?_ _) | (with_reducible refine Kd.zz ?_)))
     (case aB => exact (by repeat (first | (with_reducible first | exact HB.out | apply zC | apply zB | apply zD) | exact HB.out)))
     (case aF => exact (fun k_ hk => ⟨Kd.Jg (Kd.zBM (by (with_reducible repeat (first | apply Kd.zm | apply Kd.zk | apply Kd.zu)); exact HO_3.out)) k_ hk, Kd.Jg (Kd.zBM (by (with_reducible repeat (first | apply Kd.zm | apply Kd.zk | apply Kd.zu)); exact HO110.out)) k_ hk⟩))
     (case aO => exact (by (with_reducible repeat (first | apply Kd.zm | apply Kd.zk | apply Kd.zu)); exact HO120.out))
     (case aS => exact (zO (by repeat (first | (with_reducible first | exact HB.out | apply zC | apply zB | apply zD) | exact HB.out))))
     (case aL => have := LMc18.out; omega)
     intro v126 w38 ho hb hg hat
     rw [← Ny125.out] at ho
     have n0_ := zA.mk (Kd.Zd (ok := (fun k_ => some k_ ≠ (v109 : Value).ownBlock)) (by (with_reducible repeat (first | apply Kd.zm | apply Kd.zk | apply Kd.zu)); exact HO_3.out) hg hat)
     have n1_ := zA.mk (Kd.Zd (ok := (fun k_ => some k_ ≠ (.slice (some ad107) x3_1.length co30 : Value).ownBlock)) (by (with_reducible repeat (first | apply Kd.zm | apply Kd.zk | apply Kd.zu)); exact HO110.out) hg hat)
     have n2_ := zA.mk (hb)
     have n3_ := zA.mk ((show Kd.C (Kd.int .i64) w38 (some ad107) y114.length y114 from by rw [Ny114.out]; exact Kd.zBc (m := ((ji8) : Int).toNat) ((Kd.zv (Kd.Zd (ok := (fun k_ => some k_ ≠ (v109 : Value).ownBlock)) (by (with_reducible repeat (first | apply Kd.zm | apply Kd.zk | apply Kd.zu)); exact HO_3.out) hg hat)).2.2) KL33.out))
     have n4_ := zA.mk ((show Kd.C (Kd.int .i64) w38 A34 y121.length y121 from by rw [Ny121.out, KA34.out]; exact Kd.zBd (m := ((ji15) : Int).toNat) (c := co30) ((Kd.zv (Kd.Zd (ok := (fun k_ => some k_ ≠ (v109 : Value).ownBlock)) (by (with_reducible repeat (first | apply Kd.zm | apply Kd.zk | apply Kd.zu)); exact HO_3.out) hg hat)).2.2) KL34.out ((Kd.zv (Kd.Zd (ok := (fun k_ => some k_ ≠ (v109 : Value).ownBlock)) (by (with_reducible repeat (first | apply Kd.zm | apply Kd.zk | apply Kd.zu)); exact HO_3.out) hg hat)).2.1)))
     have n5_ := zA.mk (ho)
     clear HO_3
     clear HO110
     clear HB
     clear HR117
     clear HR124
     clear HO120
     have HO_3 := n0_
     have HO110 := n1_
     have HB := n2_
     have HR117 := n3_
     have HR124 := n4_
     have HO127 := n5_
     clear n0_ n1_ n2_ n3_ n4_ n5_
     clear ho hb hg hat
     refine hK.out _ _ trivial (fun hHeld => ?_)
     clear hK K
     refine QN (a' := ?_) ?_ ?_
     rotate_left
     next =>
      show Act.put _ (some 36) _ = _
      simp only [Act.put, yay, yby, ycy, zW, zX]
      rfl
     refine zo (i := 10) (N := some 3) (v := ?_) (a' := ?_) #[true, true, true, true, true, true, true, true, true, true, true] rfl rfl (zl HT_.out (by kernel_rfl)) (fun _ _ _ h => h) (Or.inl ⟨by rfl, ?_⟩) ?_ ?_
     rotate_left
     next =>
      intro w'
      go_simp
      with_reducible rfl
     rotate_left
     next =>
      simp only [Act.put, yay, yby, ycy, zW, zX]
      rfl
     refine Qy (QP HT_.out (by kernel_rfl)) ?_
     try go_wp2
     go_roundg k1
     case measure => have := HK1.out; omega
     case rel => exact ⟨(Int.tmod x0_1 x5_1), (y125), (y108), (x5_1), (wrap64 (x6_1 - 1)), (by first | rfl | (simp; done) | (simp [*]; done)), (by first | rfl | (simp; done) | (simp [*]; done)), (by first | rfl | (simp; done) | (simp [*]; done)), H', ⟨by have := HK1.out; omega⟩, ⟨by (with_reducible repeat (first | apply Kd.zm | apply Kd.zk | apply Kd.zu)); exact Kd.qW HO127.out (fun _ hk => hk.2)⟩, ⟨by (with_reducible repeat (first | apply Kd.zm | apply Kd.zk | apply Kd.zu)); exact Kd.qW HO110.out (fun _ hk => hk.2)⟩, ⟨by repeat (first | (with_reducible first | exact HB.out | apply zC | apply zB | apply zD) | exact HB.out)⟩⟩
    rw [if_pos c19] at H
    have c19b0 : decide (0 < x6_1) = true := ygy c19
    clear c19
    by_cases c20 : x6_1 = 0
    next =>
     rw [if_pos c20] at H
     exact absurd H (by simp)
    next =>
     rw [if_neg c20] at H
     have c20b0 : (x6_1 == 0) = false := beq_eq_false_iff_ne.mpr c20
     have c20b1 : (x6_1 != 0) = true := bne_iff_ne.mpr c20
     have H' := zA.mk H
     clear H
     obtain ⟨Ao21, co21, eo21⟩ := Kd.ZP HO_3.out
     subst eo21
     have p107 : 0 ≤ ((ji8) : Int) := of_decide_eq_true (by first | (with_reducible assumption) | assumption)
     have q107 : (ji8) < (x3_1.length : Int) := of_decide_eq_true (by first | (with_reducible assumption) | assumption)
     obtain ⟨ad107, e107, hx107_0⟩ := Kd.ZI (Kd.zv HO_3.out).2.2 (ji8) p107 q107
     cases e107
     replace p107 := eq_true p107
     replace q107 := eq_true q107
     try go_wp2_with (first | ((with_reducible refine Ze (b := .append) (xs := #[.tmp 20, .tmp 25]) rfl ?_); at_builtin; refine Kd.JO (Kd.int .i64) (w0 := w) w.heap.size rfl (.tmp 20) (.tmp 25) 44 2 (.int .i64 0) 8 rfl Try.underlying44 Jb rfl (by decide) (by omega) u4 x4_1 (rd x3_1 (ji8)) [.int .i64 (rd x3_1 (ji8))] (fun k_ => some k_ ≠ (.slice (some ad107) x3_1.length co21 : Value).ownBlock) (fun _ => False) rfl rfl ?aP (fun _ hk => hk.elim) ?aF ?aO ?aB ?aS ?aL ?_; (case aP => exact rfl); (case aB => exact (by repeat (first | (with_reducible first | exact HB.out | apply zC | apply zB | apply zD) | exact HB.out))); (case aF => exact (fun k_ hk => Kd.Jg (Kd.zBM (by (with_reducible repeat (first | apply Kd.zm | apply Kd.zk | apply Kd.zu)); exact HO_3.out)) k_ hk)); (case aO => exact (by (with_reducible repeat (first | apply Kd.zm | apply Kd.zk | apply Kd.zu)); exact HO_4.out)); (case aS => exact (zO (by repeat (first | (with_reducible first | exact HB.out | apply zC | apply zB | apply zD) | exact HB.out)))); (case aL => have := LMc11.out; omega); intro v109 w22 ho hb hg hat; rw [← Ny108.out] at ho; have n0_ := zA.mk (Kd.Zd (ok := (fun _ => True)) (by (with_reducible repeat (first | apply Kd.zm | apply Kd.zk | apply Kd.zu)); exact Kd.qW HO_3.out (fun _ hk => ⟨trivial, hk⟩)) hg hat); have n1_ := zA.mk (hb); have n2_ := zA.mk (ho); clear HO_3; clear HB; clear HO_4; have HO_3 := n0_; have HB := n1_; have HO110 := n2_; clear n0_ n1_ n2_; clear ho hb hg hat))
     have n0_ := zA.mk (Kd.zu HO_3.out)
     have n1_ := zA.mk (Kd.zu HO110.out)
     have n2_ := zA.mk (zD HB.out)
     clear HO_3
     clear HO110
     clear HB
     have HO_3 := n0_
     have HO110 := n1_
     have HB := n2_
     clear n0_ n1_ n2_
     have q24 : ((ji8) : Int) ≤ ((x3_1.length : Int) : Int) := of_decide_eq_true (by first | (with_reducible assumption) | assumption)
     obtain ⟨i024, hi024, _, hsz24, _⟩ := info_parts Jb
     have hroom24 : x3_1.length ≤ co21 := (Kd.zv HO_3.out).2.1
     have hC24 : Kd.C (Kd.int .i64) _ (some ad107) x3_1.length x3_1 := (Kd.zv HO_3.out).2.2
     have hcut24 := zFt (P := Try.prog) 44 2 .i64 Try.underlying44 hi024 (some ad107) x3_1.length co21 (ji8) (of_decide_eq_true (by first | (with_reducible assumption) | assumption)) q24 hroom24
     have hr24 := Kd.zBc (m := ((ji8) : Int).toNat) hC24 (by omega)
     have hy24 : y114.length = ((ji8) : Int).toNat := (by rw [Ny114.out, ymy]; omega)
     rw [← Ny114.out] at hr24
     rw [← hy24] at hcut24
     have HR117 := zA.mk hr24
     have HC117 := zA.mk (show y114.length ≤ co21 from by omega)
     clear hr24 hC24 hroom24 hi024 hsz24
     have KY24 := zA.mk hy24
     clear hy24
     have KL24 := zA.mk (show ((ji8) : Int).toNat ≤ x3_1.length from by omega)
     replace q24 := eq_true q24
     have q25 : ((ji15) : Int) ≤ ((x3_1.length : Int) : Int) := of_decide_eq_true (by first | (with_reducible assumption) | assumption)
     obtain ⟨i025, hi025, _, hsz25, _⟩ := info_parts Jb
     have hroom25 : x3_1.length ≤ co21 := (Kd.zv HO_3.out).2.1
     have hC25 : Kd.C (Kd.int .i64) _ (some ad107) x3_1.length x3_1 := (Kd.zv HO_3.out).2.2
     have q025 : (0 : Int) ≤ ((ji15) : Int) := of_decide_eq_true (by first | (with_reducible assumption) | assumption)
     have hcut25 := zDh (P := Try.prog) 44 2 .i64 Try.underlying44 hi025 1 hsz25 (some ad107) x3_1.length co21 (ji15) q025 q25
     have hr25 := Kd.zBd (m := ((ji15) : Int).toNat) (c := co21) hC25 (by omega) hroom25
     obtain ⟨A25, hA25⟩ : ∃ A1, A1 = (if co21 = ((ji15) : Int).toNat then (some ad107) else ((some ad107) : Option Addr).map (·.add (((ji15) : Int).toNat * 1))) := ⟨_, rfl⟩
     obtain ⟨c25, hc25⟩ : ∃ c1, c1 = co21 - ((ji15) : Int).toNat := ⟨_, rfl⟩
     have hy25 : y121.length = x3_1.length - ((ji15) : Int).toNat := (by rw [Ny121.out, yly] <;> omega)
     rw [show (x3_1).drop ((ji15) : Int).toNat = y121 from Ny121.out.symm] at hr25
     replace hr25 : Kd.C (Kd.int .i64) _ A25 y121.length y121 := (by rw [hA25]; exact hr25)
     rw [← hy25, ← hA25, ← hc25] at hcut25
     have HR124 := zA.mk hr25
     have HC124 := zA.mk (show y121.length ≤ c25 from by rw [hy25, hc25]; exact Nat.sub_le_sub_right hroom25 _)
     clear hr25 hC25 hroom25 hi025 hsz25 hc25
     have KY25 := zA.mk hy25
     have KA25 := zA.mk hA25
     clear hy25 hA25
     have KL25 := zA.mk (show ((ji15) : Int).toNat ≤ x3_1.length from by omega)
     replace q25 := eq_true q25
     refine QG (n := 11) (S := fun w' => True) (ds := []) #[false, false, false, false, false, false, false, false, false, false, false] (by kernel_rfl) rfl rfl trivial (fun hHeld => ?_); refine Zi zV.tab10 zV.zG4 (fun HT_ HW_ => ?_)
     generalize w22.drew = w23 at HO_3 HO110 HB HR117 HR124 hHeld ⊢
     refine zo (i := 1) (N := some 28) (v := ?_) (a' := ?_) #[false, true, false, false, false, false, false, false, false, false, false] rfl rfl (zl HT_.out (by kernel_rfl)) (fun _ _ _ h => h) (Or.inl ⟨by rfl, ?_⟩) ?_ ?_
     rotate_left
     next =>
      intro w'
      go_simp
      with_reducible rfl
     rotate_left
     next =>
      simp only [Act.put, yay, yby, ycy, zW, zX]
      rfl
     refine zo (i := 2) (N := some 29) (v := ?_) (a' := ?_) #[false, true, true, false, false, false, false, false, false, false, false] rfl rfl (zl HT_.out (by kernel_rfl)) (fun _ _ _ h => h) (Or.inl ⟨by rfl, ?_⟩) ?_ ?_
     rotate_left
     next =>
      intro w'
      go_simp
      with_reducible rfl
     rotate_left
     next =>
      simp only [Act.put, yay, yby, ycy, zW, zX]
      rfl
     refine zo (i := 3) (N := some 30) (v := ?_) (a' := ?_) #[false, true, true, true, false, false, false, false, false, false, false] rfl rfl (zl HT_.out (by kernel_rfl)) (fun _ _ _ h => h) (Or.inl ⟨by rfl, ?_⟩) ?_ ?_
     rotate_left
     next =>
      intro w'
      go_simp
      with_reducible rfl
     rotate_left
     next =>
      simp only [Act.put, yay, yby, ycy, zW, zX]
      rfl
     refine zo (i := 5) (N := some 32) (v := ?_) (a' := ?_) #[false, true, true, true, false, true, false, false, false, false, false] rfl rfl (zl HT_.out (by kernel_rfl)) (fun _ _ _ h => h) (Or.inl ⟨by rfl, ?_⟩) ?_ ?_
     rotate_left
     next =>
      intro w'
      go_simp
      with_reducible rfl
     rotate_left
     next =>
      simp only [Act.put, yay, yby, ycy, zW, zX]
      rfl
     refine zo (i := 6) (N := some 33) (v := ?_) (a' := ?_) #[false, true, true, true, false, true, true, false, false, false, false] rfl rfl (zl HT_.out (by kernel_rfl)) (fun _ _ _ h => h) (Or.inl ⟨by rfl, ?_⟩) ?_ ?_
     rotate_left
     next =>
      intro w'
      go_simp
      with_reducible rfl
     rotate_left
     next =>
      simp only [Act.put, yay, yby, ycy, zW, zX]
      rfl
     refine zo (i := 7) (N := some 34) (v := ?_) (a' := ?_) #[false, true, true, true, false, true, true, true, false, false, false] rfl rfl (zl HT_.out (by kernel_rfl)) (fun _ _ _ h => h) (Or.inl ⟨by rfl, ?_⟩) ?_ ?_
     rotate_left
     next =>
      intro w'
      go_simp
      with_reducible rfl
     rotate_left
     next =>
      simp only [Act.put, yay, yby, ycy, zW, zX]
      rfl
     refine zo (i := 8) (N := some 35) (v := ?_) (a' := ?_) #[false, true, true, true, false, true, true, true, true, false, false] rfl rfl (zl HT_.out (by kernel_rfl)) (fun _ _ _ h => h) (Or.inl ⟨by rfl, ?_⟩) ?_ ?_
     rotate_left
     next =>
      intro w'
      go_simp
      with_reducible rfl
     rotate_left
     next =>
      simp only [Act.put, yay, yby, ycy, zW, zX]
      rfl
     refine zAH (i := 0) (N := some 27) #[true, true, true, true, false, true, true, true, true, false, false] rfl rfl (QD HT_.out (by kernel_rfl)) (by decide) (fun K hK => ?_)
     refine Kd.zBe (Kd.int .i64) _ 2 ?hg (N := 27) ?hd (xs := ([] : List Int)) (inner := []) (ok := fun _ => True) (okp := fun _ => True) ?hr ?hp (fun _ hk => hk) trivial (yry _ _) (yqy _) (by simp) ?_; (case hd => rfl); (case hg => rfl); (case hr => first | (go_simp; done) | (go_simp; rfl)); (case hp => exact (QS.none _ _))
     intro v112 w26 ho27 hb hg_ hnew_
     clear hg_ hnew_
     (first | rw [← Ny111.out] at ho27 | (simp only [Int.reduceToNat] at ho27; rw [← Ny111.out] at ho27))
     have n0_ := zA.mk (Kd.JP (by (with_reducible repeat (first | apply Kd.zm | apply Kd.zk | apply Kd.zu)); exact HO_3.out) (Kd.JI ho27) hb)
     have n1_ := zA.mk (Kd.JP (by (with_reducible repeat (first | apply Kd.zm | apply Kd.zk | apply Kd.zu)); exact HO110.out) (Kd.JI ho27) hb)
     have n2_ := zA.mk (Kd.Zb (Kd.zB0 (Kd.zB0 ho27 (Kd.zBM (by (with_reducible repeat (first | apply Kd.zm | apply Kd.zk | apply Kd.zu)); exact HO_3.out))) (Kd.zBM (by (with_reducible repeat (first | apply Kd.zm | apply Kd.zk | apply Kd.zu)); exact HO110.out))) (zO (by repeat (first | (with_reducible first | exact HB.out | apply zC | apply zB | apply zD) | exact HB.out))))
     have n3_ := zA.mk (Kd.ze (by repeat (first | (with_reducible exact HR117.out) | (with_reducible refine Kd.zf ?_ _) | (with_reducible refine Kd.zg ?_ _) | (with_reducible refine Kd.zz ?_) | exact HR117.out)) hb)
     have n4_ := zA.mk (Kd.ze (by repeat (first | (with_reducible exact HR124.out) | (with_reducible refine Kd.zf ?_ _) | (with_reducible refine Kd.zg ?_ _) | (with_reducible refine Kd.zz ?_) | exact HR124.out)) hb)
     have n5_ := zA.mk (zN (by repeat (first | (with_reducible first | exact HB.out | apply zC | apply zB | apply zD) | exact HB.out)) hb)
     clear HO_3
     clear HO110
     clear HR117
     clear HR124
     clear HB
     have HO_3 := n0_
     have HO110 := n1_
     have HO113 := n2_
     have HR117 := n3_
     have HR124 := n4_
     have HB := n5_
     clear n0_ n1_ n2_ n3_ n4_ n5_
     clear hb ho27
     refine hK.out _ _ trivial (fun hHeld => ?_)
     clear hK K
     refine QN (a' := ?_) ?_ ?_
     rotate_left
     next =>
      show Act.put _ (some 27) _ = _
      simp only [Act.put, yay, yby, ycy, zW, zX]
      rfl
     refine zAH (i := 4) (N := some 31) #[true, true, true, true, true, true, true, true, true, false, false] rfl rfl (QD HT_.out (by kernel_rfl)) (by decide) (fun K hK => ?_)
     refine Kd.Zu (Kd.int .i64) (w0 := w) w.heap.size (by rfl) (.tmp 27) (.tmp 30) 44 2 (.int .i64 0) 8 rfl Try.underlying44 Jb rfl (by decide) (by omega) v112 y111 y114 _ _ _ (fun k_ => some k_ ≠ (.slice (some ad107) x3_1.length co21 : Value).ownBlock ∧ some k_ ≠ (v109 : Value).ownBlock) (fun _ => False) rfl rfl ?aO ?aR (fun _ _ h => h) (fun _ h => h.elim) ?aF ?aB ?aS ?aL ?_
     (case aR => repeat (first | exact (by repeat (first | (with_reducible exact HR117.out) | (with_reducible refine Kd.zf ?_ _) | (with_reducible refine Kd.zg ?_ _) | (with_reducible refine Kd.zz ?_) | exact HR117.out)) | (with_reducible refine Kd.zf ?_ _) | (with_reducible refine Kd.zg ?_ _) | (with_reducible refine Kd.zz ?_)))
     (case aB => exact (by repeat (first | (with_reducible first | exact HB.out | apply zC | apply zB | apply zD) | exact HB.out)))
     (case aF => exact (fun k_ hk => ⟨Kd.Jg (Kd.zBM (by (with_reducible repeat (first | apply Kd.zm | apply Kd.zk | apply Kd.zu)); exact HO_3.out)) k_ hk, Kd.Jg (Kd.zBM (by (with_reducible repeat (first | apply Kd.zm | apply Kd.zk | apply Kd.zu)); exact HO110.out)) k_ hk⟩))
     (case aO => exact (by (with_reducible repeat (first | apply Kd.zm | apply Kd.zk | apply Kd.zu)); exact Kd.qW HO113.out (fun _ hk => ⟨hk.1.2, hk.2⟩)))
     (case aS => exact (zO (by repeat (first | (with_reducible first | exact HB.out | apply zC | apply zB | apply zD) | exact HB.out))))
     (case aL => have := LMc14.out; omega)
     intro v119 w28 ho hb hg hat
     rw [← Ny118.out] at ho
     have n0_ := zA.mk (Kd.Zd (ok := (fun k_ => some k_ ≠ (v109 : Value).ownBlock)) (by (with_reducible repeat (first | apply Kd.zm | apply Kd.zk | apply Kd.zu)); exact Kd.qW HO_3.out (fun _ hk => ⟨hk.1.2, hk.2⟩)) hg hat)
     have n1_ := zA.mk (Kd.Zd (ok := (fun k_ => some k_ ≠ (.slice (some ad107) x3_1.length co21 : Value).ownBlock)) (by (with_reducible repeat (first | apply Kd.zm | apply Kd.zk | apply Kd.zu)); exact HO110.out) hg hat)
     have n2_ := zA.mk (hb)
     have n3_ := zA.mk ((show Kd.C (Kd.int .i64) w28 (some ad107) y114.length y114 from by rw [Ny114.out]; exact Kd.zBc (m := ((ji8) : Int).toNat) ((Kd.zv (Kd.Zd (ok := (fun k_ => some k_ ≠ (v109 : Value).ownBlock)) (by (with_reducible repeat (first | apply Kd.zm | apply Kd.zk | apply Kd.zu)); exact Kd.qW HO_3.out (fun _ hk => ⟨hk.1.2, hk.2⟩)) hg hat)).2.2) KL24.out))
     have n4_ := zA.mk ((show Kd.C (Kd.int .i64) w28 A25 y121.length y121 from by rw [Ny121.out, KA25.out]; exact Kd.zBd (m := ((ji15) : Int).toNat) (c := co21) ((Kd.zv (Kd.Zd (ok := (fun k_ => some k_ ≠ (v109 : Value).ownBlock)) (by (with_reducible repeat (first | apply Kd.zm | apply Kd.zk | apply Kd.zu)); exact Kd.qW HO_3.out (fun _ hk => ⟨hk.1.2, hk.2⟩)) hg hat)).2.2) KL25.out ((Kd.zv (Kd.Zd (ok := (fun k_ => some k_ ≠ (v109 : Value).ownBlock)) (by (with_reducible repeat (first | apply Kd.zm | apply Kd.zk | apply Kd.zu)); exact Kd.qW HO_3.out (fun _ hk => ⟨hk.1.2, hk.2⟩)) hg hat)).2.1)))
     have n5_ := zA.mk (ho)
     clear HO_3
     clear HO110
     clear HB
     clear HR117
     clear HR124
     clear HO113
     have HO_3 := n0_
     have HO110 := n1_
     have HB := n2_
     have HR117 := n3_
     have HR124 := n4_
     have HO120 := n5_
     clear n0_ n1_ n2_ n3_ n4_ n5_
     clear ho hb hg hat
     refine hK.out _ _ trivial (fun hHeld => ?_)
     clear hK K
     refine QN (a' := ?_) ?_ ?_
     rotate_left
     next =>
      show Act.put _ (some 31) _ = _
      simp only [Act.put, yay, yby, ycy, zW, zX]
      rfl
     refine zAH (i := 9) (N := some 36) #[true, true, true, true, true, true, true, true, true, true, false] rfl rfl (QD HT_.out (by kernel_rfl)) (by decide) (fun K hK => ?_)
     refine Kd.Zu (Kd.int .i64) (w0 := w) w.heap.size (by rfl) (.tmp 31) (.tmp 35) 44 2 (.int .i64 0) 8 rfl Try.underlying44 Jb rfl (by decide) (by omega) v119 y118 y121 _ _ _ (fun k_ => some k_ ≠ (.slice (some ad107) x3_1.length co21 : Value).ownBlock ∧ some k_ ≠ (v109 : Value).ownBlock) (fun _ => False) rfl rfl ?aO ?aR (fun _ _ h => h) (fun _ h => h.elim) ?aF ?aB ?aS ?aL ?_
     (case aR => repeat (first | exact (by repeat (first | (with_reducible exact HR124.out) | (with_reducible refine Kd.zf ?_ _) | (with_reducible refine Kd.zg ?_ _) | (with_reducible refine Kd.zz ?_) | exact HR124.out)) | (with_reducible refine Kd.zf ?_ _) | (with_reducible refine Kd.zg ?_ _) | (with_reducible refine Kd.zz ?_)))
     (case aB => exact (by repeat (first | (with_reducible first | exact HB.out | apply zC | apply zB | apply zD) | exact HB.out)))
     (case aF => exact (fun k_ hk => ⟨Kd.Jg (Kd.zBM (by (with_reducible repeat (first | apply Kd.zm | apply Kd.zk | apply Kd.zu)); exact HO_3.out)) k_ hk, Kd.Jg (Kd.zBM (by (with_reducible repeat (first | apply Kd.zm | apply Kd.zk | apply Kd.zu)); exact HO110.out)) k_ hk⟩))
     (case aO => exact (by (with_reducible repeat (first | apply Kd.zm | apply Kd.zk | apply Kd.zu)); exact HO120.out))
     (case aS => exact (zO (by repeat (first | (with_reducible first | exact HB.out | apply zC | apply zB | apply zD) | exact HB.out))))
     (case aL => have := LMc18.out; omega)
     intro v126 w29 ho hb hg hat
     rw [← Ny125.out] at ho
     have n0_ := zA.mk (Kd.Zd (ok := (fun k_ => some k_ ≠ (v109 : Value).ownBlock)) (by (with_reducible repeat (first | apply Kd.zm | apply Kd.zk | apply Kd.zu)); exact HO_3.out) hg hat)
     have n1_ := zA.mk (Kd.Zd (ok := (fun k_ => some k_ ≠ (.slice (some ad107) x3_1.length co21 : Value).ownBlock)) (by (with_reducible repeat (first | apply Kd.zm | apply Kd.zk | apply Kd.zu)); exact HO110.out) hg hat)
     have n2_ := zA.mk (hb)
     have n3_ := zA.mk ((show Kd.C (Kd.int .i64) w29 (some ad107) y114.length y114 from by rw [Ny114.out]; exact Kd.zBc (m := ((ji8) : Int).toNat) ((Kd.zv (Kd.Zd (ok := (fun k_ => some k_ ≠ (v109 : Value).ownBlock)) (by (with_reducible repeat (first | apply Kd.zm | apply Kd.zk | apply Kd.zu)); exact HO_3.out) hg hat)).2.2) KL24.out))
     have n4_ := zA.mk ((show Kd.C (Kd.int .i64) w29 A25 y121.length y121 from by rw [Ny121.out, KA25.out]; exact Kd.zBd (m := ((ji15) : Int).toNat) (c := co21) ((Kd.zv (Kd.Zd (ok := (fun k_ => some k_ ≠ (v109 : Value).ownBlock)) (by (with_reducible repeat (first | apply Kd.zm | apply Kd.zk | apply Kd.zu)); exact HO_3.out) hg hat)).2.2) KL25.out ((Kd.zv (Kd.Zd (ok := (fun k_ => some k_ ≠ (v109 : Value).ownBlock)) (by (with_reducible repeat (first | apply Kd.zm | apply Kd.zk | apply Kd.zu)); exact HO_3.out) hg hat)).2.1)))
     have n5_ := zA.mk (ho)
     clear HO_3
     clear HO110
     clear HB
     clear HR117
     clear HR124
     clear HO120
     have HO_3 := n0_
     have HO110 := n1_
     have HB := n2_
     have HR117 := n3_
     have HR124 := n4_
     have HO127 := n5_
     clear n0_ n1_ n2_ n3_ n4_ n5_
     clear ho hb hg hat
     refine hK.out _ _ trivial (fun hHeld => ?_)
     clear hK K
     refine QN (a' := ?_) ?_ ?_
     rotate_left
     next =>
      show Act.put _ (some 36) _ = _
      simp only [Act.put, yay, yby, ycy, zW, zX]
      rfl
     refine zo (i := 10) (N := some 3) (v := ?_) (a' := ?_) #[true, true, true, true, true, true, true, true, true, true, true] rfl rfl (zl HT_.out (by kernel_rfl)) (fun _ _ _ h => h) (Or.inl ⟨by rfl, ?_⟩) ?_ ?_
     rotate_left
     next =>
      intro w'
      go_simp
      with_reducible rfl
     rotate_left
     next =>
      simp only [Act.put, yay, yby, ycy, zW, zX]
      rfl
     refine Qy (QP HT_.out (by kernel_rfl)) ?_
     try go_wp2
     go_roundg k1
     case measure => have := HK1.out; omega
     case rel => exact ⟨(Int.tmod x0_1 x5_1), (y125), (y108), (wrap64 (Int.tdiv x5_1 x6_1)), (wrap64 (x6_1 - 1)), (by first | rfl | (simp; done) | (simp [*]; done)), (by first | rfl | (simp; done) | (simp [*]; done)), (by first | rfl | (simp; done) | (simp [*]; done)), H', ⟨by have := HK1.out; omega⟩, ⟨by (with_reducible repeat (first | apply Kd.zm | apply Kd.zk | apply Kd.zu)); exact Kd.qW HO127.out (fun _ hk => hk.2)⟩, ⟨by (with_reducible repeat (first | apply Kd.zm | apply Kd.zk | apply Kd.zu)); exact Kd.qW HO110.out (fun _ hk => hk.2)⟩, ⟨by repeat (first | (with_reducible first | exact HB.out | apply zC | apply zB | apply zD) | exact HB.out)⟩⟩
def ZC.f (k : Nat) (a0 : Int) (a1 : Int) : Option (Int) := (zV.f k a0).bind fun t101 => (if 0 ≤ a1 then (if a1 < (t101.length : Int) then (some (rd t101 a1)) else (none)) else (none))
set_option maxHeartbeats 8000000 in
set_option maxRecDepth 100000 in
theorem ZC.calls (k : Nat) (a0 : Int) (a1 : Int) (r : Int) (w : World) (h : ZC.f k a0 a1 = some r) :
    Calls Try.prog 36 #[.int .i64 a0, .int .i64 a1] w fun e w' => e = .returned (.int .i64 r) ∧ Below w.heap.size w w' := by
  have HB := zA.mk (yry w.heap.size w)
  have H : ((zV.f k a0).bind fun t101 => (if 0 ≤ a1 then (if a1 < (t101.length : Int) then (some (rd t101 a1)) else (none)) else (none))) = some r := h
  clear h
  replace H := ydy.mp H
  obtain ⟨t101, A30, H⟩ := H
  replace H : (if 0 ≤ a1 then (if a1 < (t101.length : Int) then (some (rd t101 a1)) else (none)) else (none)) = some r := H
  have A3 := zA.mk A30
  clear A30
  by_cases c4 : 0 ≤ a1
  · rw [if_pos c4] at H
    have c4b0 : decide (0 ≤ a1) = true := ygy c4
    clear c4
    by_cases c5 : a1 < (t101.length : Int)
    · rw [if_pos c5] at H
      have c5b0 : decide (a1 < (t101.length : Int)) = true := ygy c5
      clear c5
      obtain rfl := yey H
      go_enter Try.func36, Try.ntmps36
      go_wp2_with (first | ((with_reducible refine zS (f := 76) rfl ?_); refine qB (some 6) rfl rfl Try.func76 (by kernel_rfl) rfl #[.int .i64 a0] rfl (by (try simp only [yiy, yjy, yky]); first | done | rfl | (simp only [yly, ymy]; rfl)) ?_; (with_reducible refine (zV.calls k a0 t101 _ A3.out).mono ?_); rintro e w6 ⟨v102, rfl, ho0, hb⟩; refine ⟨_, rfl, ?_⟩; have n0_ := zA.mk (Kd.Zb ho0 (zO (by repeat (first | (with_reducible first | exact HB.out | apply zC | apply zB | apply zD) | exact HB.out)))); have n1_ := zA.mk (zN (by repeat (first | (with_reducible first | exact HB.out | apply zC | apply zB | apply zD) | exact HB.out)) hb); clear HB; have HO103 := n0_; have HB := n1_; clear n0_ n1_; (try clear hb); (try clear hb2); (try clear hk); (try clear hi); (try clear ho0); obtain ⟨Ao7, co7, eo7⟩ := Kd.ZP HO103.out; subst eo7; have p104 : 0 ≤ (a1 : Int) := of_decide_eq_true (by first | (with_reducible assumption) | assumption); have q104 : a1 < (t101.length : Int) := of_decide_eq_true (by first | (with_reducible assumption) | assumption); obtain ⟨ad104, e104, hx104_0⟩ := Kd.ZI (Kd.zv HO103.out).2.2 a1 p104 q104; cases e104; replace p104 := eq_true p104; replace q104 := eq_true q104))
      go_ret
      exact ⟨by first | rfl | (simp [zQ, zR] <;> rfl) | (simp [*, zQ, zR] <;> rfl), by repeat (first | (with_reducible first | exact HB.out | apply zC | apply zB | apply zD) | exact HB.out)⟩
    · rw [if_neg c5] at H
      exact absurd H (by simp)
  · rw [if_neg c4] at H
    exact absurd H (by simp)
mutual
def zp.l0 : Nat → List Int → Int → Int → Int → Option (Int)
  | 0, _, _, _, _ => none
  | k + 1, x0, x3, x4, x5 => if x5 < 3 then (if 0 ≤ x5 then (if x5 < (x0.length : Int) then (zp.l1 k x0 x3 x4 x5 (rd x0 x5) 0) else (none)) else (none)) else (some x3)
def zp.l1 : Nat → List Int → Int → Int → Int → Int → Int → Option (Int)
  | 0, _, _, _, _, _, _ => none
  | k + 1, x0, x3, x4, x5, x6, x7 => if x7 < x5 then (if 0 ≤ x7 then (if x7 < (x0.length : Int) then (if 0 ≤ x5 then (if x5 < (x0.length : Int) then (if (rd x0 x7) < (rd x0 x5) then (zp.l1 k x0 x3 x4 x5 (wrap64 (x6 - 1)) (wrap64 (x7 + 1))) else (zp.l1 k x0 x3 x4 x5 x6 (wrap64 (x7 + 1)))) else (none)) else (none)) else (none)) else (none)) else (if (wrap64 (3 - x5)) = 0 then (none) else (zp.l0 k x0 (wrap64 (x3 + (wrap64 (x4 * x6)))) (wrap64 (Int.tdiv x4 (wrap64 (3 - x5)))) (wrap64 (x5 + 1))))
end
def zp.f (k : Nat) (l0 : List Int) : Option (Int) := zp.l0 k l0 0 6 0
theorem zp.zAn : ∀ k, (∀ y0 y1 y2 y3, LeO (zp.l0 k y0 y1 y2 y3) (zp.l0 (k + 1) y0 y1 y2 y3)) ∧ (∀ y0 y1 y2 y3 y4 y5, LeO (zp.l1 k y0 y1 y2 y3 y4 y5) (zp.l1 (k + 1) y0 y1 y2 y3 y4 y5))
  | 0 => ⟨fun _ _ _ _ r h => by simp [zp.l0] at h, fun _ _ _ _ _ _ r h => by simp [zp.l1] at h⟩
  | k + 1 => by
    obtain ⟨ih0, ih1⟩ := zp.zAn k
    refine ⟨?_, ?_⟩
    · intro y0 y1 y2 y3
      unfold zp.l0
      repeat' first
      | (with_reducible exact ih0 _ _ _ _)
      | (with_reducible exact ih1 _ _ _ _ _ _)
      | (with_reducible exact LeO.refl _)
      | (with_reducible exact LeO.none _)
      | (with_reducible refine LeO.ite ?_ ?_)
      | (with_reducible refine LeO.bind ?_ (fun _ => ?_))
      | exact ih0 _ _ _ _
      | exact ih1 _ _ _ _ _ _
      | exact LeO.none _
      | refine LeO.ite ?_ ?_
      | refine LeO.bind ?_ (fun _ => ?_)
    · intro y0 y1 y2 y3 y4 y5
      unfold zp.l1
      repeat' first
      | (with_reducible exact ih0 _ _ _ _)
      | (with_reducible exact ih1 _ _ _ _ _ _)
      | (with_reducible exact LeO.refl _)
      | (with_reducible exact LeO.none _)
      | (with_reducible refine LeO.ite ?_ ?_)
      | (with_reducible refine LeO.bind ?_ (fun _ => ?_))
      | exact ih0 _ _ _ _
      | exact ih1 _ _ _ _ _ _
      | exact LeO.none _
      | refine LeO.ite ?_ ?_
      | refine LeO.bind ?_ (fun _ => ?_)
theorem zp.mono : ∀ a0 k, LeO (zp.f k a0) (zp.f (k + 1) a0) := by
  intro a0 k
  obtain ⟨ih0, ih1⟩ := zp.zAn k
  unfold zp.f
  repeat' first
      | (with_reducible exact ih0 _ _ _ _)
      | (with_reducible exact ih1 _ _ _ _ _ _)
      | (with_reducible exact LeO.refl _)
      | (with_reducible exact LeO.none _)
      | (with_reducible refine LeO.ite ?_ ?_)
      | (with_reducible refine LeO.bind ?_ (fun _ => ?_))
      | exact ih0 _ _ _ _
      | exact ih1 _ _ _ _ _ _
      | exact LeO.none _
      | refine LeO.ite ?_ ?_
      | refine LeO.bind ?_ (fun _ => ?_)
set_option maxHeartbeats 8000000 in
set_option maxRecDepth 100000 in
theorem zp.calls (k : Nat) (A0 : Option Addr) (c0 : Nat) (l0 : List Int) (r : Int) (w : World) (hr0 : Kd.C (Kd.int .i64) w A0 l0.length l0) (hc0 : l0.length ≤ c0) (h : zp.f k l0 = some r) :
    Calls Try.prog 130 #[.slice A0 l0.length c0] w fun e w' => e = .returned (.int .i64 r) ∧ zZ w w' := by
  have HR0 := zA.mk hr0
  have HC0 := zA.mk hc0
  clear hr0 hc0
  have H : (zp.l0 k l0 0 6 0) = some r := h
  clear h
  have H' := zA.mk H
  clear H
  go_enter Try.func130, Try.ntmps130
  go_wp2
  repeat (go_quiet (fail); try go_wp2)
  go_loopg [3, 4, 5] k (fun kq v3 v4 v5 w' => ∃ (x3_1 : Int) (x4_1 : Int) (x5_1 : Int), v3 = .int .i64 x3_1 ∧ v4 = .int .i64 x4_1 ∧ v5 = .int .i64 x5_1 ∧ zA (zp.l0 kq l0 x3_1 x4_1 x5_1 = some r) ∧ zA (kq ≤ k) ∧ zZ w w')
  case atStart => exact ⟨(0), (6), (0), (by first | rfl | (simp; done) | (simp [*]; done)), (by first | rfl | (simp; done) | (simp [*]; done)), (by first | rfl | (simp; done) | (simp [*]; done)), H', ⟨yqy _⟩, by repeat (first | exact zZ.refl _ | apply zZ.step)⟩
  case round =>
    clear H'
    try clear c1
    obtain ⟨x3_1, x4_1, x5_1, rfl, rfl, rfl, HA, HK1, ⟨m1, rfl⟩⟩ := hrel
    cases gk with
    | zero => exact absurd HA.out (by simp [zp.l0])
    | succ k1 =>
      have H := HA.out
      clear HA
      simp only [zp.l0] at H
      by_cases c2 : x5_1 < 3
      · rw [if_pos c2] at H
        have c2b0 : decide (x5_1 < 3) = true := ygy c2
        clear c2
        by_cases c3 : 0 ≤ x5_1
        · rw [if_pos c3] at H
          have c3b0 : decide (0 ≤ x5_1) = true := ygy c3
          clear c3
          by_cases c4 : x5_1 < (l0.length : Int)
          · rw [if_pos c4] at H
            have c4b0 : decide (x5_1 < (l0.length : Int)) = true := ygy c4
            clear c4
            have H' := zA.mk H
            clear H
            have p101 : 0 ≤ (x5_1 : Int) := of_decide_eq_true (by first | (with_reducible assumption) | assumption)
            have q101 : x5_1 < (l0.length : Int) := of_decide_eq_true (by first | (with_reducible assumption) | assumption)
            obtain ⟨ad101, e101, hx101_0⟩ := Kd.ZI HR0.out x5_1 p101 q101
            cases e101
            replace p101 := eq_true p101
            replace q101 := eq_true q101
            go_wp2
            repeat (go_quiet (fail); try go_wp2)
            go_loopg [6, 7] k1 (fun kq v6 v7 w' => ∃ (x6_2 : Int) (x7_2 : Int), v6 = .int .i64 x6_2 ∧ v7 = .int .i64 x7_2 ∧ zA (zp.l1 kq l0 x3_1 x4_1 x5_1 x6_2 x7_2 = some r) ∧ zA (kq ≤ k1) ∧ zZ w w')
            case atStart => exact ⟨(rd l0 x5_1), (0), (by first | rfl | (simp; done) | (simp [*]; done)), (by first | rfl | (simp; done) | (simp [*]; done)), H', ⟨yqy _⟩, by repeat (first | exact zZ.refl _ | apply zZ.step)⟩
            case round =>
              clear H'
              try clear c1
              try clear p1
              try clear q1
              try clear hx1
              try clear c2
              try clear c2b0
              try clear p2
              try clear c3
              try clear c3b0
              try clear c4
              try clear c4b0
              try clear hx101_0
              try clear p101
              try clear q101
              obtain ⟨x6_2, x7_2, rfl, rfl, HA, HK2, ⟨m2, rfl⟩⟩ := hrel
              cases gk with
              | zero => exact absurd HA.out (by simp [zp.l1])
              | succ k2 =>
                have H := HA.out
                clear HA
                simp only [zp.l1] at H
                by_cases c5 : x7_2 < x5_1
                · rw [if_pos c5] at H
                  have c5b0 : decide (x7_2 < x5_1) = true := ygy c5
                  clear c5
                  by_cases c6 : 0 ≤ x7_2
                  · rw [if_pos c6] at H
                    have c6b0 : decide (0 ≤ x7_2) = true := ygy c6
                    clear c6
                    by_cases c7 : x7_2 < (l0.length : Int)
                    · rw [if_pos c7] at H
                      have c7b0 : decide (x7_2 < (l0.length : Int)) = true := ygy c7
                      clear c7
                      by_cases c8 : 0 ≤ x5_1
                      · rw [if_pos c8] at H
                        have c8b0 : decide (0 ≤ x5_1) = true := ygy c8
                        clear c8
                        by_cases c9 : x5_1 < (l0.length : Int)
                        · rw [if_pos c9] at H
                          have c9b0 : decide (x5_1 < (l0.length : Int)) = true := ygy c9
                          clear c9
                          by_cases c10 : (rd l0 x7_2) < (rd l0 x5_1)
                          · rw [if_pos c10] at H
                            have c10b0 : decide ((rd l0 x7_2) < (rd l0 x5_1)) = true := ygy c10
                            clear c10
                            have H' := zA.mk H
                            clear H
                            have p102 : 0 ≤ (x7_2 : Int) := of_decide_eq_true (by first | (with_reducible assumption) | assumption)
                            have q102 : x7_2 < (l0.length : Int) := of_decide_eq_true (by first | (with_reducible assumption) | assumption)
                            obtain ⟨ad102, e102, hx102_0⟩ := Kd.ZI HR0.out x7_2 p102 q102
                            obtain rfl : ad101 = ad102 := (by injection e102)
                            replace p102 := eq_true p102
                            replace q102 := eq_true q102
                            have p103 : 0 ≤ (x5_1 : Int) := of_decide_eq_true (by first | (with_reducible assumption) | assumption)
                            have q103 : x5_1 < (l0.length : Int) := of_decide_eq_true (by first | (with_reducible assumption) | assumption)
                            obtain ⟨ad103, e103, hx103_0⟩ := Kd.ZI HR0.out x5_1 p103 q103
                            obtain rfl : ad101 = ad103 := (by injection e103)
                            replace p103 := eq_true p103
                            replace q103 := eq_true q103
                            go_wp2
                            repeat (go_quiet (fail); try go_wp2)
                            go_roundg k2
                            case measure => have := HK1.out; have := HK2.out; omega
                            case rel => exact ⟨(wrap64 (x6_2 - 1)), (wrap64 (x7_2 + 1)), (by first | rfl | (simp; done) | (simp [*]; done)), (by first | rfl | (simp; done) | (simp [*]; done)), H', ⟨by have := HK1.out; have := HK2.out; omega⟩, by repeat (first | exact zZ.refl _ | apply zZ.step)⟩
                          · rw [if_neg c10] at H
                            have c10b0 : decide ((rd l0 x7_2) < (rd l0 x5_1)) = false := yhy c10
                            clear c10
                            have H' := zA.mk H
                            clear H
                            have p102 : 0 ≤ (x7_2 : Int) := of_decide_eq_true (by first | (with_reducible assumption) | assumption)
                            have q102 : x7_2 < (l0.length : Int) := of_decide_eq_true (by first | (with_reducible assumption) | assumption)
                            obtain ⟨ad102, e102, hx102_0⟩ := Kd.ZI HR0.out x7_2 p102 q102
                            obtain rfl : ad101 = ad102 := (by injection e102)
                            replace p102 := eq_true p102
                            replace q102 := eq_true q102
                            have p103 : 0 ≤ (x5_1 : Int) := of_decide_eq_true (by first | (with_reducible assumption) | assumption)
                            have q103 : x5_1 < (l0.length : Int) := of_decide_eq_true (by first | (with_reducible assumption) | assumption)
                            obtain ⟨ad103, e103, hx103_0⟩ := Kd.ZI HR0.out x5_1 p103 q103
                            obtain rfl : ad101 = ad103 := (by injection e103)
                            replace p103 := eq_true p103
                            replace q103 := eq_true q103
                            go_wp2
                            repeat (go_quiet (fail); try go_wp2)
                            go_roundg k2
                            case measure => have := HK1.out; have := HK2.out; omega
                            case rel => exact ⟨(x6_2), (wrap64 (x7_2 + 1)), (by first | rfl | (simp; done) | (simp [*]; done)), (by first | rfl | (simp; done) | (simp [*]; done)), H', ⟨by have := HK1.out; have := HK2.out; omega⟩, by repeat (first | exact zZ.refl _ | apply zZ.step)⟩
                        · rw [if_neg c9] at H
                          exact absurd H (by simp)
                      · rw [if_neg c8] at H
                        exact absurd H (by simp)
                    · rw [if_neg c7] at H
                      exact absurd H (by simp)
                  · rw [if_neg c6] at H
                    exact absurd H (by simp)
                · rw [if_neg c5] at H
                  have c5b0 : decide (x7_2 < x5_1) = false := yhy c5
                  clear c5
                  by_cases c11 : (wrap64 (3 - x5_1)) = 0
                  · rw [if_pos c11] at H
                    exact absurd H (by simp)
                  · rw [if_neg c11] at H
                    have c11b0 : ((wrap64 (3 - x5_1)) == 0) = false := beq_eq_false_iff_ne.mpr c11
                    have c11b1 : ((wrap64 (3 - x5_1)) != 0) = true := bne_iff_ne.mpr c11
                    have H' := zA.mk H
                    clear H
                    go_wp2
                    repeat (go_quiet (fail); try go_wp2)
                    go_roundg k2
                    case measure => have := HK1.out; have := HK2.out; omega
                    case rel => exact ⟨(wrap64 (x3_1 + (wrap64 (x4_1 * x6_2)))), (wrap64 (Int.tdiv x4_1 (wrap64 (3 - x5_1)))), (wrap64 (x5_1 + 1)), (by first | rfl | (simp; done) | (simp [*]; done)), (by first | rfl | (simp; done) | (simp [*]; done)), (by first | rfl | (simp; done) | (simp [*]; done)), H', ⟨by have := HK1.out; have := HK2.out; omega⟩, by repeat (first | exact zZ.refl _ | apply zZ.step)⟩
          · rw [if_neg c4] at H
            exact absurd H (by simp)
        · rw [if_neg c3] at H
          exact absurd H (by simp)
      · rw [if_neg c2] at H
        have c2b0 : decide (x5_1 < 3) = false := yhy c2
        clear c2
        obtain rfl := yey H
        go_wp2
        repeat (go_quiet (fail); try go_wp2)
        go_ret
        exact ⟨by first | rfl | (simp; done) | (simp [*]; done), by repeat (first | exact zZ.refl _ | apply zZ.step)⟩
def qD.l0 : Nat → List Int → List Int → Int → Option (Int)
  | 0, _, _, _ => none
  | k + 1, x3, x4, x5 => if x5 < 4 then (if 0 ≤ x5 then (if x5 < (x3.length : Int) then (if 0 ≤ (rd x3 x5) then (if (rd x3 x5) < (x4.length : Int) then (qD.l0 k x3 (x4.set ((rd x3 x5) : Int).toNat x5) (wrap64 (x5 + 1))) else (none)) else (none)) else (none)) else (none)) else ((zp.f k x4).bind fun t109 => (some t109))
def qD.f (k : Nat) (a0 : Int) : Option (Int) := (zV.f k a0).bind fun t101 => (qD.l0 k t101 (([0, 0, 0, 0] : List Int)) 0)
theorem qD.zAn : ∀ k, (∀ y0 y1 y2, LeO (qD.l0 k y0 y1 y2) (qD.l0 (k + 1) y0 y1 y2))
  | 0 => fun _ _ _ r h => by simp [qD.l0] at h
  | k + 1 => by
    have ih0 := qD.zAn k
    · intro y0 y1 y2
      unfold qD.l0
      repeat' first
      | (with_reducible exact ih0 _ _ _)
      | (with_reducible exact zV.mono _ _)
      | (with_reducible exact zp.mono _ _)
      | (with_reducible exact LeO.refl _)
      | (with_reducible exact LeO.none _)
      | (with_reducible refine LeO.ite ?_ ?_)
      | (with_reducible refine LeO.bind ?_ (fun _ => ?_))
      | exact ih0 _ _ _
      | exact zV.mono _ _
      | exact zp.mono _ _
      | exact LeO.none _
      | refine LeO.ite ?_ ?_
      | refine LeO.bind ?_ (fun _ => ?_)
theorem qD.mono : ∀ a0 k, LeO (qD.f k a0) (qD.f (k + 1) a0) := by
  intro a0 k
  have ih0 := qD.zAn k
  unfold qD.f
  repeat' first
      | (with_reducible exact ih0 _ _ _)
      | (with_reducible exact zV.mono _ _)
      | (with_reducible exact zp.mono _ _)
      | (with_reducible exact LeO.refl _)
      | (with_reducible exact LeO.none _)
      | (with_reducible refine LeO.ite ?_ ?_)
      | (with_reducible refine LeO.bind ?_ (fun _ => ?_))
      | exact ih0 _ _ _
      | exact zV.mono _ _
      | exact zp.mono _ _
      | exact LeO.none _
      | refine LeO.ite ?_ ?_
      | refine LeO.bind ?_ (fun _ => ?_)
set_option maxHeartbeats 8000000 in
set_option maxRecDepth 100000 in
theorem qD.calls (k : Nat) (a0 : Int) (r : Int) (w : World) (h : qD.f k a0 = some r) :
    Calls Try.prog 96 #[.int .i64 a0] w fun e w' => e = .returned (.int .i64 r) ∧ Below w.heap.size w w' := by
  have HB := zA.mk (yry w.heap.size w)
  have H : ((zV.f k a0).bind fun t101 => (qD.l0 k t101 (([0, 0, 0, 0] : List Int)) 0)) = some r := h
  clear h
  replace H := ydy.mp H
  obtain ⟨t101, A20, H⟩ := H
  replace H : (qD.l0 k t101 (([0, 0, 0, 0] : List Int)) 0) = some r := H
  have A2 := zA.mk A20
  clear A20
  obtain ⟨y104, hy104⟩ : ∃ y_ : List Int, y_ = (([0, 0, 0, 0] : List Int)) := ⟨_, rfl⟩
  replace H : (qD.l0 k t101 y104 0) = some r := by first | (rw [hy104]; with_reducible exact H) | (have H2_ := (yfy _ _).symm.trans H; rw [hy104]; with_reducible exact H2_) | (have H2_ := (yfy _ _).symm.trans H; with_reducible exact H2_) | with_reducible exact H | (rw [hy104]; exact H) | exact H
  have Ny104 := zA.mk hy104
  clear hy104
  have H' := zA.mk H
  clear H
  go_enter Try.func96, Try.ntmps96
  go_wp2_with (first | ((with_reducible refine zS (f := 76) rfl ?_); refine qB (some 7) rfl rfl Try.func76 (by kernel_rfl) rfl #[.int .i64 a0] rfl (by (try simp only [yiy, yjy, yky]); first | done | rfl | (simp only [yly, ymy]; rfl)) ?_; (with_reducible refine (zV.calls k a0 t101 _ A2.out).mono ?_); rintro e w3 ⟨v102, rfl, ho0, hb⟩; refine ⟨_, rfl, ?_⟩; have n0_ := zA.mk (Kd.Zb ho0 (zO (by repeat (first | (with_reducible first | exact HB.out | apply zC | apply zB | apply zD) | exact HB.out)))); have n1_ := zA.mk (zN (by repeat (first | (with_reducible first | exact HB.out | apply zC | apply zB | apply zD) | exact HB.out)) hb); clear HB; have HO103 := n0_; have HB := n1_; clear n0_ n1_; (try clear hb); (try clear hb2); (try clear hk); (try clear hi); (try clear ho0)) | ((with_reducible refine zd (N := 8) rfl ?_); refine Kd.zCi (Kd.int .i64) _ 2 ?hg (N := 8) ?hd (xs := ([0, 0, 0, 0] : List Int)) (inner := [.int .i64 0, .int .i64 0, .int .i64 0, .int .i64 0]) (ok := fun _ => True) (okp := fun _ => True) ?hr ?hp (fun _ hk => hk) trivial (yry _ _) (yqy _) (by simp) ?_; (case hd => rfl); (case hg => rfl); (case hr => first | (go_simp; done) | (go_simp; rfl)); (case hp => exact (QS.one (show Kd.M (Kd.int .i64) _ _ _ 0 [.int .i64 0] from rfl) (QS.one (show Kd.M (Kd.int .i64) _ _ _ 0 [.int .i64 0] from rfl) (QS.one (show Kd.M (Kd.int .i64) _ _ _ 0 [.int .i64 0] from rfl) (QS.one (show Kd.M (Kd.int .i64) _ _ _ 0 [.int .i64 0] from rfl) (QS.none _ _)))))); intro v105 w4 ho5 hb hg_ hnew_; clear hg_ hnew_; (first | rw [← Ny104.out] at ho5 | (simp only [Int.reduceToNat] at ho5; rw [← Ny104.out] at ho5)); have n0_ := zA.mk (Kd.JP (by (with_reducible repeat (first | apply Kd.zm | apply Kd.zk | apply Kd.zu)); exact HO103.out) (Kd.JI ho5) hb); have n1_ := zA.mk (Kd.Zb (Kd.zB0 ho5 (Kd.zBM (by (with_reducible repeat (first | apply Kd.zm | apply Kd.zk | apply Kd.zu)); exact HO103.out))) (zO (by repeat (first | (with_reducible first | exact HB.out | apply zC | apply zB | apply zD) | exact HB.out)))); have n2_ := zA.mk (zN (by repeat (first | (with_reducible first | exact HB.out | apply zC | apply zB | apply zD) | exact HB.out)) hb); clear HO103; clear HB; have HO103 := n0_; have HO106 := n1_; have HB := n2_; clear n0_ n1_ n2_; clear hb ho5))
  go_loopg [5] k (fun kq v5 w' => ∃ (x4_1 : List Int) (x5_1 : Int), v5 = .int .i64 x5_1 ∧ zA (qD.l0 kq t101 x4_1 x5_1 = some r) ∧ zA (kq ≤ k) ∧ zA (Kd.R (Kd.int .i64) 2 w' w.heap.size (fun k_ => some k_ ≠ (v105 : Value).ownBlock) v102 t101) ∧ zA (Kd.R (Kd.int .i64) 2 w' w.heap.size (fun k_ => some k_ ≠ (v102 : Value).ownBlock) v105 x4_1) ∧ zA (Below w.heap.size w w'))
  case atStart => exact ⟨(y104), (0), (by first | rfl | (simp; done) | (simp [*]; done)), H', ⟨yqy _⟩, ⟨by (with_reducible repeat (first | apply Kd.zm | apply Kd.zk | apply Kd.zu)); exact Kd.qW HO103.out (fun _ hk => hk.2)⟩, ⟨by (with_reducible repeat (first | apply Kd.zm | apply Kd.zk | apply Kd.zu)); exact Kd.qW HO106.out (fun _ hk => hk.2)⟩, ⟨by repeat (first | (with_reducible first | exact HB.out | apply zC | apply zB | apply zD) | exact HB.out)⟩⟩
  case round =>
    clear H'
    try clear p2
    obtain ⟨x4_1, x5_1, rfl, HA, HK1, HO_3, HO_4, HB⟩ := hrel
    cases gk with
    | zero => exact absurd HA.out (by simp [qD.l0])
    | succ k1 =>
      have H := HA.out
      clear HA
      simp only [qD.l0] at H
      by_cases c6 : x5_1 < 4
      · rw [if_pos c6] at H
        have c6b0 : decide (x5_1 < 4) = true := ygy c6
        clear c6
        by_cases c7 : 0 ≤ x5_1
        · rw [if_pos c7] at H
          have c7b0 : decide (0 ≤ x5_1) = true := ygy c7
          clear c7
          by_cases c8 : x5_1 < (t101.length : Int)
          · rw [if_pos c8] at H
            have c8b0 : decide (x5_1 < (t101.length : Int)) = true := ygy c8
            clear c8
            by_cases c9 : 0 ≤ (rd t101 x5_1)
            · rw [if_pos c9] at H
              have c9b0 : decide (0 ≤ (rd t101 x5_1)) = true := ygy c9
              clear c9
              by_cases c10 : (rd t101 x5_1) < (x4_1.length : Int)
              · rw [if_pos c10] at H
                have c10b0 : decide ((rd t101 x5_1) < (x4_1.length : Int)) = true := ygy c10
                clear c10
                obtain ⟨y108, hy108⟩ : ∃ y_ : List Int, y_ = (x4_1.set ((rd t101 x5_1) : Int).toNat x5_1) := ⟨_, rfl⟩
                replace H : (qD.l0 k1 t101 y108 (wrap64 (x5_1 + 1))) = some r := by first | (rw [hy108]; with_reducible exact H) | (have H2_ := (yfy _ _).symm.trans H; rw [hy108]; with_reducible exact H2_) | (have H2_ := (yfy _ _).symm.trans H; with_reducible exact H2_) | with_reducible exact H | (rw [hy108]; exact H) | exact H
                have Ny108 := zA.mk hy108
                clear hy108
                have H' := zA.mk H
                clear H
                obtain ⟨Ao12, co12, eo12⟩ := Kd.ZP HO_3.out
                subst eo12
                have p107 : 0 ≤ (x5_1 : Int) := of_decide_eq_true (by first | (with_reducible assumption) | assumption)
                have q107 : x5_1 < (t101.length : Int) := of_decide_eq_true (by first | (with_reducible assumption) | assumption)
                obtain ⟨ad107, e107, hx107_0⟩ := Kd.ZI (Kd.zv HO_3.out).2.2 x5_1 p107 q107
                cases e107
                replace p107 := eq_true p107
                replace q107 := eq_true q107
                have p11 : 0 ≤ ((rd t101 x5_1) : Int) := of_decide_eq_true (by first | (with_reducible assumption) | assumption)
                have q11 : ((rd t101 x5_1) : Int) < ((x4_1.length : Int) : Int) := of_decide_eq_true (by first | (with_reducible assumption) | assumption)
                obtain ⟨go11, co11, eo11, gb11, gl11, cl11, HG11⟩ := Kd.zA3 HO_4.out (by omega)
                (first | cases eo11 | (injection eo11 with ea_ en_ ec_; (first | subst ea_ | (injection ea_ with ea_; subst ea_)); subst ec_; clear en_))
                have GB11 := zA.mk gb11
                have GG11 := zA.mk HG11
                clear gb11 gl11 HG11
                obtain ⟨hx11_0, hf11_0⟩ := Kd.Zw 0 HO_4.out ((rd t101 x5_1) : Int) p11 q11
                replace p11 := eq_true p11
                replace q11 := eq_true q11
                have HP13 := Kd.Jh HO_4.out ((rd t101 x5_1) : Int) x5_1
                go_wp2_with (first | ((with_reducible refine ZH (t := 2) (p := 19) rfl ?_); refine qz (t := 2) (p := 19) (v := ?vo_w14) (w1 := (wr.setCell ⟨go11, ((rd t101 x5_1) : Int).toNat, none⟩ (.int .i64 x5_1))) ?hg ?ho ?hn ?hr ?_; (case ho => rfl); (case hg => rfl); (case hn => rfl); (case hr => first | (go_simp; done) | (go_simp; rfl)); intro w14 hw; have hg : wr.grownBy w14 (some go11) := (by rw [hw]; exact HP13.2); have hp_ : Kd.R (Kd.int .i64) 2 w14 w.heap.size (fun k_ => some k_ ≠ (.slice (some ad107) t101.length co12 : Value).ownBlock) (.slice (some ⟨go11, 0, none⟩) x4_1.length co11) y108 := (by rw [hw, Ny108.out]; exact HP13.1); clear HP13; have n0_ := zA.mk (Kd.Zd (v := (.slice (some ⟨go11, 0, none⟩) x4_1.length co11)) (v1 := (.slice (some ⟨go11, 0, none⟩) x4_1.length co11)) (ok := (fun _ => True)) (by (with_reducible repeat (first | apply Kd.zm | apply Kd.zk | apply Kd.zu)); exact Kd.qW HO_3.out (fun _ hk => ⟨trivial, hk⟩)) hg (.inl rfl)); have n1_ := zA.mk (hp_); have n2_ := zA.mk ((by rw [hw]; exact zF (HB.out) GB11.out : Below w.heap.size w w14)); clear HO_3; clear HO_4; clear HB; have HO_3 := n0_; have HO_4 := n1_; have HB := n2_; clear n0_ n1_ n2_; clear hg hw hp_))
                go_roundg k1
                case measure => have := HK1.out; omega
                case rel => exact ⟨(y108), (wrap64 (x5_1 + 1)), (by first | rfl | (simp; done) | (simp [*]; done)), H', ⟨by have := HK1.out; omega⟩, ⟨by (with_reducible repeat (first | apply Kd.zm | apply Kd.zk | apply Kd.zu)); exact Kd.qW HO_3.out (fun _ hk => hk.2)⟩, ⟨by (with_reducible repeat (first | apply Kd.zm | apply Kd.zk | apply Kd.zu)); exact HO_4.out⟩, ⟨by repeat (first | (with_reducible first | exact HB.out | apply zC | apply zB | apply zD) | exact HB.out)⟩⟩
              · rw [if_neg c10] at H
                exact absurd H (by simp)
            · rw [if_neg c9] at H
              exact absurd H (by simp)
          · rw [if_neg c8] at H
            exact absurd H (by simp)
        · rw [if_neg c7] at H
          exact absurd H (by simp)
      · rw [if_neg c6] at H
        have c6b0 : decide (x5_1 < 4) = false := yhy c6
        clear c6
        replace H := ydy.mp H
        obtain ⟨t109, A150, H⟩ := H
        replace H : (some t109) = some r := H
        have A15 := zA.mk A150
        clear A150
        obtain rfl := yey H
        obtain ⟨Ao16, co16, eo16⟩ := Kd.ZP HO_4.out
        subst eo16
        go_wp2_with (first | ((with_reducible refine zS (f := 130) rfl ?_); refine qB (some 21) rfl rfl Try.func130 (by kernel_rfl) rfl #[.slice Ao16 x4_1.length co16] rfl (by (try simp only [yiy, yjy, yky]); first | done | rfl | (simp only [yly, ymy]; rfl)) ?_; (with_reducible refine (zp.calls k1 _ _ x4_1 t109 _ ?side1 ?side2 A15.out).mono ?_); (case side1 => repeat (first | exact (Kd.zv HO_4.out).2.2 | (with_reducible refine Kd.zf ?_ _) | (with_reducible refine Kd.zg ?_ _) | (with_reducible refine Kd.zz ?_))); (case side2 => exact (Kd.zv HO_4.out).2.1); rintro e w' ⟨rfl, ⟨nd, rfl⟩⟩; refine ⟨_, rfl, ?_⟩))
        go_ret
        exact ⟨by first | rfl | (simp [zQ, zR] <;> rfl) | (simp [*, zQ, zR] <;> rfl), by repeat (first | (with_reducible first | exact HB.out | apply zC | apply zB | apply zD) | exact HB.out)⟩
def ZZ.f (a0 : Int) : Option (Bool) := if a0 ≥ 0 then (some (decide (a0 < 24))) else (some false)
set_option maxHeartbeats 8000000 in
set_option maxRecDepth 100000 in
theorem ZZ.calls (a0 : Int) (r : Bool) (w : World) (h : ZZ.f a0 = some r) :
    Calls Try.prog 95 #[.int .i64 a0] w fun e w' => e = .returned (.bool r) ∧ zZ w w' := by
  have H : (if a0 ≥ 0 then (some (decide (a0 < 24))) else (some false)) = some r := h
  clear h
  by_cases c2 : a0 ≥ 0
  · rw [if_pos c2] at H
    have c2b0 : decide (0 ≤ a0) = true := ygy c2
    clear c2
    obtain rfl := yey H
    go_enter Try.func95, Try.ntmps95
    go_wp2
    go_ret
    exact ⟨by first | rfl | (simp; done) | (simp [*]; done), by repeat (first | exact zZ.refl _ | apply zZ.step)⟩
  · rw [if_neg c2] at H
    have c2b0 : decide (0 ≤ a0) = false := yhy c2
    clear c2
    obtain rfl := yey H
    go_enter Try.func95, Try.ntmps95
    go_wp2
    go_ret
    exact ⟨by first | rfl | (simp; done) | (simp [*]; done), by repeat (first | exact zZ.refl _ | apply zZ.step)⟩
def QC.f (a0 : Int) (a1 : Int) (a2 : Int) : Option (Bool) := if a0 ≥ a1 then (some (decide (a0 ≤ a2))) else (some false)
set_option maxHeartbeats 8000000 in
set_option maxRecDepth 100000 in
theorem QC.calls (a0 : Int) (a1 : Int) (a2 : Int) (r : Bool) (w : World) (h : QC.f a0 a1 a2 = some r) :
    Calls Try.prog 48 #[.int .i64 a0, .int .i64 a1, .int .i64 a2] w fun e w' => e = .returned (.bool r) ∧ zZ w w' := by
  have H : (if a0 ≥ a1 then (some (decide (a0 ≤ a2))) else (some false)) = some r := h
  clear h
  by_cases c4 : a0 ≥ a1
  · rw [if_pos c4] at H
    have c4b0 : decide (a1 ≤ a0) = true := ygy c4
    clear c4
    obtain rfl := yey H
    go_enter Try.func48, Try.ntmps48
    go_wp2
    go_ret
    exact ⟨by first | rfl | (simp; done) | (simp [*]; done), by repeat (first | exact zZ.refl _ | apply zZ.step)⟩
  · rw [if_neg c4] at H
    have c4b0 : decide (a1 ≤ a0) = false := yhy c4
    clear c4
    obtain rfl := yey H
    go_enter Try.func48, Try.ntmps48
    go_wp2
    go_ret
    exact ⟨by first | rfl | (simp; done) | (simp [*]; done), by repeat (first | exact zZ.refl _ | apply zZ.step)⟩
end Go.Proofs.Ytfnopcbicceeaaa.P
