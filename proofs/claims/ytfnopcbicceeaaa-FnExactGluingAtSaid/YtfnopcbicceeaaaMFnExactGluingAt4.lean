/- The statement FnExactGluingAtSaid, proved: part 4 of 5 (texts of this session and of the kit's print, put together and cut to what is used by a program of it). -/
import Derived.Test.YtfnopcbicceeaaaMFnExactGluingAt3
namespace Go.Proofs.Ytfnopcbicceeaaa.P
open Go.RowKit Go.Proofs.YtfnopcbicceeaaaW.PrintWords Go.Proofs.YtfnopcbicceeaaaW.PrintLast Go.Proofs.YtfnopcbicceeaaaW.PrintMore
attribute [local go_sem] max2_int min2_int max_two min_two max_three min_three max_four min_four   -- for this text's walks alone
set_option linter.unusedVariables false
set_option linter.unusedSimpArgs false
/-! ### spec_l16Matching: function 87 -/
def spec_l16Matching.l0 : Nat → Int → List Int → List Int → Option (List Int)
 | 0, _, _, _ => none
 | k + 1, x1, x5, x6 => if (x5.length : Int) > 0 then ((spec_l16Matchings.f k (wrap64 ((x5.length : Int) - 2))).bind fun t107 => (if t107 = 0 then (none) else (if 0 < (x5.length : Int) then (if 0 ≤ (wrap64 (1 + (wrap64 (Int.tdiv x1 t107)))) then (if (wrap64 (1 + (wrap64 (Int.tdiv x1 t107)))) < (x5.length : Int) then (if 0 ≤ (rd x5 0) then (if (rd x5 0) < (x6.length : Int) then (if 0 ≤ (rd x5 (wrap64 (1 + (wrap64 (Int.tdiv x1 t107))))) then (if (rd x5 (wrap64 (1 + (wrap64 (Int.tdiv x1 t107))))) < (x6.length : Int) then ((some (([] : List Int) : List Int)).bind fun y114 => (if 1 ≤ (wrap64 (1 + (wrap64 (Int.tdiv x1 t107)))) then (if (wrap64 (1 + (wrap64 (Int.tdiv x1 t107)))) ≤ (x5.length : Int) then ((some ((x5.take ((wrap64 (1 + (wrap64 (Int.tdiv x1 t107)))) : Int).toNat).drop 1 : List Int)).bind fun y117 => (if y114.length + y117.length < 17592186044416 then ((some (y114 ++ y117 : List Int)).bind fun y121 => (if 0 ≤ (wrap64 ((wrap64 (1 + (wrap64 (Int.tdiv x1 t107)))) + 1)) then (if (wrap64 ((wrap64 (1 + (wrap64 (Int.tdiv x1 t107)))) + 1)) ≤ (x5.length : Int) then ((some (x5.drop ((wrap64 ((wrap64 (1 + (wrap64 (Int.tdiv x1 t107)))) + 1)) : Int).toNat : List Int)).bind fun y124 => (if y121.length + y124.length < 17592186044416 then (spec_l16Matching.l0 k (Int.tmod x1 t107) (y121 ++ y124) ((x6.set ((rd x5 0) : Int).toNat (rd x5 (wrap64 (1 + (wrap64 (Int.tdiv x1 t107)))))).set ((rd x5 (wrap64 (1 + (wrap64 (Int.tdiv x1 t107))))) : Int).toNat (rd x5 0))) else (none))) else (none)) else (none))) else (none))) else (none)) else (none))) else (none)) else (none)) else (none)) else (none)) else (none)) else (none)) else (none)))) else (some x6)
def spec_l16Matching.f (k : Nat) (a0 : Int) (a1 : Int) : Option (List Int) := (spec_l08Fresh.f k a0).bind fun t101 => (if 0 ≤ a0 then (if (a0 : Int).toNat ≤ 35184372088832 then (spec_l16Matching.l0 k a1 t101 (List.replicate (a0 : Int).toNat 0)) else (none)) else (none))
def spec_l16Matching.T7 : Bool × List (List Nat × List Nat) := (true, [([], []), ([], []), ([1], [1]), ([2], [2]), ([], []), ([], []), ([4, 5], [4, 5]), ([6], [6]), ([0, 3, 0, 1, 2, 3, 4, 5, 6, 7], [0, 3]), ([8, 7, 0, 1, 2, 3, 4, 5, 6, 7], [7, 8])])
def spec_l16Matching.B7 : List Nat := [0, 0, 2, 6, 0, 0, 48, 112, 255, 511]
theorem spec_l16Matching.tab7 : rtab .any (opsOf Try.f87 7) = spec_l16Matching.T7 := by kernel_rfl
theorem spec_l16Matching.bits7 : waitsOk spec_l16Matching.T7.2 spec_l16Matching.B7 = true := by kernel_rfl
def spec_l16Matching.T8 : Bool × List (List Nat × List Nat) := (true, [([], []), ([], []), ([], []), ([1, 2], [1, 2]), ([3], [3]), ([], []), ([5], [5]), ([6], [6]), ([0, 4, 0, 1, 2, 3, 4, 5, 6, 7], [0, 4]), ([8, 7, 0, 1, 2, 3, 4, 5, 6, 7], [7, 8])])
def spec_l16Matching.B8 : List Nat := [0, 0, 0, 6, 14, 0, 32, 96, 255, 511]
theorem spec_l16Matching.tab8 : rtab .any (opsOf Try.f87 8) = spec_l16Matching.T8 := by kernel_rfl
theorem spec_l16Matching.bits8 : waitsOk spec_l16Matching.T8.2 spec_l16Matching.B8 = true := by kernel_rfl
def spec_l16Matching.T9 : Bool × List (List Nat × List Nat) := (true, [([], []), ([], []), ([], []), ([1, 2], [1, 2]), ([0, 3], [0, 3]), ([], []), ([], []), ([6], [6]), ([5, 7], [5, 7]), ([4, 8, 4], [4, 8]), ([9, 9, 0, 1, 2, 3, 4, 5, 6, 7, 8, 9], [1, 5, 9])])
def spec_l16Matching.B9 : List Nat := [0, 0, 0, 6, 15, 0, 0, 64, 224, 511, 1023]
theorem spec_l16Matching.tab9 : rtab .any (opsOf Try.f87 9) = spec_l16Matching.T9 := by kernel_rfl
theorem spec_l16Matching.bits9 : waitsOk spec_l16Matching.T9.2 spec_l16Matching.B9 = true := by kernel_rfl
set_option maxHeartbeats 8000000 in
set_option maxRecDepth 100000 in
theorem spec_l16Matching.calls (k : Nat) (a0 : Int) (a1 : Int) (r : List Int) (w : World) (h : spec_l16Matching.f k a0 a1 = some r) :
 Calls Try.prog 87 #[.int .i64 a0, .int .i64 a1] w fun e w' => ∃ v0_ : Value, e = .returned (v0_) ∧ Kd.R (Kd.int .i64) 2 w' w.heap.size (fun _ => True) v0_ r ∧ Below w.heap.size w w' := by
 have HB := Aside0.mk (Below.refl w.heap.size w)
 have H : ((spec_l08Fresh.f k a0).bind fun t101 => (if 0 ≤ a0 then (if (a0 : Int).toNat ≤ 35184372088832 then (spec_l16Matching.l0 k a1 t101 (List.replicate (a0 : Int).toNat 0)) else (none)) else (none))) = some r := h
 clear h
 replace H := ydy.mp H
 obtain ⟨t101, A30, H⟩ := H
 replace H : (if 0 ≤ a0 then (if (a0 : Int).toNat ≤ 35184372088832 then (spec_l16Matching.l0 k a1 t101 (List.replicate (a0 : Int).toNat 0)) else (none)) else (none)) = some r := H
 have A3 := Aside0.mk A30
 clear A30
 by_cases c4 : 0 ≤ a0
 rotate_left
 next =>
  rw [if_neg c4] at H
  exact absurd H (by simp)
 rw [if_pos c4] at H
 have c4b0 := eq_true c4
 have c4b1 : decide (0 ≤ a0) = true := ygy c4
 clear c4
 by_cases c5 : (a0 : Int).toNat ≤ 35184372088832
 rotate_left
 next =>
  rw [if_neg c5] at H
  exact absurd H (by simp)
 rw [if_pos c5] at H
 have c5b0 := eq_true c5
 have c5b1 : decide ((a0 : Int).toNat ≤ 35184372088832) = true := ygy c5
 clear c5
 obtain ⟨y104, hy104⟩ : ∃ y_ : List Int, y_ = (List.replicate (a0 : Int).toNat 0) := ⟨_, rfl⟩
 replace H : (spec_l16Matching.l0 k a1 t101 y104) = some r := by first | (rw [hy104]; with_reducible exact H) | (have H2_ := (yfy _ _).symm.trans H; rw [hy104]; with_reducible exact H2_) | (have H2_ := (yfy _ _).symm.trans H; with_reducible exact H2_) | with_reducible exact H | (rw [hy104]; exact H) | exact H
 have Ny104 := Aside0.mk hy104
 clear hy104
 have H' := Aside0.mk H
 clear H
 go_enter Try.func87, Try.ntmps87
 go_wp2_with (first | ((with_reducible refine gate_callee (f := 35) rfl ?_); refine goesL_ (some 10) rfl rfl Try.func35 (by kernel_rfl) rfl #[.int .i64 a0] rfl (by (try simp only [yiy, yjy, yky]); first | done | rfl | (simp only [yly, ymy]; rfl)) ?_; (with_reducible refine (spec_l08Fresh.calls k a0 t101 _ A3.out).mono ?_); rintro e w6 ⟨v102, rfl, ho0, hb⟩; refine ⟨_, rfl, ?_⟩; have n0_ := Aside0.mk (Kd.R_lower ho0 (below_size (by repeat (first | (with_reducible first | exact HB.out | apply below_alloc | apply pw_below_drewN | apply below_drew1) | exact HB.out)))); have n1_ := Aside0.mk (below_step (by repeat (first | (with_reducible first | exact HB.out | apply below_alloc | apply pw_below_drewN | apply below_drew1) | exact HB.out)) hb); clear HB; have HO103 := n0_; have HB := n1_; clear n0_ n1_; (try clear hb); (try clear hb2); (try clear hk); (try clear hi); (try clear ho0)) | ((with_reducible refine gate_dst (N := 12) rfl ?_); refine Kd.R_make (Kd.int .i64) _ 2 rfl (N := 12) rfl 44 _ _ rfl a0 rfl rfl Try.underlying44 (.int .i64 0) 8 info2 rfl (by decide) (by omega) 0 (ok := fun _ => True) (okp := fun _ => True) rfl (fun _ hk => hk) trivial (of_decide_eq_true (by first | (with_reducible assumption) | assumption)) (Nat.le_trans (Nat.mul_le_mul_right _ (of_decide_eq_true (by first | (with_reducible assumption) | assumption) : a0.toNat ≤ 35184372088832)) (by omega)) (Below.refl _ _) (yoy _) ?_; intro v105 w7 ho8 hb hg_ hnew_; clear hg_ hnew_; (first | rw [← Ny104.out] at ho8 | (simp only [Int.reduceToNat] at ho8; rw [← Ny104.out] at ho8)); have n0_ := Aside0.mk (Kd.R_elder' (by (with_reducible repeat (first | apply Kd.R_alloc | apply Kd.R_drewN | apply Kd.R_drew)); exact HO103.out) (Kd.R_base ho8) hb); have n1_ := Aside0.mk (Kd.R_lower (Kd.R_new' ho8 (Kd.R_lt (by (with_reducible repeat (first | apply Kd.R_alloc | apply Kd.R_drewN | apply Kd.R_drew)); exact HO103.out))) (below_size (by repeat (first | (with_reducible first | exact HB.out | apply below_alloc | apply pw_below_drewN | apply below_drew1) | exact HB.out)))); have n2_ := Aside0.mk (below_step (by repeat (first | (with_reducible first | exact HB.out | apply below_alloc | apply pw_below_drewN | apply below_drew1) | exact HB.out)) hb); clear HO103; clear HB; have HO103 := n0_; have HO106 := n1_; have HB := n2_; clear n0_ n1_ n2_; clear hb ho8))
 go_loopg [1, 5] k (fun kq v1 v5 w' => ∃ (x1_1 : Int) (x5_1 : List Int) (x6_1 : List Int), v1 = .int .i64 x1_1 ∧ Aside0 (spec_l16Matching.l0 kq x1_1 x5_1 x6_1 = some r) ∧ Aside0 (kq ≤ k) ∧ Aside0 (Kd.R (Kd.int .i64) 2 w' w.heap.size (fun k_ => some k_ ≠ (v105 : Value).ownBlock) v5 x5_1) ∧ Aside0 (Kd.R (Kd.int .i64) 2 w' w.heap.size (fun k_ => some k_ ≠ (v5 : Value).ownBlock) v105 x6_1) ∧ Aside0 (Below w.heap.size w w'))
 case atStart => exact ⟨(a1), (t101), (y104), (by first | rfl | (simp; done) | (simp [*]; done)), H', ⟨yoy _⟩, ⟨by (with_reducible repeat (first | apply Kd.R_alloc | apply Kd.R_drewN | apply Kd.R_drew)); exact Kd.R_mono HO103.out (fun _ hk => hk.2)⟩, ⟨by (with_reducible repeat (first | apply Kd.R_alloc | apply Kd.R_drewN | apply Kd.R_drew)); exact Kd.R_mono HO106.out (fun _ hk => hk.2)⟩, ⟨by repeat (first | (with_reducible first | exact HB.out | apply below_alloc | apply pw_below_drewN | apply below_drew1) | exact HB.out)⟩⟩
 case round =>
  clear H'
  try clear p2
  try clear c3
  try clear c4
  try clear c4b0
  try clear c4b1
  try clear c5
  try clear c5b0
  try clear c5b1
  try clear c8
  obtain ⟨x1_1, x5_1, x6_1, rfl, HA, HK1, HO_5, HO_6, HB⟩ := hrel
  cases gk with
  | zero => exact absurd HA.out (by simp [spec_l16Matching.l0])
  | succ k1 =>
   have H := HA.out
   clear HA
   simp only [spec_l16Matching.l0] at H
   by_cases c9 : (x5_1.length : Int) > 0
   rotate_left
   next =>
    rw [if_neg c9] at H
    have c9b0 : decide (0 < (x5_1.length : Int)) = false := yhy c9
    have c9b1 : decide (0 < x5_1.length) = false := yhy (by omega)
    clear c9
    obtain rfl := yey H
    obtain ⟨Ao43, co43, eo43⟩ := Kd.R_slice HO_5.out
    subst eo43
    go_wp2
    go_ret
    exact ⟨_, by first | rfl | (simp [errW_none, errW_some] <;> rfl) | (simp [*, errW_none, errW_some] <;> rfl), by (with_reducible repeat (first | apply Kd.R_alloc | apply Kd.R_drewN | apply Kd.R_drew)); exact Kd.R_mono HO_6.out (fun _ hk => trivial), by repeat (first | (with_reducible first | exact HB.out | apply below_alloc | apply pw_below_drewN | apply below_drew1) | exact HB.out)⟩
   rw [if_pos c9] at H
   have c9b0 : decide (0 < (x5_1.length : Int)) = true := ygy c9
   have c9b1 : decide (0 < x5_1.length) = true := ygy (by omega)
   clear c9
   replace H := ydy.mp H
   obtain ⟨t107, A100, H⟩ := H
   replace H : (if t107 = 0 then (none) else (if 0 < (x5_1.length : Int) then (if 0 ≤ (wrap64 (1 + (wrap64 (Int.tdiv x1_1 t107)))) then (if (wrap64 (1 + (wrap64 (Int.tdiv x1_1 t107)))) < (x5_1.length : Int) then (if 0 ≤ (rd x5_1 0) then (if (rd x5_1 0) < (x6_1.length : Int) then (if 0 ≤ (rd x5_1 (wrap64 (1 + (wrap64 (Int.tdiv x1_1 t107))))) then (if (rd x5_1 (wrap64 (1 + (wrap64 (Int.tdiv x1_1 t107))))) < (x6_1.length : Int) then ((some (([] : List Int) : List Int)).bind fun y114 => (if 1 ≤ (wrap64 (1 + (wrap64 (Int.tdiv x1_1 t107)))) then (if (wrap64 (1 + (wrap64 (Int.tdiv x1_1 t107)))) ≤ (x5_1.length : Int) then ((some ((x5_1.take ((wrap64 (1 + (wrap64 (Int.tdiv x1_1 t107)))) : Int).toNat).drop 1 : List Int)).bind fun y117 => (if y114.length + y117.length < 17592186044416 then ((some (y114 ++ y117 : List Int)).bind fun y121 => (if 0 ≤ (wrap64 ((wrap64 (1 + (wrap64 (Int.tdiv x1_1 t107)))) + 1)) then (if (wrap64 ((wrap64 (1 + (wrap64 (Int.tdiv x1_1 t107)))) + 1)) ≤ (x5_1.length : Int) then ((some (x5_1.drop ((wrap64 ((wrap64 (1 + (wrap64 (Int.tdiv x1_1 t107)))) + 1)) : Int).toNat : List Int)).bind fun y124 => (if y121.length + y124.length < 17592186044416 then (spec_l16Matching.l0 k1 (Int.tmod x1_1 t107) (y121 ++ y124) ((x6_1.set ((rd x5_1 0) : Int).toNat (rd x5_1 (wrap64 (1 + (wrap64 (Int.tdiv x1_1 t107)))))).set ((rd x5_1 (wrap64 (1 + (wrap64 (Int.tdiv x1_1 t107))))) : Int).toNat (rd x5_1 0))) else (none))) else (none)) else (none))) else (none))) else (none)) else (none))) else (none)) else (none)) else (none)) else (none)) else (none)) else (none)) else (none))) = some r := H
   have A10 := Aside0.mk A100
   clear A100
   by_cases c11 : t107 = 0
   next =>
    rw [if_pos c11] at H
    exact absurd H (by simp)
   next =>
    rw [if_neg c11] at H
    have c11b0 : (t107 == 0) = false := beq_eq_false_iff_ne.mpr c11
    have c11b1 : (t107 != 0) = true := bne_iff_ne.mpr c11
    by_cases c12 : 0 < (x5_1.length : Int)
    rotate_left
    next =>
     rw [if_neg c12] at H
     exact absurd H (by simp)
    rw [if_pos c12] at H
    have c12b0 : decide (0 < (x5_1.length : Int)) = true := ygy c12
    have c12b1 : decide (0 < x5_1.length) = true := ygy (by omega)
    clear c12
    obtain ⟨ji13, hji13⟩ : ∃ j_ : Int, (wrap64 (1 + (wrap64 (Int.tdiv x1_1 t107)))) = j_ := ⟨_, rfl⟩
    replace H : (if 0 ≤ (ji13) then (if (ji13) < (x5_1.length : Int) then (if 0 ≤ (rd x5_1 0) then (if (rd x5_1 0) < (x6_1.length : Int) then (if 0 ≤ (rd x5_1 (ji13)) then (if (rd x5_1 (ji13)) < (x6_1.length : Int) then ((some (([] : List Int) : List Int)).bind fun y114 => (if 1 ≤ (ji13) then (if (ji13) ≤ (x5_1.length : Int) then ((some ((x5_1.take ((ji13) : Int).toNat).drop 1 : List Int)).bind fun y117 => (if y114.length + y117.length < 17592186044416 then ((some (y114 ++ y117 : List Int)).bind fun y121 => (if 0 ≤ (wrap64 ((ji13) + 1)) then (if (wrap64 ((ji13) + 1)) ≤ (x5_1.length : Int) then ((some (x5_1.drop ((wrap64 ((ji13) + 1)) : Int).toNat : List Int)).bind fun y124 => (if y121.length + y124.length < 17592186044416 then (spec_l16Matching.l0 k1 (Int.tmod x1_1 t107) (y121 ++ y124) ((x6_1.set ((rd x5_1 0) : Int).toNat (rd x5_1 (ji13))).set ((rd x5_1 (ji13)) : Int).toNat (rd x5_1 0))) else (none))) else (none)) else (none))) else (none))) else (none)) else (none))) else (none)) else (none)) else (none)) else (none)) else (none)) else (none)) = some r := by first | (rw [hji13] at H; exact H) | (simp only [hji13] at H ⊢; exact H)
    (try rw [hji13] at A10)
    have hji13w : (IntKind.i64.wrap (1 + (wrap64 (Int.tdiv x1_1 t107)))) = ji13 := (i64_w _).trans hji13
    by_cases c14 : 0 ≤ (ji13)
    rotate_left
    next =>
     rw [if_neg c14] at H
     exact absurd H (by simp)
    rw [if_pos c14] at H
    have c14b0 : decide (0 ≤ (ji13)) = true := ygy c14
    clear c14
    by_cases c15 : (ji13) < (x5_1.length : Int)
    rotate_left
    next =>
     rw [if_neg c15] at H
     exact absurd H (by simp)
    rw [if_pos c15] at H
    have c15b0 : decide ((ji13) < (x5_1.length : Int)) = true := ygy c15
    clear c15
    by_cases c16 : 0 ≤ (rd x5_1 0)
    rotate_left
    next =>
     rw [if_neg c16] at H
     exact absurd H (by simp)
    rw [if_pos c16] at H
    have c16b0 : decide (0 ≤ (rd x5_1 0)) = true := ygy c16
    clear c16
    by_cases c17 : (rd x5_1 0) < (x6_1.length : Int)
    rotate_left
    next =>
     rw [if_neg c17] at H
     exact absurd H (by simp)
    rw [if_pos c17] at H
    have c17b0 : decide ((rd x5_1 0) < (x6_1.length : Int)) = true := ygy c17
    clear c17
    obtain ⟨y110, hy110⟩ : ∃ y_ : List Int, y_ = (x6_1.set ((rd x5_1 0) : Int).toNat (rd x5_1 (ji13))) := ⟨_, rfl⟩
    replace H : (if 0 ≤ (rd x5_1 (ji13)) then (if (rd x5_1 (ji13)) < (x6_1.length : Int) then ((some (([] : List Int) : List Int)).bind fun y114 => (if 1 ≤ (ji13) then (if (ji13) ≤ (x5_1.length : Int) then ((some ((x5_1.take ((ji13) : Int).toNat).drop 1 : List Int)).bind fun y117 => (if y114.length + y117.length < 17592186044416 then ((some (y114 ++ y117 : List Int)).bind fun y121 => (if 0 ≤ (wrap64 ((ji13) + 1)) then (if (wrap64 ((ji13) + 1)) ≤ (x5_1.length : Int) then ((some (x5_1.drop ((wrap64 ((ji13) + 1)) : Int).toNat : List Int)).bind fun y124 => (if y121.length + y124.length < 17592186044416 then (spec_l16Matching.l0 k1 (Int.tmod x1_1 t107) (y121 ++ y124) (y110.set ((rd x5_1 (ji13)) : Int).toNat (rd x5_1 0))) else (none))) else (none)) else (none))) else (none))) else (none)) else (none))) else (none)) else (none)) = some r := by first | (rw [hy110]; with_reducible exact H) | (have H2_ := (yfy _ _).symm.trans H; rw [hy110]; with_reducible exact H2_) | (have H2_ := (yfy _ _).symm.trans H; with_reducible exact H2_) | with_reducible exact H | (rw [hy110]; exact H) | exact H
    have Ny110 := Aside0.mk hy110
    clear hy110
    by_cases c19 : 0 ≤ (rd x5_1 (ji13))
    rotate_left
    next =>
     rw [if_neg c19] at H
     exact absurd H (by simp)
    rw [if_pos c19] at H
    have c19b0 : decide (0 ≤ (rd x5_1 (ji13))) = true := ygy c19
    clear c19
    by_cases c20 : (rd x5_1 (ji13)) < (x6_1.length : Int)
    rotate_left
    next =>
     rw [if_neg c20] at H
     exact absurd H (by simp)
    rw [if_pos c20] at H
    have c20b0 : decide ((rd x5_1 (ji13)) < (x6_1.length : Int)) = true := ygy c20
    clear c20
    obtain ⟨y113, hy113⟩ : ∃ y_ : List Int, y_ = (y110.set ((rd x5_1 (ji13)) : Int).toNat (rd x5_1 0)) := ⟨_, rfl⟩
    replace H : ((some (([] : List Int) : List Int)).bind fun y114 => (if 1 ≤ (ji13) then (if (ji13) ≤ (x5_1.length : Int) then ((some ((x5_1.take ((ji13) : Int).toNat).drop 1 : List Int)).bind fun y117 => (if y114.length + y117.length < 17592186044416 then ((some (y114 ++ y117 : List Int)).bind fun y121 => (if 0 ≤ (wrap64 ((ji13) + 1)) then (if (wrap64 ((ji13) + 1)) ≤ (x5_1.length : Int) then ((some (x5_1.drop ((wrap64 ((ji13) + 1)) : Int).toNat : List Int)).bind fun y124 => (if y121.length + y124.length < 17592186044416 then (spec_l16Matching.l0 k1 (Int.tmod x1_1 t107) (y121 ++ y124) y113) else (none))) else (none)) else (none))) else (none))) else (none)) else (none))) = some r := by first | (rw [hy113]; with_reducible exact H) | (have H2_ := (yfy _ _).symm.trans H; rw [hy113]; with_reducible exact H2_) | (have H2_ := (yfy _ _).symm.trans H; with_reducible exact H2_) | with_reducible exact H | (rw [hy113]; exact H) | exact H
    have Ny113 := Aside0.mk hy113
    clear hy113
    obtain ⟨y114, hy114⟩ : ∃ y_ : List Int, y_ = (([] : List Int)) := ⟨_, rfl⟩
    replace H : (if 1 ≤ (ji13) then (if (ji13) ≤ (x5_1.length : Int) then ((some ((x5_1.take ((ji13) : Int).toNat).drop 1 : List Int)).bind fun y117 => (if y114.length + y117.length < 17592186044416 then ((some (y114 ++ y117 : List Int)).bind fun y121 => (if 0 ≤ (wrap64 ((ji13) + 1)) then (if (wrap64 ((ji13) + 1)) ≤ (x5_1.length : Int) then ((some (x5_1.drop ((wrap64 ((ji13) + 1)) : Int).toNat : List Int)).bind fun y124 => (if y121.length + y124.length < 17592186044416 then (spec_l16Matching.l0 k1 (Int.tmod x1_1 t107) (y121 ++ y124) y113) else (none))) else (none)) else (none))) else (none))) else (none)) else (none)) = some r := by first | (rw [hy114]; with_reducible exact H) | (have H2_ := (yfy _ _).symm.trans H; rw [hy114]; with_reducible exact H2_) | (have H2_ := (yfy _ _).symm.trans H; with_reducible exact H2_) | with_reducible exact H | (rw [hy114]; exact H) | exact H
    have Ny114 := Aside0.mk hy114
    clear hy114
    by_cases c22 : 1 ≤ (ji13)
    rotate_left
    next =>
     rw [if_neg c22] at H
     exact absurd H (by simp)
    rw [if_pos c22] at H
    have c22b0 := eq_true c22
    have c22b1 : decide (1 ≤ (ji13)) = true := ygy c22
    clear c22
    by_cases c23 : (ji13) ≤ (x5_1.length : Int)
    rotate_left
    next =>
     rw [if_neg c23] at H
     exact absurd H (by simp)
    rw [if_pos c23] at H
    have c23b0 := eq_true c23
    have c23b1 : decide ((ji13) ≤ (x5_1.length : Int)) = true := ygy c23
    clear c23
    obtain ⟨y117, hy117⟩ : ∃ y_ : List Int, y_ = ((x5_1.take ((ji13) : Int).toNat).drop 1) := ⟨_, rfl⟩
    replace H : (if y114.length + y117.length < 17592186044416 then ((some (y114 ++ y117 : List Int)).bind fun y121 => (if 0 ≤ (wrap64 ((ji13) + 1)) then (if (wrap64 ((ji13) + 1)) ≤ (x5_1.length : Int) then ((some (x5_1.drop ((wrap64 ((ji13) + 1)) : Int).toNat : List Int)).bind fun y124 => (if y121.length + y124.length < 17592186044416 then (spec_l16Matching.l0 k1 (Int.tmod x1_1 t107) (y121 ++ y124) y113) else (none))) else (none)) else (none))) else (none)) = some r := by first | (rw [hy117]; with_reducible exact H) | (have H2_ := (yfy _ _).symm.trans H; rw [hy117]; with_reducible exact H2_) | (have H2_ := (yfy _ _).symm.trans H; with_reducible exact H2_) | with_reducible exact H | (rw [hy117]; exact H) | exact H
    have Ny117 := Aside0.mk hy117
    clear hy117
    by_cases c24 : y114.length + y117.length < 17592186044416
    rotate_left
    next =>
     rw [if_neg c24] at H
     exact absurd H (by simp)
    rw [if_pos c24] at H
    have LMc24 := Aside0.mk c24
    clear c24
    obtain ⟨y121, hy121⟩ : ∃ y_ : List Int, y_ = (y114 ++ y117) := ⟨_, rfl⟩
    replace H : (if 0 ≤ (wrap64 ((ji13) + 1)) then (if (wrap64 ((ji13) + 1)) ≤ (x5_1.length : Int) then ((some (x5_1.drop ((wrap64 ((ji13) + 1)) : Int).toNat : List Int)).bind fun y124 => (if y121.length + y124.length < 17592186044416 then (spec_l16Matching.l0 k1 (Int.tmod x1_1 t107) (y121 ++ y124) y113) else (none))) else (none)) else (none)) = some r := by first | (rw [hy121]; with_reducible exact H) | (have H2_ := (yfy _ _).symm.trans H; rw [hy121]; with_reducible exact H2_) | (have H2_ := (yfy _ _).symm.trans H; with_reducible exact H2_) | with_reducible exact H | (rw [hy121]; exact H) | exact H
    have Ny121 := Aside0.mk hy121
    clear hy121
    obtain ⟨ji25, hji25⟩ : ∃ j_ : Int, (wrap64 ((ji13) + 1)) = j_ := ⟨_, rfl⟩
    replace H : (if 0 ≤ (ji25) then (if (ji25) ≤ (x5_1.length : Int) then ((some (x5_1.drop ((ji25) : Int).toNat : List Int)).bind fun y124 => (if y121.length + y124.length < 17592186044416 then (spec_l16Matching.l0 k1 (Int.tmod x1_1 t107) (y121 ++ y124) y113) else (none))) else (none)) else (none)) = some r := by first | (rw [hji25] at H; exact H) | (simp only [hji25] at H ⊢; exact H)
    (try rw [hji25] at A10)
    have hji25w : (IntKind.i64.wrap ((ji13) + 1)) = ji25 := (i64_w _).trans hji25
    by_cases c26 : 0 ≤ (ji25)
    rotate_left
    next =>
     rw [if_neg c26] at H
     exact absurd H (by simp)
    rw [if_pos c26] at H
    have c26b0 := eq_true c26
    have c26b1 : decide (0 ≤ (ji25)) = true := ygy c26
    clear c26
    by_cases c27 : (ji25) ≤ (x5_1.length : Int)
    rotate_left
    next =>
     rw [if_neg c27] at H
     exact absurd H (by simp)
    rw [if_pos c27] at H
    have c27b0 := eq_true c27
    have c27b1 : decide ((ji25) ≤ (x5_1.length : Int)) = true := ygy c27
    clear c27
    obtain ⟨y124, hy124⟩ : ∃ y_ : List Int, y_ = (x5_1.drop ((ji25) : Int).toNat) := ⟨_, rfl⟩
    replace H : (if y121.length + y124.length < 17592186044416 then (spec_l16Matching.l0 k1 (Int.tmod x1_1 t107) (y121 ++ y124) y113) else (none)) = some r := by first | (rw [hy124]; with_reducible exact H) | (have H2_ := (yfy _ _).symm.trans H; rw [hy124]; with_reducible exact H2_) | (have H2_ := (yfy _ _).symm.trans H; with_reducible exact H2_) | with_reducible exact H | (rw [hy124]; exact H) | exact H
    have Ny124 := Aside0.mk hy124
    clear hy124
    by_cases c28 : y121.length + y124.length < 17592186044416
    rotate_left
    next =>
     rw [if_neg c28] at H
     exact absurd H (by simp)
    rw [if_pos c28] at H
    have LMc28 := Aside0.mk c28
    clear c28
    obtain ⟨y128, hy128⟩ : ∃ y_ : List Int, y_ = (y121 ++ y124) := ⟨_, rfl⟩
    replace H : (spec_l16Matching.l0 k1 (Int.tmod x1_1 t107) y128 y113) = some r := by first | (rw [hy128]; with_reducible exact H) | (have H2_ := (yfy _ _).symm.trans H; rw [hy128]; with_reducible exact H2_) | (have H2_ := (yfy _ _).symm.trans H; with_reducible exact H2_) | with_reducible exact H | (rw [hy128]; exact H) | exact H
    have Ny128 := Aside0.mk hy128
    clear hy128
    have H' := Aside0.mk H
    clear H
    obtain ⟨Ao29, co29, eo29⟩ := Kd.R_slice HO_5.out
    subst eo29
    try go_wp2_with (first | ((with_reducible refine gate_callee (f := 37) rfl ?_); refine goesL_ (some 19) rfl rfl Try.func37 (by kernel_rfl) rfl #[.int .i64 (wrap64 ((x5_1.length : Int) - 2))] rfl (by (try simp only [yiy, yjy, yky]); first | done | rfl | (simp only [yly, ymy]; rfl)) ?_; (with_reducible refine (spec_l16Matchings.calls k1 (wrap64 ((x5_1.length : Int) - 2)) t107 _ A10.out).mono ?_); rintro e w' ⟨rfl, ⟨nd, rfl⟩⟩; refine ⟨_, rfl, ?_⟩; (try (rw [drewN_self wr]; generalize hq_ : World.drewN wr _ = wr; have n0_ : Aside0 (Kd.R (Kd.int .i64) 2 wr w.heap.size (fun k_ => some k_ ≠ (v105 : Value).ownBlock) (.slice Ao29 x5_1.length co29) x5_1) := ⟨by rw [← hq_]; exact (by (with_reducible repeat (first | apply Kd.R_alloc | apply Kd.R_drewN | apply Kd.R_drew)); exact HO_5.out)⟩; have n1_ : Aside0 (Kd.R (Kd.int .i64) 2 wr w.heap.size (fun k_ => some k_ ≠ (.slice Ao29 x5_1.length co29 : Value).ownBlock) v105 x6_1) := ⟨by rw [← hq_]; exact (by (with_reducible repeat (first | apply Kd.R_alloc | apply Kd.R_drewN | apply Kd.R_drew)); exact HO_6.out)⟩; have n2_ : Aside0 (Below w.heap.size w wr) := ⟨by rw [← hq_]; exact (by repeat (first | (with_reducible first | exact HB.out | apply below_alloc | apply pw_below_drewN | apply below_drew1) | exact HB.out))⟩; clear HO_5 HO_6 HB hq_; have HO_5 := n0_; have HO_6 := n1_; have HB := n2_; clear n0_ n1_ n2_))))
    have n0_ := Aside0.mk (Kd.R_drew HO_5.out)
    have n1_ := Aside0.mk (Kd.R_drew HO_6.out)
    have n2_ := Aside0.mk (below_drew1 HB.out)
    clear HO_5
    clear HO_6
    clear HB
    have HO_5 := n0_
    have HO_6 := n1_
    have HB := n2_
    clear n0_ n1_ n2_
    have p108 : 0 ≤ (0 : Int) := (by omega)
    have q108 : 0 < (x5_1.length : Int) := of_decide_eq_true (by first | (with_reducible assumption) | assumption)
    obtain ⟨ad108, e108, hx108_0⟩ := Kd.at_int (Kd.R_reads' HO_5.out).2.2 0 p108 q108
    cases e108
    have qi108 : (0 < x5_1.length) = True := eq_true (by omega)
    (try rw [show ((0 : Int)).toNat = 0 from rfl] at hx108_0)
    (try rw [Addr.add_zero'] at hx108_0)
    replace p108 := eq_true p108
    replace q108 := eq_true q108
    have p109 : 0 ≤ ((ji13) : Int) := of_decide_eq_true (by first | (with_reducible assumption) | assumption)
    have q109 : (ji13) < (x5_1.length : Int) := of_decide_eq_true (by first | (with_reducible assumption) | assumption)
    obtain ⟨ad109, e109, hx109_0⟩ := Kd.at_int (Kd.R_reads' HO_5.out).2.2 (ji13) p109 q109
    obtain rfl : ad108 = ad109 := (by injection e109)
    replace p109 := eq_true p109
    replace q109 := eq_true q109
    have p18 : 0 ≤ ((rd x5_1 0) : Int) := of_decide_eq_true (by first | (with_reducible assumption) | assumption)
    have q18 : ((rd x5_1 0) : Int) < ((x6_1.length : Int) : Int) := of_decide_eq_true (by first | (with_reducible assumption) | assumption)
    obtain ⟨go18, co18, eo18, gb18, gl18, cl18, HG18⟩ := Kd.R_form HO_6.out (by omega)
    (first | cases eo18 | (injection eo18 with ea_ en_ ec_; (first | subst ea_ | (injection ea_ with ea_; subst ea_)); subst ec_; clear en_))
    have GB18 := Aside0.mk gb18
    have GG18 := Aside0.mk HG18
    clear gb18 gl18 HG18
    obtain ⟨hx18_0, hf18_0⟩ := Kd.R_celln 0 HO_6.out ((rd x5_1 0) : Int) p18 q18
    replace p18 := eq_true p18
    replace q18 := eq_true q18
    have HP31 := Kd.R_putn HO_6.out ((rd x5_1 0) : Int) (rd x5_1 (ji13))
    rw [← Ny110.out] at HP31
    have HQ31 := Aside0.mk HP31
    clear HP31
    refine start_ (n := 10) (S := fun w' => w'.cell? ad108 = some (.int .i64 (rd x5_1 0)) ∧ w'.cell? (ad108.add ((ji13)).toNat) = some (.int .i64 (rd x5_1 (ji13)))) (ds := [9]) #[false, false, false, false, false, false, false, false, false, false] (by kernel_rfl) rfl rfl ⟨hx108_0, hx109_0⟩ (fun hHeld => ?_); refine with_tabW spec_l16Matching.tab7 spec_l16Matching.bits7 (fun HT_ HW_ => ?_)
    generalize wr.drew = w30 at HO_5 HO_6 HB GG18 HQ31 hf18_0 hx108_0 hx109_0 hx18_0 hHeld ⊢
    refine pure_ (i := 0) (N := some 27) (v := ?_) (a' := ?_) #[true, false, false, false, false, false, false, false, false, false] rfl rfl (any_of HT_.out (by kernel_rfl)) (fun _ _ _ h => h) (Or.inl ⟨by rfl, ?_⟩) ?_ ?_
    rotate_left
    next =>
     intro w'
     go_simp
     with_reducible rfl
    rotate_left
    next =>
     simp only [Act.put, yay, yby, ycy, i64_w, i32_w]
     rfl
    refine pure_ (i := 1) (N := some 28) (v := ?_) (a' := ?_) #[true, true, false, false, false, false, false, false, false, false] rfl rfl (any_of HT_.out (by kernel_rfl)) (fun _ _ _ h => h) (Or.inl ⟨by rfl, ?_⟩) ?_ ?_
    rotate_left
    next =>
     intro w'
     go_simp
     with_reducible rfl
    rotate_left
    next =>
     simp only [Act.put, yay, yby, ycy, i64_w, i32_w]
     rfl
    refine pure_ (i := 2) (N := some 29) (v := ?_) (a' := ?_) #[true, true, true, false, false, false, false, false, false, false] rfl rfl (any_of HT_.out (by kernel_rfl)) (fun _ _ _ h => h) (Or.inl ⟨by rfl, ?_⟩) ?_ ?_
    rotate_left
    next =>
     intro w'
     go_simp
     with_reducible rfl
    rotate_left
    next =>
     simp only [Act.put, yay, yby, ycy, i64_w, i32_w]
     rfl
    refine pure_ (i := 4) (N := some 31) (v := ?_) (a' := ?_) #[true, true, true, false, true, false, false, false, false, false] rfl rfl (any_of HT_.out (by kernel_rfl)) (fun _ _ _ h => h) (Or.inl ⟨by rfl, ?_⟩) ?_ ?_
    rotate_left
    next =>
     intro w'
     go_simp
     with_reducible rfl
    rotate_left
    next =>
     simp only [Act.put, yay, yby, ycy, i64_w, i32_w]
     rfl
    refine pure_ (i := 5) (N := some 32) (v := ?_) (a' := ?_) #[true, true, true, false, true, true, false, false, false, false] rfl rfl (any_of HT_.out (by kernel_rfl)) (fun _ _ _ h => h) (Or.inl ⟨by rfl, ?_⟩) ?_ ?_
    rotate_left
    next =>
     intro w'
     go_simp
     with_reducible rfl
    rotate_left
    next =>
     simp only [Act.put, yay, yby, ycy, i64_w, i32_w]
     rfl
    refine pure_ (i := 6) (N := some 33) (v := ?_) (a' := ?_) #[true, true, true, false, true, true, true, false, false, false] rfl rfl (any_of HT_.out (by kernel_rfl)) (fun _ _ _ h => h) (Or.inl ⟨by rfl, ?_⟩) ?_ ?_
    rotate_left
    next =>
     intro w'
     go_simp
     with_reducible rfl
    rotate_left
    next =>
     simp only [Act.put, yay, yby, ycy, i64_w, i32_w]
     rfl
    refine take_ (i := 3) (N := some 30) (v := ?_) (a' := ?_) #[true, true, true, true, true, true, true, false, false, false] rfl rfl (take_ofW HT_.out HW_.out (by kernel_rfl)) (fun _ _ _ h => h) (Or.inl ⟨by rfl, ?_⟩) hHeld ?_ ?_
    rotate_left
    next =>
     rintro w' ⟨s0, s1⟩
     go_simp
     with_reducible rfl
    rotate_left
    next =>
     simp only [Act.put, yay, yby, ycy, i64_w, i32_w]
     rfl
    refine take_ (i := 7) (N := some 34) (v := ?_) (a' := ?_) #[true, true, true, true, true, true, true, true, false, false] rfl rfl (take_ofW HT_.out HW_.out (by kernel_rfl)) (fun _ _ _ h => h) (Or.inl ⟨by rfl, ?_⟩) hHeld ?_ ?_
    rotate_left
    next =>
     rintro w' ⟨s0, s1⟩
     go_simp
     with_reducible rfl
    rotate_left
    next =>
     simp only [Act.put, yay, yby, ycy, i64_w, i32_w]
     rfl
    refine pure_ (i := 8) (N := some 35) (v := ?_) (a' := ?_) #[true, true, true, true, true, true, true, true, true, false] rfl rfl (any_of HT_.out (by kernel_rfl)) (fun _ _ _ h => h) (Or.inl ⟨by rfl, ?_⟩) ?_ ?_
    rotate_left
    next =>
     intro w'
     go_simp
     with_reducible rfl
    rotate_left
    next =>
     simp only [Act.put, yay, yby, ycy, i64_w, i32_w]
     rfl
    refine last_ (i := 9) (N := none) #[true, true, true, true, true, true, true, true, true, true] rfl rfl (one_of HT_.out (by kernel_rfl)) (by decide) (fun K hK => ?_)
    refine skip_ (w1 := ?_) (by rfl) rfl ?_ ?_
    rotate_left
    next =>
     go_simp
     rfl
    refine hK.out _ _ ?_
    clear hK K
    refine done_ (done_of HT_.out (by kernel_rfl)) ?_
    try go_wp2
    have n0_ : Aside0 (Kd.R (Kd.int .i64) 2 (w30.setCell ⟨go18, ((rd x5_1 0) : Int).toNat, none⟩ (.int .i64 (rd x5_1 (ji13)))) w.heap.size (fun k_ => some k_ ≠ (.slice (some ⟨go18, 0, none⟩) x6_1.length co18 : Value).ownBlock) (.slice (some ad108) x5_1.length co29) x5_1) := ⟨by (with_reducible repeat (first | apply Kd.R_alloc | apply Kd.R_drewN | apply Kd.R_drew)); exact Kd.R_mono (Kd.R_far (p := ⟨go18, ((rd x5_1 0) : Int).toNat, none⟩) (Kd.R_mono HO_5.out (fun k_ hk => (⟨hk, fun e_ => hk (by rw [e_]; rfl)⟩ : _ ∧ k_ ≠ go18))) (fun _ hk => hk.2) (.int .i64 (rd x5_1 (ji13)))) (fun _ hk => hk.1)⟩
    have n1_ : Aside0 (Kd.R (Kd.int .i64) 2 (w30.setCell ⟨go18, ((rd x5_1 0) : Int).toNat, none⟩ (.int .i64 (rd x5_1 (ji13)))) w.heap.size (fun k_ => some k_ ≠ (.slice (some ad108) x5_1.length co29 : Value).ownBlock) (.slice (some ⟨go18, 0, none⟩) x6_1.length co18) y110) := ⟨by (with_reducible repeat (first | apply Kd.R_alloc | apply Kd.R_drewN | apply Kd.R_drew)); exact HQ31.out⟩
    have n2_ : Aside0 (Below w.heap.size w (w30.setCell ⟨go18, ((rd x5_1 0) : Int).toNat, none⟩ (.int .i64 (rd x5_1 (ji13))))) := ⟨by repeat (first | (with_reducible first | exact HB.out | apply below_alloc | apply pw_below_drewN | apply below_drew1 | refine below_set ?_ GB18.out) | exact HB.out)⟩
    (try clear HO_5)
    (try clear HO_6)
    (try clear HB)
    generalize (w30.setCell ⟨go18, ((rd x5_1 0) : Int).toNat, none⟩ (.int .i64 (rd x5_1 (ji13)))) = w32 at n0_ n1_ n2_ ⊢
    have HO_5 := n0_
    have HO_6 := n1_
    have HB := n2_
    clear n0_ n1_ n2_
    have n0_ := Aside0.mk (Kd.R_drew HO_5.out)
    have n1_ := Aside0.mk (Kd.R_drew HO_6.out)
    have n2_ := Aside0.mk (below_drew1 HB.out)
    clear HO_5
    clear HO_6
    clear HB
    have HO_5 := n0_
    have HO_6 := n1_
    have HB := n2_
    clear n0_ n1_ n2_
    have p111 : 0 ≤ ((ji13) : Int) := of_decide_eq_true (by first | (with_reducible assumption) | assumption)
    have q111 : (ji13) < (x5_1.length : Int) := of_decide_eq_true (by first | (with_reducible assumption) | assumption)
    obtain ⟨ad111, e111, hx111_0⟩ := Kd.at_int (Kd.R_reads' HO_5.out).2.2 (ji13) p111 q111
    obtain rfl : ad108 = ad111 := (by injection e111)
    replace p111 := eq_true p111
    replace q111 := eq_true q111
    have p112 : 0 ≤ (0 : Int) := (by omega)
    have q112 : 0 < (x5_1.length : Int) := of_decide_eq_true (by first | (with_reducible assumption) | assumption)
    obtain ⟨ad112, e112, hx112_0⟩ := Kd.at_int (Kd.R_reads' HO_5.out).2.2 0 p112 q112
    obtain rfl : ad108 = ad112 := (by injection e112)
    have qi112 : (0 < x5_1.length) = True := eq_true (by omega)
    (try rw [show ((0 : Int)).toNat = 0 from rfl] at hx112_0)
    (try rw [Addr.add_zero'] at hx112_0)
    replace p112 := eq_true p112
    replace q112 := eq_true q112
    have p21 : 0 ≤ ((rd x5_1 (ji13)) : Int) := of_decide_eq_true (by first | (with_reducible assumption) | assumption)
    have q21 : ((rd x5_1 (ji13)) : Int) < ((x6_1.length : Int) : Int) := of_decide_eq_true (by first | (with_reducible assumption) | assumption)
    obtain ⟨hx21_0, hf21_0⟩ := Kd.R_celln 0 HO_6.out ((rd x5_1 (ji13)) : Int) p21 q21
    replace p21 := eq_true p21
    replace q21 := eq_true q21
    have HP34 := Kd.R_putn HO_6.out ((rd x5_1 (ji13)) : Int) (rd x5_1 0)
    rw [← Ny113.out] at HP34
    have HQ34 := Aside0.mk HP34
    clear HP34
    refine start_ (n := 10) (S := fun w' => w'.cell? (ad108.add ((ji13)).toNat) = some (.int .i64 (rd x5_1 (ji13))) ∧ w'.cell? ad108 = some (.int .i64 (rd x5_1 0))) (ds := [9]) #[false, false, false, false, false, false, false, false, false, false] (by kernel_rfl) rfl rfl ⟨hx111_0, hx112_0⟩ (fun hHeld => ?_); refine with_tabW spec_l16Matching.tab8 spec_l16Matching.bits8 (fun HT_ HW_ => ?_)
    generalize w32.drew = w33 at HO_5 HO_6 HB HQ31 HQ34 hf21_0 hx111_0 hx112_0 hx21_0 hHeld ⊢
    refine pure_ (i := 0) (N := some 36) (v := ?_) (a' := ?_) #[true, false, false, false, false, false, false, false, false, false] rfl rfl (any_of HT_.out (by kernel_rfl)) (fun _ _ _ h => h) (Or.inl ⟨by rfl, ?_⟩) ?_ ?_
    rotate_left
    next =>
     intro w'
     go_simp
     with_reducible rfl
    rotate_left
    next =>
     simp only [Act.put, yay, yby, ycy, i64_w, i32_w]
     rfl
    refine pure_ (i := 1) (N := some 37) (v := ?_) (a' := ?_) #[true, true, false, false, false, false, false, false, false, false] rfl rfl (any_of HT_.out (by kernel_rfl)) (fun _ _ _ h => h) (Or.inl ⟨by rfl, ?_⟩) ?_ ?_
    rotate_left
    next =>
     intro w'
     go_simp
     with_reducible rfl
    rotate_left
    next =>
     simp only [Act.put, yay, yby, ycy, i64_w, i32_w]
     rfl
    refine pure_ (i := 2) (N := some 38) (v := ?_) (a' := ?_) #[true, true, true, false, false, false, false, false, false, false] rfl rfl (any_of HT_.out (by kernel_rfl)) (fun _ _ _ h => h) (Or.inl ⟨by rfl, ?_⟩) ?_ ?_
    rotate_left
    next =>
     intro w'
     go_simp
     with_reducible rfl
    rotate_left
    next =>
     simp only [Act.put, yay, yby, ycy, i64_w, i32_w]
     rfl
    refine pure_ (i := 3) (N := some 39) (v := ?_) (a' := ?_) #[true, true, true, true, false, false, false, false, false, false] rfl rfl (any_of HT_.out (by kernel_rfl)) (fun _ _ _ h => h) (Or.inl ⟨by rfl, ?_⟩) ?_ ?_
    rotate_left
    next =>
     intro w'
     go_simp
     with_reducible rfl
    rotate_left
    next =>
     simp only [Act.put, yay, yby, ycy, i64_w, i32_w]
     rfl
    refine pure_ (i := 5) (N := some 41) (v := ?_) (a' := ?_) #[true, true, true, true, false, true, false, false, false, false] rfl rfl (any_of HT_.out (by kernel_rfl)) (fun _ _ _ h => h) (Or.inl ⟨by rfl, ?_⟩) ?_ ?_
    rotate_left
    next =>
     intro w'
     go_simp
     with_reducible rfl
    rotate_left
    next =>
     simp only [Act.put, yay, yby, ycy, i64_w, i32_w]
     rfl
    refine pure_ (i := 6) (N := some 42) (v := ?_) (a' := ?_) #[true, true, true, true, false, true, true, false, false, false] rfl rfl (any_of HT_.out (by kernel_rfl)) (fun _ _ _ h => h) (Or.inl ⟨by rfl, ?_⟩) ?_ ?_
    rotate_left
    next =>
     intro w'
     go_simp
     with_reducible rfl
    rotate_left
    next =>
     simp only [Act.put, yay, yby, ycy, i64_w, i32_w]
     rfl
    refine take_ (i := 4) (N := some 40) (v := ?_) (a' := ?_) #[true, true, true, true, true, true, true, false, false, false] rfl rfl (take_ofW HT_.out HW_.out (by kernel_rfl)) (fun _ _ _ h => h) (Or.inl ⟨by rfl, ?_⟩) hHeld ?_ ?_
    rotate_left
    next =>
     rintro w' ⟨s0, s1⟩
     go_simp
     with_reducible rfl
    rotate_left
    next =>
     simp only [Act.put, yay, yby, ycy, i64_w, i32_w]
     rfl
    refine take_ (i := 7) (N := some 43) (v := ?_) (a' := ?_) #[true, true, true, true, true, true, true, true, false, false] rfl rfl (take_ofW HT_.out HW_.out (by kernel_rfl)) (fun _ _ _ h => h) (Or.inl ⟨by rfl, ?_⟩) hHeld ?_ ?_
    rotate_left
    next =>
     rintro w' ⟨s0, s1⟩
     go_simp
     with_reducible rfl
    rotate_left
    next =>
     simp only [Act.put, yay, yby, ycy, i64_w, i32_w]
     rfl
    refine pure_ (i := 8) (N := some 44) (v := ?_) (a' := ?_) #[true, true, true, true, true, true, true, true, true, false] rfl rfl (any_of HT_.out (by kernel_rfl)) (fun _ _ _ h => h) (Or.inl ⟨by rfl, ?_⟩) ?_ ?_
    rotate_left
    next =>
     intro w'
     go_simp
     with_reducible rfl
    rotate_left
    next =>
     simp only [Act.put, yay, yby, ycy, i64_w, i32_w]
     rfl
    refine last_ (i := 9) (N := none) #[true, true, true, true, true, true, true, true, true, true] rfl rfl (one_of HT_.out (by kernel_rfl)) (by decide) (fun K hK => ?_)
    refine skip_ (w1 := ?_) (by rfl) rfl ?_ ?_
    rotate_left
    next =>
     go_simp
     rfl
    refine hK.out _ _ ?_
    clear hK K
    refine done_ (done_of HT_.out (by kernel_rfl)) ?_
    try go_wp2
    have n0_ : Aside0 (Kd.R (Kd.int .i64) 2 (w33.setCell ⟨go18, ((rd x5_1 (ji13)) : Int).toNat, none⟩ (.int .i64 (rd x5_1 0))) w.heap.size (fun k_ => some k_ ≠ (.slice (some ⟨go18, 0, none⟩) x6_1.length co18 : Value).ownBlock) (.slice (some ad108) x5_1.length co29) x5_1) := ⟨by (with_reducible repeat (first | apply Kd.R_alloc | apply Kd.R_drewN | apply Kd.R_drew)); exact Kd.R_mono (Kd.R_far (p := ⟨go18, ((rd x5_1 (ji13)) : Int).toNat, none⟩) (Kd.R_mono HO_5.out (fun k_ hk => (⟨hk, fun e_ => hk (by rw [e_]; rfl)⟩ : _ ∧ k_ ≠ go18))) (fun _ hk => hk.2) (.int .i64 (rd x5_1 0))) (fun _ hk => hk.1)⟩
    have n1_ : Aside0 (Kd.R (Kd.int .i64) 2 (w33.setCell ⟨go18, ((rd x5_1 (ji13)) : Int).toNat, none⟩ (.int .i64 (rd x5_1 0))) w.heap.size (fun k_ => some k_ ≠ (.slice (some ad108) x5_1.length co29 : Value).ownBlock) (.slice (some ⟨go18, 0, none⟩) x6_1.length co18) y113) := ⟨by (with_reducible repeat (first | apply Kd.R_alloc | apply Kd.R_drewN | apply Kd.R_drew)); exact HQ34.out⟩
    have n2_ : Aside0 (Below w.heap.size w (w33.setCell ⟨go18, ((rd x5_1 (ji13)) : Int).toNat, none⟩ (.int .i64 (rd x5_1 0)))) := ⟨by repeat (first | (with_reducible first | exact HB.out | apply below_alloc | apply pw_below_drewN | apply below_drew1 | refine below_set ?_ GB18.out) | exact HB.out)⟩
    (try clear HO_5)
    (try clear HO_6)
    (try clear HB)
    generalize (w33.setCell ⟨go18, ((rd x5_1 (ji13)) : Int).toNat, none⟩ (.int .i64 (rd x5_1 0))) = w35 at n0_ n1_ n2_ ⊢
    have HO_5 := n0_
    have HO_6 := n1_
    have HB := n2_
    clear n0_ n1_ n2_
    have n0_ := Aside0.mk (Kd.R_drew HO_5.out)
    have n1_ := Aside0.mk (Kd.R_drew HO_6.out)
    have n2_ := Aside0.mk (below_drew1 HB.out)
    clear HO_5
    clear HO_6
    clear HB
    have HO_5 := n0_
    have HO_6 := n1_
    have HB := n2_
    clear n0_ n1_ n2_
    have q37 : ((ji13) : Int) ≤ ((x5_1.length : Int) : Int) := of_decide_eq_true (by first | (with_reducible assumption) | assumption)
    obtain ⟨i037, hi037, _, hsz37, _⟩ := info_parts info2
    have hroom37 : x5_1.length ≤ co29 := (Kd.R_reads' HO_5.out).2.1
    have hC37 : Kd.C (Kd.int .i64) _ (some ad108) x5_1.length x5_1 := (Kd.R_reads' HO_5.out).2.2
    have ql37 : (1 : Int) ≤ ((ji13) : Int) := of_decide_eq_true (by first | (with_reducible assumption) | assumption)
    have hcut37 := cut_mid (P := Try.prog) 44 2 .i64 .i64 Try.underlying44 hi037 1 hsz37 (some ad108) x5_1.length co29 1 (ji13) (by omega) ql37 q37 hroom37
    have hr37 := Kd.C_mid (lo := (1 : Int).toNat) (hi := ((ji13) : Int).toNat) (c := co29) hC37 (by omega) (by omega) hroom37
    obtain ⟨A37, hA37⟩ : ∃ A1, A1 = (if co29 = (1 : Int).toNat then (some ad108) else ((some ad108) : Option Addr).map (·.add ((1 : Int).toNat * 1))) := ⟨_, rfl⟩
    obtain ⟨c37, hc37⟩ : ∃ c1, c1 = co29 - (1 : Int).toNat := ⟨_, rfl⟩
    have hy37 : y117.length = ((ji13) : Int).toNat - (1 : Int).toNat := (by rw [Ny117.out, yly, ymy] <;> omega)
    rw [show ((x5_1).take ((ji13) : Int).toNat).drop (1 : Int).toNat = y117 from Ny117.out.symm] at hr37
    replace hr37 : Kd.C (Kd.int .i64) _ A37 y117.length y117 := (by rw [hA37]; exact hr37)
    rw [← hy37, ← hA37, ← hc37] at hcut37
    have HR120 := Aside0.mk hr37
    have HC120 := Aside0.mk (show y117.length ≤ c37 from by rw [hy37, hc37]; exact Nat.sub_le_sub_right (Nat.le_trans (by omega) hroom37) _)
    clear hr37 hC37 hroom37 hi037 hsz37 hc37
    have KY37 := Aside0.mk hy37
    have KA37 := Aside0.mk hA37
    clear hy37 hA37
    have KL37 := Aside0.mk (show ((ji13) : Int).toNat ≤ x5_1.length from by omega)
    have KM37 := Aside0.mk (show 1 ≤ ((ji13) : Int).toNat from by omega)
    replace q37 := eq_true q37
    have q38 : ((ji25) : Int) ≤ ((x5_1.length : Int) : Int) := of_decide_eq_true (by first | (with_reducible assumption) | assumption)
    obtain ⟨i038, hi038, _, hsz38, _⟩ := info_parts info2
    have hroom38 : x5_1.length ≤ co29 := (Kd.R_reads' HO_5.out).2.1
    have hC38 : Kd.C (Kd.int .i64) _ (some ad108) x5_1.length x5_1 := (Kd.R_reads' HO_5.out).2.2
    have q038 : (0 : Int) ≤ ((ji25) : Int) := of_decide_eq_true (by first | (with_reducible assumption) | assumption)
    have hcut38 := cut_from (P := Try.prog) 44 2 .i64 Try.underlying44 hi038 1 hsz38 (some ad108) x5_1.length co29 (ji25) q038 q38
    have hr38 := Kd.C_drop (m := ((ji25) : Int).toNat) (c := co29) hC38 (by omega) hroom38
    obtain ⟨A38, hA38⟩ : ∃ A1, A1 = (if co29 = ((ji25) : Int).toNat then (some ad108) else ((some ad108) : Option Addr).map (·.add (((ji25) : Int).toNat * 1))) := ⟨_, rfl⟩
    obtain ⟨c38, hc38⟩ : ∃ c1, c1 = co29 - ((ji25) : Int).toNat := ⟨_, rfl⟩
    have hy38 : y124.length = x5_1.length - ((ji25) : Int).toNat := (by rw [Ny124.out, yly] <;> omega)
    rw [show (x5_1).drop ((ji25) : Int).toNat = y124 from Ny124.out.symm] at hr38
    replace hr38 : Kd.C (Kd.int .i64) _ A38 y124.length y124 := (by rw [hA38]; exact hr38)
    rw [← hy38, ← hA38, ← hc38] at hcut38
    have HR127 := Aside0.mk hr38
    have HC127 := Aside0.mk (show y124.length ≤ c38 from by rw [hy38, hc38]; exact Nat.sub_le_sub_right hroom38 _)
    clear hr38 hC38 hroom38 hi038 hsz38 hc38
    have KY38 := Aside0.mk hy38
    have KA38 := Aside0.mk hA38
    clear hy38 hA38
    have KL38 := Aside0.mk (show ((ji25) : Int).toNat ≤ x5_1.length from by omega)
    replace q38 := eq_true q38
    refine start_ (n := 11) (S := fun w' => True) (ds := []) #[false, false, false, false, false, false, false, false, false, false, false] (by kernel_rfl) rfl rfl trivial (fun hHeld => ?_); refine with_tabW spec_l16Matching.tab9 spec_l16Matching.bits9 (fun HT_ HW_ => ?_)
    generalize w35.drew = w36 at HO_5 HO_6 HB HQ34 HR120 HR127 hHeld ⊢
    refine pure_ (i := 1) (N := some 46) (v := ?_) (a' := ?_) #[false, true, false, false, false, false, false, false, false, false, false] rfl rfl (any_of HT_.out (by kernel_rfl)) (fun _ _ _ h => h) (Or.inl ⟨by rfl, ?_⟩) ?_ ?_
    rotate_left
    next =>
     intro w'
     go_simp
     with_reducible rfl
    rotate_left
    next =>
     simp only [Act.put, yay, yby, ycy, i64_w, i32_w]
     rfl
    refine pure_ (i := 2) (N := some 47) (v := ?_) (a' := ?_) #[false, true, true, false, false, false, false, false, false, false, false] rfl rfl (any_of HT_.out (by kernel_rfl)) (fun _ _ _ h => h) (Or.inl ⟨by rfl, ?_⟩) ?_ ?_
    rotate_left
    next =>
     intro w'
     go_simp
     with_reducible rfl
    rotate_left
    next =>
     simp only [Act.put, yay, yby, ycy, i64_w, i32_w]
     rfl
    refine pure_ (i := 3) (N := some 48) (v := ?_) (a' := ?_) #[false, true, true, true, false, false, false, false, false, false, false] rfl rfl (any_of HT_.out (by kernel_rfl)) (fun _ _ _ h => h) (Or.inl ⟨by rfl, ?_⟩) ?_ ?_
    rotate_left
    next =>
     intro w'
     go_simp
     with_reducible rfl
    rotate_left
    next =>
     simp only [Act.put, yay, yby, ycy, i64_w, i32_w]
     rfl
    refine pure_ (i := 5) (N := some 50) (v := ?_) (a' := ?_) #[false, true, true, true, false, true, false, false, false, false, false] rfl rfl (any_of HT_.out (by kernel_rfl)) (fun _ _ _ h => h) (Or.inl ⟨by rfl, ?_⟩) ?_ ?_
    rotate_left
    next =>
     intro w'
     go_simp
     with_reducible rfl
    rotate_left
    next =>
     simp only [Act.put, yay, yby, ycy, i64_w, i32_w]
     rfl
    refine pure_ (i := 6) (N := some 51) (v := ?_) (a' := ?_) #[false, true, true, true, false, true, true, false, false, false, false] rfl rfl (any_of HT_.out (by kernel_rfl)) (fun _ _ _ h => h) (Or.inl ⟨by rfl, ?_⟩) ?_ ?_
    rotate_left
    next =>
     intro w'
     go_simp
     with_reducible rfl
    rotate_left
    next =>
     simp only [Act.put, yay, yby, ycy, i64_w, i32_w]
     rfl
    refine pure_ (i := 7) (N := some 52) (v := ?_) (a' := ?_) #[false, true, true, true, false, true, true, true, false, false, false] rfl rfl (any_of HT_.out (by kernel_rfl)) (fun _ _ _ h => h) (Or.inl ⟨by rfl, ?_⟩) ?_ ?_
    rotate_left
    next =>
     intro w'
     go_simp
     with_reducible rfl
    rotate_left
    next =>
     simp only [Act.put, yay, yby, ycy, i64_w, i32_w]
     rfl
    refine pure_ (i := 8) (N := some 53) (v := ?_) (a' := ?_) #[false, true, true, true, false, true, true, true, true, false, false] rfl rfl (any_of HT_.out (by kernel_rfl)) (fun _ _ _ h => h) (Or.inl ⟨by rfl, ?_⟩) ?_ ?_
    rotate_left
    next =>
     intro w'
     go_simp
     with_reducible rfl
    rotate_left
    next =>
     simp only [Act.put, yay, yby, ycy, i64_w, i32_w]
     rfl
    refine one_ (i := 0) (N := some 45) #[true, true, true, true, false, true, true, true, true, false, false] rfl rfl (one_of HT_.out (by kernel_rfl)) (by decide) (fun K hK => ?_)
    refine Kd.R_lit_step (Kd.int .i64) _ 2 ?hg (N := 45) ?hd (xs := ([] : List Int)) (inner := []) (ok := fun _ => True) (okp := fun _ => True) ?hr ?hp (fun _ hk => hk) trivial (Below.refl _ _) (yoy _) (by simp) ?_; (case hd => rfl); (case hg => rfl); (case hr => first | (go_simp; done) | (go_simp; rfl)); (case hp => exact (Reps.none _ _))
    intro v115 w39 ho40 hb hg_ hnew_
    clear hg_ hnew_
    (first | rw [← Ny114.out] at ho40 | (simp only [Int.reduceToNat] at ho40; rw [← Ny114.out] at ho40))
    have n0_ := Aside0.mk (Kd.R_elder' (by (with_reducible repeat (first | apply Kd.R_alloc | apply Kd.R_drewN | apply Kd.R_drew)); exact HO_5.out) (Kd.R_base ho40) hb)
    have n1_ := Aside0.mk (Kd.R_elder' (by (with_reducible repeat (first | apply Kd.R_alloc | apply Kd.R_drewN | apply Kd.R_drew)); exact HO_6.out) (Kd.R_base ho40) hb)
    have n2_ := Aside0.mk (Kd.R_lower (Kd.R_new' (Kd.R_new' ho40 (Kd.R_lt (by (with_reducible repeat (first | apply Kd.R_alloc | apply Kd.R_drewN | apply Kd.R_drew)); exact HO_5.out))) (Kd.R_lt (by (with_reducible repeat (first | apply Kd.R_alloc | apply Kd.R_drewN | apply Kd.R_drew)); exact HO_6.out))) (below_size (by repeat (first | (with_reducible first | exact HB.out | apply below_alloc | apply pw_below_drewN | apply below_drew1) | exact HB.out))))
    have n3_ := Aside0.mk (Kd.C_below (by repeat (first | (with_reducible exact HR120.out) | (with_reducible refine Kd.C_alloc ?_ _) | (with_reducible refine Kd.C_drewN ?_ _) | (with_reducible refine Kd.C_drew ?_) | exact HR120.out)) hb)
    have n4_ := Aside0.mk (Kd.C_below (by repeat (first | (with_reducible exact HR127.out) | (with_reducible refine Kd.C_alloc ?_ _) | (with_reducible refine Kd.C_drewN ?_ _) | (with_reducible refine Kd.C_drew ?_) | exact HR127.out)) hb)
    have n5_ := Aside0.mk (below_step (by repeat (first | (with_reducible first | exact HB.out | apply below_alloc | apply pw_below_drewN | apply below_drew1) | exact HB.out)) hb)
    clear HO_5
    clear HO_6
    clear HR120
    clear HR127
    clear HB
    have HO_5 := n0_
    have HO_6 := n1_
    have HO116 := n2_
    have HR120 := n3_
    have HR127 := n4_
    have HB := n5_
    clear n0_ n1_ n2_ n3_ n4_ n5_
    clear hb ho40
    refine hK.out _ _ trivial (fun hHeld => ?_)
    clear hK K
    refine norm_ (a' := ?_) ?_ ?_
    rotate_left
    next =>
     show Act.put _ (some 45) _ = _
     simp only [Act.put, yay, yby, ycy, i64_w, i32_w]
     rfl
    refine one_ (i := 4) (N := some 49) #[true, true, true, true, true, true, true, true, true, false, false] rfl rfl (one_of HT_.out (by kernel_rfl)) (by decide) (fun K hK => ?_)
    refine Kd.R_append_rows_step (Kd.int .i64) (w0 := w) w.heap.size (by rfl) (.tmp 45) (.tmp 48) 44 2 (.int .i64 0) 8 rfl Try.underlying44 info2 rfl (by decide) (by omega) v115 y114 y117 _ _ _ (fun k_ => some k_ ≠ (.slice (some ad108) x5_1.length co29 : Value).ownBlock ∧ some k_ ≠ (.slice (some ⟨go18, 0, none⟩) x6_1.length co18 : Value).ownBlock) (fun _ => False) rfl rfl ?aO ?aR (fun _ _ h => h) (fun _ h => h.elim) ?aF ?aB ?aS ?aL ?_
    (case aR => repeat (first | exact (by repeat (first | (with_reducible exact HR120.out) | (with_reducible refine Kd.C_alloc ?_ _) | (with_reducible refine Kd.C_drewN ?_ _) | (with_reducible refine Kd.C_drew ?_) | exact HR120.out)) | (with_reducible refine Kd.C_alloc ?_ _) | (with_reducible refine Kd.C_drewN ?_ _) | (with_reducible refine Kd.C_drew ?_)))
    (case aB => exact (by repeat (first | (with_reducible first | exact HB.out | apply below_alloc | apply pw_below_drewN | apply below_drew1) | exact HB.out)))
    (case aF => exact (fun k_ hk => ⟨Kd.fresh' (Kd.R_lt (by (with_reducible repeat (first | apply Kd.R_alloc | apply Kd.R_drewN | apply Kd.R_drew)); exact HO_5.out)) k_ hk, Kd.fresh' (Kd.R_lt (by (with_reducible repeat (first | apply Kd.R_alloc | apply Kd.R_drewN | apply Kd.R_drew)); exact HO_6.out)) k_ hk⟩))
    (case aO => exact (by (with_reducible repeat (first | apply Kd.R_alloc | apply Kd.R_drewN | apply Kd.R_drew)); exact Kd.R_mono HO116.out (fun _ hk => ⟨hk.1.2, hk.2⟩)))
    (case aS => exact (below_size (by repeat (first | (with_reducible first | exact HB.out | apply below_alloc | apply pw_below_drewN | apply below_drew1) | exact HB.out))))
    (case aL => have := LMc24.out; omega)
    intro v122 w41 ho hb hg hat
    rw [← Ny121.out] at ho
    have n0_ := Aside0.mk (Kd.R_after (ok := (fun k_ => some k_ ≠ (.slice (some ⟨go18, 0, none⟩) x6_1.length co18 : Value).ownBlock)) (by (with_reducible repeat (first | apply Kd.R_alloc | apply Kd.R_drewN | apply Kd.R_drew)); exact HO_5.out) hg hat)
    have n1_ := Aside0.mk (Kd.R_after (ok := (fun k_ => some k_ ≠ (.slice (some ad108) x5_1.length co29 : Value).ownBlock)) (by (with_reducible repeat (first | apply Kd.R_alloc | apply Kd.R_drewN | apply Kd.R_drew)); exact HO_6.out) hg hat)
    have n2_ := Aside0.mk (hb)
    have n3_ := Aside0.mk ((show Kd.C (Kd.int .i64) w41 A37 y117.length y117 from by rw [Ny117.out, KA37.out]; exact Kd.C_mid (lo := 1) (hi := ((ji13) : Int).toNat) (c := co29) ((Kd.R_reads' (Kd.R_after (ok := (fun k_ => some k_ ≠ (.slice (some ⟨go18, 0, none⟩) x6_1.length co18 : Value).ownBlock)) (by (with_reducible repeat (first | apply Kd.R_alloc | apply Kd.R_drewN | apply Kd.R_drew)); exact HO_5.out) hg hat)).2.2) KM37.out KL37.out ((Kd.R_reads' (Kd.R_after (ok := (fun k_ => some k_ ≠ (.slice (some ⟨go18, 0, none⟩) x6_1.length co18 : Value).ownBlock)) (by (with_reducible repeat (first | apply Kd.R_alloc | apply Kd.R_drewN | apply Kd.R_drew)); exact HO_5.out) hg hat)).2.1)))
    have n4_ := Aside0.mk ((show Kd.C (Kd.int .i64) w41 A38 y124.length y124 from by rw [Ny124.out, KA38.out]; exact Kd.C_drop (m := ((ji25) : Int).toNat) (c := co29) ((Kd.R_reads' (Kd.R_after (ok := (fun k_ => some k_ ≠ (.slice (some ⟨go18, 0, none⟩) x6_1.length co18 : Value).ownBlock)) (by (with_reducible repeat (first | apply Kd.R_alloc | apply Kd.R_drewN | apply Kd.R_drew)); exact HO_5.out) hg hat)).2.2) KL38.out ((Kd.R_reads' (Kd.R_after (ok := (fun k_ => some k_ ≠ (.slice (some ⟨go18, 0, none⟩) x6_1.length co18 : Value).ownBlock)) (by (with_reducible repeat (first | apply Kd.R_alloc | apply Kd.R_drewN | apply Kd.R_drew)); exact HO_5.out) hg hat)).2.1)))
    have n5_ := Aside0.mk (ho)
    clear HO_5
    clear HO_6
    clear HB
    clear HR120
    clear HR127
    clear HO116
    have HO_5 := n0_
    have HO_6 := n1_
    have HB := n2_
    have HR120 := n3_
    have HR127 := n4_
    have HO123 := n5_
    clear n0_ n1_ n2_ n3_ n4_ n5_
    clear ho hb hg hat
    refine hK.out _ _ trivial (fun hHeld => ?_)
    clear hK K
    refine norm_ (a' := ?_) ?_ ?_
    rotate_left
    next =>
     show Act.put _ (some 49) _ = _
     simp only [Act.put, yay, yby, ycy, i64_w, i32_w]
     rfl
    refine one_ (i := 9) (N := some 54) #[true, true, true, true, true, true, true, true, true, true, false] rfl rfl (one_of HT_.out (by kernel_rfl)) (by decide) (fun K hK => ?_)
    refine Kd.R_append_rows_step (Kd.int .i64) (w0 := w) w.heap.size (by rfl) (.tmp 49) (.tmp 53) 44 2 (.int .i64 0) 8 rfl Try.underlying44 info2 rfl (by decide) (by omega) v122 y121 y124 _ _ _ (fun k_ => some k_ ≠ (.slice (some ad108) x5_1.length co29 : Value).ownBlock ∧ some k_ ≠ (.slice (some ⟨go18, 0, none⟩) x6_1.length co18 : Value).ownBlock) (fun _ => False) rfl rfl ?aO ?aR (fun _ _ h => h) (fun _ h => h.elim) ?aF ?aB ?aS ?aL ?_
    (case aR => repeat (first | exact (by repeat (first | (with_reducible exact HR127.out) | (with_reducible refine Kd.C_alloc ?_ _) | (with_reducible refine Kd.C_drewN ?_ _) | (with_reducible refine Kd.C_drew ?_) | exact HR127.out)) | (with_reducible refine Kd.C_alloc ?_ _) | (with_reducible refine Kd.C_drewN ?_ _) | (with_reducible refine Kd.C_drew ?_)))
    (case aB => exact (by repeat (first | (with_reducible first | exact HB.out | apply below_alloc | apply pw_below_drewN | apply below_drew1) | exact HB.out)))
    (case aF => exact (fun k_ hk => ⟨Kd.fresh' (Kd.R_lt (by (with_reducible repeat (first | apply Kd.R_alloc | apply Kd.R_drewN | apply Kd.R_drew)); exact HO_5.out)) k_ hk, Kd.fresh' (Kd.R_lt (by (with_reducible repeat (first | apply Kd.R_alloc | apply Kd.R_drewN | apply Kd.R_drew)); exact HO_6.out)) k_ hk⟩))
    (case aO => exact (by (with_reducible repeat (first | apply Kd.R_alloc | apply Kd.R_drewN | apply Kd.R_drew)); exact HO123.out))
    (case aS => exact (below_size (by repeat (first | (with_reducible first | exact HB.out | apply below_alloc | apply pw_below_drewN | apply below_drew1) | exact HB.out))))
    (case aL => have := LMc28.out; omega)
    intro v129 w42 ho hb hg hat
    rw [← Ny128.out] at ho
    have n0_ := Aside0.mk (Kd.R_after (ok := (fun k_ => some k_ ≠ (.slice (some ⟨go18, 0, none⟩) x6_1.length co18 : Value).ownBlock)) (by (with_reducible repeat (first | apply Kd.R_alloc | apply Kd.R_drewN | apply Kd.R_drew)); exact HO_5.out) hg hat)
    have n1_ := Aside0.mk (Kd.R_after (ok := (fun k_ => some k_ ≠ (.slice (some ad108) x5_1.length co29 : Value).ownBlock)) (by (with_reducible repeat (first | apply Kd.R_alloc | apply Kd.R_drewN | apply Kd.R_drew)); exact HO_6.out) hg hat)
    have n2_ := Aside0.mk (hb)
    have n3_ := Aside0.mk ((show Kd.C (Kd.int .i64) w42 A37 y117.length y117 from by rw [Ny117.out, KA37.out]; exact Kd.C_mid (lo := 1) (hi := ((ji13) : Int).toNat) (c := co29) ((Kd.R_reads' (Kd.R_after (ok := (fun k_ => some k_ ≠ (.slice (some ⟨go18, 0, none⟩) x6_1.length co18 : Value).ownBlock)) (by (with_reducible repeat (first | apply Kd.R_alloc | apply Kd.R_drewN | apply Kd.R_drew)); exact HO_5.out) hg hat)).2.2) KM37.out KL37.out ((Kd.R_reads' (Kd.R_after (ok := (fun k_ => some k_ ≠ (.slice (some ⟨go18, 0, none⟩) x6_1.length co18 : Value).ownBlock)) (by (with_reducible repeat (first | apply Kd.R_alloc | apply Kd.R_drewN | apply Kd.R_drew)); exact HO_5.out) hg hat)).2.1)))
    have n4_ := Aside0.mk ((show Kd.C (Kd.int .i64) w42 A38 y124.length y124 from by rw [Ny124.out, KA38.out]; exact Kd.C_drop (m := ((ji25) : Int).toNat) (c := co29) ((Kd.R_reads' (Kd.R_after (ok := (fun k_ => some k_ ≠ (.slice (some ⟨go18, 0, none⟩) x6_1.length co18 : Value).ownBlock)) (by (with_reducible repeat (first | apply Kd.R_alloc | apply Kd.R_drewN | apply Kd.R_drew)); exact HO_5.out) hg hat)).2.2) KL38.out ((Kd.R_reads' (Kd.R_after (ok := (fun k_ => some k_ ≠ (.slice (some ⟨go18, 0, none⟩) x6_1.length co18 : Value).ownBlock)) (by (with_reducible repeat (first | apply Kd.R_alloc | apply Kd.R_drewN | apply Kd.R_drew)); exact HO_5.out) hg hat)).2.1)))
    have n5_ := Aside0.mk (ho)
    clear HO_5
    clear HO_6
    clear HB
    clear HR120
    clear HR127
    clear HO123
    have HO_5 := n0_
    have HO_6 := n1_
    have HB := n2_
    have HR120 := n3_
    have HR127 := n4_
    have HO130 := n5_
    clear n0_ n1_ n2_ n3_ n4_ n5_
    clear ho hb hg hat
    refine hK.out _ _ trivial (fun hHeld => ?_)
    clear hK K
    refine norm_ (a' := ?_) ?_ ?_
    rotate_left
    next =>
     show Act.put _ (some 54) _ = _
     simp only [Act.put, yay, yby, ycy, i64_w, i32_w]
     rfl
    refine pure_ (i := 10) (N := some 5) (v := ?_) (a' := ?_) #[true, true, true, true, true, true, true, true, true, true, true] rfl rfl (any_of HT_.out (by kernel_rfl)) (fun _ _ _ h => h) (Or.inl ⟨by rfl, ?_⟩) ?_ ?_
    rotate_left
    next =>
     intro w'
     go_simp
     with_reducible rfl
    rotate_left
    next =>
     simp only [Act.put, yay, yby, ycy, i64_w, i32_w]
     rfl
    refine done_ (done_of HT_.out (by kernel_rfl)) ?_
    try go_wp2
    go_roundg k1
    case measure => have := HK1.out; omega
    case rel => exact ⟨(Int.tmod x1_1 t107), (y128), (y113), (by first | rfl | (simp; done) | (simp [*]; done)), H', ⟨by have := HK1.out; omega⟩, ⟨by (with_reducible repeat (first | apply Kd.R_alloc | apply Kd.R_drewN | apply Kd.R_drew)); exact Kd.R_mono HO130.out (fun _ hk => hk.2)⟩, ⟨by (with_reducible repeat (first | apply Kd.R_alloc | apply Kd.R_drewN | apply Kd.R_drew)); exact Kd.R_mono HO_6.out (fun _ hk => hk.2)⟩, ⟨by repeat (first | (with_reducible first | exact HB.out | apply below_alloc | apply pw_below_drewN | apply below_drew1) | exact HB.out)⟩⟩
/-! ### spec_l16Perms: function 38 -/
def spec_l16Perms.l0 : Nat → Int → Int → List Int → Int → Option (List Int)
  | 0, _, _, _, _ => none
  | k + 1, x0, x1, x5, x6 => if x6 < 24 then ((spec_l06At.f k x6 x0).bind fun t104 => (if t104 = x1 then (if x5.length < 17592186044416 then (spec_l16Perms.l0 k x0 x1 (x5 ++ [x6]) (wrap64 (x6 + 1))) else (none)) else (spec_l16Perms.l0 k x0 x1 x5 (wrap64 (x6 + 1))))) else (some x5)
def spec_l16Perms.f (k : Nat) (a0 : Int) (a1 : Int) : Option (List Int) := spec_l16Perms.l0 k a0 a1 (([] : List Int)) 0
theorem spec_l16Perms.mono_l : ∀ k, (∀ y0 y1 y2 y3, LeO (spec_l16Perms.l0 k y0 y1 y2 y3) (spec_l16Perms.l0 (k + 1) y0 y1 y2 y3))
  | 0 => fun _ _ _ _ r h => by simp [spec_l16Perms.l0] at h
  | k + 1 => by
    have ih0 := spec_l16Perms.mono_l k
    · intro y0 y1 y2 y3
      unfold spec_l16Perms.l0
      repeat' first
      | (with_reducible exact ih0 _ _ _ _)
      | (with_reducible exact spec_l06At.mono _ _ _)
      | (with_reducible exact LeO.refl _)
      | (with_reducible exact LeO.none _)
      | (with_reducible refine LeO.ite ?_ ?_)
      | (with_reducible refine LeO.bind ?_ (fun _ => ?_))
      | exact ih0 _ _ _ _
      | exact spec_l06At.mono _ _ _
      | exact LeO.none _
      | refine LeO.ite ?_ ?_
      | refine LeO.bind ?_ (fun _ => ?_)
theorem spec_l16Perms.mono : ∀ a0 a1 k, LeO (spec_l16Perms.f k a0 a1) (spec_l16Perms.f (k + 1) a0 a1) := by
  intro a0 a1 k
  have ih0 := spec_l16Perms.mono_l k
  unfold spec_l16Perms.f
  repeat' first
      | (with_reducible exact ih0 _ _ _ _)
      | (with_reducible exact spec_l06At.mono _ _ _)
      | (with_reducible exact LeO.refl _)
      | (with_reducible exact LeO.none _)
      | (with_reducible refine LeO.ite ?_ ?_)
      | (with_reducible refine LeO.bind ?_ (fun _ => ?_))
      | exact ih0 _ _ _ _
      | exact spec_l06At.mono _ _ _
      | exact LeO.none _
      | refine LeO.ite ?_ ?_
      | refine LeO.bind ?_ (fun _ => ?_)
set_option maxHeartbeats 8000000 in
set_option maxRecDepth 100000 in
theorem spec_l16Perms.calls (k : Nat) (a0 : Int) (a1 : Int) (r : List Int) (w : World) (h : spec_l16Perms.f k a0 a1 = some r) :
    Calls Try.prog 38 #[.int .i64 a0, .int .i64 a1] w fun e w' => ∃ v0_ : Value, e = .returned (v0_) ∧ Kd.R (Kd.int .i64) 2 w' w.heap.size (fun _ => True) v0_ r ∧ Below w.heap.size w w' := by
  have HB := Aside0.mk (Below.refl w.heap.size w)
  have H : (spec_l16Perms.l0 k a0 a1 (([] : List Int)) 0) = some r := h
  clear h
  obtain ⟨y101, hy101⟩ : ∃ y_ : List Int, y_ = (([] : List Int)) := ⟨_, rfl⟩
  replace H : (spec_l16Perms.l0 k a0 a1 y101 0) = some r := by first | (rw [hy101]; with_reducible exact H) | (have H2_ := (yfy _ _).symm.trans H; rw [hy101]; with_reducible exact H2_) | (have H2_ := (yfy _ _).symm.trans H; with_reducible exact H2_) | with_reducible exact H | (rw [hy101]; exact H) | exact H
  have Ny101 := Aside0.mk hy101
  clear hy101
  have H' := Aside0.mk H
  clear H
  go_enter Try.func38, Try.ntmps38
  go_wp2_with (first | ((with_reducible refine gate_dst (N := 7) rfl ?_); refine Kd.R_lit (Kd.int .i64) _ 2 ?hg (N := 7) ?hd (xs := ([] : List Int)) (inner := []) (ok := fun _ => True) (okp := fun _ => True) ?hr ?hp (fun _ hk => hk) trivial (Below.refl _ _) (yoy _) (by simp) ?_; (case hd => rfl); (case hg => rfl); (case hr => first | (go_simp; done) | (go_simp; rfl)); (case hp => exact (Reps.none _ _)); intro v102 w3 ho4 hb hg_ hnew_; clear hg_ hnew_; (first | rw [← Ny101.out] at ho4 | (simp only [Int.reduceToNat] at ho4; rw [← Ny101.out] at ho4)); have n0_ := Aside0.mk (Kd.R_lower ho4 (below_size (by repeat (first | (with_reducible first | exact HB.out | apply below_alloc | apply pw_below_drewN | apply below_drew1) | exact HB.out)))); have n1_ := Aside0.mk (below_step (by repeat (first | (with_reducible first | exact HB.out | apply below_alloc | apply pw_below_drewN | apply below_drew1) | exact HB.out)) hb); clear HB; have HO103 := n0_; have HB := n1_; clear n0_ n1_; clear hb ho4))
  go_loopg [5, 6] k (fun kq v5 v6 w' => ∃ (x5_1 : List Int) (x6_1 : Int), v6 = .int .i64 x6_1 ∧ Aside0 (spec_l16Perms.l0 kq a0 a1 x5_1 x6_1 = some r) ∧ Aside0 (kq ≤ k) ∧ Aside0 (Kd.R (Kd.int .i64) 2 w' w.heap.size (fun _ => True) v5 x5_1) ∧ Aside0 (Below w.heap.size w w'))
  case atStart => exact ⟨(y101), (0), (by first | rfl | (simp; done) | (simp [*]; done)), H', ⟨yoy _⟩, ⟨by (with_reducible repeat (first | apply Kd.R_alloc | apply Kd.R_drewN | apply Kd.R_drew)); exact HO103.out⟩, ⟨by repeat (first | (with_reducible first | exact HB.out | apply below_alloc | apply pw_below_drewN | apply below_drew1) | exact HB.out)⟩⟩
  case round =>
    clear H'
    try clear p2
    try clear c3
    obtain ⟨x5_1, x6_1, rfl, HA, HK1, HO_5, HB⟩ := hrel
    cases gk with
    | zero => exact absurd HA.out (by simp [spec_l16Perms.l0])
    | succ k1 =>
      have H := HA.out
      clear HA
      simp only [spec_l16Perms.l0] at H
      by_cases c5 : x6_1 < 24
      · rw [if_pos c5] at H
        have c5b0 : decide (x6_1 < 24) = true := ygy c5
        clear c5
        replace H := ydy.mp H
        obtain ⟨t104, A60, H⟩ := H
        replace H : (if t104 = a1 then (if x5_1.length < 17592186044416 then (spec_l16Perms.l0 k1 a0 a1 (x5_1 ++ [x6_1]) (wrap64 (x6_1 + 1))) else (none)) else (spec_l16Perms.l0 k1 a0 a1 x5_1 (wrap64 (x6_1 + 1)))) = some r := H
        have A6 := Aside0.mk A60
        clear A60
        by_cases c7 : t104 = a1
        · rw [if_pos c7] at H
          have c7b0 : (t104 == a1) = true := beq_iff_eq.mpr c7
          have c7b1 : (t104 != a1) = false := bne_eq_false_iff_eq.mpr c7
          clear c7
          by_cases c8 : x5_1.length < 17592186044416
          · rw [if_pos c8] at H
            have LMc8 := Aside0.mk c8
            clear c8
            obtain ⟨y105, hy105⟩ : ∃ y_ : List Int, y_ = (x5_1 ++ [x6_1]) := ⟨_, rfl⟩
            replace H : (spec_l16Perms.l0 k1 a0 a1 y105 (wrap64 (x6_1 + 1))) = some r := by first | (rw [hy105]; with_reducible exact H) | (have H2_ := (yfy _ _).symm.trans H; rw [hy105]; with_reducible exact H2_) | (have H2_ := (yfy _ _).symm.trans H; with_reducible exact H2_) | with_reducible exact H | (rw [hy105]; exact H) | exact H
            have Ny105 := Aside0.mk hy105
            clear hy105
            have H' := Aside0.mk H
            clear H
            go_wp2_with (first | ((with_reducible refine gate_callee (f := 36) rfl ?_); refine goesL_ (some 14) rfl rfl Try.func36 (by kernel_rfl) rfl #[.int .i64 x6_1, .int .i64 a0] rfl (by (try simp only [yiy, yjy, yky]); first | done | rfl | (simp only [yly, ymy]; rfl)) ?_; (with_reducible refine (spec_l06At.calls k1 x6_1 a0 t104 _ A6.out).mono ?_); rintro e w9 ⟨rfl, hb⟩; refine ⟨_, rfl, ?_⟩; have n0_ := Aside0.mk (Kd.R_below (by (with_reducible repeat (first | apply Kd.R_alloc | apply Kd.R_drewN | apply Kd.R_drew)); exact HO_5.out) hb); have n1_ := Aside0.mk (below_step (by repeat (first | (with_reducible first | exact HB.out | apply below_alloc | apply pw_below_drewN | apply below_drew1) | exact HB.out)) hb); clear HO_5; clear HB; have HO_5 := n0_; have HB := n1_; clear n0_ n1_; (try clear hb); (try clear hb2); (try clear hk); (try clear hi)) | ((with_reducible refine gate_builtin (b := .append) (xs := #[.tmp 17, .tmp 19]) rfl ?_); at_builtin; refine Kd.R_append (Kd.int .i64) (w0 := w) w.heap.size rfl (.tmp 17) (.tmp 19) 44 2 (.int .i64 0) 8 rfl Try.underlying44 info2 rfl (by decide) (by omega) u5 x5_1 x6_1 [.int .i64 x6_1] (fun _ => True) (fun _ => False) rfl rfl ?aP (fun _ hk => hk.elim) ?aF ?aO ?aB ?aS ?aL ?_; (case aP => exact rfl); (case aB => exact (by repeat (first | (with_reducible first | exact HB.out | apply below_alloc | apply pw_below_drewN | apply below_drew1) | exact HB.out))); (case aF => exact (fun _ _ => trivial)); (case aO => exact (by (with_reducible repeat (first | apply Kd.R_alloc | apply Kd.R_drewN | apply Kd.R_drew)); exact HO_5.out)); (case aS => exact (below_size (by repeat (first | (with_reducible first | exact HB.out | apply below_alloc | apply pw_below_drewN | apply below_drew1) | exact HB.out)))); (case aL => have := LMc8.out; omega); intro v106 w10 ho hb hg hat; rw [← Ny105.out] at ho; have n0_ := Aside0.mk (hb); have n1_ := Aside0.mk (ho); clear HB; clear HO_5; have HB := n0_; have HO107 := n1_; clear n0_ n1_; clear ho hb hg hat))
            go_roundg k1
            case measure => have := HK1.out; omega
            case rel => exact ⟨(y105), (wrap64 (x6_1 + 1)), (by first | rfl | (simp; done) | (simp [*]; done)), H', ⟨by have := HK1.out; omega⟩, ⟨by (with_reducible repeat (first | apply Kd.R_alloc | apply Kd.R_drewN | apply Kd.R_drew)); exact HO107.out⟩, ⟨by repeat (first | (with_reducible first | exact HB.out | apply below_alloc | apply pw_below_drewN | apply below_drew1) | exact HB.out)⟩⟩
          · rw [if_neg c8] at H
            exact absurd H (by simp)
        · rw [if_neg c7] at H
          have c7b0 : (t104 == a1) = false := beq_eq_false_iff_ne.mpr c7
          have c7b1 : (t104 != a1) = true := bne_iff_ne.mpr c7
          have H' := Aside0.mk H
          clear H
          go_wp2_with (first | ((with_reducible refine gate_callee (f := 36) rfl ?_); refine goesL_ (some 14) rfl rfl Try.func36 (by kernel_rfl) rfl #[.int .i64 x6_1, .int .i64 a0] rfl (by (try simp only [yiy, yjy, yky]); first | done | rfl | (simp only [yly, ymy]; rfl)) ?_; (with_reducible refine (spec_l06At.calls k1 x6_1 a0 t104 _ A6.out).mono ?_); rintro e w11 ⟨rfl, hb⟩; refine ⟨_, rfl, ?_⟩; have n0_ := Aside0.mk (Kd.R_below (by (with_reducible repeat (first | apply Kd.R_alloc | apply Kd.R_drewN | apply Kd.R_drew)); exact HO_5.out) hb); have n1_ := Aside0.mk (below_step (by repeat (first | (with_reducible first | exact HB.out | apply below_alloc | apply pw_below_drewN | apply below_drew1) | exact HB.out)) hb); clear HO_5; clear HB; have HO_5 := n0_; have HB := n1_; clear n0_ n1_; (try clear hb); (try clear hb2); (try clear hk); (try clear hi)))
          go_roundg k1
          case measure => have := HK1.out; omega
          case rel => exact ⟨(x5_1), (wrap64 (x6_1 + 1)), (by first | rfl | (simp; done) | (simp [*]; done)), H', ⟨by have := HK1.out; omega⟩, ⟨by (with_reducible repeat (first | apply Kd.R_alloc | apply Kd.R_drewN | apply Kd.R_drew)); exact HO_5.out⟩, ⟨by repeat (first | (with_reducible first | exact HB.out | apply below_alloc | apply pw_below_drewN | apply below_drew1) | exact HB.out)⟩⟩
      · rw [if_neg c5] at H
        have c5b0 : decide (x6_1 < 24) = false := yhy c5
        clear c5
        obtain rfl := yey H
        go_wp2
        go_ret
        exact ⟨_, by first | rfl | (simp [errW_none, errW_some] <;> rfl) | (simp [*, errW_none, errW_some] <;> rfl), by (with_reducible repeat (first | apply Kd.R_alloc | apply Kd.R_drewN | apply Kd.R_drew)); exact HO_5.out, by repeat (first | (with_reducible first | exact HB.out | apply below_alloc | apply pw_below_drewN | apply below_drew1) | exact HB.out)⟩
/-! ### spec_l16Gluing: function 50 -/
mutual
def spec_l16Gluing.l0 : Nat → Int → Int → Int → Int → Option ((List (List (SFace))))
 | 0, _, _, _, _ => none
 | k + 1, x0, x1, x5, x6 => if x6 < (wrap64 (2 * x0)) then (spec_l16Gluing.l0 k x0 x1 (wrap64 (x5 * 6)) (wrap64 (x6 + 1))) else (if x5 = 0 then (none) else ((spec_l16Matching.f k (wrap64 (4 * x0)) (wrap64 (Int.tdiv x1 x5))).bind fun t102 => (spec_l16Gluing.l1 k x0 (Int.tmod x1 x5) x5 t102 0 ([] : List (List (SFace))))))
def spec_l16Gluing.l1 : Nat → Int → Int → Int → List Int → Int → List (List (SFace)) → Option ((List (List (SFace))))
 | 0, _, _, _, _, _, _ => none
 | k + 1, x0, x1, x5, x7, x9, x106000 => if x9 < x0 then ((spec_l07Free.f).bind fun t106 => (if x106000.length < 5864062014805 then (spec_l16Gluing.l1 k x0 x1 x5 x7 (wrap64 (x9 + 1)) (x106000 ++ [t106])) else (none))) else (spec_l16Gluing.l2 k x0 x1 x5 x7 0 x106000)
def spec_l16Gluing.l2 : Nat → Int → Int → Int → List Int → Int → List (List (SFace)) → Option ((List (List (SFace))))
 | 0, _, _, _, _, _, _ => none
 | k + 1, x0, x1, x5, x7, x10, x106000 => if x10 < (wrap64 (4 * x0)) then (if 0 ≤ x10 then (if x10 < (x7.length : Int) then (if (rd x7 x10) < x10 then (spec_l16Gluing.l2 k x0 x1 x5 x7 (wrap64 (x10 + 1)) x106000) else ((spec_l16Perms.f k (Int.tmod x10 4) (Int.tmod (rd x7 x10) 4)).bind fun t113 => (if (wrap64 (Int.tdiv x5 6)) = 0 then (none) else (if 0 ≤ (wrap64 (Int.tdiv x1 (wrap64 (Int.tdiv x5 6)))) then (if (wrap64 (Int.tdiv x1 (wrap64 (Int.tdiv x5 6)))) < (t113.length : Int) then ((spec_l07Glue.f k x106000 (wrap64 (Int.tdiv x10 4)) (Int.tmod x10 4) (wrap64 (Int.tdiv (rd x7 x10) 4)) (rd t113 (wrap64 (Int.tdiv x1 (wrap64 (Int.tdiv x5 6)))))).bind fun t117 => (spec_l16Gluing.l2 k x0 (Int.tmod x1 (wrap64 (Int.tdiv x5 6))) (wrap64 (Int.tdiv x5 6)) x7 (wrap64 (x10 + 1)) t117)) else (none)) else (none))))) else (none)) else (none)) else (some x106000)
end
def spec_l16Gluing.f (k : Nat) (a0 : Int) (a1 : Int) : Option ((List (List (SFace)))) := spec_l16Gluing.l0 k a0 a1 1 0
def spec_l16Gluing.T19 : Bool × List (List Nat × List Nat) := (true, [([], []), ([0], [0]), ([], []), ([2], [2]), ([1, 3], [1, 3]), ([], []), ([], []), ([5, 6], [5, 6]), ([4, 7], [4, 7]), ([8], [8]), ([9, 4, 0, 1, 2, 3, 4, 5, 6, 7, 8, 9], [9])])
def spec_l16Gluing.B19 : List Nat := [0, 1, 0, 4, 15, 0, 0, 96, 255, 511, 1023]
theorem spec_l16Gluing.tab19 : rtab .any (opsOf Try.f50 19) = spec_l16Gluing.T19 := by kernel_rfl
theorem spec_l16Gluing.bits19 : waitsOk spec_l16Gluing.T19.2 spec_l16Gluing.B19 = true := by kernel_rfl
theorem spec_l16Gluing.look_ {P : Program} {ops : Array Oper} {Q : Exit → Act → World → Prop} {oi : Oper} {N : Option Tmp} {a : Act} {w : World} {v : Value} {K : Act → World → Prop} (hw : Region.wanted oi (yielded ops a.tmps) = true) (hN : oi.dst = N) (hrun : (execOp a.eval oi).run P w = .ok (.value v) w)
 (h : K (a.put N v) w) : if Region.wanted oi (yielded ops a.tmps) = true then Oper.wp P oi a w K Q else K (a.put N undef) w := by
 rw [if_pos hw]
 unfold Oper.wp
 rw [hrun]
 show K (a.put oi.dst v) w
 rw [hN]
 exact h
theorem spec_l16Gluing.int_kept {w w' : World} {S : Nat → Prop} {e base : Nat} {ok ok' : Nat → Prop} {v : Value} {xs : List Int} (h : Kd.R (Kd.int .i64) e w base ok v xs) (hk : Kept w w' S) (hS : ∀ k, S k → ∃ q, q ≠ e ∧ ∃ cells, w.heap[k]? = some (.cells cells q (0, 0))) (hok : ∀ k, v.ownBlock = some k → ok' k) :
 Kd.R (Kd.int .i64) e w' base ok' v xs := by
 have h1 : Kd.R (Kd.int .i64) e w base (fun k => v.ownBlock = some k) v xs := Kd.R_of_own (h1 := fun _ => rfl) (Kd.own_of_R h) (fun k hk => hk)
 have h2 := Kd.R_kept h1 hk (fun k hk hs => by
  obtain ⟨q, hq, c, hc⟩ := hS k hs
  obtain ⟨c2, hc2⟩ := own_typed (Kd.own_of_R h) k hk
  rw [hc] at hc2
  injection hc2 with hc2
  injection hc2 with _ hc2
  exact hq hc2)
 exact Kd.R_of_own (h1 := fun _ => rfl) (Kd.own_of_R h2) hok
set_option maxHeartbeats 8000000 in
set_option maxRecDepth 100000 in
theorem spec_l16Gluing.calls (k : Nat) (a0 : Int) (a1 : Int) (r : List (List (SFace))) (w : World) (h : spec_l16Gluing.f k a0 a1 = some r) :
 Calls Try.prog 50 #[.int .i64 a0, .int .i64 a1] w fun e w' => ∃ v0_ : Value, e = .returned (.agg #[v0_]) ∧ Kd.S (Kd.slice 59 kFace) 60 w' w.heap.size (fun _ => True) v0_ r ∧ Below w.heap.size w w' := by
 have hu30 := Try.underlying30
 have HB := Aside0.mk (Below.refl w.heap.size w)
 have H : (spec_l16Gluing.l0 k a0 a1 1 0) = some r := h
 clear h
 have H' := Aside0.mk H
 clear H
 go_enter Try.func50, Try.ntmps50
 go_wp2_with (first | ((with_reducible refine gate_dst (N := 4) rfl ?_); refine box_event ?hg (N := 4) ?hd (cs := #[.slice none 0 0]) (t := 30) ?hr ?_; (case hd => rfl); (case hg => rfl); (case hr => first | (go_simp; done) | (go_simp; rfl)); intro gb101 hg w3 hbox hb; have n0_ := Aside0.mk (below_step (by repeat (first | (with_reducible first | exact HB.out | apply below_alloc | apply pw_below_drewN | apply below_drew1) | exact HB.out)) hb); have n1_ := Aside0.mk (hbox); have n2_ := Aside0.mk ((by rw [hg]; exact (below_size (by repeat (first | (with_reducible first | exact HB.out | apply below_alloc | apply pw_below_drewN | apply below_drew1) | exact HB.out))) : w.heap.size ≤ gb101)); have n3_ := Aside0.mk ((by rw [hg]; exact (below_size (by repeat (first | (with_reducible first | exact HB.out | apply below_alloc | apply pw_below_drewN | apply below_drew1) | exact HB.out))) : w.heap.size ≤ gb101)); clear HB; have HB := n0_; have BK101 := n1_; have GW101 := n2_; have GE101 := n3_; clear n0_ n1_ n2_ n3_; clear hb hbox hg))
 go_loopg [5, 6] k (fun kq v5 v6 w' => ∃ (x5_1 : Int) (x6_1 : Int), v5 = .int .i64 x5_1 ∧ v6 = .int .i64 x6_1 ∧ Aside0 (spec_l16Gluing.l0 kq a0 a1 x5_1 x6_1 = some r) ∧ Aside0 (kq ≤ k) ∧ Aside0 (w'.heap[gb101]? = some (.cells #[(.slice none 0 0)] 30 (0, 0))) ∧ Aside0 (Below w.heap.size w w'))
 case atStart => exact ⟨(1), (0), (by first | rfl | (simp; done) | (simp [*]; done)), (by first | rfl | (simp; done) | (simp [*]; done)), H', ⟨yoy _⟩, ⟨by (with_reducible repeat (first | refine blk_drewN ?_ _ | refine blk_drew ?_ | refine blk_alloc ?_ _)); exact BK101.out⟩, ⟨by repeat (first | (with_reducible first | exact HB.out | apply below_alloc | apply pw_below_drewN | apply below_drew1 | refine below_set ?_ GE101.out) | exact HB.out)⟩⟩
 case round =>
  clear H'
  try clear p2
  obtain ⟨x5_1, x6_1, rfl, rfl, HA, HK1, BK101, HB⟩ := hrel
  cases gk with
  | zero => exact absurd HA.out (by simp [spec_l16Gluing.l0])
  | succ k1 =>
   have H := HA.out
   clear HA
   simp only [spec_l16Gluing.l0] at H
   by_cases c4 : x6_1 < (wrap64 (2 * a0))
   next =>
    rw [if_pos c4] at H
    have c4b0 : decide (x6_1 < (wrap64 (2 * a0))) = true := ygy c4
    clear c4
    have H' := Aside0.mk H
    clear H
    go_wp2
    go_roundg k1
    case measure => have := HK1.out; omega
    case rel => exact ⟨(wrap64 (x5_1 * 6)), (wrap64 (x6_1 + 1)), (by first | rfl | (simp; done) | (simp [*]; done)), (by first | rfl | (simp; done) | (simp [*]; done)), H', ⟨by have := HK1.out; omega⟩, ⟨by (with_reducible repeat (first | refine blk_drewN ?_ _ | refine blk_drew ?_ | refine blk_alloc ?_ _)); exact BK101.out⟩, ⟨by repeat (first | (with_reducible first | exact HB.out | apply below_alloc | apply pw_below_drewN | apply below_drew1 | refine below_set ?_ GE101.out) | exact HB.out)⟩⟩
   next =>
    rw [if_neg c4] at H
    have c4b0 : decide (x6_1 < (wrap64 (2 * a0))) = false := yhy c4
    clear c4
    by_cases c5 : x5_1 = 0
    next =>
     rw [if_pos c5] at H
     exact absurd H (by simp)
    next =>
     rw [if_neg c5] at H
     have c5b0 : (x5_1 == 0) = false := beq_eq_false_iff_ne.mpr c5
     have c5b1 : (x5_1 != 0) = true := bne_iff_ne.mpr c5
     replace H := ydy.mp H
     obtain ⟨t102, A60, H⟩ := H
     replace H : (spec_l16Gluing.l1 k1 a0 (Int.tmod a1 x5_1) x5_1 t102 0 ([] : List (List (SFace)))) = some r := H
     have A6 := Aside0.mk A60
     clear A60
     have H' := Aside0.mk H
     clear H
     go_wp2_with (first | ((with_reducible refine gate_callee (f := 87) rfl ?_); refine goesL_ (some 26) rfl rfl Try.func87 (by kernel_rfl) rfl #[.int .i64 (wrap64 (4 * a0)), .int .i64 (wrap64 (Int.tdiv a1 x5_1))] rfl (by (try simp only [yiy, yjy, yky]); first | done | rfl | (simp only [yly, ymy]; rfl)) ?_; (with_reducible refine (spec_l16Matching.calls k1 (wrap64 (4 * a0)) (wrap64 (Int.tdiv a1 x5_1)) t102 _ A6.out).mono ?_); rintro e w7 ⟨v103, rfl, ho0, hb⟩; refine ⟨_, rfl, ?_⟩; have n0_ := Aside0.mk (Kd.R_lower ho0 (below_size (by repeat (first | (with_reducible first | exact HB.out | apply below_alloc | apply pw_below_drewN | apply below_drew1 | refine below_set ?_ GE101.out) | exact HB.out)))); have n1_ := Aside0.mk (blk_below (g := gb101) (o := .cells #[.slice none 0 0] 30 (0, 0)) (by (with_reducible repeat (first | refine blk_drewN ?_ _ | refine blk_drew ?_ | refine blk_alloc ?_ _)); exact BK101.out) hb); have n2_ := Aside0.mk (below_step (by repeat (first | (with_reducible first | exact HB.out | apply below_alloc | apply pw_below_drewN | apply below_drew1 | refine below_set ?_ GE101.out) | exact HB.out)) hb); clear BK101; clear HB; have HO104 := n0_; have BK101 := n1_; have HB := n2_; clear n0_ n1_ n2_; (try clear hb); (try clear hb2); (try clear hk); (try clear hi); (try clear ho0)) | ((with_reducible refine gate_dst (N := 8) rfl ?_); refine box_event ?hg (N := 8) ?hd (cs := #[.slice none 0 0]) (t := 30) ?hr ?_; (case hd => rfl); (case hg => rfl); (case hr => first | (go_simp; done) | (go_simp; rfl)); intro gb105 hg w8 hbox hb; have n0_ := Aside0.mk (Kd.R_below (by (with_reducible repeat (first | apply Kd.R_alloc | apply Kd.R_drewN | apply Kd.R_drew)); exact HO104.out) hb); have n1_ := Aside0.mk (blk_below (g := gb101) (o := .cells #[.slice none 0 0] 30 (0, 0)) (by (with_reducible repeat (first | refine blk_drewN ?_ _ | refine blk_drew ?_ | refine blk_alloc ?_ _)); exact BK101.out) hb); have n2_ := Aside0.mk (below_step (by repeat (first | (with_reducible first | exact HB.out | apply below_alloc | apply pw_below_drewN | apply below_drew1 | refine below_set ?_ GE101.out) | exact HB.out)) hb); have n3_ := Aside0.mk (hbox); have n4_ := Aside0.mk ((by rw [hg]; exact (below_size (by repeat (first | (with_reducible first | exact HB.out | apply below_alloc | apply pw_below_drewN | apply below_drew1 | refine below_set ?_ GE101.out) | exact HB.out))) : w.heap.size ≤ gb105)); have n5_ := Aside0.mk ((by rw [hg]; exact (below_size (by repeat (first | (with_reducible first | exact HB.out | apply below_alloc | apply pw_below_drewN | apply below_drew1 | refine below_set ?_ GE101.out) | exact HB.out))) : w.heap.size ≤ gb105)); have n6_ := Aside0.mk ((by rw [hg]; exact Nat.ne_of_lt (blk_lt (g := gb101) (o := .cells #[.slice none 0 0] 30 (0, 0)) (by (with_reducible repeat (first | refine blk_drewN ?_ _ | refine blk_drew ?_ | refine blk_alloc ?_ _)); exact BK101.out)) : gb101 ≠ gb105)); have n7_ := Aside0.mk ((by rw [hg]; exact Nat.ne_of_gt (blk_lt (g := gb101) (o := .cells #[.slice none 0 0] 30 (0, 0)) (by (with_reducible repeat (first | refine blk_drewN ?_ _ | refine blk_drew ?_ | refine blk_alloc ?_ _)); exact BK101.out)) : gb105 ≠ gb101)); clear HO104; clear BK101; clear HB; have HO104 := n0_; have BK101 := n1_; have HB := n2_; have BK105 := n3_; have GW105 := n4_; have GE105 := n5_; have NB101_105 := n6_; have NB105_101 := n7_; clear n0_ n1_ n2_ n3_ n4_ n5_ n6_ n7_; clear hb hbox hg; have hnb9 := NB105_101.out; have hnc9 := NB101_105.out; have hcz10_0 : w8.cell? ⟨gb105, 0, none⟩ = some (.slice none 0 0) := (blk_cell BK105.out 0).trans rfl; have hfz10_0 := blk_frozen BK105.out 0))
     go_loopg [9] k1 (fun kq v9 w' => ∃ (x9_2 : Int) (x106000_2 : List (List (SFace))) (u106000 : Value), v9 = .int .i64 x9_2 ∧ Aside0 (spec_l16Gluing.l1 kq a0 (Int.tmod a1 x5_1) x5_1 t102 x9_2 x106000_2 = some r) ∧ Aside0 (kq ≤ k1) ∧ Aside0 (Kd.R (Kd.int .i64) 2 w' w.heap.size (fun _ => True) v103 t102) ∧ Aside0 (Kd.S (Kd.slice 59 kFace) 60 w' w.heap.size (fun _ => True) u106000 x106000_2) ∧ Aside0 (w'.heap[gb101]? = some (.cells #[(.slice none 0 0)] 30 (0, 0))) ∧ Aside0 (w'.heap[gb105]? = some (.cells #[u106000] 30 (0, 0))) ∧ Aside0 (Below w.heap.size w w'))
     case atStart => exact ⟨(0), (([] : List (List (SFace)))), (.slice none 0 0), (by first | rfl | (simp; done) | (simp [*]; done)), H', ⟨yoy _⟩, ⟨by (with_reducible repeat (first | apply Kd.R_alloc | apply Kd.R_drewN | apply Kd.R_drew)); exact Kd.R_mono (Kd.R_far (p := ⟨gb105, 0, none⟩) (Kd.R_types HO104.out BK105.out (by decide)) (fun _ hk => hk.2) (.slice none 0 0)) (fun _ hk => trivial)⟩, ⟨by first | exact Kd.S_nil _ _ _ _ _ | exact Kd.N_nil _ _ _ _ _ | exact Kd.V_nil _ _ _ _ _ | exact Kd.Q_nil _ _ _ _ _ | exact Kd.R_nil _ _ _ _ _⟩, ⟨by (with_reducible repeat (first | refine blk_drewN ?_ _ | refine blk_drew ?_ | refine blk_alloc ?_ _)); refine blk_far ?_ NB101_105.out _; (with_reducible repeat (first | refine blk_drewN ?_ _ | refine blk_drew ?_ | refine blk_alloc ?_ _)); exact BK101.out⟩, ⟨by (with_reducible repeat (first | refine blk_drewN ?_ _ | refine blk_drew ?_ | refine blk_alloc ?_ _)); refine blk_put (cs := #[.slice none 0 0]) ?_ 0 _ rfl; (with_reducible repeat (first | refine blk_drewN ?_ _ | refine blk_drew ?_ | refine blk_alloc ?_ _)); exact BK105.out⟩, ⟨by repeat (first | (with_reducible first | exact HB.out | apply below_alloc | apply pw_below_drewN | apply below_drew1 | refine below_set ?_ GE101.out | refine below_set ?_ GE105.out) | exact HB.out)⟩⟩
     case round =>
      clear H'
      try clear p2
      try clear c4
      try clear c4b0
      try clear c5
      try clear c5b0
      try clear c5b1
      try clear p6
      try clear c8
      try clear c9
      try clear hcz10_0
      try clear hfz10_0
      try clear p2
      obtain ⟨x9_2, x106000_2, u106000, rfl, HA, HK2, HO_7, HO_106000, BK101, BK105, HB⟩ := hrel
      cases gk with
      | zero => exact absurd HA.out (by simp [spec_l16Gluing.l1])
      | succ k2 =>
       have H := HA.out
       clear HA
       simp only [spec_l16Gluing.l1] at H
       by_cases c11 : x9_2 < a0
       next =>
        rw [if_pos c11] at H
        have c11b0 : decide (x9_2 < a0) = true := ygy c11
        clear c11
        replace H := ydy.mp H
        obtain ⟨t106, A120, H⟩ := H
        replace H : (if x106000_2.length < 5864062014805 then (spec_l16Gluing.l1 k2 a0 (Int.tmod a1 x5_1) x5_1 t102 (wrap64 (x9_2 + 1)) (x106000_2 ++ [t106])) else (none)) = some r := H
        have A12 := Aside0.mk A120
        clear A120
        by_cases c13 : x106000_2.length < 5864062014805
        rotate_left
        next =>
         rw [if_neg c13] at H
         exact absurd H (by simp)
        rw [if_pos c13] at H
        have LMc13 := Aside0.mk c13
        clear c13
        obtain ⟨y109, hy109⟩ : ∃ y_ : List (List (SFace)), y_ = (x106000_2 ++ [t106]) := ⟨_, rfl⟩
        replace H : (spec_l16Gluing.l1 k2 a0 (Int.tmod a1 x5_1) x5_1 t102 (wrap64 (x9_2 + 1)) y109) = some r := by first | (rw [hy109]; with_reducible exact H) | (have H2_ := (yfy _ _).symm.trans H; rw [hy109]; with_reducible exact H2_) | (have H2_ := (yfy _ _).symm.trans H; with_reducible exact H2_) | with_reducible exact H | (rw [hy109]; exact H) | exact H
        have Ny109 := Aside0.mk hy109
        clear hy109
        have H' := Aside0.mk H
        clear H
        try go_wp2
        have n0_ := Aside0.mk (Kd.R_drew HO_7.out)
        have n1_ := Aside0.mk (Kd.S_drew HO_106000.out)
        have n2_ := Aside0.mk (blk_drew BK101.out)
        have n3_ := Aside0.mk (blk_drew BK105.out)
        have n4_ := Aside0.mk (below_drew1 HB.out)
        clear HO_7
        clear HO_106000
        clear BK101
        clear BK105
        clear HB
        have HO_7 := n0_
        have HO_106000 := n1_
        have BK101 := n2_
        have BK105 := n3_
        have HB := n4_
        clear n0_ n1_ n2_ n3_ n4_
        refine start_ (n := 7) (S := fun w' => w'.cell? ⟨gb105, 0, none⟩ = some (u106000)) (ds := [6]) #[false, false, false, false, false, false, false] (by kernel_rfl) rfl rfl ((blk_cell BK105.out 0).trans rfl) (fun hHeld => ?_)
        generalize wr.drew = w14 at HO_7 HO_106000 BK101 BK105 HB hHeld ⊢
        refine pure_ (i := 0) (N := some 36) (v := ?_) (a' := ?_) #[true, false, false, false, false, false, false] rfl rfl (by kernel_rfl) (fun _ _ _ h => h) (Or.inl ⟨by rfl, ?_⟩) ?_ ?_
        rotate_left
        next =>
         intro w'
         go_simp
         with_reducible rfl
        rotate_left
        next =>
         simp only [Act.put, yay, yby, ycy, i64_w, i32_w]
         rfl
        refine take_ (i := 1) (N := some 37) (v := ?_) (a' := ?_) #[true, true, false, false, false, false, false] rfl rfl (by kernel_rfl) (fun _ _ _ h => h) (Or.inl ⟨by rfl, ?_⟩) hHeld ?_ ?_
        rotate_left
        next =>
         intro w' s0
         go_simp
         with_reducible rfl
        rotate_left
        next =>
         simp only [Act.put, yay, yby, ycy, i64_w, i32_w]
         rfl
        refine one_ (i := 2) (N := some 38) #[true, true, true, false, false, false, false] rfl rfl (by kernel_rfl) (by decide) (fun K hK => ?_)
        refine goes_ Try.func88 (by kernel_rfl) rfl #[] (by rfl) rfl rfl (by (try simp only [yiy, yjy, yky]); first | done | rfl | (simp only [yly, ymy]; rfl)) ?_
        with_reducible refine (spec_l07Free.calls  t106 _ A12.out).mono ?_
        rintro e w15 ⟨v107, rfl, ho0, hb⟩
        refine ⟨_, rfl, ?_⟩
        have n0_ := Aside0.mk (Kd.R_below (by (with_reducible repeat (first | apply Kd.R_alloc | apply Kd.R_drewN | apply Kd.R_drew)); exact HO_7.out) hb)
        have n1_ := Aside0.mk (Kd.S_elder' (by (with_reducible repeat (first | apply Kd.S_alloc | apply Kd.S_drewN | apply Kd.S_drew)); exact HO_106000.out) (Kd.R_base ho0) hb)
        have n2_ := Aside0.mk (Kd.R_lower ho0 (below_size (by repeat (first | (with_reducible first | exact HB.out | apply below_alloc | apply pw_below_drewN | apply below_drew1 | refine below_set ?_ GE101.out | refine below_set ?_ GE105.out) | exact HB.out))))
        have n3_ := Aside0.mk (blk_below (g := gb101) (o := .cells #[.slice none 0 0] 30 (0, 0)) (by (with_reducible repeat (first | refine blk_drewN ?_ _ | refine blk_drew ?_ | refine blk_alloc ?_ _)); exact BK101.out) hb)
        have n4_ := Aside0.mk (blk_below (g := gb105) (o := .cells #[u106000] 30 (0, 0)) (by (with_reducible repeat (first | refine blk_drewN ?_ _ | refine blk_drew ?_ | refine blk_alloc ?_ _)); exact BK105.out) hb)
        have n5_ := Aside0.mk (below_step (by repeat (first | (with_reducible first | exact HB.out | apply below_alloc | apply pw_below_drewN | apply below_drew1 | refine below_set ?_ GE101.out | refine below_set ?_ GE105.out) | exact HB.out)) hb)
        clear HO_7
        clear HO_106000
        clear BK101
        clear BK105
        clear HB
        have HO_7 := n0_
        have HO_106000 := n1_
        have HO108 := n2_
        have BK101 := n3_
        have BK105 := n4_
        have HB := n5_
        clear n0_ n1_ n2_ n3_ n4_ n5_
        (try clear hb)
        (try clear hb2)
        (try clear hk)
        (try clear hi)
        (try clear ho0)
        obtain ⟨Ao17, co17, eo17⟩ := Kd.R_slice HO108.out
        (first | subst eo17 | (injection eo17 with f1_ f2_ f3_; have f4_ := f1_.symm; have f5_ := f3_.symm; clear f1_ f2_ f3_; subst f4_; subst f5_))
        refine hK.out _ _ ((blk_cell BK105.out 0).trans rfl) (fun hHeld => ?_)
        clear hK K
        refine norm_ (a' := ?_) ?_ ?_
        rotate_left
        next =>
         show Act.put _ (some 38) _ = _
         simp only [Act.put, yay, yby, ycy, i64_w, i32_w]
         rfl
        refine one_ (i := 3) (N := some 39) #[true, true, true, true, false, false, false] rfl rfl (by kernel_rfl) (by decide) (fun K hK => ?_)
        refine value_ (w1 := ?_) (v := ?_) (by rfl) rfl ?_ ?_
        rotate_left 2
        next =>
         go_simp
         constructor
         next =>
          rfl
         next =>
          rfl
        refine hK.out _ _ ((blk_cell (blk_alloc BK105.out _) 0).trans rfl) (fun hHeld => ?_)
        clear hK K
        refine norm_ (a' := ?_) ?_ ?_
        rotate_left
        next =>
         show Act.put _ (some 39) _ = _
         simp only [Act.put, yay, yby, ycy, i64_w, i32_w]
         rfl
        refine one_ (i := 4) (N := some 40) #[true, true, true, true, true, false, false] rfl rfl (by kernel_rfl) (by decide) (fun K hK => ?_)
        refine Kd.S_append_step (Kd.slice 59 kFace) (w0 := w) w.heap.size (by rfl) (.tmp 37) (.tmp 39) 28 60 (.slice none 0 0) 24 rfl Try.underlying28 info60 rfl (by decide) (by omega) u106000 x106000_2 t106 [.slice Ao17 t106.length co17] (fun _ => True) (fun k_ => some k_ = (.slice Ao17 t106.length co17 : Value).ownBlock) rfl rfl ?aP (fun k_ hk_ => ((Kd.R_mono (ok' := fun k_ => ((fun _ => True)) k_ ∧ some k_ ≠ (u106000 : Value).ownBlock) (Kd.R_apart' (HO108.out) (Kd.S_typed HO_106000.out) (by decide)) (fun k_ hk => ⟨trivial, hk.2⟩))).1 k_ hk_.symm) ?aF ?aO ?aB ?aS ?aL ?_
        (case aP => exact Kd.M_row (Kd.R_mono (Kd.R_tight rfl (Kd.R_mono (ok' := fun k_ => ((fun _ => True)) k_ ∧ some k_ ≠ (u106000 : Value).ownBlock) (Kd.R_apart' (HO108.out) (Kd.S_typed HO_106000.out) (by decide)) (fun k_ hk => ⟨trivial, hk.2⟩))) (fun _ h_ => h_)))
        (case aB => exact (by repeat (first | (with_reducible first | exact HB.out | apply below_alloc | apply pw_below_drewN | apply below_drew1 | refine below_set ?_ GE101.out | refine below_set ?_ GE105.out) | exact HB.out)))
        (case aF => exact (fun _ _ => trivial))
        (case aO => exact (by (with_reducible repeat (first | apply Kd.S_alloc | apply Kd.S_drewN | apply Kd.S_drew)); exact Kd.S_mono HO_106000.out (fun k_ hk => ⟨trivial, fun e_ => hk.2 e_⟩)))
        (case aS => exact (below_size (by repeat (first | (with_reducible first | exact HB.out | apply below_alloc | apply pw_below_drewN | apply below_drew1 | refine below_set ?_ GE101.out | refine below_set ?_ GE105.out) | exact HB.out))))
        (case aL => have := LMc13.out; omega)
        intro v110 w16 ho hb hg hat
        rw [← Ny109.out] at ho
        have n0_ := Aside0.mk (Kd.R_over' (by (with_reducible repeat (first | apply Kd.R_alloc | apply Kd.R_drewN | apply Kd.R_drew)); exact HO_7.out) (Kd.S_typed (by (with_reducible repeat (first | apply Kd.S_alloc | apply Kd.S_drewN | apply Kd.S_drew)); exact HO_106000.out)) (by decide) hg)
        have n1_ := Aside0.mk (blk_grown (g := gb101) (o := .cells #[.slice none 0 0] 30 (0, 0)) (by (with_reducible repeat (first | refine blk_drewN ?_ _ | refine blk_drew ?_ | refine blk_alloc ?_ _)); exact BK101.out) hg (Kd.S_ne HO_106000.out BK101.out (by decide)))
        have n2_ := Aside0.mk (blk_grown (g := gb105) (o := .cells #[u106000] 30 (0, 0)) (by (with_reducible repeat (first | refine blk_drewN ?_ _ | refine blk_drew ?_ | refine blk_alloc ?_ _)); exact BK105.out) hg (Kd.S_ne HO_106000.out BK105.out (by decide)))
        have n3_ := Aside0.mk (hb)
        have n4_ := Aside0.mk (ho)
        clear HO_7
        clear BK101
        clear BK105
        clear HB
        clear HO_106000
        clear HO108
        have HO_7 := n0_
        have BK101 := n1_
        have BK105 := n2_
        have HB := n3_
        have HO111 := n4_
        clear n0_ n1_ n2_ n3_ n4_
        clear ho hb hg hat
        obtain ⟨Ao18, co18, eo18⟩ := Kd.S_slice HO111.out
        (first | subst eo18 | (injection eo18 with f1_ f2_ f3_; have f4_ := f1_.symm; have f5_ := f3_.symm; clear f1_ f2_ f3_; subst f4_; subst f5_))
        refine hK.out _ _ ((blk_cell BK105.out 0).trans rfl) (fun hHeld => ?_)
        clear hK K
        refine norm_ (a' := ?_) ?_ ?_
        rotate_left
        next =>
         show Act.put _ (some 40) _ = _
         simp only [Act.put, yay, yby, ycy, i64_w, i32_w]
         rfl
        refine pure_ (i := 5) (N := some 41) (v := ?_) (a' := ?_) #[true, true, true, true, true, true, false] rfl rfl (by kernel_rfl) (fun _ _ _ h => h) (Or.inl ⟨by rfl, ?_⟩) ?_ ?_
        rotate_left
        next =>
         intro w'
         go_simp
         with_reducible rfl
        rotate_left
        next =>
         simp only [Act.put, yay, yby, ycy, i64_w, i32_w]
         rfl
        refine last_ (i := 6) (N := none) #[true, true, true, true, true, true, true] rfl rfl (by kernel_rfl) (by decide) (fun K hK => ?_)
        have hs19 : w16.cell? ⟨gb105, 0, none⟩ = some (u106000) := (blk_cell BK105.out 0).trans rfl
        have hfs19 := blk_frozen BK105.out 0
        have hns19_0 := NB101_105.out
        have hms19_0 := NB105_101.out
        refine skip_ (w1 := ?_) (by rfl) rfl ?_ ?_
        rotate_left
        next =>
         go_simp
         rfl
        refine hK.out _ _ ?_
        clear hK K
        refine done_ (by kernel_rfl) ?_
        try go_wp2
        go_roundg k2
        case measure => have := HK1.out; have := HK2.out; omega
        case rel => exact ⟨(wrap64 (x9_2 + 1)), (y109), (.slice Ao18 y109.length co18), (by first | rfl | (simp; done) | (simp [*]; done)), H', ⟨by have := HK1.out; have := HK2.out; omega⟩, ⟨by (with_reducible repeat (first | apply Kd.R_alloc | apply Kd.R_drewN | apply Kd.R_drew)); exact Kd.R_mono (Kd.R_far (p := ⟨gb105, 0, none⟩) (Kd.R_types HO_7.out BK105.out (by decide)) (fun _ hk => hk.2) (.slice Ao18 y109.length co18)) (fun _ hk => trivial)⟩, ⟨by (with_reducible repeat (first | apply Kd.S_alloc | apply Kd.S_drewN | apply Kd.S_drew)); exact Kd.S_mono (Kd.S_far (p := ⟨gb105, 0, none⟩) (Kd.S_types HO111.out BK105.out (by decide)) (fun _ hk => hk.2) (.slice Ao18 y109.length co18)) (fun _ hk => trivial)⟩, ⟨by (with_reducible repeat (first | refine blk_drewN ?_ _ | refine blk_drew ?_ | refine blk_alloc ?_ _)); refine blk_far ?_ NB101_105.out _; (with_reducible repeat (first | refine blk_drewN ?_ _ | refine blk_drew ?_ | refine blk_alloc ?_ _)); exact BK101.out⟩, ⟨by (with_reducible repeat (first | refine blk_drewN ?_ _ | refine blk_drew ?_ | refine blk_alloc ?_ _)); refine blk_put (cs := #[u106000]) ?_ 0 _ rfl; (with_reducible repeat (first | refine blk_drewN ?_ _ | refine blk_drew ?_ | refine blk_alloc ?_ _)); exact BK105.out⟩, ⟨by repeat (first | (with_reducible first | exact HB.out | apply below_alloc | apply pw_below_drewN | apply below_drew1 | refine below_set ?_ GE101.out | refine below_set ?_ GE105.out) | exact HB.out)⟩⟩
       next =>
        rw [if_neg c11] at H
        have c11b0 : decide (x9_2 < a0) = false := yhy c11
        clear c11
        have H' := Aside0.mk H
        clear H
        go_wp2
        go_loopg [1, 5, 10] k2 (fun kq v1 v5 v10 w' => ∃ (x1_3 : Int) (x5_3 : Int) (x10_3 : Int) (x106000_3 : List (List (SFace))) (u106000 : Value), v1 = .int .i64 x1_3 ∧ v5 = .int .i64 x5_3 ∧ v10 = .int .i64 x10_3 ∧ Aside0 (spec_l16Gluing.l2 kq a0 x1_3 x5_3 t102 x10_3 x106000_3 = some r) ∧ Aside0 (kq ≤ k2) ∧ Aside0 (Kd.R (Kd.int .i64) 2 w' w.heap.size (fun _ => True) v103 t102) ∧ Aside0 (Kd.S (Kd.slice 59 kFace) 60 w' w.heap.size (fun _ => True) u106000 x106000_3) ∧ Aside0 (w'.heap[gb101]? = some (.cells #[(.slice none 0 0)] 30 (0, 0))) ∧ Aside0 (w'.heap[gb105]? = some (.cells #[u106000] 30 (0, 0))) ∧ Aside0 (Below w.heap.size w w'))
        case atStart => exact ⟨((Int.tmod a1 x5_1)), (x5_1), (0), (x106000_2), (u106000), (by first | rfl | (simp; done) | (simp [*]; done)), (by first | rfl | (simp; done) | (simp [*]; done)), (by first | rfl | (simp; done) | (simp [*]; done)), H', ⟨yoy _⟩, ⟨by (with_reducible repeat (first | apply Kd.R_alloc | apply Kd.R_drewN | apply Kd.R_drew)); exact HO_7.out⟩, ⟨by (with_reducible repeat (first | apply Kd.S_alloc | apply Kd.S_drewN | apply Kd.S_drew)); exact HO_106000.out⟩, ⟨by (with_reducible repeat (first | refine blk_drewN ?_ _ | refine blk_drew ?_ | refine blk_alloc ?_ _)); exact BK101.out⟩, ⟨by (with_reducible repeat (first | refine blk_drewN ?_ _ | refine blk_drew ?_ | refine blk_alloc ?_ _)); exact BK105.out⟩, ⟨by repeat (first | (with_reducible first | exact HB.out | apply below_alloc | apply pw_below_drewN | apply below_drew1 | refine below_set ?_ GE101.out | refine below_set ?_ GE105.out) | exact HB.out)⟩⟩
        case round =>
         clear H'
         try clear c1
         try clear p2
         try clear c4
         try clear c4b0
         try clear c5
         try clear c5b0
         try clear c5b1
         try clear p6
         try clear c8
         try clear c9
         try clear c11
         try clear c11b0
         try clear c13
         try clear hcz10_0
         try clear hfz10_0
         try clear p2
         try clear p6
         obtain ⟨x1_3, x5_3, x10_3, x106000_3, u106000, rfl, rfl, rfl, HA, HK3, HO_7, HO_106000, BK101, BK105, HB⟩ := hrel
         cases gk with
         | zero => exact absurd HA.out (by simp [spec_l16Gluing.l2])
         | succ k3 =>
          have H := HA.out
          clear HA
          simp only [spec_l16Gluing.l2] at H
          by_cases c20 : x10_3 < (wrap64 (4 * a0))
          rotate_left
          next =>
           rw [if_neg c20] at H
           have c20b0 : decide (x10_3 < (wrap64 (4 * a0))) = false := yhy c20
           clear c20
           obtain rfl := yey H
           have hnb39 := NB105_101.out
           have hnc39 := NB101_105.out
           have hcz40_0 : wr.cell? ⟨gb105, 0, none⟩ = some (u106000) := (blk_cell BK105.out 0).trans rfl
           have hfz40_0 := blk_frozen BK105.out 0
           obtain ⟨Ao41, co41, eo41⟩ := Kd.S_slice HO_106000.out
           subst eo41
           have hcz42_0 : wr.cell? ⟨gb101, 0, none⟩ = some (.slice none 0 0) := (blk_cell BK101.out 0).trans rfl
           have hfz42_0 := blk_frozen BK101.out 0
           go_wp2
           refine bodyPost_ret (results_cell_row rfl _ _ gb101 30 #[.slice Ao41 x106000_3.length co41] (0, 0) _ rfl (by (with_reducible repeat (first | refine blk_drewN ?_ _ | refine blk_drew ?_ | refine blk_alloc ?_ _)); refine blk_put (cs := #[.slice none 0 0]) ?_ 0 _ rfl; (with_reducible repeat (first | refine blk_drewN ?_ _ | refine blk_drew ?_ | refine blk_alloc ?_ _)); exact BK101.out) Try.underlying30 rfl (by kernel_rfl)) rfl ?_
           exact ⟨_, by first | rfl | (simp [errW_none, errW_some] <;> rfl) | (simp [*, errW_none, errW_some] <;> rfl), by (with_reducible repeat (first | apply Kd.S_alloc | apply Kd.S_drewN | apply Kd.S_drew)); exact Kd.S_mono (Kd.S_far (p := ⟨gb101, 0, none⟩) (Kd.S_types HO_106000.out BK101.out (by decide)) (fun _ hk => hk.2) (.slice Ao41 x106000_3.length co41)) (fun _ hk => trivial), by repeat (first | (with_reducible first | exact HB.out | apply below_alloc | apply pw_below_drewN | apply below_drew1 | refine below_set ?_ GE101.out | refine below_set ?_ GE105.out) | exact HB.out)⟩
          rw [if_pos c20] at H
          have c20b0 : decide (x10_3 < (wrap64 (4 * a0))) = true := ygy c20
          clear c20
          by_cases c21 : 0 ≤ x10_3
          rotate_left
          next =>
           rw [if_neg c21] at H
           exact absurd H (by simp)
          rw [if_pos c21] at H
          have c21b0 : decide (0 ≤ x10_3) = true := ygy c21
          clear c21
          by_cases c22 : x10_3 < (t102.length : Int)
          rotate_left
          next =>
           rw [if_neg c22] at H
           exact absurd H (by simp)
          rw [if_pos c22] at H
          have c22b0 : decide (x10_3 < (t102.length : Int)) = true := ygy c22
          clear c22
          by_cases c23 : (rd t102 x10_3) < x10_3
          next =>
           rw [if_pos c23] at H
           have c23b0 : decide ((rd t102 x10_3) < x10_3) = true := ygy c23
           clear c23
           have H' := Aside0.mk H
           clear H
           obtain ⟨Ao24, co24, eo24⟩ := Kd.R_slice HO_7.out
           subst eo24
           have p112 : 0 ≤ (x10_3 : Int) := of_decide_eq_true (by first | (with_reducible assumption) | assumption)
           have q112 : x10_3 < (t102.length : Int) := of_decide_eq_true (by first | (with_reducible assumption) | assumption)
           obtain ⟨ad112, e112, hx112_0⟩ := Kd.at_int (Kd.R_reads' HO_7.out).2.2 x10_3 p112 q112
           cases e112
           replace p112 := eq_true p112
           replace q112 := eq_true q112
           go_wp2
           go_roundg k3
           case measure => have := HK1.out; have := HK2.out; have := HK3.out; omega
           case rel => exact ⟨(x1_3), (x5_3), (wrap64 (x10_3 + 1)), (x106000_3), (u106000), (by first | rfl | (simp; done) | (simp [*]; done)), (by first | rfl | (simp; done) | (simp [*]; done)), (by first | rfl | (simp; done) | (simp [*]; done)), H', ⟨by have := HK1.out; have := HK2.out; have := HK3.out; omega⟩, ⟨by (with_reducible repeat (first | apply Kd.R_alloc | apply Kd.R_drewN | apply Kd.R_drew)); exact HO_7.out⟩, ⟨by (with_reducible repeat (first | apply Kd.S_alloc | apply Kd.S_drewN | apply Kd.S_drew)); exact HO_106000.out⟩, ⟨by (with_reducible repeat (first | refine blk_drewN ?_ _ | refine blk_drew ?_ | refine blk_alloc ?_ _)); exact BK101.out⟩, ⟨by (with_reducible repeat (first | refine blk_drewN ?_ _ | refine blk_drew ?_ | refine blk_alloc ?_ _)); exact BK105.out⟩, ⟨by repeat (first | (with_reducible first | exact HB.out | apply below_alloc | apply pw_below_drewN | apply below_drew1 | refine below_set ?_ GE101.out | refine below_set ?_ GE105.out) | exact HB.out)⟩⟩
          next =>
           rw [if_neg c23] at H
           have c23b0 : decide ((rd t102 x10_3) < x10_3) = false := yhy c23
           clear c23
           replace H := ydy.mp H
           obtain ⟨t113, A250, H⟩ := H
           replace H : (if (wrap64 (Int.tdiv x5_3 6)) = 0 then (none) else (if 0 ≤ (wrap64 (Int.tdiv x1_3 (wrap64 (Int.tdiv x5_3 6)))) then (if (wrap64 (Int.tdiv x1_3 (wrap64 (Int.tdiv x5_3 6)))) < (t113.length : Int) then ((spec_l07Glue.f k3 x106000_3 (wrap64 (Int.tdiv x10_3 4)) (Int.tmod x10_3 4) (wrap64 (Int.tdiv (rd t102 x10_3) 4)) (rd t113 (wrap64 (Int.tdiv x1_3 (wrap64 (Int.tdiv x5_3 6)))))).bind fun t117 => (spec_l16Gluing.l2 k3 a0 (Int.tmod x1_3 (wrap64 (Int.tdiv x5_3 6))) (wrap64 (Int.tdiv x5_3 6)) t102 (wrap64 (x10_3 + 1)) t117)) else (none)) else (none))) = some r := H
           have A25 := Aside0.mk A250
           clear A250
           by_cases c26 : (wrap64 (Int.tdiv x5_3 6)) = 0
           next =>
            rw [if_pos c26] at H
            exact absurd H (by simp)
           next =>
            rw [if_neg c26] at H
            have c26b0 : ((wrap64 (Int.tdiv x5_3 6)) == 0) = false := beq_eq_false_iff_ne.mpr c26
            have c26b1 : ((wrap64 (Int.tdiv x5_3 6)) != 0) = true := bne_iff_ne.mpr c26
            obtain ⟨ji27, hji27⟩ : ∃ j_ : Int, (wrap64 (Int.tdiv x1_3 (wrap64 (Int.tdiv x5_3 6)))) = j_ := ⟨_, rfl⟩
            replace H : (if 0 ≤ (ji27) then (if (ji27) < (t113.length : Int) then ((spec_l07Glue.f k3 x106000_3 (wrap64 (Int.tdiv x10_3 4)) (Int.tmod x10_3 4) (wrap64 (Int.tdiv (rd t102 x10_3) 4)) (rd t113 (ji27))).bind fun t117 => (spec_l16Gluing.l2 k3 a0 (Int.tmod x1_3 (wrap64 (Int.tdiv x5_3 6))) (wrap64 (Int.tdiv x5_3 6)) t102 (wrap64 (x10_3 + 1)) t117)) else (none)) else (none)) = some r := by first | (rw [hji27] at H; exact H) | (simp only [hji27] at H ⊢; exact H)
            (try rw [hji27] at A25)
            have hji27w : (IntKind.i64.wrap (Int.tdiv x1_3 (wrap64 (Int.tdiv x5_3 6)))) = ji27 := (i64_w _).trans hji27
            by_cases c28 : 0 ≤ (ji27)
            rotate_left
            next =>
             rw [if_neg c28] at H
             exact absurd H (by simp)
            rw [if_pos c28] at H
            have c28b0 : decide (0 ≤ (ji27)) = true := ygy c28
            clear c28
            by_cases c29 : (ji27) < (t113.length : Int)
            rotate_left
            next =>
             rw [if_neg c29] at H
             exact absurd H (by simp)
            rw [if_pos c29] at H
            have c29b0 : decide ((ji27) < (t113.length : Int)) = true := ygy c29
            clear c29
            replace H := ydy.mp H
            obtain ⟨t117, A300, H⟩ := H
            replace H : (spec_l16Gluing.l2 k3 a0 (Int.tmod x1_3 (wrap64 (Int.tdiv x5_3 6))) (wrap64 (Int.tdiv x5_3 6)) t102 (wrap64 (x10_3 + 1)) t117) = some r := H
            have A30 := Aside0.mk A300
            clear A300
            have H' := Aside0.mk H
            clear H
            obtain ⟨Ao31, co31, eo31⟩ := Kd.R_slice HO_7.out
            subst eo31
            have p112 : 0 ≤ (x10_3 : Int) := of_decide_eq_true (by first | (with_reducible assumption) | assumption)
            have q112 : x10_3 < (t102.length : Int) := of_decide_eq_true (by first | (with_reducible assumption) | assumption)
            obtain ⟨ad112, e112, hx112_0⟩ := Kd.at_int (Kd.R_reads' HO_7.out).2.2 x10_3 p112 q112
            cases e112
            replace p112 := eq_true p112
            replace q112 := eq_true q112
            try go_wp2
            have n0_ := Aside0.mk (Kd.R_drew HO_7.out)
            have n1_ := Aside0.mk (Kd.S_drew HO_106000.out)
            have n2_ := Aside0.mk (blk_drew BK101.out)
            have n3_ := Aside0.mk (blk_drew BK105.out)
            have n4_ := Aside0.mk (below_drew1 HB.out)
            clear HO_7
            clear HO_106000
            clear BK101
            clear BK105
            clear HB
            have HO_7 := n0_
            have HO_106000 := n1_
            have BK101 := n2_
            have BK105 := n3_
            have HB := n4_
            clear n0_ n1_ n2_ n3_ n4_
            refine start_ (n := 11) (S := fun w' => True) (ds := []) #[false, false, false, false, false, false, false, false, false, false, false] (by kernel_rfl) rfl rfl trivial (fun hHeld => ?_); refine with_tabW spec_l16Gluing.tab19 spec_l16Gluing.bits19 (fun HT_ HW_ => ?_)
            generalize wr.drew = w32 at HO_7 HO_106000 BK101 BK105 HB hHeld ⊢
            refine pure_ (i := 0) (N := some 57) (v := ?_) (a' := ?_) #[true, false, false, false, false, false, false, false, false, false, false] rfl rfl (any_of HT_.out (by kernel_rfl)) (fun _ _ _ h => h) (Or.inl ⟨by rfl, ?_⟩) ?_ ?_
            rotate_left
            next =>
             intro w'
             go_simp
             with_reducible rfl
            rotate_left
            next =>
             simp only [Act.put, yay, yby, ycy, i64_w, i32_w]
             rfl
            refine pure_ (i := 1) (N := some 58) (v := ?_) (a' := ?_) #[true, true, false, false, false, false, false, false, false, false, false] rfl rfl (any_of HT_.out (by kernel_rfl)) (fun _ _ _ h => h) (Or.inl ⟨by rfl, ?_⟩) ?_ ?_
            rotate_left
            next =>
             intro w'
             go_simp
             with_reducible rfl
            rotate_left
            next =>
             simp only [Act.put, yay, yby, ycy, i64_w, i32_w]
             rfl
            refine pure_ (i := 2) (N := some 59) (v := ?_) (a' := ?_) #[true, true, true, false, false, false, false, false, false, false, false] rfl rfl (any_of HT_.out (by kernel_rfl)) (fun _ _ _ h => h) (Or.inl ⟨by rfl, ?_⟩) ?_ ?_
            rotate_left
            next =>
             intro w'
             go_simp
             with_reducible rfl
            rotate_left
            next =>
             simp only [Act.put, yay, yby, ycy, i64_w, i32_w]
             rfl
            refine pure_ (i := 3) (N := some 60) (v := ?_) (a' := ?_) #[true, true, true, true, false, false, false, false, false, false, false] rfl rfl (any_of HT_.out (by kernel_rfl)) (fun _ _ _ h => h) (Or.inl ⟨by rfl, ?_⟩) ?_ ?_
            rotate_left
            next =>
             intro w'
             go_simp
             with_reducible rfl
            rotate_left
            next =>
             simp only [Act.put, yay, yby, ycy, i64_w, i32_w]
             rfl
            refine pure_ (i := 5) (N := some 62) (v := ?_) (a' := ?_) #[true, true, true, true, false, true, false, false, false, false, false] rfl rfl (any_of HT_.out (by kernel_rfl)) (fun _ _ _ h => h) (Or.inl ⟨by rfl, ?_⟩) ?_ ?_
            rotate_left
            next =>
             intro w'
             go_simp
             with_reducible rfl
            rotate_left
            next =>
             simp only [Act.put, yay, yby, ycy, i64_w, i32_w]
             rfl
            refine pure_ (i := 6) (N := some 63) (v := ?_) (a' := ?_) #[true, true, true, true, false, true, true, false, false, false, false] rfl rfl (any_of HT_.out (by kernel_rfl)) (fun _ _ _ h => h) (Or.inl ⟨by rfl, ?_⟩) ?_ ?_
            rotate_left
            next =>
             intro w'
             go_simp
             with_reducible rfl
            rotate_left
            next =>
             simp only [Act.put, yay, yby, ycy, i64_w, i32_w]
             rfl
            refine pure_ (i := 7) (N := some 64) (v := ?_) (a' := ?_) #[true, true, true, true, false, true, true, true, false, false, false] rfl rfl (any_of HT_.out (by kernel_rfl)) (fun _ _ _ h => h) (Or.inl ⟨by rfl, ?_⟩) ?_ ?_
            rotate_left
            next =>
             intro w'
             go_simp
             with_reducible rfl
            rotate_left
            next =>
             simp only [Act.put, yay, yby, ycy, i64_w, i32_w]
             rfl
            refine one_ (i := 4) (N := some 61) #[true, true, true, true, true, true, true, true, false, false, false] rfl rfl (one_of HT_.out (by kernel_rfl)) (by decide) (fun K hK => ?_)
            refine goes_ Try.func38 (by kernel_rfl) rfl #[.int .i64 (Int.tmod x10_3 4), .int .i64 (Int.tmod (rd t102 x10_3) 4)] (by rfl) rfl rfl (by (try simp only [yiy, yjy, yky]); first | done | rfl | (simp only [yly, ymy]; rfl)) ?_
            with_reducible refine (spec_l16Perms.calls k3 (Int.tmod x10_3 4) (Int.tmod (rd t102 x10_3) 4) t113 _ A25.out).mono ?_
            rintro e w33 ⟨v114, rfl, ho0, hb⟩
            refine ⟨_, rfl, ?_⟩
            have n0_ := Aside0.mk (Kd.R_elder' (by (with_reducible repeat (first | apply Kd.R_alloc | apply Kd.R_drewN | apply Kd.R_drew)); exact HO_7.out) (Kd.R_base ho0) hb)
            have n1_ := Aside0.mk (Kd.S_below (by (with_reducible repeat (first | apply Kd.S_alloc | apply Kd.S_drewN | apply Kd.S_drew)); exact HO_106000.out) hb)
            have n2_ := Aside0.mk (Kd.R_lower (Kd.R_new' ho0 (Kd.R_lt (by (with_reducible repeat (first | apply Kd.R_alloc | apply Kd.R_drewN | apply Kd.R_drew)); exact HO_7.out))) (below_size (by repeat (first | (with_reducible first | exact HB.out | apply below_alloc | apply pw_below_drewN | apply below_drew1 | refine below_set ?_ GE101.out | refine below_set ?_ GE105.out) | exact HB.out))))
            have n3_ := Aside0.mk (blk_below (g := gb101) (o := .cells #[.slice none 0 0] 30 (0, 0)) (by (with_reducible repeat (first | refine blk_drewN ?_ _ | refine blk_drew ?_ | refine blk_alloc ?_ _)); exact BK101.out) hb)
            have n4_ := Aside0.mk (blk_below (g := gb105) (o := .cells #[u106000] 30 (0, 0)) (by (with_reducible repeat (first | refine blk_drewN ?_ _ | refine blk_drew ?_ | refine blk_alloc ?_ _)); exact BK105.out) hb)
            have n5_ := Aside0.mk (below_step (by repeat (first | (with_reducible first | exact HB.out | apply below_alloc | apply pw_below_drewN | apply below_drew1 | refine below_set ?_ GE101.out | refine below_set ?_ GE105.out) | exact HB.out)) hb)
            clear HO_7
            clear HO_106000
            clear BK101
            clear BK105
            clear HB
            have HO_7 := n0_
            have HO_106000 := n1_
            have HO115 := n2_
            have BK101 := n3_
            have BK105 := n4_
            have HB := n5_
            clear n0_ n1_ n2_ n3_ n4_ n5_
            (try clear hb)
            (try clear hb2)
            (try clear hk)
            (try clear hi)
            (try clear ho0)
            obtain ⟨Ao34, co34, eo34⟩ := Kd.R_slice HO115.out
            (first | subst eo34 | (injection eo34 with f1_ f2_ f3_; have f4_ := f1_.symm; have f5_ := f3_.symm; clear f1_ f2_ f3_; subst f4_; subst f5_))
            have p116 : 0 ≤ ((ji27) : Int) := of_decide_eq_true (by first | (with_reducible assumption) | assumption)
            have q116 : (ji27) < (t113.length : Int) := of_decide_eq_true (by first | (with_reducible assumption) | assumption)
            obtain ⟨ad116, e116, hx116_0⟩ := Kd.at_int (Kd.R_reads' HO115.out).2.2 (ji27) p116 q116
            cases e116
            replace p116 := eq_true p116
            replace q116 := eq_true q116
            refine hK.out _ _ trivial (fun hHeld => ?_)
            clear hK K
            refine norm_ (a' := ?_) ?_ ?_
            rotate_left
            next =>
             show Act.put _ (some 61) _ = _
             simp only [Act.put, yay, yby, ycy, i64_w, i32_w]
             rfl
            refine pure_ (i := 8) (N := some 65) (v := ?_) (a' := ?_) #[true, true, true, true, true, true, true, true, true, false, false] rfl rfl (any_of HT_.out (by kernel_rfl)) (fun _ _ _ h => h) (Or.inl ⟨by rfl, ?_⟩) ?_ ?_
            rotate_left
            next =>
             intro w'
             go_simp
             with_reducible rfl
            rotate_left
            next =>
             simp only [Act.put, yay, yby, ycy, i64_w, i32_w]
             rfl
            refine one_ (i := 9) (N := some 66) #[true, true, true, true, true, true, true, true, true, true, false] rfl rfl (one_of HT_.out (by kernel_rfl)) (by decide) (fun K hK => ?_)
            refine spec_l16Gluing.look_ (v := ?_) (by rfl) rfl ?_ ?_
            rotate_left
            next =>
             go_simp
             rfl
            refine hK.out _ _ trivial (fun hHeld => ?_)
            clear hK K
            refine norm_ (a' := ?_) ?_ ?_
            rotate_left
            next =>
             show Act.put _ (some 66) _ = _
             simp only [Act.put, yay, yby, ycy, i64_w, i32_w]
             rfl
            refine pure_ (i := 10) (N := some 12) (v := ?_) (a' := ?_) #[true, true, true, true, true, true, true, true, true, true, true] rfl rfl (any_of HT_.out (by kernel_rfl)) (fun _ _ _ h => h) (Or.inl ⟨by rfl, ?_⟩) ?_ ?_
            rotate_left
            next =>
             intro w'
             go_simp
             with_reducible rfl
            rotate_left
            next =>
             simp only [Act.put, yay, yby, ycy, i64_w, i32_w]
             rfl
            refine done_ (done_of HT_.out (by kernel_rfl)) ?_
            have hnb35 := NB105_101.out
            have hnc35 := NB101_105.out
            have hcz36_0 : w33.cell? ⟨gb105, 0, none⟩ = some (u106000) := (blk_cell BK105.out 0).trans rfl
            have hfz36_0 := blk_frozen BK105.out 0
            obtain ⟨Ao37, co37, eo37⟩ := Kd.S_slice HO_106000.out
            subst eo37
            try go_wp2_with (first | ((with_reducible refine gate_callee (f := 89) rfl ?_); refine goesL_ (some 78) rfl rfl Try.func89 (by kernel_rfl) rfl #[.agg #[.slice Ao37 x106000_3.length co37], .int .i64 (wrap64 (Int.tdiv x10_3 4)), .int .i64 (Int.tmod x10_3 4), .int .i64 (wrap64 (Int.tdiv (rd t102 x10_3) 4)), .int .i64 (rd t113 (ji27))] rfl (by (try simp only [yiy, yjy, yky]); first | done | (simp only [hji27]; rfl) | rfl | (simp only [yly, ymy]; rfl)) ?_; (with_reducible refine (spec_l07Glue.calls k3 _ (.slice Ao37 x106000_3.length co37) x106000_3 (wrap64 (Int.tdiv x10_3 4)) (Int.tmod x10_3 4) (wrap64 (Int.tdiv (rd t102 x10_3) 4)) (rd t113 (ji27)) t117 w _ ?side1 (Kd.S_mono (Kd.S_bound (HO_106000.out)) (fun _ h_ => h_.2.2.2)) A30.out).mono ?_); (case side1 => repeat (first | (with_reducible first | exact HB.out | apply below_alloc | apply pw_below_drewN | apply below_drew1 | refine below_set ?_ GE101.out | refine below_set ?_ GE105.out) | exact HB.out)); rintro e w38 ⟨rfl, hy0, hb, hkp⟩; refine ⟨_, rfl, ?_⟩; have n0_ := Aside0.mk (spec_l16Gluing.int_kept (ok' := fun k_ => some k_ ≠ (.slice (some ad116) t113.length co34 : Value).ownBlock) HO_7.out hkp (fun k_ hk_ => by obtain ⟨q_, hq_, c_, hc_⟩ := hk_; exact ⟨q_, fun e_ => by subst e_; revert hq_; decide, c_, hc_⟩) (fun k_ hk_ => (HO_7.out.1 k_ hk_).2)); have n1_ := Aside0.mk (Kd.S_mono hy0 (fun _ _ => trivial)); have n2_ := Aside0.mk (blk_kept (by (with_reducible repeat (first | refine blk_drewN ?_ _ | refine blk_drew ?_ | refine blk_alloc ?_ _)); exact BK101.out) hkp (fun hs_ => (fun e_ => by obtain ⟨q_, hq_, c_, hc_⟩ := e_; have h2_ := (BK101.out).symm.trans hc_; injection h2_ with h2_; injection h2_ with _ h2_; subst h2_; revert hq_; decide) hs_)); have n3_ := Aside0.mk (blk_kept (by (with_reducible repeat (first | refine blk_drewN ?_ _ | refine blk_drew ?_ | refine blk_alloc ?_ _)); exact BK105.out) hkp (fun hs_ => (fun e_ => by obtain ⟨q_, hq_, c_, hc_⟩ := e_; have h2_ := (BK105.out).symm.trans hc_; injection h2_ with h2_; injection h2_ with _ h2_; subst h2_; revert hq_; decide) hs_)); have n4_ := Aside0.mk (spec_l16Gluing.int_kept (ok' := fun k_ => some k_ ≠ (.slice (some ad112) t102.length co31 : Value).ownBlock) HO115.out hkp (fun k_ hk_ => by obtain ⟨q_, hq_, c_, hc_⟩ := hk_; exact ⟨q_, fun e_ => by subst e_; revert hq_; decide, c_, hc_⟩) (fun k_ hk_ => (HO115.out.1 k_ hk_).2)); have n5_ := Aside0.mk (hb); clear HO_7; clear HO_106000; clear BK101; clear BK105; clear HO115; clear HB; have HO_7 := n0_; have HO_106000 := n1_; have BK101 := n2_; have BK105 := n3_; have HO115 := n4_; have HB := n5_; clear n0_ n1_ n2_ n3_ n4_ n5_; (try clear hb); (try clear hkp); (try clear hy0)))
            go_roundg k3
            case measure => have := HK1.out; have := HK2.out; have := HK3.out; omega
            case rel => exact ⟨(Int.tmod x1_3 (wrap64 (Int.tdiv x5_3 6))), (wrap64 (Int.tdiv x5_3 6)), (wrap64 (x10_3 + 1)), (t117), (.slice Ao37 x106000_3.length co37), (by first | rfl | (simp; done) | (simp [*]; done)), (by first | rfl | (simp; done) | (simp [*]; done)), (by first | rfl | (simp; done) | (simp [*]; done)), H', ⟨by have := HK1.out; have := HK2.out; have := HK3.out; omega⟩, ⟨by (with_reducible repeat (first | apply Kd.R_alloc | apply Kd.R_drewN | apply Kd.R_drew)); exact Kd.R_mono HO_7.out (fun _ hk => trivial)⟩, ⟨by (with_reducible repeat (first | apply Kd.S_alloc | apply Kd.S_drewN | apply Kd.S_drew)); exact HO_106000.out⟩, ⟨by (with_reducible repeat (first | refine blk_drewN ?_ _ | refine blk_drew ?_ | refine blk_alloc ?_ _)); exact BK101.out⟩, ⟨by (with_reducible repeat (first | refine blk_drewN ?_ _ | refine blk_drew ?_ | refine blk_alloc ?_ _)); exact BK105.out⟩, ⟨by repeat (first | (with_reducible first | exact HB.out | apply below_alloc | apply pw_below_drewN | apply below_drew1 | refine below_set ?_ GE101.out | refine below_set ?_ GE105.out) | exact HB.out)⟩⟩
/-! ### spec_l16Size: function 49 -/
def spec_l16Size.l0 : Nat → Int → Int → Int → Option (Int)
  | 0, _, _, _ => none
  | k + 1, x0, x3, x4 => if x4 < (wrap64 (2 * x0)) then (spec_l16Size.l0 k x0 (wrap64 (x3 * 6)) (wrap64 (x4 + 1))) else (some x3)
def spec_l16Size.f (k : Nat) (a0 : Int) : Option (Int) := (spec_l16Matchings.f k (wrap64 (4 * a0))).bind fun t101 => (spec_l16Size.l0 k a0 t101 0)
theorem spec_l16Size.mono_l : ∀ k, (∀ y0 y1 y2, LeO (spec_l16Size.l0 k y0 y1 y2) (spec_l16Size.l0 (k + 1) y0 y1 y2))
  | 0 => fun _ _ _ r h => by simp [spec_l16Size.l0] at h
  | k + 1 => by
    have ih0 := spec_l16Size.mono_l k
    · intro y0 y1 y2
      unfold spec_l16Size.l0
      repeat' first
      | (with_reducible exact ih0 _ _ _)
      | (with_reducible exact spec_l16Matchings.mono _ _)
      | (with_reducible exact LeO.refl _)
      | (with_reducible exact LeO.none _)
      | (with_reducible refine LeO.ite ?_ ?_)
      | (with_reducible refine LeO.bind ?_ (fun _ => ?_))
      | exact ih0 _ _ _
      | exact spec_l16Matchings.mono _ _
      | exact LeO.none _
      | refine LeO.ite ?_ ?_
      | refine LeO.bind ?_ (fun _ => ?_)
theorem spec_l16Size.mono : ∀ a0 k, LeO (spec_l16Size.f k a0) (spec_l16Size.f (k + 1) a0) := by
  intro a0 k
  have ih0 := spec_l16Size.mono_l k
  unfold spec_l16Size.f
  repeat' first
      | (with_reducible exact ih0 _ _ _)
      | (with_reducible exact spec_l16Matchings.mono _ _)
      | (with_reducible exact LeO.refl _)
      | (with_reducible exact LeO.none _)
      | (with_reducible refine LeO.ite ?_ ?_)
      | (with_reducible refine LeO.bind ?_ (fun _ => ?_))
      | exact ih0 _ _ _
      | exact spec_l16Matchings.mono _ _
      | exact LeO.none _
      | refine LeO.ite ?_ ?_
      | refine LeO.bind ?_ (fun _ => ?_)
set_option maxHeartbeats 8000000 in
set_option maxRecDepth 100000 in
theorem spec_l16Size.calls (k : Nat) (a0 : Int) (r : Int) (w : World) (h : spec_l16Size.f k a0 = some r) :
    Calls Try.prog 49 #[.int .i64 a0] w fun e w' => e = .returned (.int .i64 r) ∧ Drawn0 w w' := by
  have H : ((spec_l16Matchings.f k (wrap64 (4 * a0))).bind fun t101 => (spec_l16Size.l0 k a0 t101 0)) = some r := h
  clear h
  replace H := ydy.mp H
  obtain ⟨t101, A20, H⟩ := H
  replace H : (spec_l16Size.l0 k a0 t101 0) = some r := H
  have A2 := Aside0.mk A20
  clear A20
  have H' := Aside0.mk H
  clear H
  go_enter Try.func49, Try.ntmps49
  go_wp2_with (first | ((with_reducible refine gate_callee (f := 37) rfl ?_); refine goesL_ (some 7) rfl rfl Try.func37 (by kernel_rfl) rfl #[.int .i64 (wrap64 (4 * a0))] rfl (by (try simp only [yiy, yjy, yky]); first | done | rfl | (simp only [yly, ymy]; rfl)) ?_; (with_reducible refine (spec_l16Matchings.calls k (wrap64 (4 * a0)) t101 _ A2.out).mono ?_); rintro e w' ⟨rfl, ⟨nd, rfl⟩⟩; refine ⟨_, rfl, ?_⟩))
  go_loopg [3, 4] k (fun kq v3 v4 w' => ∃ (x3_1 : Int) (x4_1 : Int), v3 = .int .i64 x3_1 ∧ v4 = .int .i64 x4_1 ∧ Aside0 (spec_l16Size.l0 kq a0 x3_1 x4_1 = some r) ∧ Aside0 (kq ≤ k) ∧ Drawn0 w w')
  case atStart => exact ⟨(t101), (0), (by first | rfl | (simp; done) | (simp [*]; done)), (by first | rfl | (simp; done) | (simp [*]; done)), H', ⟨yoy _⟩, by repeat (first | exact Drawn0.refl _ | apply Drawn0.step)⟩
  case round =>
    clear H'
    try clear p2
    obtain ⟨x3_1, x4_1, rfl, rfl, HA, HK1, ⟨m1, rfl⟩⟩ := hrel
    cases gk with
    | zero => exact absurd HA.out (by simp [spec_l16Size.l0])
    | succ k1 =>
      have H := HA.out
      clear HA
      simp only [spec_l16Size.l0] at H
      by_cases c3 : x4_1 < (wrap64 (2 * a0))
      · rw [if_pos c3] at H
        have c3b0 : decide (x4_1 < (wrap64 (2 * a0))) = true := ygy c3
        clear c3
        have H' := Aside0.mk H
        clear H
        go_wp2
        go_roundg k1
        case measure => have := HK1.out; omega
        case rel => exact ⟨(wrap64 (x3_1 * 6)), (wrap64 (x4_1 + 1)), (by first | rfl | (simp; done) | (simp [*]; done)), (by first | rfl | (simp; done) | (simp [*]; done)), H', ⟨by have := HK1.out; omega⟩, by repeat (first | exact Drawn0.refl _ | apply Drawn0.step)⟩
      · rw [if_neg c3] at H
        have c3b0 : decide (x4_1 < (wrap64 (2 * a0))) = false := yhy c3
        clear c3
        obtain rfl := yey H
        go_wp2
        go_ret
        exact ⟨by first | rfl | (simp; done) | (simp [*]; done), by repeat (first | exact Drawn0.refl _ | apply Drawn0.step)⟩
/-! ### spec_GluingAt: function 13 -/
def spec_GluingAt.f (k : Nat) (a0 : Int) (a1 : Int) : Option ((List (List (SFace))) × Int) := (spec_l07In.f a0 1 4).bind fun t102 => (if t102 = true then ((spec_l16Size.f k a0).bind fun t103 => ((spec_l07In.f a1 0 (wrap64 (t103 - 1))).bind fun t104 => (if t104 = true then ((spec_l16Gluing.f k a0 a1).bind fun t105 => (some (t105, 0))) else (some (([] : List (List (SFace))), 4))))) else (some (([] : List (List (SFace))), 2)))
set_option maxHeartbeats 8000000 in
set_option maxRecDepth 100000 in
theorem spec_GluingAt.calls (k : Nat) (a0 : Int) (a1 : Int) (r1 : List (List (SFace))) (r2 : Int) (w : World) (h : spec_GluingAt.f k a0 a1 = some (r1, r2)) :
    Calls Try.prog 13 #[.int .i64 a0, .int .i64 a1] w fun e w' => ∃ v0_ : Value, e = .returned (.tuple #[.agg #[v0_], .int .i64 r2]) ∧ Kd.S (Kd.slice 59 kFace) 60 w' w.heap.size (fun _ => True) v0_ r1 ∧ Below w.heap.size w w' := by
  have hu30 := Try.underlying30
  have HB := Aside0.mk (Below.refl w.heap.size w)
  have H : ((spec_l07In.f a0 1 4).bind fun t102 => (if t102 = true then ((spec_l16Size.f k a0).bind fun t103 => ((spec_l07In.f a1 0 (wrap64 (t103 - 1))).bind fun t104 => (if t104 = true then ((spec_l16Gluing.f k a0 a1).bind fun t105 => (some (t105, 0))) else (some (([] : List (List (SFace))), 4))))) else (some (([] : List (List (SFace))), 2)))) = some (r1, r2) := h
  clear h
  replace H := ydy.mp H
  obtain ⟨t102, A30, H⟩ := H
  replace H : (if t102 = true then ((spec_l16Size.f k a0).bind fun t103 => ((spec_l07In.f a1 0 (wrap64 (t103 - 1))).bind fun t104 => (if t104 = true then ((spec_l16Gluing.f k a0 a1).bind fun t105 => (some (t105, 0))) else (some (([] : List (List (SFace))), 4))))) else (some (([] : List (List (SFace))), 2))) = some (r1, r2) := H
  have A3 := Aside0.mk A30
  clear A30
  by_cases c4 : t102 = true
  · subst c4
    have H1 : ((spec_l16Size.f k a0).bind fun t103 => ((spec_l07In.f a1 0 (wrap64 (t103 - 1))).bind fun t104 => (if t104 = true then ((spec_l16Gluing.f k a0 a1).bind fun t105 => (some (t105, 0))) else (some (([] : List (List (SFace))), 4))))) = some (r1, r2) := by rw [if_pos rfl] at H; exact H
    clear H
    have H := H1
    clear H1
    replace H := ydy.mp H
    obtain ⟨t103, A50, H⟩ := H
    replace H : ((spec_l07In.f a1 0 (wrap64 (t103 - 1))).bind fun t104 => (if t104 = true then ((spec_l16Gluing.f k a0 a1).bind fun t105 => (some (t105, 0))) else (some (([] : List (List (SFace))), 4)))) = some (r1, r2) := H
    have A5 := Aside0.mk A50
    clear A50
    replace H := ydy.mp H
    obtain ⟨t104, A60, H⟩ := H
    replace H : (if t104 = true then ((spec_l16Gluing.f k a0 a1).bind fun t105 => (some (t105, 0))) else (some (([] : List (List (SFace))), 4))) = some (r1, r2) := H
    have A6 := Aside0.mk A60
    clear A60
    by_cases c7 : t104 = true
    · subst c7
      have H1 : ((spec_l16Gluing.f k a0 a1).bind fun t105 => (some (t105, 0))) = some (r1, r2) := by rw [if_pos rfl] at H; exact H
      clear H
      have H := H1
      clear H1
      replace H := ydy.mp H
      obtain ⟨t105, A80, H⟩ := H
      replace H : (some (t105, 0)) = some (r1, r2) := H
      have A8 := Aside0.mk A80
      clear A80
      simp only [Option.some.injEq, Prod.mk.injEq] at H
      obtain ⟨rfl, rfl⟩ := H
      go_enter Try.func13, Try.ntmps13
      go_wp2_with (first | ((with_reducible refine gate_dst (N := 4) rfl ?_); refine box_event ?hg (N := 4) ?hd (cs := #[.slice none 0 0]) (t := 30) ?hr ?_; (case hd => rfl); (case hg => rfl); (case hr => first | (go_simp; done) | (go_simp; rfl)); intro gb101 hg w9 hbox hb; have n0_ := Aside0.mk (below_step (by repeat (first | (with_reducible first | exact HB.out | apply below_alloc | apply pw_below_drewN | apply below_drew1) | exact HB.out)) hb); have n1_ := Aside0.mk (hbox); have n2_ := Aside0.mk ((by rw [hg]; exact (below_size (by repeat (first | (with_reducible first | exact HB.out | apply below_alloc | apply pw_below_drewN | apply below_drew1) | exact HB.out))) : w.heap.size ≤ gb101)); have n3_ := Aside0.mk ((by rw [hg]; exact (below_size (by repeat (first | (with_reducible first | exact HB.out | apply below_alloc | apply pw_below_drewN | apply below_drew1) | exact HB.out))) : w.heap.size ≤ gb101)); clear HB; have HB := n0_; have BK101 := n1_; have GW101 := n2_; have GE101 := n3_; clear n0_ n1_ n2_ n3_; clear hb hbox hg) | ((with_reducible refine gate_callee (f := 48) rfl ?_); refine goesL_ (some 7) rfl rfl Try.func48 (by kernel_rfl) rfl #[.int .i64 a0, .int .i64 1, .int .i64 4] rfl (by (try simp only [yiy, yjy, yky]); first | done | rfl | (simp only [yly, ymy]; rfl)) ?_; (with_reducible refine (spec_l07In.calls a0 1 4 true _ A3.out).mono ?_); rintro e w' ⟨rfl, ⟨nd, rfl⟩⟩; refine ⟨_, rfl, ?_⟩; (try (rw [drewN_self w9]; generalize hq_ : World.drewN w9 _ = w9; have n0_ : Aside0 (w9.heap[gb101]? = some (.cells #[.slice none 0 0] 30 (0, 0))) := ⟨by rw [← hq_]; exact (by (with_reducible repeat (first | refine blk_drewN ?_ _ | refine blk_drew ?_ | refine blk_alloc ?_ _)); exact BK101.out)⟩; have n1_ : Aside0 (Below w.heap.size w w9) := ⟨by rw [← hq_]; exact (by repeat (first | (with_reducible first | exact HB.out | apply below_alloc | apply pw_below_drewN | apply below_drew1 | refine below_set ?_ GE101.out) | exact HB.out))⟩; clear BK101 HB hq_; have BK101 := n0_; have HB := n1_; clear n0_ n1_))) | ((with_reducible refine gate_callee (f := 49) rfl ?_); refine goesL_ (some 12) rfl rfl Try.func49 (by kernel_rfl) rfl #[.int .i64 a0] rfl (by (try simp only [yiy, yjy, yky]); first | done | rfl | (simp only [yly, ymy]; rfl)) ?_; (with_reducible refine (spec_l16Size.calls k a0 t103 _ A5.out).mono ?_); rintro e w' ⟨rfl, ⟨nd, rfl⟩⟩; refine ⟨_, rfl, ?_⟩; (try (rw [drewN_self w9]; generalize hq_ : World.drewN w9 _ = w9; have n0_ : Aside0 (w9.heap[gb101]? = some (.cells #[.slice none 0 0] 30 (0, 0))) := ⟨by rw [← hq_]; exact (by (with_reducible repeat (first | refine blk_drewN ?_ _ | refine blk_drew ?_ | refine blk_alloc ?_ _)); exact BK101.out)⟩; have n1_ : Aside0 (Below w.heap.size w w9) := ⟨by rw [← hq_]; exact (by repeat (first | (with_reducible first | exact HB.out | apply below_alloc | apply pw_below_drewN | apply below_drew1 | refine below_set ?_ GE101.out) | exact HB.out))⟩; clear BK101 HB hq_; have BK101 := n0_; have HB := n1_; clear n0_ n1_))) | ((with_reducible refine gate_callee (f := 48) rfl ?_); refine goesL_ (some 14) rfl rfl Try.func48 (by kernel_rfl) rfl #[.int .i64 a1, .int .i64 0, .int .i64 (wrap64 (t103 - 1))] rfl (by (try simp only [yiy, yjy, yky]); first | done | rfl | (simp only [yly, ymy]; rfl)) ?_; (with_reducible refine (spec_l07In.calls a1 0 (wrap64 (t103 - 1)) true _ A6.out).mono ?_); rintro e w' ⟨rfl, ⟨nd, rfl⟩⟩; refine ⟨_, rfl, ?_⟩; (try (rw [drewN_self w9]; generalize hq_ : World.drewN w9 _ = w9; have n0_ : Aside0 (w9.heap[gb101]? = some (.cells #[.slice none 0 0] 30 (0, 0))) := ⟨by rw [← hq_]; exact (by (with_reducible repeat (first | refine blk_drewN ?_ _ | refine blk_drew ?_ | refine blk_alloc ?_ _)); exact BK101.out)⟩; have n1_ : Aside0 (Below w.heap.size w w9) := ⟨by rw [← hq_]; exact (by repeat (first | (with_reducible first | exact HB.out | apply below_alloc | apply pw_below_drewN | apply below_drew1 | refine below_set ?_ GE101.out) | exact HB.out))⟩; clear BK101 HB hq_; have BK101 := n0_; have HB := n1_; clear n0_ n1_))) | ((with_reducible refine gate_callee (f := 50) rfl ?_); refine goesL_ (some 19) rfl rfl Try.func50 (by kernel_rfl) rfl #[.int .i64 a0, .int .i64 a1] rfl (by (try simp only [yiy, yjy, yky]); first | done | rfl | (simp only [yly, ymy]; rfl)) ?_; (with_reducible refine (spec_l16Gluing.calls k a0 a1 t105 _ A8.out).mono ?_); rintro e w10 ⟨v106, rfl, ho0, hb⟩; refine ⟨_, rfl, ?_⟩; have n0_ := Aside0.mk (Kd.S_lower ho0 (below_size (by repeat (first | (with_reducible first | exact HB.out | apply below_alloc | apply pw_below_drewN | apply below_drew1 | refine below_set ?_ GE101.out) | exact HB.out)))); have n1_ := Aside0.mk (blk_below (g := gb101) (o := .cells #[.slice none 0 0] 30 (0, 0)) (by (with_reducible repeat (first | refine blk_drewN ?_ _ | refine blk_drew ?_ | refine blk_alloc ?_ _)); exact BK101.out) hb); have n2_ := Aside0.mk (below_step (by repeat (first | (with_reducible first | exact HB.out | apply below_alloc | apply pw_below_drewN | apply below_drew1 | refine below_set ?_ GE101.out) | exact HB.out)) hb); clear BK101; clear HB; have HO107 := n0_; have BK101 := n1_; have HB := n2_; clear n0_ n1_ n2_; (try clear hb); (try clear hb2); (try clear hk); (try clear hi); (try clear ho0); obtain ⟨Ao11, co11, eo11⟩ := Kd.S_slice HO107.out; subst eo11; have hcz12_0 : w10.cell? ⟨gb101, 0, none⟩ = some (.slice none 0 0) := (blk_cell BK101.out 0).trans rfl; have hfz12_0 := blk_frozen BK101.out 0))
      refine bodyPost_ret (results_ct rfl _ _ gb101 30 #[.slice Ao11 t105.length co11] (0, 0) _ rfl (by (with_reducible repeat (first | refine blk_drewN ?_ _ | refine blk_drew ?_ | refine blk_alloc ?_ _)); refine blk_put (cs := #[.slice none 0 0]) ?_ 0 _ rfl; (with_reducible repeat (first | refine blk_drewN ?_ _ | refine blk_drew ?_ | refine blk_alloc ?_ _)); exact BK101.out) Try.underlying30 rfl (by kernel_rfl)) rfl ?_
      exact ⟨_, by first | rfl | (simp [errW_none, errW_some] <;> rfl) | (simp [*, errW_none, errW_some] <;> rfl), by (with_reducible repeat (first | apply Kd.S_alloc | apply Kd.S_drewN | apply Kd.S_drew)); exact Kd.S_mono (Kd.S_far (p := ⟨gb101, 0, none⟩) (Kd.S_types HO107.out BK101.out (by decide)) (fun _ hk => hk.2) (.slice Ao11 t105.length co11)) (fun _ hk => trivial), by repeat (first | (with_reducible first | exact HB.out | apply below_alloc | apply pw_below_drewN | apply below_drew1 | refine below_set ?_ GE101.out) | exact HB.out)⟩
    · replace c7 := Bool.eq_false_iff.mpr c7
      subst c7
      have H1 : (some (([] : List (List (SFace))), 4)) = some (r1, r2) := by rw [if_neg (show ¬ (false = true) by decide)] at H; exact H
      clear H
      have H := H1
      clear H1
      simp only [Option.some.injEq, Prod.mk.injEq] at H
      obtain ⟨rfl, rfl⟩ := H
      go_enter Try.func13, Try.ntmps13
      go_wp2_with (first | ((with_reducible refine gate_dst (N := 4) rfl ?_); refine box_event ?hg (N := 4) ?hd (cs := #[.slice none 0 0]) (t := 30) ?hr ?_; (case hd => rfl); (case hg => rfl); (case hr => first | (go_simp; done) | (go_simp; rfl)); intro gb101 hg w13 hbox hb; have n0_ := Aside0.mk (below_step (by repeat (first | (with_reducible first | exact HB.out | apply below_alloc | apply pw_below_drewN | apply below_drew1) | exact HB.out)) hb); have n1_ := Aside0.mk (hbox); have n2_ := Aside0.mk ((by rw [hg]; exact (below_size (by repeat (first | (with_reducible first | exact HB.out | apply below_alloc | apply pw_below_drewN | apply below_drew1) | exact HB.out))) : w.heap.size ≤ gb101)); have n3_ := Aside0.mk ((by rw [hg]; exact (below_size (by repeat (first | (with_reducible first | exact HB.out | apply below_alloc | apply pw_below_drewN | apply below_drew1) | exact HB.out))) : w.heap.size ≤ gb101)); clear HB; have HB := n0_; have BK101 := n1_; have GW101 := n2_; have GE101 := n3_; clear n0_ n1_ n2_ n3_; clear hb hbox hg) | ((with_reducible refine gate_callee (f := 48) rfl ?_); refine goesL_ (some 7) rfl rfl Try.func48 (by kernel_rfl) rfl #[.int .i64 a0, .int .i64 1, .int .i64 4] rfl (by (try simp only [yiy, yjy, yky]); first | done | rfl | (simp only [yly, ymy]; rfl)) ?_; (with_reducible refine (spec_l07In.calls a0 1 4 true _ A3.out).mono ?_); rintro e w' ⟨rfl, ⟨nd, rfl⟩⟩; refine ⟨_, rfl, ?_⟩; (try (rw [drewN_self w13]; generalize hq_ : World.drewN w13 _ = w13; have n0_ : Aside0 (w13.heap[gb101]? = some (.cells #[.slice none 0 0] 30 (0, 0))) := ⟨by rw [← hq_]; exact (by (with_reducible repeat (first | refine blk_drewN ?_ _ | refine blk_drew ?_ | refine blk_alloc ?_ _)); exact BK101.out)⟩; have n1_ : Aside0 (Below w.heap.size w w13) := ⟨by rw [← hq_]; exact (by repeat (first | (with_reducible first | exact HB.out | apply below_alloc | apply pw_below_drewN | apply below_drew1 | refine below_set ?_ GE101.out) | exact HB.out))⟩; clear BK101 HB hq_; have BK101 := n0_; have HB := n1_; clear n0_ n1_))) | ((with_reducible refine gate_callee (f := 49) rfl ?_); refine goesL_ (some 12) rfl rfl Try.func49 (by kernel_rfl) rfl #[.int .i64 a0] rfl (by (try simp only [yiy, yjy, yky]); first | done | rfl | (simp only [yly, ymy]; rfl)) ?_; (with_reducible refine (spec_l16Size.calls k a0 t103 _ A5.out).mono ?_); rintro e w' ⟨rfl, ⟨nd, rfl⟩⟩; refine ⟨_, rfl, ?_⟩; (try (rw [drewN_self w13]; generalize hq_ : World.drewN w13 _ = w13; have n0_ : Aside0 (w13.heap[gb101]? = some (.cells #[.slice none 0 0] 30 (0, 0))) := ⟨by rw [← hq_]; exact (by (with_reducible repeat (first | refine blk_drewN ?_ _ | refine blk_drew ?_ | refine blk_alloc ?_ _)); exact BK101.out)⟩; have n1_ : Aside0 (Below w.heap.size w w13) := ⟨by rw [← hq_]; exact (by repeat (first | (with_reducible first | exact HB.out | apply below_alloc | apply pw_below_drewN | apply below_drew1 | refine below_set ?_ GE101.out) | exact HB.out))⟩; clear BK101 HB hq_; have BK101 := n0_; have HB := n1_; clear n0_ n1_))) | ((with_reducible refine gate_callee (f := 48) rfl ?_); refine goesL_ (some 14) rfl rfl Try.func48 (by kernel_rfl) rfl #[.int .i64 a1, .int .i64 0, .int .i64 (wrap64 (t103 - 1))] rfl (by (try simp only [yiy, yjy, yky]); first | done | rfl | (simp only [yly, ymy]; rfl)) ?_; (with_reducible refine (spec_l07In.calls a1 0 (wrap64 (t103 - 1)) false _ A6.out).mono ?_); rintro e w' ⟨rfl, ⟨nd, rfl⟩⟩; refine ⟨_, rfl, ?_⟩; (try (rw [drewN_self w13]; generalize hq_ : World.drewN w13 _ = w13; have n0_ : Aside0 (w13.heap[gb101]? = some (.cells #[.slice none 0 0] 30 (0, 0))) := ⟨by rw [← hq_]; exact (by (with_reducible repeat (first | refine blk_drewN ?_ _ | refine blk_drew ?_ | refine blk_alloc ?_ _)); exact BK101.out)⟩; have n1_ : Aside0 (Below w.heap.size w w13) := ⟨by rw [← hq_]; exact (by repeat (first | (with_reducible first | exact HB.out | apply below_alloc | apply pw_below_drewN | apply below_drew1 | refine below_set ?_ GE101.out) | exact HB.out))⟩; clear BK101 HB hq_; have BK101 := n0_; have HB := n1_; clear n0_ n1_)); have hcz14_0 : w13.cell? ⟨gb101, 0, none⟩ = some (.slice none 0 0) := (blk_cell BK101.out 0).trans rfl; have hfz14_0 := blk_frozen BK101.out 0))
      refine bodyPost_ret (results_ct rfl _ _ gb101 30 #[.slice none 0 0] (0, 0) _ rfl (by (with_reducible repeat (first | refine blk_drewN ?_ _ | refine blk_drew ?_ | refine blk_alloc ?_ _)); refine blk_put (cs := #[.slice none 0 0]) ?_ 0 _ rfl; (with_reducible repeat (first | refine blk_drewN ?_ _ | refine blk_drew ?_ | refine blk_alloc ?_ _)); exact BK101.out) Try.underlying30 rfl (by kernel_rfl)) rfl ?_
      exact ⟨_, by first | rfl | (simp [errW_none, errW_some] <;> rfl) | (simp [*, errW_none, errW_some] <;> rfl), by first | exact Kd.S_nil _ _ _ _ _ | exact Kd.N_nil _ _ _ _ _ | exact Kd.V_nil _ _ _ _ _ | exact Kd.Q_nil _ _ _ _ _ | exact Kd.R_nil _ _ _ _ _, by repeat (first | (with_reducible first | exact HB.out | apply below_alloc | apply pw_below_drewN | apply below_drew1 | refine below_set ?_ GE101.out) | exact HB.out)⟩
  · replace c4 := Bool.eq_false_iff.mpr c4
    subst c4
    have H1 : (some (([] : List (List (SFace))), 2)) = some (r1, r2) := by rw [if_neg (show ¬ (false = true) by decide)] at H; exact H
    clear H
    have H := H1
    clear H1
    simp only [Option.some.injEq, Prod.mk.injEq] at H
    obtain ⟨rfl, rfl⟩ := H
    go_enter Try.func13, Try.ntmps13
    go_wp2_with (first | ((with_reducible refine gate_dst (N := 4) rfl ?_); refine box_event ?hg (N := 4) ?hd (cs := #[.slice none 0 0]) (t := 30) ?hr ?_; (case hd => rfl); (case hg => rfl); (case hr => first | (go_simp; done) | (go_simp; rfl)); intro gb101 hg w15 hbox hb; have n0_ := Aside0.mk (below_step (by repeat (first | (with_reducible first | exact HB.out | apply below_alloc | apply pw_below_drewN | apply below_drew1) | exact HB.out)) hb); have n1_ := Aside0.mk (hbox); have n2_ := Aside0.mk ((by rw [hg]; exact (below_size (by repeat (first | (with_reducible first | exact HB.out | apply below_alloc | apply pw_below_drewN | apply below_drew1) | exact HB.out))) : w.heap.size ≤ gb101)); have n3_ := Aside0.mk ((by rw [hg]; exact (below_size (by repeat (first | (with_reducible first | exact HB.out | apply below_alloc | apply pw_below_drewN | apply below_drew1) | exact HB.out))) : w.heap.size ≤ gb101)); clear HB; have HB := n0_; have BK101 := n1_; have GW101 := n2_; have GE101 := n3_; clear n0_ n1_ n2_ n3_; clear hb hbox hg) | ((with_reducible refine gate_callee (f := 48) rfl ?_); refine goesL_ (some 7) rfl rfl Try.func48 (by kernel_rfl) rfl #[.int .i64 a0, .int .i64 1, .int .i64 4] rfl (by (try simp only [yiy, yjy, yky]); first | done | rfl | (simp only [yly, ymy]; rfl)) ?_; (with_reducible refine (spec_l07In.calls a0 1 4 false _ A3.out).mono ?_); rintro e w' ⟨rfl, ⟨nd, rfl⟩⟩; refine ⟨_, rfl, ?_⟩; (try (rw [drewN_self w15]; generalize hq_ : World.drewN w15 _ = w15; have n0_ : Aside0 (w15.heap[gb101]? = some (.cells #[.slice none 0 0] 30 (0, 0))) := ⟨by rw [← hq_]; exact (by (with_reducible repeat (first | refine blk_drewN ?_ _ | refine blk_drew ?_ | refine blk_alloc ?_ _)); exact BK101.out)⟩; have n1_ : Aside0 (Below w.heap.size w w15) := ⟨by rw [← hq_]; exact (by repeat (first | (with_reducible first | exact HB.out | apply below_alloc | apply pw_below_drewN | apply below_drew1 | refine below_set ?_ GE101.out) | exact HB.out))⟩; clear BK101 HB hq_; have BK101 := n0_; have HB := n1_; clear n0_ n1_)); have hcz16_0 : w15.cell? ⟨gb101, 0, none⟩ = some (.slice none 0 0) := (blk_cell BK101.out 0).trans rfl; have hfz16_0 := blk_frozen BK101.out 0))
    refine bodyPost_ret (results_ct rfl _ _ gb101 30 #[.slice none 0 0] (0, 0) _ rfl (by (with_reducible repeat (first | refine blk_drewN ?_ _ | refine blk_drew ?_ | refine blk_alloc ?_ _)); refine blk_put (cs := #[.slice none 0 0]) ?_ 0 _ rfl; (with_reducible repeat (first | refine blk_drewN ?_ _ | refine blk_drew ?_ | refine blk_alloc ?_ _)); exact BK101.out) Try.underlying30 rfl (by kernel_rfl)) rfl ?_
    exact ⟨_, by first | rfl | (simp [errW_none, errW_some] <;> rfl) | (simp [*, errW_none, errW_some] <;> rfl), by first | exact Kd.S_nil _ _ _ _ _ | exact Kd.N_nil _ _ _ _ _ | exact Kd.V_nil _ _ _ _ _ | exact Kd.Q_nil _ _ _ _ _ | exact Kd.R_nil _ _ _ _ _, by repeat (first | (with_reducible first | exact HB.out | apply below_alloc | apply pw_below_drewN | apply below_drew1 | refine below_set ?_ GE101.out) | exact HB.out)⟩
end Go.Proofs.Ytfnopcbicceeaaa.P
namespace Go.Proofs.Ytfnopcbicceeaaa.Lib
open Go.RowKit Go.Proofs.YtfnopcbicceeaaaW.PrintWords
set_option linter.unusedVariables false
section
variable {α : Type} {d : Kd α} {e b lo hi lo2 hi2 T : Nat} {w w' W : World} {v : Value} {xs ys : List α}
/-- A row of rows of the walk's own (all of it made from b on), its blocks from lo on and before hi. -/
def ObS (d : Kd α) (e b : Nat) (w : World) (lo hi : Nat) (v : Value) (xs : List α) : Prop := hi ≤ w.heap.size ∧ Kd.S d e w b (fun k => lo ≤ k ∧ k < hi) v xs
theorem size_set (w : World) (g i : Nat) (u : Value) : w.heap.size ≤ (w.setCell ⟨g, i, none⟩ u).heap.size := ((Below.refl 0 w).setCell (Nat.zero_le _) u).size
theorem ObS.made (ho : Kd.S d e w' W.heap.size (fun _ => True) v xs) (hb : Below W.heap.size W w') (hT : T ≤ W.heap.size) (hB : b ≤ W.heap.size) : ∃ lo hi, (T ≤ lo ∧ lo ≤ hi) ∧ hi ≤ w'.heap.size ∧ ObS d e b w' lo hi v xs :=
  ⟨W.heap.size, w'.heap.size, ⟨hT, hb.size⟩, yoy _, yoy _, Kd.S_lower (Kd.S_mono (Kd.S_bound ho) (fun k hk => ⟨hk.2.1, hk.2.2.1⟩)) hB⟩
theorem ObS.below (h : ObS d e b w lo hi v xs) (hb : Below w.heap.size w w') : ObS d e b w' lo hi v xs := ⟨Nat.le_trans h.1 hb.size, Kd.S_below h.2 hb⟩
theorem ObS.far {g i : Nat} (h : ObS d e b w lo hi v xs) (hg : g < lo ∨ hi ≤ g) (u : Value) : ObS d e b (w.setCell ⟨g, i, none⟩ u) lo hi v xs :=
  ⟨Nat.le_trans h.1 (size_set _ _ _ _), Kd.S_far h.2 (fun k hk => by show k ≠ g; have := hk.1; have := hk.2; omega) u⟩
theorem ObS.kept (h : ObS d e b w lo hi v xs) (hk : Kept w w' (fun k => lo2 ≤ k ∧ k < hi2)) (hd : hi ≤ lo2 ∨ hi2 ≤ lo) : ObS d e b w' lo hi v xs :=
  ⟨Nat.le_trans h.1 hk.1, Kd.S_kept h.2 hk (fun k h1 h2 => by have := h1.1; have := h1.2; have := h2.1; have := h2.2; omega)⟩
theorem ObS.slice (h : ObS d e b w lo hi v xs) : ∃ A c, v = .slice A xs.length c := Kd.S_slice h.2
theorem ObS.reads {A : Option Addr} {n c : Nat} (h : ObS d e b w lo hi (.slice A n c) xs) : n = xs.length ∧ n ≤ c ∧ d.C w A xs.length xs := Kd.S_reads' h.2
theorem ObS.room {A : Option Addr} {n c : Nat} (h : ObS d e b w lo hi (.slice A n c) xs) : xs.length ≤ c := by have := h.reads; omega
theorem ObS.marked (h : ObS d e b w lo hi v xs) (hy : Kd.S d e w' b (fun k => lo ≤ k ∧ k < hi) v ys) (hs : w.heap.size ≤ w'.heap.size) : ObS d e b w' lo hi v ys := ⟨Nat.le_trans h.1 hs, hy⟩
theorem ObS.row (h : ObS d e b w lo hi v xs) : Kd.S d e w b (fun k => lo ≤ k ∧ k < hi) v xs := h.2
theorem top_below (h : T ≤ w.heap.size) (hb : Below w.heap.size w w') : T ≤ w'.heap.size := Nat.le_trans h hb.size
theorem top_far {g i : Nat} {u : Value} (h : T ≤ w.heap.size) : T ≤ (w.setCell ⟨g, i, none⟩ u).heap.size := Nat.le_trans h (size_set _ _ _ _)
end
end Go.Proofs.Ytfnopcbicceeaaa.Lib
namespace Go.Proofs.Ytfnopcbicceeaaa.P
open Go.RowKit Go.Proofs.YtfnopcbicceeaaaW.PrintWords Go.Proofs.YtfnopcbicceeaaaW.PrintLast Go.Proofs.YtfnopcbicceeaaaW.PrintMore
attribute [local go_sem] max2_int min2_int max_two min_two max_three min_three max_four min_four   -- for this text's walks alone
set_option linter.unusedVariables false
set_option linter.unusedSimpArgs false
open Go.Proofs.Ytfnopcbicceeaaa.Lib
/-! ### laws_FnExactGluingAt: function 4 -/
def laws_FnExactGluingAt.f (k : Nat) (a0 : Int) (a1 : Int) : Option Bool := (spec_GluingAt.f k a0 a1).bind fun bt0 => (impl_GluingAt.f k a0 a1).bind fun bt1 => (laws_eqTriangulation.f k bt1.1 bt0.1).bind fun t10 => if t10 = true then if bt1.2 = bt0.2 then (laws_markTriangulation.f k bt1.1 1).bind fun bt5 => (laws_heldTriangulation.f k bt5.2 1).bind fun t16 => if t16 < 0 then some false else if t16 = bt5.1 then (impl_GluingAt.f k a0 a1).bind fun bt9 => (laws_eqTriangulation.f k bt9.1 bt0.1).bind fun t24 => if t24 = true then if bt9.2 = bt0.2 then (laws_heldTriangulation.f k bt5.2 1).bind fun t27 => if t27 < 0 then some false else if t27 = bt5.1 then some true else some false else some false else some false else some false else some false else some false
set_option maxHeartbeats 8000000 in
set_option maxRecDepth 100000 in
theorem laws_FnExactGluingAt.calls (k : Nat) (a0 : Int) (a1 : Int) (w : World)  (h : laws_FnExactGluingAt.f k a0 a1 = some true) :
 Calls Try.prog 4 #[.int .i64 a0, .int .i64 a1] w fun e w' => e = .returned (.bool true) ∧ Below w.heap.size w w' := by
 have hu30 := Try.underlying30
 have HB := Aside0.mk (Below.refl w.heap.size w)
 have HT := Aside0.mk (yoy w.heap.size)
 have H := h
 clear h
 unfold laws_FnExactGluingAt.f at H
 obtain ⟨⟨t2, t4⟩, H10, H⟩ := ydy.mp H
 have H1 := Aside0.mk H10
 clear H10
 obtain ⟨⟨t6, t8⟩, H50, H⟩ := ydy.mp H
 have H5 := Aside0.mk H50
 clear H50
 obtain ⟨t10, H90, H⟩ := ydy.mp H
 obtain rfl : t10 = true := by cases t10 with | true => rfl | false => exact absurd H (by simp)
 replace H := H
 have H9 := Aside0.mk H90
 clear H90
 rw [if_pos rfl] at H
 have cC11 : t8 = t4 := by by_cases c_ : t8 = t4; exact c_; rw [if_neg c_] at H; cases H
 rw [if_pos cC11] at H
 have dC11 : (t8 != t4) = false := by rw [cC11]; exact bne_self_eq_false _
 clear cC11
 obtain ⟨⟨m13, y14⟩, H120, H⟩ := ydy.mp H
 have H12 := Aside0.mk H120
 clear H120
 dsimp only at H
 obtain ⟨t16, H150, H⟩ := ydy.mp H
 have H15 := Aside0.mk H150
 clear H150
 have cC17 : ¬ (t16 < 0) := fun c_ => by rw [if_pos c_] at H; cases H
 rw [if_neg cC17] at H
 have dC17 : decide (t16 < 0) = false := yhy cC17
 clear cC17
 have cC18 : t16 = m13 := by by_cases c_ : t16 = m13; exact c_; rw [if_neg c_] at H; cases H
 rw [if_pos cC18] at H
 have dC18 : (t16 != m13) = false := by rw [cC18]; exact bne_self_eq_false _
 clear cC18
 obtain ⟨⟨t20, t22⟩, H190, H⟩ := ydy.mp H
 have H19 := Aside0.mk H190
 clear H190
 obtain ⟨t24, H230, H⟩ := ydy.mp H
 obtain rfl : t24 = true := by cases t24 with | true => rfl | false => exact absurd H (by simp)
 replace H := H
 have H23 := Aside0.mk H230
 clear H230
 rw [if_pos rfl] at H
 have cC25 : t22 = t4 := by by_cases c_ : t22 = t4; exact c_; rw [if_neg c_] at H; cases H
 rw [if_pos cC25] at H
 have dC25 : (t22 != t4) = false := by rw [cC25]; exact bne_self_eq_false _
 clear cC25
 obtain ⟨t27, H260, H⟩ := ydy.mp H
 have H26 := Aside0.mk H260
 clear H260
 have cC28 : ¬ (t27 < 0) := fun c_ => by rw [if_pos c_] at H; cases H
 rw [if_neg cC28] at H
 have dC28 : decide (t27 < 0) = false := yhy cC28
 clear cC28
 have cC29 : t27 = m13 := by by_cases c_ : t27 = m13; exact c_; rw [if_neg c_] at H; cases H
 rw [if_pos cC29] at H
 have dC29 : (t27 != m13) = false := by rw [cC29]; exact bne_self_eq_false _
 clear cC29
 clear H
 go_enter Try.func4, Try.ntmps4
 try go_wp2_with (first | ((with_reducible refine gate_callee (f := 13) rfl ?_); refine goesL_ (some 16) rfl rfl Try.func13 (by kernel_rfl) rfl #[.int .i64 a0, .int .i64 a1] rfl (by (try simp only [yiy, yjy, yky]); first | done | rfl | (simp only [yly, ymy]; rfl)) ?_; (with_reducible refine (spec_GluingAt.calls k a0 a1 t2 t4 _  H1.out).mono ?_); rintro e w1 ⟨vo3, rfl, ho0, hb⟩; refine ⟨_, rfl, ?_⟩; obtain ⟨loo3, hio3, hno3⟩ := ObS.made ho0 hb HT.out (below_size HB.out); have nHB := Aside0.mk (below_step HB.out hb); have nHT := Aside0.mk (top_below HT.out hb); clear HB HT  ; have HB := nHB; have HT := nHT; clear nHB nHT  ; have HNo3 := Aside0.mk hno3.1; clear HT; have HT := Aside0.mk hno3.2.1; have HOo3 := Aside0.mk hno3.2.2; clear hno3 ho0; obtain ⟨Ao3, co3, eeo3⟩ := HOo3.out.slice; subst eeo3; (try clear hb); (try clear hnd)) | ((with_reducible refine gate_dst (N := 5) rfl ?_); refine box_event ?hg (N := 5) ?hd (cs := #[.slice none 0 0]) (t := 30) ?hr ?_; (case hd => rfl); (case hg => rfl); (case hr => first | (go_simp; done) | (go_simp; rfl)); intro g5 hg w2 hbox hb; have HNg5 := Aside0.mk (by rw [hg]; exact HT.out : hio3 ≤ g5); have HXg5 := Aside0.mk (show g5 + 1 ≤ w2.heap.size from blk_lt hbox); have nOo3 := Aside0.mk (ObS.below HOo3.out hb); have nHB := Aside0.mk (below_step HB.out hb); have nHT := Aside0.mk (top_below HT.out hb); clear HB HT HOo3 ; have HOo3 := nOo3; have HB := nHB; have HT := nHT; clear nHB nHT nOo3 ; clear HT; have HT := HXg5; clear HXg5; have BKg5 := Aside0.mk hbox; clear hg hbox hb; have hczg5 : w2.cell? ⟨g5, 0, none⟩ = some (.slice none 0 0) := (blk_cell BKg5.out 0).trans rfl; have hfzg5 := blk_frozen BKg5.out 0) | ((with_reducible refine gate_callee (f := 14) rfl ?_); refine goesL_ (some 22) rfl rfl Try.func14 (by kernel_rfl) rfl #[.int .i64 a0, .int .i64 a1] rfl (by (try simp only [yiy, yjy, yky]); first | done | rfl | (simp only [yly, ymy]; rfl)) ?_; (with_reducible refine (impl_GluingAt.calls k a0 a1 t6 t8 _  H5.out).mono ?_); rintro e w3 ⟨vo7, rfl, ho0, hb⟩; refine ⟨_, rfl, ?_⟩; (try clear hczg5 hfzg5); obtain ⟨loo7, hio7, hno7⟩ := ObS.made ho0 hb (top_far HT.out) (below_size (below_set HB.out (show w.heap.size ≤ g5 from (by have := HNo3.out; have := HNg5.out; omega)))); have nOo3 := Aside0.mk (ObS.below (ObS.far (g := g5) (i := 0) HOo3.out (by have := HNo3.out; have := HNg5.out; omega) _) hb); have nBg5 := Aside0.mk (blk_below (g := g5) (o := .cells #[.slice Ao3 t2.length co3] 30 (0, 0)) (blk_put (cs := #[.slice none 0 0]) BKg5.out 0 _ rfl) hb); have nHB := Aside0.mk (below_step (below_set HB.out (show w.heap.size ≤ g5 from (by have := HNo3.out; have := HNg5.out; omega))) hb); have nHT := Aside0.mk (top_below (top_far HT.out) hb); clear HB HT HOo3 BKg5; have HOo3 := nOo3; have BKg5 := nBg5; have HB := nHB; have HT := nHT; clear nHB nHT nOo3 nBg5; have HNo7 := Aside0.mk hno7.1; clear HT; have HT := Aside0.mk hno7.2.1; have HOo7 := Aside0.mk hno7.2.2; clear hno7 ho0; obtain ⟨Ao7, co7, eeo7⟩ := HOo7.out.slice; subst eeo7; (try clear hb); (try clear hnd); have hczg5 : w3.cell? ⟨g5, 0, none⟩ = some (.slice Ao3 t2.length co3) := (blk_cell BKg5.out 0).trans rfl; have hfzg5 := blk_frozen BKg5.out 0) | ((with_reducible refine gate_dst (N := 7) rfl ?_); refine box_event ?hg (N := 7) ?hd (cs := #[.slice none 0 0]) (t := 30) ?hr ?_; (case hd => rfl); (case hg => rfl); (case hr => first | (go_simp; done) | (go_simp; rfl)); intro g7 hg w4 hbox hb; (try clear hczg5 hfzg5); have HNg7 := Aside0.mk (by rw [hg]; exact HT.out : hio7 ≤ g7); have HXg7 := Aside0.mk (show g7 + 1 ≤ w4.heap.size from blk_lt hbox); have nOo3 := Aside0.mk (ObS.below HOo3.out hb); have nOo7 := Aside0.mk (ObS.below HOo7.out hb); have nBg5 := Aside0.mk (blk_below (g := g5) (o := .cells #[.slice Ao3 t2.length co3] 30 (0, 0)) BKg5.out hb); have nHB := Aside0.mk (below_step HB.out hb); have nHT := Aside0.mk (top_below HT.out hb); clear HB HT HOo3 HOo7 BKg5; have HOo3 := nOo3; have HOo7 := nOo7; have BKg5 := nBg5; have HB := nHB; have HT := nHT; clear nHB nHT nOo3 nOo7 nBg5; clear HT; have HT := HXg7; clear HXg7; have BKg7 := Aside0.mk hbox; clear hg hbox hb; have hnbg7_g5 : g7 ≠ g5 := (by have := HNo3.out; have := HNg5.out; have := HNo7.out; have := HNg7.out; omega); have hnbg5_g7 : g5 ≠ g7 := (by have := HNo3.out; have := HNg5.out; have := HNo7.out; have := HNg7.out; omega); have hczg5 : w4.cell? ⟨g5, 0, none⟩ = some (.slice Ao3 t2.length co3) := (blk_cell BKg5.out 0).trans rfl; have hfzg5 := blk_frozen BKg5.out 0; have hczg7 : w4.cell? ⟨g7, 0, none⟩ = some (.slice none 0 0) := (blk_cell BKg7.out 0).trans rfl; have hfzg7 := blk_frozen BKg7.out 0) | ((with_reducible refine gate_callee (f := 12) rfl ?_); refine goesL_ (some 27) rfl rfl Try.func12 (by kernel_rfl) rfl #[.agg #[.slice Ao7 t6.length co7], .agg #[.slice Ao3 t2.length co3]] rfl (by (try simp only [yiy, yjy, yky]); first | done | rfl | (simp only [yly, ymy]; rfl)) ?_; (with_reducible refine (laws_eqTriangulation.calls k _ _ t6 _ _ t2 true _ ?side1 ?side2 ?side3 ?side4 H9.out).mono ?_); (case side1 => exact (ObS.reads (ObS.far (g := g7) (i := 0) HOo7.out (by have := HNo3.out; have := HNg5.out; have := HNo7.out; have := HNg7.out; omega) _)).2.2); (case side2 => exact ObS.room HOo7.out); (case side3 => exact (ObS.reads (ObS.far (g := g7) (i := 0) HOo3.out (by have := HNo3.out; have := HNg5.out; have := HNo7.out; have := HNg7.out; omega) _)).2.2); (case side4 => exact ObS.room HOo3.out); rintro e w5 ⟨rfl, hb⟩; refine ⟨_, rfl, ?_⟩; (try clear hczg5 hfzg5 hczg7 hfzg7); have nOo3 := Aside0.mk (ObS.below (ObS.far (g := g7) (i := 0) HOo3.out (by have := HNo3.out; have := HNg5.out; have := HNo7.out; have := HNg7.out; omega) _) hb); have nOo7 := Aside0.mk (ObS.below (ObS.far (g := g7) (i := 0) HOo7.out (by have := HNo3.out; have := HNg5.out; have := HNo7.out; have := HNg7.out; omega) _) hb); have nBg5 := Aside0.mk (blk_below (g := g5) (o := .cells #[.slice Ao3 t2.length co3] 30 (0, 0)) (blk_far (p := ⟨g7, 0, none⟩) BKg5.out (show g5 ≠ g7 from (by have := HNo3.out; have := HNg5.out; have := HNo7.out; have := HNg7.out; omega)) _) hb); have nBg7 := Aside0.mk (blk_below (g := g7) (o := .cells #[.slice Ao7 t6.length co7] 30 (0, 0)) (blk_put (cs := #[.slice none 0 0]) BKg7.out 0 _ rfl) hb); have nHB := Aside0.mk (below_step (below_set HB.out (show w.heap.size ≤ g7 from (by have := HNo3.out; have := HNg5.out; have := HNo7.out; have := HNg7.out; omega))) hb); have nHT := Aside0.mk (top_below (top_far HT.out) hb); clear HB HT HOo3 HOo7 BKg5 BKg7; have HOo3 := nOo3; have HOo7 := nOo7; have BKg5 := nBg5; have BKg7 := nBg7; have HB := nHB; have HT := nHT; clear nHB nHT nOo3 nOo7 nBg5 nBg7; (try clear hb); (try clear hnd); have hczg5 : w5.cell? ⟨g5, 0, none⟩ = some (.slice Ao3 t2.length co3) := (blk_cell BKg5.out 0).trans rfl; have hfzg5 := blk_frozen BKg5.out 0; have hczg7 : w5.cell? ⟨g7, 0, none⟩ = some (.slice Ao7 t6.length co7) := (blk_cell BKg7.out 0).trans rfl; have hfzg7 := blk_frozen BKg7.out 0) | ((with_reducible refine gate_callee (f := 15) rfl ?_); refine goesL_ (some 36) rfl rfl Try.func15 (by kernel_rfl) rfl #[.agg #[.slice Ao7 t6.length co7], .int .i64 1] rfl (by (try simp only [yiy, yjy, yky]); first | done | rfl | (simp only [yly, ymy]; rfl)) ?_; (with_reducible refine (laws_markTriangulation.calls k (fun k_ => loo7 ≤ k_ ∧ k_ < hio7) (.slice Ao7 t6.length co7) t6 1 m13 y14 w _ HB.out (ObS.row HOo7.out) H12.out).mono ?_); rintro e w6 ⟨rfl, hy, hb, hk0⟩; refine ⟨_, rfl, ?_⟩; have hk := hk0; have nM := Aside0.mk (ObS.marked HOo7.out hy hk.1); (try clear hczg5 hfzg5 hczg7 hfzg7); have nOo3 := Aside0.mk (ObS.kept HOo3.out hk (by have := HNo3.out; have := HNg5.out; have := HNo7.out; have := HNg7.out; omega)); have nBg5 := Aside0.mk (blk_kept (g := g5) (o := .cells #[.slice Ao3 t2.length co3] 30 (0, 0)) BKg5.out hk (fun h_ => by have h1_ := h_.1; have h2_ := h_.2; have := HNo3.out; have := HNg5.out; have := HNo7.out; have := HNg7.out; omega)); have nBg7 := Aside0.mk (blk_kept (g := g7) (o := .cells #[.slice Ao7 t6.length co7] 30 (0, 0)) BKg7.out hk (fun h_ => by have h1_ := h_.1; have h2_ := h_.2; have := HNo3.out; have := HNg5.out; have := HNo7.out; have := HNg7.out; omega)); have nHT := Aside0.mk (Nat.le_trans HT.out hk.1); clear HB HT HOo3 HOo7 BKg5 BKg7; have HOo3 := nOo3; have HOo7 := nM; have BKg5 := nBg5; have BKg7 := nBg7; have HB := Aside0.mk hb; have HT := nHT; (try clear hy); clear hb hk0 hk nM nHT nOo3 nBg5 nBg7; have hczg5 : w6.cell? ⟨g5, 0, none⟩ = some (.slice Ao3 t2.length co3) := (blk_cell BKg5.out 0).trans rfl; have hfzg5 := blk_frozen BKg5.out 0; have hczg7 : w6.cell? ⟨g7, 0, none⟩ = some (.slice Ao7 t6.length co7) := (blk_cell BKg7.out 0).trans rfl; have hfzg7 := blk_frozen BKg7.out 0) | ((with_reducible refine gate_callee (f := 16) rfl ?_); refine goesL_ (some 39) rfl rfl Try.func16 (by kernel_rfl) rfl #[.agg #[.slice Ao7 y14.length co7], .int .i64 1] rfl (by (try simp only [yiy, yjy, yky]); first | done | (rw [show y14.length = t6.length from (ObS.reads HOo7.out).1.symm] <;> rfl) | rfl | (simp only [yly, ymy]; rfl)) ?_; (with_reducible refine (laws_heldTriangulation.calls k _ _ y14 1 t16 _ ?side1 ?side2 H15.out).mono ?_); (case side1 => exact (ObS.reads HOo7.out).2.2); (case side2 => exact ObS.room HOo7.out); rintro e w7 ⟨rfl, hb⟩; refine ⟨_, rfl, ?_⟩; (try clear hczg5 hfzg5 hczg7 hfzg7); have nOo3 := Aside0.mk (ObS.below HOo3.out hb); have nOo7 := Aside0.mk (ObS.below HOo7.out hb); have nBg5 := Aside0.mk (blk_below (g := g5) (o := .cells #[.slice Ao3 t2.length co3] 30 (0, 0)) BKg5.out hb); have nBg7 := Aside0.mk (blk_below (g := g7) (o := .cells #[.slice Ao7 t6.length co7] 30 (0, 0)) BKg7.out hb); have nHB := Aside0.mk (below_step HB.out hb); have nHT := Aside0.mk (top_below HT.out hb); clear HB HT HOo3 HOo7 BKg5 BKg7; have HOo3 := nOo3; have HOo7 := nOo7; have BKg5 := nBg5; have BKg7 := nBg7; have HB := nHB; have HT := nHT; clear nHB nHT nOo3 nOo7 nBg5 nBg7; (try clear hb); (try clear hnd); have hczg5 : w7.cell? ⟨g5, 0, none⟩ = some (.slice Ao3 t2.length co3) := (blk_cell BKg5.out 0).trans rfl; have hfzg5 := blk_frozen BKg5.out 0; have hczg7 : w7.cell? ⟨g7, 0, none⟩ = some (.slice Ao7 t6.length co7) := (blk_cell BKg7.out 0).trans rfl; have hfzg7 := blk_frozen BKg7.out 0) | ((with_reducible refine gate_callee (f := 14) rfl ?_); refine goesL_ (some 48) rfl rfl Try.func14 (by kernel_rfl) rfl #[.int .i64 a0, .int .i64 a1] rfl (by (try simp only [yiy, yjy, yky]); first | done | rfl | (simp only [yly, ymy]; rfl)) ?_; (with_reducible refine (impl_GluingAt.calls k a0 a1 t20 t22 _  H19.out).mono ?_); rintro e w8 ⟨vo21, rfl, ho0, hb⟩; refine ⟨_, rfl, ?_⟩; (try clear hczg5 hfzg5 hczg7 hfzg7); obtain ⟨loo21, hio21, hno21⟩ := ObS.made ho0 hb HT.out (below_size HB.out); have nOo3 := Aside0.mk (ObS.below HOo3.out hb); have nOo7 := Aside0.mk (ObS.below HOo7.out hb); have nBg5 := Aside0.mk (blk_below (g := g5) (o := .cells #[.slice Ao3 t2.length co3] 30 (0, 0)) BKg5.out hb); have nBg7 := Aside0.mk (blk_below (g := g7) (o := .cells #[.slice Ao7 t6.length co7] 30 (0, 0)) BKg7.out hb); have nHB := Aside0.mk (below_step HB.out hb); have nHT := Aside0.mk (top_below HT.out hb); clear HB HT HOo3 HOo7 BKg5 BKg7; have HOo3 := nOo3; have HOo7 := nOo7; have BKg5 := nBg5; have BKg7 := nBg7; have HB := nHB; have HT := nHT; clear nHB nHT nOo3 nOo7 nBg5 nBg7; have HNo21 := Aside0.mk hno21.1; clear HT; have HT := Aside0.mk hno21.2.1; have HOo21 := Aside0.mk hno21.2.2; clear hno21 ho0; obtain ⟨Ao21, co21, eeo21⟩ := HOo21.out.slice; subst eeo21; (try clear hb); (try clear hnd); have hczg5 : w8.cell? ⟨g5, 0, none⟩ = some (.slice Ao3 t2.length co3) := (blk_cell BKg5.out 0).trans rfl; have hfzg5 := blk_frozen BKg5.out 0; have hczg7 : w8.cell? ⟨g7, 0, none⟩ = some (.slice Ao7 t6.length co7) := (blk_cell BKg7.out 0).trans rfl; have hfzg7 := blk_frozen BKg7.out 0) | ((with_reducible refine gate_dst (N := 11) rfl ?_); refine box_event ?hg (N := 11) ?hd (cs := #[.slice none 0 0]) (t := 30) ?hr ?_; (case hd => rfl); (case hg => rfl); (case hr => first | (go_simp; done) | (go_simp; rfl)); intro g11 hg w9 hbox hb; (try clear hczg5 hfzg5 hczg7 hfzg7); have HNg11 := Aside0.mk (by rw [hg]; exact HT.out : hio21 ≤ g11); have HXg11 := Aside0.mk (show g11 + 1 ≤ w9.heap.size from blk_lt hbox); have nOo3 := Aside0.mk (ObS.below HOo3.out hb); have nOo7 := Aside0.mk (ObS.below HOo7.out hb); have nOo21 := Aside0.mk (ObS.below HOo21.out hb); have nBg5 := Aside0.mk (blk_below (g := g5) (o := .cells #[.slice Ao3 t2.length co3] 30 (0, 0)) BKg5.out hb); have nBg7 := Aside0.mk (blk_below (g := g7) (o := .cells #[.slice Ao7 t6.length co7] 30 (0, 0)) BKg7.out hb); have nHB := Aside0.mk (below_step HB.out hb); have nHT := Aside0.mk (top_below HT.out hb); clear HB HT HOo3 HOo7 HOo21 BKg5 BKg7; have HOo3 := nOo3; have HOo7 := nOo7; have HOo21 := nOo21; have BKg5 := nBg5; have BKg7 := nBg7; have HB := nHB; have HT := nHT; clear nHB nHT nOo3 nOo7 nOo21 nBg5 nBg7; clear HT; have HT := HXg11; clear HXg11; have BKg11 := Aside0.mk hbox; clear hg hbox hb; have hnbg11_g5 : g11 ≠ g5 := (by have := HNo3.out; have := HNg5.out; have := HNo7.out; have := HNg7.out; have := HNo21.out; have := HNg11.out; omega); have hnbg5_g11 : g5 ≠ g11 := (by have := HNo3.out; have := HNg5.out; have := HNo7.out; have := HNg7.out; have := HNo21.out; have := HNg11.out; omega); have hnbg11_g7 : g11 ≠ g7 := (by have := HNo3.out; have := HNg5.out; have := HNo7.out; have := HNg7.out; have := HNo21.out; have := HNg11.out; omega); have hnbg7_g11 : g7 ≠ g11 := (by have := HNo3.out; have := HNg5.out; have := HNo7.out; have := HNg7.out; have := HNo21.out; have := HNg11.out; omega); have hczg5 : w9.cell? ⟨g5, 0, none⟩ = some (.slice Ao3 t2.length co3) := (blk_cell BKg5.out 0).trans rfl; have hfzg5 := blk_frozen BKg5.out 0; have hczg7 : w9.cell? ⟨g7, 0, none⟩ = some (.slice Ao7 t6.length co7) := (blk_cell BKg7.out 0).trans rfl; have hfzg7 := blk_frozen BKg7.out 0; have hczg11 : w9.cell? ⟨g11, 0, none⟩ = some (.slice none 0 0) := (blk_cell BKg11.out 0).trans rfl; have hfzg11 := blk_frozen BKg11.out 0) | ((with_reducible refine gate_callee (f := 12) rfl ?_); refine goesL_ (some 53) rfl rfl Try.func12 (by kernel_rfl) rfl #[.agg #[.slice Ao21 t20.length co21], .agg #[.slice Ao3 t2.length co3]] rfl (by (try simp only [yiy, yjy, yky]); first | done | rfl | (simp only [yly, ymy]; rfl)) ?_; (with_reducible refine (laws_eqTriangulation.calls k _ _ t20 _ _ t2 true _ ?side1 ?side2 ?side3 ?side4 H23.out).mono ?_); (case side1 => exact (ObS.reads (ObS.far (g := g11) (i := 0) HOo21.out (by have := HNo3.out; have := HNg5.out; have := HNo7.out; have := HNg7.out; have := HNo21.out; have := HNg11.out; omega) _)).2.2); (case side2 => exact ObS.room HOo21.out); (case side3 => exact (ObS.reads (ObS.far (g := g11) (i := 0) HOo3.out (by have := HNo3.out; have := HNg5.out; have := HNo7.out; have := HNg7.out; have := HNo21.out; have := HNg11.out; omega) _)).2.2); (case side4 => exact ObS.room HOo3.out); rintro e w10 ⟨rfl, hb⟩; refine ⟨_, rfl, ?_⟩; (try clear hczg5 hfzg5 hczg7 hfzg7 hczg11 hfzg11); have nOo3 := Aside0.mk (ObS.below (ObS.far (g := g11) (i := 0) HOo3.out (by have := HNo3.out; have := HNg5.out; have := HNo7.out; have := HNg7.out; have := HNo21.out; have := HNg11.out; omega) _) hb); have nOo7 := Aside0.mk (ObS.below (ObS.far (g := g11) (i := 0) HOo7.out (by have := HNo3.out; have := HNg5.out; have := HNo7.out; have := HNg7.out; have := HNo21.out; have := HNg11.out; omega) _) hb); have nOo21 := Aside0.mk (ObS.below (ObS.far (g := g11) (i := 0) HOo21.out (by have := HNo3.out; have := HNg5.out; have := HNo7.out; have := HNg7.out; have := HNo21.out; have := HNg11.out; omega) _) hb); have nBg5 := Aside0.mk (blk_below (g := g5) (o := .cells #[.slice Ao3 t2.length co3] 30 (0, 0)) (blk_far (p := ⟨g11, 0, none⟩) BKg5.out (show g5 ≠ g11 from (by have := HNo3.out; have := HNg5.out; have := HNo7.out; have := HNg7.out; have := HNo21.out; have := HNg11.out; omega)) _) hb); have nBg7 := Aside0.mk (blk_below (g := g7) (o := .cells #[.slice Ao7 t6.length co7] 30 (0, 0)) (blk_far (p := ⟨g11, 0, none⟩) BKg7.out (show g7 ≠ g11 from (by have := HNo3.out; have := HNg5.out; have := HNo7.out; have := HNg7.out; have := HNo21.out; have := HNg11.out; omega)) _) hb); have nBg11 := Aside0.mk (blk_below (g := g11) (o := .cells #[.slice Ao21 t20.length co21] 30 (0, 0)) (blk_put (cs := #[.slice none 0 0]) BKg11.out 0 _ rfl) hb); have nHB := Aside0.mk (below_step (below_set HB.out (show w.heap.size ≤ g11 from (by have := HNo3.out; have := HNg5.out; have := HNo7.out; have := HNg7.out; have := HNo21.out; have := HNg11.out; omega))) hb); have nHT := Aside0.mk (top_below (top_far HT.out) hb); clear HB HT HOo3 HOo7 HOo21 BKg5 BKg7 BKg11; have HOo3 := nOo3; have HOo7 := nOo7; have HOo21 := nOo21; have BKg5 := nBg5; have BKg7 := nBg7; have BKg11 := nBg11; have HB := nHB; have HT := nHT; clear nHB nHT nOo3 nOo7 nOo21 nBg5 nBg7 nBg11; (try clear hb); (try clear hnd); have hczg5 : w10.cell? ⟨g5, 0, none⟩ = some (.slice Ao3 t2.length co3) := (blk_cell BKg5.out 0).trans rfl; have hfzg5 := blk_frozen BKg5.out 0; have hczg7 : w10.cell? ⟨g7, 0, none⟩ = some (.slice Ao7 t6.length co7) := (blk_cell BKg7.out 0).trans rfl; have hfzg7 := blk_frozen BKg7.out 0; have hczg11 : w10.cell? ⟨g11, 0, none⟩ = some (.slice Ao21 t20.length co21) := (blk_cell BKg11.out 0).trans rfl; have hfzg11 := blk_frozen BKg11.out 0) | ((with_reducible refine gate_callee (f := 16) rfl ?_); refine goesL_ (some 62) rfl rfl Try.func16 (by kernel_rfl) rfl #[.agg #[.slice Ao7 y14.length co7], .int .i64 1] rfl (by (try simp only [yiy, yjy, yky]); first | done | (rw [show y14.length = t6.length from (ObS.reads HOo7.out).1.symm] <;> rfl) | rfl | (simp only [yly, ymy]; rfl)) ?_; (with_reducible refine (laws_heldTriangulation.calls k _ _ y14 1 t27 _ ?side1 ?side2 H26.out).mono ?_); (case side1 => exact (ObS.reads HOo7.out).2.2); (case side2 => exact ObS.room HOo7.out); rintro e w11 ⟨rfl, hb⟩; refine ⟨_, rfl, ?_⟩; (try clear hczg5 hfzg5 hczg7 hfzg7 hczg11 hfzg11); have nOo3 := Aside0.mk (ObS.below HOo3.out hb); have nOo7 := Aside0.mk (ObS.below HOo7.out hb); have nOo21 := Aside0.mk (ObS.below HOo21.out hb); have nBg5 := Aside0.mk (blk_below (g := g5) (o := .cells #[.slice Ao3 t2.length co3] 30 (0, 0)) BKg5.out hb); have nBg7 := Aside0.mk (blk_below (g := g7) (o := .cells #[.slice Ao7 t6.length co7] 30 (0, 0)) BKg7.out hb); have nBg11 := Aside0.mk (blk_below (g := g11) (o := .cells #[.slice Ao21 t20.length co21] 30 (0, 0)) BKg11.out hb); have nHB := Aside0.mk (below_step HB.out hb); have nHT := Aside0.mk (top_below HT.out hb); clear HB HT HOo3 HOo7 HOo21 BKg5 BKg7 BKg11; have HOo3 := nOo3; have HOo7 := nOo7; have HOo21 := nOo21; have BKg5 := nBg5; have BKg7 := nBg7; have BKg11 := nBg11; have HB := nHB; have HT := nHT; clear nHB nHT nOo3 nOo7 nOo21 nBg5 nBg7 nBg11; (try clear hb); (try clear hnd); have hczg5 : w11.cell? ⟨g5, 0, none⟩ = some (.slice Ao3 t2.length co3) := (blk_cell BKg5.out 0).trans rfl; have hfzg5 := blk_frozen BKg5.out 0; have hczg7 : w11.cell? ⟨g7, 0, none⟩ = some (.slice Ao7 t6.length co7) := (blk_cell BKg7.out 0).trans rfl; have hfzg7 := blk_frozen BKg7.out 0; have hczg11 : w11.cell? ⟨g11, 0, none⟩ = some (.slice Ao21 t20.length co21) := (blk_cell BKg11.out 0).trans rfl; have hfzg11 := blk_frozen BKg11.out 0))
 go_ret
 exact ⟨by first | rfl | (simp <;> rfl), HB.out⟩
end Go.Proofs.Ytfnopcbicceeaaa.P
namespace Go.Proofs.Ytfnopcbicceeaaa.Lib
set_option linter.unusedVariables false
open Go.RowKit Go.Proofs.YtfnopcbicceeaaaW.PrintWords
/-- A loop comes to g of its first state: at each state it ends with g, or goes on at a smaller state of the same g. -/
theorem ev_loop {σ ρ : Type} (L : Nat → σ → Option ρ) (I : σ → Prop) (m : σ → Nat) (g : σ → ρ)
    (h : ∀ s, I s → (∃ K, ∀ k, K ≤ k → L (k + 1) s = some (g s)) ∨ (∃ s' K, I s' ∧ m s' < m s ∧ g s' = g s ∧ ∀ k, K ≤ k → L (k + 1) s = L k s')) :
    ∀ s, I s → Ev (fun k => L k s) (g s) := by
  have key : ∀ (n : Nat) (s : σ), m s < n → I s → Ev (fun k => L k s) (g s) := by
    intro n
    induction n with
    | zero => intro s hs; omega
    | succ n ih =>
      intro s hs hi
      rcases h s hi with ⟨K, hK⟩ | ⟨s', K, hi', hm, hg, hK⟩
      · refine ⟨K + 1, fun k hk => ?_⟩
        obtain ⟨j, rfl⟩ : ∃ j, k = j + 1 := ⟨k - 1, by omega⟩
        exact hK j (by omega)
      · obtain ⟨K', hK'⟩ := ih s' (by omega) hi'
        refine ⟨max K K' + 1, fun k hk => ?_⟩
        obtain ⟨j, rfl⟩ : ∃ j, k = j + 1 := ⟨k - 1, by omega⟩
        show L (j + 1) s = some (g s)
        rw [hK j (by omega), ← hg]
        exact hK' j (by omega)
  intro s hi
  exact key (m s + 1) s (by omega) hi
/-- The same, where a round asks for no number of rounds. -/
theorem ev_loop0 {σ ρ : Type} (L : Nat → σ → Option ρ) (I : σ → Prop) (m : σ → Nat) (g : σ → ρ)
    (h : ∀ s, I s → (∀ k, L (k + 1) s = some (g s)) ∨ (∃ s', I s' ∧ m s' < m s ∧ g s' = g s ∧ ∀ k, L (k + 1) s = L k s')) :
    ∀ s, I s → Ev (fun k => L k s) (g s) :=
  ev_loop L I m g fun s hi => by
    rcases h s hi with h1 | ⟨s', h1, h2, h3, h4⟩
    · exact .inl ⟨0, fun k _ => h1 k⟩
    · exact .inr ⟨s', 0, h1, h2, h3, fun k _ => h4 k⟩
theorem wrap_id {x : Int} (h0 : -9223372036854775808 ≤ x) (h1 : x ≤ 9223372036854775807) : wrap64 x = x := by
  unfold wrap64; omega
theorem wrap_succ {n : Nat} (h : n ≤ 4611686018427387904) : wrap64 ((n : Int) + 1) = ((n + 1 : Nat) : Int) := by
  rw [wrap_id (by omega) (by omega)]; rfl
theorem rd_nat (xs : List Int) (n : Nat) : rd xs (n : Int) = xs.getD n 0 := by simp [rd]
theorem rd_lt (xs : List Int) (n : Nat) (h : n < xs.length) : rd xs (n : Int) = xs[n] := by simp [rd, h]
theorem ev_neg {α : Type} {c : Prop} [Decidable c] {f g : Nat → Option α} {r : α} (h : ¬ c) (k : Ev g r) : Ev (fun n => if c then f n else g n) r := Ev.congr (fun _ => if_neg h) k
theorem ev_pos {α : Type} {c : Prop} [Decidable c] {f g : Nat → Option α} {r : α} (h : c) (k : Ev f r) : Ev (fun n => if c then f n else g n) r := Ev.congr (fun _ => if_pos h) k
theorem ev_some {α : Type} {r r' : α} (h : r = r') : Ev (fun _ => some r) r' := h ▸ Ev.now r
theorem ev_const {α : Type} {o : Option α} {r : α} (h : o = some r) : Ev (fun _ => o) r := ⟨0, fun _ _ => h⟩
theorem ev_const' {α : Type} {g : Nat → Option α} {r : α} (h : ∀ k, g k = some r) : Ev g r := ⟨0, fun k _ => h k⟩
/-- A function whose first step takes one round. -/
theorem ev_step {α : Type} {g f : Nat → Option α} {r : α} (h : ∀ k, g (k + 1) = f k) (k : Ev f r) : Ev g r := Ev.step h k
/-- n numbers from a on. -/
def upFrom (a : Int) : Nat → List Int
  | 0 => []
  | n + 1 => a :: upFrom (a + 1) n
theorem upFrom_length (a : Int) (n : Nat) : (upFrom a n).length = n := by
  induction n generalizing a with
  | zero => rfl
  | succ n ih => simp [upFrom, ih]
end Go.Proofs.Ytfnopcbicceeaaa.Lib
namespace Go.Proofs.Ytfnopcbicceeaaa.P
open Go.RowKit Go.Proofs.YtfnopcbicceeaaaW.PrintWords Go.Proofs.Ytfnopcbicceeaaa.Lib
set_option linter.unusedVariables false
theorem inRange_eq (a b c : Int) : impl_inRange.f a b c = some (decide (b ≤ a) && decide (a ≤ c)) := by
  unfold impl_inRange.f
  by_cases h : b ≤ a <;> simp [h]
theorem l07In_eq (a b c : Int) : spec_l07In.f a b c = some (decide (b ≤ a) && decide (a ≤ c)) := by
  unfold spec_l07In.f
  by_cases h : b ≤ a <;> simp [h]
/-- A number that is the index of a permutation. -/
theorem fin_of {p : Int} (h0 : 0 ≤ p) (h1 : p ≤ 23) : ∃ m : Fin 24, p = (m.val : Int) := ⟨⟨p.toNat, by omega⟩, by simp; omega⟩
theorem fin4_of {f : Int} (h0 : 0 ≤ f) (h1 : f ≤ 3) : ∃ m : Fin 4, f = (m.val : Int) := ⟨⟨f.toNat, by omega⟩, by simp; omega⟩
theorem l06Images_ev {p : Int} (h0 : 0 ≤ p) (h1 : p ≤ 23) : Ev (fun k => spec_l06Images.f k p) (permL p) := by
  obtain ⟨m, rfl⟩ := fin_of h0 h1
  have key : ∀ m : Fin 24, spec_l06Images.f 5 (m.val : Int) = some (permL (m.val : Int)) := by decide +kernel
  exact Ev.of (fun k => spec_l06Images.mono _ k) (key m)
theorem permL_len (p : Int) : (permL p).length = 4 := rfl
theorem permL_sm {p f : Int} (h0 : 0 ≤ p) (h1 : p ≤ 23) (hf0 : 0 ≤ f) (hf1 : f ≤ 3) : 0 ≤ rd (permL p) f ∧ rd (permL p) f ≤ 3 := by
  obtain ⟨a, b, c, d⟩ := permAt_sm p h0 h1
  exact rd_four_sm a b c d f hf0 hf1
theorem l06At_ev {p f : Int} (h0 : 0 ≤ p) (h1 : p ≤ 23) (hf0 : 0 ≤ f) (hf1 : f ≤ 3) : Ev (fun k => spec_l06At.f k p f) (rd (permL p) f) := by
  refine Ev.bind (l06Images_ev h0 h1) ?_
  exact ev_pos hf0 (ev_pos (by rw [permL_len]; omega) (Ev.now _))
theorem l06Back_ev {p : Int} (h0 : 0 ≤ p) (h1 : p ≤ 23) : Ev (fun k => spec_l06Back.f k p) (invP p) := by
  obtain ⟨m, rfl⟩ := fin_of h0 h1
  have key : ∀ m : Fin 24, spec_l06Back.f 40 (m.val : Int) = some (invP (m.val : Int)) := by decide +kernel
  exact Ev.of (fun k => spec_l06Back.mono _ k) (key m)
theorem target_eq {q p f : Int} (h0 : 0 ≤ p) (h1 : p ≤ 23) (hf0 : 0 ≤ f) (hf1 : f ≤ 3) : impl_Face_target.f q p f = some (rd (permL p) f) := if_pos ⟨h0, h1, hf0, hf1⟩
theorem partner_eq {q p a : Int} (h0 : 0 ≤ p) (h1 : p ≤ 23) : impl_Face_partner.f q p a = some (a, invP p) := by
  unfold impl_Face_partner.f impl_invert.f
  rw [if_pos ⟨h0, h1⟩]; rfl
end Go.Proofs.Ytfnopcbicceeaaa.P
namespace Go.Proofs.Ytfnopcbicceeaaa.P
open Go.RowKit Go.Proofs.YtfnopcbicceeaaaW.PrintWords Go.Proofs.YtfnopcbicceeaaaW.PrintLast Go.Proofs.YtfnopcbicceeaaaW.PrintMore
attribute [local go_sem] max2_int min2_int max_two min_two max_three min_three max_four min_four   -- for this text's walks alone
set_option linter.unusedVariables false
set_option linter.unusedSimpArgs false
theorem eqA59 (d : Nat) (w : World) (x0 y0 : Int) (x1 y1 : Int) :
    (Op.equalIn (d + 2) 59 (.agg #[.int .i64 x0, .int .i64 x1]) (.agg #[.int .i64 y0, .int .i64 y1])).run Try.prog w = .ok (x0 == y0 && (x1 == y1)) w := by
  refine eqA_of Try.underlying59 (by kernel_rfl) ?_
  refine eqf_cons (by rfl) (by go_simp; rfl) (by go_simp; rfl) (by go_simp) ?_
  exact eqf_last (by rfl) (by go_simp; rfl) (by go_simp; rfl) (by go_simp)
end Go.Proofs.Ytfnopcbicceeaaa.P
namespace Go.Proofs.Ytfnopcbicceeaaa.P
open Go.RowKit Go.Proofs.YtfnopcbicceeaaaW.PrintWords Go.Proofs.Ytfnopcbicceeaaa.Lib
set_option linter.unusedVariables false
abbrev Tri := List (List SFace)
/-- No list of t is longer than a million. -/
def Small (t : Tri) : Prop := t.length ≤ 1048576 ∧ ∀ r ∈ t, r.length ≤ 1048576
theorem rd_LFace_lt (t : Tri) (n : Nat) (h : n < t.length) : rd_LFace t (n : Int) = t[n] := by simp [rd_LFace, h]
theorem rd_Face_lt (t : List SFace) (n : Nat) (h : n < t.length) : rd_Face t (n : Int) = t[n] := by simp [rd_Face, h]
theorem eqFaceS_ev (l : List SFace) (h : l.length ≤ 1048576) : Ev (fun k => laws_eqFaceS.f k l l) true := by
  have hl : Ev (fun k => laws_eqFaceS.l0 k l l 0) true := by
    refine ev_loop0 (fun k (s : Int) => laws_eqFaceS.l0 k l l s) (fun s => ∃ n : Nat, n ≤ l.length ∧ s = n) (fun s => l.length - s.toNat) (fun _ => true) ?_ 0 ⟨0, by omega, rfl⟩
    rintro i ⟨n, hn, rfl⟩
    by_cases hlt : n < l.length
    · refine .inr ⟨((n + 1 : Nat) : Int), ⟨n + 1, by omega, rfl⟩, by simp; omega, rfl, fun k => ?_⟩
      simp only [laws_eqFaceS.l0, laws_eqFace.f]
      rw [if_pos (by omega), if_pos (by omega), if_pos (by omega), if_pos trivial, if_pos trivial, yfy, if_pos rfl, wrap_succ (by omega)]
    · refine .inl fun k => ?_
      simp only [laws_eqFaceS.l0]
      rw [if_neg (by omega)]
  refine Ev.congr (fun k => ?_) hl
  unfold laws_eqFaceS.f
  rw [if_pos rfl]
theorem eqTriangulation_ev (l : Tri) (h : Small l) : Ev (fun k => laws_eqTriangulation.f k l l) true := by
  have hl : Ev (fun k => laws_eqFaceSS.l0 k l l 0) true := by
    refine ev_loop (fun k (s : Int) => laws_eqFaceSS.l0 k l l s) (fun s => ∃ n : Nat, n ≤ l.length ∧ s = n) (fun s => l.length - s.toNat) (fun _ => true) ?_ 0 ⟨0, by omega, rfl⟩
    rintro i ⟨n, hn, rfl⟩
    by_cases hlt : n < l.length
    · obtain ⟨K, hK⟩ := eqFaceS_ev l[n] (h.2 _ (List.getElem_mem hlt))
      refine .inr ⟨((n + 1 : Nat) : Int), K, ⟨n + 1, by omega, rfl⟩, by simp; omega, rfl, fun k hk => ?_⟩
      have e : laws_eqFaceS.f k l[n] l[n] = some _ := hK k hk
      have h1 := h.1
      simp only [laws_eqFaceSS.l0]
      rw [if_pos (by omega), if_pos (by omega), if_pos (by omega), rd_LFace_lt l n hlt, e, yfy, if_pos rfl, wrap_succ (by omega)]
    · refine .inl ⟨0, fun k _ => ?_⟩
      simp only [laws_eqFaceSS.l0]
      rw [if_neg (by omega)]
  have h2 : Ev (fun k => laws_eqFaceSS.f k l l) true := by
    refine Ev.congr (fun k => ?_) hl
    unfold laws_eqFaceSS.f
    rw [if_pos rfl]
  exact Ev.bind h2 (ev_pos rfl (Ev.now _))
section
variable {t : Tri}
theorem row4 (h4 : ∀ r ∈ t, r.length = 4) {a : Int} (h0 : 0 ≤ a) (h1 : a < t.length) : (rd_LFace t a).length = 4 := by
  obtain ⟨n, rfl⟩ := Int.eq_ofNat_of_zero_le h0
  rw [rd_LFace_lt t n (by omega)]
  exact h4 _ (List.getElem_mem _)
end
/-- A face is stored. -/
def setF (t : Tri) (a f : Int) (x : SFace) : Tri := t.set a.toNat ((rd_LFace t a).set f.toNat x)
theorem setF_length (t : Tri) (a f : Int) (x : SFace) : (setF t a f x).length = t.length := by simp [setF]
theorem setF_rows {t : Tri} {n : Nat} (h : ∀ r ∈ t, r.length = n) {a : Int} (h0 : 0 ≤ a) (h1 : a < t.length) (f : Int) (x : SFace) : ∀ r ∈ setF t a f x, r.length = n := by
  intro r hr
  rcases List.mem_or_eq_of_mem_set hr with h2 | h2
  · exact h r h2
  · rw [h2, List.length_set]
    obtain ⟨m, rfl⟩ := Int.eq_ofNat_of_zero_le h0
    rw [rd_LFace_lt t m (by omega)]
    exact h _ (List.getElem_mem _)
theorem fresh_go (n : Nat) (hn : n ≤ 1000000) : ∀ (d i : Nat) (xs : List Int), i + d = n → xs.length = i → Ev (fun k => spec_l08Fresh.l0 k (n : Int) xs (i : Int)) (xs ++ upFrom (i : Int) d)
  | 0, i, xs, h, hl => by
    refine ev_step (fun k => by rw [spec_l08Fresh.l0, if_neg (by omega)]) ?_
    rw [upFrom, List.append_nil]; exact Ev.now _
  | d + 1, i, xs, h, hl => by
    refine ev_step (fun k => by rw [spec_l08Fresh.l0, if_pos (by omega), if_pos (by omega), wrap_succ (by omega)]) ?_
    have := fresh_go n hn d (i + 1) (xs ++ [(i : Int)]) (by omega) (by simp [hl])
    rw [List.append_assoc] at this
    exact this
theorem fresh_ev (n : Nat) (hn : n ≤ 1000000) : Ev (fun k => spec_l08Fresh.f k (n : Int)) (upFrom 0 n) := by
  have := fresh_go n hn n 0 [] (by omega) rfl
  exact this
/- whole numbers modulo 2 ^ 64 -/
theorem wrap_mulL (a b : Int) : wrap64 (wrap64 a * b) = wrap64 (a * b) := by
  obtain ⟨q, hq⟩ : ∃ q : Int, wrap64 a = a + 18446744073709551616 * q := ⟨-((a + 9223372036854775808) / 18446744073709551616), by unfold wrap64; omega⟩
  have hk : ∀ c q : Int, wrap64 (c + 18446744073709551616 * q) = wrap64 c := fun c q => by unfold wrap64; omega
  rw [hq, Int.add_mul, Int.mul_assoc, hk]
def mul6 : Nat → Int → Int
  | 0, x => x
  | d + 1, x => mul6 d (wrap64 (x * 6))
theorem mul6_eq : ∀ (d : Nat) (x : Int), mul6 (d + 1) x = wrap64 (x * 6 ^ (d + 1))
  | 0, x => by simp [mul6]
  | d + 1, x => by
    rw [mul6, mul6_eq d, wrap_mulL, Int.mul_assoc]
    congr 2
    rw [Int.pow_succ 6 (d + 1), Int.mul_comm]
/- places in lists -/
theorem upFrom_mem {y : Int} : ∀ {n : Nat} {a : Int}, y ∈ upFrom a n ↔ a ≤ y ∧ y < a + (n : Int)
  | 0, a => by simp [upFrom]
  | n + 1, a => by
    rw [upFrom, List.mem_cons, upFrom_mem]
    push_cast
    omega
theorem upFrom_nodup : ∀ (n : Nat) (a : Int), (upFrom a n).Nodup
  | 0, a => List.nodup_nil
  | n + 1, a => by
    rw [upFrom, List.nodup_cons]
    exact ⟨fun h => by have := (upFrom_mem.1 h).1; omega, upFrom_nodup n (a + 1)⟩
section
variable (t : Tri)
def mtv (m : Int) : Int := (impl_matchings.f 20 m).getD 0
end
theorem mats_key : ∀ m : Fin 15, impl_matchings.f 20 (m.val : Int) = some (mtv (m.val : Int)) ∧ spec_l16Matchings.f 20 (m.val : Int) = some (mtv (m.val : Int)) := by decide +kernel
theorem mats_ev {m : Int} (h0 : 0 ≤ m) (h1 : m ≤ 14) : Ev (fun k => impl_matchings.f k m) (mtv m) ∧ Ev (fun k => spec_l16Matchings.f k m) (mtv m) := by
  obtain ⟨j, rfl⟩ : ∃ j : Fin 15, m = (j.val : Int) := ⟨⟨m.toNat, by omega⟩, by simp; omega⟩
  exact ⟨Ev.of (fun k => impl_matchings.mono _ k) (mats_key j).1, Ev.of (fun k => spec_l16Matchings.mono _ k) (mats_key j).2⟩
theorem gluings_ev {n : Nat} (h : n ≤ 4) : Ev (fun k => impl_gluings.f k (n : Int)) (6 ^ (2 * n)) := by
  obtain ⟨j, rfl⟩ : ∃ j : Fin 5, n = j.val := ⟨⟨n, by omega⟩, rfl⟩
  have key : ∀ j : Fin 5, impl_gluings.f 20 (j.val : Int) = some (6 ^ (2 * j.val)) := by decide +kernel
  exact Ev.of (fun k => impl_gluings.mono _ k) (key j)
theorem perms16_ev {f g : Int} (f0 : 0 ≤ f) (f1 : f ≤ 3) (g0 : 0 ≤ g) (g1 : g ≤ 3) : Ev (fun k => spec_l16Perms.f k f g) (mapL f g) := by
  obtain ⟨i, rfl⟩ := fin4_of f0 f1
  obtain ⟨j, rfl⟩ := fin4_of g0 g1
  have key : ∀ i j : Fin 4, spec_l16Perms.f 60 (i.val : Int) (j.val : Int) = some (mapL (i.val : Int) (j.val : Int)) := by decide +kernel
  exact Ev.of (fun k => spec_l16Perms.mono _ _ k) (key i j)
section
variable {t : Tri}
end
theorem rd_setG {l : List Int} {a b v : Int} (ha0 : 0 ≤ a) (ha1 : a < l.length) (hb : 0 ≤ b) : rd (l.set a.toNat v) b = if b = a then v else rd l b := by
  unfold rd
  by_cases e : b = a
  · subst e
    rw [if_pos rfl]
    have : b.toNat < l.length := by omega
    simp [List.getD_eq_getElem?_getD, this]
  · rw [if_neg e]
    have : a.toNat ≠ b.toNat := by omega
    simp [List.getD_eq_getElem?_getD, List.getElem?_set_ne this]
/-- In the course of the search: what is not left is paired. -/
structure MSt (N : Nat) (left out : List Int) : Prop where
  nd : left.Nodup
  bd : ∀ x ∈ left, 0 ≤ x ∧ x < (N : Int)
  len : out.length = N
  inv : ∀ x : Int, 0 ≤ x → x < (N : Int) → x ∉ left → (0 ≤ rd out x ∧ rd out x < (N : Int)) ∧ rd out x ∉ left ∧ rd out x ≠ x ∧ rd out (rd out x) = x
theorem nodup_at {l : List Int} (h : l.Nodup) {i j : Nat} (hi : i < l.length) (hj : j < l.length) (e : l[i] = l[j]) : i = j := by
  have hp := List.pairwise_iff_getElem.1 h
  rcases Nat.lt_trichotomy i j with q | q | q
  · exact absurd e (hp i j hi hj q)
  · exact q
  · exact absurd e.symm (hp j i hj hi q)
theorem MSt.step {N : Nat} {a : Int} {M out : List Int} (h : MSt N (a :: M) out) {q : Nat} (hq : q < M.length) :
    MSt N (M.eraseIdx q) ((out.set a.toNat (M[q])).set (M[q]).toNat a) := by
  obtain ⟨hnd, hbd, hlen, hinv⟩ := h
  obtain ⟨hna, hnm⟩ := List.nodup_cons.1 hnd
  have hbm : M[q] ∈ M := List.getElem_mem hq
  generalize hb : M[q] = b at *
  obtain ⟨a0, a1⟩ := hbd a (List.mem_cons_self ..)
  obtain ⟨b0, b1⟩ := hbd b (List.mem_cons_of_mem _ hbm)
  have hab : a ≠ b := fun e => hna (by rw [e]; exact hbm)
  have hsub : ∀ x ∈ M.eraseIdx q, x ∈ M := fun x hx => (List.eraseIdx_sublist M q).subset hx
  have hbn : b ∉ M.eraseIdx q := fun hx => by
    obtain ⟨i, hi, e⟩ := List.mem_eraseIdx_iff_getElem?.1 hx
    obtain ⟨hi2, e2⟩ := List.getElem?_eq_some_iff.1 e
    exact hi (nodup_at hnm hi2 hq (by rw [e2, hb]))
  have han : a ∉ M.eraseIdx q := fun hx => hna (hsub a hx)
  have hkeep : ∀ x ∈ M, x ≠ b → x ∈ M.eraseIdx q := fun x hx hne => by
    obtain ⟨i, hi, e⟩ := List.getElem_of_mem hx
    refine List.mem_eraseIdx_iff_getElem?.2 ⟨i, fun e2 => hne ?_, by rw [List.getElem?_eq_getElem hi, e]⟩
    subst e2
    rw [← e, hb]
  have hs : ∀ x : Int, 0 ≤ x → rd ((out.set a.toNat b).set b.toNat a) x = if x = b then a else if x = a then b else rd out x := fun x hx => by
    rw [rd_setG b0 (by rw [List.length_set]; omega) hx, rd_setG a0 (by omega) hx]
  refine ⟨List.Pairwise.sublist (List.eraseIdx_sublist M q) hnm, fun x hx => hbd x (List.mem_cons_of_mem _ (hsub x hx)), by rw [List.length_set, List.length_set]; exact hlen, fun x x0 x1 hx => ?_⟩
  rw [hs x x0]
  by_cases e1 : x = b
  · rw [if_pos e1, hs a a0, if_neg hab, if_pos rfl]
    exact ⟨⟨a0, a1⟩, han, by rw [e1]; exact hab, e1.symm⟩
  · rw [if_neg e1]
    by_cases e2 : x = a
    · rw [if_pos e2, hs b b0, if_pos rfl]
      exact ⟨⟨b0, b1⟩, hbn, by rw [e2]; exact fun q => hab q.symm, e2.symm⟩
    · rw [if_neg e2]
      have hxl : x ∉ a :: M := fun hm => by
        rcases List.mem_cons.1 hm with e | e
        · exact e2 e
        · exact hx (hkeep x e e1)
      obtain ⟨⟨p0, p1⟩, p2, p3, p4⟩ := hinv x x0 x1 hxl
      have q1 : rd out x ≠ b := fun e => p2 (by rw [e]; exact List.mem_cons_of_mem _ hbm)
      have q2 : rd out x ≠ a := fun e => p2 (by rw [e]; exact List.mem_cons_self ..)
      rw [hs _ p0, if_neg q1, if_neg q2]
      exact ⟨⟨p0, p1⟩, fun hm => p2 (List.mem_cons_of_mem _ (hsub _ hm)), p3, p4⟩
theorem mtv_key : ∀ j : Fin 8, mtv ((2 * j.val + 2 : Nat) : Int) = ((2 * j.val + 1 : Nat) : Int) * mtv ((2 * j.val : Nat) : Int) ∧ 0 < mtv ((2 * j.val : Nat) : Int) ∧ mtv ((2 * j.val : Nat) : Int) ≤ 135135 := by decide +kernel
theorem mtv_two {j : Nat} (h : j ≤ 7) : mtv ((2 * j + 2 : Nat) : Int) = ((2 * j + 1 : Nat) : Int) * mtv ((2 * j : Nat) : Int) ∧ 0 < mtv ((2 * j : Nat) : Int) ∧ mtv ((2 * j : Nat) : Int) ≤ 135135 := mtv_key ⟨j, by omega⟩
/-- One round of the reference. -/
theorem ga_spec_round {num m : Int} {left out : List Int} {q : Nat} {a b : Int} {R : List Int} (hl : left.length ≤ 16) (hq : q + 1 < left.length) (ho : out.length ≤ 16) (hm0 : ¬ m = 0) (hqd : wrap64 (Int.tdiv num m) = (q : Int)) (ha : rd left 0 = a) (hb : rd left ((q + 1 : Nat) : Int) = b)
    (a0 : 0 ≤ a) (a1 : a < (out.length : Int)) (b0 : 0 ≤ b) (b1 : b < (out.length : Int)) (hm : Ev (fun k => spec_l16Matchings.f k ((left.length : Int) - 2)) m)
    (hR : Ev (fun k => spec_l16Matching.l0 k (Int.tmod num m) ((left.eraseIdx (q + 1)).drop 1) ((out.set a.toNat b).set b.toNat a)) R) : Ev (fun k => spec_l16Matching.l0 k num left out) R := by
  have HQD := Aside0.mk hqd
  clear hqd
  have hc2 : wrap64 ((left.length : Int) - 2) = (left.length : Int) - 2 := wrap_id (by omega) (by omega)
  have hw1 : wrap64 (1 + (q : Int)) = ((q + 1 : Nat) : Int) := by rw [wrap_id (by omega) (by omega)]; omega
  have hw2 : wrap64 (((q + 1 : Nat) : Int) + 1) = ((q + 2 : Nat) : Int) := by rw [wrap_id (by omega) (by omega)]; omega
  have l1 : ((left.take (q + 1)).drop 1).length ≤ 100 := by rw [yly, ymy]; omega
  have l2 : (left.drop (q + 2)).length ≤ 100 := by rw [yly]; omega
  have z0 : (left.length : Int) > 0 := by omega
  have z1 : (0 : Int) < (left.length : Int) := by omega
  have z2 : (0 : Int) ≤ ((q + 1 : Nat) : Int) := by omega
  have z3 : ((q + 1 : Nat) : Int) < (left.length : Int) := by omega
  have z4 : (1 : Int) ≤ ((q + 1 : Nat) : Int) := by omega
  have z5 : ((q + 1 : Nat) : Int) ≤ (left.length : Int) := by omega
  have z6 : (0 : Int) ≤ ((q + 2 : Nat) : Int) := by omega
  have z7 : ((q + 2 : Nat) : Int) ≤ (left.length : Int) := by omega
  have b6 : ([] : List Int).length + ((left.take (q + 1)).drop 1).length < 17592186044416 := by rw [List.length_nil]; omega
  have b7 : ([] ++ (left.take (q + 1)).drop 1).length + (left.drop (q + 2)).length < 17592186044416 := by rw [List.nil_append]; omega
  have hcut : ([] ++ (left.take (q + 1)).drop 1) ++ left.drop (q + 2) = (left.eraseIdx (q + 1)).drop 1 := by
    cases left with
    | nil => simp at hq
    | cons x l => simp [List.eraseIdx_eq_take_drop_succ]
  clear l1 l2 hl ho hq
  refine ev_step (f := fun k => (spec_l16Matchings.f k ((left.length : Int) - 2)).bind fun t107 => (if t107 = m then spec_l16Matching.l0 k (Int.tmod num m) ((left.eraseIdx (q + 1)).drop 1) ((out.set a.toNat b).set b.toNat a) else (spec_l16Matching.l0 (k + 1) num left out))) (fun k => ?_) (Ev.bind hm (ev_pos rfl hR))
  cases hk : spec_l16Matchings.f k ((left.length : Int) - 2) with
  | none => rw [spec_l16Matching.l0, if_pos z0, hc2, hk]; rfl
  | some t107 =>
    rw [yfy]
    by_cases e : t107 = m
    · subst e
      rw [if_pos rfl, spec_l16Matching.l0, if_pos z0, hc2, hk, yfy, if_neg hm0, if_pos z1, HQD.out, hw1, if_pos z2, if_pos z3, ha, if_pos a0, if_pos a1, hb, if_pos b0, if_pos b1, yfy, if_pos z4, if_pos z5, yfy, Int.toNat_natCast, if_pos b6, yfy, hw2, if_pos z6, if_pos z7, yfy, Int.toNat_natCast, if_pos b7, hcut]
    · rw [if_neg e]
/-- Both searches. -/
theorem matching_ev {N : Nat} (hN : N ≤ 16) : ∀ (j : Nat) (left out : List Int) (num : Int), MSt N left out → left.length = 2 * j → j ≤ 8 → 0 ≤ num → num < mtv ((2 * j : Nat) : Int) →
    ∃ o : List Int, Ev (fun k => maQ k num left out) o ∧ Ev (fun k => spec_l16Matching.l0 k num left out) o ∧ MSt N [] o
  | 0, left, out, num, hS, hl, hj, h0, h1 => by
    obtain rfl : left = [] := List.eq_nil_of_length_eq_zero (by omega)
    exact ⟨out, ev_step (f := fun _ => some out) (fun k => by rw [maQ, if_pos (show ([] : List Int).length = 0 from rfl)]) (Ev.now _), ev_step (f := fun _ => some out) (fun k => by rw [spec_l16Matching.l0, if_neg (by simp)]) (Ev.now _), hS⟩
  | j + 1, left, out, num, hS, hl, hj, h0, h1 => by
    obtain ⟨m1, m2, m3⟩ := mtv_two (show j ≤ 7 by omega)
    rw [show 2 * (j + 1) = 2 * j + 2 by omega, m1] at h1
    obtain ⟨me1, me2⟩ := mats_ev (m := ((2 * j : Nat) : Int)) (by omega) (by omega)
    generalize hmm : mtv ((2 * j : Nat) : Int) = m at m2 m3 h1 me1 me2
    cases left with
    | nil => simp at hl
    | cons a M =>
      have hMl : M.length = 2 * j + 1 := by rw [List.length_cons] at hl; omega
      have hq0 : 0 ≤ num / m := Int.ediv_nonneg h0 (by omega)
      have hq1 : num / m < ((2 * j + 1 : Nat) : Int) := Int.ediv_lt_of_lt_mul m2 h1
      obtain ⟨q, hq⟩ := Int.eq_ofNat_of_zero_le hq0
      have hqM : q < M.length := by rw [hq] at hq1; omega
      have hr0 : 0 ≤ num % m := Int.emod_nonneg _ (by omega)
      have hr1 : num % m < m := Int.emod_lt_of_pos _ m2
      have hq64 : wrap64 (q : Int) = (q : Int) := wrap_id (by omega) (by omega)
      have HTM := Aside0.mk (Int.tmod_eq_emod_of_nonneg (b := m) h0)
      generalize num % m = num2 at hr0 hr1 HTM
      have HQD : Aside0 (wrap64 (Int.tdiv num m) = (q : Int)) := ⟨by rw [Int.tdiv_eq_ediv_of_nonneg h0, hq]; exact hq64⟩
      clear hq hq0 hq1 h1 m1 m3
      have hS2 := hS.step hqM
      obtain ⟨a0, a1⟩ := hS.bd a (List.mem_cons_self ..)
      obtain ⟨b0, b1⟩ := hS.bd M[q] (List.mem_cons_of_mem _ (List.getElem_mem hqM))
      have hrb : rd (a :: M) ((q + 1 : Nat) : Int) = M[q] := by
        rw [rd_nat, List.getD_cons_succ, List.getD_eq_getElem?_getD, List.getElem?_eq_getElem hqM, Option.getD_some]
      have hra : rd (a :: M) 0 = a := rfl
      have hlen := hS.len
      have hel : (M.eraseIdx q).length = 2 * j := by rw [List.length_eraseIdx, if_pos hqM]; omega
      obtain ⟨o, o1, o2, o3⟩ := matching_ev hN j (M.eraseIdx q) _ num2 hS2 hel (by omega) hr0 (by rw [hmm]; exact hr1)
      have hdrop : ((a :: M).eraseIdx (q + 1)).drop 1 = M.eraseIdx q := by rw [List.eraseIdx_cons_succ, List.drop_one, List.tail_cons]
      have hll : (((a :: M).length : Nat) : Int) - 2 = ((2 * j : Nat) : Int) := by rw [hl]; omega
      generalize M[q] = b at *
      refine ⟨o, ?_, ?_, o3⟩
      · have hw : wrap64 ((((a :: M).length : Nat) : Int) - 2) = ((2 * j : Nat) : Int) := by rw [hll]; exact wrap_id (by omega) (by omega)
        have z0 : ¬ (a :: M).length = 0 := by rw [hl]; omega
        have z1 : (m ≠ 0 ∧ 0 ≤ (q : Int) ∧ (q : Int) + 1 < ((a :: M).length : Int)) ∧ (0 ≤ a ∧ a < (out.length : Int)) ∧ (0 ≤ b ∧ b < (out.length : Int)) := ⟨⟨by omega, by omega, by rw [hl]; omega⟩, ⟨a0, by omega⟩, b0, by omega⟩
        have hq1' : (q : Int) + 1 = ((q + 1 : Nat) : Int) := by omega
        refine ev_step (f := fun k => (impl_matchings.f k ((2 * j : Nat) : Int)).bind fun t => if t = m then maQ k num2 (M.eraseIdx q) ((out.set a.toNat b).set b.toNat a) else maQ (k + 1) num (a :: M) out) (fun k => ?_) (Ev.bind me1 (ev_pos rfl o1))
        cases hk : impl_matchings.f k ((2 * j : Nat) : Int) with
        | none => rw [maQ, if_neg z0, hw, hk]; rfl
        | some t =>
          rw [yfy]
          by_cases e : t = m
          · subst e
            rw [if_pos rfl, maQ, if_neg z0, hw, hk, yfy, HQD.out, hra, hq1', hrb, HTM.out]
            rw [hq1'] at z1
            rw [if_pos z1, Int.toNat_natCast, hdrop]
          · rw [if_neg e]
      · refine ga_spec_round (by rw [hl]; omega) (by rw [hl]; omega) (by omega) (by omega) HQD.out hra hrb a0 (by omega) b0 (by omega) (by rw [hll]; exact me2) ?_
        rw [HTM.out, hdrop]
        exact o2
/-- A list that pairs all places below N. -/
structure In2 (p : Int → Int) (N : Nat) : Prop where
  at' : ∀ x : Int, 0 ≤ x → x < (N : Int) → 0 ≤ p x ∧ p x < (N : Int) ∧ p x ≠ x ∧ p (p x) = x
def lfp (p : Int → Int) (N x : Nat) : List Int := (upFrom (x : Int) (N - x)).filter fun y => decide ((x : Int) ≤ p y)
def cnt (p : Int → Int) : Nat → Nat → Nat
  | 0, _ => 0
  | d + 1, x => (if (x : Int) < p (x : Int) then 1 else 0) + cnt p d (x + 1)
section
variable {p : Int → Int} {N : Nat}
theorem lfp_skip (h : In2 p N) {x : Nat} (hx : x < N) (hp : ¬ (x : Int) < p (x : Int)) : lfp p N (x + 1) = lfp p N x := by
  have ha := h.at' (x : Int) (by omega) (by omega)
  obtain ⟨m, hm⟩ : ∃ m, N - x = m + 1 := ⟨N - x - 1, by omega⟩
  unfold lfp
  rw [hm, show N - (x + 1) = m by omega, upFrom, List.filter_cons, if_neg (by rw [decide_eq_true_eq]; omega)]
  apply List.filter_congr
  intro y hy
  obtain ⟨y0, y1⟩ := upFrom_mem.1 hy
  have hb := h.at' y (by omega) (by omega)
  have hne : p y ≠ (x : Int) := fun e => by
    have := hb.2.2.2
    rw [e] at this
    omega
  apply decide_eq_decide.2
  push_cast
  omega
theorem lfp_take (h : In2 p N) {x : Nat} (hx : x < N) (hp : (x : Int) < p (x : Int)) : (lfp p N x).length = (lfp p N (x + 1)).length + 2 := by
  have ha := h.at' (x : Int) (by omega) (by omega)
  obtain ⟨m, hm⟩ : ∃ m, N - x = m + 1 := ⟨N - x - 1, by omega⟩
  have e1 : lfp p N x = (x : Int) :: (upFrom ((x : Int) + 1) m).filter (fun y => decide ((x : Int) ≤ p y)) := by
    unfold lfp
    rw [hm, upFrom, List.filter_cons, if_pos (by rw [decide_eq_true_eq]; omega)]
  have hmem : p (x : Int) ∈ (upFrom ((x : Int) + 1) m).filter (fun y => decide ((x : Int) ≤ p y)) := by
    rw [List.mem_filter, upFrom_mem, decide_eq_true_eq, ha.2.2.2]
    omega
  have hnd : ((upFrom ((x : Int) + 1) m).filter (fun y => decide ((x : Int) ≤ p y))).Nodup := (upFrom_nodup m _).filter _
  have e2 : lfp p N (x + 1) = ((upFrom ((x : Int) + 1) m).filter (fun y => decide ((x : Int) ≤ p y))).erase (p (x : Int)) := by
    rw [hnd.erase_eq_filter, List.filter_filter]
    unfold lfp
    rw [show N - (x + 1) = m by omega]
    push_cast
    apply List.filter_congr
    intro y hy
    obtain ⟨y0, y1⟩ := upFrom_mem.1 hy
    have hb := h.at' y (by omega) (by omega)
    have hiff : (x : Int) + 1 ≤ p y ↔ y ≠ p (x : Int) ∧ (x : Int) ≤ p y := by
      constructor
      · intro q
        refine ⟨fun e => ?_, by omega⟩
        rw [e, ha.2.2.2] at q
        omega
      · rintro ⟨q1, q2⟩
        have : p y ≠ (x : Int) := fun e => q1 (by rw [← e]; exact hb.2.2.2.symm)
        omega
    rw [Bool.eq_iff_iff, decide_eq_true_eq, Bool.and_eq_true, bne_iff_ne, decide_eq_true_eq]
    exact hiff
  rw [e1, e2, List.length_cons, List.length_erase_of_mem hmem]
  have := List.length_pos_of_mem hmem
  omega
theorem lfp_cnt (h : In2 p N) : ∀ d x : Nat, x + d = N → (lfp p N x).length = 2 * cnt p d x
  | 0, x, e => by
    obtain rfl : x = N := by omega
    unfold lfp
    rw [Nat.sub_self]; rfl
  | d + 1, x, e => by
    have ih := lfp_cnt h d (x + 1) (by omega)
    rw [cnt]
    by_cases hp : (x : Int) < p (x : Int)
    · rw [if_pos hp, lfp_take h (by omega) hp, ih]; omega
    · rw [if_neg hp, ← lfp_skip h (by omega) hp, ih]; omega
theorem cnt_all (h : In2 p N) : 2 * cnt p N 0 = N := by
  have h1 := lfp_cnt h N 0 (by omega)
  have h2 : lfp p N 0 = upFrom 0 N := by
    unfold lfp
    rw [Nat.sub_zero]
    show List.filter (fun y => decide ((0 : Int) ≤ p y)) (upFrom 0 N) = upFrom 0 N
    refine List.filter_eq_self.2 (fun y hy => ?_)
    obtain ⟨y0, y1⟩ := upFrom_mem.1 hy
    have := (h.at' y y0 (by omega)).1
    rw [decide_eq_true_eq]; exact this
  rw [h2, upFrom_length] at h1
  exact h1.symm
end
theorem in2_of {N : Nat} {o : List Int} (h : MSt N [] o) : In2 (rd o) N := ⟨fun x x0 x1 => by
  obtain ⟨⟨h1, h2⟩, _, h3, h4⟩ := h.inv x x0 x1 (by simp)
  exact ⟨h1, h2, h3, h4⟩⟩
theorem pow6_key : ∀ c : Fin 9, 0 < (6 : Int) ^ c.val ∧ (6 : Int) ^ c.val ≤ 1679616 := by decide
theorem pow6 {c : Nat} (h : c ≤ 8) : 0 < (6 : Int) ^ c ∧ (6 : Int) ^ c ≤ 1679616 := pow6_key ⟨c, by omega⟩
theorem mapL_key : ∀ f g : Fin 4, (mapL (f.val : Int) (g.val : Int)).length = 6 := by decide +kernel
theorem mapL_six {f g : Int} (f0 : 0 ≤ f) (f1 : f ≤ 3) (g0 : 0 ≤ g) (g1 : g ≤ 3) : (mapL f g).length = 6 := by
  obtain ⟨i, rfl⟩ := fin4_of f0 f1
  obtain ⟨j, rfl⟩ := fin4_of g0 g1
  exact mapL_key i j
theorem mapL_at {f g i : Int} (f0 : 0 ≤ f) (f1 : f ≤ 3) (g0 : 0 ≤ g) (g1 : g ≤ 3) (i0 : 0 ≤ i) (i1 : i < 6) : 0 ≤ rd (mapL f g) i ∧ rd (mapL f g) i ≤ 23 ∧ rd (permL (rd (mapL f g) i)) f = g := by
  have hl := mapL_six f0 f1 g0 g1
  obtain ⟨n, rfl⟩ := Int.eq_ofNat_of_zero_le i0
  have hm : rd (mapL f g) (n : Int) ∈ mapL f g := by
    rw [rd_lt _ n (by omega)]
    exact List.getElem_mem _
  generalize rd (mapL f g) (n : Int) = y at hm
  unfold mapL at hm
  obtain ⟨h1, h2⟩ := List.mem_filter.1 hm
  obtain ⟨b0, b1⟩ := mapAll_bd y h1
  exact ⟨b0, b1, by simpa using h2⟩
def glG (t : Tri) (a f b p : Int) : Tri := setF (setF t a f ⟨b, p⟩) b (rd (permL p) f) ⟨a, invP p⟩
theorem glG_ok {t : Tri} {n : Nat} (hl : t.length = n) (h4 : ∀ r ∈ t, r.length = 4) {a f b p : Int} (a0 : 0 ≤ a) (a1 : a < (n : Int)) (f0 : 0 ≤ f) (f1 : f ≤ 3) (b0 : 0 ≤ b) (b1 : b < (n : Int)) (p0 : 0 ≤ p) (p1 : p ≤ 23) :
    impl_Triangulation_glue.f t a f b p = some (glG t a f b p) ∧ Ev (fun k => spec_l07Glue.f k t a f b p) (glG t a f b p) ∧ (glG t a f b p).length = n ∧ ∀ r ∈ glG t a f b p, r.length = 4 := by
  obtain ⟨q0, q1⟩ := permL_sm p0 p1 f0 f1
  have r1 : (rd_LFace t a).length = 4 := row4 h4 a0 (by omega)
  have hs4 : ∀ r ∈ setF t a f ⟨b, p⟩, r.length = 4 := setF_rows h4 a0 (by omega) f ⟨b, p⟩
  have hsl : (setF t a f ⟨b, p⟩).length = n := by rw [setF_length]; exact hl
  have r2 : (rd_LFace (setF t a f ⟨b, p⟩) b).length = 4 := row4 hs4 b0 (by omega)
  have c : (0 ≤ a ∧ a < (t.length : Int) ∧ 0 ≤ f ∧ f < ((rd_LFace t a).length : Int)) ∧ (0 ≤ b ∧ b < (t.length : Int) ∧ 0 ≤ rd (permL p) f ∧ rd (permL p) f < ((rd_LFace (setF t a f ⟨b, p⟩) b).length : Int)) := ⟨⟨a0, by omega, f0, by omega⟩, b0, by omega, q0, by omega⟩
  refine ⟨?_, ?_, ?_, ?_⟩
  · unfold impl_Triangulation_glue.f
    rw [target_eq p0 p1 f0 f1, yfy, partner_eq p0 p1, yfy]
    exact if_pos c
  · exact Ev.bind (l06At_ev p0 p1 f0 f1) (Ev.bind (l06Back_ev p0 p1) (ev_pos c (ev_some rfl)))
  · unfold glG; rw [setF_length]; exact hsl
  · exact setF_rows hs4 b0 (by omega) _ _
theorem ga_divs {num : Int} {c : Nat} (h0 : 0 ≤ num) (hc : c ≤ 7) : Int.tmod num (6 ^ (c + 1)) = num % 6 ^ (c + 1) ∧ wrap64 (Int.tdiv (6 ^ (c + 1)) 6) = 6 ^ c ∧ wrap64 (Int.tdiv (num % 6 ^ (c + 1)) (6 ^ c)) = num % 6 ^ (c + 1) / 6 ^ c ∧ 0 ≤ num % 6 ^ (c + 1) ∧ num % 6 ^ (c + 1) ≤ num ∧ 0 ≤ num % 6 ^ (c + 1) / 6 ^ c ∧ num % 6 ^ (c + 1) / 6 ^ c < 6 ∧ Int.tmod (num % 6 ^ (c + 1)) (6 ^ c) = num % 6 ^ (c + 1) % 6 ^ c := by
  obtain ⟨w0, w1⟩ := pow6 (show c ≤ 8 by omega)
  obtain ⟨v0, v1⟩ := pow6 (show c + 1 ≤ 8 by omega)
  have e6 : (6 : Int) ^ (c + 1) = 6 * 6 ^ c := by rw [Int.pow_succ, Int.mul_comm]
  have m0 : 0 ≤ num % 6 ^ (c + 1) := Int.emod_nonneg _ (by omega)
  have m1 : num % 6 ^ (c + 1) < 6 ^ (c + 1) := Int.emod_lt_of_pos _ v0
  have m2 : num % 6 ^ (c + 1) ≤ num := by
    have := Int.emod_add_mul_ediv num (6 ^ (c + 1))
    have hd : 0 ≤ num / 6 ^ (c + 1) := Int.ediv_nonneg h0 (by omega)
    have hm : 0 ≤ 6 ^ (c + 1) * (num / 6 ^ (c + 1)) := Int.mul_nonneg (by omega) hd
    omega
  have d0 : 0 ≤ num % 6 ^ (c + 1) / 6 ^ c := Int.ediv_nonneg m0 (by omega)
  have d1 : num % 6 ^ (c + 1) / 6 ^ c < 6 := Int.ediv_lt_of_lt_mul w0 (by rw [e6] at m1; rw [e6]; exact m1)
  refine ⟨Int.tmod_eq_emod_of_nonneg h0, ?_, ?_, m0, m2, d0, d1, Int.tmod_eq_emod_of_nonneg m0⟩
  · rw [Int.tdiv_eq_ediv_of_nonneg (by omega), e6, Int.mul_ediv_cancel_left _ (by decide)]
    exact wrap_id (by omega) (by omega)
  · rw [Int.tdiv_eq_ediv_of_nonneg m0]
    generalize num % 6 ^ (c + 1) / 6 ^ c = z at d0 d1
    exact wrap_id (by omega) (by omega)
theorem four_tdiv {x : Int} (h0 : 0 ≤ x) (h1 : x ≤ 100) : wrap64 (Int.tdiv x 4) = x / 4 ∧ Int.tmod x 4 = x % 4 := by
  rw [Int.tdiv_eq_ediv_of_nonneg h0, Int.tmod_eq_emod_of_nonneg h0]
  exact ⟨wrap_id (by omega) (by omega), rfl⟩
theorem ga_k {ka kb k : Nat} (h : ka + kb + 1 ≤ k) : ∃ j, k = j + 1 ∧ ka ≤ j ∧ kb ≤ j := ⟨k - 1, by omega, by omega, by omega⟩
/-- What is done for a face whose partner comes behind it, on both sides. -/
theorem glue_sim {n : Nat} (hn : n ≤ 4) {o : List Int} (ho : MSt (4 * n) [] o) : ∀ (d x c : Nat) (num : Int) (t : Tri), x + d = 4 * n → c = cnt (rd o) d x → c ≤ 8 → 0 ≤ num → t.length = n → (∀ r ∈ t, r.length = 4) →
    ∃ t' : Tri, Ev (fun k => impl_gluingAt.l1 k num (6 ^ c) o ((4 * n : Nat) : Int) (x : Int) t) t' ∧ Ev (fun k => spec_l16Gluing.l2 k (n : Int) (num % 6 ^ c) (6 ^ c) o (x : Int) t) t' ∧ t'.length = n ∧ ∀ r ∈ t', r.length = 4
  | 0, x, c, num, t, hd, hc, h8, h0, hl, h4 => by
    have e4 : wrap64 (4 * (n : Int)) = ((4 * n : Nat) : Int) := by rw [wrap_id (by omega) (by omega)]; omega
    refine ⟨t, ev_step (f := fun _ => some t) (fun k => by rw [impl_gluingAt.l1, if_neg (by omega)]) (Ev.now _), ev_step (f := fun _ => some t) (fun k => by rw [spec_l16Gluing.l2, e4, if_neg (by omega)]) (Ev.now _), hl, h4⟩
  | d + 1, x, c, num, t, hd, hc, h8, h0, hl, h4 => by
    have e4 : wrap64 (4 * (n : Int)) = ((4 * n : Nat) : Int) := by rw [wrap_id (by omega) (by omega)]; omega
    have hlen := ho.len
    have hx : (x : Int) < ((4 * n : Nat) : Int) := by omega
    have hx0 : (0 : Int) ≤ (x : Int) := by omega
    have hxo : (x : Int) < (o.length : Int) := by omega
    have hxw : wrap64 ((x : Int) + 1) = ((x + 1 : Nat) : Int) := wrap_succ (by omega)
    obtain ⟨y0, y1, y2, y3⟩ := (in2_of ho).at' (x : Int) hx0 hx
    rw [cnt] at hc
    obtain ⟨y, hy⟩ : ∃ y, rd o (x : Int) = y := ⟨_, rfl⟩
    rw [hy] at y0 y1 y2 hc
    clear y3
    have hd1 : x + 1 + d = 4 * n := by omega
    have hx100 : (x : Int) ≤ 100 := by omega
    have hy100 : y ≤ 100 := by omega
    have bx0 : (0 : Int) ≤ (x : Int) / 4 := by omega
    have bx1 : (x : Int) / 4 < (n : Int) := by omega
    have bx2 : (0 : Int) ≤ (x : Int) % 4 := by omega
    have bx3 : (x : Int) % 4 ≤ 3 := by omega
    have by0 : (0 : Int) ≤ y / 4 := by omega
    have by1 : y / 4 < (n : Int) := by omega
    have by2 : (0 : Int) ≤ y % 4 := by omega
    have by3 : y % 4 ≤ 3 := by omega
    have hy2 : ¬ (x : Int) < y → y < (x : Int) := fun h => by omega
    have hy3 : (x : Int) < y → ¬ y < (x : Int) := fun h => by omega
    clear y2 y1
    by_cases hp : (x : Int) < y
    · rw [if_pos hp] at hc
      obtain ⟨c', hc'⟩ : ∃ c', cnt (rd o) d (x + 1) = c' := ⟨_, rfl⟩
      rw [hc', Nat.add_comm] at hc
      subst hc
      have hc7 : c' ≤ 7 := Nat.le_of_succ_le_succ h8
      have hc8 : c' ≤ 8 := Nat.le_succ_of_le hc7
      have hny := hy3 hp
      obtain ⟨x4, xm⟩ := four_tdiv hx0 hx100
      obtain ⟨z4, zm⟩ := four_tdiv y0 hy100
      have hm1 := mapL_six bx2 bx3 by2 by3
      have hmap := perms16_ev bx2 bx3 by2 by3
      have hmi : impl_mapping.f ((x : Int) % 4) (y % 4) = some (mapL ((x : Int) % 4) (y % 4)) := if_pos ⟨bx2, bx3⟩
      obtain ⟨g1, g2, g3, g4, g5, g6, g7, g8⟩ := ga_divs (num := num) (c := c') h0 hc7
      have w0 := (pow6 hc8).1
      have v0 := (pow6 h8).1
      obtain ⟨p0, p1, p2⟩ := mapL_at bx2 bx3 by2 by3 g6 g7
      obtain ⟨k1, k2, k3, k4⟩ := glG_ok hl h4 bx0 bx1 bx2 bx3 by0 by1 p0 p1
      obtain ⟨t', t1, t2, t3, t4⟩ := glue_sim hn ho d (x + 1) c' (num % 6 ^ (c' + 1)) _ hd1 hc'.symm hc8 g4 k3 k4
      have hne1 : ¬ (6 : Int) ^ (c' + 1) = 0 := fun e => by rw [e] at v0; exact absurd v0 (by decide)
      have hne0 : ¬ (6 : Int) ^ c' = 0 := fun e => by rw [e] at w0; exact absurd w0 (by decide)
      have g7' : num % 6 ^ (c' + 1) / 6 ^ c' < ((mapL ((x : Int) % 4) (y % 4)).length : Int) := by rw [hm1]; exact g7
      refine ⟨t', ?_, ?_, t3, t4⟩
      · exact ev_step (fun k => by rw [impl_gluingAt.l1, if_pos hx, if_pos hx0, if_pos hxo, hy, if_pos hp, if_neg hne1, xm, zm, hmi, yfy, g2, if_neg hne0, g1, g3, if_pos g6, if_pos g7', x4, z4, k1, yfy, hxw]) t1
      · obtain ⟨ka, qa⟩ := hmap
        obtain ⟨kb, qb⟩ := (Ev.bind k2 t2 : Ev (fun k => (spec_l07Glue.f k t ((x : Int) / 4) ((x : Int) % 4) (y / 4) (rd (mapL ((x : Int) % 4) (y % 4)) (num % 6 ^ (c' + 1) / 6 ^ c'))).bind fun t117 => spec_l16Gluing.l2 k (n : Int) (num % 6 ^ (c' + 1) % 6 ^ c') (6 ^ c') o ((x + 1 : Nat) : Int) t117) t')
        refine ⟨ka + kb + 1, fun k hk => ?_⟩
        obtain ⟨j, rfl, hj1, hj2⟩ := ga_k hk
        have q1 : spec_l16Perms.f j ((x : Int) % 4) (y % 4) = some (mapL ((x : Int) % 4) (y % 4)) := qa j hj1
        have q2 := qb j hj2
        show spec_l16Gluing.l2 (j + 1) (n : Int) (num % 6 ^ (c' + 1)) (6 ^ (c' + 1)) o (x : Int) t = some t'
        rw [spec_l16Gluing.l2, e4, if_pos hx, if_pos hx0, if_pos hxo, hy, if_neg hny, xm, zm, q1, yfy, g2, if_neg hne0, g3, if_pos g6, if_pos g7', x4, z4, g8, hxw]
        exact q2
    · rw [if_neg hp, Nat.zero_add] at hc
      have hlt : y < (x : Int) := hy2 hp
      obtain ⟨t', t1, t2, t3, t4⟩ := glue_sim hn ho d (x + 1) c num t hd1 hc h8 h0 hl h4
      refine ⟨t', ?_, ?_, t3, t4⟩
      · exact ev_step (fun k => by rw [impl_gluingAt.l1, if_pos hx, if_pos hx0, if_pos hxo, hy, if_neg hp, hxw]) t1
      · exact ev_step (fun k => by rw [spec_l16Gluing.l2, e4, if_pos hx, if_pos hx0, if_pos hxo, hy, if_pos hlt, hxw]) t2
theorem impl_copy_ev {t : Tri} (hs : Small t) : Ev (fun k => impl_copyTriangulation.f k t) t := by
  refine ev_loop0 (fun k (s : Int × Tri) => impl_copyTriangulation.l0 k t (t.length : Int) s.1 s.2) (fun s => ∃ n : Nat, n ≤ t.length ∧ s.1 = n ∧ s.2 = t.take n) (fun s => t.length - s.1.toNat) (fun _ => t) ?_ (0, []) ⟨0, by omega, rfl, by simp⟩
  rintro ⟨i, acc⟩ ⟨n, hn, rfl, rfl⟩
  dsimp only
  have hl := hs.1
  by_cases hlt : n < t.length
  · have hr := hs.2 t[n] (List.getElem_mem hlt)
    refine .inr ⟨(((n + 1 : Nat) : Int), t.take (n + 1)), ⟨n + 1, by omega, rfl, rfl⟩, by simp; omega, rfl, fun k => ?_⟩
    simp only [impl_copyTriangulation.l0]
    rw [if_pos (by omega), if_pos (by omega), if_pos (by omega), rd_LFace_lt t n hlt, slices_Clone_Simpl_Face.f, if_pos (by omega), yfy, if_pos (by simp; omega), wrap_succ (by omega), List.take_succ_eq_append_getElem hlt]
  · obtain rfl : n = t.length := by omega
    refine .inl fun k => ?_
    simp only [impl_copyTriangulation.l0]
    rw [if_neg (by omega), List.take_length]
def rowF : List SFace := [⟨-1, 0⟩, ⟨-1, 0⟩, ⟨-1, 0⟩, ⟨-1, 0⟩]
def freeT (n : Nat) : Tri := List.replicate n rowF
theorem freeT_len (n : Nat) : (freeT n).length = n := List.length_replicate
theorem freeT_row (n : Nat) : ∀ r ∈ freeT n, r.length = 4 := fun r hr => by rw [List.eq_of_mem_replicate hr]; rfl
theorem freeT_succ (n : Nat) : freeT n ++ [rowF] = freeT (n + 1) := (List.replicate_succ').symm
theorem freeT_small {n : Nat} (h : n ≤ 4) : Small (freeT n) := ⟨by rw [freeT_len]; omega, fun r hr => by rw [freeT_row n r hr]; decide⟩
theorem with_ev {n : Nat} (h : n ≤ 4) : Ev (fun k => impl_withTetrahedron.f k (freeT n)) (freeT (n + 1)) :=
  Ev.bind (impl_copy_ev (freeT_small h)) (Ev.bind (a := ((-1 : Int), (0 : Int))) (ev_const (by unfold impl_boundary.f; rfl)) (Ev.bind (a := rowF) (ev_const rfl) (ev_pos (by rw [freeT_len]; omega) (ev_some (freeT_succ n)))))
/-- The weight and the size of a census. -/
def gaS (n : Nat) : Int := mtv ((4 * n : Nat) : Int) * 6 ^ (2 * n)
theorem gaS_key : ∀ n : Fin 4, impl_GluingCount.f 40 ((n.val + 1 : Nat) : Int) = some (gaS (n.val + 1)) ∧ spec_l16Size.f 40 ((n.val + 1 : Nat) : Int) = some (gaS (n.val + 1)) ∧ 0 < gaS (n.val + 1) ∧ gaS (n.val + 1) ≤ 4000000000000 ∧ 0 < mtv ((4 * (n.val + 1) : Nat) : Int) := by decide +kernel
theorem gaS_ev {n : Nat} (h0 : 1 ≤ n) (h1 : n ≤ 4) : Ev (fun k => impl_GluingCount.f k (n : Int)) (gaS n) ∧ Ev (fun k => spec_l16Size.f k (n : Int)) (gaS n) ∧ 0 < gaS n ∧ gaS n ≤ 4000000000000 := by
  obtain ⟨j, rfl⟩ : ∃ j, n = j + 1 := ⟨n - 1, by omega⟩
  obtain ⟨a, b, c, d, _⟩ := gaS_key ⟨j, by omega⟩
  exact ⟨Ev.of (fun k => impl_GluingCount.mono _ k) a, Ev.of (fun k => spec_l16Size.mono _ k) b, c, d⟩
theorem start_st (N : Nat) : MSt N (upFrom 0 N) (List.replicate N 0) :=
  ⟨upFrom_nodup N 0, fun x hx => by have := upFrom_mem.1 hx; omega, List.length_replicate, fun x x0 x1 hx => absurd (upFrom_mem.2 ⟨x0, by omega⟩) hx⟩
/-- The matching, in the functions' own words. -/
theorem mat_ev {n : Nat} (h1 : n ≤ 4) {num : Int} (h0 : 0 ≤ num) (h2 : num < mtv ((4 * n : Nat) : Int)) : ∃ o : List Int, Ev (fun k => impl_matchingAt.f k ((4 * n : Nat) : Int) num) o ∧ Ev (fun k => spec_l16Matching.f k ((4 * n : Nat) : Int) num) o ∧ MSt (4 * n) [] o := by
  obtain ⟨o, o1, o2, o3⟩ := matching_ev (N := 4 * n) (by omega) (2 * n) (upFrom 0 (4 * n)) (List.replicate (4 * n) 0) num (start_st _) (by rw [upFrom_length]; omega) (by omega) h0 (by rw [show 2 * (2 * n) = 4 * n by omega]; exact h2)
  refine ⟨o, ?_, ?_, o3⟩
  · refine ev_pos ⟨by omega, by omega⟩ (Ev.bind (a := upFrom 0 (4 * n)) ?_ ?_)
    · obtain ⟨j, hj⟩ : ∃ j : Fin 5, n = j.val := ⟨⟨n, by omega⟩, rfl⟩
      have key : ∀ j : Fin 5, impl_counting.f 40 ((4 * j.val : Nat) : Int) = some (upFrom 0 (4 * j.val)) := by decide +kernel
      rw [hj]
      exact Ev.of (fun k => impl_counting.mono _ k) (key j)
    · rw [Int.toNat_natCast]; exact o1
  · refine Ev.bind (fresh_ev (4 * n) (by omega)) (ev_pos (by omega) (ev_pos (by rw [Int.toNat_natCast]; omega) ?_))
    rw [Int.toNat_natCast]; exact o2
theorem pow_wrap {i : Nat} (h : i ≤ 7) : wrap64 ((6 : Int) ^ i * 6) = 6 ^ (i + 1) := by
  obtain ⟨v0, v1⟩ := pow6 (show i + 1 ≤ 8 by omega)
  have e : (6 : Int) ^ i * 6 = 6 ^ (i + 1) := (Int.pow_succ 6 i).symm
  rw [e]
  exact wrap_id (by omega) (by omega)
theorem spec_base {n : Nat} (hn : n ≤ 4) {num : Int} {R : Tri} (hR : Ev (fun k => spec_l16Gluing.l0 k (n : Int) num (6 ^ (2 * n)) ((2 * n : Nat) : Int)) R) : ∀ (d i : Nat), i + d = 2 * n → Ev (fun k => spec_l16Gluing.l0 k (n : Int) num (6 ^ i) (i : Int)) R
  | 0, i, e => by
    obtain rfl : i = 2 * n := by omega
    exact hR
  | d + 1, i, e => by
    have ih := spec_base hn hR d (i + 1) (by omega)
    have e2 : wrap64 (2 * (n : Int)) = ((2 * n : Nat) : Int) := by rw [wrap_id (by omega) (by omega)]; omega
    have hi : (i : Int) < ((2 * n : Nat) : Int) := by omega
    exact ev_step (fun k => by rw [spec_l16Gluing.l0, e2, if_pos hi, pow_wrap (by omega), wrap_succ (by omega)]) ih
theorem spec_frees {n : Nat} (hn : n ≤ 4) {num b : Int} {o : List Int} {R : Tri} (hR : Ev (fun k => spec_l16Gluing.l2 k (n : Int) num b o 0 (freeT n)) R) : ∀ (d i : Nat), i + d = n → Ev (fun k => spec_l16Gluing.l1 k (n : Int) num b o (i : Int) (freeT i)) R
  | 0, i, e => by
    obtain rfl : i = n := by omega
    exact ev_step (fun k => by rw [spec_l16Gluing.l1, if_neg (by omega)]) hR
  | d + 1, i, e => by
    have ih := spec_frees hn hR d (i + 1) (by omega)
    exact ev_step (fun k => by rw [spec_l16Gluing.l1, if_pos (by omega), show spec_l07Free.f = some rowF from rfl, yfy, if_pos (by rw [freeT_len]; omega), freeT_succ, wrap_succ (by omega)]) ih
theorem impl_frees {n : Nat} (hn : n ≤ 4) {num : Int} {R : Tri} (hR : Ev (fun k => impl_gluingAt.l0 k (n : Int) num (n : Int) (n : Int) (freeT n)) R) : ∀ (d i : Nat), i + d = n → Ev (fun k => impl_gluingAt.l0 k (n : Int) num (n : Int) (i : Int) (freeT i)) R
  | 0, i, e => by
    obtain rfl : i = n := by omega
    exact hR
  | d + 1, i, e => by
    have ih := impl_frees hn hR d (i + 1) (by omega)
    refine ev_step (f := fun k => (impl_withTetrahedron.f k (freeT i)).bind fun t => impl_gluingAt.l0 k (n : Int) num (n : Int) (wrap64 ((i : Int) + 1)) t) (fun k => by rw [impl_gluingAt.l0, if_pos (by omega)]) (Ev.bind (with_ev (by omega)) ?_)
    rw [wrap_succ (by omega)]
    exact ih
/-- The gluing with a number. -/
theorem gluing_ev {n : Nat} (h0 : 1 ≤ n) (h1 : n ≤ 4) {num : Int} (n0 : 0 ≤ num) (n1 : num < gaS n) : ∃ t : Tri, Ev (fun k => impl_gluingAt.f k (n : Int) num) t ∧ Ev (fun k => spec_l16Gluing.f k (n : Int) num) t ∧ t.length = n ∧ ∀ r ∈ t, r.length = 4 := by
  obtain ⟨w0, w1⟩ := pow6 (show 2 * n ≤ 8 by omega)
  have hs := (gaS_ev h0 h1).2.2
  have q0 : 0 ≤ num / 6 ^ (2 * n) := Int.ediv_nonneg n0 (Int.le_of_lt w0)
  have q1 : num / 6 ^ (2 * n) < mtv ((4 * n : Nat) : Int) := Int.ediv_lt_of_lt_mul w0 (by unfold gaS at n1; exact n1)
  have q2 : num / 6 ^ (2 * n) ≤ num := Int.ediv_le_self _ n0
  have hn64 : num ≤ 9223372036854775807 := by omega
  have hw : wrap64 (Int.tdiv num (6 ^ (2 * n))) = num / 6 ^ (2 * n) := by
    rw [Int.tdiv_eq_ediv_of_nonneg n0]
    generalize num / 6 ^ (2 * n) = z at q0 q2
    exact wrap_id (by omega) (by omega)
  have hm : Int.tmod num (6 ^ (2 * n)) = num % 6 ^ (2 * n) := Int.tmod_eq_emod_of_nonneg n0
  have hne : ¬ (6 : Int) ^ (2 * n) = 0 := fun e => by rw [e] at w0; exact absurd w0 (by decide)
  have e4 : wrap64 (4 * (n : Int)) = ((4 * n : Nat) : Int) := by rw [wrap_id (by omega) (by omega)]; omega
  have e2 : wrap64 (2 * (n : Int)) = ((2 * n : Nat) : Int) := by rw [wrap_id (by omega) (by omega)]; omega
  have z2 : ¬ ((2 * n : Nat) : Int) < ((2 * n : Nat) : Int) := by omega
  have zn : ¬ (n : Int) < (n : Int) := by omega
  obtain ⟨o, o1, o2, o3⟩ := mat_ev h1 q0 q1
  have hc : 2 * n = cnt (rd o) (4 * n) 0 := by have := cnt_all (in2_of o3); omega
  obtain ⟨t, t1, t2, t3, t4⟩ := glue_sim h1 o3 (4 * n) 0 (2 * n) num (freeT n) (by omega) hc (by omega) n0 (freeT_len n) (freeT_row n)
  refine ⟨t, ?_, ?_, t3, t4⟩
  · refine impl_frees h1 ?_ n 0 (by omega)
    refine ev_step (f := fun k => (impl_gluings.f k (n : Int)).bind fun t106 => (if t106 = 0 then (none) else ((impl_matchingAt.f k (wrap64 (4 * (n : Int))) (wrap64 (Int.tdiv num t106))).bind fun t107 => (impl_gluingAt.l1 k num t106 t107 (t107.length : Int) 0 (freeT n))))) (fun k => by rw [impl_gluingAt.l0, if_neg zn]) ?_
    refine Ev.bind (gluings_ev h1) (ev_neg hne ?_)
    rw [hw, e4]
    refine Ev.bind o1 ?_
    rw [show ((o.length : Nat) : Int) = ((4 * n : Nat) : Int) by rw [o3.len]]
    exact t1
  · have := spec_base (n := n) h1 (num := num) (R := t) ?_ (2 * n) 0 (by omega)
    · exact this
    · refine ev_step (f := fun k => (spec_l16Matching.f k (wrap64 (4 * (n : Int))) (wrap64 (Int.tdiv num (6 ^ (2 * n))))).bind fun t102 => (spec_l16Gluing.l1 k (n : Int) (Int.tmod num (6 ^ (2 * n))) (6 ^ (2 * n)) t102 0 ([] : List (List (SFace))))) (fun k => by rw [spec_l16Gluing.l0, e2, if_neg z2, if_neg hne]) ?_
      rw [hw, hm, e4]
      refine Ev.bind o2 ?_
      exact spec_frees h1 t2 n 0 (by omega)
/-- Both sides come to one answer. -/
theorem ga_ev (a0 a1 : Int) : ∃ r : Tri × Int, Ev (fun k => impl_GluingAt.f k a0 a1) r ∧ Ev (fun k => spec_GluingAt.f k a0 a1) r ∧ Small r.1 := by
  have hnil : Small ([] : Tri) := ⟨by simp, fun r hr => by cases hr⟩
  by_cases h : 1 ≤ a0 ∧ a0 ≤ 4
  · obtain ⟨n, rfl⟩ := Int.eq_ofNat_of_zero_le (show 0 ≤ a0 by omega)
    obtain ⟨s1, s2, s3, s4⟩ := gaS_ev (n := n) (by omega) (by omega)
    have hd : (decide (1 ≤ (n : Int)) && decide ((n : Int) ≤ 4)) = true := by simp; omega
    have hs : wrap64 (gaS n - 1) = gaS n - 1 := wrap_id (by omega) (by omega)
    by_cases hk : 0 ≤ a1 ∧ a1 ≤ gaS n - 1
    · have hd2 : (decide (0 ≤ a1) && decide (a1 ≤ gaS n - 1)) = true := by rw [Bool.and_eq_true, decide_eq_true_eq, decide_eq_true_eq]; exact hk
      obtain ⟨t, t1, t2, t3, t4⟩ := gluing_ev (n := n) (by omega) (by omega) hk.1 (by omega)
      refine ⟨(t, 0), ?_, ?_, ⟨by show t.length ≤ 1048576; omega, fun r hr => by rw [t4 r hr]; decide⟩⟩
      · refine Ev.bind (ev_const (inRange_eq ..)) (ev_pos hd (Ev.bind s1 (Ev.bind (ev_const (inRange_eq ..)) (ev_pos (by rw [hs]; exact hd2) (Ev.bind t1 (Ev.now _))))))
      · refine Ev.bind (ev_const (l07In_eq ..)) (ev_pos hd (Ev.bind s2 (Ev.bind (ev_const (l07In_eq ..)) (ev_pos (by rw [hs]; exact hd2) (Ev.bind t2 (Ev.now _))))))
    · have hd2 : ¬ (decide (0 ≤ a1) && decide (a1 ≤ gaS n - 1)) = true := by rw [Bool.and_eq_true, decide_eq_true_eq, decide_eq_true_eq]; exact hk
      refine ⟨([], 4), ?_, ?_, hnil⟩
      · refine Ev.bind (ev_const (inRange_eq ..)) (ev_pos hd (Ev.bind s1 (Ev.bind (ev_const (inRange_eq ..)) (ev_neg (by rw [hs]; exact hd2) (Ev.now _)))))
      · refine Ev.bind (ev_const (l07In_eq ..)) (ev_pos hd (Ev.bind s2 (Ev.bind (ev_const (l07In_eq ..)) (ev_neg (by rw [hs]; exact hd2) (Ev.now _)))))
  · have hd : ¬ (decide (1 ≤ a0) && decide (a0 ≤ 4)) = true := by rw [Bool.and_eq_true, decide_eq_true_eq, decide_eq_true_eq]; exact h
    exact ⟨([], 2), Ev.bind (ev_const (inRange_eq ..)) (ev_neg hd (Ev.now _)), Ev.bind (ev_const (l07In_eq ..)) (ev_neg hd (Ev.now _)), hnil⟩
/-- n marked faces from a on. -/
def mkR (a : Int) : Nat → List SFace
  | 0 => []
  | n + 1 => ⟨a, a + 1⟩ :: mkR (a + 2) n
theorem mkR_length (a : Int) (n : Nat) : (mkR a n).length = n := by
  induction n generalizing a with
  | zero => rfl
  | succ n ih => simp [mkR, ih]
theorem mkR_get (a : Int) (n i : Nat) (z : SFace) (h : i < n) : (mkR a n).getD i z = ⟨a + 2 * i, a + 2 * i + 1⟩ := by
  induction n generalizing a i with
  | zero => omega
  | succ n ih =>
    cases i with
    | zero => simp [mkR]
    | succ i => simp only [mkR, List.getD_cons_succ]; rw [ih (a + 2) i (by omega)]; congr 1 <;> omega
theorem mkR_snoc (a : Int) (n : Nat) : mkR a (n + 1) = mkR a n ++ [⟨a + 2 * n, a + 2 * n + 1⟩] := by
  induction n generalizing a with
  | zero => simp [mkR]
  | succ n ih =>
    rw [mkR, ih (a + 2)]
    have e : a + 2 + 2 * (n : Int) = a + 2 * ((n + 1 : Nat) : Int) := by omega
    rw [e]; rfl
theorem mk_set (l : List SFace) (a : Int) (n : Nat) (h : n < l.length) : (mkR a n ++ l.drop n).set n ⟨a + 2 * n, a + 2 * n + 1⟩ = mkR a (n + 1) ++ l.drop (n + 1) := by
  rw [List.set_append_right _ _ (by rw [mkR_length]; exact yoy _), mkR_length, Nat.sub_self, List.drop_eq_getElem_cons h, yby, mkR_snoc, List.append_assoc]
  rfl
theorem rd_Face_set (l : List SFace) (n : Nat) (v : SFace) (h : n < l.length) : rd_Face (l.set n v) (n : Int) = v := by
  rw [rd_Face_lt _ n (by rw [List.length_set]; exact h), List.getElem_set_self]
theorem markFaceS_ev (l : List SFace) (a : Int) (h : l.length ≤ 1099511627776) (h0 : 0 ≤ a) (h1 : a ≤ 9007199254740992) : Ev (fun k => laws_markFaceS.f k l a) (a + 2 * l.length, mkR a l.length) := by
  have hl : Ev (fun k => laws_markFaceS.l0 k l a 0) (a + 2 * l.length, mkR a l.length) := by
    refine ev_loop0 (fun k (s : List SFace × Int × Int) => laws_markFaceS.l0 k s.1 s.2.1 s.2.2) (fun s => ∃ n : Nat, n ≤ l.length ∧ s.2.2 = n ∧ s.2.1 = a + 2 * n ∧ s.1 = mkR a n ++ l.drop n) (fun s => l.length - s.2.2.toNat) (fun _ => (a + 2 * l.length, mkR a l.length)) ?_ (l, a, 0) ⟨0, by omega, rfl, by simp, by simp [mkR]⟩
    rintro ⟨x, b, i⟩ ⟨n, hn, rfl, rfl, rfl⟩
    dsimp only
    have hlen : (mkR a n ++ l.drop n).length = l.length := by simp [mkR_length]; omega
    by_cases hlt : n < l.length
    · refine .inr ⟨(mkR a (n + 1) ++ l.drop (n + 1), a + 2 * ((n + 1 : Nat) : Int), ((n + 1 : Nat) : Int)), ⟨n + 1, by omega, rfl, rfl, rfl⟩, by simp; omega, rfl, fun k => ?_⟩
      simp only [laws_markFaceS.l0]
      rw [if_pos (by rw [hlen]; omega), if_pos (by omega), yfy, Int.toNat_natCast, rd_Face_set _ n _ (by rw [hlen]; exact hlt), List.set_set, wrap_id (x := a + 2 * (n : Int) + 1) (by omega) (by omega), mk_set l a n hlt, wrap_succ (by omega), wrap_id (by omega) (by omega)]
      congr 1; omega
    · obtain rfl : n = l.length := by omega
      refine .inl fun k => ?_
      simp only [laws_markFaceS.l0]
      rw [if_neg (by rw [hlen]; omega)]
      simp
  exact hl
/-- The marks of a triangulation, and their number. -/
def cntF : Tri → Nat
  | [] => 0
  | r :: rs => 2 * r.length + cntF rs
def mkT (a : Int) : Tri → Tri
  | [] => []
  | r :: rs => mkR a r.length :: mkT (a + 2 * r.length) rs
theorem cntF_le (t : Tri) (h : ∀ r ∈ t, r.length ≤ 1048576) : cntF t ≤ 2097152 * t.length := by
  induction t with
  | nil => simp [cntF]
  | cons r rs ih =>
    have h1 := h r (List.mem_cons_self ..)
    have h2 := ih (fun x hx => h x (List.mem_cons_of_mem _ hx))
    simp only [cntF, List.length_cons]; omega
theorem markGo_ev : ∀ (suf : Tri) (pre : Tri) (a : Int), (∀ r ∈ suf, r.length ≤ 1048576) → 0 ≤ a → a + cntF suf ≤ 9007199254740992 → Ev (fun k => laws_markFaceSS.go k suf.length (pre ++ suf) a pre.length) (a + cntF suf, pre ++ mkT a suf)
  | [], pre, a, _, h0, h1 => ev_const' fun k => by simp [laws_markFaceSS.go, cntF, mkT]
  | r :: rs, pre, a, hr, h0, h1 => by
    simp only [cntF] at h1
    have hm := markFaceS_ev r a (by have := hr r (List.mem_cons_self ..); omega) h0 (by omega)
    have ih := markGo_ev rs (pre ++ [mkR a r.length]) (a + 2 * r.length) (fun x hx => hr x (List.mem_cons_of_mem _ hx)) (by omega) (by omega)
    simp only [List.length_cons, laws_markFaceSS.go]
    have e0 : List.getD (pre ++ r :: rs) pre.length [] = r := by simp
    rw [e0]
    refine Ev.bind hm ?_
    dsimp only
    have e1 : (pre ++ r :: rs).set pre.length (mkR a r.length) = pre ++ [mkR a r.length] ++ rs := by
      rw [List.set_append_right _ _ (yoy _), Nat.sub_self, yby]; simp
    rw [e1]
    have e2 : pre.length + 1 = (pre ++ [mkR a r.length]).length := by simp
    rw [e2]
    have e3 : (a + ((cntF (r :: rs) : Nat) : Int), pre ++ mkT a (r :: rs)) = (a + 2 * r.length + (cntF rs : Int), pre ++ [mkR a r.length] ++ mkT (a + 2 * r.length) rs) := by
      simp only [cntF, mkT, List.append_assoc, List.singleton_append]; congr 1; omega
    rw [e3]
    exact ih
theorem markTriangulation_ev (t : Tri) (a : Int) (hs : Small t) (h0 : 0 ≤ a) (h1 : a ≤ 1048576) : Ev (fun k => laws_markTriangulation.f k t a) (a + cntF t, mkT a t) := by
  have := markGo_ev t [] a hs.2 h0 (by have := cntF_le t hs.2; have := hs.1; omega)
  rw [List.nil_append, List.nil_append] at this
  exact this
theorem heldFaceS_ev (a : Int) (m : Nat) (h : m ≤ 1099511627776) (h0 : 0 ≤ a) (h1 : a ≤ 4398046511104) : Ev (fun k => laws_heldFaceS.f k (mkR a m) a) (a + 2 * m) := by
  have hl : Ev (fun k => laws_heldFaceS.l0 k (mkR a m) a 0) (a + 2 * m) := by
    refine ev_loop0 (fun k (s : Int × Int) => laws_heldFaceS.l0 k (mkR a m) s.1 s.2) (fun s => ∃ n : Nat, n ≤ m ∧ s.2 = n ∧ s.1 = a + 2 * n) (fun s => m - s.2.toNat) (fun _ => a + 2 * m) ?_ (a, 0) ⟨0, by omega, rfl, by simp⟩
    rintro ⟨b, i⟩ ⟨n, hn, rfl, rfl⟩
    dsimp only
    by_cases hlt : n < m
    · refine .inr ⟨(a + 2 * ((n + 1 : Nat) : Int), ((n + 1 : Nat) : Int)), ⟨n + 1, by omega, rfl, rfl⟩, by simp; omega, rfl, fun k => ?_⟩
      have e : rd_Face (mkR a m) (n : Int) = ⟨a + 2 * n, a + 2 * n + 1⟩ := by unfold rd_Face; rw [Int.toNat_natCast, mkR_get a m n _ hlt]
      simp only [laws_heldFaceS.l0]
      rw [if_pos (by rw [mkR_length]; omega), if_pos (by omega), e, if_pos rfl, wrap_id (x := a + 2 * (n : Int) + 1) (by omega) (by omega), if_pos rfl, wrap_succ (by omega), wrap_id (by omega) (by omega)]
      congr 1; omega
    · obtain rfl : n = m := by omega
      refine .inl fun k => ?_
      simp only [laws_heldFaceS.l0]
      rw [if_neg (by rw [mkR_length]; omega)]
  exact hl
theorem heldSS_ev : ∀ (suf : Tri) (pre : Tri) (a : Int), (∀ r ∈ suf, r.length ≤ 1048576) → pre.length + suf.length ≤ 1048576 → 0 ≤ a → a + cntF suf ≤ 4398046511104 → Ev (fun k => laws_heldFaceSS.l0 k (pre ++ mkT a suf) a (pre.length : Int)) (a + cntF suf)
  | [], pre, a, _, hn, h0, h1 => by
    refine ev_step (f := fun _ => some a) (fun k => ?_) (ev_some (by simp [cntF]))
    rw [laws_heldFaceSS.l0, if_neg (by simp [mkT])]
  | r :: rs, pre, a, hr, hn, h0, h1 => by
    simp only [cntF, List.length_cons] at h1 hn
    have hm := heldFaceS_ev a r.length (by have := hr r (List.mem_cons_self ..); omega) h0 (by omega)
    have ih := heldSS_ev rs (pre ++ [mkR a r.length]) (a + 2 * r.length) (fun x hx => hr x (List.mem_cons_of_mem _ hx)) (by simp; omega) (by omega) (by omega)
    have e1 : pre ++ mkT a (r :: rs) = pre ++ [mkR a r.length] ++ mkT (a + 2 * r.length) rs := by simp [mkT]
    have e4 : rd_LFace (pre ++ mkT a (r :: rs)) (pre.length : Int) = mkR a r.length := by
      rw [rd_LFace_lt _ _ (by simp [mkT])]; simp [mkT]
    refine ev_step (fun k => by rw [laws_heldFaceSS.l0, if_pos (by simp [mkT]; omega), if_pos (by omega), e4]) (Ev.bind hm ?_)
    refine ev_neg (by omega) ?_
    have e2 : wrap64 ((pre.length : Int) + 1) = ((pre ++ [mkR a r.length]).length : Int) := by rw [wrap_succ (by omega)]; simp
    have e3 : (a + ((cntF (r :: rs) : Nat) : Int)) = a + 2 * r.length + (cntF rs : Int) := by simp only [cntF]; omega
    rw [e1, e3]
    exact Ev.congr (fun k => by rw [e2]) ih
theorem heldTriangulation_ev (t : Tri) (a : Int) (hs : Small t) (h0 : 0 ≤ a) (h1 : a ≤ 1048576) : Ev (fun k => laws_heldTriangulation.f k (mkT a t) a) (a + cntF t) := by
  have := heldSS_ev t [] a hs.2 (by have := hs.1; simp; omega) h0 (by have := cntF_le t hs.2; have := hs.1; omega)
  rw [List.nil_append] at this
  refine Ev.bind (g := fun k => laws_heldFaceSS.f k (mkT a t) a) this ?_
  exact ev_neg (by omega) (Ev.now _)
end Go.Proofs.Ytfnopcbicceeaaa.P
namespace Go.Proofs.Ytfnopcbicceeaaa.Pure
open Go.RowKit Go.Proofs.Ytfnopcbicceeaaa.P Go.Proofs.Ytfnopcbicceeaaa.Lib Go.Proofs.YtfnopcbicceeaaaW.PrintWords
set_option linter.unusedVariables false
theorem FnExactGluingAt (a0 a1 : Int) (_ : (Lit.int .i64 a0).wf = true) (_ : (Lit.int .i64 a1).wf = true) : ∃ k, laws_FnExactGluingAt.f k a0 a1 = some true := by
  refine Ev.rounds ?_
  obtain ⟨o, hi, hs, hL⟩ := ga_ev a0 a1
  have heq := eqTriangulation_ev _ hL
  have hh := heldTriangulation_ev _ 1 hL (by omega) (by omega)
  refine Ev.bind hs ?_
  refine Ev.bind hi ?_
  refine Ev.bind heq (ev_pos rfl (ev_pos rfl ?_))
  refine Ev.bind (markTriangulation_ev _ 1 hL (by omega) (by omega)) ?_
  refine Ev.bind hh ?_
  refine ev_neg (by omega) (ev_pos rfl ?_)
  refine Ev.bind hi ?_
  refine Ev.bind heq (ev_pos rfl (ev_pos rfl ?_))
  refine Ev.bind hh ?_
  exact ev_neg (by omega) (ev_pos rfl (Ev.now true))
end Go.Proofs.Ytfnopcbicceeaaa.Pure
