/- The statement FnExactGluingNumberSaid, proved: part 4 of 6 (texts of this session and of the kit's print, put together and cut to what is used by a program of it). -/
import Derived.Test.YtfnopcbicceeaaaMFnExactGluingNumber3
namespace Go.Proofs.Ytfnopcbicceeaaa.P
open Go.RowKit Go.Proofs.YtfnopcbicceeaaaW.PrintWords Go.Proofs.YtfnopcbicceeaaaW.PrintLast Go.Proofs.YtfnopcbicceeaaaW.PrintMore
attribute [local go_sem] max2_int min2_int max_two min_two max_three min_three max_four min_four   -- for this text's walks alone
set_option linter.unusedVariables false
set_option linter.unusedSimpArgs false
/-! ### spec_l06Images: function 76 -/
def spec_l06Images.l0 : Nat → Int → List Int → List Int → Int → Int → Option (List Int)
 | 0, _, _, _, _, _ => none
 | k + 1, x0, x3, x4, x5, x6 => if x6 ≥ 0 then (if x5 = 0 then (none) else (if 0 ≤ (wrap64 (Int.tdiv x0 x5)) then (if (wrap64 (Int.tdiv x0 x5)) < (x3.length : Int) then (if x4.length < 17592186044416 then ((some (x4 ++ [rd x3 (wrap64 (Int.tdiv x0 x5))] : List Int)).bind fun y108 => ((some (([] : List Int) : List Int)).bind fun y111 => (if (wrap64 (Int.tdiv x0 x5)) ≤ (x3.length : Int) then ((some (x3.take ((wrap64 (Int.tdiv x0 x5)) : Int).toNat : List Int)).bind fun y114 => (if y111.length + y114.length < 17592186044416 then ((some (y111 ++ y114 : List Int)).bind fun y118 => (if 0 ≤ (wrap64 ((wrap64 (Int.tdiv x0 x5)) + 1)) then (if (wrap64 ((wrap64 (Int.tdiv x0 x5)) + 1)) ≤ (x3.length : Int) then ((some (x3.drop ((wrap64 ((wrap64 (Int.tdiv x0 x5)) + 1)) : Int).toNat : List Int)).bind fun y121 => (if y118.length + y121.length < 17592186044416 then ((some (y118 ++ y121 : List Int)).bind fun y125 => (if x6 > 0 then (if x6 = 0 then (none) else (spec_l06Images.l0 k (Int.tmod x0 x5) y125 y108 (wrap64 (Int.tdiv x5 x6)) (wrap64 (x6 - 1)))) else (spec_l06Images.l0 k (Int.tmod x0 x5) y125 y108 x5 (wrap64 (x6 - 1))))) else (none))) else (none)) else (none))) else (none))) else (none)))) else (none)) else (none)) else (none))) else (some x4)
def spec_l06Images.f (k : Nat) (a0 : Int) : Option (List Int) := spec_l06Images.l0 k a0 (([0, 1, 2, 3] : List Int)) (([] : List Int)) 6 3
theorem spec_l06Images.mono_l : ∀ k, (∀ y0 y1 y2 y3 y4, LeO (spec_l06Images.l0 k y0 y1 y2 y3 y4) (spec_l06Images.l0 (k + 1) y0 y1 y2 y3 y4))
 | 0 => fun _ _ _ _ _ r h => by simp [spec_l06Images.l0] at h
 | k + 1 => by
  have ih0 := spec_l06Images.mono_l k
  next =>
   intro y0 y1 y2 y3 y4
   unfold spec_l06Images.l0
   repeat' first
   | (with_reducible exact ih0 _ _ _ _ _)
   | (with_reducible exact LeO.refl _)
   | (with_reducible exact LeO.none _)
   | (with_reducible refine LeO.ite ?_ ?_)
   | (with_reducible refine LeO.bind ?_ (fun _ => ?_))
   | exact ih0 _ _ _ _ _
   | exact LeO.none _
   | refine LeO.ite ?_ ?_
   | refine LeO.bind ?_ (fun _ => ?_)
theorem spec_l06Images.mono : ∀ a0 k, LeO (spec_l06Images.f k a0) (spec_l06Images.f (k + 1) a0) := by
 intro a0 k
 have ih0 := spec_l06Images.mono_l k
 unfold spec_l06Images.f
 repeat' first
  | (with_reducible exact ih0 _ _ _ _ _)
  | (with_reducible exact LeO.refl _)
  | (with_reducible exact LeO.none _)
  | (with_reducible refine LeO.ite ?_ ?_)
  | (with_reducible refine LeO.bind ?_ (fun _ => ?_))
  | exact ih0 _ _ _ _ _
  | exact LeO.none _
  | refine LeO.ite ?_ ?_
  | refine LeO.bind ?_ (fun _ => ?_)
def spec_l06Images.T10 : Bool × List (List Nat × List Nat) := (true, [([], []), ([], []), ([], []), ([1, 2], [1, 2]), ([0, 3], [0, 3]), ([], []), ([], []), ([6], [6]), ([5, 7], [5, 7]), ([4, 8, 4], [4, 8]), ([9, 9, 0, 1, 2, 3, 4, 5, 6, 7, 8, 9], [1, 5, 9])])
def spec_l06Images.B10 : List Nat := [0, 0, 0, 6, 15, 0, 0, 64, 224, 511, 1023]
theorem spec_l06Images.tab10 : rtab .any (opsOf Try.f76 10) = spec_l06Images.T10 := by kernel_rfl
theorem spec_l06Images.bits10 : waitsOk spec_l06Images.T10.2 spec_l06Images.B10 = true := by kernel_rfl
set_option maxHeartbeats 8000000 in
set_option maxRecDepth 100000 in
theorem spec_l06Images.calls (k : Nat) (a0 : Int) (r : List Int) (w : World) (h : spec_l06Images.f k a0 = some r) :
 Calls Try.prog 76 #[.int .i64 a0] w fun e w' => ∃ v0_ : Value, e = .returned (v0_) ∧ Kd.R (Kd.int .i64) 2 w' w.heap.size (fun _ => True) v0_ r ∧ Below w.heap.size w w' := by
 have HB := Aside0.mk (Below.refl w.heap.size w)
 have H : (spec_l06Images.l0 k a0 (([0, 1, 2, 3] : List Int)) (([] : List Int)) 6 3) = some r := h
 clear h
 obtain ⟨y101, hy101⟩ : ∃ y_ : List Int, y_ = (([0, 1, 2, 3] : List Int)) := ⟨_, rfl⟩
 replace H : (spec_l06Images.l0 k a0 y101 (([] : List Int)) 6 3) = some r := by first | (rw [hy101]; with_reducible exact H) | (have H2_ := (yfy _ _).symm.trans H; rw [hy101]; with_reducible exact H2_) | (have H2_ := (yfy _ _).symm.trans H; with_reducible exact H2_) | with_reducible exact H | (rw [hy101]; exact H) | exact H
 have Ny101 := Aside0.mk hy101
 clear hy101
 obtain ⟨y104, hy104⟩ : ∃ y_ : List Int, y_ = (([] : List Int)) := ⟨_, rfl⟩
 replace H : (spec_l06Images.l0 k a0 y101 y104 6 3) = some r := by first | (rw [hy104]; with_reducible exact H) | (have H2_ := (yfy _ _).symm.trans H; rw [hy104]; with_reducible exact H2_) | (have H2_ := (yfy _ _).symm.trans H; with_reducible exact H2_) | with_reducible exact H | (rw [hy104]; exact H) | exact H
 have Ny104 := Aside0.mk hy104
 clear hy104
 have H' := Aside0.mk H
 clear H
 go_enter Try.func76, Try.ntmps76
 go_wp2_with (first | ((with_reducible refine gate_dst (N := 8) rfl ?_); refine Kd.R_lit (Kd.int .i64) _ 2 ?hg (N := 8) ?hd (xs := ([0, 1, 2, 3] : List Int)) (inner := [.int .i64 0, .int .i64 1, .int .i64 2, .int .i64 3]) (ok := fun _ => True) (okp := fun _ => True) ?hr ?hp (fun _ hk => hk) trivial (Below.refl _ _) (yoy _) (by simp) ?_; (case hd => rfl); (case hg => rfl); (case hr => first | (go_simp; done) | (go_simp; rfl)); (case hp => exact (Reps.one (show Kd.M (Kd.int .i64) _ _ _ 0 [.int .i64 0] from rfl) (Reps.one (show Kd.M (Kd.int .i64) _ _ _ 1 [.int .i64 1] from rfl) (Reps.one (show Kd.M (Kd.int .i64) _ _ _ 2 [.int .i64 2] from rfl) (Reps.one (show Kd.M (Kd.int .i64) _ _ _ 3 [.int .i64 3] from rfl) (Reps.none _ _)))))); intro v102 w2 ho3 hb hg_ hnew_; clear hg_ hnew_; (first | rw [← Ny101.out] at ho3 | (simp only [Int.reduceToNat] at ho3; rw [← Ny101.out] at ho3)); have n0_ := Aside0.mk (Kd.R_lower ho3 (below_size (by repeat (first | (with_reducible first | exact HB.out | apply below_alloc | apply pw_below_drewN | apply below_drew1) | exact HB.out)))); have n1_ := Aside0.mk (below_step (by repeat (first | (with_reducible first | exact HB.out | apply below_alloc | apply pw_below_drewN | apply below_drew1) | exact HB.out)) hb); clear HB; have HO103 := n0_; have HB := n1_; clear n0_ n1_; clear hb ho3) | ((with_reducible refine gate_dst (N := 9) rfl ?_); refine Kd.R_lit (Kd.int .i64) _ 2 ?hg (N := 9) ?hd (xs := ([] : List Int)) (inner := []) (ok := fun _ => True) (okp := fun _ => True) ?hr ?hp (fun _ hk => hk) trivial (Below.refl _ _) (yoy _) (by simp) ?_; (case hd => rfl); (case hg => rfl); (case hr => first | (go_simp; done) | (go_simp; rfl)); (case hp => exact (Reps.none _ _)); intro v105 w4 ho5 hb hg_ hnew_; clear hg_ hnew_; (first | rw [← Ny104.out] at ho5 | (simp only [Int.reduceToNat] at ho5; rw [← Ny104.out] at ho5)); have n0_ := Aside0.mk (Kd.R_elder' (by (with_reducible repeat (first | apply Kd.R_alloc | apply Kd.R_drewN | apply Kd.R_drew)); exact HO103.out) (Kd.R_base ho5) hb); have n1_ := Aside0.mk (Kd.R_lower (Kd.R_new' ho5 (Kd.R_lt (by (with_reducible repeat (first | apply Kd.R_alloc | apply Kd.R_drewN | apply Kd.R_drew)); exact HO103.out))) (below_size (by repeat (first | (with_reducible first | exact HB.out | apply below_alloc | apply pw_below_drewN | apply below_drew1) | exact HB.out)))); have n2_ := Aside0.mk (below_step (by repeat (first | (with_reducible first | exact HB.out | apply below_alloc | apply pw_below_drewN | apply below_drew1) | exact HB.out)) hb); clear HO103; clear HB; have HO103 := n0_; have HO106 := n1_; have HB := n2_; clear n0_ n1_ n2_; clear hb ho5))
 go_loopg [0, 3, 4, 5, 6] k (fun kq v0 v3 v4 v5 v6 w' => ∃ (x0_1 : Int) (x3_1 : List Int) (x4_1 : List Int) (x5_1 : Int) (x6_1 : Int), v0 = .int .i64 x0_1 ∧ v5 = .int .i64 x5_1 ∧ v6 = .int .i64 x6_1 ∧ Aside0 (spec_l06Images.l0 kq x0_1 x3_1 x4_1 x5_1 x6_1 = some r) ∧ Aside0 (kq ≤ k) ∧ Aside0 (Kd.R (Kd.int .i64) 2 w' w.heap.size (fun k_ => some k_ ≠ (v4 : Value).ownBlock) v3 x3_1) ∧ Aside0 (Kd.R (Kd.int .i64) 2 w' w.heap.size (fun k_ => some k_ ≠ (v3 : Value).ownBlock) v4 x4_1) ∧ Aside0 (Below w.heap.size w w'))
 case atStart => exact ⟨(a0), (y101), (y104), (6), (3), (by first | rfl | (simp; done) | (simp [*]; done)), (by first | rfl | (simp; done) | (simp [*]; done)), (by first | rfl | (simp; done) | (simp [*]; done)), H', ⟨yoy _⟩, ⟨by (with_reducible repeat (first | apply Kd.R_alloc | apply Kd.R_drewN | apply Kd.R_drew)); exact Kd.R_mono HO103.out (fun _ hk => hk.2)⟩, ⟨by (with_reducible repeat (first | apply Kd.R_alloc | apply Kd.R_drewN | apply Kd.R_drew)); exact Kd.R_mono HO106.out (fun _ hk => hk.2)⟩, ⟨by repeat (first | (with_reducible first | exact HB.out | apply below_alloc | apply pw_below_drewN | apply below_drew1) | exact HB.out)⟩⟩
 case round =>
  clear H'
  try clear p2
  obtain ⟨x0_1, x3_1, x4_1, x5_1, x6_1, rfl, rfl, rfl, HA, HK1, HO_3, HO_4, HB⟩ := hrel
  cases gk with
  | zero => exact absurd HA.out (by simp [spec_l06Images.l0])
  | succ k1 =>
   have H := HA.out
   clear HA
   simp only [spec_l06Images.l0] at H
   by_cases c6 : x6_1 ≥ 0
   rotate_left
   next =>
    rw [if_neg c6] at H
    have c6b0 : decide (0 ≤ x6_1) = false := yhy c6
    clear c6
    obtain rfl := yey H
    go_wp2
    go_ret
    exact ⟨_, by first | rfl | (simp [errW_none, errW_some] <;> rfl) | (simp [*, errW_none, errW_some] <;> rfl), by (with_reducible repeat (first | apply Kd.R_alloc | apply Kd.R_drewN | apply Kd.R_drew)); exact Kd.R_mono HO_4.out (fun _ hk => trivial), by repeat (first | (with_reducible first | exact HB.out | apply below_alloc | apply pw_below_drewN | apply below_drew1) | exact HB.out)⟩
   rw [if_pos c6] at H
   have c6b0 : decide (0 ≤ x6_1) = true := ygy c6
   clear c6
   by_cases c7 : x5_1 = 0
   next =>
    rw [if_pos c7] at H
    exact absurd H (by simp)
   next =>
    rw [if_neg c7] at H
    have c7b0 : (x5_1 == 0) = false := beq_eq_false_iff_ne.mpr c7
    have c7b1 : (x5_1 != 0) = true := bne_iff_ne.mpr c7
    obtain ⟨ji8, hji8⟩ : ∃ j_ : Int, (wrap64 (Int.tdiv x0_1 x5_1)) = j_ := ⟨_, rfl⟩
    replace H : (if 0 ≤ (ji8) then (if (ji8) < (x3_1.length : Int) then (if x4_1.length < 17592186044416 then ((some (x4_1 ++ [rd x3_1 (ji8)] : List Int)).bind fun y108 => ((some (([] : List Int) : List Int)).bind fun y111 => (if (ji8) ≤ (x3_1.length : Int) then ((some (x3_1.take ((ji8) : Int).toNat : List Int)).bind fun y114 => (if y111.length + y114.length < 17592186044416 then ((some (y111 ++ y114 : List Int)).bind fun y118 => (if 0 ≤ (wrap64 ((ji8) + 1)) then (if (wrap64 ((ji8) + 1)) ≤ (x3_1.length : Int) then ((some (x3_1.drop ((wrap64 ((ji8) + 1)) : Int).toNat : List Int)).bind fun y121 => (if y118.length + y121.length < 17592186044416 then ((some (y118 ++ y121 : List Int)).bind fun y125 => (if x6_1 > 0 then (if x6_1 = 0 then (none) else (spec_l06Images.l0 k1 (Int.tmod x0_1 x5_1) y125 y108 (wrap64 (Int.tdiv x5_1 x6_1)) (wrap64 (x6_1 - 1)))) else (spec_l06Images.l0 k1 (Int.tmod x0_1 x5_1) y125 y108 x5_1 (wrap64 (x6_1 - 1))))) else (none))) else (none)) else (none))) else (none))) else (none)))) else (none)) else (none)) else (none)) = some r := by first | (rw [hji8] at H; exact H) | (simp only [hji8] at H ⊢; exact H)
    have hji8w : (IntKind.i64.wrap (Int.tdiv x0_1 x5_1)) = ji8 := (i64_w _).trans hji8
    by_cases c9 : 0 ≤ (ji8)
    rotate_left
    next =>
     rw [if_neg c9] at H
     exact absurd H (by simp)
    rw [if_pos c9] at H
    have c9b0 : decide (0 ≤ (ji8)) = true := ygy c9
    clear c9
    by_cases c10 : (ji8) < (x3_1.length : Int)
    rotate_left
    next =>
     rw [if_neg c10] at H
     exact absurd H (by simp)
    rw [if_pos c10] at H
    have c10b0 : decide ((ji8) < (x3_1.length : Int)) = true := ygy c10
    clear c10
    by_cases c11 : x4_1.length < 17592186044416
    rotate_left
    next =>
     rw [if_neg c11] at H
     exact absurd H (by simp)
    rw [if_pos c11] at H
    have LMc11 := Aside0.mk c11
    clear c11
    obtain ⟨y108, hy108⟩ : ∃ y_ : List Int, y_ = (x4_1 ++ [rd x3_1 (ji8)]) := ⟨_, rfl⟩
    replace H : ((some (([] : List Int) : List Int)).bind fun y111 => (if (ji8) ≤ (x3_1.length : Int) then ((some (x3_1.take ((ji8) : Int).toNat : List Int)).bind fun y114 => (if y111.length + y114.length < 17592186044416 then ((some (y111 ++ y114 : List Int)).bind fun y118 => (if 0 ≤ (wrap64 ((ji8) + 1)) then (if (wrap64 ((ji8) + 1)) ≤ (x3_1.length : Int) then ((some (x3_1.drop ((wrap64 ((ji8) + 1)) : Int).toNat : List Int)).bind fun y121 => (if y118.length + y121.length < 17592186044416 then ((some (y118 ++ y121 : List Int)).bind fun y125 => (if x6_1 > 0 then (if x6_1 = 0 then (none) else (spec_l06Images.l0 k1 (Int.tmod x0_1 x5_1) y125 y108 (wrap64 (Int.tdiv x5_1 x6_1)) (wrap64 (x6_1 - 1)))) else (spec_l06Images.l0 k1 (Int.tmod x0_1 x5_1) y125 y108 x5_1 (wrap64 (x6_1 - 1))))) else (none))) else (none)) else (none))) else (none))) else (none))) = some r := by first | (rw [hy108]; with_reducible exact H) | (have H2_ := (yfy _ _).symm.trans H; rw [hy108]; with_reducible exact H2_) | (have H2_ := (yfy _ _).symm.trans H; with_reducible exact H2_) | with_reducible exact H | (rw [hy108]; exact H) | exact H
    have Ny108 := Aside0.mk hy108
    clear hy108
    obtain ⟨y111, hy111⟩ : ∃ y_ : List Int, y_ = (([] : List Int)) := ⟨_, rfl⟩
    replace H : (if (ji8) ≤ (x3_1.length : Int) then ((some (x3_1.take ((ji8) : Int).toNat : List Int)).bind fun y114 => (if y111.length + y114.length < 17592186044416 then ((some (y111 ++ y114 : List Int)).bind fun y118 => (if 0 ≤ (wrap64 ((ji8) + 1)) then (if (wrap64 ((ji8) + 1)) ≤ (x3_1.length : Int) then ((some (x3_1.drop ((wrap64 ((ji8) + 1)) : Int).toNat : List Int)).bind fun y121 => (if y118.length + y121.length < 17592186044416 then ((some (y118 ++ y121 : List Int)).bind fun y125 => (if x6_1 > 0 then (if x6_1 = 0 then (none) else (spec_l06Images.l0 k1 (Int.tmod x0_1 x5_1) y125 y108 (wrap64 (Int.tdiv x5_1 x6_1)) (wrap64 (x6_1 - 1)))) else (spec_l06Images.l0 k1 (Int.tmod x0_1 x5_1) y125 y108 x5_1 (wrap64 (x6_1 - 1))))) else (none))) else (none)) else (none))) else (none))) else (none)) = some r := by first | (rw [hy111]; with_reducible exact H) | (have H2_ := (yfy _ _).symm.trans H; rw [hy111]; with_reducible exact H2_) | (have H2_ := (yfy _ _).symm.trans H; with_reducible exact H2_) | with_reducible exact H | (rw [hy111]; exact H) | exact H
    have Ny111 := Aside0.mk hy111
    clear hy111
    have c12b0 := eq_true (of_decide_eq_true (by first | (with_reducible assumption) | assumption) : 0 ≤ (ji8))
    by_cases c13 : (ji8) ≤ (x3_1.length : Int)
    rotate_left
    next =>
     rw [if_neg c13] at H
     exact absurd H (by simp)
    rw [if_pos c13] at H
    have c13b0 := eq_true c13
    have c13b1 : decide ((ji8) ≤ (x3_1.length : Int)) = true := ygy c13
    clear c13
    obtain ⟨y114, hy114⟩ : ∃ y_ : List Int, y_ = (x3_1.take ((ji8) : Int).toNat) := ⟨_, rfl⟩
    replace H : (if y111.length + y114.length < 17592186044416 then ((some (y111 ++ y114 : List Int)).bind fun y118 => (if 0 ≤ (wrap64 ((ji8) + 1)) then (if (wrap64 ((ji8) + 1)) ≤ (x3_1.length : Int) then ((some (x3_1.drop ((wrap64 ((ji8) + 1)) : Int).toNat : List Int)).bind fun y121 => (if y118.length + y121.length < 17592186044416 then ((some (y118 ++ y121 : List Int)).bind fun y125 => (if x6_1 > 0 then (if x6_1 = 0 then (none) else (spec_l06Images.l0 k1 (Int.tmod x0_1 x5_1) y125 y108 (wrap64 (Int.tdiv x5_1 x6_1)) (wrap64 (x6_1 - 1)))) else (spec_l06Images.l0 k1 (Int.tmod x0_1 x5_1) y125 y108 x5_1 (wrap64 (x6_1 - 1))))) else (none))) else (none)) else (none))) else (none)) = some r := by first | (rw [hy114]; with_reducible exact H) | (have H2_ := (yfy _ _).symm.trans H; rw [hy114]; with_reducible exact H2_) | (have H2_ := (yfy _ _).symm.trans H; with_reducible exact H2_) | with_reducible exact H | (rw [hy114]; exact H) | exact H
    have Ny114 := Aside0.mk hy114
    clear hy114
    by_cases c14 : y111.length + y114.length < 17592186044416
    rotate_left
    next =>
     rw [if_neg c14] at H
     exact absurd H (by simp)
    rw [if_pos c14] at H
    have LMc14 := Aside0.mk c14
    clear c14
    obtain ⟨y118, hy118⟩ : ∃ y_ : List Int, y_ = (y111 ++ y114) := ⟨_, rfl⟩
    replace H : (if 0 ≤ (wrap64 ((ji8) + 1)) then (if (wrap64 ((ji8) + 1)) ≤ (x3_1.length : Int) then ((some (x3_1.drop ((wrap64 ((ji8) + 1)) : Int).toNat : List Int)).bind fun y121 => (if y118.length + y121.length < 17592186044416 then ((some (y118 ++ y121 : List Int)).bind fun y125 => (if x6_1 > 0 then (if x6_1 = 0 then (none) else (spec_l06Images.l0 k1 (Int.tmod x0_1 x5_1) y125 y108 (wrap64 (Int.tdiv x5_1 x6_1)) (wrap64 (x6_1 - 1)))) else (spec_l06Images.l0 k1 (Int.tmod x0_1 x5_1) y125 y108 x5_1 (wrap64 (x6_1 - 1))))) else (none))) else (none)) else (none)) = some r := by first | (rw [hy118]; with_reducible exact H) | (have H2_ := (yfy _ _).symm.trans H; rw [hy118]; with_reducible exact H2_) | (have H2_ := (yfy _ _).symm.trans H; with_reducible exact H2_) | with_reducible exact H | (rw [hy118]; exact H) | exact H
    have Ny118 := Aside0.mk hy118
    clear hy118
    obtain ⟨ji15, hji15⟩ : ∃ j_ : Int, (wrap64 ((ji8) + 1)) = j_ := ⟨_, rfl⟩
    replace H : (if 0 ≤ (ji15) then (if (ji15) ≤ (x3_1.length : Int) then ((some (x3_1.drop ((ji15) : Int).toNat : List Int)).bind fun y121 => (if y118.length + y121.length < 17592186044416 then ((some (y118 ++ y121 : List Int)).bind fun y125 => (if x6_1 > 0 then (if x6_1 = 0 then (none) else (spec_l06Images.l0 k1 (Int.tmod x0_1 x5_1) y125 y108 (wrap64 (Int.tdiv x5_1 x6_1)) (wrap64 (x6_1 - 1)))) else (spec_l06Images.l0 k1 (Int.tmod x0_1 x5_1) y125 y108 x5_1 (wrap64 (x6_1 - 1))))) else (none))) else (none)) else (none)) = some r := by first | (rw [hji15] at H; exact H) | (simp only [hji15] at H ⊢; exact H)
    have hji15w : (IntKind.i64.wrap ((ji8) + 1)) = ji15 := (i64_w _).trans hji15
    by_cases c16 : 0 ≤ (ji15)
    rotate_left
    next =>
     rw [if_neg c16] at H
     exact absurd H (by simp)
    rw [if_pos c16] at H
    have c16b0 := eq_true c16
    have c16b1 : decide (0 ≤ (ji15)) = true := ygy c16
    clear c16
    by_cases c17 : (ji15) ≤ (x3_1.length : Int)
    rotate_left
    next =>
     rw [if_neg c17] at H
     exact absurd H (by simp)
    rw [if_pos c17] at H
    have c17b0 := eq_true c17
    have c17b1 : decide ((ji15) ≤ (x3_1.length : Int)) = true := ygy c17
    clear c17
    obtain ⟨y121, hy121⟩ : ∃ y_ : List Int, y_ = (x3_1.drop ((ji15) : Int).toNat) := ⟨_, rfl⟩
    replace H : (if y118.length + y121.length < 17592186044416 then ((some (y118 ++ y121 : List Int)).bind fun y125 => (if x6_1 > 0 then (if x6_1 = 0 then (none) else (spec_l06Images.l0 k1 (Int.tmod x0_1 x5_1) y125 y108 (wrap64 (Int.tdiv x5_1 x6_1)) (wrap64 (x6_1 - 1)))) else (spec_l06Images.l0 k1 (Int.tmod x0_1 x5_1) y125 y108 x5_1 (wrap64 (x6_1 - 1))))) else (none)) = some r := by first | (rw [hy121]; with_reducible exact H) | (have H2_ := (yfy _ _).symm.trans H; rw [hy121]; with_reducible exact H2_) | (have H2_ := (yfy _ _).symm.trans H; with_reducible exact H2_) | with_reducible exact H | (rw [hy121]; exact H) | exact H
    have Ny121 := Aside0.mk hy121
    clear hy121
    by_cases c18 : y118.length + y121.length < 17592186044416
    rotate_left
    next =>
     rw [if_neg c18] at H
     exact absurd H (by simp)
    rw [if_pos c18] at H
    have LMc18 := Aside0.mk c18
    clear c18
    obtain ⟨y125, hy125⟩ : ∃ y_ : List Int, y_ = (y118 ++ y121) := ⟨_, rfl⟩
    replace H : (if x6_1 > 0 then (if x6_1 = 0 then (none) else (spec_l06Images.l0 k1 (Int.tmod x0_1 x5_1) y125 y108 (wrap64 (Int.tdiv x5_1 x6_1)) (wrap64 (x6_1 - 1)))) else (spec_l06Images.l0 k1 (Int.tmod x0_1 x5_1) y125 y108 x5_1 (wrap64 (x6_1 - 1)))) = some r := by first | (rw [hy125]; with_reducible exact H) | (have H2_ := (yfy _ _).symm.trans H; rw [hy125]; with_reducible exact H2_) | (have H2_ := (yfy _ _).symm.trans H; with_reducible exact H2_) | with_reducible exact H | (rw [hy125]; exact H) | exact H
    have Ny125 := Aside0.mk hy125
    clear hy125
    by_cases c19 : x6_1 > 0
    rotate_left
    next =>
     rw [if_neg c19] at H
     have c19b0 : decide (0 < x6_1) = false := yhy c19
     clear c19
     have H' := Aside0.mk H
     clear H
     obtain ⟨Ao30, co30, eo30⟩ := Kd.R_slice HO_3.out
     subst eo30
     have p107 : 0 ≤ ((ji8) : Int) := of_decide_eq_true (by first | (with_reducible assumption) | assumption)
     have q107 : (ji8) < (x3_1.length : Int) := of_decide_eq_true (by first | (with_reducible assumption) | assumption)
     obtain ⟨ad107, e107, hx107_0⟩ := Kd.at_int (Kd.R_reads' HO_3.out).2.2 (ji8) p107 q107
     cases e107
     replace p107 := eq_true p107
     replace q107 := eq_true q107
     try go_wp2_with (first | ((with_reducible refine gate_builtin (b := .append) (xs := #[.tmp 20, .tmp 25]) rfl ?_); at_builtin; refine Kd.R_append (Kd.int .i64) (w0 := w) w.heap.size rfl (.tmp 20) (.tmp 25) 44 2 (.int .i64 0) 8 rfl Try.underlying44 info2 rfl (by decide) (by omega) u4 x4_1 (rd x3_1 (ji8)) [.int .i64 (rd x3_1 (ji8))] (fun k_ => some k_ ≠ (.slice (some ad107) x3_1.length co30 : Value).ownBlock) (fun _ => False) rfl rfl ?aP (fun _ hk => hk.elim) ?aF ?aO ?aB ?aS ?aL ?_; (case aP => exact rfl); (case aB => exact (by repeat (first | (with_reducible first | exact HB.out | apply below_alloc | apply pw_below_drewN | apply below_drew1) | exact HB.out))); (case aF => exact (fun k_ hk => Kd.fresh' (Kd.R_lt (by (with_reducible repeat (first | apply Kd.R_alloc | apply Kd.R_drewN | apply Kd.R_drew)); exact HO_3.out)) k_ hk)); (case aO => exact (by (with_reducible repeat (first | apply Kd.R_alloc | apply Kd.R_drewN | apply Kd.R_drew)); exact HO_4.out)); (case aS => exact (below_size (by repeat (first | (with_reducible first | exact HB.out | apply below_alloc | apply pw_below_drewN | apply below_drew1) | exact HB.out)))); (case aL => have := LMc11.out; omega); intro v109 w31 ho hb hg hat; rw [← Ny108.out] at ho; have n0_ := Aside0.mk (Kd.R_after (ok := (fun _ => True)) (by (with_reducible repeat (first | apply Kd.R_alloc | apply Kd.R_drewN | apply Kd.R_drew)); exact Kd.R_mono HO_3.out (fun _ hk => ⟨trivial, hk⟩)) hg hat); have n1_ := Aside0.mk (hb); have n2_ := Aside0.mk (ho); clear HO_3; clear HB; clear HO_4; have HO_3 := n0_; have HB := n1_; have HO110 := n2_; clear n0_ n1_ n2_; clear ho hb hg hat))
     have n0_ := Aside0.mk (Kd.R_drew HO_3.out)
     have n1_ := Aside0.mk (Kd.R_drew HO110.out)
     have n2_ := Aside0.mk (below_drew1 HB.out)
     clear HO_3
     clear HO110
     clear HB
     have HO_3 := n0_
     have HO110 := n1_
     have HB := n2_
     clear n0_ n1_ n2_
     have q33 : ((ji8) : Int) ≤ ((x3_1.length : Int) : Int) := of_decide_eq_true (by first | (with_reducible assumption) | assumption)
     obtain ⟨i033, hi033, _, hsz33, _⟩ := info_parts info2
     have hroom33 : x3_1.length ≤ co30 := (Kd.R_reads' HO_3.out).2.1
     have hC33 : Kd.C (Kd.int .i64) _ (some ad107) x3_1.length x3_1 := (Kd.R_reads' HO_3.out).2.2
     have hcut33 := cut_to (P := Try.prog) 44 2 .i64 Try.underlying44 hi033 (some ad107) x3_1.length co30 (ji8) (of_decide_eq_true (by first | (with_reducible assumption) | assumption)) q33 hroom33
     have hr33 := Kd.C_take (m := ((ji8) : Int).toNat) hC33 (by omega)
     have hy33 : y114.length = ((ji8) : Int).toNat := (by rw [Ny114.out, ymy]; omega)
     rw [← Ny114.out] at hr33
     rw [← hy33] at hcut33
     have HR117 := Aside0.mk hr33
     have HC117 := Aside0.mk (show y114.length ≤ co30 from by omega)
     clear hr33 hC33 hroom33 hi033 hsz33
     have KY33 := Aside0.mk hy33
     clear hy33
     have KL33 := Aside0.mk (show ((ji8) : Int).toNat ≤ x3_1.length from by omega)
     replace q33 := eq_true q33
     have q34 : ((ji15) : Int) ≤ ((x3_1.length : Int) : Int) := of_decide_eq_true (by first | (with_reducible assumption) | assumption)
     obtain ⟨i034, hi034, _, hsz34, _⟩ := info_parts info2
     have hroom34 : x3_1.length ≤ co30 := (Kd.R_reads' HO_3.out).2.1
     have hC34 : Kd.C (Kd.int .i64) _ (some ad107) x3_1.length x3_1 := (Kd.R_reads' HO_3.out).2.2
     have q034 : (0 : Int) ≤ ((ji15) : Int) := of_decide_eq_true (by first | (with_reducible assumption) | assumption)
     have hcut34 := cut_from (P := Try.prog) 44 2 .i64 Try.underlying44 hi034 1 hsz34 (some ad107) x3_1.length co30 (ji15) q034 q34
     have hr34 := Kd.C_drop (m := ((ji15) : Int).toNat) (c := co30) hC34 (by omega) hroom34
     obtain ⟨A34, hA34⟩ : ∃ A1, A1 = (if co30 = ((ji15) : Int).toNat then (some ad107) else ((some ad107) : Option Addr).map (·.add (((ji15) : Int).toNat * 1))) := ⟨_, rfl⟩
     obtain ⟨c34, hc34⟩ : ∃ c1, c1 = co30 - ((ji15) : Int).toNat := ⟨_, rfl⟩
     have hy34 : y121.length = x3_1.length - ((ji15) : Int).toNat := (by rw [Ny121.out, yly] <;> omega)
     rw [show (x3_1).drop ((ji15) : Int).toNat = y121 from Ny121.out.symm] at hr34
     replace hr34 : Kd.C (Kd.int .i64) _ A34 y121.length y121 := (by rw [hA34]; exact hr34)
     rw [← hy34, ← hA34, ← hc34] at hcut34
     have HR124 := Aside0.mk hr34
     have HC124 := Aside0.mk (show y121.length ≤ c34 from by rw [hy34, hc34]; exact Nat.sub_le_sub_right hroom34 _)
     clear hr34 hC34 hroom34 hi034 hsz34 hc34
     have KY34 := Aside0.mk hy34
     have KA34 := Aside0.mk hA34
     clear hy34 hA34
     have KL34 := Aside0.mk (show ((ji15) : Int).toNat ≤ x3_1.length from by omega)
     replace q34 := eq_true q34
     refine start_ (n := 11) (S := fun w' => True) (ds := []) #[false, false, false, false, false, false, false, false, false, false, false] (by kernel_rfl) rfl rfl trivial (fun hHeld => ?_); refine with_tabW spec_l06Images.tab10 spec_l06Images.bits10 (fun HT_ HW_ => ?_)
     generalize w31.drew = w32 at HO_3 HO110 HB HR117 HR124 hHeld ⊢
     refine pure_ (i := 1) (N := some 28) (v := ?_) (a' := ?_) #[false, true, false, false, false, false, false, false, false, false, false] rfl rfl (any_of HT_.out (by kernel_rfl)) (fun _ _ _ h => h) (Or.inl ⟨by rfl, ?_⟩) ?_ ?_
     rotate_left
     next =>
      intro w'
      go_simp
      with_reducible rfl
     rotate_left
     next =>
      simp only [Act.put, yay, yby, ycy, i64_w, i32_w]
      rfl
     refine pure_ (i := 2) (N := some 29) (v := ?_) (a' := ?_) #[false, true, true, false, false, false, false, false, false, false, false] rfl rfl (any_of HT_.out (by kernel_rfl)) (fun _ _ _ h => h) (Or.inl ⟨by rfl, ?_⟩) ?_ ?_
     rotate_left
     next =>
      intro w'
      go_simp
      with_reducible rfl
     rotate_left
     next =>
      simp only [Act.put, yay, yby, ycy, i64_w, i32_w]
      rfl
     refine pure_ (i := 3) (N := some 30) (v := ?_) (a' := ?_) #[false, true, true, true, false, false, false, false, false, false, false] rfl rfl (any_of HT_.out (by kernel_rfl)) (fun _ _ _ h => h) (Or.inl ⟨by rfl, ?_⟩) ?_ ?_
     rotate_left
     next =>
      intro w'
      go_simp
      with_reducible rfl
     rotate_left
     next =>
      simp only [Act.put, yay, yby, ycy, i64_w, i32_w]
      rfl
     refine pure_ (i := 5) (N := some 32) (v := ?_) (a' := ?_) #[false, true, true, true, false, true, false, false, false, false, false] rfl rfl (any_of HT_.out (by kernel_rfl)) (fun _ _ _ h => h) (Or.inl ⟨by rfl, ?_⟩) ?_ ?_
     rotate_left
     next =>
      intro w'
      go_simp
      with_reducible rfl
     rotate_left
     next =>
      simp only [Act.put, yay, yby, ycy, i64_w, i32_w]
      rfl
     refine pure_ (i := 6) (N := some 33) (v := ?_) (a' := ?_) #[false, true, true, true, false, true, true, false, false, false, false] rfl rfl (any_of HT_.out (by kernel_rfl)) (fun _ _ _ h => h) (Or.inl ⟨by rfl, ?_⟩) ?_ ?_
     rotate_left
     next =>
      intro w'
      go_simp
      with_reducible rfl
     rotate_left
     next =>
      simp only [Act.put, yay, yby, ycy, i64_w, i32_w]
      rfl
     refine pure_ (i := 7) (N := some 34) (v := ?_) (a' := ?_) #[false, true, true, true, false, true, true, true, false, false, false] rfl rfl (any_of HT_.out (by kernel_rfl)) (fun _ _ _ h => h) (Or.inl ⟨by rfl, ?_⟩) ?_ ?_
     rotate_left
     next =>
      intro w'
      go_simp
      with_reducible rfl
     rotate_left
     next =>
      simp only [Act.put, yay, yby, ycy, i64_w, i32_w]
      rfl
     refine pure_ (i := 8) (N := some 35) (v := ?_) (a' := ?_) #[false, true, true, true, false, true, true, true, true, false, false] rfl rfl (any_of HT_.out (by kernel_rfl)) (fun _ _ _ h => h) (Or.inl ⟨by rfl, ?_⟩) ?_ ?_
     rotate_left
     next =>
      intro w'
      go_simp
      with_reducible rfl
     rotate_left
     next =>
      simp only [Act.put, yay, yby, ycy, i64_w, i32_w]
      rfl
     refine one_ (i := 0) (N := some 27) #[true, true, true, true, false, true, true, true, true, false, false] rfl rfl (one_of HT_.out (by kernel_rfl)) (by decide) (fun K hK => ?_)
     refine Kd.R_lit_step (Kd.int .i64) _ 2 ?hg (N := 27) ?hd (xs := ([] : List Int)) (inner := []) (ok := fun _ => True) (okp := fun _ => True) ?hr ?hp (fun _ hk => hk) trivial (Below.refl _ _) (yoy _) (by simp) ?_; (case hd => rfl); (case hg => rfl); (case hr => first | (go_simp; done) | (go_simp; rfl)); (case hp => exact (Reps.none _ _))
     intro v112 w35 ho36 hb hg_ hnew_
     clear hg_ hnew_
     (first | rw [← Ny111.out] at ho36 | (simp only [Int.reduceToNat] at ho36; rw [← Ny111.out] at ho36))
     have n0_ := Aside0.mk (Kd.R_elder' (by (with_reducible repeat (first | apply Kd.R_alloc | apply Kd.R_drewN | apply Kd.R_drew)); exact HO_3.out) (Kd.R_base ho36) hb)
     have n1_ := Aside0.mk (Kd.R_elder' (by (with_reducible repeat (first | apply Kd.R_alloc | apply Kd.R_drewN | apply Kd.R_drew)); exact HO110.out) (Kd.R_base ho36) hb)
     have n2_ := Aside0.mk (Kd.R_lower (Kd.R_new' (Kd.R_new' ho36 (Kd.R_lt (by (with_reducible repeat (first | apply Kd.R_alloc | apply Kd.R_drewN | apply Kd.R_drew)); exact HO_3.out))) (Kd.R_lt (by (with_reducible repeat (first | apply Kd.R_alloc | apply Kd.R_drewN | apply Kd.R_drew)); exact HO110.out))) (below_size (by repeat (first | (with_reducible first | exact HB.out | apply below_alloc | apply pw_below_drewN | apply below_drew1) | exact HB.out))))
     have n3_ := Aside0.mk (Kd.C_below (by repeat (first | (with_reducible exact HR117.out) | (with_reducible refine Kd.C_alloc ?_ _) | (with_reducible refine Kd.C_drewN ?_ _) | (with_reducible refine Kd.C_drew ?_) | exact HR117.out)) hb)
     have n4_ := Aside0.mk (Kd.C_below (by repeat (first | (with_reducible exact HR124.out) | (with_reducible refine Kd.C_alloc ?_ _) | (with_reducible refine Kd.C_drewN ?_ _) | (with_reducible refine Kd.C_drew ?_) | exact HR124.out)) hb)
     have n5_ := Aside0.mk (below_step (by repeat (first | (with_reducible first | exact HB.out | apply below_alloc | apply pw_below_drewN | apply below_drew1) | exact HB.out)) hb)
     clear HO_3
     clear HO110
     clear HR117
     clear HR124
     clear HB
     have HO_3 := n0_
     have HO110 := n1_
     have HO113 := n2_
     have HR117 := n3_
     have HR124 := n4_
     have HB := n5_
     clear n0_ n1_ n2_ n3_ n4_ n5_
     clear hb ho36
     refine hK.out _ _ trivial (fun hHeld => ?_)
     clear hK K
     refine norm_ (a' := ?_) ?_ ?_
     rotate_left
     next =>
      show Act.put _ (some 27) _ = _
      simp only [Act.put, yay, yby, ycy, i64_w, i32_w]
      rfl
     refine one_ (i := 4) (N := some 31) #[true, true, true, true, true, true, true, true, true, false, false] rfl rfl (one_of HT_.out (by kernel_rfl)) (by decide) (fun K hK => ?_)
     refine Kd.R_append_rows_step (Kd.int .i64) (w0 := w) w.heap.size (by rfl) (.tmp 27) (.tmp 30) 44 2 (.int .i64 0) 8 rfl Try.underlying44 info2 rfl (by decide) (by omega) v112 y111 y114 _ _ _ (fun k_ => some k_ ≠ (.slice (some ad107) x3_1.length co30 : Value).ownBlock ∧ some k_ ≠ (v109 : Value).ownBlock) (fun _ => False) rfl rfl ?aO ?aR (fun _ _ h => h) (fun _ h => h.elim) ?aF ?aB ?aS ?aL ?_
     (case aR => repeat (first | exact (by repeat (first | (with_reducible exact HR117.out) | (with_reducible refine Kd.C_alloc ?_ _) | (with_reducible refine Kd.C_drewN ?_ _) | (with_reducible refine Kd.C_drew ?_) | exact HR117.out)) | (with_reducible refine Kd.C_alloc ?_ _) | (with_reducible refine Kd.C_drewN ?_ _) | (with_reducible refine Kd.C_drew ?_)))
     (case aB => exact (by repeat (first | (with_reducible first | exact HB.out | apply below_alloc | apply pw_below_drewN | apply below_drew1) | exact HB.out)))
     (case aF => exact (fun k_ hk => ⟨Kd.fresh' (Kd.R_lt (by (with_reducible repeat (first | apply Kd.R_alloc | apply Kd.R_drewN | apply Kd.R_drew)); exact HO_3.out)) k_ hk, Kd.fresh' (Kd.R_lt (by (with_reducible repeat (first | apply Kd.R_alloc | apply Kd.R_drewN | apply Kd.R_drew)); exact HO110.out)) k_ hk⟩))
     (case aO => exact (by (with_reducible repeat (first | apply Kd.R_alloc | apply Kd.R_drewN | apply Kd.R_drew)); exact Kd.R_mono HO113.out (fun _ hk => ⟨hk.1.2, hk.2⟩)))
     (case aS => exact (below_size (by repeat (first | (with_reducible first | exact HB.out | apply below_alloc | apply pw_below_drewN | apply below_drew1) | exact HB.out))))
     (case aL => have := LMc14.out; omega)
     intro v119 w37 ho hb hg hat
     rw [← Ny118.out] at ho
     have n0_ := Aside0.mk (Kd.R_after (ok := (fun k_ => some k_ ≠ (v109 : Value).ownBlock)) (by (with_reducible repeat (first | apply Kd.R_alloc | apply Kd.R_drewN | apply Kd.R_drew)); exact Kd.R_mono HO_3.out (fun _ hk => ⟨hk.1.2, hk.2⟩)) hg hat)
     have n1_ := Aside0.mk (Kd.R_after (ok := (fun k_ => some k_ ≠ (.slice (some ad107) x3_1.length co30 : Value).ownBlock)) (by (with_reducible repeat (first | apply Kd.R_alloc | apply Kd.R_drewN | apply Kd.R_drew)); exact HO110.out) hg hat)
     have n2_ := Aside0.mk (hb)
     have n3_ := Aside0.mk ((show Kd.C (Kd.int .i64) w37 (some ad107) y114.length y114 from by rw [Ny114.out]; exact Kd.C_take (m := ((ji8) : Int).toNat) ((Kd.R_reads' (Kd.R_after (ok := (fun k_ => some k_ ≠ (v109 : Value).ownBlock)) (by (with_reducible repeat (first | apply Kd.R_alloc | apply Kd.R_drewN | apply Kd.R_drew)); exact Kd.R_mono HO_3.out (fun _ hk => ⟨hk.1.2, hk.2⟩)) hg hat)).2.2) KL33.out))
     have n4_ := Aside0.mk ((show Kd.C (Kd.int .i64) w37 A34 y121.length y121 from by rw [Ny121.out, KA34.out]; exact Kd.C_drop (m := ((ji15) : Int).toNat) (c := co30) ((Kd.R_reads' (Kd.R_after (ok := (fun k_ => some k_ ≠ (v109 : Value).ownBlock)) (by (with_reducible repeat (first | apply Kd.R_alloc | apply Kd.R_drewN | apply Kd.R_drew)); exact Kd.R_mono HO_3.out (fun _ hk => ⟨hk.1.2, hk.2⟩)) hg hat)).2.2) KL34.out ((Kd.R_reads' (Kd.R_after (ok := (fun k_ => some k_ ≠ (v109 : Value).ownBlock)) (by (with_reducible repeat (first | apply Kd.R_alloc | apply Kd.R_drewN | apply Kd.R_drew)); exact Kd.R_mono HO_3.out (fun _ hk => ⟨hk.1.2, hk.2⟩)) hg hat)).2.1)))
     have n5_ := Aside0.mk (ho)
     clear HO_3
     clear HO110
     clear HB
     clear HR117
     clear HR124
     clear HO113
     have HO_3 := n0_
     have HO110 := n1_
     have HB := n2_
     have HR117 := n3_
     have HR124 := n4_
     have HO120 := n5_
     clear n0_ n1_ n2_ n3_ n4_ n5_
     clear ho hb hg hat
     refine hK.out _ _ trivial (fun hHeld => ?_)
     clear hK K
     refine norm_ (a' := ?_) ?_ ?_
     rotate_left
     next =>
      show Act.put _ (some 31) _ = _
      simp only [Act.put, yay, yby, ycy, i64_w, i32_w]
      rfl
     refine one_ (i := 9) (N := some 36) #[true, true, true, true, true, true, true, true, true, true, false] rfl rfl (one_of HT_.out (by kernel_rfl)) (by decide) (fun K hK => ?_)
     refine Kd.R_append_rows_step (Kd.int .i64) (w0 := w) w.heap.size (by rfl) (.tmp 31) (.tmp 35) 44 2 (.int .i64 0) 8 rfl Try.underlying44 info2 rfl (by decide) (by omega) v119 y118 y121 _ _ _ (fun k_ => some k_ ≠ (.slice (some ad107) x3_1.length co30 : Value).ownBlock ∧ some k_ ≠ (v109 : Value).ownBlock) (fun _ => False) rfl rfl ?aO ?aR (fun _ _ h => h) (fun _ h => h.elim) ?aF ?aB ?aS ?aL ?_
     (case aR => repeat (first | exact (by repeat (first | (with_reducible exact HR124.out) | (with_reducible refine Kd.C_alloc ?_ _) | (with_reducible refine Kd.C_drewN ?_ _) | (with_reducible refine Kd.C_drew ?_) | exact HR124.out)) | (with_reducible refine Kd.C_alloc ?_ _) | (with_reducible refine Kd.C_drewN ?_ _) | (with_reducible refine Kd.C_drew ?_)))
     (case aB => exact (by repeat (first | (with_reducible first | exact HB.out | apply below_alloc | apply pw_below_drewN | apply below_drew1) | exact HB.out)))
     (case aF => exact (fun k_ hk => ⟨Kd.fresh' (Kd.R_lt (by (with_reducible repeat (first | apply Kd.R_alloc | apply Kd.R_drewN | apply Kd.R_drew)); exact HO_3.out)) k_ hk, Kd.fresh' (Kd.R_lt (by (with_reducible repeat (first | apply Kd.R_alloc | apply Kd.R_drewN | apply Kd.R_drew)); exact HO110.out)) k_ hk⟩))
     (case aO => exact (by (with_reducible repeat (first | apply Kd.R_alloc | apply Kd.R_drewN | apply Kd.R_drew)); exact HO120.out))
     (case aS => exact (below_size (by repeat (first | (with_reducible first | exact HB.out | apply below_alloc | apply pw_below_drewN | apply below_drew1) | exact HB.out))))
     (case aL => have := LMc18.out; omega)
     intro v126 w38 ho hb hg hat
     rw [← Ny125.out] at ho
     have n0_ := Aside0.mk (Kd.R_after (ok := (fun k_ => some k_ ≠ (v109 : Value).ownBlock)) (by (with_reducible repeat (first | apply Kd.R_alloc | apply Kd.R_drewN | apply Kd.R_drew)); exact HO_3.out) hg hat)
     have n1_ := Aside0.mk (Kd.R_after (ok := (fun k_ => some k_ ≠ (.slice (some ad107) x3_1.length co30 : Value).ownBlock)) (by (with_reducible repeat (first | apply Kd.R_alloc | apply Kd.R_drewN | apply Kd.R_drew)); exact HO110.out) hg hat)
     have n2_ := Aside0.mk (hb)
     have n3_ := Aside0.mk ((show Kd.C (Kd.int .i64) w38 (some ad107) y114.length y114 from by rw [Ny114.out]; exact Kd.C_take (m := ((ji8) : Int).toNat) ((Kd.R_reads' (Kd.R_after (ok := (fun k_ => some k_ ≠ (v109 : Value).ownBlock)) (by (with_reducible repeat (first | apply Kd.R_alloc | apply Kd.R_drewN | apply Kd.R_drew)); exact HO_3.out) hg hat)).2.2) KL33.out))
     have n4_ := Aside0.mk ((show Kd.C (Kd.int .i64) w38 A34 y121.length y121 from by rw [Ny121.out, KA34.out]; exact Kd.C_drop (m := ((ji15) : Int).toNat) (c := co30) ((Kd.R_reads' (Kd.R_after (ok := (fun k_ => some k_ ≠ (v109 : Value).ownBlock)) (by (with_reducible repeat (first | apply Kd.R_alloc | apply Kd.R_drewN | apply Kd.R_drew)); exact HO_3.out) hg hat)).2.2) KL34.out ((Kd.R_reads' (Kd.R_after (ok := (fun k_ => some k_ ≠ (v109 : Value).ownBlock)) (by (with_reducible repeat (first | apply Kd.R_alloc | apply Kd.R_drewN | apply Kd.R_drew)); exact HO_3.out) hg hat)).2.1)))
     have n5_ := Aside0.mk (ho)
     clear HO_3
     clear HO110
     clear HB
     clear HR117
     clear HR124
     clear HO120
     have HO_3 := n0_
     have HO110 := n1_
     have HB := n2_
     have HR117 := n3_
     have HR124 := n4_
     have HO127 := n5_
     clear n0_ n1_ n2_ n3_ n4_ n5_
     clear ho hb hg hat
     refine hK.out _ _ trivial (fun hHeld => ?_)
     clear hK K
     refine norm_ (a' := ?_) ?_ ?_
     rotate_left
     next =>
      show Act.put _ (some 36) _ = _
      simp only [Act.put, yay, yby, ycy, i64_w, i32_w]
      rfl
     refine pure_ (i := 10) (N := some 3) (v := ?_) (a' := ?_) #[true, true, true, true, true, true, true, true, true, true, true] rfl rfl (any_of HT_.out (by kernel_rfl)) (fun _ _ _ h => h) (Or.inl ⟨by rfl, ?_⟩) ?_ ?_
     rotate_left
     next =>
      intro w'
      go_simp
      with_reducible rfl
     rotate_left
     next =>
      simp only [Act.put, yay, yby, ycy, i64_w, i32_w]
      rfl
     refine done_ (done_of HT_.out (by kernel_rfl)) ?_
     try go_wp2
     go_roundg k1
     case measure => have := HK1.out; omega
     case rel => exact ⟨(Int.tmod x0_1 x5_1), (y125), (y108), (x5_1), (wrap64 (x6_1 - 1)), (by first | rfl | (simp; done) | (simp [*]; done)), (by first | rfl | (simp; done) | (simp [*]; done)), (by first | rfl | (simp; done) | (simp [*]; done)), H', ⟨by have := HK1.out; omega⟩, ⟨by (with_reducible repeat (first | apply Kd.R_alloc | apply Kd.R_drewN | apply Kd.R_drew)); exact Kd.R_mono HO127.out (fun _ hk => hk.2)⟩, ⟨by (with_reducible repeat (first | apply Kd.R_alloc | apply Kd.R_drewN | apply Kd.R_drew)); exact Kd.R_mono HO110.out (fun _ hk => hk.2)⟩, ⟨by repeat (first | (with_reducible first | exact HB.out | apply below_alloc | apply pw_below_drewN | apply below_drew1) | exact HB.out)⟩⟩
    rw [if_pos c19] at H
    have c19b0 : decide (0 < x6_1) = true := ygy c19
    clear c19
    by_cases c20 : x6_1 = 0
    next =>
     rw [if_pos c20] at H
     exact absurd H (by simp)
    next =>
     rw [if_neg c20] at H
     have c20b0 : (x6_1 == 0) = false := beq_eq_false_iff_ne.mpr c20
     have c20b1 : (x6_1 != 0) = true := bne_iff_ne.mpr c20
     have H' := Aside0.mk H
     clear H
     obtain ⟨Ao21, co21, eo21⟩ := Kd.R_slice HO_3.out
     subst eo21
     have p107 : 0 ≤ ((ji8) : Int) := of_decide_eq_true (by first | (with_reducible assumption) | assumption)
     have q107 : (ji8) < (x3_1.length : Int) := of_decide_eq_true (by first | (with_reducible assumption) | assumption)
     obtain ⟨ad107, e107, hx107_0⟩ := Kd.at_int (Kd.R_reads' HO_3.out).2.2 (ji8) p107 q107
     cases e107
     replace p107 := eq_true p107
     replace q107 := eq_true q107
     try go_wp2_with (first | ((with_reducible refine gate_builtin (b := .append) (xs := #[.tmp 20, .tmp 25]) rfl ?_); at_builtin; refine Kd.R_append (Kd.int .i64) (w0 := w) w.heap.size rfl (.tmp 20) (.tmp 25) 44 2 (.int .i64 0) 8 rfl Try.underlying44 info2 rfl (by decide) (by omega) u4 x4_1 (rd x3_1 (ji8)) [.int .i64 (rd x3_1 (ji8))] (fun k_ => some k_ ≠ (.slice (some ad107) x3_1.length co21 : Value).ownBlock) (fun _ => False) rfl rfl ?aP (fun _ hk => hk.elim) ?aF ?aO ?aB ?aS ?aL ?_; (case aP => exact rfl); (case aB => exact (by repeat (first | (with_reducible first | exact HB.out | apply below_alloc | apply pw_below_drewN | apply below_drew1) | exact HB.out))); (case aF => exact (fun k_ hk => Kd.fresh' (Kd.R_lt (by (with_reducible repeat (first | apply Kd.R_alloc | apply Kd.R_drewN | apply Kd.R_drew)); exact HO_3.out)) k_ hk)); (case aO => exact (by (with_reducible repeat (first | apply Kd.R_alloc | apply Kd.R_drewN | apply Kd.R_drew)); exact HO_4.out)); (case aS => exact (below_size (by repeat (first | (with_reducible first | exact HB.out | apply below_alloc | apply pw_below_drewN | apply below_drew1) | exact HB.out)))); (case aL => have := LMc11.out; omega); intro v109 w22 ho hb hg hat; rw [← Ny108.out] at ho; have n0_ := Aside0.mk (Kd.R_after (ok := (fun _ => True)) (by (with_reducible repeat (first | apply Kd.R_alloc | apply Kd.R_drewN | apply Kd.R_drew)); exact Kd.R_mono HO_3.out (fun _ hk => ⟨trivial, hk⟩)) hg hat); have n1_ := Aside0.mk (hb); have n2_ := Aside0.mk (ho); clear HO_3; clear HB; clear HO_4; have HO_3 := n0_; have HB := n1_; have HO110 := n2_; clear n0_ n1_ n2_; clear ho hb hg hat))
     have n0_ := Aside0.mk (Kd.R_drew HO_3.out)
     have n1_ := Aside0.mk (Kd.R_drew HO110.out)
     have n2_ := Aside0.mk (below_drew1 HB.out)
     clear HO_3
     clear HO110
     clear HB
     have HO_3 := n0_
     have HO110 := n1_
     have HB := n2_
     clear n0_ n1_ n2_
     have q24 : ((ji8) : Int) ≤ ((x3_1.length : Int) : Int) := of_decide_eq_true (by first | (with_reducible assumption) | assumption)
     obtain ⟨i024, hi024, _, hsz24, _⟩ := info_parts info2
     have hroom24 : x3_1.length ≤ co21 := (Kd.R_reads' HO_3.out).2.1
     have hC24 : Kd.C (Kd.int .i64) _ (some ad107) x3_1.length x3_1 := (Kd.R_reads' HO_3.out).2.2
     have hcut24 := cut_to (P := Try.prog) 44 2 .i64 Try.underlying44 hi024 (some ad107) x3_1.length co21 (ji8) (of_decide_eq_true (by first | (with_reducible assumption) | assumption)) q24 hroom24
     have hr24 := Kd.C_take (m := ((ji8) : Int).toNat) hC24 (by omega)
     have hy24 : y114.length = ((ji8) : Int).toNat := (by rw [Ny114.out, ymy]; omega)
     rw [← Ny114.out] at hr24
     rw [← hy24] at hcut24
     have HR117 := Aside0.mk hr24
     have HC117 := Aside0.mk (show y114.length ≤ co21 from by omega)
     clear hr24 hC24 hroom24 hi024 hsz24
     have KY24 := Aside0.mk hy24
     clear hy24
     have KL24 := Aside0.mk (show ((ji8) : Int).toNat ≤ x3_1.length from by omega)
     replace q24 := eq_true q24
     have q25 : ((ji15) : Int) ≤ ((x3_1.length : Int) : Int) := of_decide_eq_true (by first | (with_reducible assumption) | assumption)
     obtain ⟨i025, hi025, _, hsz25, _⟩ := info_parts info2
     have hroom25 : x3_1.length ≤ co21 := (Kd.R_reads' HO_3.out).2.1
     have hC25 : Kd.C (Kd.int .i64) _ (some ad107) x3_1.length x3_1 := (Kd.R_reads' HO_3.out).2.2
     have q025 : (0 : Int) ≤ ((ji15) : Int) := of_decide_eq_true (by first | (with_reducible assumption) | assumption)
     have hcut25 := cut_from (P := Try.prog) 44 2 .i64 Try.underlying44 hi025 1 hsz25 (some ad107) x3_1.length co21 (ji15) q025 q25
     have hr25 := Kd.C_drop (m := ((ji15) : Int).toNat) (c := co21) hC25 (by omega) hroom25
     obtain ⟨A25, hA25⟩ : ∃ A1, A1 = (if co21 = ((ji15) : Int).toNat then (some ad107) else ((some ad107) : Option Addr).map (·.add (((ji15) : Int).toNat * 1))) := ⟨_, rfl⟩
     obtain ⟨c25, hc25⟩ : ∃ c1, c1 = co21 - ((ji15) : Int).toNat := ⟨_, rfl⟩
     have hy25 : y121.length = x3_1.length - ((ji15) : Int).toNat := (by rw [Ny121.out, yly] <;> omega)
     rw [show (x3_1).drop ((ji15) : Int).toNat = y121 from Ny121.out.symm] at hr25
     replace hr25 : Kd.C (Kd.int .i64) _ A25 y121.length y121 := (by rw [hA25]; exact hr25)
     rw [← hy25, ← hA25, ← hc25] at hcut25
     have HR124 := Aside0.mk hr25
     have HC124 := Aside0.mk (show y121.length ≤ c25 from by rw [hy25, hc25]; exact Nat.sub_le_sub_right hroom25 _)
     clear hr25 hC25 hroom25 hi025 hsz25 hc25
     have KY25 := Aside0.mk hy25
     have KA25 := Aside0.mk hA25
     clear hy25 hA25
     have KL25 := Aside0.mk (show ((ji15) : Int).toNat ≤ x3_1.length from by omega)
     replace q25 := eq_true q25
     refine start_ (n := 11) (S := fun w' => True) (ds := []) #[false, false, false, false, false, false, false, false, false, false, false] (by kernel_rfl) rfl rfl trivial (fun hHeld => ?_); refine with_tabW spec_l06Images.tab10 spec_l06Images.bits10 (fun HT_ HW_ => ?_)
     generalize w22.drew = w23 at HO_3 HO110 HB HR117 HR124 hHeld ⊢
     refine pure_ (i := 1) (N := some 28) (v := ?_) (a' := ?_) #[false, true, false, false, false, false, false, false, false, false, false] rfl rfl (any_of HT_.out (by kernel_rfl)) (fun _ _ _ h => h) (Or.inl ⟨by rfl, ?_⟩) ?_ ?_
     rotate_left
     next =>
      intro w'
      go_simp
      with_reducible rfl
     rotate_left
     next =>
      simp only [Act.put, yay, yby, ycy, i64_w, i32_w]
      rfl
     refine pure_ (i := 2) (N := some 29) (v := ?_) (a' := ?_) #[false, true, true, false, false, false, false, false, false, false, false] rfl rfl (any_of HT_.out (by kernel_rfl)) (fun _ _ _ h => h) (Or.inl ⟨by rfl, ?_⟩) ?_ ?_
     rotate_left
     next =>
      intro w'
      go_simp
      with_reducible rfl
     rotate_left
     next =>
      simp only [Act.put, yay, yby, ycy, i64_w, i32_w]
      rfl
     refine pure_ (i := 3) (N := some 30) (v := ?_) (a' := ?_) #[false, true, true, true, false, false, false, false, false, false, false] rfl rfl (any_of HT_.out (by kernel_rfl)) (fun _ _ _ h => h) (Or.inl ⟨by rfl, ?_⟩) ?_ ?_
     rotate_left
     next =>
      intro w'
      go_simp
      with_reducible rfl
     rotate_left
     next =>
      simp only [Act.put, yay, yby, ycy, i64_w, i32_w]
      rfl
     refine pure_ (i := 5) (N := some 32) (v := ?_) (a' := ?_) #[false, true, true, true, false, true, false, false, false, false, false] rfl rfl (any_of HT_.out (by kernel_rfl)) (fun _ _ _ h => h) (Or.inl ⟨by rfl, ?_⟩) ?_ ?_
     rotate_left
     next =>
      intro w'
      go_simp
      with_reducible rfl
     rotate_left
     next =>
      simp only [Act.put, yay, yby, ycy, i64_w, i32_w]
      rfl
     refine pure_ (i := 6) (N := some 33) (v := ?_) (a' := ?_) #[false, true, true, true, false, true, true, false, false, false, false] rfl rfl (any_of HT_.out (by kernel_rfl)) (fun _ _ _ h => h) (Or.inl ⟨by rfl, ?_⟩) ?_ ?_
     rotate_left
     next =>
      intro w'
      go_simp
      with_reducible rfl
     rotate_left
     next =>
      simp only [Act.put, yay, yby, ycy, i64_w, i32_w]
      rfl
     refine pure_ (i := 7) (N := some 34) (v := ?_) (a' := ?_) #[false, true, true, true, false, true, true, true, false, false, false] rfl rfl (any_of HT_.out (by kernel_rfl)) (fun _ _ _ h => h) (Or.inl ⟨by rfl, ?_⟩) ?_ ?_
     rotate_left
     next =>
      intro w'
      go_simp
      with_reducible rfl
     rotate_left
     next =>
      simp only [Act.put, yay, yby, ycy, i64_w, i32_w]
      rfl
     refine pure_ (i := 8) (N := some 35) (v := ?_) (a' := ?_) #[false, true, true, true, false, true, true, true, true, false, false] rfl rfl (any_of HT_.out (by kernel_rfl)) (fun _ _ _ h => h) (Or.inl ⟨by rfl, ?_⟩) ?_ ?_
     rotate_left
     next =>
      intro w'
      go_simp
      with_reducible rfl
     rotate_left
     next =>
      simp only [Act.put, yay, yby, ycy, i64_w, i32_w]
      rfl
     refine one_ (i := 0) (N := some 27) #[true, true, true, true, false, true, true, true, true, false, false] rfl rfl (one_of HT_.out (by kernel_rfl)) (by decide) (fun K hK => ?_)
     refine Kd.R_lit_step (Kd.int .i64) _ 2 ?hg (N := 27) ?hd (xs := ([] : List Int)) (inner := []) (ok := fun _ => True) (okp := fun _ => True) ?hr ?hp (fun _ hk => hk) trivial (Below.refl _ _) (yoy _) (by simp) ?_; (case hd => rfl); (case hg => rfl); (case hr => first | (go_simp; done) | (go_simp; rfl)); (case hp => exact (Reps.none _ _))
     intro v112 w26 ho27 hb hg_ hnew_
     clear hg_ hnew_
     (first | rw [← Ny111.out] at ho27 | (simp only [Int.reduceToNat] at ho27; rw [← Ny111.out] at ho27))
     have n0_ := Aside0.mk (Kd.R_elder' (by (with_reducible repeat (first | apply Kd.R_alloc | apply Kd.R_drewN | apply Kd.R_drew)); exact HO_3.out) (Kd.R_base ho27) hb)
     have n1_ := Aside0.mk (Kd.R_elder' (by (with_reducible repeat (first | apply Kd.R_alloc | apply Kd.R_drewN | apply Kd.R_drew)); exact HO110.out) (Kd.R_base ho27) hb)
     have n2_ := Aside0.mk (Kd.R_lower (Kd.R_new' (Kd.R_new' ho27 (Kd.R_lt (by (with_reducible repeat (first | apply Kd.R_alloc | apply Kd.R_drewN | apply Kd.R_drew)); exact HO_3.out))) (Kd.R_lt (by (with_reducible repeat (first | apply Kd.R_alloc | apply Kd.R_drewN | apply Kd.R_drew)); exact HO110.out))) (below_size (by repeat (first | (with_reducible first | exact HB.out | apply below_alloc | apply pw_below_drewN | apply below_drew1) | exact HB.out))))
     have n3_ := Aside0.mk (Kd.C_below (by repeat (first | (with_reducible exact HR117.out) | (with_reducible refine Kd.C_alloc ?_ _) | (with_reducible refine Kd.C_drewN ?_ _) | (with_reducible refine Kd.C_drew ?_) | exact HR117.out)) hb)
     have n4_ := Aside0.mk (Kd.C_below (by repeat (first | (with_reducible exact HR124.out) | (with_reducible refine Kd.C_alloc ?_ _) | (with_reducible refine Kd.C_drewN ?_ _) | (with_reducible refine Kd.C_drew ?_) | exact HR124.out)) hb)
     have n5_ := Aside0.mk (below_step (by repeat (first | (with_reducible first | exact HB.out | apply below_alloc | apply pw_below_drewN | apply below_drew1) | exact HB.out)) hb)
     clear HO_3
     clear HO110
     clear HR117
     clear HR124
     clear HB
     have HO_3 := n0_
     have HO110 := n1_
     have HO113 := n2_
     have HR117 := n3_
     have HR124 := n4_
     have HB := n5_
     clear n0_ n1_ n2_ n3_ n4_ n5_
     clear hb ho27
     refine hK.out _ _ trivial (fun hHeld => ?_)
     clear hK K
     refine norm_ (a' := ?_) ?_ ?_
     rotate_left
     next =>
      show Act.put _ (some 27) _ = _
      simp only [Act.put, yay, yby, ycy, i64_w, i32_w]
      rfl
     refine one_ (i := 4) (N := some 31) #[true, true, true, true, true, true, true, true, true, false, false] rfl rfl (one_of HT_.out (by kernel_rfl)) (by decide) (fun K hK => ?_)
     refine Kd.R_append_rows_step (Kd.int .i64) (w0 := w) w.heap.size (by rfl) (.tmp 27) (.tmp 30) 44 2 (.int .i64 0) 8 rfl Try.underlying44 info2 rfl (by decide) (by omega) v112 y111 y114 _ _ _ (fun k_ => some k_ ≠ (.slice (some ad107) x3_1.length co21 : Value).ownBlock ∧ some k_ ≠ (v109 : Value).ownBlock) (fun _ => False) rfl rfl ?aO ?aR (fun _ _ h => h) (fun _ h => h.elim) ?aF ?aB ?aS ?aL ?_
     (case aR => repeat (first | exact (by repeat (first | (with_reducible exact HR117.out) | (with_reducible refine Kd.C_alloc ?_ _) | (with_reducible refine Kd.C_drewN ?_ _) | (with_reducible refine Kd.C_drew ?_) | exact HR117.out)) | (with_reducible refine Kd.C_alloc ?_ _) | (with_reducible refine Kd.C_drewN ?_ _) | (with_reducible refine Kd.C_drew ?_)))
     (case aB => exact (by repeat (first | (with_reducible first | exact HB.out | apply below_alloc | apply pw_below_drewN | apply below_drew1) | exact HB.out)))
     (case aF => exact (fun k_ hk => ⟨Kd.fresh' (Kd.R_lt (by (with_reducible repeat (first | apply Kd.R_alloc | apply Kd.R_drewN | apply Kd.R_drew)); exact HO_3.out)) k_ hk, Kd.fresh' (Kd.R_lt (by (with_reducible repeat (first | apply Kd.R_alloc | apply Kd.R_drewN | apply Kd.R_drew)); exact HO110.out)) k_ hk⟩))
     (case aO => exact (by (with_reducible repeat (first | apply Kd.R_alloc | apply Kd.R_drewN | apply Kd.R_drew)); exact Kd.R_mono HO113.out (fun _ hk => ⟨hk.1.2, hk.2⟩)))
     (case aS => exact (below_size (by repeat (first | (with_reducible first | exact HB.out | apply below_alloc | apply pw_below_drewN | apply below_drew1) | exact HB.out))))
     (case aL => have := LMc14.out; omega)
     intro v119 w28 ho hb hg hat
     rw [← Ny118.out] at ho
     have n0_ := Aside0.mk (Kd.R_after (ok := (fun k_ => some k_ ≠ (v109 : Value).ownBlock)) (by (with_reducible repeat (first | apply Kd.R_alloc | apply Kd.R_drewN | apply Kd.R_drew)); exact Kd.R_mono HO_3.out (fun _ hk => ⟨hk.1.2, hk.2⟩)) hg hat)
     have n1_ := Aside0.mk (Kd.R_after (ok := (fun k_ => some k_ ≠ (.slice (some ad107) x3_1.length co21 : Value).ownBlock)) (by (with_reducible repeat (first | apply Kd.R_alloc | apply Kd.R_drewN | apply Kd.R_drew)); exact HO110.out) hg hat)
     have n2_ := Aside0.mk (hb)
     have n3_ := Aside0.mk ((show Kd.C (Kd.int .i64) w28 (some ad107) y114.length y114 from by rw [Ny114.out]; exact Kd.C_take (m := ((ji8) : Int).toNat) ((Kd.R_reads' (Kd.R_after (ok := (fun k_ => some k_ ≠ (v109 : Value).ownBlock)) (by (with_reducible repeat (first | apply Kd.R_alloc | apply Kd.R_drewN | apply Kd.R_drew)); exact Kd.R_mono HO_3.out (fun _ hk => ⟨hk.1.2, hk.2⟩)) hg hat)).2.2) KL24.out))
     have n4_ := Aside0.mk ((show Kd.C (Kd.int .i64) w28 A25 y121.length y121 from by rw [Ny121.out, KA25.out]; exact Kd.C_drop (m := ((ji15) : Int).toNat) (c := co21) ((Kd.R_reads' (Kd.R_after (ok := (fun k_ => some k_ ≠ (v109 : Value).ownBlock)) (by (with_reducible repeat (first | apply Kd.R_alloc | apply Kd.R_drewN | apply Kd.R_drew)); exact Kd.R_mono HO_3.out (fun _ hk => ⟨hk.1.2, hk.2⟩)) hg hat)).2.2) KL25.out ((Kd.R_reads' (Kd.R_after (ok := (fun k_ => some k_ ≠ (v109 : Value).ownBlock)) (by (with_reducible repeat (first | apply Kd.R_alloc | apply Kd.R_drewN | apply Kd.R_drew)); exact Kd.R_mono HO_3.out (fun _ hk => ⟨hk.1.2, hk.2⟩)) hg hat)).2.1)))
     have n5_ := Aside0.mk (ho)
     clear HO_3
     clear HO110
     clear HB
     clear HR117
     clear HR124
     clear HO113
     have HO_3 := n0_
     have HO110 := n1_
     have HB := n2_
     have HR117 := n3_
     have HR124 := n4_
     have HO120 := n5_
     clear n0_ n1_ n2_ n3_ n4_ n5_
     clear ho hb hg hat
     refine hK.out _ _ trivial (fun hHeld => ?_)
     clear hK K
     refine norm_ (a' := ?_) ?_ ?_
     rotate_left
     next =>
      show Act.put _ (some 31) _ = _
      simp only [Act.put, yay, yby, ycy, i64_w, i32_w]
      rfl
     refine one_ (i := 9) (N := some 36) #[true, true, true, true, true, true, true, true, true, true, false] rfl rfl (one_of HT_.out (by kernel_rfl)) (by decide) (fun K hK => ?_)
     refine Kd.R_append_rows_step (Kd.int .i64) (w0 := w) w.heap.size (by rfl) (.tmp 31) (.tmp 35) 44 2 (.int .i64 0) 8 rfl Try.underlying44 info2 rfl (by decide) (by omega) v119 y118 y121 _ _ _ (fun k_ => some k_ ≠ (.slice (some ad107) x3_1.length co21 : Value).ownBlock ∧ some k_ ≠ (v109 : Value).ownBlock) (fun _ => False) rfl rfl ?aO ?aR (fun _ _ h => h) (fun _ h => h.elim) ?aF ?aB ?aS ?aL ?_
     (case aR => repeat (first | exact (by repeat (first | (with_reducible exact HR124.out) | (with_reducible refine Kd.C_alloc ?_ _) | (with_reducible refine Kd.C_drewN ?_ _) | (with_reducible refine Kd.C_drew ?_) | exact HR124.out)) | (with_reducible refine Kd.C_alloc ?_ _) | (with_reducible refine Kd.C_drewN ?_ _) | (with_reducible refine Kd.C_drew ?_)))
     (case aB => exact (by repeat (first | (with_reducible first | exact HB.out | apply below_alloc | apply pw_below_drewN | apply below_drew1) | exact HB.out)))
     (case aF => exact (fun k_ hk => ⟨Kd.fresh' (Kd.R_lt (by (with_reducible repeat (first | apply Kd.R_alloc | apply Kd.R_drewN | apply Kd.R_drew)); exact HO_3.out)) k_ hk, Kd.fresh' (Kd.R_lt (by (with_reducible repeat (first | apply Kd.R_alloc | apply Kd.R_drewN | apply Kd.R_drew)); exact HO110.out)) k_ hk⟩))
     (case aO => exact (by (with_reducible repeat (first | apply Kd.R_alloc | apply Kd.R_drewN | apply Kd.R_drew)); exact HO120.out))
     (case aS => exact (below_size (by repeat (first | (with_reducible first | exact HB.out | apply below_alloc | apply pw_below_drewN | apply below_drew1) | exact HB.out))))
     (case aL => have := LMc18.out; omega)
     intro v126 w29 ho hb hg hat
     rw [← Ny125.out] at ho
     have n0_ := Aside0.mk (Kd.R_after (ok := (fun k_ => some k_ ≠ (v109 : Value).ownBlock)) (by (with_reducible repeat (first | apply Kd.R_alloc | apply Kd.R_drewN | apply Kd.R_drew)); exact HO_3.out) hg hat)
     have n1_ := Aside0.mk (Kd.R_after (ok := (fun k_ => some k_ ≠ (.slice (some ad107) x3_1.length co21 : Value).ownBlock)) (by (with_reducible repeat (first | apply Kd.R_alloc | apply Kd.R_drewN | apply Kd.R_drew)); exact HO110.out) hg hat)
     have n2_ := Aside0.mk (hb)
     have n3_ := Aside0.mk ((show Kd.C (Kd.int .i64) w29 (some ad107) y114.length y114 from by rw [Ny114.out]; exact Kd.C_take (m := ((ji8) : Int).toNat) ((Kd.R_reads' (Kd.R_after (ok := (fun k_ => some k_ ≠ (v109 : Value).ownBlock)) (by (with_reducible repeat (first | apply Kd.R_alloc | apply Kd.R_drewN | apply Kd.R_drew)); exact HO_3.out) hg hat)).2.2) KL24.out))
     have n4_ := Aside0.mk ((show Kd.C (Kd.int .i64) w29 A25 y121.length y121 from by rw [Ny121.out, KA25.out]; exact Kd.C_drop (m := ((ji15) : Int).toNat) (c := co21) ((Kd.R_reads' (Kd.R_after (ok := (fun k_ => some k_ ≠ (v109 : Value).ownBlock)) (by (with_reducible repeat (first | apply Kd.R_alloc | apply Kd.R_drewN | apply Kd.R_drew)); exact HO_3.out) hg hat)).2.2) KL25.out ((Kd.R_reads' (Kd.R_after (ok := (fun k_ => some k_ ≠ (v109 : Value).ownBlock)) (by (with_reducible repeat (first | apply Kd.R_alloc | apply Kd.R_drewN | apply Kd.R_drew)); exact HO_3.out) hg hat)).2.1)))
     have n5_ := Aside0.mk (ho)
     clear HO_3
     clear HO110
     clear HB
     clear HR117
     clear HR124
     clear HO120
     have HO_3 := n0_
     have HO110 := n1_
     have HB := n2_
     have HR117 := n3_
     have HR124 := n4_
     have HO127 := n5_
     clear n0_ n1_ n2_ n3_ n4_ n5_
     clear ho hb hg hat
     refine hK.out _ _ trivial (fun hHeld => ?_)
     clear hK K
     refine norm_ (a' := ?_) ?_ ?_
     rotate_left
     next =>
      show Act.put _ (some 36) _ = _
      simp only [Act.put, yay, yby, ycy, i64_w, i32_w]
      rfl
     refine pure_ (i := 10) (N := some 3) (v := ?_) (a' := ?_) #[true, true, true, true, true, true, true, true, true, true, true] rfl rfl (any_of HT_.out (by kernel_rfl)) (fun _ _ _ h => h) (Or.inl ⟨by rfl, ?_⟩) ?_ ?_
     rotate_left
     next =>
      intro w'
      go_simp
      with_reducible rfl
     rotate_left
     next =>
      simp only [Act.put, yay, yby, ycy, i64_w, i32_w]
      rfl
     refine done_ (done_of HT_.out (by kernel_rfl)) ?_
     try go_wp2
     go_roundg k1
     case measure => have := HK1.out; omega
     case rel => exact ⟨(Int.tmod x0_1 x5_1), (y125), (y108), (wrap64 (Int.tdiv x5_1 x6_1)), (wrap64 (x6_1 - 1)), (by first | rfl | (simp; done) | (simp [*]; done)), (by first | rfl | (simp; done) | (simp [*]; done)), (by first | rfl | (simp; done) | (simp [*]; done)), H', ⟨by have := HK1.out; omega⟩, ⟨by (with_reducible repeat (first | apply Kd.R_alloc | apply Kd.R_drewN | apply Kd.R_drew)); exact Kd.R_mono HO127.out (fun _ hk => hk.2)⟩, ⟨by (with_reducible repeat (first | apply Kd.R_alloc | apply Kd.R_drewN | apply Kd.R_drew)); exact Kd.R_mono HO110.out (fun _ hk => hk.2)⟩, ⟨by repeat (first | (with_reducible first | exact HB.out | apply below_alloc | apply pw_below_drewN | apply below_drew1) | exact HB.out)⟩⟩
/-! ### spec_l06At: function 36 -/
def spec_l06At.f (k : Nat) (a0 : Int) (a1 : Int) : Option (Int) := (spec_l06Images.f k a0).bind fun t101 => (if 0 ≤ a1 then (if a1 < (t101.length : Int) then (some (rd t101 a1)) else (none)) else (none))
theorem spec_l06At.mono : ∀ a0 a1 k, LeO (spec_l06At.f k a0 a1) (spec_l06At.f (k + 1) a0 a1) := by
  intro a0 a1 k
  unfold spec_l06At.f
  repeat' first
      | (with_reducible exact spec_l06Images.mono _ _)
      | (with_reducible exact LeO.refl _)
      | (with_reducible exact LeO.none _)
      | (with_reducible refine LeO.ite ?_ ?_)
      | (with_reducible refine LeO.bind ?_ (fun _ => ?_))
      | exact spec_l06Images.mono _ _
      | exact LeO.none _
      | refine LeO.ite ?_ ?_
      | refine LeO.bind ?_ (fun _ => ?_)
set_option maxHeartbeats 8000000 in
set_option maxRecDepth 100000 in
theorem spec_l06At.calls (k : Nat) (a0 : Int) (a1 : Int) (r : Int) (w : World) (h : spec_l06At.f k a0 a1 = some r) :
    Calls Try.prog 36 #[.int .i64 a0, .int .i64 a1] w fun e w' => e = .returned (.int .i64 r) ∧ Below w.heap.size w w' := by
  have HB := Aside0.mk (Below.refl w.heap.size w)
  have H : ((spec_l06Images.f k a0).bind fun t101 => (if 0 ≤ a1 then (if a1 < (t101.length : Int) then (some (rd t101 a1)) else (none)) else (none))) = some r := h
  clear h
  replace H := ydy.mp H
  obtain ⟨t101, A30, H⟩ := H
  replace H : (if 0 ≤ a1 then (if a1 < (t101.length : Int) then (some (rd t101 a1)) else (none)) else (none)) = some r := H
  have A3 := Aside0.mk A30
  clear A30
  by_cases c4 : 0 ≤ a1
  · rw [if_pos c4] at H
    have c4b0 : decide (0 ≤ a1) = true := ygy c4
    clear c4
    by_cases c5 : a1 < (t101.length : Int)
    · rw [if_pos c5] at H
      have c5b0 : decide (a1 < (t101.length : Int)) = true := ygy c5
      clear c5
      obtain rfl := yey H
      go_enter Try.func36, Try.ntmps36
      go_wp2_with (first | ((with_reducible refine gate_callee (f := 76) rfl ?_); refine goesL_ (some 6) rfl rfl Try.func76 (by kernel_rfl) rfl #[.int .i64 a0] rfl (by (try simp only [yiy, yjy, yky]); first | done | rfl | (simp only [yly, ymy]; rfl)) ?_; (with_reducible refine (spec_l06Images.calls k a0 t101 _ A3.out).mono ?_); rintro e w6 ⟨v102, rfl, ho0, hb⟩; refine ⟨_, rfl, ?_⟩; have n0_ := Aside0.mk (Kd.R_lower ho0 (below_size (by repeat (first | (with_reducible first | exact HB.out | apply below_alloc | apply pw_below_drewN | apply below_drew1) | exact HB.out)))); have n1_ := Aside0.mk (below_step (by repeat (first | (with_reducible first | exact HB.out | apply below_alloc | apply pw_below_drewN | apply below_drew1) | exact HB.out)) hb); clear HB; have HO103 := n0_; have HB := n1_; clear n0_ n1_; (try clear hb); (try clear hb2); (try clear hk); (try clear hi); (try clear ho0); obtain ⟨Ao7, co7, eo7⟩ := Kd.R_slice HO103.out; subst eo7; have p104 : 0 ≤ (a1 : Int) := of_decide_eq_true (by first | (with_reducible assumption) | assumption); have q104 : a1 < (t101.length : Int) := of_decide_eq_true (by first | (with_reducible assumption) | assumption); obtain ⟨ad104, e104, hx104_0⟩ := Kd.at_int (Kd.R_reads' HO103.out).2.2 a1 p104 q104; cases e104; replace p104 := eq_true p104; replace q104 := eq_true q104))
      go_ret
      exact ⟨by first | rfl | (simp [errW_none, errW_some] <;> rfl) | (simp [*, errW_none, errW_some] <;> rfl), by repeat (first | (with_reducible first | exact HB.out | apply below_alloc | apply pw_below_drewN | apply below_drew1) | exact HB.out)⟩
    · rw [if_neg c5] at H
      exact absurd H (by simp)
  · rw [if_neg c4] at H
    exact absurd H (by simp)
/-! ### spec_l06Index: function 130 -/
mutual
def spec_l06Index.l0 : Nat → List Int → Int → Int → Int → Option (Int)
  | 0, _, _, _, _ => none
  | k + 1, x0, x3, x4, x5 => if x5 < 3 then (if 0 ≤ x5 then (if x5 < (x0.length : Int) then (spec_l06Index.l1 k x0 x3 x4 x5 (rd x0 x5) 0) else (none)) else (none)) else (some x3)
def spec_l06Index.l1 : Nat → List Int → Int → Int → Int → Int → Int → Option (Int)
  | 0, _, _, _, _, _, _ => none
  | k + 1, x0, x3, x4, x5, x6, x7 => if x7 < x5 then (if 0 ≤ x7 then (if x7 < (x0.length : Int) then (if 0 ≤ x5 then (if x5 < (x0.length : Int) then (if (rd x0 x7) < (rd x0 x5) then (spec_l06Index.l1 k x0 x3 x4 x5 (wrap64 (x6 - 1)) (wrap64 (x7 + 1))) else (spec_l06Index.l1 k x0 x3 x4 x5 x6 (wrap64 (x7 + 1)))) else (none)) else (none)) else (none)) else (none)) else (if (wrap64 (3 - x5)) = 0 then (none) else (spec_l06Index.l0 k x0 (wrap64 (x3 + (wrap64 (x4 * x6)))) (wrap64 (Int.tdiv x4 (wrap64 (3 - x5)))) (wrap64 (x5 + 1))))
end
def spec_l06Index.f (k : Nat) (l0 : List Int) : Option (Int) := spec_l06Index.l0 k l0 0 6 0
theorem spec_l06Index.mono_l : ∀ k, (∀ y0 y1 y2 y3, LeO (spec_l06Index.l0 k y0 y1 y2 y3) (spec_l06Index.l0 (k + 1) y0 y1 y2 y3)) ∧ (∀ y0 y1 y2 y3 y4 y5, LeO (spec_l06Index.l1 k y0 y1 y2 y3 y4 y5) (spec_l06Index.l1 (k + 1) y0 y1 y2 y3 y4 y5))
  | 0 => ⟨fun _ _ _ _ r h => by simp [spec_l06Index.l0] at h, fun _ _ _ _ _ _ r h => by simp [spec_l06Index.l1] at h⟩
  | k + 1 => by
    obtain ⟨ih0, ih1⟩ := spec_l06Index.mono_l k
    refine ⟨?_, ?_⟩
    · intro y0 y1 y2 y3
      unfold spec_l06Index.l0
      repeat' first
      | (with_reducible exact ih0 _ _ _ _)
      | (with_reducible exact ih1 _ _ _ _ _ _)
      | (with_reducible exact LeO.refl _)
      | (with_reducible exact LeO.none _)
      | (with_reducible refine LeO.ite ?_ ?_)
      | (with_reducible refine LeO.bind ?_ (fun _ => ?_))
      | exact ih0 _ _ _ _
      | exact ih1 _ _ _ _ _ _
      | exact LeO.none _
      | refine LeO.ite ?_ ?_
      | refine LeO.bind ?_ (fun _ => ?_)
    · intro y0 y1 y2 y3 y4 y5
      unfold spec_l06Index.l1
      repeat' first
      | (with_reducible exact ih0 _ _ _ _)
      | (with_reducible exact ih1 _ _ _ _ _ _)
      | (with_reducible exact LeO.refl _)
      | (with_reducible exact LeO.none _)
      | (with_reducible refine LeO.ite ?_ ?_)
      | (with_reducible refine LeO.bind ?_ (fun _ => ?_))
      | exact ih0 _ _ _ _
      | exact ih1 _ _ _ _ _ _
      | exact LeO.none _
      | refine LeO.ite ?_ ?_
      | refine LeO.bind ?_ (fun _ => ?_)
theorem spec_l06Index.mono : ∀ a0 k, LeO (spec_l06Index.f k a0) (spec_l06Index.f (k + 1) a0) := by
  intro a0 k
  obtain ⟨ih0, ih1⟩ := spec_l06Index.mono_l k
  unfold spec_l06Index.f
  repeat' first
      | (with_reducible exact ih0 _ _ _ _)
      | (with_reducible exact ih1 _ _ _ _ _ _)
      | (with_reducible exact LeO.refl _)
      | (with_reducible exact LeO.none _)
      | (with_reducible refine LeO.ite ?_ ?_)
      | (with_reducible refine LeO.bind ?_ (fun _ => ?_))
      | exact ih0 _ _ _ _
      | exact ih1 _ _ _ _ _ _
      | exact LeO.none _
      | refine LeO.ite ?_ ?_
      | refine LeO.bind ?_ (fun _ => ?_)
set_option maxHeartbeats 8000000 in
set_option maxRecDepth 100000 in
theorem spec_l06Index.calls (k : Nat) (A0 : Option Addr) (c0 : Nat) (l0 : List Int) (r : Int) (w : World) (hr0 : Kd.C (Kd.int .i64) w A0 l0.length l0) (hc0 : l0.length ≤ c0) (h : spec_l06Index.f k l0 = some r) :
    Calls Try.prog 130 #[.slice A0 l0.length c0] w fun e w' => e = .returned (.int .i64 r) ∧ Drawn0 w w' := by
  have HR0 := Aside0.mk hr0
  have HC0 := Aside0.mk hc0
  clear hr0 hc0
  have H : (spec_l06Index.l0 k l0 0 6 0) = some r := h
  clear h
  have H' := Aside0.mk H
  clear H
  go_enter Try.func130, Try.ntmps130
  go_wp2
  repeat (go_quiet (fail); try go_wp2)
  go_loopg [3, 4, 5] k (fun kq v3 v4 v5 w' => ∃ (x3_1 : Int) (x4_1 : Int) (x5_1 : Int), v3 = .int .i64 x3_1 ∧ v4 = .int .i64 x4_1 ∧ v5 = .int .i64 x5_1 ∧ Aside0 (spec_l06Index.l0 kq l0 x3_1 x4_1 x5_1 = some r) ∧ Aside0 (kq ≤ k) ∧ Drawn0 w w')
  case atStart => exact ⟨(0), (6), (0), (by first | rfl | (simp; done) | (simp [*]; done)), (by first | rfl | (simp; done) | (simp [*]; done)), (by first | rfl | (simp; done) | (simp [*]; done)), H', ⟨yoy _⟩, by repeat (first | exact Drawn0.refl _ | apply Drawn0.step)⟩
  case round =>
    clear H'
    try clear c1
    obtain ⟨x3_1, x4_1, x5_1, rfl, rfl, rfl, HA, HK1, ⟨m1, rfl⟩⟩ := hrel
    cases gk with
    | zero => exact absurd HA.out (by simp [spec_l06Index.l0])
    | succ k1 =>
      have H := HA.out
      clear HA
      simp only [spec_l06Index.l0] at H
      by_cases c2 : x5_1 < 3
      · rw [if_pos c2] at H
        have c2b0 : decide (x5_1 < 3) = true := ygy c2
        clear c2
        by_cases c3 : 0 ≤ x5_1
        · rw [if_pos c3] at H
          have c3b0 : decide (0 ≤ x5_1) = true := ygy c3
          clear c3
          by_cases c4 : x5_1 < (l0.length : Int)
          · rw [if_pos c4] at H
            have c4b0 : decide (x5_1 < (l0.length : Int)) = true := ygy c4
            clear c4
            have H' := Aside0.mk H
            clear H
            have p101 : 0 ≤ (x5_1 : Int) := of_decide_eq_true (by first | (with_reducible assumption) | assumption)
            have q101 : x5_1 < (l0.length : Int) := of_decide_eq_true (by first | (with_reducible assumption) | assumption)
            obtain ⟨ad101, e101, hx101_0⟩ := Kd.at_int HR0.out x5_1 p101 q101
            cases e101
            replace p101 := eq_true p101
            replace q101 := eq_true q101
            go_wp2
            repeat (go_quiet (fail); try go_wp2)
            go_loopg [6, 7] k1 (fun kq v6 v7 w' => ∃ (x6_2 : Int) (x7_2 : Int), v6 = .int .i64 x6_2 ∧ v7 = .int .i64 x7_2 ∧ Aside0 (spec_l06Index.l1 kq l0 x3_1 x4_1 x5_1 x6_2 x7_2 = some r) ∧ Aside0 (kq ≤ k1) ∧ Drawn0 w w')
            case atStart => exact ⟨(rd l0 x5_1), (0), (by first | rfl | (simp; done) | (simp [*]; done)), (by first | rfl | (simp; done) | (simp [*]; done)), H', ⟨yoy _⟩, by repeat (first | exact Drawn0.refl _ | apply Drawn0.step)⟩
            case round =>
              clear H'
              try clear c1
              try clear p1
              try clear q1
              try clear hx1
              try clear c2
              try clear c2b0
              try clear p2
              try clear c3
              try clear c3b0
              try clear c4
              try clear c4b0
              try clear hx101_0
              try clear p101
              try clear q101
              obtain ⟨x6_2, x7_2, rfl, rfl, HA, HK2, ⟨m2, rfl⟩⟩ := hrel
              cases gk with
              | zero => exact absurd HA.out (by simp [spec_l06Index.l1])
              | succ k2 =>
                have H := HA.out
                clear HA
                simp only [spec_l06Index.l1] at H
                by_cases c5 : x7_2 < x5_1
                · rw [if_pos c5] at H
                  have c5b0 : decide (x7_2 < x5_1) = true := ygy c5
                  clear c5
                  by_cases c6 : 0 ≤ x7_2
                  · rw [if_pos c6] at H
                    have c6b0 : decide (0 ≤ x7_2) = true := ygy c6
                    clear c6
                    by_cases c7 : x7_2 < (l0.length : Int)
                    · rw [if_pos c7] at H
                      have c7b0 : decide (x7_2 < (l0.length : Int)) = true := ygy c7
                      clear c7
                      by_cases c8 : 0 ≤ x5_1
                      · rw [if_pos c8] at H
                        have c8b0 : decide (0 ≤ x5_1) = true := ygy c8
                        clear c8
                        by_cases c9 : x5_1 < (l0.length : Int)
                        · rw [if_pos c9] at H
                          have c9b0 : decide (x5_1 < (l0.length : Int)) = true := ygy c9
                          clear c9
                          by_cases c10 : (rd l0 x7_2) < (rd l0 x5_1)
                          · rw [if_pos c10] at H
                            have c10b0 : decide ((rd l0 x7_2) < (rd l0 x5_1)) = true := ygy c10
                            clear c10
                            have H' := Aside0.mk H
                            clear H
                            have p102 : 0 ≤ (x7_2 : Int) := of_decide_eq_true (by first | (with_reducible assumption) | assumption)
                            have q102 : x7_2 < (l0.length : Int) := of_decide_eq_true (by first | (with_reducible assumption) | assumption)
                            obtain ⟨ad102, e102, hx102_0⟩ := Kd.at_int HR0.out x7_2 p102 q102
                            obtain rfl : ad101 = ad102 := (by injection e102)
                            replace p102 := eq_true p102
                            replace q102 := eq_true q102
                            have p103 : 0 ≤ (x5_1 : Int) := of_decide_eq_true (by first | (with_reducible assumption) | assumption)
                            have q103 : x5_1 < (l0.length : Int) := of_decide_eq_true (by first | (with_reducible assumption) | assumption)
                            obtain ⟨ad103, e103, hx103_0⟩ := Kd.at_int HR0.out x5_1 p103 q103
                            obtain rfl : ad101 = ad103 := (by injection e103)
                            replace p103 := eq_true p103
                            replace q103 := eq_true q103
                            go_wp2
                            repeat (go_quiet (fail); try go_wp2)
                            go_roundg k2
                            case measure => have := HK1.out; have := HK2.out; omega
                            case rel => exact ⟨(wrap64 (x6_2 - 1)), (wrap64 (x7_2 + 1)), (by first | rfl | (simp; done) | (simp [*]; done)), (by first | rfl | (simp; done) | (simp [*]; done)), H', ⟨by have := HK1.out; have := HK2.out; omega⟩, by repeat (first | exact Drawn0.refl _ | apply Drawn0.step)⟩
                          · rw [if_neg c10] at H
                            have c10b0 : decide ((rd l0 x7_2) < (rd l0 x5_1)) = false := yhy c10
                            clear c10
                            have H' := Aside0.mk H
                            clear H
                            have p102 : 0 ≤ (x7_2 : Int) := of_decide_eq_true (by first | (with_reducible assumption) | assumption)
                            have q102 : x7_2 < (l0.length : Int) := of_decide_eq_true (by first | (with_reducible assumption) | assumption)
                            obtain ⟨ad102, e102, hx102_0⟩ := Kd.at_int HR0.out x7_2 p102 q102
                            obtain rfl : ad101 = ad102 := (by injection e102)
                            replace p102 := eq_true p102
                            replace q102 := eq_true q102
                            have p103 : 0 ≤ (x5_1 : Int) := of_decide_eq_true (by first | (with_reducible assumption) | assumption)
                            have q103 : x5_1 < (l0.length : Int) := of_decide_eq_true (by first | (with_reducible assumption) | assumption)
                            obtain ⟨ad103, e103, hx103_0⟩ := Kd.at_int HR0.out x5_1 p103 q103
                            obtain rfl : ad101 = ad103 := (by injection e103)
                            replace p103 := eq_true p103
                            replace q103 := eq_true q103
                            go_wp2
                            repeat (go_quiet (fail); try go_wp2)
                            go_roundg k2
                            case measure => have := HK1.out; have := HK2.out; omega
                            case rel => exact ⟨(x6_2), (wrap64 (x7_2 + 1)), (by first | rfl | (simp; done) | (simp [*]; done)), (by first | rfl | (simp; done) | (simp [*]; done)), H', ⟨by have := HK1.out; have := HK2.out; omega⟩, by repeat (first | exact Drawn0.refl _ | apply Drawn0.step)⟩
                        · rw [if_neg c9] at H
                          exact absurd H (by simp)
                      · rw [if_neg c8] at H
                        exact absurd H (by simp)
                    · rw [if_neg c7] at H
                      exact absurd H (by simp)
                  · rw [if_neg c6] at H
                    exact absurd H (by simp)
                · rw [if_neg c5] at H
                  have c5b0 : decide (x7_2 < x5_1) = false := yhy c5
                  clear c5
                  by_cases c11 : (wrap64 (3 - x5_1)) = 0
                  · rw [if_pos c11] at H
                    exact absurd H (by simp)
                  · rw [if_neg c11] at H
                    have c11b0 : ((wrap64 (3 - x5_1)) == 0) = false := beq_eq_false_iff_ne.mpr c11
                    have c11b1 : ((wrap64 (3 - x5_1)) != 0) = true := bne_iff_ne.mpr c11
                    have H' := Aside0.mk H
                    clear H
                    go_wp2
                    repeat (go_quiet (fail); try go_wp2)
                    go_roundg k2
                    case measure => have := HK1.out; have := HK2.out; omega
                    case rel => exact ⟨(wrap64 (x3_1 + (wrap64 (x4_1 * x6_2)))), (wrap64 (Int.tdiv x4_1 (wrap64 (3 - x5_1)))), (wrap64 (x5_1 + 1)), (by first | rfl | (simp; done) | (simp [*]; done)), (by first | rfl | (simp; done) | (simp [*]; done)), (by first | rfl | (simp; done) | (simp [*]; done)), H', ⟨by have := HK1.out; have := HK2.out; omega⟩, by repeat (first | exact Drawn0.refl _ | apply Drawn0.step)⟩
          · rw [if_neg c4] at H
            exact absurd H (by simp)
        · rw [if_neg c3] at H
          exact absurd H (by simp)
      · rw [if_neg c2] at H
        have c2b0 : decide (x5_1 < 3) = false := yhy c2
        clear c2
        obtain rfl := yey H
        go_wp2
        repeat (go_quiet (fail); try go_wp2)
        go_ret
        exact ⟨by first | rfl | (simp; done) | (simp [*]; done), by repeat (first | exact Drawn0.refl _ | apply Drawn0.step)⟩
/-! ### spec_l06Back: function 96 -/
def spec_l06Back.l0 : Nat → List Int → List Int → Int → Option (Int)
  | 0, _, _, _ => none
  | k + 1, x3, x4, x5 => if x5 < 4 then (if 0 ≤ x5 then (if x5 < (x3.length : Int) then (if 0 ≤ (rd x3 x5) then (if (rd x3 x5) < (x4.length : Int) then (spec_l06Back.l0 k x3 (x4.set ((rd x3 x5) : Int).toNat x5) (wrap64 (x5 + 1))) else (none)) else (none)) else (none)) else (none)) else ((spec_l06Index.f k x4).bind fun t109 => (some t109))
def spec_l06Back.f (k : Nat) (a0 : Int) : Option (Int) := (spec_l06Images.f k a0).bind fun t101 => (spec_l06Back.l0 k t101 (([0, 0, 0, 0] : List Int)) 0)
theorem spec_l06Back.mono_l : ∀ k, (∀ y0 y1 y2, LeO (spec_l06Back.l0 k y0 y1 y2) (spec_l06Back.l0 (k + 1) y0 y1 y2))
  | 0 => fun _ _ _ r h => by simp [spec_l06Back.l0] at h
  | k + 1 => by
    have ih0 := spec_l06Back.mono_l k
    · intro y0 y1 y2
      unfold spec_l06Back.l0
      repeat' first
      | (with_reducible exact ih0 _ _ _)
      | (with_reducible exact spec_l06Images.mono _ _)
      | (with_reducible exact spec_l06Index.mono _ _)
      | (with_reducible exact LeO.refl _)
      | (with_reducible exact LeO.none _)
      | (with_reducible refine LeO.ite ?_ ?_)
      | (with_reducible refine LeO.bind ?_ (fun _ => ?_))
      | exact ih0 _ _ _
      | exact spec_l06Images.mono _ _
      | exact spec_l06Index.mono _ _
      | exact LeO.none _
      | refine LeO.ite ?_ ?_
      | refine LeO.bind ?_ (fun _ => ?_)
theorem spec_l06Back.mono : ∀ a0 k, LeO (spec_l06Back.f k a0) (spec_l06Back.f (k + 1) a0) := by
  intro a0 k
  have ih0 := spec_l06Back.mono_l k
  unfold spec_l06Back.f
  repeat' first
      | (with_reducible exact ih0 _ _ _)
      | (with_reducible exact spec_l06Images.mono _ _)
      | (with_reducible exact spec_l06Index.mono _ _)
      | (with_reducible exact LeO.refl _)
      | (with_reducible exact LeO.none _)
      | (with_reducible refine LeO.ite ?_ ?_)
      | (with_reducible refine LeO.bind ?_ (fun _ => ?_))
      | exact ih0 _ _ _
      | exact spec_l06Images.mono _ _
      | exact spec_l06Index.mono _ _
      | exact LeO.none _
      | refine LeO.ite ?_ ?_
      | refine LeO.bind ?_ (fun _ => ?_)
set_option maxHeartbeats 8000000 in
set_option maxRecDepth 100000 in
theorem spec_l06Back.calls (k : Nat) (a0 : Int) (r : Int) (w : World) (h : spec_l06Back.f k a0 = some r) :
    Calls Try.prog 96 #[.int .i64 a0] w fun e w' => e = .returned (.int .i64 r) ∧ Below w.heap.size w w' := by
  have HB := Aside0.mk (Below.refl w.heap.size w)
  have H : ((spec_l06Images.f k a0).bind fun t101 => (spec_l06Back.l0 k t101 (([0, 0, 0, 0] : List Int)) 0)) = some r := h
  clear h
  replace H := ydy.mp H
  obtain ⟨t101, A20, H⟩ := H
  replace H : (spec_l06Back.l0 k t101 (([0, 0, 0, 0] : List Int)) 0) = some r := H
  have A2 := Aside0.mk A20
  clear A20
  obtain ⟨y104, hy104⟩ : ∃ y_ : List Int, y_ = (([0, 0, 0, 0] : List Int)) := ⟨_, rfl⟩
  replace H : (spec_l06Back.l0 k t101 y104 0) = some r := by first | (rw [hy104]; with_reducible exact H) | (have H2_ := (yfy _ _).symm.trans H; rw [hy104]; with_reducible exact H2_) | (have H2_ := (yfy _ _).symm.trans H; with_reducible exact H2_) | with_reducible exact H | (rw [hy104]; exact H) | exact H
  have Ny104 := Aside0.mk hy104
  clear hy104
  have H' := Aside0.mk H
  clear H
  go_enter Try.func96, Try.ntmps96
  go_wp2_with (first | ((with_reducible refine gate_callee (f := 76) rfl ?_); refine goesL_ (some 7) rfl rfl Try.func76 (by kernel_rfl) rfl #[.int .i64 a0] rfl (by (try simp only [yiy, yjy, yky]); first | done | rfl | (simp only [yly, ymy]; rfl)) ?_; (with_reducible refine (spec_l06Images.calls k a0 t101 _ A2.out).mono ?_); rintro e w3 ⟨v102, rfl, ho0, hb⟩; refine ⟨_, rfl, ?_⟩; have n0_ := Aside0.mk (Kd.R_lower ho0 (below_size (by repeat (first | (with_reducible first | exact HB.out | apply below_alloc | apply pw_below_drewN | apply below_drew1) | exact HB.out)))); have n1_ := Aside0.mk (below_step (by repeat (first | (with_reducible first | exact HB.out | apply below_alloc | apply pw_below_drewN | apply below_drew1) | exact HB.out)) hb); clear HB; have HO103 := n0_; have HB := n1_; clear n0_ n1_; (try clear hb); (try clear hb2); (try clear hk); (try clear hi); (try clear ho0)) | ((with_reducible refine gate_dst (N := 8) rfl ?_); refine Kd.R_lit (Kd.int .i64) _ 2 ?hg (N := 8) ?hd (xs := ([0, 0, 0, 0] : List Int)) (inner := [.int .i64 0, .int .i64 0, .int .i64 0, .int .i64 0]) (ok := fun _ => True) (okp := fun _ => True) ?hr ?hp (fun _ hk => hk) trivial (Below.refl _ _) (yoy _) (by simp) ?_; (case hd => rfl); (case hg => rfl); (case hr => first | (go_simp; done) | (go_simp; rfl)); (case hp => exact (Reps.one (show Kd.M (Kd.int .i64) _ _ _ 0 [.int .i64 0] from rfl) (Reps.one (show Kd.M (Kd.int .i64) _ _ _ 0 [.int .i64 0] from rfl) (Reps.one (show Kd.M (Kd.int .i64) _ _ _ 0 [.int .i64 0] from rfl) (Reps.one (show Kd.M (Kd.int .i64) _ _ _ 0 [.int .i64 0] from rfl) (Reps.none _ _)))))); intro v105 w4 ho5 hb hg_ hnew_; clear hg_ hnew_; (first | rw [← Ny104.out] at ho5 | (simp only [Int.reduceToNat] at ho5; rw [← Ny104.out] at ho5)); have n0_ := Aside0.mk (Kd.R_elder' (by (with_reducible repeat (first | apply Kd.R_alloc | apply Kd.R_drewN | apply Kd.R_drew)); exact HO103.out) (Kd.R_base ho5) hb); have n1_ := Aside0.mk (Kd.R_lower (Kd.R_new' ho5 (Kd.R_lt (by (with_reducible repeat (first | apply Kd.R_alloc | apply Kd.R_drewN | apply Kd.R_drew)); exact HO103.out))) (below_size (by repeat (first | (with_reducible first | exact HB.out | apply below_alloc | apply pw_below_drewN | apply below_drew1) | exact HB.out)))); have n2_ := Aside0.mk (below_step (by repeat (first | (with_reducible first | exact HB.out | apply below_alloc | apply pw_below_drewN | apply below_drew1) | exact HB.out)) hb); clear HO103; clear HB; have HO103 := n0_; have HO106 := n1_; have HB := n2_; clear n0_ n1_ n2_; clear hb ho5))
  go_loopg [5] k (fun kq v5 w' => ∃ (x4_1 : List Int) (x5_1 : Int), v5 = .int .i64 x5_1 ∧ Aside0 (spec_l06Back.l0 kq t101 x4_1 x5_1 = some r) ∧ Aside0 (kq ≤ k) ∧ Aside0 (Kd.R (Kd.int .i64) 2 w' w.heap.size (fun k_ => some k_ ≠ (v105 : Value).ownBlock) v102 t101) ∧ Aside0 (Kd.R (Kd.int .i64) 2 w' w.heap.size (fun k_ => some k_ ≠ (v102 : Value).ownBlock) v105 x4_1) ∧ Aside0 (Below w.heap.size w w'))
  case atStart => exact ⟨(y104), (0), (by first | rfl | (simp; done) | (simp [*]; done)), H', ⟨yoy _⟩, ⟨by (with_reducible repeat (first | apply Kd.R_alloc | apply Kd.R_drewN | apply Kd.R_drew)); exact Kd.R_mono HO103.out (fun _ hk => hk.2)⟩, ⟨by (with_reducible repeat (first | apply Kd.R_alloc | apply Kd.R_drewN | apply Kd.R_drew)); exact Kd.R_mono HO106.out (fun _ hk => hk.2)⟩, ⟨by repeat (first | (with_reducible first | exact HB.out | apply below_alloc | apply pw_below_drewN | apply below_drew1) | exact HB.out)⟩⟩
  case round =>
    clear H'
    try clear p2
    obtain ⟨x4_1, x5_1, rfl, HA, HK1, HO_3, HO_4, HB⟩ := hrel
    cases gk with
    | zero => exact absurd HA.out (by simp [spec_l06Back.l0])
    | succ k1 =>
      have H := HA.out
      clear HA
      simp only [spec_l06Back.l0] at H
      by_cases c6 : x5_1 < 4
      · rw [if_pos c6] at H
        have c6b0 : decide (x5_1 < 4) = true := ygy c6
        clear c6
        by_cases c7 : 0 ≤ x5_1
        · rw [if_pos c7] at H
          have c7b0 : decide (0 ≤ x5_1) = true := ygy c7
          clear c7
          by_cases c8 : x5_1 < (t101.length : Int)
          · rw [if_pos c8] at H
            have c8b0 : decide (x5_1 < (t101.length : Int)) = true := ygy c8
            clear c8
            by_cases c9 : 0 ≤ (rd t101 x5_1)
            · rw [if_pos c9] at H
              have c9b0 : decide (0 ≤ (rd t101 x5_1)) = true := ygy c9
              clear c9
              by_cases c10 : (rd t101 x5_1) < (x4_1.length : Int)
              · rw [if_pos c10] at H
                have c10b0 : decide ((rd t101 x5_1) < (x4_1.length : Int)) = true := ygy c10
                clear c10
                obtain ⟨y108, hy108⟩ : ∃ y_ : List Int, y_ = (x4_1.set ((rd t101 x5_1) : Int).toNat x5_1) := ⟨_, rfl⟩
                replace H : (spec_l06Back.l0 k1 t101 y108 (wrap64 (x5_1 + 1))) = some r := by first | (rw [hy108]; with_reducible exact H) | (have H2_ := (yfy _ _).symm.trans H; rw [hy108]; with_reducible exact H2_) | (have H2_ := (yfy _ _).symm.trans H; with_reducible exact H2_) | with_reducible exact H | (rw [hy108]; exact H) | exact H
                have Ny108 := Aside0.mk hy108
                clear hy108
                have H' := Aside0.mk H
                clear H
                obtain ⟨Ao12, co12, eo12⟩ := Kd.R_slice HO_3.out
                subst eo12
                have p107 : 0 ≤ (x5_1 : Int) := of_decide_eq_true (by first | (with_reducible assumption) | assumption)
                have q107 : x5_1 < (t101.length : Int) := of_decide_eq_true (by first | (with_reducible assumption) | assumption)
                obtain ⟨ad107, e107, hx107_0⟩ := Kd.at_int (Kd.R_reads' HO_3.out).2.2 x5_1 p107 q107
                cases e107
                replace p107 := eq_true p107
                replace q107 := eq_true q107
                have p11 : 0 ≤ ((rd t101 x5_1) : Int) := of_decide_eq_true (by first | (with_reducible assumption) | assumption)
                have q11 : ((rd t101 x5_1) : Int) < ((x4_1.length : Int) : Int) := of_decide_eq_true (by first | (with_reducible assumption) | assumption)
                obtain ⟨go11, co11, eo11, gb11, gl11, cl11, HG11⟩ := Kd.R_form HO_4.out (by omega)
                (first | cases eo11 | (injection eo11 with ea_ en_ ec_; (first | subst ea_ | (injection ea_ with ea_; subst ea_)); subst ec_; clear en_))
                have GB11 := Aside0.mk gb11
                have GG11 := Aside0.mk HG11
                clear gb11 gl11 HG11
                obtain ⟨hx11_0, hf11_0⟩ := Kd.R_celln 0 HO_4.out ((rd t101 x5_1) : Int) p11 q11
                replace p11 := eq_true p11
                replace q11 := eq_true q11
                have HP13 := Kd.R_putg HO_4.out ((rd t101 x5_1) : Int) x5_1
                go_wp2_with (first | ((with_reducible refine gate_store (t := 2) (p := 19) rfl ?_); refine store_event (t := 2) (p := 19) (v := ?vo_w14) (w1 := (wr.setCell ⟨go11, ((rd t101 x5_1) : Int).toNat, none⟩ (.int .i64 x5_1))) ?hg ?ho ?hn ?hr ?_; (case ho => rfl); (case hg => rfl); (case hn => rfl); (case hr => first | (go_simp; done) | (go_simp; rfl)); intro w14 hw; have hg : wr.grownBy w14 (some go11) := (by rw [hw]; exact HP13.2); have hp_ : Kd.R (Kd.int .i64) 2 w14 w.heap.size (fun k_ => some k_ ≠ (.slice (some ad107) t101.length co12 : Value).ownBlock) (.slice (some ⟨go11, 0, none⟩) x4_1.length co11) y108 := (by rw [hw, Ny108.out]; exact HP13.1); clear HP13; have n0_ := Aside0.mk (Kd.R_after (v := (.slice (some ⟨go11, 0, none⟩) x4_1.length co11)) (v1 := (.slice (some ⟨go11, 0, none⟩) x4_1.length co11)) (ok := (fun _ => True)) (by (with_reducible repeat (first | apply Kd.R_alloc | apply Kd.R_drewN | apply Kd.R_drew)); exact Kd.R_mono HO_3.out (fun _ hk => ⟨trivial, hk⟩)) hg (.inl rfl)); have n1_ := Aside0.mk (hp_); have n2_ := Aside0.mk ((by rw [hw]; exact below_set (HB.out) GB11.out : Below w.heap.size w w14)); clear HO_3; clear HO_4; clear HB; have HO_3 := n0_; have HO_4 := n1_; have HB := n2_; clear n0_ n1_ n2_; clear hg hw hp_))
                go_roundg k1
                case measure => have := HK1.out; omega
                case rel => exact ⟨(y108), (wrap64 (x5_1 + 1)), (by first | rfl | (simp; done) | (simp [*]; done)), H', ⟨by have := HK1.out; omega⟩, ⟨by (with_reducible repeat (first | apply Kd.R_alloc | apply Kd.R_drewN | apply Kd.R_drew)); exact Kd.R_mono HO_3.out (fun _ hk => hk.2)⟩, ⟨by (with_reducible repeat (first | apply Kd.R_alloc | apply Kd.R_drewN | apply Kd.R_drew)); exact HO_4.out⟩, ⟨by repeat (first | (with_reducible first | exact HB.out | apply below_alloc | apply pw_below_drewN | apply below_drew1) | exact HB.out)⟩⟩
              · rw [if_neg c10] at H
                exact absurd H (by simp)
            · rw [if_neg c9] at H
              exact absurd H (by simp)
          · rw [if_neg c8] at H
            exact absurd H (by simp)
        · rw [if_neg c7] at H
          exact absurd H (by simp)
      · rw [if_neg c6] at H
        have c6b0 : decide (x5_1 < 4) = false := yhy c6
        clear c6
        replace H := ydy.mp H
        obtain ⟨t109, A150, H⟩ := H
        replace H : (some t109) = some r := H
        have A15 := Aside0.mk A150
        clear A150
        obtain rfl := yey H
        obtain ⟨Ao16, co16, eo16⟩ := Kd.R_slice HO_4.out
        subst eo16
        go_wp2_with (first | ((with_reducible refine gate_callee (f := 130) rfl ?_); refine goesL_ (some 21) rfl rfl Try.func130 (by kernel_rfl) rfl #[.slice Ao16 x4_1.length co16] rfl (by (try simp only [yiy, yjy, yky]); first | done | rfl | (simp only [yly, ymy]; rfl)) ?_; (with_reducible refine (spec_l06Index.calls k1 _ _ x4_1 t109 _ ?side1 ?side2 A15.out).mono ?_); (case side1 => repeat (first | exact (Kd.R_reads' HO_4.out).2.2 | (with_reducible refine Kd.C_alloc ?_ _) | (with_reducible refine Kd.C_drewN ?_ _) | (with_reducible refine Kd.C_drew ?_))); (case side2 => exact (Kd.R_reads' HO_4.out).2.1); rintro e w' ⟨rfl, ⟨nd, rfl⟩⟩; refine ⟨_, rfl, ?_⟩))
        go_ret
        exact ⟨by first | rfl | (simp [errW_none, errW_some] <;> rfl) | (simp [*, errW_none, errW_some] <;> rfl), by repeat (first | (with_reducible first | exact HB.out | apply below_alloc | apply pw_below_drewN | apply below_drew1) | exact HB.out)⟩
/-! ### spec_l06Valid: function 95 -/
def spec_l06Valid.f (a0 : Int) : Option (Bool) := if a0 ≥ 0 then (some (decide (a0 < 24))) else (some false)
set_option maxHeartbeats 8000000 in
set_option maxRecDepth 100000 in
theorem spec_l06Valid.calls (a0 : Int) (r : Bool) (w : World) (h : spec_l06Valid.f a0 = some r) :
    Calls Try.prog 95 #[.int .i64 a0] w fun e w' => e = .returned (.bool r) ∧ Drawn0 w w' := by
  have H : (if a0 ≥ 0 then (some (decide (a0 < 24))) else (some false)) = some r := h
  clear h
  by_cases c2 : a0 ≥ 0
  · rw [if_pos c2] at H
    have c2b0 : decide (0 ≤ a0) = true := ygy c2
    clear c2
    obtain rfl := yey H
    go_enter Try.func95, Try.ntmps95
    go_wp2
    go_ret
    exact ⟨by first | rfl | (simp; done) | (simp [*]; done), by repeat (first | exact Drawn0.refl _ | apply Drawn0.step)⟩
  · rw [if_neg c2] at H
    have c2b0 : decide (0 ≤ a0) = false := yhy c2
    clear c2
    obtain rfl := yey H
    go_enter Try.func95, Try.ntmps95
    go_wp2
    go_ret
    exact ⟨by first | rfl | (simp; done) | (simp [*]; done), by repeat (first | exact Drawn0.refl _ | apply Drawn0.step)⟩
/-! ### spec_l07In: function 48 -/
def spec_l07In.f (a0 : Int) (a1 : Int) (a2 : Int) : Option (Bool) := if a0 ≥ a1 then (some (decide (a0 ≤ a2))) else (some false)
set_option maxHeartbeats 8000000 in
set_option maxRecDepth 100000 in
theorem spec_l07In.calls (a0 : Int) (a1 : Int) (a2 : Int) (r : Bool) (w : World) (h : spec_l07In.f a0 a1 a2 = some r) :
    Calls Try.prog 48 #[.int .i64 a0, .int .i64 a1, .int .i64 a2] w fun e w' => e = .returned (.bool r) ∧ Drawn0 w w' := by
  have H : (if a0 ≥ a1 then (some (decide (a0 ≤ a2))) else (some false)) = some r := h
  clear h
  by_cases c4 : a0 ≥ a1
  · rw [if_pos c4] at H
    have c4b0 : decide (a1 ≤ a0) = true := ygy c4
    clear c4
    obtain rfl := yey H
    go_enter Try.func48, Try.ntmps48
    go_wp2
    go_ret
    exact ⟨by first | rfl | (simp; done) | (simp [*]; done), by repeat (first | exact Drawn0.refl _ | apply Drawn0.step)⟩
  · rw [if_neg c4] at H
    have c4b0 : decide (a1 ≤ a0) = false := yhy c4
    clear c4
    obtain rfl := yey H
    go_enter Try.func48, Try.ntmps48
    go_wp2
    go_ret
    exact ⟨by first | rfl | (simp; done) | (simp [*]; done), by repeat (first | exact Drawn0.refl _ | apply Drawn0.step)⟩
/-! ### spec_l07Tets: function 34 -/
def spec_l07Tets.f (l0_0 : List (List (SFace))) : Option (Int) := some (l0_0.length : Int)
set_option maxHeartbeats 8000000 in
set_option maxRecDepth 100000 in
theorem spec_l07Tets.calls (A0_0 : Option Addr) (c0_0 : Nat) (l0_0 : List (List (SFace))) (r : Int) (w : World) (hr0_0 : Kd.C (Kd.slice 59 kFace) w A0_0 l0_0.length l0_0) (hc0_0 : l0_0.length ≤ c0_0) (h : spec_l07Tets.f l0_0 = some r) :
    Calls Try.prog 34 #[.agg #[.slice A0_0 l0_0.length c0_0]] w fun e w' => e = .returned (.int .i64 r) ∧ Below w.heap.size w w' := by
  have hu30 := Try.underlying30
  have HR0_0 := Aside0.mk hr0_0
  have HC0_0 := Aside0.mk hc0_0
  clear hr0_0 hc0_0
  have HB := Aside0.mk (Below.refl w.heap.size w)
  have H : (some (l0_0.length : Int)) = some r := h
  clear h
  obtain rfl := yey H
  go_enter Try.func34, Try.ntmps34
  go_wp2_with (first | ((with_reducible refine gate_dst (N := 1) rfl ?_); refine box_event ?hg (N := 1) ?hd (cs := #[.slice A0_0 l0_0.length c0_0]) (t := 30) ?hr ?_; (case hd => rfl); (case hg => rfl); (case hr => first | (go_simp; done) | (go_simp; rfl)); intro gb101 hg w2 hbox hb; have n0_ := Aside0.mk (below_step (by repeat (first | (with_reducible first | exact HB.out | apply below_alloc | apply pw_below_drewN | apply below_drew1) | exact HB.out)) hb); have n1_ := Aside0.mk (hbox); have n2_ := Aside0.mk ((by rw [hg]; exact (below_size (by repeat (first | (with_reducible first | exact HB.out | apply below_alloc | apply pw_below_drewN | apply below_drew1) | exact HB.out))) : w.heap.size ≤ gb101)); have n3_ := Aside0.mk ((by rw [hg]; exact (below_size (by repeat (first | (with_reducible first | exact HB.out | apply below_alloc | apply pw_below_drewN | apply below_drew1) | exact HB.out))) : w.heap.size ≤ gb101)); clear HB; have HB := n0_; have BK101 := n1_; have GW101 := n2_; have GE101 := n3_; clear n0_ n1_ n2_ n3_; clear hb hbox hg; have hcz3_0 : w2.cell? ⟨gb101, 0, none⟩ = some (.slice A0_0 l0_0.length c0_0) := (blk_cell BK101.out 0).trans rfl; have hfz3_0 := blk_frozen BK101.out 0))
  go_ret
  exact ⟨by first | rfl | (simp [errW_none, errW_some] <;> rfl) | (simp [*, errW_none, errW_some] <;> rfl), by repeat (first | (with_reducible first | exact HB.out | apply below_alloc | apply pw_below_drewN | apply below_drew1 | refine below_set ?_ GE101.out) | exact HB.out)⟩
section
attribute [local go_sem high] eqA59
/-! ### spec_IsTriangulation: function 56 -/
mutual
def spec_IsTriangulation.l0 : Nat → Int → List (List (SFace)) → Option (Bool)
 | 0, _, _ => none
 | k + 1, x3, x102000 => if x3 < (x102000.length : Int) then (if 0 ≤ x3 then (if ((rd_LFace x102000 x3).length : Int) = 4 then (spec_IsTriangulation.l0 k (wrap64 (x3 + 1)) x102000) else (some false)) else (none)) else (spec_IsTriangulation.l1 k 0 x102000)
def spec_IsTriangulation.l1 : Nat → Int → List (List (SFace)) → Option (Bool)
 | 0, _, _ => none
 | k + 1, x4, x102000 => (spec_l07Tets.f x102000).bind fun t104 => (if x4 < t104 then (spec_IsTriangulation.l2 k x4 0 x102000) else (some true))
def spec_IsTriangulation.l2 : Nat → Int → Int → List (List (SFace)) → Option (Bool)
 | 0, _, _, _ => none
 | k + 1, x4, x5, x102000 => if x5 < 4 then (if 0 ≤ x4 then (if x4 < (x102000.length : Int) then (if 0 ≤ x5 then (if x5 < ((rd_LFace x102000 x4).length : Int) then (if ((rd_Face (rd_LFace x102000 x4) x5).f0) = (-1) then (spec_IsTriangulation.j3 k x4 x5 (((rd_Face (rd_LFace x102000 x4) x5).f1) == 0) x102000 ((rd_Face (rd_LFace x102000 x4) x5).f0) ((rd_Face (rd_LFace x102000 x4) x5).f1)) else (spec_IsTriangulation.j3 k x4 x5 false x102000 ((rd_Face (rd_LFace x102000 x4) x5).f0) ((rd_Face (rd_LFace x102000 x4) x5).f1))) else (none)) else (none)) else (none)) else (none)) else (spec_IsTriangulation.l1 k (wrap64 (x4 + 1)) x102000)
def spec_IsTriangulation.j3 : Nat → Int → Int → Bool → List (List (SFace)) → Int → Int → Option (Bool)
 | 0, _, _, _, _, _, _ => none
 | k + 1, x4, x5, x51, x102000, x108000, x108001 => if x51 = true then (spec_IsTriangulation.l2 k x4 (wrap64 (x5 + 1)) x102000) else ((spec_l07Tets.f x102000).bind fun t108 => ((spec_l07In.f x108000 0 (wrap64 (t108 - 1))).bind fun t109 => (if t109 = true then ((spec_l06Valid.f x108001).bind fun t110 => (spec_IsTriangulation.j4 k x4 x5 (!t110) x102000 x108000 x108001)) else (spec_IsTriangulation.j4 k x4 x5 true x102000 x108000 x108001))))
def spec_IsTriangulation.j4 : Nat → Int → Int → Bool → List (List (SFace)) → Int → Int → Option (Bool)
 | 0, _, _, _, _, _, _ => none
 | k + 1, x4, x5, x64, x102000, x108000, x108001 => if x64 = true then (some false) else ((spec_l06At.f k x108001 x5).bind fun t111 => ((spec_l06Back.f k x108001).bind fun t112 => (if 0 ≤ x108000 then (if x108000 < (x102000.length : Int) then (if 0 ≤ t111 then (if t111 < ((rd_LFace x102000 x108000).length : Int) then (if (!(((rd_Face (rd_LFace x102000 x108000) t111).f0) == x4) || (!(((rd_Face (rd_LFace x102000 x108000) t111).f1) == t112))) = true then (some false) else (if x108000 = x4 then (if t111 = x5 then (some false) else (spec_IsTriangulation.l2 k x4 (wrap64 (x5 + 1)) x102000)) else (spec_IsTriangulation.l2 k x4 (wrap64 (x5 + 1)) x102000))) else (none)) else (none)) else (none)) else (none))))
end
def spec_IsTriangulation.f (k : Nat) (l0_0 : List (List (SFace))) : Option (Bool) := (spec_l07Tets.f l0_0).bind fun t102 => (if t102 > 8 then (some false) else (spec_IsTriangulation.l0 k 0 l0_0))
def spec_IsTriangulation.T16 : Bool × List (List Nat × List Nat) := (true, [([], []), ([0], [0]), ([], []), ([2], [2]), ([3], [3]), ([1, 4, 3], [1, 4]), ([5], [5]), ([6, 5], [6]), ([7], [7]), ([8, 7], [7, 8]), ([9, 7, 7], [7, 9]), ([10, 7], [7, 10]), ([7, 11], [7, 11])])
def spec_IsTriangulation.B16 : List Nat := [0, 1, 0, 4, 12, 31, 63, 127, 255, 511, 1023, 2047, 4095]
theorem spec_IsTriangulation.tab16 : rtab .any (opsOf Try.f56 16) = spec_IsTriangulation.T16 := by kernel_rfl
theorem spec_IsTriangulation.bits16 : waitsOk spec_IsTriangulation.T16.2 spec_IsTriangulation.B16 = true := by kernel_rfl
set_option maxHeartbeats 8000000 in
set_option maxRecDepth 100000 in
theorem spec_IsTriangulation.calls (k : Nat) (A0_0 : Option Addr) (c0_0 : Nat) (l0_0 : List (List (SFace))) (r : Bool) (w : World) (hr0_0 : Kd.C (Kd.slice 59 kFace) w A0_0 l0_0.length l0_0) (hc0_0 : l0_0.length ≤ c0_0) (h : spec_IsTriangulation.f k l0_0 = some r) :
 Calls Try.prog 56 #[.agg #[.slice A0_0 l0_0.length c0_0]] w fun e w' => e = .returned (.bool r) ∧ Below w.heap.size w w' := by
 have hu30 := Try.underlying30
 have hu59 := Try.underlying59
 have HR0_0 := Aside0.mk hr0_0
 have HC0_0 := Aside0.mk hc0_0
 clear hr0_0 hc0_0
 have HB := Aside0.mk (Below.refl w.heap.size w)
 have H : ((spec_l07Tets.f l0_0).bind fun t102 => (if t102 > 8 then (some false) else (spec_IsTriangulation.l0 k 0 l0_0))) = some r := h
 clear h
 replace H := ydy.mp H
 obtain ⟨t102, A20, H⟩ := H
 replace H : (if t102 > 8 then (some false) else (spec_IsTriangulation.l0 k 0 l0_0)) = some r := H
 have A2 := Aside0.mk A20
 clear A20
 by_cases c3 : t102 > 8
 next =>
  rw [if_pos c3] at H
  have c3b0 : decide (8 < t102) = true := ygy c3
  clear c3
  obtain rfl := yey H
  go_enter Try.func56, Try.ntmps56
  go_wp2_with (first | ((with_reducible refine gate_dst (N := 1) rfl ?_); refine box_event ?hg (N := 1) ?hd (cs := #[.slice A0_0 l0_0.length c0_0]) (t := 30) ?hr ?_; (case hd => rfl); (case hg => rfl); (case hr => first | (go_simp; done) | (go_simp; rfl)); intro gb101 hg w4 hbox hb; have n0_ := Aside0.mk (below_step (by repeat (first | (with_reducible first | exact HB.out | apply below_alloc | apply pw_below_drewN | apply below_drew1) | exact HB.out)) hb); have n1_ := Aside0.mk (hbox); have n2_ := Aside0.mk ((by rw [hg]; exact (below_size (by repeat (first | (with_reducible first | exact HB.out | apply below_alloc | apply pw_below_drewN | apply below_drew1) | exact HB.out))) : w.heap.size ≤ gb101)); have n3_ := Aside0.mk ((by rw [hg]; exact (below_size (by repeat (first | (with_reducible first | exact HB.out | apply below_alloc | apply pw_below_drewN | apply below_drew1) | exact HB.out))) : w.heap.size ≤ gb101)); clear HB; have HB := n0_; have BK101 := n1_; have GW101 := n2_; have GE101 := n3_; clear n0_ n1_ n2_ n3_; clear hb hbox hg; have hcz5_0 : w4.cell? ⟨gb101, 0, none⟩ = some (.slice A0_0 l0_0.length c0_0) := (blk_cell BK101.out 0).trans rfl; have hfz5_0 := blk_frozen BK101.out 0) | ((with_reducible refine gate_callee (f := 34) rfl ?_); refine goesL_ (some 10) rfl rfl Try.func34 (by kernel_rfl) rfl #[.agg #[.slice A0_0 l0_0.length c0_0]] rfl (by (try simp only [yiy, yjy, yky]); first | done | rfl | (simp only [yly, ymy]; rfl)) ?_; (with_reducible refine (spec_l07Tets.calls _ _ l0_0 t102 _ ?side1 ?side2 A2.out).mono ?_); (case side1 => repeat (first | exact (Kd.C_below HR0_0.out HB.out) | (with_reducible refine Kd.C_alloc ?_ _) | (with_reducible refine Kd.C_drewN ?_ _) | (with_reducible refine Kd.C_drew ?_))); (case side2 => exact HC0_0.out); rintro e w6 ⟨rfl, hb⟩; refine ⟨_, rfl, ?_⟩; have n0_ := Aside0.mk (blk_below (g := gb101) (o := .cells #[.slice A0_0 l0_0.length c0_0] 30 (0, 0)) (by (with_reducible repeat (first | refine blk_drewN ?_ _ | refine blk_drew ?_ | refine blk_alloc ?_ _)); exact BK101.out) hb); have n1_ := Aside0.mk (below_step (by repeat (first | (with_reducible first | exact HB.out | apply below_alloc | apply pw_below_drewN | apply below_drew1 | refine below_set ?_ GE101.out) | exact HB.out)) hb); clear BK101; clear HB; have BK101 := n0_; have HB := n1_; clear n0_ n1_; (try clear hb); (try clear hb2); (try clear hk); (try clear hi)))
  go_ret
  exact ⟨by first | rfl | (simp [errW_none, errW_some] <;> rfl) | (simp [*, errW_none, errW_some] <;> rfl), by repeat (first | (with_reducible first | exact HB.out | apply below_alloc | apply pw_below_drewN | apply below_drew1 | refine below_set ?_ GE101.out) | exact HB.out)⟩
 next =>
  rw [if_neg c3] at H
  have c3b0 : decide (8 < t102) = false := yhy c3
  clear c3
  have H' := Aside0.mk H
  clear H
  go_enter Try.func56, Try.ntmps56
  go_wp2_with (first | ((with_reducible refine gate_dst (N := 1) rfl ?_); refine box_event ?hg (N := 1) ?hd (cs := #[.slice A0_0 l0_0.length c0_0]) (t := 30) ?hr ?_; (case hd => rfl); (case hg => rfl); (case hr => first | (go_simp; done) | (go_simp; rfl)); intro gb101 hg w7 hbox hb; have n0_ := Aside0.mk (below_step (by repeat (first | (with_reducible first | exact HB.out | apply below_alloc | apply pw_below_drewN | apply below_drew1) | exact HB.out)) hb); have n1_ := Aside0.mk (hbox); have n2_ := Aside0.mk ((by rw [hg]; exact (below_size (by repeat (first | (with_reducible first | exact HB.out | apply below_alloc | apply pw_below_drewN | apply below_drew1) | exact HB.out))) : w.heap.size ≤ gb101)); have n3_ := Aside0.mk ((by rw [hg]; exact (below_size (by repeat (first | (with_reducible first | exact HB.out | apply below_alloc | apply pw_below_drewN | apply below_drew1) | exact HB.out))) : w.heap.size ≤ gb101)); clear HB; have HB := n0_; have BK101 := n1_; have GW101 := n2_; have GE101 := n3_; clear n0_ n1_ n2_ n3_; clear hb hbox hg; have hcz8_0 : w7.cell? ⟨gb101, 0, none⟩ = some (.slice A0_0 l0_0.length c0_0) := (blk_cell BK101.out 0).trans rfl; have hfz8_0 := blk_frozen BK101.out 0) | ((with_reducible refine gate_callee (f := 34) rfl ?_); refine goesL_ (some 10) rfl rfl Try.func34 (by kernel_rfl) rfl #[.agg #[.slice A0_0 l0_0.length c0_0]] rfl (by (try simp only [yiy, yjy, yky]); first | done | rfl | (simp only [yly, ymy]; rfl)) ?_; (with_reducible refine (spec_l07Tets.calls _ _ l0_0 t102 _ ?side1 ?side2 A2.out).mono ?_); (case side1 => repeat (first | exact (Kd.C_below HR0_0.out HB.out) | (with_reducible refine Kd.C_alloc ?_ _) | (with_reducible refine Kd.C_drewN ?_ _) | (with_reducible refine Kd.C_drew ?_))); (case side2 => exact HC0_0.out); rintro e w9 ⟨rfl, hb⟩; refine ⟨_, rfl, ?_⟩; have n0_ := Aside0.mk (blk_below (g := gb101) (o := .cells #[.slice A0_0 l0_0.length c0_0] 30 (0, 0)) (by (with_reducible repeat (first | refine blk_drewN ?_ _ | refine blk_drew ?_ | refine blk_alloc ?_ _)); exact BK101.out) hb); have n1_ := Aside0.mk (below_step (by repeat (first | (with_reducible first | exact HB.out | apply below_alloc | apply pw_below_drewN | apply below_drew1 | refine below_set ?_ GE101.out) | exact HB.out)) hb); clear BK101; clear HB; have BK101 := n0_; have HB := n1_; clear n0_ n1_; (try clear hb); (try clear hb2); (try clear hk); (try clear hi)))
  go_loopg [3] k (fun kq v3 w' => ∃ (x3_1 : Int), v3 = .int .i64 x3_1 ∧ Aside0 (spec_IsTriangulation.l0 kq x3_1 l0_0 = some r) ∧ Aside0 (kq ≤ k) ∧ Aside0 (w'.heap[gb101]? = some (.cells #[(.slice A0_0 l0_0.length c0_0)] 30 (0, 0))) ∧ Aside0 (Below w.heap.size w w'))
  case atStart => exact ⟨(0), (by first | rfl | (simp; done) | (simp [*]; done)), H', ⟨yoy _⟩, ⟨by (with_reducible repeat (first | refine blk_drewN ?_ _ | refine blk_drew ?_ | refine blk_alloc ?_ _)); exact BK101.out⟩, ⟨by repeat (first | (with_reducible first | exact HB.out | apply below_alloc | apply pw_below_drewN | apply below_drew1 | refine below_set ?_ GE101.out) | exact HB.out)⟩⟩
  case round =>
   clear H'
   try clear p2
   try clear c3
   try clear c3b0
   try clear c5
   try clear hcz5_0
   try clear hcz8_0
   try clear hfz5_0
   try clear hfz8_0
   obtain ⟨x3_1, rfl, HA, HK1, BK101, HB⟩ := hrel
   cases gk with
   | zero => exact absurd HA.out (by simp [spec_IsTriangulation.l0])
   | succ k1 =>
    have H := HA.out
    clear HA
    simp only [spec_IsTriangulation.l0] at H
    by_cases c10 : x3_1 < (l0_0.length : Int)
    next =>
     rw [if_pos c10] at H
     have c10b0 : decide (x3_1 < (l0_0.length : Int)) = true := ygy c10
     clear c10
     by_cases c11 : 0 ≤ x3_1
     rotate_left
     next =>
      rw [if_neg c11] at H
      exact absurd H (by simp)
     rw [if_pos c11] at H
     have c11b0 : decide (0 ≤ x3_1) = true := ygy c11
     clear c11
     by_cases c12 : ((rd_LFace l0_0 x3_1).length : Int) = 4
     rotate_left
     next =>
      rw [if_neg c12] at H
      have c12b0 : (((rd_LFace l0_0 x3_1).length : Int) == 4) = false := beq_eq_false_iff_ne.mpr c12
      have c12b1 : (((rd_LFace l0_0 x3_1).length : Int) != 4) = true := bne_iff_ne.mpr c12
      obtain rfl := yey H
      have hcz14_0 : wr.cell? ⟨gb101, 0, none⟩ = some (.slice A0_0 l0_0.length c0_0) := (blk_cell BK101.out 0).trans rfl
      have hfz14_0 := blk_frozen BK101.out 0
      have p103 : 0 ≤ (x3_1 : Int) := of_decide_eq_true (by first | (with_reducible assumption) | assumption)
      have q103 : x3_1 < (l0_0.length : Int) := of_decide_eq_true (by first | (with_reducible assumption) | assumption)
      obtain ⟨ad103, A103_0, c103_0, e103, hx103_0, hl103_0, hi103_0⟩ := at_LFace HR0_0.out x3_1 p103 q103
      cases e103
      replace hx103_0 := (HB.out.cell (yny w _ hx103_0)).trans hx103_0
      have HR103_0 := Aside0.mk hi103_0
      have HC103_0 := Aside0.mk hl103_0
      clear hi103_0 hl103_0
      replace p103 := eq_true p103
      replace q103 := eq_true q103
      go_wp2
      go_ret
      exact ⟨by first | rfl | (simp [errW_none, errW_some] <;> rfl) | (simp [*, errW_none, errW_some] <;> rfl), by repeat (first | (with_reducible first | exact HB.out | apply below_alloc | apply pw_below_drewN | apply below_drew1 | refine below_set ?_ GE101.out) | exact HB.out)⟩
     rw [if_pos c12] at H
     have c12b0 : (((rd_LFace l0_0 x3_1).length : Int) == 4) = true := beq_iff_eq.mpr c12
     have c12b1 : (((rd_LFace l0_0 x3_1).length : Int) != 4) = false := bne_eq_false_iff_eq.mpr c12
     clear c12
     have H' := Aside0.mk H
     clear H
     have hcz13_0 : wr.cell? ⟨gb101, 0, none⟩ = some (.slice A0_0 l0_0.length c0_0) := (blk_cell BK101.out 0).trans rfl
     have hfz13_0 := blk_frozen BK101.out 0
     have p103 : 0 ≤ (x3_1 : Int) := of_decide_eq_true (by first | (with_reducible assumption) | assumption)
     have q103 : x3_1 < (l0_0.length : Int) := of_decide_eq_true (by first | (with_reducible assumption) | assumption)
     obtain ⟨ad103, A103_0, c103_0, e103, hx103_0, hl103_0, hi103_0⟩ := at_LFace HR0_0.out x3_1 p103 q103
     cases e103
     replace hx103_0 := (HB.out.cell (yny w _ hx103_0)).trans hx103_0
     have HR103_0 := Aside0.mk hi103_0
     have HC103_0 := Aside0.mk hl103_0
     clear hi103_0 hl103_0
     replace p103 := eq_true p103
     replace q103 := eq_true q103
     go_wp2
     go_roundg k1
     case measure => have := HK1.out; omega
     case rel => exact ⟨(wrap64 (x3_1 + 1)), (by first | rfl | (simp; done) | (simp [*]; done)), H', ⟨by have := HK1.out; omega⟩, ⟨by (with_reducible repeat (first | refine blk_drewN ?_ _ | refine blk_drew ?_ | refine blk_alloc ?_ _)); exact BK101.out⟩, ⟨by repeat (first | (with_reducible first | exact HB.out | apply below_alloc | apply pw_below_drewN | apply below_drew1 | refine below_set ?_ GE101.out) | exact HB.out)⟩⟩
    next =>
     rw [if_neg c10] at H
     have c10b0 : decide (x3_1 < (l0_0.length : Int)) = false := yhy c10
     clear c10
     have H' := Aside0.mk H
     clear H
     have hcz15_0 : wr.cell? ⟨gb101, 0, none⟩ = some (.slice A0_0 l0_0.length c0_0) := (blk_cell BK101.out 0).trans rfl
     have hfz15_0 := blk_frozen BK101.out 0
     go_wp2
     go_loopg [4] k1 (fun kq v4 w' => ∃ (x4_2 : Int), v4 = .int .i64 x4_2 ∧ Aside0 (spec_IsTriangulation.l1 kq x4_2 l0_0 = some r) ∧ Aside0 (kq ≤ k1) ∧ Aside0 (w'.heap[gb101]? = some (.cells #[(.slice A0_0 l0_0.length c0_0)] 30 (0, 0))) ∧ Aside0 (Below w.heap.size w w'))
     case atStart => exact ⟨(0), (by first | rfl | (simp; done) | (simp [*]; done)), H', ⟨yoy _⟩, ⟨by (with_reducible repeat (first | refine blk_drewN ?_ _ | refine blk_drew ?_ | refine blk_alloc ?_ _)); exact BK101.out⟩, ⟨by repeat (first | (with_reducible first | exact HB.out | apply below_alloc | apply pw_below_drewN | apply below_drew1 | refine below_set ?_ GE101.out) | exact HB.out)⟩⟩
     case round =>
      clear H'
      try clear c1
      try clear p1
      try clear q1
      try clear hx1
      try clear p2
      try clear c3
      try clear c3b0
      try clear c5
      try clear p6
      try clear c10
      try clear c10b0
      try clear p10
      try clear q10
      try clear hx10
      try clear c11
      try clear c11b0
      try clear c12
      try clear c12b0
      try clear c12b1
      try clear hcz13_0
      try clear hcz14_0
      try clear hcz15_0
      try clear hcz5_0
      try clear hcz8_0
      try clear hfz13_0
      try clear hfz14_0
      try clear hfz15_0
      try clear hfz5_0
      try clear hfz8_0
      try clear hx103_0
      try clear p103
      try clear p2
      try clear q103
      obtain ⟨x4_2, rfl, HA, HK2, BK101, HB⟩ := hrel
      cases gk with
      | zero => exact absurd HA.out (by simp [spec_IsTriangulation.l1])
      | succ k2 =>
       have H := HA.out
       clear HA
       simp only [spec_IsTriangulation.l1] at H
       replace H := ydy.mp H
       obtain ⟨t104, A160, H⟩ := H
       replace H : (if x4_2 < t104 then (spec_IsTriangulation.l2 k2 x4_2 0 l0_0) else (some true)) = some r := H
       have A16 := Aside0.mk A160
       clear A160
       by_cases c17 : x4_2 < t104
       rotate_left
       next =>
        rw [if_neg c17] at H
        have c17b0 : decide (x4_2 < t104) = false := yhy c17
        clear c17
        obtain rfl := yey H
        have hcz99_0 : wr.cell? ⟨gb101, 0, none⟩ = some (.slice A0_0 l0_0.length c0_0) := (blk_cell BK101.out 0).trans rfl
        have hfz99_0 := blk_frozen BK101.out 0
        go_wp2_with (first | ((with_reducible refine gate_callee (f := 34) rfl ?_); refine goesL_ (some 28) rfl rfl Try.func34 (by kernel_rfl) rfl #[.agg #[.slice A0_0 l0_0.length c0_0]] rfl (by (try simp only [yiy, yjy, yky]); first | done | rfl | (simp only [yly, ymy]; rfl)) ?_; (with_reducible refine (spec_l07Tets.calls _ _ l0_0 t104 _ ?side1 ?side2 A16.out).mono ?_); (case side1 => repeat (first | exact (Kd.C_below HR0_0.out HB.out) | (with_reducible refine Kd.C_alloc ?_ _) | (with_reducible refine Kd.C_drewN ?_ _) | (with_reducible refine Kd.C_drew ?_))); (case side2 => exact HC0_0.out); rintro e w100 ⟨rfl, hb⟩; refine ⟨_, rfl, ?_⟩; have n0_ := Aside0.mk (blk_below (g := gb101) (o := .cells #[.slice A0_0 l0_0.length c0_0] 30 (0, 0)) (by (with_reducible repeat (first | refine blk_drewN ?_ _ | refine blk_drew ?_ | refine blk_alloc ?_ _)); exact BK101.out) hb); have n1_ := Aside0.mk (below_step (by repeat (first | (with_reducible first | exact HB.out | apply below_alloc | apply pw_below_drewN | apply below_drew1 | refine below_set ?_ GE101.out) | exact HB.out)) hb); clear BK101; clear HB; have BK101 := n0_; have HB := n1_; clear n0_ n1_; (try clear hb); (try clear hb2); (try clear hk); (try clear hi)))
        go_ret
        exact ⟨by first | rfl | (simp [errW_none, errW_some] <;> rfl) | (simp [*, errW_none, errW_some] <;> rfl), by repeat (first | (with_reducible first | exact HB.out | apply below_alloc | apply pw_below_drewN | apply below_drew1 | refine below_set ?_ GE101.out) | exact HB.out)⟩
       rw [if_pos c17] at H
       have c17b0 : decide (x4_2 < t104) = true := ygy c17
       clear c17
       have H' := Aside0.mk H
       clear H
       have hcz18_0 : wr.cell? ⟨gb101, 0, none⟩ = some (.slice A0_0 l0_0.length c0_0) := (blk_cell BK101.out 0).trans rfl
       have hfz18_0 := blk_frozen BK101.out 0
       go_wp2_with (first | ((with_reducible refine gate_callee (f := 34) rfl ?_); refine goesL_ (some 28) rfl rfl Try.func34 (by kernel_rfl) rfl #[.agg #[.slice A0_0 l0_0.length c0_0]] rfl (by (try simp only [yiy, yjy, yky]); first | done | rfl | (simp only [yly, ymy]; rfl)) ?_; (with_reducible refine (spec_l07Tets.calls _ _ l0_0 t104 _ ?side1 ?side2 A16.out).mono ?_); (case side1 => repeat (first | exact (Kd.C_below HR0_0.out HB.out) | (with_reducible refine Kd.C_alloc ?_ _) | (with_reducible refine Kd.C_drewN ?_ _) | (with_reducible refine Kd.C_drew ?_))); (case side2 => exact HC0_0.out); rintro e w19 ⟨rfl, hb⟩; refine ⟨_, rfl, ?_⟩; have n0_ := Aside0.mk (blk_below (g := gb101) (o := .cells #[.slice A0_0 l0_0.length c0_0] 30 (0, 0)) (by (with_reducible repeat (first | refine blk_drewN ?_ _ | refine blk_drew ?_ | refine blk_alloc ?_ _)); exact BK101.out) hb); have n1_ := Aside0.mk (below_step (by repeat (first | (with_reducible first | exact HB.out | apply below_alloc | apply pw_below_drewN | apply below_drew1 | refine below_set ?_ GE101.out) | exact HB.out)) hb); clear BK101; clear HB; have BK101 := n0_; have HB := n1_; clear n0_ n1_; (try clear hb); (try clear hb2); (try clear hk); (try clear hi)))
       go_loopg [5] k2 (fun kq v5 w' => ∃ (x5_3 : Int), v5 = .int .i64 x5_3 ∧ Aside0 (spec_IsTriangulation.l2 kq x4_2 x5_3 l0_0 = some r) ∧ Aside0 (kq ≤ k2) ∧ Aside0 (w'.heap[gb101]? = some (.cells #[(.slice A0_0 l0_0.length c0_0)] 30 (0, 0))) ∧ Aside0 (Below w.heap.size w w'))
       case atStart => exact ⟨(0), (by first | rfl | (simp; done) | (simp [*]; done)), H', ⟨yoy _⟩, ⟨by (with_reducible repeat (first | refine blk_drewN ?_ _ | refine blk_drew ?_ | refine blk_alloc ?_ _)); exact BK101.out⟩, ⟨by repeat (first | (with_reducible first | exact HB.out | apply below_alloc | apply pw_below_drewN | apply below_drew1 | refine below_set ?_ GE101.out) | exact HB.out)⟩⟩
       case round =>
        clear H'
        try clear c1
        try clear p1
        try clear q1
        try clear hx1
        try clear p2
        try clear c3
        try clear c3b0
        try clear c5
        try clear p6
        try clear c10
        try clear c10b0
        try clear p10
        try clear q10
        try clear hx10
        try clear c11
        try clear c11b0
        try clear c12
        try clear c12b0
        try clear c12b1
        try clear c17
        try clear c17b0
        try clear hcz13_0
        try clear hcz14_0
        try clear hcz15_0
        try clear hcz18_0
        try clear hcz5_0
        try clear hcz8_0
        try clear hfz13_0
        try clear hfz14_0
        try clear hfz15_0
        try clear hfz18_0
        try clear hfz5_0
        try clear hfz8_0
        try clear hx103_0
        try clear p1
        try clear p10
        try clear p103
        try clear p2
        try clear p6
        try clear q1
        try clear q10
        try clear q103
        obtain ⟨x5_3, rfl, HA, HK3, BK101, HB⟩ := hrel
        cases gk with
        | zero => exact absurd HA.out (by simp [spec_IsTriangulation.l2])
        | succ k3 =>
         have H := HA.out
         clear HA
         simp only [spec_IsTriangulation.l2] at H
         by_cases c20 : x5_3 < 4
         rotate_left
         next =>
          rw [if_neg c20] at H
          have c20b0 : decide (x5_3 < 4) = false := yhy c20
          clear c20
          have H' := Aside0.mk H
          clear H
          go_wp2
          go_roundg k3
          case measure => have := HK1.out; have := HK2.out; have := HK3.out; omega
          case rel => exact ⟨(wrap64 (x4_2 + 1)), (by first | rfl | (simp; done) | (simp [*]; done)), H', ⟨by have := HK1.out; have := HK2.out; have := HK3.out; omega⟩, ⟨by (with_reducible repeat (first | refine blk_drewN ?_ _ | refine blk_drew ?_ | refine blk_alloc ?_ _)); exact BK101.out⟩, ⟨by repeat (first | (with_reducible first | exact HB.out | apply below_alloc | apply pw_below_drewN | apply below_drew1 | refine below_set ?_ GE101.out) | exact HB.out)⟩⟩
         rw [if_pos c20] at H
         have c20b0 : decide (x5_3 < 4) = true := ygy c20
         clear c20
         by_cases c21 : 0 ≤ x4_2
         rotate_left
         next =>
          rw [if_neg c21] at H
          exact absurd H (by simp)
         rw [if_pos c21] at H
         have c21b0 : decide (0 ≤ x4_2) = true := ygy c21
         clear c21
         by_cases c22 : x4_2 < (l0_0.length : Int)
         rotate_left
         next =>
          rw [if_neg c22] at H
          exact absurd H (by simp)
         rw [if_pos c22] at H
         have c22b0 : decide (x4_2 < (l0_0.length : Int)) = true := ygy c22
         clear c22
         by_cases c23 : 0 ≤ x5_3
         rotate_left
         next =>
          rw [if_neg c23] at H
          exact absurd H (by simp)
         rw [if_pos c23] at H
         have c23b0 : decide (0 ≤ x5_3) = true := ygy c23
         clear c23
         by_cases c24 : x5_3 < ((rd_LFace l0_0 x4_2).length : Int)
         rotate_left
         next =>
          rw [if_neg c24] at H
          exact absurd H (by simp)
         rw [if_pos c24] at H
         have c24b0 : decide (x5_3 < ((rd_LFace l0_0 x4_2).length : Int)) = true := ygy c24
         clear c24
         have HC25 := Aside0.mk H
         clear H
         have hcz26_0 : wr.cell? ⟨gb101, 0, none⟩ = some (.slice A0_0 l0_0.length c0_0) := (blk_cell BK101.out 0).trans rfl
         have hfz26_0 := blk_frozen BK101.out 0
         have p105 : 0 ≤ (x4_2 : Int) := of_decide_eq_true (by first | (with_reducible assumption) | assumption)
         have q105 : x4_2 < (l0_0.length : Int) := of_decide_eq_true (by first | (with_reducible assumption) | assumption)
         obtain ⟨ad105, A105_0, c105_0, e105, hx105_0, hl105_0, hi105_0⟩ := at_LFace HR0_0.out x4_2 p105 q105
         cases e105
         replace hx105_0 := (HB.out.cell (yny w _ hx105_0)).trans hx105_0
         have HR105_0 := Aside0.mk hi105_0
         have HC105_0 := Aside0.mk hl105_0
         clear hi105_0 hl105_0
         replace p105 := eq_true p105
         replace q105 := eq_true q105
         have p106 : 0 ≤ (x5_3 : Int) := of_decide_eq_true (by first | (with_reducible assumption) | assumption)
         have q106 : x5_3 < ((rd_LFace l0_0 x4_2).length : Int) := of_decide_eq_true (by first | (with_reducible assumption) | assumption)
         obtain ⟨ad106, e106, hx106_0, hx106_1⟩ := at_Face HR105_0.out x5_3 p106 q106
         cases e106
         replace hx106_0 := (HB.out.cell (yny w _ hx106_0)).trans hx106_0
         replace hx106_1 := (HB.out.cell (yny w _ hx106_1)).trans hx106_1
         replace p106 := eq_true p106
         replace q106 := eq_true q106
         go_upto_region 15 with (first | ((with_reducible refine gate_dst (N := 6) rfl ?_); refine box_event ?hg (N := 6) ?hd (cs := #[.int .i64 0, .int .i64 0]) (t := 59) ?hr ?_; (case hd => rfl); (case hg => rfl); (case hr => first | (go_simp; done) | (go_simp; rfl)); intro gb107 hg w27 hbox hb; have n0_ := Aside0.mk (blk_below (g := gb101) (o := .cells #[.slice (some ad105) l0_0.length c0_0] 30 (0, 0)) (by (with_reducible repeat (first | refine blk_drewN ?_ _ | refine blk_drew ?_ | refine blk_alloc ?_ _)); exact BK101.out) hb); have n1_ := Aside0.mk (below_step (by repeat (first | (with_reducible first | exact HB.out | apply below_alloc | apply pw_below_drewN | apply below_drew1 | refine below_set ?_ GE101.out) | exact HB.out)) hb); have n2_ := Aside0.mk (hbox); have n3_ := Aside0.mk ((by rw [hg]; exact (below_size (by repeat (first | (with_reducible first | exact HB.out | apply below_alloc | apply pw_below_drewN | apply below_drew1 | refine below_set ?_ GE101.out) | exact HB.out))) : w.heap.size ≤ gb107)); have n4_ := Aside0.mk ((by rw [hg]; exact (below_size (by repeat (first | (with_reducible first | exact HB.out | apply below_alloc | apply pw_below_drewN | apply below_drew1 | refine below_set ?_ GE101.out) | exact HB.out))) : w.heap.size ≤ gb107)); have n5_ := Aside0.mk ((by rw [hg]; exact Nat.ne_of_lt (blk_lt (g := gb101) (o := .cells #[.slice (some ad105) l0_0.length c0_0] 30 (0, 0)) (by (with_reducible repeat (first | refine blk_drewN ?_ _ | refine blk_drew ?_ | refine blk_alloc ?_ _)); exact BK101.out)) : gb101 ≠ gb107)); have n6_ := Aside0.mk ((by rw [hg]; exact Nat.ne_of_gt (blk_lt (g := gb101) (o := .cells #[.slice (some ad105) l0_0.length c0_0] 30 (0, 0)) (by (with_reducible repeat (first | refine blk_drewN ?_ _ | refine blk_drew ?_ | refine blk_alloc ?_ _)); exact BK101.out)) : gb107 ≠ gb101)); clear BK101; clear HB; have BK101 := n0_; have HB := n1_; have BK107 := n2_; have GW107 := n3_; have GE107 := n4_; have NB101_107 := n5_; have NB107_101 := n6_; clear n0_ n1_ n2_ n3_ n4_ n5_ n6_; clear hb hbox hg; have hnb28 := NB107_101.out; have hnc28 := NB101_107.out; have hcz29_0 : w27.cell? ⟨gb107, 0, none⟩ = some (.int .i64 0) := (blk_cell BK107.out 0).trans rfl; have hcz29_1 : w27.cell? ⟨gb107, 1, none⟩ = some (.int .i64 0) := (blk_cell BK107.out 1).trans rfl; have hfz29_0 := blk_frozen BK107.out 0; have hfz29_1 := blk_frozen BK107.out 1))
         (try simp only [Act.put, yay, yby, ycy])
         go_cut [51] (fun v51 wc => ∃ (kq : Nat) (x51_24 : Bool), v51 = .bool x51_24 ∧ Aside0 (spec_IsTriangulation.j3 kq x4_2 x5_3 x51_24 l0_0 ((rd_Face (rd_LFace l0_0 x4_2) x5_3).f0) ((rd_Face (rd_LFace l0_0 x4_2) x5_3).f1) = some r) ∧ Aside0 (kq ≤ k3) ∧ Aside0 (wc.heap[gb101]? = some (.cells #[(.slice (some ad105) l0_0.length c0_0)] 30 (0, 0))) ∧ Aside0 (wc.heap[gb107]? = some (.cells #[.int .i64 ((rd_Face (rd_LFace l0_0 x4_2) x5_3).f0), .int .i64 ((rd_Face (rd_LFace l0_0 x4_2) x5_3).f1)] 59 (0, 0))) ∧ Aside0 (Below w.heap.size w wc))
         case first =>
          have H := HC25.out
          clear HC25
          by_cases c30 : ((rd_Face (rd_LFace l0_0 x4_2) x5_3).f0) = (-1)
          rotate_left
          next =>
           rw [if_neg c30] at H
           have c30b0 : (((rd_Face (rd_LFace l0_0 x4_2) x5_3).f0) == (-1)) = false := beq_eq_false_iff_ne.mpr c30
           have c30b1 : (((rd_Face (rd_LFace l0_0 x4_2) x5_3).f0) != (-1)) = true := bne_iff_ne.mpr c30
           (first | rw [c30b0] | (simp only [i64_w, i32_w]; rw [c30b0]) | skip)
           have H' := Aside0.mk H
           clear H
           have hnb33 := NB107_101.out
           have hnc33 := NB101_107.out
           have hcz34_0 : w27.cell? ⟨gb107, 0, none⟩ = some (.int .i64 0) := (blk_cell BK107.out 0).trans rfl
           have hcz34_1 : w27.cell? ⟨gb107, 1, none⟩ = some (.int .i64 0) := (blk_cell BK107.out 1).trans rfl
           have hfz34_0 := blk_frozen BK107.out 0
           have hfz34_1 := blk_frozen BK107.out 1
           go_wp2
           go_meet
           case rel => exact ⟨_, (false), (by first | rfl | (simp; done) | (simp [*]; done)), H', ⟨by have := HK1.out; have := HK2.out; have := HK3.out; first | omega | exact yoy _⟩, ⟨by (with_reducible repeat (first | refine blk_drewN ?_ _ | refine blk_drew ?_ | refine blk_alloc ?_ _)); refine blk_far ?_ NB101_107.out _; (with_reducible repeat (first | refine blk_drewN ?_ _ | refine blk_drew ?_ | refine blk_alloc ?_ _)); refine blk_far ?_ NB101_107.out _; (with_reducible repeat (first | refine blk_drewN ?_ _ | refine blk_drew ?_ | refine blk_alloc ?_ _)); exact BK101.out⟩, ⟨by (with_reducible repeat (first | refine blk_drewN ?_ _ | refine blk_drew ?_ | refine blk_alloc ?_ _)); refine blk_put (cs := #[.int .i64 ((rd_Face (rd_LFace l0_0 x4_2) x5_3).f0), .int .i64 0]) ?_ 1 _ rfl; (with_reducible repeat (first | refine blk_drewN ?_ _ | refine blk_drew ?_ | refine blk_alloc ?_ _)); refine blk_put (cs := #[.int .i64 0, .int .i64 0]) ?_ 0 _ rfl; (with_reducible repeat (first | refine blk_drewN ?_ _ | refine blk_drew ?_ | refine blk_alloc ?_ _)); exact BK107.out⟩, ⟨by repeat (first | (with_reducible first | exact HB.out | apply below_alloc | apply pw_below_drewN | apply below_drew1 | refine below_set ?_ GE101.out | refine below_set ?_ GE107.out) | exact HB.out)⟩⟩
          rw [if_pos c30] at H
          have c30b0 : (((rd_Face (rd_LFace l0_0 x4_2) x5_3).f0) == (-1)) = true := beq_iff_eq.mpr c30
          have c30b1 : (((rd_Face (rd_LFace l0_0 x4_2) x5_3).f0) != (-1)) = false := bne_eq_false_iff_eq.mpr c30
          clear c30
          (first | rw [c30b0] | (simp only [i64_w, i32_w]; rw [c30b0]) | skip)
          have H' := Aside0.mk H
          clear H
          have hnb31 := NB107_101.out
          have hnc31 := NB101_107.out
          have hcz32_0 : w27.cell? ⟨gb107, 0, none⟩ = some (.int .i64 0) := (blk_cell BK107.out 0).trans rfl
          have hcz32_1 : w27.cell? ⟨gb107, 1, none⟩ = some (.int .i64 0) := (blk_cell BK107.out 1).trans rfl
          have hfz32_0 := blk_frozen BK107.out 0
          have hfz32_1 := blk_frozen BK107.out 1
          go_wp2
          go_meet
          case rel => exact ⟨_, ((((rd_Face (rd_LFace l0_0 x4_2) x5_3).f1) == 0)), (by first | rfl | (simp; done) | (simp [*]; done)), H', ⟨by have := HK1.out; have := HK2.out; have := HK3.out; first | omega | exact yoy _⟩, ⟨by (with_reducible repeat (first | refine blk_drewN ?_ _ | refine blk_drew ?_ | refine blk_alloc ?_ _)); refine blk_far ?_ NB101_107.out _; (with_reducible repeat (first | refine blk_drewN ?_ _ | refine blk_drew ?_ | refine blk_alloc ?_ _)); refine blk_far ?_ NB101_107.out _; (with_reducible repeat (first | refine blk_drewN ?_ _ | refine blk_drew ?_ | refine blk_alloc ?_ _)); exact BK101.out⟩, ⟨by (with_reducible repeat (first | refine blk_drewN ?_ _ | refine blk_drew ?_ | refine blk_alloc ?_ _)); refine blk_put (cs := #[.int .i64 ((rd_Face (rd_LFace l0_0 x4_2) x5_3).f0), .int .i64 0]) ?_ 1 _ rfl; (with_reducible repeat (first | refine blk_drewN ?_ _ | refine blk_drew ?_ | refine blk_alloc ?_ _)); refine blk_put (cs := #[.int .i64 0, .int .i64 0]) ?_ 0 _ rfl; (with_reducible repeat (first | refine blk_drewN ?_ _ | refine blk_drew ?_ | refine blk_alloc ?_ _)); exact BK107.out⟩, ⟨by repeat (first | (with_reducible first | exact HB.out | apply below_alloc | apply pw_below_drewN | apply below_drew1 | refine below_set ?_ GE101.out | refine below_set ?_ GE107.out) | exact HB.out)⟩⟩
         case rest =>
          clear HC25
          try clear c1
          try clear p1
          try clear q1
          try clear hx1
          try clear c2
          try clear p2
          try clear c3
          try clear c3b0
          try clear c5
          try clear p6
          try clear c10
          try clear c10b0
          try clear p10
          try clear q10
          try clear hx10
          try clear c11
          try clear c11b0
          try clear c12
          try clear c12b0
          try clear c12b1
          try clear c17
          try clear c17b0
          try clear c20
          try clear c20b0
          try clear c21
          try clear c21b0
          try clear c22
          try clear c22b0
          try clear c23
          try clear c23b0
          try clear c24
          try clear c24b0
          try clear c28
          try clear c30
          try clear c30b0
          try clear c30b1
          try clear c31
          try clear c33
          try clear c34
          try clear hcz13_0
          try clear hcz14_0
          try clear hcz15_0
          try clear hcz18_0
          try clear hcz26_0
          try clear hcz29_0
          try clear hcz29_1
          try clear hcz32_0
          try clear hcz32_1
          try clear hcz34_0
          try clear hcz34_1
          try clear hcz5_0
          try clear hcz8_0
          try clear hfz13_0
          try clear hfz14_0
          try clear hfz15_0
          try clear hfz18_0
          try clear hfz26_0
          try clear hfz29_0
          try clear hfz29_1
          try clear hfz32_0
          try clear hfz32_1
          try clear hfz34_0
          try clear hfz34_1
          try clear hfz5_0
          try clear hfz8_0
          try clear hx103_0
          try clear hx105_0
          try clear hx106_0
          try clear hx106_1
          try clear p1
          try clear p10
          try clear p103
          try clear p105
          try clear p106
          try clear p2
          try clear p6
          try clear q1
          try clear q10
          try clear q103
          try clear q105
          try clear q106
          obtain ⟨kq, x51_24, rfl, HA, HJ24, BK101, BK107, HB⟩ := hcut
          cases kq with
          | zero => exact absurd HA.out (by simp [spec_IsTriangulation.j3])
          | succ kj24 =>
           have H := HA.out
           clear HA
           simp only [spec_IsTriangulation.j3] at H
           by_cases c35 : x51_24 = true
           next =>
            subst c35
            have H1 : (spec_IsTriangulation.l2 kj24 x4_2 (wrap64 (x5_3 + 1)) l0_0) = some r := by rw [if_pos rfl] at H; exact H
            clear H
            have H := H1
            clear H1
            have H' := Aside0.mk H
            clear H
            go_wp2
            go_roundg kj24
            case measure => have := HK1.out; have := HK2.out; have := HK3.out; have := HJ24.out; omega
            case rel => exact ⟨(wrap64 (x5_3 + 1)), (by first | rfl | (simp; done) | (simp [*]; done)), H', ⟨by have := HK1.out; have := HK2.out; have := HK3.out; have := HJ24.out; omega⟩, ⟨by (with_reducible repeat (first | refine blk_drewN ?_ _ | refine blk_drew ?_ | refine blk_alloc ?_ _)); exact BK101.out⟩, ⟨by repeat (first | (with_reducible first | exact HB.out | apply below_alloc | apply pw_below_drewN | apply below_drew1 | refine below_set ?_ GE101.out | refine below_set ?_ GE107.out) | exact HB.out)⟩⟩
           next =>
            replace c35 := Bool.eq_false_iff.mpr c35
            subst c35
            have H1 : ((spec_l07Tets.f l0_0).bind fun t108 => ((spec_l07In.f ((rd_Face (rd_LFace l0_0 x4_2) x5_3).f0) 0 (wrap64 (t108 - 1))).bind fun t109 => (if t109 = true then ((spec_l06Valid.f ((rd_Face (rd_LFace l0_0 x4_2) x5_3).f1)).bind fun t110 => (spec_IsTriangulation.j4 kj24 x4_2 x5_3 (!t110) l0_0 ((rd_Face (rd_LFace l0_0 x4_2) x5_3).f0) ((rd_Face (rd_LFace l0_0 x4_2) x5_3).f1))) else (spec_IsTriangulation.j4 kj24 x4_2 x5_3 true l0_0 ((rd_Face (rd_LFace l0_0 x4_2) x5_3).f0) ((rd_Face (rd_LFace l0_0 x4_2) x5_3).f1))))) = some r := by rw [if_neg (show ¬ (false = true) by decide)] at H; exact H
            clear H
            have H := H1
            clear H1
            have HC36 := Aside0.mk H
            clear H
            go_upto_region 16 with (fail)
            go_cut [64] (fun v64 wc => ∃ (kq : Nat) (x64_35 : Bool), v64 = .bool x64_35 ∧ Aside0 (spec_IsTriangulation.j4 kq x4_2 x5_3 x64_35 l0_0 ((rd_Face (rd_LFace l0_0 x4_2) x5_3).f0) ((rd_Face (rd_LFace l0_0 x4_2) x5_3).f1) = some r) ∧ Aside0 (kq ≤ kj24) ∧ Aside0 (wc.heap[gb101]? = some (.cells #[(.slice (some ad105) l0_0.length c0_0)] 30 (0, 0))) ∧ Aside0 (wc.heap[gb107]? = some (.cells #[.int .i64 ((rd_Face (rd_LFace l0_0 x4_2) x5_3).f0), .int .i64 ((rd_Face (rd_LFace l0_0 x4_2) x5_3).f1)] 59 (0, 0))) ∧ Aside0 (Below w.heap.size w wc))
            case first =>
             have H := HC36.out
             clear HC36
             replace H := ydy.mp H
             obtain ⟨t108, A370, H⟩ := H
             replace H : ((spec_l07In.f ((rd_Face (rd_LFace l0_0 x4_2) x5_3).f0) 0 (wrap64 (t108 - 1))).bind fun t109 => (if t109 = true then ((spec_l06Valid.f ((rd_Face (rd_LFace l0_0 x4_2) x5_3).f1)).bind fun t110 => (spec_IsTriangulation.j4 kj24 x4_2 x5_3 (!t110) l0_0 ((rd_Face (rd_LFace l0_0 x4_2) x5_3).f0) ((rd_Face (rd_LFace l0_0 x4_2) x5_3).f1))) else (spec_IsTriangulation.j4 kj24 x4_2 x5_3 true l0_0 ((rd_Face (rd_LFace l0_0 x4_2) x5_3).f0) ((rd_Face (rd_LFace l0_0 x4_2) x5_3).f1)))) = some r := H
             have A37 := Aside0.mk A370
             clear A370
             replace H := ydy.mp H
             obtain ⟨t109, A380, H⟩ := H
             replace H : (if t109 = true then ((spec_l06Valid.f ((rd_Face (rd_LFace l0_0 x4_2) x5_3).f1)).bind fun t110 => (spec_IsTriangulation.j4 kj24 x4_2 x5_3 (!t110) l0_0 ((rd_Face (rd_LFace l0_0 x4_2) x5_3).f0) ((rd_Face (rd_LFace l0_0 x4_2) x5_3).f1))) else (spec_IsTriangulation.j4 kj24 x4_2 x5_3 true l0_0 ((rd_Face (rd_LFace l0_0 x4_2) x5_3).f0) ((rd_Face (rd_LFace l0_0 x4_2) x5_3).f1))) = some r := H
             have A38 := Aside0.mk A380
             clear A380
             by_cases c39 : t109 = true
             rotate_left
             next =>
              replace c39 := Bool.eq_false_iff.mpr c39
              subst c39
              have H1 : (spec_IsTriangulation.j4 kj24 x4_2 x5_3 true l0_0 ((rd_Face (rd_LFace l0_0 x4_2) x5_3).f0) ((rd_Face (rd_LFace l0_0 x4_2) x5_3).f1)) = some r := by rw [if_neg (show ¬ (false = true) by decide)] at H; exact H
              clear H
              have H := H1
              clear H1
              have H' := Aside0.mk H
              clear H
              try go_wp2
              have n0_ := Aside0.mk (blk_drew BK101.out)
              have n1_ := Aside0.mk (blk_drew BK107.out)
              have n2_ := Aside0.mk (below_drew1 HB.out)
              clear BK101
              clear BK107
              clear HB
              have BK101 := n0_
              have BK107 := n1_
              have HB := n2_
              clear n0_ n1_ n2_
              refine start_ (n := 13) (S := fun w' => w'.cell? ⟨gb107, 0, none⟩ = some (.int .i64 ((rd_Face (rd_LFace l0_0 x4_2) x5_3).f0)) ∧ w'.cell? ⟨gb107, 1, none⟩ = some (.int .i64 ((rd_Face (rd_LFace l0_0 x4_2) x5_3).f1)) ∧ w'.cell? ⟨gb101, 0, none⟩ = some (.slice (some ad105) l0_0.length c0_0)) (ds := []) #[false, false, false, false, false, false, false, false, false, false, false, false, false] (by kernel_rfl) rfl rfl ⟨(blk_cell BK107.out 0).trans rfl, (blk_cell BK107.out 1).trans rfl, (blk_cell BK101.out 0).trans rfl⟩ (fun hHeld => ?_); refine with_tabW spec_IsTriangulation.tab16 spec_IsTriangulation.bits16 (fun HT_ HW_ => ?_)
              generalize wc.drew = w43 at BK101 BK107 HB hHeld ⊢
              refine pure_ (i := 0) (N := some 52) (v := ?_) (a' := ?_) #[true, false, false, false, false, false, false, false, false, false, false, false, false] rfl rfl (any_of HT_.out (by kernel_rfl)) (fun _ _ _ h => h) (Or.inl ⟨by rfl, ?_⟩) ?_ ?_
              rotate_left
              next =>
               intro w'
               go_simp
               with_reducible rfl
              rotate_left
              next =>
               simp only [Act.put, yay, yby, ycy, i64_w, i32_w]
               rfl
              refine take_ (i := 1) (N := some 53) (v := ?_) (a' := ?_) #[true, true, false, false, false, false, false, false, false, false, false, false, false] rfl rfl (take_ofW HT_.out HW_.out (by kernel_rfl)) (fun _ _ _ h => h) (Or.inl ⟨by rfl, ?_⟩) hHeld ?_ ?_
              rotate_left
              next =>
               rintro w' ⟨s0, s1, s2⟩
               go_simp
               with_reducible rfl
              rotate_left
              next =>
               simp only [Act.put, yay, yby, ycy, i64_w, i32_w]
               rfl
              refine take_ (i := 2) (N := some 54) (v := ?_) (a' := ?_) #[true, true, true, false, false, false, false, false, false, false, false, false, false] rfl rfl (take_ofW HT_.out HW_.out (by kernel_rfl)) (fun _ _ _ h => h) (Or.inl ⟨by rfl, ?_⟩) hHeld ?_ ?_
              rotate_left
              next =>
               rintro w' ⟨s0, s1, s2⟩
               go_simp
               with_reducible rfl
              rotate_left
              next =>
               simp only [Act.put, yay, yby, ycy, i64_w, i32_w]
               rfl
              refine one_ (i := 3) (N := some 55) #[true, true, true, true, false, false, false, false, false, false, false, false, false] rfl rfl (one_of HT_.out (by kernel_rfl)) (by decide) (fun K hK => ?_)
              refine goes_ Try.func34 (by kernel_rfl) rfl #[.agg #[.slice (some ad105) l0_0.length c0_0]] (by rfl) rfl rfl (by (try simp only [yiy, yjy, yky]); first | done | rfl | (simp only [yly, ymy]; rfl)) ?_
              with_reducible refine (spec_l07Tets.calls _ _ l0_0 t108 _ ?side1 ?side2 A37.out).mono ?_
              (case side1 => repeat (first | exact (Kd.C_below HR0_0.out HB.out) | (with_reducible refine Kd.C_alloc ?_ _) | (with_reducible refine Kd.C_drewN ?_ _) | (with_reducible refine Kd.C_drew ?_)))
              (case side2 => exact HC0_0.out)
              rintro e w44 ⟨rfl, hb⟩
              refine ⟨_, rfl, ?_⟩
              have n0_ := Aside0.mk (blk_below (g := gb101) (o := .cells #[.slice (some ad105) l0_0.length c0_0] 30 (0, 0)) (by (with_reducible repeat (first | refine blk_drewN ?_ _ | refine blk_drew ?_ | refine blk_alloc ?_ _)); exact BK101.out) hb)
              have n1_ := Aside0.mk (blk_below (g := gb107) (o := .cells #[.int .i64 ((rd_Face (rd_LFace l0_0 x4_2) x5_3).f0), .int .i64 ((rd_Face (rd_LFace l0_0 x4_2) x5_3).f1)] 59 (0, 0)) (by (with_reducible repeat (first | refine blk_drewN ?_ _ | refine blk_drew ?_ | refine blk_alloc ?_ _)); exact BK107.out) hb)
              have n2_ := Aside0.mk (below_step (by repeat (first | (with_reducible first | exact HB.out | apply below_alloc | apply pw_below_drewN | apply below_drew1 | refine below_set ?_ GE101.out | refine below_set ?_ GE107.out) | exact HB.out)) hb)
              clear BK101
              clear BK107
              clear HB
              have BK101 := n0_
              have BK107 := n1_
              have HB := n2_
              clear n0_ n1_ n2_
              (try clear hb)
              (try clear hb2)
              (try clear hk)
              (try clear hi)
              refine hK.out _ _ ⟨(blk_cell BK107.out 0).trans rfl, (blk_cell BK107.out 1).trans rfl, (blk_cell BK101.out 0).trans rfl⟩ (fun hHeld => ?_)
              clear hK K
              refine norm_ (a' := ?_) ?_ ?_
              rotate_left
              next =>
               show Act.put _ (some 55) _ = _
               simp only [Act.put, yay, yby, ycy, i64_w, i32_w]
               rfl
              refine pure_ (i := 4) (N := some 56) (v := ?_) (a' := ?_) #[true, true, true, true, true, false, false, false, false, false, false, false, false] rfl rfl (any_of HT_.out (by kernel_rfl)) (fun _ _ _ h => h) (Or.inl ⟨by rfl, ?_⟩) ?_ ?_
              rotate_left
              next =>
               intro w'
               go_simp
               with_reducible rfl
              rotate_left
              next =>
               simp only [Act.put, yay, yby, ycy, i64_w, i32_w]
               rfl
              refine one_ (i := 5) (N := some 57) #[true, true, true, true, true, true, false, false, false, false, false, false, false] rfl rfl (one_of HT_.out (by kernel_rfl)) (by decide) (fun K hK => ?_)
              refine goes_ Try.func48 (by kernel_rfl) rfl #[.int .i64 ((rd_Face (rd_LFace l0_0 x4_2) x5_3).f0), .int .i64 0, .int .i64 (wrap64 (t108 - 1))] (by rfl) rfl rfl (by (try simp only [yiy, yjy, yky]); first | done | rfl | (simp only [yly, ymy]; rfl)) ?_
              with_reducible refine (spec_l07In.calls ((rd_Face (rd_LFace l0_0 x4_2) x5_3).f0) 0 (wrap64 (t108 - 1)) false _ A38.out).mono ?_
              rintro e w' ⟨rfl, ⟨nd, rfl⟩⟩
              refine ⟨_, rfl, ?_⟩
              refine hK.out _ _ ⟨(blk_cell BK107.out 0).trans rfl, (blk_cell BK107.out 1).trans rfl, (blk_cell BK101.out 0).trans rfl⟩ (fun hHeld => ?_)
              clear hK K
              refine norm_ (a' := ?_) ?_ ?_
              rotate_left
              next =>
               show Act.put _ (some 57) _ = _
               simp only [Act.put, yay, yby, ycy, i64_w, i32_w]
               rfl
              refine pure_ (i := 6) (N := some 58) (v := ?_) (a' := ?_) #[true, true, true, true, true, true, true, false, false, false, false, false, false] rfl rfl (any_of HT_.out (by kernel_rfl)) (fun _ _ _ h => h) (Or.inl ⟨by rfl, ?_⟩) ?_ ?_
              rotate_left
              next =>
               intro w'
               go_simp
               with_reducible rfl
              rotate_left
              next =>
               simp only [Act.put, yay, yby, ycy, i64_w, i32_w]
               rfl
              refine pure_ (i := 7) (N := some 59) (v := ?_) (a' := ?_) #[true, true, true, true, true, true, true, true, false, false, false, false, false] rfl rfl (any_of HT_.out (by kernel_rfl)) (fun _ _ _ h => h) (Or.inl ⟨by rfl, ?_⟩) ?_ ?_
              rotate_left
              next =>
               intro w'
               go_simp
               with_reducible rfl
              rotate_left
              next =>
               simp only [Act.put, yay, yby, ycy, i64_w, i32_w]
               rfl
              refine pure_ (i := 8) (N := some 60) (v := undef) (a' := ?_) #[true, true, true, true, true, true, true, true, true, false, false, false, false] rfl rfl (any_of HT_.out (by kernel_rfl)) (fun _ _ _ h => h) (Or.inr ⟨by rfl, rfl⟩) ?_ ?_
              rotate_left
              next =>
               simp only [Act.put, yay, yby, ycy, i64_w, i32_w]
               rfl
              refine pure_ (i := 9) (N := some 61) (v := undef) (a' := ?_) #[true, true, true, true, true, true, true, true, true, true, false, false, false] rfl rfl (any_of HT_.out (by kernel_rfl)) (fun _ _ _ h => h) (Or.inr ⟨by rfl, rfl⟩) ?_ ?_
              rotate_left
              next =>
               simp only [Act.put, yay, yby, ycy, i64_w, i32_w]
               rfl
              refine pure_ (i := 10) (N := some 62) (v := undef) (a' := ?_) #[true, true, true, true, true, true, true, true, true, true, true, false, false] rfl rfl (any_of HT_.out (by kernel_rfl)) (fun _ _ _ h => h) (Or.inr ⟨by rfl, rfl⟩) ?_ ?_
              rotate_left
              next =>
               simp only [Act.put, yay, yby, ycy, i64_w, i32_w]
               rfl
              refine pure_ (i := 11) (N := some 63) (v := undef) (a' := ?_) #[true, true, true, true, true, true, true, true, true, true, true, true, false] rfl rfl (any_of HT_.out (by kernel_rfl)) (fun _ _ _ h => h) (Or.inr ⟨by rfl, rfl⟩) ?_ ?_
              rotate_left
              next =>
               simp only [Act.put, yay, yby, ycy, i64_w, i32_w]
               rfl
              refine pure_ (i := 12) (N := some 64) (v := ?_) (a' := ?_) #[true, true, true, true, true, true, true, true, true, true, true, true, true] rfl rfl (any_of HT_.out (by kernel_rfl)) (fun _ _ _ h => h) (Or.inl ⟨by rfl, ?_⟩) ?_ ?_
              rotate_left
              next =>
               intro w'
               go_simp
               with_reducible rfl
              rotate_left
              next =>
               simp only [Act.put, yay, yby, ycy, i64_w, i32_w]
               rfl
              refine done_ (done_of HT_.out (by kernel_rfl)) ?_
              try go_wp2
              go_meet
              case rel => exact ⟨_, (true), (by first | rfl | (simp; done) | (simp [*]; done)), H', ⟨by have := HK1.out; have := HK2.out; have := HK3.out; have := HJ24.out; first | omega | exact yoy _⟩, ⟨by (with_reducible repeat (first | refine blk_drewN ?_ _ | refine blk_drew ?_ | refine blk_alloc ?_ _)); exact BK101.out⟩, ⟨by (with_reducible repeat (first | refine blk_drewN ?_ _ | refine blk_drew ?_ | refine blk_alloc ?_ _)); exact BK107.out⟩, ⟨by repeat (first | (with_reducible first | exact HB.out | apply below_alloc | apply pw_below_drewN | apply below_drew1 | refine below_set ?_ GE101.out | refine below_set ?_ GE107.out) | exact HB.out)⟩⟩
             subst c39
             have H1 : ((spec_l06Valid.f ((rd_Face (rd_LFace l0_0 x4_2) x5_3).f1)).bind fun t110 => (spec_IsTriangulation.j4 kj24 x4_2 x5_3 (!t110) l0_0 ((rd_Face (rd_LFace l0_0 x4_2) x5_3).f0) ((rd_Face (rd_LFace l0_0 x4_2) x5_3).f1))) = some r := by rw [if_pos rfl] at H; exact H
             clear H
             have H := H1
             clear H1
             replace H := ydy.mp H
             obtain ⟨t110, A400, H⟩ := H
             replace H : (spec_IsTriangulation.j4 kj24 x4_2 x5_3 (!t110) l0_0 ((rd_Face (rd_LFace l0_0 x4_2) x5_3).f0) ((rd_Face (rd_LFace l0_0 x4_2) x5_3).f1)) = some r := H
             have A40 := Aside0.mk A400
             clear A400
             have H' := Aside0.mk H
             clear H
             try go_wp2
             have n0_ := Aside0.mk (blk_drew BK101.out)
             have n1_ := Aside0.mk (blk_drew BK107.out)
             have n2_ := Aside0.mk (below_drew1 HB.out)
             clear BK101
             clear BK107
             clear HB
             have BK101 := n0_
             have BK107 := n1_
             have HB := n2_
             clear n0_ n1_ n2_
             refine start_ (n := 13) (S := fun w' => w'.cell? ⟨gb107, 0, none⟩ = some (.int .i64 ((rd_Face (rd_LFace l0_0 x4_2) x5_3).f0)) ∧ w'.cell? ⟨gb107, 1, none⟩ = some (.int .i64 ((rd_Face (rd_LFace l0_0 x4_2) x5_3).f1)) ∧ w'.cell? ⟨gb101, 0, none⟩ = some (.slice (some ad105) l0_0.length c0_0)) (ds := []) #[false, false, false, false, false, false, false, false, false, false, false, false, false] (by kernel_rfl) rfl rfl ⟨(blk_cell BK107.out 0).trans rfl, (blk_cell BK107.out 1).trans rfl, (blk_cell BK101.out 0).trans rfl⟩ (fun hHeld => ?_); refine with_tabW spec_IsTriangulation.tab16 spec_IsTriangulation.bits16 (fun HT_ HW_ => ?_)
             generalize wc.drew = w41 at BK101 BK107 HB hHeld ⊢
             refine pure_ (i := 0) (N := some 52) (v := ?_) (a' := ?_) #[true, false, false, false, false, false, false, false, false, false, false, false, false] rfl rfl (any_of HT_.out (by kernel_rfl)) (fun _ _ _ h => h) (Or.inl ⟨by rfl, ?_⟩) ?_ ?_
             rotate_left
             next =>
              intro w'
              go_simp
              with_reducible rfl
             rotate_left
             next =>
              simp only [Act.put, yay, yby, ycy, i64_w, i32_w]
              rfl
             refine take_ (i := 1) (N := some 53) (v := ?_) (a' := ?_) #[true, true, false, false, false, false, false, false, false, false, false, false, false] rfl rfl (take_ofW HT_.out HW_.out (by kernel_rfl)) (fun _ _ _ h => h) (Or.inl ⟨by rfl, ?_⟩) hHeld ?_ ?_
             rotate_left
             next =>
              rintro w' ⟨s0, s1, s2⟩
              go_simp
              with_reducible rfl
             rotate_left
             next =>
              simp only [Act.put, yay, yby, ycy, i64_w, i32_w]
              rfl
             refine take_ (i := 2) (N := some 54) (v := ?_) (a' := ?_) #[true, true, true, false, false, false, false, false, false, false, false, false, false] rfl rfl (take_ofW HT_.out HW_.out (by kernel_rfl)) (fun _ _ _ h => h) (Or.inl ⟨by rfl, ?_⟩) hHeld ?_ ?_
             rotate_left
             next =>
              rintro w' ⟨s0, s1, s2⟩
              go_simp
              with_reducible rfl
             rotate_left
             next =>
              simp only [Act.put, yay, yby, ycy, i64_w, i32_w]
              rfl
             refine one_ (i := 3) (N := some 55) #[true, true, true, true, false, false, false, false, false, false, false, false, false] rfl rfl (one_of HT_.out (by kernel_rfl)) (by decide) (fun K hK => ?_)
             refine goes_ Try.func34 (by kernel_rfl) rfl #[.agg #[.slice (some ad105) l0_0.length c0_0]] (by rfl) rfl rfl (by (try simp only [yiy, yjy, yky]); first | done | rfl | (simp only [yly, ymy]; rfl)) ?_
             with_reducible refine (spec_l07Tets.calls _ _ l0_0 t108 _ ?side1 ?side2 A37.out).mono ?_
             (case side1 => repeat (first | exact (Kd.C_below HR0_0.out HB.out) | (with_reducible refine Kd.C_alloc ?_ _) | (with_reducible refine Kd.C_drewN ?_ _) | (with_reducible refine Kd.C_drew ?_)))
             (case side2 => exact HC0_0.out)
             rintro e w42 ⟨rfl, hb⟩
             refine ⟨_, rfl, ?_⟩
             have n0_ := Aside0.mk (blk_below (g := gb101) (o := .cells #[.slice (some ad105) l0_0.length c0_0] 30 (0, 0)) (by (with_reducible repeat (first | refine blk_drewN ?_ _ | refine blk_drew ?_ | refine blk_alloc ?_ _)); exact BK101.out) hb)
             have n1_ := Aside0.mk (blk_below (g := gb107) (o := .cells #[.int .i64 ((rd_Face (rd_LFace l0_0 x4_2) x5_3).f0), .int .i64 ((rd_Face (rd_LFace l0_0 x4_2) x5_3).f1)] 59 (0, 0)) (by (with_reducible repeat (first | refine blk_drewN ?_ _ | refine blk_drew ?_ | refine blk_alloc ?_ _)); exact BK107.out) hb)
             have n2_ := Aside0.mk (below_step (by repeat (first | (with_reducible first | exact HB.out | apply below_alloc | apply pw_below_drewN | apply below_drew1 | refine below_set ?_ GE101.out | refine below_set ?_ GE107.out) | exact HB.out)) hb)
             clear BK101
             clear BK107
             clear HB
             have BK101 := n0_
             have BK107 := n1_
             have HB := n2_
             clear n0_ n1_ n2_
             (try clear hb)
             (try clear hb2)
             (try clear hk)
             (try clear hi)
             refine hK.out _ _ ⟨(blk_cell BK107.out 0).trans rfl, (blk_cell BK107.out 1).trans rfl, (blk_cell BK101.out 0).trans rfl⟩ (fun hHeld => ?_)
             clear hK K
             refine norm_ (a' := ?_) ?_ ?_
             rotate_left
             next =>
              show Act.put _ (some 55) _ = _
              simp only [Act.put, yay, yby, ycy, i64_w, i32_w]
              rfl
             refine pure_ (i := 4) (N := some 56) (v := ?_) (a' := ?_) #[true, true, true, true, true, false, false, false, false, false, false, false, false] rfl rfl (any_of HT_.out (by kernel_rfl)) (fun _ _ _ h => h) (Or.inl ⟨by rfl, ?_⟩) ?_ ?_
             rotate_left
             next =>
              intro w'
              go_simp
              with_reducible rfl
             rotate_left
             next =>
              simp only [Act.put, yay, yby, ycy, i64_w, i32_w]
              rfl
             refine one_ (i := 5) (N := some 57) #[true, true, true, true, true, true, false, false, false, false, false, false, false] rfl rfl (one_of HT_.out (by kernel_rfl)) (by decide) (fun K hK => ?_)
             refine goes_ Try.func48 (by kernel_rfl) rfl #[.int .i64 ((rd_Face (rd_LFace l0_0 x4_2) x5_3).f0), .int .i64 0, .int .i64 (wrap64 (t108 - 1))] (by rfl) rfl rfl (by (try simp only [yiy, yjy, yky]); first | done | rfl | (simp only [yly, ymy]; rfl)) ?_
             with_reducible refine (spec_l07In.calls ((rd_Face (rd_LFace l0_0 x4_2) x5_3).f0) 0 (wrap64 (t108 - 1)) true _ A38.out).mono ?_
             rintro e w' ⟨rfl, ⟨nd, rfl⟩⟩
             refine ⟨_, rfl, ?_⟩
             refine hK.out _ _ ⟨(blk_cell BK107.out 0).trans rfl, (blk_cell BK107.out 1).trans rfl, (blk_cell BK101.out 0).trans rfl⟩ (fun hHeld => ?_)
             clear hK K
             refine norm_ (a' := ?_) ?_ ?_
             rotate_left
             next =>
              show Act.put _ (some 57) _ = _
              simp only [Act.put, yay, yby, ycy, i64_w, i32_w]
              rfl
             refine pure_ (i := 6) (N := some 58) (v := ?_) (a' := ?_) #[true, true, true, true, true, true, true, false, false, false, false, false, false] rfl rfl (any_of HT_.out (by kernel_rfl)) (fun _ _ _ h => h) (Or.inl ⟨by rfl, ?_⟩) ?_ ?_
             rotate_left
             next =>
              intro w'
              go_simp
              with_reducible rfl
             rotate_left
             next =>
              simp only [Act.put, yay, yby, ycy, i64_w, i32_w]
              rfl
             refine pure_ (i := 7) (N := some 59) (v := ?_) (a' := ?_) #[true, true, true, true, true, true, true, true, false, false, false, false, false] rfl rfl (any_of HT_.out (by kernel_rfl)) (fun _ _ _ h => h) (Or.inl ⟨by rfl, ?_⟩) ?_ ?_
             rotate_left
             next =>
              intro w'
              go_simp
              with_reducible rfl
             rotate_left
             next =>
              simp only [Act.put, yay, yby, ycy, i64_w, i32_w]
              rfl
             refine pure_ (i := 8) (N := some 60) (v := ?_) (a' := ?_) #[true, true, true, true, true, true, true, true, true, false, false, false, false] rfl rfl (any_of HT_.out (by kernel_rfl)) (fun _ _ _ h => h) (Or.inl ⟨by rfl, ?_⟩) ?_ ?_
             rotate_left
             next =>
              intro w'
              go_simp
              with_reducible rfl
             rotate_left
             next =>
              simp only [Act.put, yay, yby, ycy, i64_w, i32_w]
              rfl
             refine take_ (i := 9) (N := some 61) (v := ?_) (a' := ?_) #[true, true, true, true, true, true, true, true, true, true, false, false, false] rfl rfl (take_ofW HT_.out HW_.out (by kernel_rfl)) (fun _ _ _ h => h) (Or.inl ⟨by rfl, ?_⟩) hHeld ?_ ?_
             rotate_left
             next =>
              rintro w' ⟨s0, s1, s2⟩
              go_simp
              with_reducible rfl
             rotate_left
             next =>
              simp only [Act.put, yay, yby, ycy, i64_w, i32_w]
              rfl
             refine one_ (i := 10) (N := some 62) #[true, true, true, true, true, true, true, true, true, true, true, false, false] rfl rfl (one_of HT_.out (by kernel_rfl)) (by decide) (fun K hK => ?_)
             refine goes_ Try.func95 (by kernel_rfl) rfl #[.int .i64 ((rd_Face (rd_LFace l0_0 x4_2) x5_3).f1)] (by rfl) rfl rfl (by (try simp only [yiy, yjy, yky]); first | done | rfl | (simp only [yly, ymy]; rfl)) ?_
             with_reducible refine (spec_l06Valid.calls ((rd_Face (rd_LFace l0_0 x4_2) x5_3).f1) t110 _ A40.out).mono ?_
             rintro e w' ⟨rfl, ⟨nd, rfl⟩⟩
             refine ⟨_, rfl, ?_⟩
             refine hK.out _ _ ⟨(blk_cell BK107.out 0).trans rfl, (blk_cell BK107.out 1).trans rfl, (blk_cell BK101.out 0).trans rfl⟩ (fun hHeld => ?_)
             clear hK K
             refine norm_ (a' := ?_) ?_ ?_
             rotate_left
             next =>
              show Act.put _ (some 62) _ = _
              simp only [Act.put, yay, yby, ycy, i64_w, i32_w]
              rfl
             refine pure_ (i := 11) (N := some 63) (v := ?_) (a' := ?_) #[true, true, true, true, true, true, true, true, true, true, true, true, false] rfl rfl (any_of HT_.out (by kernel_rfl)) (fun _ _ _ h => h) (Or.inl ⟨by rfl, ?_⟩) ?_ ?_
             rotate_left
             next =>
              intro w'
              go_simp
              with_reducible rfl
             rotate_left
             next =>
              simp only [Act.put, yay, yby, ycy, i64_w, i32_w]
              rfl
             refine pure_ (i := 12) (N := some 64) (v := ?_) (a' := ?_) #[true, true, true, true, true, true, true, true, true, true, true, true, true] rfl rfl (any_of HT_.out (by kernel_rfl)) (fun _ _ _ h => h) (Or.inl ⟨by rfl, ?_⟩) ?_ ?_
             rotate_left
             next =>
              intro w'
              go_simp
              with_reducible rfl
             rotate_left
             next =>
              simp only [Act.put, yay, yby, ycy, i64_w, i32_w]
              rfl
             refine done_ (done_of HT_.out (by kernel_rfl)) ?_
             try go_wp2
             go_meet
             case rel => exact ⟨_, (!t110), (by first | rfl | (simp; done) | (simp [*]; done)), H', ⟨by have := HK1.out; have := HK2.out; have := HK3.out; have := HJ24.out; first | omega | exact yoy _⟩, ⟨by (with_reducible repeat (first | refine blk_drewN ?_ _ | refine blk_drew ?_ | refine blk_alloc ?_ _)); exact BK101.out⟩, ⟨by (with_reducible repeat (first | refine blk_drewN ?_ _ | refine blk_drew ?_ | refine blk_alloc ?_ _)); exact BK107.out⟩, ⟨by repeat (first | (with_reducible first | exact HB.out | apply below_alloc | apply pw_below_drewN | apply below_drew1 | refine below_set ?_ GE101.out | refine below_set ?_ GE107.out) | exact HB.out)⟩⟩
            case rest =>
             clear HC36
             try clear c1
             try clear p1
             try clear q1
             try clear hx1
             try clear c2
             try clear p2
             try clear c3
             try clear c3b0
             try clear c4
             try clear c5
             try clear p6
             try clear c9
             try clear c10
             try clear c10b0
             try clear p10
             try clear q10
             try clear hx10
             try clear c11
             try clear c11b0
             try clear c12
             try clear c12b0
             try clear c12b1
             try clear c17
             try clear c17b0
             try clear c20
             try clear c20b0
             try clear c21
             try clear c21b0
             try clear c22
             try clear c22b0
             try clear c23
             try clear c23b0
             try clear c24
             try clear c24b0
             try clear c28
             try clear c30
             try clear c30b0
             try clear c30b1
             try clear c31
             try clear c33
             try clear c34
             try clear c35
             try clear c39
             try clear hcz13_0
             try clear hcz14_0
             try clear hcz15_0
             try clear hcz18_0
             try clear hcz26_0
             try clear hcz29_0
             try clear hcz29_1
             try clear hcz32_0
             try clear hcz32_1
             try clear hcz34_0
             try clear hcz34_1
             try clear hcz5_0
             try clear hcz8_0
             try clear hfz13_0
             try clear hfz14_0
             try clear hfz15_0
             try clear hfz18_0
             try clear hfz26_0
             try clear hfz29_0
             try clear hfz29_1
             try clear hfz32_0
             try clear hfz32_1
             try clear hfz34_0
             try clear hfz34_1
             try clear hfz5_0
             try clear hfz8_0
             try clear hx103_0
             try clear hx105_0
             try clear hx106_0
             try clear hx106_1
             try clear p1
             try clear p10
             try clear p103
             try clear p105
             try clear p106
             try clear p2
             try clear p6
             try clear q1
             try clear q10
             try clear q103
             try clear q105
             try clear q106
             obtain ⟨kq, x64_35, rfl, HA, HJ35, BK101, BK107, HB⟩ := hcut
             cases kq with
             | zero => exact absurd HA.out (by simp [spec_IsTriangulation.j4])
             | succ kj35 =>
              have H := HA.out
              clear HA
              simp only [spec_IsTriangulation.j4] at H
              by_cases c45 : x64_35 = true
              next =>
               subst c45
               have H1 : (some false) = some r := by rw [if_pos rfl] at H; exact H
               clear H
               have H := H1
               clear H1
               obtain rfl := yey H
               go_wp2
               go_ret
               exact ⟨by first | rfl | (simp [errW_none, errW_some] <;> rfl) | (simp [*, errW_none, errW_some] <;> rfl), by repeat (first | (with_reducible first | exact HB.out | apply below_alloc | apply pw_below_drewN | apply below_drew1 | refine below_set ?_ GE101.out | refine below_set ?_ GE107.out) | exact HB.out)⟩
              next =>
               replace c45 := Bool.eq_false_iff.mpr c45
               subst c45
               have H1 : ((spec_l06At.f kj35 ((rd_Face (rd_LFace l0_0 x4_2) x5_3).f1) x5_3).bind fun t111 => ((spec_l06Back.f kj35 ((rd_Face (rd_LFace l0_0 x4_2) x5_3).f1)).bind fun t112 => (if 0 ≤ ((rd_Face (rd_LFace l0_0 x4_2) x5_3).f0) then (if ((rd_Face (rd_LFace l0_0 x4_2) x5_3).f0) < (l0_0.length : Int) then (if 0 ≤ t111 then (if t111 < ((rd_LFace l0_0 ((rd_Face (rd_LFace l0_0 x4_2) x5_3).f0)).length : Int) then (if (!(((rd_Face (rd_LFace l0_0 ((rd_Face (rd_LFace l0_0 x4_2) x5_3).f0)) t111).f0) == x4_2) || (!(((rd_Face (rd_LFace l0_0 ((rd_Face (rd_LFace l0_0 x4_2) x5_3).f0)) t111).f1) == t112))) = true then (some false) else (if ((rd_Face (rd_LFace l0_0 x4_2) x5_3).f0) = x4_2 then (if t111 = x5_3 then (some false) else (spec_IsTriangulation.l2 kj35 x4_2 (wrap64 (x5_3 + 1)) l0_0)) else (spec_IsTriangulation.l2 kj35 x4_2 (wrap64 (x5_3 + 1)) l0_0))) else (none)) else (none)) else (none)) else (none)))) = some r := by rw [if_neg (show ¬ (false = true) by decide)] at H; exact H
               clear H
               have H := H1
               clear H1
               replace H := ydy.mp H
               obtain ⟨t111, A460, H⟩ := H
               replace H : ((spec_l06Back.f kj35 ((rd_Face (rd_LFace l0_0 x4_2) x5_3).f1)).bind fun t112 => (if 0 ≤ ((rd_Face (rd_LFace l0_0 x4_2) x5_3).f0) then (if ((rd_Face (rd_LFace l0_0 x4_2) x5_3).f0) < (l0_0.length : Int) then (if 0 ≤ t111 then (if t111 < ((rd_LFace l0_0 ((rd_Face (rd_LFace l0_0 x4_2) x5_3).f0)).length : Int) then (if (!(((rd_Face (rd_LFace l0_0 ((rd_Face (rd_LFace l0_0 x4_2) x5_3).f0)) t111).f0) == x4_2) || (!(((rd_Face (rd_LFace l0_0 ((rd_Face (rd_LFace l0_0 x4_2) x5_3).f0)) t111).f1) == t112))) = true then (some false) else (if ((rd_Face (rd_LFace l0_0 x4_2) x5_3).f0) = x4_2 then (if t111 = x5_3 then (some false) else (spec_IsTriangulation.l2 kj35 x4_2 (wrap64 (x5_3 + 1)) l0_0)) else (spec_IsTriangulation.l2 kj35 x4_2 (wrap64 (x5_3 + 1)) l0_0))) else (none)) else (none)) else (none)) else (none))) = some r := H
               have A46 := Aside0.mk A460
               clear A460
               replace H := ydy.mp H
               obtain ⟨t112, A470, H⟩ := H
               replace H : (if 0 ≤ ((rd_Face (rd_LFace l0_0 x4_2) x5_3).f0) then (if ((rd_Face (rd_LFace l0_0 x4_2) x5_3).f0) < (l0_0.length : Int) then (if 0 ≤ t111 then (if t111 < ((rd_LFace l0_0 ((rd_Face (rd_LFace l0_0 x4_2) x5_3).f0)).length : Int) then (if (!(((rd_Face (rd_LFace l0_0 ((rd_Face (rd_LFace l0_0 x4_2) x5_3).f0)) t111).f0) == x4_2) || (!(((rd_Face (rd_LFace l0_0 ((rd_Face (rd_LFace l0_0 x4_2) x5_3).f0)) t111).f1) == t112))) = true then (some false) else (if ((rd_Face (rd_LFace l0_0 x4_2) x5_3).f0) = x4_2 then (if t111 = x5_3 then (some false) else (spec_IsTriangulation.l2 kj35 x4_2 (wrap64 (x5_3 + 1)) l0_0)) else (spec_IsTriangulation.l2 kj35 x4_2 (wrap64 (x5_3 + 1)) l0_0))) else (none)) else (none)) else (none)) else (none)) = some r := H
               have A47 := Aside0.mk A470
               clear A470
               by_cases c48 : 0 ≤ ((rd_Face (rd_LFace l0_0 x4_2) x5_3).f0)
               rotate_left
               next =>
                rw [if_neg c48] at H
                exact absurd H (by simp)
               rw [if_pos c48] at H
               have c48b0 : decide (0 ≤ ((rd_Face (rd_LFace l0_0 x4_2) x5_3).f0)) = true := ygy c48
               clear c48
               by_cases c49 : ((rd_Face (rd_LFace l0_0 x4_2) x5_3).f0) < (l0_0.length : Int)
               rotate_left
               next =>
                rw [if_neg c49] at H
                exact absurd H (by simp)
               rw [if_pos c49] at H
               have c49b0 : decide (((rd_Face (rd_LFace l0_0 x4_2) x5_3).f0) < (l0_0.length : Int)) = true := ygy c49
               clear c49
               by_cases c50 : 0 ≤ t111
               rotate_left
               next =>
                rw [if_neg c50] at H
                exact absurd H (by simp)
               rw [if_pos c50] at H
               have c50b0 : decide (0 ≤ t111) = true := ygy c50
               clear c50
               by_cases c51 : t111 < ((rd_LFace l0_0 ((rd_Face (rd_LFace l0_0 x4_2) x5_3).f0)).length : Int)
               rotate_left
               next =>
                rw [if_neg c51] at H
                exact absurd H (by simp)
               rw [if_pos c51] at H
               have c51b0 : decide (t111 < ((rd_LFace l0_0 ((rd_Face (rd_LFace l0_0 x4_2) x5_3).f0)).length : Int)) = true := ygy c51
               clear c51
               by_cases c52 : (!(((rd_Face (rd_LFace l0_0 ((rd_Face (rd_LFace l0_0 x4_2) x5_3).f0)) t111).f0) == x4_2) || (!(((rd_Face (rd_LFace l0_0 ((rd_Face (rd_LFace l0_0 x4_2) x5_3).f0)) t111).f1) == t112))) = true
               next =>
                rw [if_pos c52] at H
                have c52b0 : (!(((rd_Face (rd_LFace l0_0 ((rd_Face (rd_LFace l0_0 x4_2) x5_3).f0)) t111).f0) == x4_2) || (!(((rd_Face (rd_LFace l0_0 ((rd_Face (rd_LFace l0_0 x4_2) x5_3).f0)) t111).f1) == t112))) = true := c52
                clear c52
                obtain rfl := yey H
                have hnb53 := NB107_101.out
                have hnc53 := NB101_107.out
                have hcz54_0 : wc.cell? ⟨gb107, 0, none⟩ = some (.int .i64 ((rd_Face (rd_LFace l0_0 x4_2) x5_3).f0)) := (blk_cell BK107.out 0).trans rfl
                have hcz54_1 : wc.cell? ⟨gb107, 1, none⟩ = some (.int .i64 ((rd_Face (rd_LFace l0_0 x4_2) x5_3).f1)) := (blk_cell BK107.out 1).trans rfl
                have hfz54_0 := blk_frozen BK107.out 0
                have hfz54_1 := blk_frozen BK107.out 1
                try go_wp2_with (first | ((with_reducible refine gate_callee (f := 36) rfl ?_); refine goesL_ (some 68) rfl rfl Try.func36 (by kernel_rfl) rfl #[.int .i64 ((rd_Face (rd_LFace l0_0 x4_2) x5_3).f1), .int .i64 x5_3] rfl (by (try simp only [yiy, yjy, yky]); first | done | rfl | (simp only [yly, ymy]; rfl)) ?_; (with_reducible refine (spec_l06At.calls kj35 ((rd_Face (rd_LFace l0_0 x4_2) x5_3).f1) x5_3 t111 _ A46.out).mono ?_); rintro e w55 ⟨rfl, hb⟩; refine ⟨_, rfl, ?_⟩; have n0_ := Aside0.mk (blk_below (g := gb101) (o := .cells #[.slice (some ad105) l0_0.length c0_0] 30 (0, 0)) (by (with_reducible repeat (first | refine blk_drewN ?_ _ | refine blk_drew ?_ | refine blk_alloc ?_ _)); exact BK101.out) hb); have n1_ := Aside0.mk (blk_below (g := gb107) (o := .cells #[.int .i64 ((rd_Face (rd_LFace l0_0 x4_2) x5_3).f0), .int .i64 ((rd_Face (rd_LFace l0_0 x4_2) x5_3).f1)] 59 (0, 0)) (by (with_reducible repeat (first | refine blk_drewN ?_ _ | refine blk_drew ?_ | refine blk_alloc ?_ _)); exact BK107.out) hb); have n2_ := Aside0.mk (below_step (by repeat (first | (with_reducible first | exact HB.out | apply below_alloc | apply pw_below_drewN | apply below_drew1 | refine below_set ?_ GE101.out | refine below_set ?_ GE107.out) | exact HB.out)) hb); clear BK101; clear BK107; clear HB; have BK101 := n0_; have BK107 := n1_; have HB := n2_; clear n0_ n1_ n2_; (try clear hb); (try clear hb2); (try clear hk); (try clear hi); have hcz56_0 : w55.cell? ⟨gb107, 0, none⟩ = some (.int .i64 ((rd_Face (rd_LFace l0_0 x4_2) x5_3).f0)) := (blk_cell BK107.out 0).trans rfl; have hcz56_1 : w55.cell? ⟨gb107, 1, none⟩ = some (.int .i64 ((rd_Face (rd_LFace l0_0 x4_2) x5_3).f1)) := (blk_cell BK107.out 1).trans rfl; have hfz56_0 := blk_frozen BK107.out 0; have hfz56_1 := blk_frozen BK107.out 1) | ((with_reducible refine gate_callee (f := 96) rfl ?_); refine goesL_ (some 72) rfl rfl Try.func96 (by kernel_rfl) rfl #[.int .i64 ((rd_Face (rd_LFace l0_0 x4_2) x5_3).f1)] rfl (by (try simp only [yiy, yjy, yky]); first | done | rfl | (simp only [yly, ymy]; rfl)) ?_; (with_reducible refine (spec_l06Back.calls kj35 ((rd_Face (rd_LFace l0_0 x4_2) x5_3).f1) t112 _ A47.out).mono ?_); rintro e w57 ⟨rfl, hb⟩; refine ⟨_, rfl, ?_⟩; have n0_ := Aside0.mk (blk_below (g := gb101) (o := .cells #[.slice (some ad105) l0_0.length c0_0] 30 (0, 0)) (by (with_reducible repeat (first | refine blk_drewN ?_ _ | refine blk_drew ?_ | refine blk_alloc ?_ _)); exact BK101.out) hb); have n1_ := Aside0.mk (blk_below (g := gb107) (o := .cells #[.int .i64 ((rd_Face (rd_LFace l0_0 x4_2) x5_3).f0), .int .i64 ((rd_Face (rd_LFace l0_0 x4_2) x5_3).f1)] 59 (0, 0)) (by (with_reducible repeat (first | refine blk_drewN ?_ _ | refine blk_drew ?_ | refine blk_alloc ?_ _)); exact BK107.out) hb); have n2_ := Aside0.mk (below_step (by repeat (first | (with_reducible first | exact HB.out | apply below_alloc | apply pw_below_drewN | apply below_drew1 | refine below_set ?_ GE101.out | refine below_set ?_ GE107.out) | exact HB.out)) hb); clear BK101; clear BK107; clear HB; have BK101 := n0_; have BK107 := n1_; have HB := n2_; clear n0_ n1_ n2_; (try clear hb); (try clear hb2); (try clear hk); (try clear hi)) | ((with_reducible refine gate_dst (N := 8) rfl ?_); refine box_event ?hg (N := 8) ?hd (cs := #[.int .i64 0, .int .i64 0]) (t := 59) ?hr ?_; (case hd => rfl); (case hg => rfl); (case hr => first | (go_simp; done) | (go_simp; rfl)); intro gb113 hg w58 hbox hb; have n0_ := Aside0.mk (blk_below (g := gb101) (o := .cells #[.slice (some ad105) l0_0.length c0_0] 30 (0, 0)) (by (with_reducible repeat (first | refine blk_drewN ?_ _ | refine blk_drew ?_ | refine blk_alloc ?_ _)); exact BK101.out) hb); have n1_ := Aside0.mk (blk_below (g := gb107) (o := .cells #[.int .i64 ((rd_Face (rd_LFace l0_0 x4_2) x5_3).f0), .int .i64 ((rd_Face (rd_LFace l0_0 x4_2) x5_3).f1)] 59 (0, 0)) (by (with_reducible repeat (first | refine blk_drewN ?_ _ | refine blk_drew ?_ | refine blk_alloc ?_ _)); exact BK107.out) hb); have n2_ := Aside0.mk (below_step (by repeat (first | (with_reducible first | exact HB.out | apply below_alloc | apply pw_below_drewN | apply below_drew1 | refine below_set ?_ GE101.out | refine below_set ?_ GE107.out) | exact HB.out)) hb); have n3_ := Aside0.mk (hbox); have n4_ := Aside0.mk ((by rw [hg]; exact (below_size (by repeat (first | (with_reducible first | exact HB.out | apply below_alloc | apply pw_below_drewN | apply below_drew1 | refine below_set ?_ GE101.out | refine below_set ?_ GE107.out) | exact HB.out))) : w.heap.size ≤ gb113)); have n5_ := Aside0.mk ((by rw [hg]; exact (below_size (by repeat (first | (with_reducible first | exact HB.out | apply below_alloc | apply pw_below_drewN | apply below_drew1 | refine below_set ?_ GE101.out | refine below_set ?_ GE107.out) | exact HB.out))) : w.heap.size ≤ gb113)); have n6_ := Aside0.mk ((by rw [hg]; exact Nat.ne_of_lt (blk_lt (g := gb101) (o := .cells #[.slice (some ad105) l0_0.length c0_0] 30 (0, 0)) (by (with_reducible repeat (first | refine blk_drewN ?_ _ | refine blk_drew ?_ | refine blk_alloc ?_ _)); exact BK101.out)) : gb101 ≠ gb113)); have n7_ := Aside0.mk ((by rw [hg]; exact Nat.ne_of_gt (blk_lt (g := gb101) (o := .cells #[.slice (some ad105) l0_0.length c0_0] 30 (0, 0)) (by (with_reducible repeat (first | refine blk_drewN ?_ _ | refine blk_drew ?_ | refine blk_alloc ?_ _)); exact BK101.out)) : gb113 ≠ gb101)); have n8_ := Aside0.mk ((by rw [hg]; exact Nat.ne_of_lt (blk_lt (g := gb107) (o := .cells #[.int .i64 ((rd_Face (rd_LFace l0_0 x4_2) x5_3).f0), .int .i64 ((rd_Face (rd_LFace l0_0 x4_2) x5_3).f1)] 59 (0, 0)) (by (with_reducible repeat (first | refine blk_drewN ?_ _ | refine blk_drew ?_ | refine blk_alloc ?_ _)); exact BK107.out)) : gb107 ≠ gb113)); have n9_ := Aside0.mk ((by rw [hg]; exact Nat.ne_of_gt (blk_lt (g := gb107) (o := .cells #[.int .i64 ((rd_Face (rd_LFace l0_0 x4_2) x5_3).f0), .int .i64 ((rd_Face (rd_LFace l0_0 x4_2) x5_3).f1)] 59 (0, 0)) (by (with_reducible repeat (first | refine blk_drewN ?_ _ | refine blk_drew ?_ | refine blk_alloc ?_ _)); exact BK107.out)) : gb113 ≠ gb107)); clear BK101; clear BK107; clear HB; have BK101 := n0_; have BK107 := n1_; have HB := n2_; have BK113 := n3_; have GW113 := n4_; have GE113 := n5_; have NB101_113 := n6_; have NB113_101 := n7_; have NB107_113 := n8_; have NB113_107 := n9_; clear n0_ n1_ n2_ n3_ n4_ n5_ n6_ n7_ n8_ n9_; clear hb hbox hg; have hnb59 := NB113_101.out; have hnc59 := NB101_113.out; have hnb60 := NB113_107.out; have hnc60 := NB107_113.out; have hcz61_0 : w58.cell? ⟨gb113, 0, none⟩ = some (.int .i64 0) := (blk_cell BK113.out 0).trans rfl; have hcz61_1 : w58.cell? ⟨gb113, 1, none⟩ = some (.int .i64 0) := (blk_cell BK113.out 1).trans rfl; have hfz61_0 := blk_frozen BK113.out 0; have hfz61_1 := blk_frozen BK113.out 1))
                have n0_ : Aside0 (((w58.setCell ⟨gb113, 0, none⟩ (.int .i64 x4_2)).setCell ⟨gb113, 1, none⟩ (.int .i64 t112)).heap[gb101]? = some (.cells #[.slice (some ad105) l0_0.length c0_0] 30 (0, 0))) := ⟨by (with_reducible repeat (first | refine blk_drewN ?_ _ | refine blk_drew ?_ | refine blk_alloc ?_ _)); refine blk_far ?_ NB101_113.out _; (with_reducible repeat (first | refine blk_drewN ?_ _ | refine blk_drew ?_ | refine blk_alloc ?_ _)); refine blk_far ?_ NB101_113.out _; (with_reducible repeat (first | refine blk_drewN ?_ _ | refine blk_drew ?_ | refine blk_alloc ?_ _)); exact BK101.out⟩
                have n1_ : Aside0 (((w58.setCell ⟨gb113, 0, none⟩ (.int .i64 x4_2)).setCell ⟨gb113, 1, none⟩ (.int .i64 t112)).heap[gb107]? = some (.cells #[.int .i64 ((rd_Face (rd_LFace l0_0 x4_2) x5_3).f0), .int .i64 ((rd_Face (rd_LFace l0_0 x4_2) x5_3).f1)] 59 (0, 0))) := ⟨by (with_reducible repeat (first | refine blk_drewN ?_ _ | refine blk_drew ?_ | refine blk_alloc ?_ _)); refine blk_far ?_ NB107_113.out _; (with_reducible repeat (first | refine blk_drewN ?_ _ | refine blk_drew ?_ | refine blk_alloc ?_ _)); refine blk_far ?_ NB107_113.out _; (with_reducible repeat (first | refine blk_drewN ?_ _ | refine blk_drew ?_ | refine blk_alloc ?_ _)); exact BK107.out⟩
                have n2_ : Aside0 (((w58.setCell ⟨gb113, 0, none⟩ (.int .i64 x4_2)).setCell ⟨gb113, 1, none⟩ (.int .i64 t112)).heap[gb113]? = some (.cells #[.int .i64 x4_2, .int .i64 t112] 59 (0, 0))) := ⟨by (with_reducible repeat (first | refine blk_drewN ?_ _ | refine blk_drew ?_ | refine blk_alloc ?_ _)); refine blk_put (cs := #[.int .i64 x4_2, .int .i64 0]) ?_ 1 _ rfl; (with_reducible repeat (first | refine blk_drewN ?_ _ | refine blk_drew ?_ | refine blk_alloc ?_ _)); refine blk_put (cs := #[.int .i64 0, .int .i64 0]) ?_ 0 _ rfl; (with_reducible repeat (first | refine blk_drewN ?_ _ | refine blk_drew ?_ | refine blk_alloc ?_ _)); exact BK113.out⟩
                have n3_ : Aside0 (Below w.heap.size w ((w58.setCell ⟨gb113, 0, none⟩ (.int .i64 x4_2)).setCell ⟨gb113, 1, none⟩ (.int .i64 t112))) := ⟨by repeat (first | (with_reducible first | exact HB.out | apply below_alloc | apply pw_below_drewN | apply below_drew1 | refine below_set ?_ GE101.out | refine below_set ?_ GE107.out | refine below_set ?_ GE113.out) | exact HB.out)⟩
                (try clear BK101)
                (try clear BK107)
                (try clear BK113)
                (try clear HB)
                generalize ((w58.setCell ⟨gb113, 0, none⟩ (.int .i64 x4_2)).setCell ⟨gb113, 1, none⟩ (.int .i64 t112)) = w62 at n0_ n1_ n2_ n3_ ⊢
                have BK101 := n0_
                have BK107 := n1_
                have BK113 := n2_
                have HB := n3_
                clear n0_ n1_ n2_ n3_
                have p114 : 0 ≤ (((rd_Face (rd_LFace l0_0 x4_2) x5_3).f0) : Int) := of_decide_eq_true (by first | (with_reducible assumption) | assumption)
                have q114 : ((rd_Face (rd_LFace l0_0 x4_2) x5_3).f0) < (l0_0.length : Int) := of_decide_eq_true (by first | (with_reducible assumption) | assumption)
                obtain ⟨ad114, A114_0, c114_0, e114, hx114_0, hl114_0, hi114_0⟩ := at_LFace HR0_0.out ((rd_Face (rd_LFace l0_0 x4_2) x5_3).f0) p114 q114
                have hw114_0 := hx114_0
                obtain rfl : ad105 = ad114 := (by injection e114)
                replace hx114_0 := (HB.out.cell (yny w _ hx114_0)).trans hx114_0
                have HR114_0 := Aside0.mk hi114_0
                have HC114_0 := Aside0.mk hl114_0
                clear hi114_0 hl114_0
                replace p114 := eq_true p114
                replace q114 := eq_true q114
                have p115 : 0 ≤ (t111 : Int) := of_decide_eq_true (by first | (with_reducible assumption) | assumption)
                have q115 : t111 < ((rd_LFace l0_0 ((rd_Face (rd_LFace l0_0 x4_2) x5_3).f0)).length : Int) := of_decide_eq_true (by first | (with_reducible assumption) | assumption)
                obtain ⟨ad115, e115, hx115_0, hx115_1⟩ := at_Face HR114_0.out t111 p115 q115
                have hw115_1 := hx115_1
                have hw115_0 := hx115_0
                cases e115
                replace hx115_0 := (HB.out.cell (yny w _ hx115_0)).trans hx115_0
                replace hx115_1 := (HB.out.cell (yny w _ hx115_1)).trans hx115_1
                replace p115 := eq_true p115
                replace q115 := eq_true q115
                have sq0_ : w62.cell? ⟨gb101, 0, none⟩ = some (.slice (some ad105) l0_0.length c0_0) := (blk_cell BK101.out 0).trans rfl
                have sq1_ : w62.cell? ⟨gb107, 0, none⟩ = some (.int .i64 ((rd_Face (rd_LFace l0_0 x4_2) x5_3).f0)) := (blk_cell BK107.out 0).trans rfl
                have sq2_ : w62.cell? ⟨gb107, 1, none⟩ = some (.int .i64 ((rd_Face (rd_LFace l0_0 x4_2) x5_3).f1)) := (blk_cell BK107.out 1).trans rfl
                have sq3_ : w62.cell? ⟨gb113, 0, none⟩ = some (.int .i64 x4_2) := (blk_cell BK113.out 0).trans rfl
                have sq4_ : w62.cell? ⟨gb113, 1, none⟩ = some (.int .i64 t112) := (blk_cell BK113.out 1).trans rfl
                have sq5_ : w62.cell? (ad105.add (((rd_Face (rd_LFace l0_0 x4_2) x5_3).f0)).toNat) = some (.slice (some ad115) (rd_LFace l0_0 ((rd_Face (rd_LFace l0_0 x4_2) x5_3).f0)).length c114_0) := ((HB.out.cell (yny w _ hw114_0)).trans hw114_0)
                have sq6_ : w62.cell? (ad115.add ((t111).toNat * 2)) = some (.int .i64 ((rd_Face (rd_LFace l0_0 ((rd_Face (rd_LFace l0_0 x4_2) x5_3).f0)) t111).f0)) := ((HB.out.cell (yny w _ hw115_0)).trans hw115_0)
                have sq7_ : w62.cell? ⟨(ad115.add ((t111).toNat * 2)).block, (ad115.add ((t111).toNat * 2)).off + 1, none⟩ = some (.int .i64 ((rd_Face (rd_LFace l0_0 ((rd_Face (rd_LFace l0_0 x4_2) x5_3).f0)) t111).f1)) := ((HB.out.cell (yny w _ hw115_1)).trans hw115_1)
                go_quiet (fail)
                generalize hq_ : World.drewN w62 _ = w63
                have n0_ := Aside0.mk (blk_at hq_ BK101.out)
                have n1_ := Aside0.mk (blk_at hq_ BK107.out)
                have n2_ := Aside0.mk (blk_at hq_ BK113.out)
                have n3_ := Aside0.mk (below_at hq_ HB.out)
                clear BK101 BK107 BK113 HB hq_ sq0_ sq1_ sq2_ sq3_ sq4_ sq5_ sq6_ sq7_
                have BK101 := n0_
                have BK107 := n1_
                have BK113 := n2_
                have HB := n3_
                clear n0_ n1_ n2_ n3_
                try go_wp2
                go_ret
                exact ⟨by first | rfl | (simp [errW_none, errW_some] <;> rfl) | (simp [*, errW_none, errW_some] <;> rfl), by repeat (first | (with_reducible first | exact HB.out | apply below_alloc | apply pw_below_drewN | apply below_drew1 | refine below_set ?_ GE101.out | refine below_set ?_ GE107.out | refine below_set ?_ GE113.out) | exact HB.out)⟩
               next =>
                rw [if_neg c52] at H
                have c52b0 : (!(((rd_Face (rd_LFace l0_0 ((rd_Face (rd_LFace l0_0 x4_2) x5_3).f0)) t111).f0) == x4_2) || (!(((rd_Face (rd_LFace l0_0 ((rd_Face (rd_LFace l0_0 x4_2) x5_3).f0)) t111).f1) == t112))) = false := by simpa using c52
                clear c52
                by_cases c64 : ((rd_Face (rd_LFace l0_0 x4_2) x5_3).f0) = x4_2
                rotate_left
                next =>
                 rw [if_neg c64] at H
                 have c64b0 : (((rd_Face (rd_LFace l0_0 x4_2) x5_3).f0) == x4_2) = false := beq_eq_false_iff_ne.mpr c64
                 have c64b1 : (((rd_Face (rd_LFace l0_0 x4_2) x5_3).f0) != x4_2) = true := bne_iff_ne.mpr c64
                 have H' := Aside0.mk H
                 clear H
                 have hnb88 := NB107_101.out
                 have hnc88 := NB101_107.out
                 have hcz89_0 : wc.cell? ⟨gb107, 0, none⟩ = some (.int .i64 ((rd_Face (rd_LFace l0_0 x4_2) x5_3).f0)) := (blk_cell BK107.out 0).trans rfl
                 have hcz89_1 : wc.cell? ⟨gb107, 1, none⟩ = some (.int .i64 ((rd_Face (rd_LFace l0_0 x4_2) x5_3).f1)) := (blk_cell BK107.out 1).trans rfl
                 have hfz89_0 := blk_frozen BK107.out 0
                 have hfz89_1 := blk_frozen BK107.out 1
                 try go_wp2_with (first | ((with_reducible refine gate_callee (f := 36) rfl ?_); refine goesL_ (some 68) rfl rfl Try.func36 (by kernel_rfl) rfl #[.int .i64 ((rd_Face (rd_LFace l0_0 x4_2) x5_3).f1), .int .i64 x5_3] rfl (by (try simp only [yiy, yjy, yky]); first | done | rfl | (simp only [yly, ymy]; rfl)) ?_; (with_reducible refine (spec_l06At.calls kj35 ((rd_Face (rd_LFace l0_0 x4_2) x5_3).f1) x5_3 t111 _ A46.out).mono ?_); rintro e w90 ⟨rfl, hb⟩; refine ⟨_, rfl, ?_⟩; have n0_ := Aside0.mk (blk_below (g := gb101) (o := .cells #[.slice (some ad105) l0_0.length c0_0] 30 (0, 0)) (by (with_reducible repeat (first | refine blk_drewN ?_ _ | refine blk_drew ?_ | refine blk_alloc ?_ _)); exact BK101.out) hb); have n1_ := Aside0.mk (blk_below (g := gb107) (o := .cells #[.int .i64 ((rd_Face (rd_LFace l0_0 x4_2) x5_3).f0), .int .i64 ((rd_Face (rd_LFace l0_0 x4_2) x5_3).f1)] 59 (0, 0)) (by (with_reducible repeat (first | refine blk_drewN ?_ _ | refine blk_drew ?_ | refine blk_alloc ?_ _)); exact BK107.out) hb); have n2_ := Aside0.mk (below_step (by repeat (first | (with_reducible first | exact HB.out | apply below_alloc | apply pw_below_drewN | apply below_drew1 | refine below_set ?_ GE101.out | refine below_set ?_ GE107.out) | exact HB.out)) hb); clear BK101; clear BK107; clear HB; have BK101 := n0_; have BK107 := n1_; have HB := n2_; clear n0_ n1_ n2_; (try clear hb); (try clear hb2); (try clear hk); (try clear hi); have hcz91_0 : w90.cell? ⟨gb107, 0, none⟩ = some (.int .i64 ((rd_Face (rd_LFace l0_0 x4_2) x5_3).f0)) := (blk_cell BK107.out 0).trans rfl; have hcz91_1 : w90.cell? ⟨gb107, 1, none⟩ = some (.int .i64 ((rd_Face (rd_LFace l0_0 x4_2) x5_3).f1)) := (blk_cell BK107.out 1).trans rfl; have hfz91_0 := blk_frozen BK107.out 0; have hfz91_1 := blk_frozen BK107.out 1) | ((with_reducible refine gate_callee (f := 96) rfl ?_); refine goesL_ (some 72) rfl rfl Try.func96 (by kernel_rfl) rfl #[.int .i64 ((rd_Face (rd_LFace l0_0 x4_2) x5_3).f1)] rfl (by (try simp only [yiy, yjy, yky]); first | done | rfl | (simp only [yly, ymy]; rfl)) ?_; (with_reducible refine (spec_l06Back.calls kj35 ((rd_Face (rd_LFace l0_0 x4_2) x5_3).f1) t112 _ A47.out).mono ?_); rintro e w92 ⟨rfl, hb⟩; refine ⟨_, rfl, ?_⟩; have n0_ := Aside0.mk (blk_below (g := gb101) (o := .cells #[.slice (some ad105) l0_0.length c0_0] 30 (0, 0)) (by (with_reducible repeat (first | refine blk_drewN ?_ _ | refine blk_drew ?_ | refine blk_alloc ?_ _)); exact BK101.out) hb); have n1_ := Aside0.mk (blk_below (g := gb107) (o := .cells #[.int .i64 ((rd_Face (rd_LFace l0_0 x4_2) x5_3).f0), .int .i64 ((rd_Face (rd_LFace l0_0 x4_2) x5_3).f1)] 59 (0, 0)) (by (with_reducible repeat (first | refine blk_drewN ?_ _ | refine blk_drew ?_ | refine blk_alloc ?_ _)); exact BK107.out) hb); have n2_ := Aside0.mk (below_step (by repeat (first | (with_reducible first | exact HB.out | apply below_alloc | apply pw_below_drewN | apply below_drew1 | refine below_set ?_ GE101.out | refine below_set ?_ GE107.out) | exact HB.out)) hb); clear BK101; clear BK107; clear HB; have BK101 := n0_; have BK107 := n1_; have HB := n2_; clear n0_ n1_ n2_; (try clear hb); (try clear hb2); (try clear hk); (try clear hi)) | ((with_reducible refine gate_dst (N := 8) rfl ?_); refine box_event ?hg (N := 8) ?hd (cs := #[.int .i64 0, .int .i64 0]) (t := 59) ?hr ?_; (case hd => rfl); (case hg => rfl); (case hr => first | (go_simp; done) | (go_simp; rfl)); intro gb113 hg w93 hbox hb; have n0_ := Aside0.mk (blk_below (g := gb101) (o := .cells #[.slice (some ad105) l0_0.length c0_0] 30 (0, 0)) (by (with_reducible repeat (first | refine blk_drewN ?_ _ | refine blk_drew ?_ | refine blk_alloc ?_ _)); exact BK101.out) hb); have n1_ := Aside0.mk (blk_below (g := gb107) (o := .cells #[.int .i64 ((rd_Face (rd_LFace l0_0 x4_2) x5_3).f0), .int .i64 ((rd_Face (rd_LFace l0_0 x4_2) x5_3).f1)] 59 (0, 0)) (by (with_reducible repeat (first | refine blk_drewN ?_ _ | refine blk_drew ?_ | refine blk_alloc ?_ _)); exact BK107.out) hb); have n2_ := Aside0.mk (below_step (by repeat (first | (with_reducible first | exact HB.out | apply below_alloc | apply pw_below_drewN | apply below_drew1 | refine below_set ?_ GE101.out | refine below_set ?_ GE107.out) | exact HB.out)) hb); have n3_ := Aside0.mk (hbox); have n4_ := Aside0.mk ((by rw [hg]; exact (below_size (by repeat (first | (with_reducible first | exact HB.out | apply below_alloc | apply pw_below_drewN | apply below_drew1 | refine below_set ?_ GE101.out | refine below_set ?_ GE107.out) | exact HB.out))) : w.heap.size ≤ gb113)); have n5_ := Aside0.mk ((by rw [hg]; exact (below_size (by repeat (first | (with_reducible first | exact HB.out | apply below_alloc | apply pw_below_drewN | apply below_drew1 | refine below_set ?_ GE101.out | refine below_set ?_ GE107.out) | exact HB.out))) : w.heap.size ≤ gb113)); have n6_ := Aside0.mk ((by rw [hg]; exact Nat.ne_of_lt (blk_lt (g := gb101) (o := .cells #[.slice (some ad105) l0_0.length c0_0] 30 (0, 0)) (by (with_reducible repeat (first | refine blk_drewN ?_ _ | refine blk_drew ?_ | refine blk_alloc ?_ _)); exact BK101.out)) : gb101 ≠ gb113)); have n7_ := Aside0.mk ((by rw [hg]; exact Nat.ne_of_gt (blk_lt (g := gb101) (o := .cells #[.slice (some ad105) l0_0.length c0_0] 30 (0, 0)) (by (with_reducible repeat (first | refine blk_drewN ?_ _ | refine blk_drew ?_ | refine blk_alloc ?_ _)); exact BK101.out)) : gb113 ≠ gb101)); have n8_ := Aside0.mk ((by rw [hg]; exact Nat.ne_of_lt (blk_lt (g := gb107) (o := .cells #[.int .i64 ((rd_Face (rd_LFace l0_0 x4_2) x5_3).f0), .int .i64 ((rd_Face (rd_LFace l0_0 x4_2) x5_3).f1)] 59 (0, 0)) (by (with_reducible repeat (first | refine blk_drewN ?_ _ | refine blk_drew ?_ | refine blk_alloc ?_ _)); exact BK107.out)) : gb107 ≠ gb113)); have n9_ := Aside0.mk ((by rw [hg]; exact Nat.ne_of_gt (blk_lt (g := gb107) (o := .cells #[.int .i64 ((rd_Face (rd_LFace l0_0 x4_2) x5_3).f0), .int .i64 ((rd_Face (rd_LFace l0_0 x4_2) x5_3).f1)] 59 (0, 0)) (by (with_reducible repeat (first | refine blk_drewN ?_ _ | refine blk_drew ?_ | refine blk_alloc ?_ _)); exact BK107.out)) : gb113 ≠ gb107)); clear BK101; clear BK107; clear HB; have BK101 := n0_; have BK107 := n1_; have HB := n2_; have BK113 := n3_; have GW113 := n4_; have GE113 := n5_; have NB101_113 := n6_; have NB113_101 := n7_; have NB107_113 := n8_; have NB113_107 := n9_; clear n0_ n1_ n2_ n3_ n4_ n5_ n6_ n7_ n8_ n9_; clear hb hbox hg; have hnb94 := NB113_101.out; have hnc94 := NB101_113.out; have hnb95 := NB113_107.out; have hnc95 := NB107_113.out; have hcz96_0 : w93.cell? ⟨gb113, 0, none⟩ = some (.int .i64 0) := (blk_cell BK113.out 0).trans rfl; have hcz96_1 : w93.cell? ⟨gb113, 1, none⟩ = some (.int .i64 0) := (blk_cell BK113.out 1).trans rfl; have hfz96_0 := blk_frozen BK113.out 0; have hfz96_1 := blk_frozen BK113.out 1))
                 have n0_ : Aside0 (((w93.setCell ⟨gb113, 0, none⟩ (.int .i64 x4_2)).setCell ⟨gb113, 1, none⟩ (.int .i64 t112)).heap[gb101]? = some (.cells #[.slice (some ad105) l0_0.length c0_0] 30 (0, 0))) := ⟨by (with_reducible repeat (first | refine blk_drewN ?_ _ | refine blk_drew ?_ | refine blk_alloc ?_ _)); refine blk_far ?_ NB101_113.out _; (with_reducible repeat (first | refine blk_drewN ?_ _ | refine blk_drew ?_ | refine blk_alloc ?_ _)); refine blk_far ?_ NB101_113.out _; (with_reducible repeat (first | refine blk_drewN ?_ _ | refine blk_drew ?_ | refine blk_alloc ?_ _)); exact BK101.out⟩
                 have n1_ : Aside0 (((w93.setCell ⟨gb113, 0, none⟩ (.int .i64 x4_2)).setCell ⟨gb113, 1, none⟩ (.int .i64 t112)).heap[gb107]? = some (.cells #[.int .i64 ((rd_Face (rd_LFace l0_0 x4_2) x5_3).f0), .int .i64 ((rd_Face (rd_LFace l0_0 x4_2) x5_3).f1)] 59 (0, 0))) := ⟨by (with_reducible repeat (first | refine blk_drewN ?_ _ | refine blk_drew ?_ | refine blk_alloc ?_ _)); refine blk_far ?_ NB107_113.out _; (with_reducible repeat (first | refine blk_drewN ?_ _ | refine blk_drew ?_ | refine blk_alloc ?_ _)); refine blk_far ?_ NB107_113.out _; (with_reducible repeat (first | refine blk_drewN ?_ _ | refine blk_drew ?_ | refine blk_alloc ?_ _)); exact BK107.out⟩
                 have n2_ : Aside0 (((w93.setCell ⟨gb113, 0, none⟩ (.int .i64 x4_2)).setCell ⟨gb113, 1, none⟩ (.int .i64 t112)).heap[gb113]? = some (.cells #[.int .i64 x4_2, .int .i64 t112] 59 (0, 0))) := ⟨by (with_reducible repeat (first | refine blk_drewN ?_ _ | refine blk_drew ?_ | refine blk_alloc ?_ _)); refine blk_put (cs := #[.int .i64 x4_2, .int .i64 0]) ?_ 1 _ rfl; (with_reducible repeat (first | refine blk_drewN ?_ _ | refine blk_drew ?_ | refine blk_alloc ?_ _)); refine blk_put (cs := #[.int .i64 0, .int .i64 0]) ?_ 0 _ rfl; (with_reducible repeat (first | refine blk_drewN ?_ _ | refine blk_drew ?_ | refine blk_alloc ?_ _)); exact BK113.out⟩
                 have n3_ : Aside0 (Below w.heap.size w ((w93.setCell ⟨gb113, 0, none⟩ (.int .i64 x4_2)).setCell ⟨gb113, 1, none⟩ (.int .i64 t112))) := ⟨by repeat (first | (with_reducible first | exact HB.out | apply below_alloc | apply pw_below_drewN | apply below_drew1 | refine below_set ?_ GE101.out | refine below_set ?_ GE107.out | refine below_set ?_ GE113.out) | exact HB.out)⟩
                 (try clear BK101)
                 (try clear BK107)
                 (try clear BK113)
                 (try clear HB)
                 generalize ((w93.setCell ⟨gb113, 0, none⟩ (.int .i64 x4_2)).setCell ⟨gb113, 1, none⟩ (.int .i64 t112)) = w97 at n0_ n1_ n2_ n3_ ⊢
                 have BK101 := n0_
                 have BK107 := n1_
                 have BK113 := n2_
                 have HB := n3_
                 clear n0_ n1_ n2_ n3_
                 have p114 : 0 ≤ (((rd_Face (rd_LFace l0_0 x4_2) x5_3).f0) : Int) := of_decide_eq_true (by first | (with_reducible assumption) | assumption)
                 have q114 : ((rd_Face (rd_LFace l0_0 x4_2) x5_3).f0) < (l0_0.length : Int) := of_decide_eq_true (by first | (with_reducible assumption) | assumption)
                 obtain ⟨ad114, A114_0, c114_0, e114, hx114_0, hl114_0, hi114_0⟩ := at_LFace HR0_0.out ((rd_Face (rd_LFace l0_0 x4_2) x5_3).f0) p114 q114
                 have hw114_0 := hx114_0
                 obtain rfl : ad105 = ad114 := (by injection e114)
                 replace hx114_0 := (HB.out.cell (yny w _ hx114_0)).trans hx114_0
                 have HR114_0 := Aside0.mk hi114_0
                 have HC114_0 := Aside0.mk hl114_0
                 clear hi114_0 hl114_0
                 replace p114 := eq_true p114
                 replace q114 := eq_true q114
                 have p115 : 0 ≤ (t111 : Int) := of_decide_eq_true (by first | (with_reducible assumption) | assumption)
                 have q115 : t111 < ((rd_LFace l0_0 ((rd_Face (rd_LFace l0_0 x4_2) x5_3).f0)).length : Int) := of_decide_eq_true (by first | (with_reducible assumption) | assumption)
                 obtain ⟨ad115, e115, hx115_0, hx115_1⟩ := at_Face HR114_0.out t111 p115 q115
                 have hw115_1 := hx115_1
                 have hw115_0 := hx115_0
                 cases e115
                 replace hx115_0 := (HB.out.cell (yny w _ hx115_0)).trans hx115_0
                 replace hx115_1 := (HB.out.cell (yny w _ hx115_1)).trans hx115_1
                 replace p115 := eq_true p115
                 replace q115 := eq_true q115
                 have sq0_ : w97.cell? ⟨gb101, 0, none⟩ = some (.slice (some ad105) l0_0.length c0_0) := (blk_cell BK101.out 0).trans rfl
                 have sq1_ : w97.cell? ⟨gb107, 0, none⟩ = some (.int .i64 ((rd_Face (rd_LFace l0_0 x4_2) x5_3).f0)) := (blk_cell BK107.out 0).trans rfl
                 have sq2_ : w97.cell? ⟨gb107, 1, none⟩ = some (.int .i64 ((rd_Face (rd_LFace l0_0 x4_2) x5_3).f1)) := (blk_cell BK107.out 1).trans rfl
                 have sq3_ : w97.cell? ⟨gb113, 0, none⟩ = some (.int .i64 x4_2) := (blk_cell BK113.out 0).trans rfl
                 have sq4_ : w97.cell? ⟨gb113, 1, none⟩ = some (.int .i64 t112) := (blk_cell BK113.out 1).trans rfl
                 have sq5_ : w97.cell? (ad105.add (((rd_Face (rd_LFace l0_0 x4_2) x5_3).f0)).toNat) = some (.slice (some ad115) (rd_LFace l0_0 ((rd_Face (rd_LFace l0_0 x4_2) x5_3).f0)).length c114_0) := ((HB.out.cell (yny w _ hw114_0)).trans hw114_0)
                 have sq6_ : w97.cell? (ad115.add ((t111).toNat * 2)) = some (.int .i64 ((rd_Face (rd_LFace l0_0 ((rd_Face (rd_LFace l0_0 x4_2) x5_3).f0)) t111).f0)) := ((HB.out.cell (yny w _ hw115_0)).trans hw115_0)
                 have sq7_ : w97.cell? ⟨(ad115.add ((t111).toNat * 2)).block, (ad115.add ((t111).toNat * 2)).off + 1, none⟩ = some (.int .i64 ((rd_Face (rd_LFace l0_0 ((rd_Face (rd_LFace l0_0 x4_2) x5_3).f0)) t111).f1)) := ((HB.out.cell (yny w _ hw115_1)).trans hw115_1)
                 go_quiet (fail)
                 generalize hq_ : World.drewN w97 _ = w98
                 have n0_ := Aside0.mk (blk_at hq_ BK101.out)
                 have n1_ := Aside0.mk (blk_at hq_ BK107.out)
                 have n2_ := Aside0.mk (blk_at hq_ BK113.out)
                 have n3_ := Aside0.mk (below_at hq_ HB.out)
                 clear BK101 BK107 BK113 HB hq_ sq0_ sq1_ sq2_ sq3_ sq4_ sq5_ sq6_ sq7_
                 have BK101 := n0_
                 have BK107 := n1_
                 have BK113 := n2_
                 have HB := n3_
                 clear n0_ n1_ n2_ n3_
                 try go_wp2
                 go_roundg kj35
                 case measure => have := HK1.out; have := HK2.out; have := HK3.out; have := HJ24.out; have := HJ35.out; omega
                 case rel => exact ⟨(wrap64 (x5_3 + 1)), (by first | rfl | (simp; done) | (simp [*]; done)), H', ⟨by have := HK1.out; have := HK2.out; have := HK3.out; have := HJ24.out; have := HJ35.out; omega⟩, ⟨by (with_reducible repeat (first | refine blk_drewN ?_ _ | refine blk_drew ?_ | refine blk_alloc ?_ _)); exact BK101.out⟩, ⟨by repeat (first | (with_reducible first | exact HB.out | apply below_alloc | apply pw_below_drewN | apply below_drew1 | refine below_set ?_ GE101.out | refine below_set ?_ GE107.out | refine below_set ?_ GE113.out) | exact HB.out)⟩⟩
                rw [if_pos c64] at H
                have c64b0 : (((rd_Face (rd_LFace l0_0 x4_2) x5_3).f0) == x4_2) = true := beq_iff_eq.mpr c64
                have c64b1 : (((rd_Face (rd_LFace l0_0 x4_2) x5_3).f0) != x4_2) = false := bne_eq_false_iff_eq.mpr c64
                clear c64
                by_cases c65 : t111 = x5_3
                next =>
                 rw [if_pos c65] at H
                 have c65b0 : (t111 == x5_3) = true := beq_iff_eq.mpr c65
                 have c65b1 : (t111 != x5_3) = false := bne_eq_false_iff_eq.mpr c65
                 clear c65
                 obtain rfl := yey H
                 have hnb66 := NB107_101.out
                 have hnc66 := NB101_107.out
                 have hcz67_0 : wc.cell? ⟨gb107, 0, none⟩ = some (.int .i64 ((rd_Face (rd_LFace l0_0 x4_2) x5_3).f0)) := (blk_cell BK107.out 0).trans rfl
                 have hcz67_1 : wc.cell? ⟨gb107, 1, none⟩ = some (.int .i64 ((rd_Face (rd_LFace l0_0 x4_2) x5_3).f1)) := (blk_cell BK107.out 1).trans rfl
                 have hfz67_0 := blk_frozen BK107.out 0
                 have hfz67_1 := blk_frozen BK107.out 1
                 try go_wp2_with (first | ((with_reducible refine gate_callee (f := 36) rfl ?_); refine goesL_ (some 68) rfl rfl Try.func36 (by kernel_rfl) rfl #[.int .i64 ((rd_Face (rd_LFace l0_0 x4_2) x5_3).f1), .int .i64 x5_3] rfl (by (try simp only [yiy, yjy, yky]); first | done | rfl | (simp only [yly, ymy]; rfl)) ?_; (with_reducible refine (spec_l06At.calls kj35 ((rd_Face (rd_LFace l0_0 x4_2) x5_3).f1) x5_3 t111 _ A46.out).mono ?_); rintro e w68 ⟨rfl, hb⟩; refine ⟨_, rfl, ?_⟩; have n0_ := Aside0.mk (blk_below (g := gb101) (o := .cells #[.slice (some ad105) l0_0.length c0_0] 30 (0, 0)) (by (with_reducible repeat (first | refine blk_drewN ?_ _ | refine blk_drew ?_ | refine blk_alloc ?_ _)); exact BK101.out) hb); have n1_ := Aside0.mk (blk_below (g := gb107) (o := .cells #[.int .i64 ((rd_Face (rd_LFace l0_0 x4_2) x5_3).f0), .int .i64 ((rd_Face (rd_LFace l0_0 x4_2) x5_3).f1)] 59 (0, 0)) (by (with_reducible repeat (first | refine blk_drewN ?_ _ | refine blk_drew ?_ | refine blk_alloc ?_ _)); exact BK107.out) hb); have n2_ := Aside0.mk (below_step (by repeat (first | (with_reducible first | exact HB.out | apply below_alloc | apply pw_below_drewN | apply below_drew1 | refine below_set ?_ GE101.out | refine below_set ?_ GE107.out) | exact HB.out)) hb); clear BK101; clear BK107; clear HB; have BK101 := n0_; have BK107 := n1_; have HB := n2_; clear n0_ n1_ n2_; (try clear hb); (try clear hb2); (try clear hk); (try clear hi); have hcz69_0 : w68.cell? ⟨gb107, 0, none⟩ = some (.int .i64 ((rd_Face (rd_LFace l0_0 x4_2) x5_3).f0)) := (blk_cell BK107.out 0).trans rfl; have hcz69_1 : w68.cell? ⟨gb107, 1, none⟩ = some (.int .i64 ((rd_Face (rd_LFace l0_0 x4_2) x5_3).f1)) := (blk_cell BK107.out 1).trans rfl; have hfz69_0 := blk_frozen BK107.out 0; have hfz69_1 := blk_frozen BK107.out 1) | ((with_reducible refine gate_callee (f := 96) rfl ?_); refine goesL_ (some 72) rfl rfl Try.func96 (by kernel_rfl) rfl #[.int .i64 ((rd_Face (rd_LFace l0_0 x4_2) x5_3).f1)] rfl (by (try simp only [yiy, yjy, yky]); first | done | rfl | (simp only [yly, ymy]; rfl)) ?_; (with_reducible refine (spec_l06Back.calls kj35 ((rd_Face (rd_LFace l0_0 x4_2) x5_3).f1) t112 _ A47.out).mono ?_); rintro e w70 ⟨rfl, hb⟩; refine ⟨_, rfl, ?_⟩; have n0_ := Aside0.mk (blk_below (g := gb101) (o := .cells #[.slice (some ad105) l0_0.length c0_0] 30 (0, 0)) (by (with_reducible repeat (first | refine blk_drewN ?_ _ | refine blk_drew ?_ | refine blk_alloc ?_ _)); exact BK101.out) hb); have n1_ := Aside0.mk (blk_below (g := gb107) (o := .cells #[.int .i64 ((rd_Face (rd_LFace l0_0 x4_2) x5_3).f0), .int .i64 ((rd_Face (rd_LFace l0_0 x4_2) x5_3).f1)] 59 (0, 0)) (by (with_reducible repeat (first | refine blk_drewN ?_ _ | refine blk_drew ?_ | refine blk_alloc ?_ _)); exact BK107.out) hb); have n2_ := Aside0.mk (below_step (by repeat (first | (with_reducible first | exact HB.out | apply below_alloc | apply pw_below_drewN | apply below_drew1 | refine below_set ?_ GE101.out | refine below_set ?_ GE107.out) | exact HB.out)) hb); clear BK101; clear BK107; clear HB; have BK101 := n0_; have BK107 := n1_; have HB := n2_; clear n0_ n1_ n2_; (try clear hb); (try clear hb2); (try clear hk); (try clear hi)) | ((with_reducible refine gate_dst (N := 8) rfl ?_); refine box_event ?hg (N := 8) ?hd (cs := #[.int .i64 0, .int .i64 0]) (t := 59) ?hr ?_; (case hd => rfl); (case hg => rfl); (case hr => first | (go_simp; done) | (go_simp; rfl)); intro gb113 hg w71 hbox hb; have n0_ := Aside0.mk (blk_below (g := gb101) (o := .cells #[.slice (some ad105) l0_0.length c0_0] 30 (0, 0)) (by (with_reducible repeat (first | refine blk_drewN ?_ _ | refine blk_drew ?_ | refine blk_alloc ?_ _)); exact BK101.out) hb); have n1_ := Aside0.mk (blk_below (g := gb107) (o := .cells #[.int .i64 ((rd_Face (rd_LFace l0_0 x4_2) x5_3).f0), .int .i64 ((rd_Face (rd_LFace l0_0 x4_2) x5_3).f1)] 59 (0, 0)) (by (with_reducible repeat (first | refine blk_drewN ?_ _ | refine blk_drew ?_ | refine blk_alloc ?_ _)); exact BK107.out) hb); have n2_ := Aside0.mk (below_step (by repeat (first | (with_reducible first | exact HB.out | apply below_alloc | apply pw_below_drewN | apply below_drew1 | refine below_set ?_ GE101.out | refine below_set ?_ GE107.out) | exact HB.out)) hb); have n3_ := Aside0.mk (hbox); have n4_ := Aside0.mk ((by rw [hg]; exact (below_size (by repeat (first | (with_reducible first | exact HB.out | apply below_alloc | apply pw_below_drewN | apply below_drew1 | refine below_set ?_ GE101.out | refine below_set ?_ GE107.out) | exact HB.out))) : w.heap.size ≤ gb113)); have n5_ := Aside0.mk ((by rw [hg]; exact (below_size (by repeat (first | (with_reducible first | exact HB.out | apply below_alloc | apply pw_below_drewN | apply below_drew1 | refine below_set ?_ GE101.out | refine below_set ?_ GE107.out) | exact HB.out))) : w.heap.size ≤ gb113)); have n6_ := Aside0.mk ((by rw [hg]; exact Nat.ne_of_lt (blk_lt (g := gb101) (o := .cells #[.slice (some ad105) l0_0.length c0_0] 30 (0, 0)) (by (with_reducible repeat (first | refine blk_drewN ?_ _ | refine blk_drew ?_ | refine blk_alloc ?_ _)); exact BK101.out)) : gb101 ≠ gb113)); have n7_ := Aside0.mk ((by rw [hg]; exact Nat.ne_of_gt (blk_lt (g := gb101) (o := .cells #[.slice (some ad105) l0_0.length c0_0] 30 (0, 0)) (by (with_reducible repeat (first | refine blk_drewN ?_ _ | refine blk_drew ?_ | refine blk_alloc ?_ _)); exact BK101.out)) : gb113 ≠ gb101)); have n8_ := Aside0.mk ((by rw [hg]; exact Nat.ne_of_lt (blk_lt (g := gb107) (o := .cells #[.int .i64 ((rd_Face (rd_LFace l0_0 x4_2) x5_3).f0), .int .i64 ((rd_Face (rd_LFace l0_0 x4_2) x5_3).f1)] 59 (0, 0)) (by (with_reducible repeat (first | refine blk_drewN ?_ _ | refine blk_drew ?_ | refine blk_alloc ?_ _)); exact BK107.out)) : gb107 ≠ gb113)); have n9_ := Aside0.mk ((by rw [hg]; exact Nat.ne_of_gt (blk_lt (g := gb107) (o := .cells #[.int .i64 ((rd_Face (rd_LFace l0_0 x4_2) x5_3).f0), .int .i64 ((rd_Face (rd_LFace l0_0 x4_2) x5_3).f1)] 59 (0, 0)) (by (with_reducible repeat (first | refine blk_drewN ?_ _ | refine blk_drew ?_ | refine blk_alloc ?_ _)); exact BK107.out)) : gb113 ≠ gb107)); clear BK101; clear BK107; clear HB; have BK101 := n0_; have BK107 := n1_; have HB := n2_; have BK113 := n3_; have GW113 := n4_; have GE113 := n5_; have NB101_113 := n6_; have NB113_101 := n7_; have NB107_113 := n8_; have NB113_107 := n9_; clear n0_ n1_ n2_ n3_ n4_ n5_ n6_ n7_ n8_ n9_; clear hb hbox hg; have hnb72 := NB113_101.out; have hnc72 := NB101_113.out; have hnb73 := NB113_107.out; have hnc73 := NB107_113.out; have hcz74_0 : w71.cell? ⟨gb113, 0, none⟩ = some (.int .i64 0) := (blk_cell BK113.out 0).trans rfl; have hcz74_1 : w71.cell? ⟨gb113, 1, none⟩ = some (.int .i64 0) := (blk_cell BK113.out 1).trans rfl; have hfz74_0 := blk_frozen BK113.out 0; have hfz74_1 := blk_frozen BK113.out 1))
                 have n0_ : Aside0 (((w71.setCell ⟨gb113, 0, none⟩ (.int .i64 x4_2)).setCell ⟨gb113, 1, none⟩ (.int .i64 t112)).heap[gb101]? = some (.cells #[.slice (some ad105) l0_0.length c0_0] 30 (0, 0))) := ⟨by (with_reducible repeat (first | refine blk_drewN ?_ _ | refine blk_drew ?_ | refine blk_alloc ?_ _)); refine blk_far ?_ NB101_113.out _; (with_reducible repeat (first | refine blk_drewN ?_ _ | refine blk_drew ?_ | refine blk_alloc ?_ _)); refine blk_far ?_ NB101_113.out _; (with_reducible repeat (first | refine blk_drewN ?_ _ | refine blk_drew ?_ | refine blk_alloc ?_ _)); exact BK101.out⟩
                 have n1_ : Aside0 (((w71.setCell ⟨gb113, 0, none⟩ (.int .i64 x4_2)).setCell ⟨gb113, 1, none⟩ (.int .i64 t112)).heap[gb107]? = some (.cells #[.int .i64 ((rd_Face (rd_LFace l0_0 x4_2) x5_3).f0), .int .i64 ((rd_Face (rd_LFace l0_0 x4_2) x5_3).f1)] 59 (0, 0))) := ⟨by (with_reducible repeat (first | refine blk_drewN ?_ _ | refine blk_drew ?_ | refine blk_alloc ?_ _)); refine blk_far ?_ NB107_113.out _; (with_reducible repeat (first | refine blk_drewN ?_ _ | refine blk_drew ?_ | refine blk_alloc ?_ _)); refine blk_far ?_ NB107_113.out _; (with_reducible repeat (first | refine blk_drewN ?_ _ | refine blk_drew ?_ | refine blk_alloc ?_ _)); exact BK107.out⟩
                 have n2_ : Aside0 (((w71.setCell ⟨gb113, 0, none⟩ (.int .i64 x4_2)).setCell ⟨gb113, 1, none⟩ (.int .i64 t112)).heap[gb113]? = some (.cells #[.int .i64 x4_2, .int .i64 t112] 59 (0, 0))) := ⟨by (with_reducible repeat (first | refine blk_drewN ?_ _ | refine blk_drew ?_ | refine blk_alloc ?_ _)); refine blk_put (cs := #[.int .i64 x4_2, .int .i64 0]) ?_ 1 _ rfl; (with_reducible repeat (first | refine blk_drewN ?_ _ | refine blk_drew ?_ | refine blk_alloc ?_ _)); refine blk_put (cs := #[.int .i64 0, .int .i64 0]) ?_ 0 _ rfl; (with_reducible repeat (first | refine blk_drewN ?_ _ | refine blk_drew ?_ | refine blk_alloc ?_ _)); exact BK113.out⟩
                 have n3_ : Aside0 (Below w.heap.size w ((w71.setCell ⟨gb113, 0, none⟩ (.int .i64 x4_2)).setCell ⟨gb113, 1, none⟩ (.int .i64 t112))) := ⟨by repeat (first | (with_reducible first | exact HB.out | apply below_alloc | apply pw_below_drewN | apply below_drew1 | refine below_set ?_ GE101.out | refine below_set ?_ GE107.out | refine below_set ?_ GE113.out) | exact HB.out)⟩
                 (try clear BK101)
                 (try clear BK107)
                 (try clear BK113)
                 (try clear HB)
                 generalize ((w71.setCell ⟨gb113, 0, none⟩ (.int .i64 x4_2)).setCell ⟨gb113, 1, none⟩ (.int .i64 t112)) = w75 at n0_ n1_ n2_ n3_ ⊢
                 have BK101 := n0_
                 have BK107 := n1_
                 have BK113 := n2_
                 have HB := n3_
                 clear n0_ n1_ n2_ n3_
                 have p114 : 0 ≤ (((rd_Face (rd_LFace l0_0 x4_2) x5_3).f0) : Int) := of_decide_eq_true (by first | (with_reducible assumption) | assumption)
                 have q114 : ((rd_Face (rd_LFace l0_0 x4_2) x5_3).f0) < (l0_0.length : Int) := of_decide_eq_true (by first | (with_reducible assumption) | assumption)
                 obtain ⟨ad114, A114_0, c114_0, e114, hx114_0, hl114_0, hi114_0⟩ := at_LFace HR0_0.out ((rd_Face (rd_LFace l0_0 x4_2) x5_3).f0) p114 q114
                 have hw114_0 := hx114_0
                 obtain rfl : ad105 = ad114 := (by injection e114)
                 replace hx114_0 := (HB.out.cell (yny w _ hx114_0)).trans hx114_0
                 have HR114_0 := Aside0.mk hi114_0
                 have HC114_0 := Aside0.mk hl114_0
                 clear hi114_0 hl114_0
                 replace p114 := eq_true p114
                 replace q114 := eq_true q114
                 have p115 : 0 ≤ (t111 : Int) := of_decide_eq_true (by first | (with_reducible assumption) | assumption)
                 have q115 : t111 < ((rd_LFace l0_0 ((rd_Face (rd_LFace l0_0 x4_2) x5_3).f0)).length : Int) := of_decide_eq_true (by first | (with_reducible assumption) | assumption)
                 obtain ⟨ad115, e115, hx115_0, hx115_1⟩ := at_Face HR114_0.out t111 p115 q115
                 have hw115_1 := hx115_1
                 have hw115_0 := hx115_0
                 cases e115
                 replace hx115_0 := (HB.out.cell (yny w _ hx115_0)).trans hx115_0
                 replace hx115_1 := (HB.out.cell (yny w _ hx115_1)).trans hx115_1
                 replace p115 := eq_true p115
                 replace q115 := eq_true q115
                 have sq0_ : w75.cell? ⟨gb101, 0, none⟩ = some (.slice (some ad105) l0_0.length c0_0) := (blk_cell BK101.out 0).trans rfl
                 have sq1_ : w75.cell? ⟨gb107, 0, none⟩ = some (.int .i64 ((rd_Face (rd_LFace l0_0 x4_2) x5_3).f0)) := (blk_cell BK107.out 0).trans rfl
                 have sq2_ : w75.cell? ⟨gb107, 1, none⟩ = some (.int .i64 ((rd_Face (rd_LFace l0_0 x4_2) x5_3).f1)) := (blk_cell BK107.out 1).trans rfl
                 have sq3_ : w75.cell? ⟨gb113, 0, none⟩ = some (.int .i64 x4_2) := (blk_cell BK113.out 0).trans rfl
                 have sq4_ : w75.cell? ⟨gb113, 1, none⟩ = some (.int .i64 t112) := (blk_cell BK113.out 1).trans rfl
                 have sq5_ : w75.cell? (ad105.add (((rd_Face (rd_LFace l0_0 x4_2) x5_3).f0)).toNat) = some (.slice (some ad115) (rd_LFace l0_0 ((rd_Face (rd_LFace l0_0 x4_2) x5_3).f0)).length c114_0) := ((HB.out.cell (yny w _ hw114_0)).trans hw114_0)
                 have sq6_ : w75.cell? (ad115.add ((t111).toNat * 2)) = some (.int .i64 ((rd_Face (rd_LFace l0_0 ((rd_Face (rd_LFace l0_0 x4_2) x5_3).f0)) t111).f0)) := ((HB.out.cell (yny w _ hw115_0)).trans hw115_0)
                 have sq7_ : w75.cell? ⟨(ad115.add ((t111).toNat * 2)).block, (ad115.add ((t111).toNat * 2)).off + 1, none⟩ = some (.int .i64 ((rd_Face (rd_LFace l0_0 ((rd_Face (rd_LFace l0_0 x4_2) x5_3).f0)) t111).f1)) := ((HB.out.cell (yny w _ hw115_1)).trans hw115_1)
                 go_quiet (fail)
                 generalize hq_ : World.drewN w75 _ = w76
                 have n0_ := Aside0.mk (blk_at hq_ BK101.out)
                 have n1_ := Aside0.mk (blk_at hq_ BK107.out)
                 have n2_ := Aside0.mk (blk_at hq_ BK113.out)
                 have n3_ := Aside0.mk (below_at hq_ HB.out)
                 clear BK101 BK107 BK113 HB hq_ sq0_ sq1_ sq2_ sq3_ sq4_ sq5_ sq6_ sq7_
                 have BK101 := n0_
                 have BK107 := n1_
                 have BK113 := n2_
                 have HB := n3_
                 clear n0_ n1_ n2_ n3_
                 try go_wp2
                 go_ret
                 exact ⟨by first | rfl | (simp [errW_none, errW_some] <;> rfl) | (simp [*, errW_none, errW_some] <;> rfl), by repeat (first | (with_reducible first | exact HB.out | apply below_alloc | apply pw_below_drewN | apply below_drew1 | refine below_set ?_ GE101.out | refine below_set ?_ GE107.out | refine below_set ?_ GE113.out) | exact HB.out)⟩
                next =>
                 rw [if_neg c65] at H
                 have c65b0 : (t111 == x5_3) = false := beq_eq_false_iff_ne.mpr c65
                 have c65b1 : (t111 != x5_3) = true := bne_iff_ne.mpr c65
                 have H' := Aside0.mk H
                 clear H
                 have hnb77 := NB107_101.out
                 have hnc77 := NB101_107.out
                 have hcz78_0 : wc.cell? ⟨gb107, 0, none⟩ = some (.int .i64 ((rd_Face (rd_LFace l0_0 x4_2) x5_3).f0)) := (blk_cell BK107.out 0).trans rfl
                 have hcz78_1 : wc.cell? ⟨gb107, 1, none⟩ = some (.int .i64 ((rd_Face (rd_LFace l0_0 x4_2) x5_3).f1)) := (blk_cell BK107.out 1).trans rfl
                 have hfz78_0 := blk_frozen BK107.out 0
                 have hfz78_1 := blk_frozen BK107.out 1
                 try go_wp2_with (first | ((with_reducible refine gate_callee (f := 36) rfl ?_); refine goesL_ (some 68) rfl rfl Try.func36 (by kernel_rfl) rfl #[.int .i64 ((rd_Face (rd_LFace l0_0 x4_2) x5_3).f1), .int .i64 x5_3] rfl (by (try simp only [yiy, yjy, yky]); first | done | rfl | (simp only [yly, ymy]; rfl)) ?_; (with_reducible refine (spec_l06At.calls kj35 ((rd_Face (rd_LFace l0_0 x4_2) x5_3).f1) x5_3 t111 _ A46.out).mono ?_); rintro e w79 ⟨rfl, hb⟩; refine ⟨_, rfl, ?_⟩; have n0_ := Aside0.mk (blk_below (g := gb101) (o := .cells #[.slice (some ad105) l0_0.length c0_0] 30 (0, 0)) (by (with_reducible repeat (first | refine blk_drewN ?_ _ | refine blk_drew ?_ | refine blk_alloc ?_ _)); exact BK101.out) hb); have n1_ := Aside0.mk (blk_below (g := gb107) (o := .cells #[.int .i64 ((rd_Face (rd_LFace l0_0 x4_2) x5_3).f0), .int .i64 ((rd_Face (rd_LFace l0_0 x4_2) x5_3).f1)] 59 (0, 0)) (by (with_reducible repeat (first | refine blk_drewN ?_ _ | refine blk_drew ?_ | refine blk_alloc ?_ _)); exact BK107.out) hb); have n2_ := Aside0.mk (below_step (by repeat (first | (with_reducible first | exact HB.out | apply below_alloc | apply pw_below_drewN | apply below_drew1 | refine below_set ?_ GE101.out | refine below_set ?_ GE107.out) | exact HB.out)) hb); clear BK101; clear BK107; clear HB; have BK101 := n0_; have BK107 := n1_; have HB := n2_; clear n0_ n1_ n2_; (try clear hb); (try clear hb2); (try clear hk); (try clear hi); have hcz80_0 : w79.cell? ⟨gb107, 0, none⟩ = some (.int .i64 ((rd_Face (rd_LFace l0_0 x4_2) x5_3).f0)) := (blk_cell BK107.out 0).trans rfl; have hcz80_1 : w79.cell? ⟨gb107, 1, none⟩ = some (.int .i64 ((rd_Face (rd_LFace l0_0 x4_2) x5_3).f1)) := (blk_cell BK107.out 1).trans rfl; have hfz80_0 := blk_frozen BK107.out 0; have hfz80_1 := blk_frozen BK107.out 1) | ((with_reducible refine gate_callee (f := 96) rfl ?_); refine goesL_ (some 72) rfl rfl Try.func96 (by kernel_rfl) rfl #[.int .i64 ((rd_Face (rd_LFace l0_0 x4_2) x5_3).f1)] rfl (by (try simp only [yiy, yjy, yky]); first | done | rfl | (simp only [yly, ymy]; rfl)) ?_; (with_reducible refine (spec_l06Back.calls kj35 ((rd_Face (rd_LFace l0_0 x4_2) x5_3).f1) t112 _ A47.out).mono ?_); rintro e w81 ⟨rfl, hb⟩; refine ⟨_, rfl, ?_⟩; have n0_ := Aside0.mk (blk_below (g := gb101) (o := .cells #[.slice (some ad105) l0_0.length c0_0] 30 (0, 0)) (by (with_reducible repeat (first | refine blk_drewN ?_ _ | refine blk_drew ?_ | refine blk_alloc ?_ _)); exact BK101.out) hb); have n1_ := Aside0.mk (blk_below (g := gb107) (o := .cells #[.int .i64 ((rd_Face (rd_LFace l0_0 x4_2) x5_3).f0), .int .i64 ((rd_Face (rd_LFace l0_0 x4_2) x5_3).f1)] 59 (0, 0)) (by (with_reducible repeat (first | refine blk_drewN ?_ _ | refine blk_drew ?_ | refine blk_alloc ?_ _)); exact BK107.out) hb); have n2_ := Aside0.mk (below_step (by repeat (first | (with_reducible first | exact HB.out | apply below_alloc | apply pw_below_drewN | apply below_drew1 | refine below_set ?_ GE101.out | refine below_set ?_ GE107.out) | exact HB.out)) hb); clear BK101; clear BK107; clear HB; have BK101 := n0_; have BK107 := n1_; have HB := n2_; clear n0_ n1_ n2_; (try clear hb); (try clear hb2); (try clear hk); (try clear hi)) | ((with_reducible refine gate_dst (N := 8) rfl ?_); refine box_event ?hg (N := 8) ?hd (cs := #[.int .i64 0, .int .i64 0]) (t := 59) ?hr ?_; (case hd => rfl); (case hg => rfl); (case hr => first | (go_simp; done) | (go_simp; rfl)); intro gb113 hg w82 hbox hb; have n0_ := Aside0.mk (blk_below (g := gb101) (o := .cells #[.slice (some ad105) l0_0.length c0_0] 30 (0, 0)) (by (with_reducible repeat (first | refine blk_drewN ?_ _ | refine blk_drew ?_ | refine blk_alloc ?_ _)); exact BK101.out) hb); have n1_ := Aside0.mk (blk_below (g := gb107) (o := .cells #[.int .i64 ((rd_Face (rd_LFace l0_0 x4_2) x5_3).f0), .int .i64 ((rd_Face (rd_LFace l0_0 x4_2) x5_3).f1)] 59 (0, 0)) (by (with_reducible repeat (first | refine blk_drewN ?_ _ | refine blk_drew ?_ | refine blk_alloc ?_ _)); exact BK107.out) hb); have n2_ := Aside0.mk (below_step (by repeat (first | (with_reducible first | exact HB.out | apply below_alloc | apply pw_below_drewN | apply below_drew1 | refine below_set ?_ GE101.out | refine below_set ?_ GE107.out) | exact HB.out)) hb); have n3_ := Aside0.mk (hbox); have n4_ := Aside0.mk ((by rw [hg]; exact (below_size (by repeat (first | (with_reducible first | exact HB.out | apply below_alloc | apply pw_below_drewN | apply below_drew1 | refine below_set ?_ GE101.out | refine below_set ?_ GE107.out) | exact HB.out))) : w.heap.size ≤ gb113)); have n5_ := Aside0.mk ((by rw [hg]; exact (below_size (by repeat (first | (with_reducible first | exact HB.out | apply below_alloc | apply pw_below_drewN | apply below_drew1 | refine below_set ?_ GE101.out | refine below_set ?_ GE107.out) | exact HB.out))) : w.heap.size ≤ gb113)); have n6_ := Aside0.mk ((by rw [hg]; exact Nat.ne_of_lt (blk_lt (g := gb101) (o := .cells #[.slice (some ad105) l0_0.length c0_0] 30 (0, 0)) (by (with_reducible repeat (first | refine blk_drewN ?_ _ | refine blk_drew ?_ | refine blk_alloc ?_ _)); exact BK101.out)) : gb101 ≠ gb113)); have n7_ := Aside0.mk ((by rw [hg]; exact Nat.ne_of_gt (blk_lt (g := gb101) (o := .cells #[.slice (some ad105) l0_0.length c0_0] 30 (0, 0)) (by (with_reducible repeat (first | refine blk_drewN ?_ _ | refine blk_drew ?_ | refine blk_alloc ?_ _)); exact BK101.out)) : gb113 ≠ gb101)); have n8_ := Aside0.mk ((by rw [hg]; exact Nat.ne_of_lt (blk_lt (g := gb107) (o := .cells #[.int .i64 ((rd_Face (rd_LFace l0_0 x4_2) x5_3).f0), .int .i64 ((rd_Face (rd_LFace l0_0 x4_2) x5_3).f1)] 59 (0, 0)) (by (with_reducible repeat (first | refine blk_drewN ?_ _ | refine blk_drew ?_ | refine blk_alloc ?_ _)); exact BK107.out)) : gb107 ≠ gb113)); have n9_ := Aside0.mk ((by rw [hg]; exact Nat.ne_of_gt (blk_lt (g := gb107) (o := .cells #[.int .i64 ((rd_Face (rd_LFace l0_0 x4_2) x5_3).f0), .int .i64 ((rd_Face (rd_LFace l0_0 x4_2) x5_3).f1)] 59 (0, 0)) (by (with_reducible repeat (first | refine blk_drewN ?_ _ | refine blk_drew ?_ | refine blk_alloc ?_ _)); exact BK107.out)) : gb113 ≠ gb107)); clear BK101; clear BK107; clear HB; have BK101 := n0_; have BK107 := n1_; have HB := n2_; have BK113 := n3_; have GW113 := n4_; have GE113 := n5_; have NB101_113 := n6_; have NB113_101 := n7_; have NB107_113 := n8_; have NB113_107 := n9_; clear n0_ n1_ n2_ n3_ n4_ n5_ n6_ n7_ n8_ n9_; clear hb hbox hg; have hnb83 := NB113_101.out; have hnc83 := NB101_113.out; have hnb84 := NB113_107.out; have hnc84 := NB107_113.out; have hcz85_0 : w82.cell? ⟨gb113, 0, none⟩ = some (.int .i64 0) := (blk_cell BK113.out 0).trans rfl; have hcz85_1 : w82.cell? ⟨gb113, 1, none⟩ = some (.int .i64 0) := (blk_cell BK113.out 1).trans rfl; have hfz85_0 := blk_frozen BK113.out 0; have hfz85_1 := blk_frozen BK113.out 1))
                 have n0_ : Aside0 (((w82.setCell ⟨gb113, 0, none⟩ (.int .i64 x4_2)).setCell ⟨gb113, 1, none⟩ (.int .i64 t112)).heap[gb101]? = some (.cells #[.slice (some ad105) l0_0.length c0_0] 30 (0, 0))) := ⟨by (with_reducible repeat (first | refine blk_drewN ?_ _ | refine blk_drew ?_ | refine blk_alloc ?_ _)); refine blk_far ?_ NB101_113.out _; (with_reducible repeat (first | refine blk_drewN ?_ _ | refine blk_drew ?_ | refine blk_alloc ?_ _)); refine blk_far ?_ NB101_113.out _; (with_reducible repeat (first | refine blk_drewN ?_ _ | refine blk_drew ?_ | refine blk_alloc ?_ _)); exact BK101.out⟩
                 have n1_ : Aside0 (((w82.setCell ⟨gb113, 0, none⟩ (.int .i64 x4_2)).setCell ⟨gb113, 1, none⟩ (.int .i64 t112)).heap[gb107]? = some (.cells #[.int .i64 ((rd_Face (rd_LFace l0_0 x4_2) x5_3).f0), .int .i64 ((rd_Face (rd_LFace l0_0 x4_2) x5_3).f1)] 59 (0, 0))) := ⟨by (with_reducible repeat (first | refine blk_drewN ?_ _ | refine blk_drew ?_ | refine blk_alloc ?_ _)); refine blk_far ?_ NB107_113.out _; (with_reducible repeat (first | refine blk_drewN ?_ _ | refine blk_drew ?_ | refine blk_alloc ?_ _)); refine blk_far ?_ NB107_113.out _; (with_reducible repeat (first | refine blk_drewN ?_ _ | refine blk_drew ?_ | refine blk_alloc ?_ _)); exact BK107.out⟩
                 have n2_ : Aside0 (((w82.setCell ⟨gb113, 0, none⟩ (.int .i64 x4_2)).setCell ⟨gb113, 1, none⟩ (.int .i64 t112)).heap[gb113]? = some (.cells #[.int .i64 x4_2, .int .i64 t112] 59 (0, 0))) := ⟨by (with_reducible repeat (first | refine blk_drewN ?_ _ | refine blk_drew ?_ | refine blk_alloc ?_ _)); refine blk_put (cs := #[.int .i64 x4_2, .int .i64 0]) ?_ 1 _ rfl; (with_reducible repeat (first | refine blk_drewN ?_ _ | refine blk_drew ?_ | refine blk_alloc ?_ _)); refine blk_put (cs := #[.int .i64 0, .int .i64 0]) ?_ 0 _ rfl; (with_reducible repeat (first | refine blk_drewN ?_ _ | refine blk_drew ?_ | refine blk_alloc ?_ _)); exact BK113.out⟩
                 have n3_ : Aside0 (Below w.heap.size w ((w82.setCell ⟨gb113, 0, none⟩ (.int .i64 x4_2)).setCell ⟨gb113, 1, none⟩ (.int .i64 t112))) := ⟨by repeat (first | (with_reducible first | exact HB.out | apply below_alloc | apply pw_below_drewN | apply below_drew1 | refine below_set ?_ GE101.out | refine below_set ?_ GE107.out | refine below_set ?_ GE113.out) | exact HB.out)⟩
                 (try clear BK101)
                 (try clear BK107)
                 (try clear BK113)
                 (try clear HB)
                 generalize ((w82.setCell ⟨gb113, 0, none⟩ (.int .i64 x4_2)).setCell ⟨gb113, 1, none⟩ (.int .i64 t112)) = w86 at n0_ n1_ n2_ n3_ ⊢
                 have BK101 := n0_
                 have BK107 := n1_
                 have BK113 := n2_
                 have HB := n3_
                 clear n0_ n1_ n2_ n3_
                 have p114 : 0 ≤ (((rd_Face (rd_LFace l0_0 x4_2) x5_3).f0) : Int) := of_decide_eq_true (by first | (with_reducible assumption) | assumption)
                 have q114 : ((rd_Face (rd_LFace l0_0 x4_2) x5_3).f0) < (l0_0.length : Int) := of_decide_eq_true (by first | (with_reducible assumption) | assumption)
                 obtain ⟨ad114, A114_0, c114_0, e114, hx114_0, hl114_0, hi114_0⟩ := at_LFace HR0_0.out ((rd_Face (rd_LFace l0_0 x4_2) x5_3).f0) p114 q114
                 have hw114_0 := hx114_0
                 obtain rfl : ad105 = ad114 := (by injection e114)
                 replace hx114_0 := (HB.out.cell (yny w _ hx114_0)).trans hx114_0
                 have HR114_0 := Aside0.mk hi114_0
                 have HC114_0 := Aside0.mk hl114_0
                 clear hi114_0 hl114_0
                 replace p114 := eq_true p114
                 replace q114 := eq_true q114
                 have p115 : 0 ≤ (t111 : Int) := of_decide_eq_true (by first | (with_reducible assumption) | assumption)
                 have q115 : t111 < ((rd_LFace l0_0 ((rd_Face (rd_LFace l0_0 x4_2) x5_3).f0)).length : Int) := of_decide_eq_true (by first | (with_reducible assumption) | assumption)
                 obtain ⟨ad115, e115, hx115_0, hx115_1⟩ := at_Face HR114_0.out t111 p115 q115
                 have hw115_1 := hx115_1
                 have hw115_0 := hx115_0
                 cases e115
                 replace hx115_0 := (HB.out.cell (yny w _ hx115_0)).trans hx115_0
                 replace hx115_1 := (HB.out.cell (yny w _ hx115_1)).trans hx115_1
                 replace p115 := eq_true p115
                 replace q115 := eq_true q115
                 have sq0_ : w86.cell? ⟨gb101, 0, none⟩ = some (.slice (some ad105) l0_0.length c0_0) := (blk_cell BK101.out 0).trans rfl
                 have sq1_ : w86.cell? ⟨gb107, 0, none⟩ = some (.int .i64 ((rd_Face (rd_LFace l0_0 x4_2) x5_3).f0)) := (blk_cell BK107.out 0).trans rfl
                 have sq2_ : w86.cell? ⟨gb107, 1, none⟩ = some (.int .i64 ((rd_Face (rd_LFace l0_0 x4_2) x5_3).f1)) := (blk_cell BK107.out 1).trans rfl
                 have sq3_ : w86.cell? ⟨gb113, 0, none⟩ = some (.int .i64 x4_2) := (blk_cell BK113.out 0).trans rfl
                 have sq4_ : w86.cell? ⟨gb113, 1, none⟩ = some (.int .i64 t112) := (blk_cell BK113.out 1).trans rfl
                 have sq5_ : w86.cell? (ad105.add (((rd_Face (rd_LFace l0_0 x4_2) x5_3).f0)).toNat) = some (.slice (some ad115) (rd_LFace l0_0 ((rd_Face (rd_LFace l0_0 x4_2) x5_3).f0)).length c114_0) := ((HB.out.cell (yny w _ hw114_0)).trans hw114_0)
                 have sq6_ : w86.cell? (ad115.add ((t111).toNat * 2)) = some (.int .i64 ((rd_Face (rd_LFace l0_0 ((rd_Face (rd_LFace l0_0 x4_2) x5_3).f0)) t111).f0)) := ((HB.out.cell (yny w _ hw115_0)).trans hw115_0)
                 have sq7_ : w86.cell? ⟨(ad115.add ((t111).toNat * 2)).block, (ad115.add ((t111).toNat * 2)).off + 1, none⟩ = some (.int .i64 ((rd_Face (rd_LFace l0_0 ((rd_Face (rd_LFace l0_0 x4_2) x5_3).f0)) t111).f1)) := ((HB.out.cell (yny w _ hw115_1)).trans hw115_1)
                 go_quiet (fail)
                 generalize hq_ : World.drewN w86 _ = w87
                 have n0_ := Aside0.mk (blk_at hq_ BK101.out)
                 have n1_ := Aside0.mk (blk_at hq_ BK107.out)
                 have n2_ := Aside0.mk (blk_at hq_ BK113.out)
                 have n3_ := Aside0.mk (below_at hq_ HB.out)
                 clear BK101 BK107 BK113 HB hq_ sq0_ sq1_ sq2_ sq3_ sq4_ sq5_ sq6_ sq7_
                 have BK101 := n0_
                 have BK107 := n1_
                 have BK113 := n2_
                 have HB := n3_
                 clear n0_ n1_ n2_ n3_
                 try go_wp2
                 go_roundg kj35
                 case measure => have := HK1.out; have := HK2.out; have := HK3.out; have := HJ24.out; have := HJ35.out; omega
                 case rel => exact ⟨(wrap64 (x5_3 + 1)), (by first | rfl | (simp; done) | (simp [*]; done)), H', ⟨by have := HK1.out; have := HK2.out; have := HK3.out; have := HJ24.out; have := HJ35.out; omega⟩, ⟨by (with_reducible repeat (first | refine blk_drewN ?_ _ | refine blk_drew ?_ | refine blk_alloc ?_ _)); exact BK101.out⟩, ⟨by repeat (first | (with_reducible first | exact HB.out | apply below_alloc | apply pw_below_drewN | apply below_drew1 | refine below_set ?_ GE101.out | refine below_set ?_ GE107.out | refine below_set ?_ GE113.out) | exact HB.out)⟩⟩
end
/-! ### spec_l07Boundary: function 75 -/
mutual
def spec_l07Boundary.l0 : Nat → List (List Int) → Int → List (List (SFace)) → Option ((List (List Int)))
 | 0, _, _, _ => none
 | k + 1, x3, x4, x102000 => if x4 < (x102000.length : Int) then (spec_l07Boundary.l1 k x3 x4 0 x102000) else (some x3)
def spec_l07Boundary.l1 : Nat → List (List Int) → Int → Int → List (List (SFace)) → Option ((List (List Int)))
 | 0, _, _, _, _ => none
 | k + 1, x3, x4, x5, x102000 => if x5 < 4 then (if 0 ≤ x4 then (if x4 < (x102000.length : Int) then (if 0 ≤ x5 then (if x5 < ((rd_LFace x102000 x4).length : Int) then (if ((rd_Face (rd_LFace x102000 x4) x5).f0) < 0 then (if x3.length < 5864062014805 then (spec_l07Boundary.l1 k (x3 ++ [(([x4, x5] : List Int))]) x4 (wrap64 (x5 + 1)) x102000) else (none)) else (spec_l07Boundary.l1 k x3 x4 (wrap64 (x5 + 1)) x102000)) else (none)) else (none)) else (none)) else (none)) else (spec_l07Boundary.l0 k x3 (wrap64 (x4 + 1)) x102000)
end
def spec_l07Boundary.f (k : Nat) (l0_0 : List (List (SFace))) : Option ((List (List Int))) := spec_l07Boundary.l0 k (([] : List (List Int))) 0 l0_0
set_option maxHeartbeats 8000000 in
set_option maxRecDepth 100000 in
theorem spec_l07Boundary.calls (k : Nat) (A0_0 : Option Addr) (c0_0 : Nat) (l0_0 : List (List (SFace))) (r : List (List Int)) (w : World) (hr0_0 : Kd.C (Kd.slice 59 kFace) w A0_0 l0_0.length l0_0) (hc0_0 : l0_0.length ≤ c0_0) (h : spec_l07Boundary.f k l0_0 = some r) :
 Calls Try.prog 75 #[.agg #[.slice A0_0 l0_0.length c0_0]] w fun e w' => ∃ v0_ : Value, e = .returned (v0_) ∧ Kd.S (Kd.slice 2 (Kd.int .i64)) 44 w' w.heap.size (fun _ => True) v0_ r ∧ Below w.heap.size w w' := by
 have hu30 := Try.underlying30
 have HR0_0 := Aside0.mk hr0_0
 have HC0_0 := Aside0.mk hc0_0
 clear hr0_0 hc0_0
 have HB := Aside0.mk (Below.refl w.heap.size w)
 have H : (spec_l07Boundary.l0 k (([] : List (List Int))) 0 l0_0) = some r := h
 clear h
 obtain ⟨y102, hy102⟩ : ∃ y_ : List (List Int), y_ = (([] : List (List Int))) := ⟨_, rfl⟩
 replace H : (spec_l07Boundary.l0 k y102 0 l0_0) = some r := by first | (rw [hy102]; with_reducible exact H) | (have H2_ := (yfy _ _).symm.trans H; rw [hy102]; with_reducible exact H2_) | (have H2_ := (yfy _ _).symm.trans H; with_reducible exact H2_) | with_reducible exact H | (rw [hy102]; exact H) | exact H
 have Ny102 := Aside0.mk hy102
 clear hy102
 have H' := Aside0.mk H
 clear H
 go_enter Try.func75, Try.ntmps75
 go_wp2_with (first | ((with_reducible refine gate_dst (N := 1) rfl ?_); refine box_event ?hg (N := 1) ?hd (cs := #[.slice A0_0 l0_0.length c0_0]) (t := 30) ?hr ?_; (case hd => rfl); (case hg => rfl); (case hr => first | (go_simp; done) | (go_simp; rfl)); intro gb101 hg w2 hbox hb; have n0_ := Aside0.mk (below_step (by repeat (first | (with_reducible first | exact HB.out | apply below_alloc | apply pw_below_drewN | apply below_drew1) | exact HB.out)) hb); have n1_ := Aside0.mk (hbox); have n2_ := Aside0.mk ((by rw [hg]; exact (below_size (by repeat (first | (with_reducible first | exact HB.out | apply below_alloc | apply pw_below_drewN | apply below_drew1) | exact HB.out))) : w.heap.size ≤ gb101)); have n3_ := Aside0.mk ((by rw [hg]; exact (below_size (by repeat (first | (with_reducible first | exact HB.out | apply below_alloc | apply pw_below_drewN | apply below_drew1) | exact HB.out))) : w.heap.size ≤ gb101)); clear HB; have HB := n0_; have BK101 := n1_; have GW101 := n2_; have GE101 := n3_; clear n0_ n1_ n2_ n3_; clear hb hbox hg) | ((with_reducible refine gate_dst (N := 6) rfl ?_); refine Kd.S_lit (Kd.slice 2 (Kd.int .i64)) _ 44 ?hg (N := 6) ?hd (xs := ([] : List (List Int))) (inner := []) (ok := fun _ => True) (okp := fun _ => True) ?hr ?hp (fun _ hk => hk) trivial (Below.refl _ _) (yoy _) (by simp) ?_; (case hd => rfl); (case hg => rfl); (case hr => first | (go_simp; done) | (go_simp; rfl)); (case hp => exact (Reps.none _ _)); intro v103 w3 ho4 hb hg_ hnew_; clear hg_ hnew_; (first | rw [← Ny102.out] at ho4 | (simp only [Int.reduceToNat] at ho4; rw [← Ny102.out] at ho4)); have n0_ := Aside0.mk (Kd.S_lower ho4 (below_size (by repeat (first | (with_reducible first | exact HB.out | apply below_alloc | apply pw_below_drewN | apply below_drew1 | refine below_set ?_ GE101.out) | exact HB.out)))); have n1_ := Aside0.mk (blk_below (g := gb101) (o := .cells #[.slice A0_0 l0_0.length c0_0] 30 (0, 0)) (by (with_reducible repeat (first | refine blk_drewN ?_ _ | refine blk_drew ?_ | refine blk_alloc ?_ _)); exact BK101.out) hb); have n2_ := Aside0.mk (below_step (by repeat (first | (with_reducible first | exact HB.out | apply below_alloc | apply pw_below_drewN | apply below_drew1 | refine below_set ?_ GE101.out) | exact HB.out)) hb); clear BK101; clear HB; have HO104 := n0_; have BK101 := n1_; have HB := n2_; clear n0_ n1_ n2_; clear hb ho4))
 go_loopg [3, 4] k (fun kq v3 v4 w' => ∃ (x3_1 : List (List Int)) (x4_1 : Int), v4 = .int .i64 x4_1 ∧ Aside0 (spec_l07Boundary.l0 kq x3_1 x4_1 l0_0 = some r) ∧ Aside0 (kq ≤ k) ∧ Aside0 (Kd.S (Kd.slice 2 (Kd.int .i64)) 44 w' w.heap.size (fun _ => True) v3 x3_1) ∧ Aside0 (w'.heap[gb101]? = some (.cells #[(.slice A0_0 l0_0.length c0_0)] 30 (0, 0))) ∧ Aside0 (Below w.heap.size w w'))
 case atStart => exact ⟨(y102), (0), (by first | rfl | (simp; done) | (simp [*]; done)), H', ⟨yoy _⟩, ⟨by (with_reducible repeat (first | apply Kd.S_alloc | apply Kd.S_drewN | apply Kd.S_drew)); exact HO104.out⟩, ⟨by (with_reducible repeat (first | refine blk_drewN ?_ _ | refine blk_drew ?_ | refine blk_alloc ?_ _)); exact BK101.out⟩, ⟨by repeat (first | (with_reducible first | exact HB.out | apply below_alloc | apply pw_below_drewN | apply below_drew1 | refine below_set ?_ GE101.out) | exact HB.out)⟩⟩
 case round =>
  clear H'
  try clear p2
  obtain ⟨x3_1, x4_1, rfl, HA, HK1, HO_3, BK101, HB⟩ := hrel
  cases gk with
  | zero => exact absurd HA.out (by simp [spec_l07Boundary.l0])
  | succ k1 =>
   have H := HA.out
   clear HA
   simp only [spec_l07Boundary.l0] at H
   by_cases c5 : x4_1 < (l0_0.length : Int)
   rotate_left
   next =>
    rw [if_neg c5] at H
    have c5b0 : decide (x4_1 < (l0_0.length : Int)) = false := yhy c5
    clear c5
    obtain rfl := yey H
    have hcz20_0 : wr.cell? ⟨gb101, 0, none⟩ = some (.slice A0_0 l0_0.length c0_0) := (blk_cell BK101.out 0).trans rfl
    have hfz20_0 := blk_frozen BK101.out 0
    go_wp2
    go_ret
    exact ⟨_, by first | rfl | (simp [errW_none, errW_some] <;> rfl) | (simp [*, errW_none, errW_some] <;> rfl), by (with_reducible repeat (first | apply Kd.S_alloc | apply Kd.S_drewN | apply Kd.S_drew)); exact HO_3.out, by repeat (first | (with_reducible first | exact HB.out | apply below_alloc | apply pw_below_drewN | apply below_drew1 | refine below_set ?_ GE101.out) | exact HB.out)⟩
   rw [if_pos c5] at H
   have c5b0 : decide (x4_1 < (l0_0.length : Int)) = true := ygy c5
   clear c5
   have H' := Aside0.mk H
   clear H
   have hcz6_0 : wr.cell? ⟨gb101, 0, none⟩ = some (.slice A0_0 l0_0.length c0_0) := (blk_cell BK101.out 0).trans rfl
   have hfz6_0 := blk_frozen BK101.out 0
   go_wp2
   go_loopg [3, 5] k1 (fun kq v3 v5 w' => ∃ (x3_2 : List (List Int)) (x5_2 : Int), v5 = .int .i64 x5_2 ∧ Aside0 (spec_l07Boundary.l1 kq x3_2 x4_1 x5_2 l0_0 = some r) ∧ Aside0 (kq ≤ k1) ∧ Aside0 (Kd.S (Kd.slice 2 (Kd.int .i64)) 44 w' w.heap.size (fun _ => True) v3 x3_2) ∧ Aside0 (w'.heap[gb101]? = some (.cells #[(.slice A0_0 l0_0.length c0_0)] 30 (0, 0))) ∧ Aside0 (Below w.heap.size w w'))
   case atStart => exact ⟨(x3_1), (0), (by first | rfl | (simp; done) | (simp [*]; done)), H', ⟨yoy _⟩, ⟨by (with_reducible repeat (first | apply Kd.S_alloc | apply Kd.S_drewN | apply Kd.S_drew)); exact HO_3.out⟩, ⟨by (with_reducible repeat (first | refine blk_drewN ?_ _ | refine blk_drew ?_ | refine blk_alloc ?_ _)); exact BK101.out⟩, ⟨by repeat (first | (with_reducible first | exact HB.out | apply below_alloc | apply pw_below_drewN | apply below_drew1 | refine below_set ?_ GE101.out) | exact HB.out)⟩⟩
   case round =>
    clear H'
    try clear p2
    try clear c5
    try clear c5b0
    try clear hcz6_0
    try clear hfz6_0
    try clear p2
    obtain ⟨x3_2, x5_2, rfl, HA, HK2, HO_3, BK101, HB⟩ := hrel
    cases gk with
    | zero => exact absurd HA.out (by simp [spec_l07Boundary.l1])
    | succ k2 =>
     have H := HA.out
     clear HA
     simp only [spec_l07Boundary.l1] at H
     by_cases c7 : x5_2 < 4
     rotate_left
     next =>
      rw [if_neg c7] at H
      have c7b0 : decide (x5_2 < 4) = false := yhy c7
      clear c7
      have H' := Aside0.mk H
      clear H
      go_wp2
      go_roundg k2
      case measure => have := HK1.out; have := HK2.out; omega
      case rel => exact ⟨(x3_2), (wrap64 (x4_1 + 1)), (by first | rfl | (simp; done) | (simp [*]; done)), H', ⟨by have := HK1.out; have := HK2.out; omega⟩, ⟨by (with_reducible repeat (first | apply Kd.S_alloc | apply Kd.S_drewN | apply Kd.S_drew)); exact HO_3.out⟩, ⟨by (with_reducible repeat (first | refine blk_drewN ?_ _ | refine blk_drew ?_ | refine blk_alloc ?_ _)); exact BK101.out⟩, ⟨by repeat (first | (with_reducible first | exact HB.out | apply below_alloc | apply pw_below_drewN | apply below_drew1 | refine below_set ?_ GE101.out) | exact HB.out)⟩⟩
     rw [if_pos c7] at H
     have c7b0 : decide (x5_2 < 4) = true := ygy c7
     clear c7
     by_cases c8 : 0 ≤ x4_1
     rotate_left
     next =>
      rw [if_neg c8] at H
      exact absurd H (by simp)
     rw [if_pos c8] at H
     have c8b0 : decide (0 ≤ x4_1) = true := ygy c8
     clear c8
     by_cases c9 : x4_1 < (l0_0.length : Int)
     rotate_left
     next =>
      rw [if_neg c9] at H
      exact absurd H (by simp)
     rw [if_pos c9] at H
     have c9b0 : decide (x4_1 < (l0_0.length : Int)) = true := ygy c9
     clear c9
     by_cases c10 : 0 ≤ x5_2
     rotate_left
     next =>
      rw [if_neg c10] at H
      exact absurd H (by simp)
     rw [if_pos c10] at H
     have c10b0 : decide (0 ≤ x5_2) = true := ygy c10
     clear c10
     by_cases c11 : x5_2 < ((rd_LFace l0_0 x4_1).length : Int)
     rotate_left
     next =>
      rw [if_neg c11] at H
      exact absurd H (by simp)
     rw [if_pos c11] at H
     have c11b0 : decide (x5_2 < ((rd_LFace l0_0 x4_1).length : Int)) = true := ygy c11
     clear c11
     by_cases c12 : ((rd_Face (rd_LFace l0_0 x4_1) x5_2).f0) < 0
     rotate_left
     next =>
      rw [if_neg c12] at H
      have c12b0 : decide (((rd_Face (rd_LFace l0_0 x4_1) x5_2).f0) < 0) = false := yhy c12
      clear c12
      have H' := Aside0.mk H
      clear H
      have hcz19_0 : wr.cell? ⟨gb101, 0, none⟩ = some (.slice A0_0 l0_0.length c0_0) := (blk_cell BK101.out 0).trans rfl
      have hfz19_0 := blk_frozen BK101.out 0
      have p105 : 0 ≤ (x4_1 : Int) := of_decide_eq_true (by first | (with_reducible assumption) | assumption)
      have q105 : x4_1 < (l0_0.length : Int) := of_decide_eq_true (by first | (with_reducible assumption) | assumption)
      obtain ⟨ad105, A105_0, c105_0, e105, hx105_0, hl105_0, hi105_0⟩ := at_LFace HR0_0.out x4_1 p105 q105
      cases e105
      replace hx105_0 := (HB.out.cell (yny w _ hx105_0)).trans hx105_0
      have HR105_0 := Aside0.mk hi105_0
      have HC105_0 := Aside0.mk hl105_0
      clear hi105_0 hl105_0
      replace p105 := eq_true p105
      replace q105 := eq_true q105
      have p106 : 0 ≤ (x5_2 : Int) := of_decide_eq_true (by first | (with_reducible assumption) | assumption)
      have q106 : x5_2 < ((rd_LFace l0_0 x4_1).length : Int) := of_decide_eq_true (by first | (with_reducible assumption) | assumption)
      obtain ⟨ad106, e106, hx106_0, hx106_1⟩ := at_Face HR105_0.out x5_2 p106 q106
      cases e106
      replace hx106_0 := (HB.out.cell (yny w _ hx106_0)).trans hx106_0
      replace hx106_1 := (HB.out.cell (yny w _ hx106_1)).trans hx106_1
      replace p106 := eq_true p106
      replace q106 := eq_true q106
      go_wp2
      go_roundg k2
      case measure => have := HK1.out; have := HK2.out; omega
      case rel => exact ⟨(x3_2), (wrap64 (x5_2 + 1)), (by first | rfl | (simp; done) | (simp [*]; done)), H', ⟨by have := HK1.out; have := HK2.out; omega⟩, ⟨by (with_reducible repeat (first | apply Kd.S_alloc | apply Kd.S_drewN | apply Kd.S_drew)); exact HO_3.out⟩, ⟨by (with_reducible repeat (first | refine blk_drewN ?_ _ | refine blk_drew ?_ | refine blk_alloc ?_ _)); exact BK101.out⟩, ⟨by repeat (first | (with_reducible first | exact HB.out | apply below_alloc | apply pw_below_drewN | apply below_drew1 | refine below_set ?_ GE101.out) | exact HB.out)⟩⟩
     rw [if_pos c12] at H
     have c12b0 : decide (((rd_Face (rd_LFace l0_0 x4_1) x5_2).f0) < 0) = true := ygy c12
     clear c12
     obtain ⟨y107, hy107⟩ : ∃ y_ : List Int, y_ = (([x4_1, x5_2] : List Int)) := ⟨_, rfl⟩
     replace H : (if x3_2.length < 5864062014805 then (spec_l07Boundary.l1 k2 (x3_2 ++ [y107]) x4_1 (wrap64 (x5_2 + 1)) l0_0) else (none)) = some r := by first | (rw [hy107]; with_reducible exact H) | (have H2_ := (yfy _ _).symm.trans H; rw [hy107]; with_reducible exact H2_) | (have H2_ := (yfy _ _).symm.trans H; with_reducible exact H2_) | with_reducible exact H | (rw [hy107]; exact H) | exact H
     have Ny107 := Aside0.mk hy107
     clear hy107
     by_cases c13 : x3_2.length < 5864062014805
     rotate_left
     next =>
      rw [if_neg c13] at H
      exact absurd H (by simp)
     rw [if_pos c13] at H
     have LMc13 := Aside0.mk c13
     clear c13
     obtain ⟨y110, hy110⟩ : ∃ y_ : List (List Int), y_ = (x3_2 ++ [y107]) := ⟨_, rfl⟩
     replace H : (spec_l07Boundary.l1 k2 y110 x4_1 (wrap64 (x5_2 + 1)) l0_0) = some r := by first | (rw [hy110]; with_reducible exact H) | (have H2_ := (yfy _ _).symm.trans H; rw [hy110]; with_reducible exact H2_) | (have H2_ := (yfy _ _).symm.trans H; with_reducible exact H2_) | with_reducible exact H | (rw [hy110]; exact H) | exact H
     have Ny110 := Aside0.mk hy110
     clear hy110
     have H' := Aside0.mk H
     clear H
     have hcz14_0 : wr.cell? ⟨gb101, 0, none⟩ = some (.slice A0_0 l0_0.length c0_0) := (blk_cell BK101.out 0).trans rfl
     have hfz14_0 := blk_frozen BK101.out 0
     have p105 : 0 ≤ (x4_1 : Int) := of_decide_eq_true (by first | (with_reducible assumption) | assumption)
     have q105 : x4_1 < (l0_0.length : Int) := of_decide_eq_true (by first | (with_reducible assumption) | assumption)
     obtain ⟨ad105, A105_0, c105_0, e105, hx105_0, hl105_0, hi105_0⟩ := at_LFace HR0_0.out x4_1 p105 q105
     cases e105
     replace hx105_0 := (HB.out.cell (yny w _ hx105_0)).trans hx105_0
     have HR105_0 := Aside0.mk hi105_0
     have HC105_0 := Aside0.mk hl105_0
     clear hi105_0 hl105_0
     replace p105 := eq_true p105
     replace q105 := eq_true q105
     have p106 : 0 ≤ (x5_2 : Int) := of_decide_eq_true (by first | (with_reducible assumption) | assumption)
     have q106 : x5_2 < ((rd_LFace l0_0 x4_1).length : Int) := of_decide_eq_true (by first | (with_reducible assumption) | assumption)
     obtain ⟨ad106, e106, hx106_0, hx106_1⟩ := at_Face HR105_0.out x5_2 p106 q106
     cases e106
     replace hx106_0 := (HB.out.cell (yny w _ hx106_0)).trans hx106_0
     replace hx106_1 := (HB.out.cell (yny w _ hx106_1)).trans hx106_1
     replace p106 := eq_true p106
     replace q106 := eq_true q106
     go_wp2_with (first | ((with_reducible refine gate_dst (N := 31) rfl ?_); refine Kd.R_lit (Kd.int .i64) _ 2 ?hg (N := 31) ?hd (xs := ([x4_1, x5_2] : List Int)) (inner := [.int .i64 x4_1, .int .i64 x5_2]) (ok := fun _ => True) (okp := fun _ => True) ?hr ?hp (fun _ hk => hk) trivial (Below.refl _ _) (yoy _) (by simp) ?_; (case hd => rfl); (case hg => rfl); (case hr => first | (go_simp; done) | (go_simp; rfl)); (case hp => exact (Reps.one (show Kd.M (Kd.int .i64) _ _ _ x4_1 [.int .i64 x4_1] from rfl) (Reps.one (show Kd.M (Kd.int .i64) _ _ _ x5_2 [.int .i64 x5_2] from rfl) (Reps.none _ _)))); intro v108 w15 ho16 hb hg_ hnew_; clear hg_ hnew_; (first | rw [← Ny107.out] at ho16 | (simp only [Int.reduceToNat] at ho16; rw [← Ny107.out] at ho16)); have n0_ := Aside0.mk (Kd.S_elder' (by (with_reducible repeat (first | apply Kd.S_alloc | apply Kd.S_drewN | apply Kd.S_drew)); exact HO_3.out) (Kd.R_base ho16) hb); have n1_ := Aside0.mk (Kd.R_lower ho16 (below_size (by repeat (first | (with_reducible first | exact HB.out | apply below_alloc | apply pw_below_drewN | apply below_drew1 | refine below_set ?_ GE101.out) | exact HB.out)))); have n2_ := Aside0.mk (blk_below (g := gb101) (o := .cells #[.slice (some ad105) l0_0.length c0_0] 30 (0, 0)) (by (with_reducible repeat (first | refine blk_drewN ?_ _ | refine blk_drew ?_ | refine blk_alloc ?_ _)); exact BK101.out) hb); have n3_ := Aside0.mk (below_step (by repeat (first | (with_reducible first | exact HB.out | apply below_alloc | apply pw_below_drewN | apply below_drew1 | refine below_set ?_ GE101.out) | exact HB.out)) hb); clear HO_3; clear BK101; clear HB; have HO_3 := n0_; have HO109 := n1_; have BK101 := n2_; have HB := n3_; clear n0_ n1_ n2_ n3_; clear hb ho16; obtain ⟨Ao18, co18, eo18⟩ := Kd.R_slice HO109.out; subst eo18) | ((with_reducible refine gate_builtin (b := .append) (xs := #[.tmp 28, .tmp 32]) rfl ?_); at_builtin; refine Kd.S_append (Kd.slice 2 (Kd.int .i64)) (w0 := w) w.heap.size rfl (.tmp 28) (.tmp 32) 38 44 (.slice none 0 0) 24 rfl Try.underlying38 info44 rfl (by decide) (by omega) u3 x3_2 y107 [.slice Ao18 y107.length co18] (fun _ => True) (fun k_ => some k_ = (.slice Ao18 y107.length co18 : Value).ownBlock) rfl rfl ?aP (fun k_ hk_ => ((Kd.R_mono (ok' := fun k_ => ((fun _ => True)) k_ ∧ some k_ ≠ (u3 : Value).ownBlock) (Kd.R_apart' (HO109.out) (Kd.S_typed HO_3.out) (by decide)) (fun k_ hk => ⟨trivial, hk.2⟩))).1 k_ hk_.symm) ?aF ?aO ?aB ?aS ?aL ?_; (case aP => exact Kd.M_row (Kd.R_mono (Kd.R_tight rfl (Kd.R_mono (ok' := fun k_ => ((fun _ => True)) k_ ∧ some k_ ≠ (u3 : Value).ownBlock) (Kd.R_apart' (HO109.out) (Kd.S_typed HO_3.out) (by decide)) (fun k_ hk => ⟨trivial, hk.2⟩))) (fun _ h_ => h_))); (case aB => exact (by repeat (first | (with_reducible first | exact HB.out | apply below_alloc | apply pw_below_drewN | apply below_drew1 | refine below_set ?_ GE101.out) | exact HB.out))); (case aF => exact (fun _ _ => trivial)); (case aO => exact (by (with_reducible repeat (first | apply Kd.S_alloc | apply Kd.S_drewN | apply Kd.S_drew)); exact Kd.S_mono HO_3.out (fun k_ hk => ⟨trivial, fun e_ => hk.2 e_⟩))); (case aS => exact (below_size (by repeat (first | (with_reducible first | exact HB.out | apply below_alloc | apply pw_below_drewN | apply below_drew1 | refine below_set ?_ GE101.out) | exact HB.out)))); (case aL => have := LMc13.out; omega); intro v111 w17 ho hb hg hat; rw [← Ny110.out] at ho; have n0_ := Aside0.mk (blk_grown (g := gb101) (o := .cells #[.slice (some ad105) l0_0.length c0_0] 30 (0, 0)) (by (with_reducible repeat (first | refine blk_drewN ?_ _ | refine blk_drew ?_ | refine blk_alloc ?_ _)); exact BK101.out) hg (Kd.S_ne HO_3.out BK101.out (by decide))); have n1_ := Aside0.mk (hb); have n2_ := Aside0.mk (ho); clear BK101; clear HB; clear HO_3; clear HO109; have BK101 := n0_; have HB := n1_; have HO112 := n2_; clear n0_ n1_ n2_; clear ho hb hg hat))
     go_roundg k2
     case measure => have := HK1.out; have := HK2.out; omega
     case rel => exact ⟨(y110), (wrap64 (x5_2 + 1)), (by first | rfl | (simp; done) | (simp [*]; done)), H', ⟨by have := HK1.out; have := HK2.out; omega⟩, ⟨by (with_reducible repeat (first | apply Kd.S_alloc | apply Kd.S_drewN | apply Kd.S_drew)); exact HO112.out⟩, ⟨by (with_reducible repeat (first | refine blk_drewN ?_ _ | refine blk_drew ?_ | refine blk_alloc ?_ _)); exact BK101.out⟩, ⟨by repeat (first | (with_reducible first | exact HB.out | apply below_alloc | apply pw_below_drewN | apply below_drew1 | refine below_set ?_ GE101.out) | exact HB.out)⟩⟩
/-! ### spec_IsClosed: function 33 -/
def spec_IsClosed.f (k : Nat) (l0_0 : List (List (SFace))) : Option (Bool) := (spec_IsTriangulation.f k l0_0).bind fun t102 => (if t102 = true then (if (l0_0.length : Int) > 0 then ((spec_l07Boundary.f k l0_0).bind fun t103 => (some ((t103.length : Int) == 0))) else (some false)) else (some false))
set_option maxHeartbeats 8000000 in
set_option maxRecDepth 100000 in
theorem spec_IsClosed.calls (k : Nat) (A0_0 : Option Addr) (c0_0 : Nat) (l0_0 : List (List (SFace))) (r : Bool) (w : World) (hr0_0 : Kd.C (Kd.slice 59 kFace) w A0_0 l0_0.length l0_0) (hc0_0 : l0_0.length ≤ c0_0) (h : spec_IsClosed.f k l0_0 = some r) :
    Calls Try.prog 33 #[.agg #[.slice A0_0 l0_0.length c0_0]] w fun e w' => e = .returned (.bool r) ∧ Below w.heap.size w w' := by
  have hu30 := Try.underlying30
  have HR0_0 := Aside0.mk hr0_0
  have HC0_0 := Aside0.mk hc0_0
  clear hr0_0 hc0_0
  have HB := Aside0.mk (Below.refl w.heap.size w)
  have H : ((spec_IsTriangulation.f k l0_0).bind fun t102 => (if t102 = true then (if (l0_0.length : Int) > 0 then ((spec_l07Boundary.f k l0_0).bind fun t103 => (some ((t103.length : Int) == 0))) else (some false)) else (some false))) = some r := h
  clear h
  replace H := ydy.mp H
  obtain ⟨t102, A20, H⟩ := H
  replace H : (if t102 = true then (if (l0_0.length : Int) > 0 then ((spec_l07Boundary.f k l0_0).bind fun t103 => (some ((t103.length : Int) == 0))) else (some false)) else (some false)) = some r := H
  have A2 := Aside0.mk A20
  clear A20
  by_cases c3 : t102 = true
  · subst c3
    have H1 : (if (l0_0.length : Int) > 0 then ((spec_l07Boundary.f k l0_0).bind fun t103 => (some ((t103.length : Int) == 0))) else (some false)) = some r := by rw [if_pos rfl] at H; exact H
    clear H
    have H := H1
    clear H1
    by_cases c4 : (l0_0.length : Int) > 0
    · rw [if_pos c4] at H
      have c4b0 : decide (0 < (l0_0.length : Int)) = true := ygy c4
      have c4b1 : decide (0 < l0_0.length) = true := ygy (by omega)
      clear c4
      replace H := ydy.mp H
      obtain ⟨t103, A50, H⟩ := H
      replace H : (some ((t103.length : Int) == 0)) = some r := H
      have A5 := Aside0.mk A50
      clear A50
      obtain rfl := yey H
      go_enter Try.func33, Try.ntmps33
      go_wp2_with (first | ((with_reducible refine gate_dst (N := 1) rfl ?_); (try (refine gate_guard (by rfl) ?_; dsimp only)); refine box_event ?hg (N := 1) ?hd (cs := #[.slice A0_0 l0_0.length c0_0]) (t := 30) ?hr ?_; (case hd => rfl); (case hg => rfl); (case hr => first | (go_simp; done) | (go_simp; rfl)); intro gb101 hg w6 hbox hb; have n0_ := Aside0.mk (below_step (by repeat (first | (with_reducible first | exact HB.out | apply below_alloc | apply pw_below_drewN | apply below_drew1) | exact HB.out)) hb); have n1_ := Aside0.mk (hbox); have n2_ := Aside0.mk ((by rw [hg]; exact (below_size (by repeat (first | (with_reducible first | exact HB.out | apply below_alloc | apply pw_below_drewN | apply below_drew1) | exact HB.out))) : w.heap.size ≤ gb101)); have n3_ := Aside0.mk ((by rw [hg]; exact (below_size (by repeat (first | (with_reducible first | exact HB.out | apply below_alloc | apply pw_below_drewN | apply below_drew1) | exact HB.out))) : w.heap.size ≤ gb101)); clear HB; have HB := n0_; have BK101 := n1_; have GW101 := n2_; have GE101 := n3_; clear n0_ n1_ n2_ n3_; clear hb hbox hg; have hcz7_0 : w6.cell? ⟨gb101, 0, none⟩ = some (.slice A0_0 l0_0.length c0_0) := (blk_cell BK101.out 0).trans rfl; have hfz7_0 := blk_frozen BK101.out 0) | ((with_reducible refine gate_callee (f := 56) rfl ?_); refine goesL_ (some 4) rfl rfl Try.func56 (by kernel_rfl) rfl #[.agg #[.slice A0_0 l0_0.length c0_0]] rfl (by (try simp only [yiy, yjy, yky]); first | done | rfl | (simp only [yly, ymy]; rfl)) ?_; (with_reducible refine (spec_IsTriangulation.calls k _ _ l0_0 true _ ?side1 ?side2 A2.out).mono ?_); (case side1 => repeat (first | exact (Kd.C_below HR0_0.out HB.out) | (with_reducible refine Kd.C_alloc ?_ _) | (with_reducible refine Kd.C_drewN ?_ _) | (with_reducible refine Kd.C_drew ?_))); (case side2 => exact HC0_0.out); rintro e w8 ⟨rfl, hb⟩; refine ⟨_, rfl, ?_⟩; have n0_ := Aside0.mk (blk_below (g := gb101) (o := .cells #[.slice A0_0 l0_0.length c0_0] 30 (0, 0)) (by (with_reducible repeat (first | refine blk_drewN ?_ _ | refine blk_drew ?_ | refine blk_alloc ?_ _)); exact BK101.out) hb); have n1_ := Aside0.mk (below_step (by repeat (first | (with_reducible first | exact HB.out | apply below_alloc | apply pw_below_drewN | apply below_drew1 | refine below_set ?_ GE101.out) | exact HB.out)) hb); clear BK101; clear HB; have BK101 := n0_; have HB := n1_; clear n0_ n1_; (try clear hb); (try clear hb2); (try clear hk); (try clear hi); have hcz9_0 : w8.cell? ⟨gb101, 0, none⟩ = some (.slice A0_0 l0_0.length c0_0) := (blk_cell BK101.out 0).trans rfl; have hfz9_0 := blk_frozen BK101.out 0) | (go_at_call 75; (with_reducible refine (spec_l07Boundary.calls k _ _ l0_0 t103 _ ?side1 ?side2 A5.out).mono ?_); (case side1 => repeat (first | exact (Kd.C_below HR0_0.out HB.out) | (with_reducible refine Kd.C_alloc ?_ _) | (with_reducible refine Kd.C_drewN ?_ _) | (with_reducible refine Kd.C_drew ?_))); (case side2 => exact HC0_0.out); rintro e w10 ⟨v104, rfl, ho0, hb⟩; have n0_ := Aside0.mk (Kd.S_lower ho0 (below_size (by repeat (first | (with_reducible first | exact HB.out | apply below_alloc | apply pw_below_drewN | apply below_drew1 | refine below_set ?_ GE101.out) | exact HB.out)))); have n1_ := Aside0.mk (blk_below (g := gb101) (o := .cells #[.slice A0_0 l0_0.length c0_0] 30 (0, 0)) (by (with_reducible repeat (first | refine blk_drewN ?_ _ | refine blk_drew ?_ | refine blk_alloc ?_ _)); exact BK101.out) hb); have n2_ := Aside0.mk (below_step (by repeat (first | (with_reducible first | exact HB.out | apply below_alloc | apply pw_below_drewN | apply below_drew1 | refine below_set ?_ GE101.out) | exact HB.out)) hb); clear BK101; clear HB; have HO105 := n0_; have BK101 := n1_; have HB := n2_; clear n0_ n1_ n2_; (try clear hb); (try clear hb2); (try clear hk); (try clear hi); (try clear ho0); obtain ⟨Ao11, co11, eo11⟩ := Kd.S_slice HO105.out; subst eo11))
      go_ret
      exact ⟨by first | rfl | (simp [errW_none, errW_some] <;> rfl) | (simp [*, errW_none, errW_some] <;> rfl), by repeat (first | (with_reducible first | exact HB.out | apply below_alloc | apply pw_below_drewN | apply below_drew1 | refine below_set ?_ GE101.out) | exact HB.out)⟩
    · rw [if_neg c4] at H
      have c4b0 : decide (0 < (l0_0.length : Int)) = false := yhy c4
      have c4b1 : decide (0 < l0_0.length) = false := yhy (by omega)
      clear c4
      obtain rfl := yey H
      go_enter Try.func33, Try.ntmps33
      go_wp2_with (first | ((with_reducible refine gate_dst (N := 1) rfl ?_); (try (refine gate_guard (by rfl) ?_; dsimp only)); refine box_event ?hg (N := 1) ?hd (cs := #[.slice A0_0 l0_0.length c0_0]) (t := 30) ?hr ?_; (case hd => rfl); (case hg => rfl); (case hr => first | (go_simp; done) | (go_simp; rfl)); intro gb101 hg w12 hbox hb; have n0_ := Aside0.mk (below_step (by repeat (first | (with_reducible first | exact HB.out | apply below_alloc | apply pw_below_drewN | apply below_drew1) | exact HB.out)) hb); have n1_ := Aside0.mk (hbox); have n2_ := Aside0.mk ((by rw [hg]; exact (below_size (by repeat (first | (with_reducible first | exact HB.out | apply below_alloc | apply pw_below_drewN | apply below_drew1) | exact HB.out))) : w.heap.size ≤ gb101)); have n3_ := Aside0.mk ((by rw [hg]; exact (below_size (by repeat (first | (with_reducible first | exact HB.out | apply below_alloc | apply pw_below_drewN | apply below_drew1) | exact HB.out))) : w.heap.size ≤ gb101)); clear HB; have HB := n0_; have BK101 := n1_; have GW101 := n2_; have GE101 := n3_; clear n0_ n1_ n2_ n3_; clear hb hbox hg; have hcz13_0 : w12.cell? ⟨gb101, 0, none⟩ = some (.slice A0_0 l0_0.length c0_0) := (blk_cell BK101.out 0).trans rfl; have hfz13_0 := blk_frozen BK101.out 0) | ((with_reducible refine gate_callee (f := 56) rfl ?_); refine goesL_ (some 4) rfl rfl Try.func56 (by kernel_rfl) rfl #[.agg #[.slice A0_0 l0_0.length c0_0]] rfl (by (try simp only [yiy, yjy, yky]); first | done | rfl | (simp only [yly, ymy]; rfl)) ?_; (with_reducible refine (spec_IsTriangulation.calls k _ _ l0_0 true _ ?side1 ?side2 A2.out).mono ?_); (case side1 => repeat (first | exact (Kd.C_below HR0_0.out HB.out) | (with_reducible refine Kd.C_alloc ?_ _) | (with_reducible refine Kd.C_drewN ?_ _) | (with_reducible refine Kd.C_drew ?_))); (case side2 => exact HC0_0.out); rintro e w14 ⟨rfl, hb⟩; refine ⟨_, rfl, ?_⟩; have n0_ := Aside0.mk (blk_below (g := gb101) (o := .cells #[.slice A0_0 l0_0.length c0_0] 30 (0, 0)) (by (with_reducible repeat (first | refine blk_drewN ?_ _ | refine blk_drew ?_ | refine blk_alloc ?_ _)); exact BK101.out) hb); have n1_ := Aside0.mk (below_step (by repeat (first | (with_reducible first | exact HB.out | apply below_alloc | apply pw_below_drewN | apply below_drew1 | refine below_set ?_ GE101.out) | exact HB.out)) hb); clear BK101; clear HB; have BK101 := n0_; have HB := n1_; clear n0_ n1_; (try clear hb); (try clear hb2); (try clear hk); (try clear hi); have hcz15_0 : w14.cell? ⟨gb101, 0, none⟩ = some (.slice A0_0 l0_0.length c0_0) := (blk_cell BK101.out 0).trans rfl; have hfz15_0 := blk_frozen BK101.out 0))
      go_ret
      exact ⟨by first | rfl | (simp [errW_none, errW_some] <;> rfl) | (simp [*, errW_none, errW_some] <;> rfl), by repeat (first | (with_reducible first | exact HB.out | apply below_alloc | apply pw_below_drewN | apply below_drew1 | refine below_set ?_ GE101.out) | exact HB.out)⟩
  · replace c3 := Bool.eq_false_iff.mpr c3
    subst c3
    have H1 : (some false) = some r := by rw [if_neg (show ¬ (false = true) by decide)] at H; exact H
    clear H
    have H := H1
    clear H1
    obtain rfl := yey H
    go_enter Try.func33, Try.ntmps33
    go_wp2_with (first | ((with_reducible refine gate_dst (N := 1) rfl ?_); (try (refine gate_guard (by rfl) ?_; dsimp only)); refine box_event ?hg (N := 1) ?hd (cs := #[.slice A0_0 l0_0.length c0_0]) (t := 30) ?hr ?_; (case hd => rfl); (case hg => rfl); (case hr => first | (go_simp; done) | (go_simp; rfl)); intro gb101 hg w16 hbox hb; have n0_ := Aside0.mk (below_step (by repeat (first | (with_reducible first | exact HB.out | apply below_alloc | apply pw_below_drewN | apply below_drew1) | exact HB.out)) hb); have n1_ := Aside0.mk (hbox); have n2_ := Aside0.mk ((by rw [hg]; exact (below_size (by repeat (first | (with_reducible first | exact HB.out | apply below_alloc | apply pw_below_drewN | apply below_drew1) | exact HB.out))) : w.heap.size ≤ gb101)); have n3_ := Aside0.mk ((by rw [hg]; exact (below_size (by repeat (first | (with_reducible first | exact HB.out | apply below_alloc | apply pw_below_drewN | apply below_drew1) | exact HB.out))) : w.heap.size ≤ gb101)); clear HB; have HB := n0_; have BK101 := n1_; have GW101 := n2_; have GE101 := n3_; clear n0_ n1_ n2_ n3_; clear hb hbox hg; have hcz17_0 : w16.cell? ⟨gb101, 0, none⟩ = some (.slice A0_0 l0_0.length c0_0) := (blk_cell BK101.out 0).trans rfl; have hfz17_0 := blk_frozen BK101.out 0) | ((with_reducible refine gate_callee (f := 56) rfl ?_); refine goesL_ (some 4) rfl rfl Try.func56 (by kernel_rfl) rfl #[.agg #[.slice A0_0 l0_0.length c0_0]] rfl (by (try simp only [yiy, yjy, yky]); first | done | rfl | (simp only [yly, ymy]; rfl)) ?_; (with_reducible refine (spec_IsTriangulation.calls k _ _ l0_0 false _ ?side1 ?side2 A2.out).mono ?_); (case side1 => repeat (first | exact (Kd.C_below HR0_0.out HB.out) | (with_reducible refine Kd.C_alloc ?_ _) | (with_reducible refine Kd.C_drewN ?_ _) | (with_reducible refine Kd.C_drew ?_))); (case side2 => exact HC0_0.out); rintro e w18 ⟨rfl, hb⟩; refine ⟨_, rfl, ?_⟩; have n0_ := Aside0.mk (blk_below (g := gb101) (o := .cells #[.slice A0_0 l0_0.length c0_0] 30 (0, 0)) (by (with_reducible repeat (first | refine blk_drewN ?_ _ | refine blk_drew ?_ | refine blk_alloc ?_ _)); exact BK101.out) hb); have n1_ := Aside0.mk (below_step (by repeat (first | (with_reducible first | exact HB.out | apply below_alloc | apply pw_below_drewN | apply below_drew1 | refine below_set ?_ GE101.out) | exact HB.out)) hb); clear BK101; clear HB; have BK101 := n0_; have HB := n1_; clear n0_ n1_; (try clear hb); (try clear hb2); (try clear hk); (try clear hi)))
    go_ret
    exact ⟨by first | rfl | (simp [errW_none, errW_some] <;> rfl) | (simp [*, errW_none, errW_some] <;> rfl), by repeat (first | (with_reducible first | exact HB.out | apply below_alloc | apply pw_below_drewN | apply below_drew1 | refine below_set ?_ GE101.out) | exact HB.out)⟩
/-! ### spec_l08Fresh: function 35 -/
def spec_l08Fresh.l0 : Nat → Int → List Int → Int → Option (List Int)
  | 0, _, _, _ => none
  | k + 1, x0, x3, x4 => if x4 < x0 then (if x3.length < 17592186044416 then (spec_l08Fresh.l0 k x0 (x3 ++ [x4]) (wrap64 (x4 + 1))) else (none)) else (some x3)
def spec_l08Fresh.f (k : Nat) (a0 : Int) : Option (List Int) := spec_l08Fresh.l0 k a0 (([] : List Int)) 0
set_option maxHeartbeats 8000000 in
set_option maxRecDepth 100000 in
theorem spec_l08Fresh.calls (k : Nat) (a0 : Int) (r : List Int) (w : World) (h : spec_l08Fresh.f k a0 = some r) :
    Calls Try.prog 35 #[.int .i64 a0] w fun e w' => ∃ v0_ : Value, e = .returned (v0_) ∧ Kd.R (Kd.int .i64) 2 w' w.heap.size (fun _ => True) v0_ r ∧ Below w.heap.size w w' := by
  have HB := Aside0.mk (Below.refl w.heap.size w)
  have H : (spec_l08Fresh.l0 k a0 (([] : List Int)) 0) = some r := h
  clear h
  obtain ⟨y101, hy101⟩ : ∃ y_ : List Int, y_ = (([] : List Int)) := ⟨_, rfl⟩
  replace H : (spec_l08Fresh.l0 k a0 y101 0) = some r := by first | (rw [hy101]; with_reducible exact H) | (have H2_ := (yfy _ _).symm.trans H; rw [hy101]; with_reducible exact H2_) | (have H2_ := (yfy _ _).symm.trans H; with_reducible exact H2_) | with_reducible exact H | (rw [hy101]; exact H) | exact H
  have Ny101 := Aside0.mk hy101
  clear hy101
  have H' := Aside0.mk H
  clear H
  go_enter Try.func35, Try.ntmps35
  go_wp2_with (first | ((with_reducible refine gate_dst (N := 5) rfl ?_); refine Kd.R_lit (Kd.int .i64) _ 2 ?hg (N := 5) ?hd (xs := ([] : List Int)) (inner := []) (ok := fun _ => True) (okp := fun _ => True) ?hr ?hp (fun _ hk => hk) trivial (Below.refl _ _) (yoy _) (by simp) ?_; (case hd => rfl); (case hg => rfl); (case hr => first | (go_simp; done) | (go_simp; rfl)); (case hp => exact (Reps.none _ _)); intro v102 w2 ho3 hb hg_ hnew_; clear hg_ hnew_; (first | rw [← Ny101.out] at ho3 | (simp only [Int.reduceToNat] at ho3; rw [← Ny101.out] at ho3)); have n0_ := Aside0.mk (Kd.R_lower ho3 (below_size (by repeat (first | (with_reducible first | exact HB.out | apply below_alloc | apply pw_below_drewN | apply below_drew1) | exact HB.out)))); have n1_ := Aside0.mk (below_step (by repeat (first | (with_reducible first | exact HB.out | apply below_alloc | apply pw_below_drewN | apply below_drew1) | exact HB.out)) hb); clear HB; have HO103 := n0_; have HB := n1_; clear n0_ n1_; clear hb ho3))
  go_loopg [3, 4] k (fun kq v3 v4 w' => ∃ (x3_1 : List Int) (x4_1 : Int), v4 = .int .i64 x4_1 ∧ Aside0 (spec_l08Fresh.l0 kq a0 x3_1 x4_1 = some r) ∧ Aside0 (kq ≤ k) ∧ Aside0 (Kd.R (Kd.int .i64) 2 w' w.heap.size (fun _ => True) v3 x3_1) ∧ Aside0 (Below w.heap.size w w'))
  case atStart => exact ⟨(y101), (0), (by first | rfl | (simp; done) | (simp [*]; done)), H', ⟨yoy _⟩, ⟨by (with_reducible repeat (first | apply Kd.R_alloc | apply Kd.R_drewN | apply Kd.R_drew)); exact HO103.out⟩, ⟨by repeat (first | (with_reducible first | exact HB.out | apply below_alloc | apply pw_below_drewN | apply below_drew1) | exact HB.out)⟩⟩
  case round =>
    clear H'
    try clear p2
    try clear c3
    obtain ⟨x3_1, x4_1, rfl, HA, HK1, HO_3, HB⟩ := hrel
    cases gk with
    | zero => exact absurd HA.out (by simp [spec_l08Fresh.l0])
    | succ k1 =>
      have H := HA.out
      clear HA
      simp only [spec_l08Fresh.l0] at H
      by_cases c4 : x4_1 < a0
      · rw [if_pos c4] at H
        have c4b0 : decide (x4_1 < a0) = true := ygy c4
        clear c4
        by_cases c5 : x3_1.length < 17592186044416
        · rw [if_pos c5] at H
          have LMc5 := Aside0.mk c5
          clear c5
          obtain ⟨y104, hy104⟩ : ∃ y_ : List Int, y_ = (x3_1 ++ [x4_1]) := ⟨_, rfl⟩
          replace H : (spec_l08Fresh.l0 k1 a0 y104 (wrap64 (x4_1 + 1))) = some r := by first | (rw [hy104]; with_reducible exact H) | (have H2_ := (yfy _ _).symm.trans H; rw [hy104]; with_reducible exact H2_) | (have H2_ := (yfy _ _).symm.trans H; with_reducible exact H2_) | with_reducible exact H | (rw [hy104]; exact H) | exact H
          have Ny104 := Aside0.mk hy104
          clear hy104
          have H' := Aside0.mk H
          clear H
          go_wp2_with (first | ((with_reducible refine gate_builtin (b := .append) (xs := #[.tmp 11, .tmp 13]) rfl ?_); at_builtin; refine Kd.R_append (Kd.int .i64) (w0 := w) w.heap.size rfl (.tmp 11) (.tmp 13) 44 2 (.int .i64 0) 8 rfl Try.underlying44 info2 rfl (by decide) (by omega) u3 x3_1 x4_1 [.int .i64 x4_1] (fun _ => True) (fun _ => False) rfl rfl ?aP (fun _ hk => hk.elim) ?aF ?aO ?aB ?aS ?aL ?_; (case aP => exact rfl); (case aB => exact (by repeat (first | (with_reducible first | exact HB.out | apply below_alloc | apply pw_below_drewN | apply below_drew1) | exact HB.out))); (case aF => exact (fun _ _ => trivial)); (case aO => exact (by (with_reducible repeat (first | apply Kd.R_alloc | apply Kd.R_drewN | apply Kd.R_drew)); exact HO_3.out)); (case aS => exact (below_size (by repeat (first | (with_reducible first | exact HB.out | apply below_alloc | apply pw_below_drewN | apply below_drew1) | exact HB.out)))); (case aL => have := LMc5.out; omega); intro v105 w6 ho hb hg hat; rw [← Ny104.out] at ho; have n0_ := Aside0.mk (hb); have n1_ := Aside0.mk (ho); clear HB; clear HO_3; have HB := n0_; have HO106 := n1_; clear n0_ n1_; clear ho hb hg hat))
          go_roundg k1
          case measure => have := HK1.out; omega
          case rel => exact ⟨(y104), (wrap64 (x4_1 + 1)), (by first | rfl | (simp; done) | (simp [*]; done)), H', ⟨by have := HK1.out; omega⟩, ⟨by (with_reducible repeat (first | apply Kd.R_alloc | apply Kd.R_drewN | apply Kd.R_drew)); exact HO106.out⟩, ⟨by repeat (first | (with_reducible first | exact HB.out | apply below_alloc | apply pw_below_drewN | apply below_drew1) | exact HB.out)⟩⟩
        · rw [if_neg c5] at H
          exact absurd H (by simp)
      · rw [if_neg c4] at H
        have c4b0 : decide (x4_1 < a0) = false := yhy c4
        clear c4
        obtain rfl := yey H
        go_wp2
        go_ret
        exact ⟨_, by first | rfl | (simp [errW_none, errW_some] <;> rfl) | (simp [*, errW_none, errW_some] <;> rfl), by (with_reducible repeat (first | apply Kd.R_alloc | apply Kd.R_drewN | apply Kd.R_drew)); exact HO_3.out, by repeat (first | (with_reducible first | exact HB.out | apply below_alloc | apply pw_below_drewN | apply below_drew1) | exact HB.out)⟩
/-! ### spec_l16Matchings: function 37 -/
def spec_l16Matchings.l0 : Nat → Int → Int → Option (Int)
  | 0, _, _ => none
  | k + 1, x3, x4 => if x4 > 1 then (spec_l16Matchings.l0 k (wrap64 (x3 * x4)) (wrap64 (x4 - 2))) else (some x3)
def spec_l16Matchings.f (k : Nat) (a0 : Int) : Option (Int) := spec_l16Matchings.l0 k 1 (wrap64 (a0 - 1))
theorem spec_l16Matchings.mono_l : ∀ k, (∀ y0 y1, LeO (spec_l16Matchings.l0 k y0 y1) (spec_l16Matchings.l0 (k + 1) y0 y1))
  | 0 => fun _ _ r h => by simp [spec_l16Matchings.l0] at h
  | k + 1 => by
    have ih0 := spec_l16Matchings.mono_l k
    · intro y0 y1
      unfold spec_l16Matchings.l0
      repeat' first
      | (with_reducible exact ih0 _ _)
      | (with_reducible exact LeO.refl _)
      | (with_reducible exact LeO.none _)
      | (with_reducible refine LeO.ite ?_ ?_)
      | (with_reducible refine LeO.bind ?_ (fun _ => ?_))
      | exact ih0 _ _
      | exact LeO.none _
      | refine LeO.ite ?_ ?_
      | refine LeO.bind ?_ (fun _ => ?_)
theorem spec_l16Matchings.mono : ∀ a0 k, LeO (spec_l16Matchings.f k a0) (spec_l16Matchings.f (k + 1) a0) := by
  intro a0 k
  have ih0 := spec_l16Matchings.mono_l k
  unfold spec_l16Matchings.f
  repeat' first
      | (with_reducible exact ih0 _ _)
      | (with_reducible exact LeO.refl _)
      | (with_reducible exact LeO.none _)
      | (with_reducible refine LeO.ite ?_ ?_)
      | (with_reducible refine LeO.bind ?_ (fun _ => ?_))
      | exact ih0 _ _
      | exact LeO.none _
      | refine LeO.ite ?_ ?_
      | refine LeO.bind ?_ (fun _ => ?_)
set_option maxHeartbeats 8000000 in
set_option maxRecDepth 100000 in
theorem spec_l16Matchings.calls (k : Nat) (a0 : Int) (r : Int) (w : World) (h : spec_l16Matchings.f k a0 = some r) :
    Calls Try.prog 37 #[.int .i64 a0] w fun e w' => e = .returned (.int .i64 r) ∧ Drawn0 w w' := by
  have H : (spec_l16Matchings.l0 k 1 (wrap64 (a0 - 1))) = some r := h
  clear h
  have H' := Aside0.mk H
  clear H
  go_enter Try.func37, Try.ntmps37
  go_wp2
  go_loopg [3, 4] k (fun kq v3 v4 w' => ∃ (x3_1 : Int) (x4_1 : Int), v3 = .int .i64 x3_1 ∧ v4 = .int .i64 x4_1 ∧ Aside0 (spec_l16Matchings.l0 kq x3_1 x4_1 = some r) ∧ Aside0 (kq ≤ k) ∧ Drawn0 w w')
  case atStart => exact ⟨(1), (wrap64 (a0 - 1)), (by first | rfl | (simp; done) | (simp [*]; done)), (by first | rfl | (simp; done) | (simp [*]; done)), H', ⟨yoy _⟩, by repeat (first | exact Drawn0.refl _ | apply Drawn0.step)⟩
  case round =>
    clear H'
    obtain ⟨x3_1, x4_1, rfl, rfl, HA, HK1, ⟨m1, rfl⟩⟩ := hrel
    cases gk with
    | zero => exact absurd HA.out (by simp [spec_l16Matchings.l0])
    | succ k1 =>
      have H := HA.out
      clear HA
      simp only [spec_l16Matchings.l0] at H
      by_cases c2 : x4_1 > 1
      · rw [if_pos c2] at H
        have c2b0 : decide (1 < x4_1) = true := ygy c2
        clear c2
        have H' := Aside0.mk H
        clear H
        go_wp2
        go_roundg k1
        case measure => have := HK1.out; omega
        case rel => exact ⟨(wrap64 (x3_1 * x4_1)), (wrap64 (x4_1 - 2)), (by first | rfl | (simp; done) | (simp [*]; done)), (by first | rfl | (simp; done) | (simp [*]; done)), H', ⟨by have := HK1.out; omega⟩, by repeat (first | exact Drawn0.refl _ | apply Drawn0.step)⟩
      · rw [if_neg c2] at H
        have c2b0 : decide (1 < x4_1) = false := yhy c2
        clear c2
        obtain rfl := yey H
        go_wp2
        go_ret
        exact ⟨by first | rfl | (simp; done) | (simp [*]; done), by repeat (first | exact Drawn0.refl _ | apply Drawn0.step)⟩
end Go.Proofs.Ytfnopcbicceeaaa.P
