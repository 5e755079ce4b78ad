/- The statement FnExactGluingNumberSaid, proved: part 5 of 6 (texts of this session and of the kit's print, put together and cut to what is used by a program of it). -/
import Derived.Test.YtfnopcbicceeaaaMFnExactGluingNumber4
import Derived.Deep.Slices
import Derived.ChangeSame
import Derived.ChangeArms
import Derived.WideShapes
import Derived.Lib.SmallJoins
import Derived.ChangeShapes
namespace Go.Proofs.Ytfnopcbicceeaaa.P
open Go.RowKit Go.Proofs.YtfnopcbicceeaaaW.PrintWords Go.Proofs.YtfnopcbicceeaaaW.PrintLast Go.Proofs.YtfnopcbicceeaaaW.PrintMore
attribute [local go_sem] max2_int min2_int max_two min_two max_three min_three max_four min_four   -- for this text's walks alone
set_option linter.unusedVariables false
set_option linter.unusedSimpArgs false
/-! ### spec_l16Perms: function 38 -/
def spec_l16Perms.l0 : Nat → Int → Int → List Int → Int → Option (List Int)
  | 0, _, _, _, _ => none
  | k + 1, x0, x1, x5, x6 => if x6 < 24 then ((spec_l06At.f k x6 x0).bind fun t104 => (if t104 = x1 then (if x5.length < 17592186044416 then (spec_l16Perms.l0 k x0 x1 (x5 ++ [x6]) (wrap64 (x6 + 1))) else (none)) else (spec_l16Perms.l0 k x0 x1 x5 (wrap64 (x6 + 1))))) else (some x5)
def spec_l16Perms.f (k : Nat) (a0 : Int) (a1 : Int) : Option (List Int) := spec_l16Perms.l0 k a0 a1 (([] : List Int)) 0
theorem spec_l16Perms.mono_l : ∀ k, (∀ y0 y1 y2 y3, LeO (spec_l16Perms.l0 k y0 y1 y2 y3) (spec_l16Perms.l0 (k + 1) y0 y1 y2 y3))
  | 0 => fun _ _ _ _ r h => by simp [spec_l16Perms.l0] at h
  | k + 1 => by
    have ih0 := spec_l16Perms.mono_l k
    · intro y0 y1 y2 y3
      unfold spec_l16Perms.l0
      repeat' first
      | (with_reducible exact ih0 _ _ _ _)
      | (with_reducible exact spec_l06At.mono _ _ _)
      | (with_reducible exact LeO.refl _)
      | (with_reducible exact LeO.none _)
      | (with_reducible refine LeO.ite ?_ ?_)
      | (with_reducible refine LeO.bind ?_ (fun _ => ?_))
      | exact ih0 _ _ _ _
      | exact spec_l06At.mono _ _ _
      | exact LeO.none _
      | refine LeO.ite ?_ ?_
      | refine LeO.bind ?_ (fun _ => ?_)
theorem spec_l16Perms.mono : ∀ a0 a1 k, LeO (spec_l16Perms.f k a0 a1) (spec_l16Perms.f (k + 1) a0 a1) := by
  intro a0 a1 k
  have ih0 := spec_l16Perms.mono_l k
  unfold spec_l16Perms.f
  repeat' first
      | (with_reducible exact ih0 _ _ _ _)
      | (with_reducible exact spec_l06At.mono _ _ _)
      | (with_reducible exact LeO.refl _)
      | (with_reducible exact LeO.none _)
      | (with_reducible refine LeO.ite ?_ ?_)
      | (with_reducible refine LeO.bind ?_ (fun _ => ?_))
      | exact ih0 _ _ _ _
      | exact spec_l06At.mono _ _ _
      | exact LeO.none _
      | refine LeO.ite ?_ ?_
      | refine LeO.bind ?_ (fun _ => ?_)
set_option maxHeartbeats 8000000 in
set_option maxRecDepth 100000 in
theorem spec_l16Perms.calls (k : Nat) (a0 : Int) (a1 : Int) (r : List Int) (w : World) (h : spec_l16Perms.f k a0 a1 = some r) :
    Calls Try.prog 38 #[.int .i64 a0, .int .i64 a1] w fun e w' => ∃ v0_ : Value, e = .returned (v0_) ∧ Kd.R (Kd.int .i64) 2 w' w.heap.size (fun _ => True) v0_ r ∧ Below w.heap.size w w' := by
  have HB := Aside0.mk (Below.refl w.heap.size w)
  have H : (spec_l16Perms.l0 k a0 a1 (([] : List Int)) 0) = some r := h
  clear h
  obtain ⟨y101, hy101⟩ : ∃ y_ : List Int, y_ = (([] : List Int)) := ⟨_, rfl⟩
  replace H : (spec_l16Perms.l0 k a0 a1 y101 0) = some r := by first | (rw [hy101]; with_reducible exact H) | (have H2_ := (yfy _ _).symm.trans H; rw [hy101]; with_reducible exact H2_) | (have H2_ := (yfy _ _).symm.trans H; with_reducible exact H2_) | with_reducible exact H | (rw [hy101]; exact H) | exact H
  have Ny101 := Aside0.mk hy101
  clear hy101
  have H' := Aside0.mk H
  clear H
  go_enter Try.func38, Try.ntmps38
  go_wp2_with (first | ((with_reducible refine gate_dst (N := 7) rfl ?_); refine Kd.R_lit (Kd.int .i64) _ 2 ?hg (N := 7) ?hd (xs := ([] : List Int)) (inner := []) (ok := fun _ => True) (okp := fun _ => True) ?hr ?hp (fun _ hk => hk) trivial (Below.refl _ _) (yoy _) (by simp) ?_; (case hd => rfl); (case hg => rfl); (case hr => first | (go_simp; done) | (go_simp; rfl)); (case hp => exact (Reps.none _ _)); intro v102 w3 ho4 hb hg_ hnew_; clear hg_ hnew_; (first | rw [← Ny101.out] at ho4 | (simp only [Int.reduceToNat] at ho4; rw [← Ny101.out] at ho4)); have n0_ := Aside0.mk (Kd.R_lower ho4 (below_size (by repeat (first | (with_reducible first | exact HB.out | apply below_alloc | apply pw_below_drewN | apply below_drew1) | exact HB.out)))); have n1_ := Aside0.mk (below_step (by repeat (first | (with_reducible first | exact HB.out | apply below_alloc | apply pw_below_drewN | apply below_drew1) | exact HB.out)) hb); clear HB; have HO103 := n0_; have HB := n1_; clear n0_ n1_; clear hb ho4))
  go_loopg [5, 6] k (fun kq v5 v6 w' => ∃ (x5_1 : List Int) (x6_1 : Int), v6 = .int .i64 x6_1 ∧ Aside0 (spec_l16Perms.l0 kq a0 a1 x5_1 x6_1 = some r) ∧ Aside0 (kq ≤ k) ∧ Aside0 (Kd.R (Kd.int .i64) 2 w' w.heap.size (fun _ => True) v5 x5_1) ∧ Aside0 (Below w.heap.size w w'))
  case atStart => exact ⟨(y101), (0), (by first | rfl | (simp; done) | (simp [*]; done)), H', ⟨yoy _⟩, ⟨by (with_reducible repeat (first | apply Kd.R_alloc | apply Kd.R_drewN | apply Kd.R_drew)); exact HO103.out⟩, ⟨by repeat (first | (with_reducible first | exact HB.out | apply below_alloc | apply pw_below_drewN | apply below_drew1) | exact HB.out)⟩⟩
  case round =>
    clear H'
    try clear p2
    try clear c3
    obtain ⟨x5_1, x6_1, rfl, HA, HK1, HO_5, HB⟩ := hrel
    cases gk with
    | zero => exact absurd HA.out (by simp [spec_l16Perms.l0])
    | succ k1 =>
      have H := HA.out
      clear HA
      simp only [spec_l16Perms.l0] at H
      by_cases c5 : x6_1 < 24
      · rw [if_pos c5] at H
        have c5b0 : decide (x6_1 < 24) = true := ygy c5
        clear c5
        replace H := ydy.mp H
        obtain ⟨t104, A60, H⟩ := H
        replace H : (if t104 = a1 then (if x5_1.length < 17592186044416 then (spec_l16Perms.l0 k1 a0 a1 (x5_1 ++ [x6_1]) (wrap64 (x6_1 + 1))) else (none)) else (spec_l16Perms.l0 k1 a0 a1 x5_1 (wrap64 (x6_1 + 1)))) = some r := H
        have A6 := Aside0.mk A60
        clear A60
        by_cases c7 : t104 = a1
        · rw [if_pos c7] at H
          have c7b0 : (t104 == a1) = true := beq_iff_eq.mpr c7
          have c7b1 : (t104 != a1) = false := bne_eq_false_iff_eq.mpr c7
          clear c7
          by_cases c8 : x5_1.length < 17592186044416
          · rw [if_pos c8] at H
            have LMc8 := Aside0.mk c8
            clear c8
            obtain ⟨y105, hy105⟩ : ∃ y_ : List Int, y_ = (x5_1 ++ [x6_1]) := ⟨_, rfl⟩
            replace H : (spec_l16Perms.l0 k1 a0 a1 y105 (wrap64 (x6_1 + 1))) = some r := by first | (rw [hy105]; with_reducible exact H) | (have H2_ := (yfy _ _).symm.trans H; rw [hy105]; with_reducible exact H2_) | (have H2_ := (yfy _ _).symm.trans H; with_reducible exact H2_) | with_reducible exact H | (rw [hy105]; exact H) | exact H
            have Ny105 := Aside0.mk hy105
            clear hy105
            have H' := Aside0.mk H
            clear H
            go_wp2_with (first | ((with_reducible refine gate_callee (f := 36) rfl ?_); refine goesL_ (some 14) rfl rfl Try.func36 (by kernel_rfl) rfl #[.int .i64 x6_1, .int .i64 a0] rfl (by (try simp only [yiy, yjy, yky]); first | done | rfl | (simp only [yly, ymy]; rfl)) ?_; (with_reducible refine (spec_l06At.calls k1 x6_1 a0 t104 _ A6.out).mono ?_); rintro e w9 ⟨rfl, hb⟩; refine ⟨_, rfl, ?_⟩; have n0_ := Aside0.mk (Kd.R_below (by (with_reducible repeat (first | apply Kd.R_alloc | apply Kd.R_drewN | apply Kd.R_drew)); exact HO_5.out) hb); have n1_ := Aside0.mk (below_step (by repeat (first | (with_reducible first | exact HB.out | apply below_alloc | apply pw_below_drewN | apply below_drew1) | exact HB.out)) hb); clear HO_5; clear HB; have HO_5 := n0_; have HB := n1_; clear n0_ n1_; (try clear hb); (try clear hb2); (try clear hk); (try clear hi)) | ((with_reducible refine gate_builtin (b := .append) (xs := #[.tmp 17, .tmp 19]) rfl ?_); at_builtin; refine Kd.R_append (Kd.int .i64) (w0 := w) w.heap.size rfl (.tmp 17) (.tmp 19) 44 2 (.int .i64 0) 8 rfl Try.underlying44 info2 rfl (by decide) (by omega) u5 x5_1 x6_1 [.int .i64 x6_1] (fun _ => True) (fun _ => False) rfl rfl ?aP (fun _ hk => hk.elim) ?aF ?aO ?aB ?aS ?aL ?_; (case aP => exact rfl); (case aB => exact (by repeat (first | (with_reducible first | exact HB.out | apply below_alloc | apply pw_below_drewN | apply below_drew1) | exact HB.out))); (case aF => exact (fun _ _ => trivial)); (case aO => exact (by (with_reducible repeat (first | apply Kd.R_alloc | apply Kd.R_drewN | apply Kd.R_drew)); exact HO_5.out)); (case aS => exact (below_size (by repeat (first | (with_reducible first | exact HB.out | apply below_alloc | apply pw_below_drewN | apply below_drew1) | exact HB.out)))); (case aL => have := LMc8.out; omega); intro v106 w10 ho hb hg hat; rw [← Ny105.out] at ho; have n0_ := Aside0.mk (hb); have n1_ := Aside0.mk (ho); clear HB; clear HO_5; have HB := n0_; have HO107 := n1_; clear n0_ n1_; clear ho hb hg hat))
            go_roundg k1
            case measure => have := HK1.out; omega
            case rel => exact ⟨(y105), (wrap64 (x6_1 + 1)), (by first | rfl | (simp; done) | (simp [*]; done)), H', ⟨by have := HK1.out; omega⟩, ⟨by (with_reducible repeat (first | apply Kd.R_alloc | apply Kd.R_drewN | apply Kd.R_drew)); exact HO107.out⟩, ⟨by repeat (first | (with_reducible first | exact HB.out | apply below_alloc | apply pw_below_drewN | apply below_drew1) | exact HB.out)⟩⟩
          · rw [if_neg c8] at H
            exact absurd H (by simp)
        · rw [if_neg c7] at H
          have c7b0 : (t104 == a1) = false := beq_eq_false_iff_ne.mpr c7
          have c7b1 : (t104 != a1) = true := bne_iff_ne.mpr c7
          have H' := Aside0.mk H
          clear H
          go_wp2_with (first | ((with_reducible refine gate_callee (f := 36) rfl ?_); refine goesL_ (some 14) rfl rfl Try.func36 (by kernel_rfl) rfl #[.int .i64 x6_1, .int .i64 a0] rfl (by (try simp only [yiy, yjy, yky]); first | done | rfl | (simp only [yly, ymy]; rfl)) ?_; (with_reducible refine (spec_l06At.calls k1 x6_1 a0 t104 _ A6.out).mono ?_); rintro e w11 ⟨rfl, hb⟩; refine ⟨_, rfl, ?_⟩; have n0_ := Aside0.mk (Kd.R_below (by (with_reducible repeat (first | apply Kd.R_alloc | apply Kd.R_drewN | apply Kd.R_drew)); exact HO_5.out) hb); have n1_ := Aside0.mk (below_step (by repeat (first | (with_reducible first | exact HB.out | apply below_alloc | apply pw_below_drewN | apply below_drew1) | exact HB.out)) hb); clear HO_5; clear HB; have HO_5 := n0_; have HB := n1_; clear n0_ n1_; (try clear hb); (try clear hb2); (try clear hk); (try clear hi)))
          go_roundg k1
          case measure => have := HK1.out; omega
          case rel => exact ⟨(x5_1), (wrap64 (x6_1 + 1)), (by first | rfl | (simp; done) | (simp [*]; done)), H', ⟨by have := HK1.out; omega⟩, ⟨by (with_reducible repeat (first | apply Kd.R_alloc | apply Kd.R_drewN | apply Kd.R_drew)); exact HO_5.out⟩, ⟨by repeat (first | (with_reducible first | exact HB.out | apply below_alloc | apply pw_below_drewN | apply below_drew1) | exact HB.out)⟩⟩
      · rw [if_neg c5] at H
        have c5b0 : decide (x6_1 < 24) = false := yhy c5
        clear c5
        obtain rfl := yey H
        go_wp2
        go_ret
        exact ⟨_, by first | rfl | (simp [errW_none, errW_some] <;> rfl) | (simp [*, errW_none, errW_some] <;> rfl), by (with_reducible repeat (first | apply Kd.R_alloc | apply Kd.R_drewN | apply Kd.R_drew)); exact HO_5.out, by repeat (first | (with_reducible first | exact HB.out | apply below_alloc | apply pw_below_drewN | apply below_drew1) | exact HB.out)⟩
/-! ### spec_GluingNumber: function 9 -/
mutual
def spec_GluingNumber.l0 : Nat → Int → List Int → Int → Int → List (List (SFace)) → Option (Int × Int)
 | 0, _, _, _, _, _ => none
 | k + 1, x4, x5, x6, x7, x102000 => if (x5.length : Int) > 0 then (if 0 < (x5.length : Int) then (if 0 ≤ (wrap64 (Int.tdiv (rd x5 0) 4)) then (if (wrap64 (Int.tdiv (rd x5 0) 4)) < (x102000.length : Int) then (if 0 ≤ (Int.tmod (rd x5 0) 4) then (if (Int.tmod (rd x5 0) 4) < ((rd_LFace x102000 (wrap64 (Int.tdiv (rd x5 0) 4))).length : Int) then ((spec_l06At.f k ((rd_Face (rd_LFace x102000 (wrap64 (Int.tdiv (rd x5 0) 4))) (Int.tmod (rd x5 0) 4)).f1) (Int.tmod (rd x5 0) 4)).bind fun t111 => (spec_GluingNumber.l1 k x4 x5 x6 x7 (rd x5 0) t111 1 x102000 ((rd_Face (rd_LFace x102000 (wrap64 (Int.tdiv (rd x5 0) 4))) (Int.tmod (rd x5 0) 4)).f0) ((rd_Face (rd_LFace x102000 (wrap64 (Int.tdiv (rd x5 0) 4))) (Int.tmod (rd x5 0) 4)).f1))) else (none)) else (none)) else (none)) else (none)) else (none)) else (spec_GluingNumber.l3 k x4 x6 x7 0)
def spec_GluingNumber.l1 : Nat → Int → List Int → Int → Int → Int → Int → Int → List (List (SFace)) → Int → Int → Option (Int × Int)
 | 0, _, _, _, _, _, _, _, _, _, _ => none
 | k + 1, x4, x5, x6, x7, x8, x10, x11, x102000, x111000, x111001 => if 0 ≤ x11 then (if x11 < (x5.length : Int) then (if (rd x5 x11) = (wrap64 ((wrap64 (4 * x111000)) + x10)) then ((spec_l16Matchings.f k (wrap64 ((x5.length : Int) - 2))).bind fun t113 => ((some (([] : List Int) : List Int)).bind fun y114 => (if 1 ≤ x11 then (if x11 ≤ (x5.length : Int) then ((some ((x5.take (x11 : Int).toNat).drop 1 : List Int)).bind fun y117 => (if y114.length + y117.length < 17592186044416 then ((some (y114 ++ y117 : List Int)).bind fun y121 => (if 0 ≤ (wrap64 (x11 + 1)) then (if (wrap64 (x11 + 1)) ≤ (x5.length : Int) then ((some (x5.drop ((wrap64 (x11 + 1)) : Int).toNat : List Int)).bind fun y124 => (if y121.length + y124.length < 17592186044416 then ((spec_l16Perms.f k (Int.tmod x8 4) x10).bind fun t131 => (spec_GluingNumber.l2 k x4 (y121 ++ y124) (wrap64 (x6 + (wrap64 ((wrap64 (x11 - 1)) * t113)))) x7 t131 0 x102000 x111000 x111001)) else (none))) else (none)) else (none))) else (none))) else (none)) else (none)))) else (spec_GluingNumber.l1 k x4 x5 x6 x7 x8 x10 (wrap64 (x11 + 1)) x102000 x111000 x111001)) else (none)) else (none)
def spec_GluingNumber.l2 : Nat → Int → List Int → Int → Int → List Int → Int → List (List (SFace)) → Int → Int → Option (Int × Int)
 | 0, _, _, _, _, _, _, _, _, _ => none
 | k + 1, x4, x5, x6, x7, x12, x13, x102000, x111000, x111001 => if 0 ≤ x13 then (if x13 < (x12.length : Int) then (if (rd x12 x13) = x111001 then (spec_GluingNumber.l0 k x4 x5 x6 (wrap64 ((wrap64 (6 * x7)) + x13)) x102000) else (spec_GluingNumber.l2 k x4 x5 x6 x7 x12 (wrap64 (x13 + 1)) x102000 x111000 x111001)) else (none)) else (none)
def spec_GluingNumber.l3 : Nat → Int → Int → Int → Int → Option (Int × Int)
 | 0, _, _, _, _ => none
 | k + 1, x4, x6, x7, x14 => if x14 < (wrap64 (2 * x4)) then (spec_GluingNumber.l3 k x4 (wrap64 (x6 * 6)) x7 (wrap64 (x14 + 1))) else (some (wrap64 (x6 + x7), 0))
end
def spec_GluingNumber.f (k : Nat) (l0_0 : List (List (SFace))) : Option (Int × Int) := (spec_IsClosed.f k l0_0).bind fun t102 => (if t102 = true then ((spec_l07Tets.f l0_0).bind fun t103 => (if t103 > 4 then (some (0, 2)) else ((spec_l08Fresh.f k (wrap64 (4 * t103))).bind fun t104 => (spec_GluingNumber.l0 k t103 t104 0 0 l0_0)))) else (some (0, 1)))
def spec_GluingNumber.T14 : Bool × List (List Nat × List Nat) := (true, [([], []), ([], []), ([0, 1], [0, 1]), ([2], [2]), ([], []), ([4], [4]), ([5], [5]), ([], []), ([6, 7], [6, 7]), ([3, 8], [3, 8])])
def spec_GluingNumber.B14 : List Nat := [0, 0, 3, 7, 0, 16, 48, 0, 240, 511]
theorem spec_GluingNumber.tab14 : rtab .any (opsOf Try.f9 14) = spec_GluingNumber.T14 := by kernel_rfl
theorem spec_GluingNumber.bits14 : waitsOk spec_GluingNumber.T14.2 spec_GluingNumber.B14 = true := by kernel_rfl
def spec_GluingNumber.T17 : Bool × List (List Nat × List Nat) := (true, [([], []), ([], []), ([], []), ([1, 2], [1, 2]), ([0, 3], [0, 3]), ([], []), ([], []), ([6], [6]), ([5, 7], [5, 7]), ([4, 8, 4], [4, 8]), ([9, 9, 0, 1, 2, 3, 4, 5, 6, 7, 8, 9], [1, 5, 9])])
def spec_GluingNumber.B17 : List Nat := [0, 0, 0, 6, 15, 0, 0, 64, 224, 511, 1023]
theorem spec_GluingNumber.tab17 : rtab .any (opsOf Try.f9 17) = spec_GluingNumber.T17 := by kernel_rfl
theorem spec_GluingNumber.bits17 : waitsOk spec_GluingNumber.T17.2 spec_GluingNumber.B17 = true := by kernel_rfl
set_option maxHeartbeats 8000000 in
set_option maxRecDepth 100000 in
theorem spec_GluingNumber.calls (k : Nat) (A0_0 : Option Addr) (c0_0 : Nat) (l0_0 : List (List (SFace))) (r1 : Int) (r2 : Int) (w : World) (hr0_0 : Kd.C (Kd.slice 59 kFace) w A0_0 l0_0.length l0_0) (hc0_0 : l0_0.length ≤ c0_0) (h : spec_GluingNumber.f k l0_0 = some (r1, r2)) :
 Calls Try.prog 9 #[.agg #[.slice A0_0 l0_0.length c0_0]] w fun e w' => e = .returned (.tuple #[.int .i64 r1, .int .i64 r2]) ∧ Below w.heap.size w w' := by
 have hu30 := Try.underlying30
 have hu59 := Try.underlying59
 have HR0_0 := Aside0.mk hr0_0
 have HC0_0 := Aside0.mk hc0_0
 clear hr0_0 hc0_0
 have HB := Aside0.mk (Below.refl w.heap.size w)
 have H : ((spec_IsClosed.f k l0_0).bind fun t102 => (if t102 = true then ((spec_l07Tets.f l0_0).bind fun t103 => (if t103 > 4 then (some (0, 2)) else ((spec_l08Fresh.f k (wrap64 (4 * t103))).bind fun t104 => (spec_GluingNumber.l0 k t103 t104 0 0 l0_0)))) else (some (0, 1)))) = some (r1, r2) := h
 clear h
 replace H := ydy.mp H
 obtain ⟨t102, A20, H⟩ := H
 replace H : (if t102 = true then ((spec_l07Tets.f l0_0).bind fun t103 => (if t103 > 4 then (some (0, 2)) else ((spec_l08Fresh.f k (wrap64 (4 * t103))).bind fun t104 => (spec_GluingNumber.l0 k t103 t104 0 0 l0_0)))) else (some (0, 1))) = some (r1, r2) := H
 have A2 := Aside0.mk A20
 clear A20
 by_cases c3 : t102 = true
 rotate_left
 next =>
  replace c3 := Bool.eq_false_iff.mpr c3
  subst c3
  have H1 : (some (0, 1)) = some (r1, r2) := by rw [if_neg (show ¬ (false = true) by decide)] at H; exact H
  clear H
  have H := H1
  clear H1
  simp only [Option.some.injEq, Prod.mk.injEq] at H
  obtain ⟨rfl, rfl⟩ := H
  go_enter Try.func9, Try.ntmps9
  go_wp2_with (first | ((with_reducible refine gate_dst (N := 1) rfl ?_); refine box_event ?hg (N := 1) ?hd (cs := #[.slice A0_0 l0_0.length c0_0]) (t := 30) ?hr ?_; (case hd => rfl); (case hg => rfl); (case hr => first | (go_simp; done) | (go_simp; rfl)); intro gb101 hg w64 hbox hb; have n0_ := Aside0.mk (below_step (by repeat (first | (with_reducible first | exact HB.out | apply below_alloc | apply pw_below_drewN | apply below_drew1) | exact HB.out)) hb); have n1_ := Aside0.mk (hbox); have n2_ := Aside0.mk ((by rw [hg]; exact (below_size (by repeat (first | (with_reducible first | exact HB.out | apply below_alloc | apply pw_below_drewN | apply below_drew1) | exact HB.out))) : w.heap.size ≤ gb101)); have n3_ := Aside0.mk ((by rw [hg]; exact (below_size (by repeat (first | (with_reducible first | exact HB.out | apply below_alloc | apply pw_below_drewN | apply below_drew1) | exact HB.out))) : w.heap.size ≤ gb101)); clear HB; have HB := n0_; have BK101 := n1_; have GW101 := n2_; have GE101 := n3_; clear n0_ n1_ n2_ n3_; clear hb hbox hg; have hcz65_0 : w64.cell? ⟨gb101, 0, none⟩ = some (.slice A0_0 l0_0.length c0_0) := (blk_cell BK101.out 0).trans rfl; have hfz65_0 := blk_frozen BK101.out 0) | ((with_reducible refine gate_callee (f := 33) rfl ?_); refine goesL_ (some 16) rfl rfl Try.func33 (by kernel_rfl) rfl #[.agg #[.slice A0_0 l0_0.length c0_0]] rfl (by (try simp only [yiy, yjy, yky]); first | done | rfl | (simp only [yly, ymy]; rfl)) ?_; (with_reducible refine (spec_IsClosed.calls k _ _ l0_0 false _ ?side1 ?side2 A2.out).mono ?_); (case side1 => repeat (first | exact (Kd.C_below HR0_0.out HB.out) | (with_reducible refine Kd.C_alloc ?_ _) | (with_reducible refine Kd.C_drewN ?_ _) | (with_reducible refine Kd.C_drew ?_))); (case side2 => exact HC0_0.out); rintro e w66 ⟨rfl, hb⟩; refine ⟨_, rfl, ?_⟩; have n0_ := Aside0.mk (blk_below (g := gb101) (o := .cells #[.slice A0_0 l0_0.length c0_0] 30 (0, 0)) (by (with_reducible repeat (first | refine blk_drewN ?_ _ | refine blk_drew ?_ | refine blk_alloc ?_ _)); exact BK101.out) hb); have n1_ := Aside0.mk (below_step (by repeat (first | (with_reducible first | exact HB.out | apply below_alloc | apply pw_below_drewN | apply below_drew1 | refine below_set ?_ GE101.out) | exact HB.out)) hb); clear BK101; clear HB; have BK101 := n0_; have HB := n1_; clear n0_ n1_; (try clear hb); (try clear hb2); (try clear hk); (try clear hi)))
  go_ret2
  exact ⟨by first | rfl | (simp [errW_none, errW_some] <;> rfl) | (simp [*, errW_none, errW_some] <;> rfl), by repeat (first | (with_reducible first | exact HB.out | apply below_alloc | apply pw_below_drewN | apply below_drew1 | refine below_set ?_ GE101.out) | exact HB.out)⟩
 subst c3
 have H1 : ((spec_l07Tets.f l0_0).bind fun t103 => (if t103 > 4 then (some (0, 2)) else ((spec_l08Fresh.f k (wrap64 (4 * t103))).bind fun t104 => (spec_GluingNumber.l0 k t103 t104 0 0 l0_0)))) = some (r1, r2) := by rw [if_pos rfl] at H; exact H
 clear H
 have H := H1
 clear H1
 replace H := ydy.mp H
 obtain ⟨t103, A40, H⟩ := H
 replace H : (if t103 > 4 then (some (0, 2)) else ((spec_l08Fresh.f k (wrap64 (4 * t103))).bind fun t104 => (spec_GluingNumber.l0 k t103 t104 0 0 l0_0))) = some (r1, r2) := H
 have A4 := Aside0.mk A40
 clear A40
 by_cases c5 : t103 > 4
 next =>
  rw [if_pos c5] at H
  have c5b0 : decide (4 < t103) = true := ygy c5
  clear c5
  simp only [Option.some.injEq, Prod.mk.injEq] at H
  obtain ⟨rfl, rfl⟩ := H
  go_enter Try.func9, Try.ntmps9
  go_wp2_with (first | ((with_reducible refine gate_dst (N := 1) rfl ?_); refine box_event ?hg (N := 1) ?hd (cs := #[.slice A0_0 l0_0.length c0_0]) (t := 30) ?hr ?_; (case hd => rfl); (case hg => rfl); (case hr => first | (go_simp; done) | (go_simp; rfl)); intro gb101 hg w6 hbox hb; have n0_ := Aside0.mk (below_step (by repeat (first | (with_reducible first | exact HB.out | apply below_alloc | apply pw_below_drewN | apply below_drew1) | exact HB.out)) hb); have n1_ := Aside0.mk (hbox); have n2_ := Aside0.mk ((by rw [hg]; exact (below_size (by repeat (first | (with_reducible first | exact HB.out | apply below_alloc | apply pw_below_drewN | apply below_drew1) | exact HB.out))) : w.heap.size ≤ gb101)); have n3_ := Aside0.mk ((by rw [hg]; exact (below_size (by repeat (first | (with_reducible first | exact HB.out | apply below_alloc | apply pw_below_drewN | apply below_drew1) | exact HB.out))) : w.heap.size ≤ gb101)); clear HB; have HB := n0_; have BK101 := n1_; have GW101 := n2_; have GE101 := n3_; clear n0_ n1_ n2_ n3_; clear hb hbox hg; have hcz7_0 : w6.cell? ⟨gb101, 0, none⟩ = some (.slice A0_0 l0_0.length c0_0) := (blk_cell BK101.out 0).trans rfl; have hfz7_0 := blk_frozen BK101.out 0) | ((with_reducible refine gate_callee (f := 33) rfl ?_); refine goesL_ (some 16) rfl rfl Try.func33 (by kernel_rfl) rfl #[.agg #[.slice A0_0 l0_0.length c0_0]] rfl (by (try simp only [yiy, yjy, yky]); first | done | rfl | (simp only [yly, ymy]; rfl)) ?_; (with_reducible refine (spec_IsClosed.calls k _ _ l0_0 true _ ?side1 ?side2 A2.out).mono ?_); (case side1 => repeat (first | exact (Kd.C_below HR0_0.out HB.out) | (with_reducible refine Kd.C_alloc ?_ _) | (with_reducible refine Kd.C_drewN ?_ _) | (with_reducible refine Kd.C_drew ?_))); (case side2 => exact HC0_0.out); rintro e w8 ⟨rfl, hb⟩; refine ⟨_, rfl, ?_⟩; have n0_ := Aside0.mk (blk_below (g := gb101) (o := .cells #[.slice A0_0 l0_0.length c0_0] 30 (0, 0)) (by (with_reducible repeat (first | refine blk_drewN ?_ _ | refine blk_drew ?_ | refine blk_alloc ?_ _)); exact BK101.out) hb); have n1_ := Aside0.mk (below_step (by repeat (first | (with_reducible first | exact HB.out | apply below_alloc | apply pw_below_drewN | apply below_drew1 | refine below_set ?_ GE101.out) | exact HB.out)) hb); clear BK101; clear HB; have BK101 := n0_; have HB := n1_; clear n0_ n1_; (try clear hb); (try clear hb2); (try clear hk); (try clear hi); have hcz9_0 : w8.cell? ⟨gb101, 0, none⟩ = some (.slice A0_0 l0_0.length c0_0) := (blk_cell BK101.out 0).trans rfl; have hfz9_0 := blk_frozen BK101.out 0) | ((with_reducible refine gate_callee (f := 34) rfl ?_); refine goesL_ (some 19) rfl rfl Try.func34 (by kernel_rfl) rfl #[.agg #[.slice A0_0 l0_0.length c0_0]] rfl (by (try simp only [yiy, yjy, yky]); first | done | rfl | (simp only [yly, ymy]; rfl)) ?_; (with_reducible refine (spec_l07Tets.calls _ _ l0_0 t103 _ ?side1 ?side2 A4.out).mono ?_); (case side1 => repeat (first | exact (Kd.C_below HR0_0.out HB.out) | (with_reducible refine Kd.C_alloc ?_ _) | (with_reducible refine Kd.C_drewN ?_ _) | (with_reducible refine Kd.C_drew ?_))); (case side2 => exact HC0_0.out); rintro e w10 ⟨rfl, hb⟩; refine ⟨_, rfl, ?_⟩; have n0_ := Aside0.mk (blk_below (g := gb101) (o := .cells #[.slice A0_0 l0_0.length c0_0] 30 (0, 0)) (by (with_reducible repeat (first | refine blk_drewN ?_ _ | refine blk_drew ?_ | refine blk_alloc ?_ _)); exact BK101.out) hb); have n1_ := Aside0.mk (below_step (by repeat (first | (with_reducible first | exact HB.out | apply below_alloc | apply pw_below_drewN | apply below_drew1 | refine below_set ?_ GE101.out) | exact HB.out)) hb); clear BK101; clear HB; have BK101 := n0_; have HB := n1_; clear n0_ n1_; (try clear hb); (try clear hb2); (try clear hk); (try clear hi)))
  go_ret2
  exact ⟨by first | rfl | (simp [errW_none, errW_some] <;> rfl) | (simp [*, errW_none, errW_some] <;> rfl), by repeat (first | (with_reducible first | exact HB.out | apply below_alloc | apply pw_below_drewN | apply below_drew1 | refine below_set ?_ GE101.out) | exact HB.out)⟩
 next =>
  rw [if_neg c5] at H
  have c5b0 : decide (4 < t103) = false := yhy c5
  clear c5
  replace H := ydy.mp H
  obtain ⟨t104, A110, H⟩ := H
  replace H : (spec_GluingNumber.l0 k t103 t104 0 0 l0_0) = some (r1, r2) := H
  have A11 := Aside0.mk A110
  clear A110
  have H' := Aside0.mk H
  clear H
  go_enter Try.func9, Try.ntmps9
  go_wp2_with (first | ((with_reducible refine gate_dst (N := 1) rfl ?_); refine box_event ?hg (N := 1) ?hd (cs := #[.slice A0_0 l0_0.length c0_0]) (t := 30) ?hr ?_; (case hd => rfl); (case hg => rfl); (case hr => first | (go_simp; done) | (go_simp; rfl)); intro gb101 hg w12 hbox hb; have n0_ := Aside0.mk (below_step (by repeat (first | (with_reducible first | exact HB.out | apply below_alloc | apply pw_below_drewN | apply below_drew1) | exact HB.out)) hb); have n1_ := Aside0.mk (hbox); have n2_ := Aside0.mk ((by rw [hg]; exact (below_size (by repeat (first | (with_reducible first | exact HB.out | apply below_alloc | apply pw_below_drewN | apply below_drew1) | exact HB.out))) : w.heap.size ≤ gb101)); have n3_ := Aside0.mk ((by rw [hg]; exact (below_size (by repeat (first | (with_reducible first | exact HB.out | apply below_alloc | apply pw_below_drewN | apply below_drew1) | exact HB.out))) : w.heap.size ≤ gb101)); clear HB; have HB := n0_; have BK101 := n1_; have GW101 := n2_; have GE101 := n3_; clear n0_ n1_ n2_ n3_; clear hb hbox hg; have hcz13_0 : w12.cell? ⟨gb101, 0, none⟩ = some (.slice A0_0 l0_0.length c0_0) := (blk_cell BK101.out 0).trans rfl; have hfz13_0 := blk_frozen BK101.out 0) | ((with_reducible refine gate_callee (f := 33) rfl ?_); refine goesL_ (some 16) rfl rfl Try.func33 (by kernel_rfl) rfl #[.agg #[.slice A0_0 l0_0.length c0_0]] rfl (by (try simp only [yiy, yjy, yky]); first | done | rfl | (simp only [yly, ymy]; rfl)) ?_; (with_reducible refine (spec_IsClosed.calls k _ _ l0_0 true _ ?side1 ?side2 A2.out).mono ?_); (case side1 => repeat (first | exact (Kd.C_below HR0_0.out HB.out) | (with_reducible refine Kd.C_alloc ?_ _) | (with_reducible refine Kd.C_drewN ?_ _) | (with_reducible refine Kd.C_drew ?_))); (case side2 => exact HC0_0.out); rintro e w14 ⟨rfl, hb⟩; refine ⟨_, rfl, ?_⟩; have n0_ := Aside0.mk (blk_below (g := gb101) (o := .cells #[.slice A0_0 l0_0.length c0_0] 30 (0, 0)) (by (with_reducible repeat (first | refine blk_drewN ?_ _ | refine blk_drew ?_ | refine blk_alloc ?_ _)); exact BK101.out) hb); have n1_ := Aside0.mk (below_step (by repeat (first | (with_reducible first | exact HB.out | apply below_alloc | apply pw_below_drewN | apply below_drew1 | refine below_set ?_ GE101.out) | exact HB.out)) hb); clear BK101; clear HB; have BK101 := n0_; have HB := n1_; clear n0_ n1_; (try clear hb); (try clear hb2); (try clear hk); (try clear hi); have hcz15_0 : w14.cell? ⟨gb101, 0, none⟩ = some (.slice A0_0 l0_0.length c0_0) := (blk_cell BK101.out 0).trans rfl; have hfz15_0 := blk_frozen BK101.out 0) | ((with_reducible refine gate_callee (f := 34) rfl ?_); refine goesL_ (some 19) rfl rfl Try.func34 (by kernel_rfl) rfl #[.agg #[.slice A0_0 l0_0.length c0_0]] rfl (by (try simp only [yiy, yjy, yky]); first | done | rfl | (simp only [yly, ymy]; rfl)) ?_; (with_reducible refine (spec_l07Tets.calls _ _ l0_0 t103 _ ?side1 ?side2 A4.out).mono ?_); (case side1 => repeat (first | exact (Kd.C_below HR0_0.out HB.out) | (with_reducible refine Kd.C_alloc ?_ _) | (with_reducible refine Kd.C_drewN ?_ _) | (with_reducible refine Kd.C_drew ?_))); (case side2 => exact HC0_0.out); rintro e w16 ⟨rfl, hb⟩; refine ⟨_, rfl, ?_⟩; have n0_ := Aside0.mk (blk_below (g := gb101) (o := .cells #[.slice A0_0 l0_0.length c0_0] 30 (0, 0)) (by (with_reducible repeat (first | refine blk_drewN ?_ _ | refine blk_drew ?_ | refine blk_alloc ?_ _)); exact BK101.out) hb); have n1_ := Aside0.mk (below_step (by repeat (first | (with_reducible first | exact HB.out | apply below_alloc | apply pw_below_drewN | apply below_drew1 | refine below_set ?_ GE101.out) | exact HB.out)) hb); clear BK101; clear HB; have BK101 := n0_; have HB := n1_; clear n0_ n1_; (try clear hb); (try clear hb2); (try clear hk); (try clear hi)) | ((with_reducible refine gate_callee (f := 35) rfl ?_); refine goesL_ (some 24) rfl rfl Try.func35 (by kernel_rfl) rfl #[.int .i64 (wrap64 (4 * t103))] rfl (by (try simp only [yiy, yjy, yky]); first | done | rfl | (simp only [yly, ymy]; rfl)) ?_; (with_reducible refine (spec_l08Fresh.calls k (wrap64 (4 * t103)) t104 _ A11.out).mono ?_); rintro e w17 ⟨v105, rfl, ho0, hb⟩; refine ⟨_, rfl, ?_⟩; have n0_ := Aside0.mk (Kd.R_lower ho0 (below_size (by repeat (first | (with_reducible first | exact HB.out | apply below_alloc | apply pw_below_drewN | apply below_drew1 | refine below_set ?_ GE101.out) | exact HB.out)))); have n1_ := Aside0.mk (blk_below (g := gb101) (o := .cells #[.slice A0_0 l0_0.length c0_0] 30 (0, 0)) (by (with_reducible repeat (first | refine blk_drewN ?_ _ | refine blk_drew ?_ | refine blk_alloc ?_ _)); exact BK101.out) hb); have n2_ := Aside0.mk (below_step (by repeat (first | (with_reducible first | exact HB.out | apply below_alloc | apply pw_below_drewN | apply below_drew1 | refine below_set ?_ GE101.out) | exact HB.out)) hb); clear BK101; clear HB; have HO106 := n0_; have BK101 := n1_; have HB := n2_; clear n0_ n1_ n2_; (try clear hb); (try clear hb2); (try clear hk); (try clear hi); (try clear ho0)))
  go_loopg [5, 6, 7] k (fun kq v5 v6 v7 w' => ∃ (x5_1 : List Int) (x6_1 : Int) (x7_1 : Int), v6 = .int .i64 x6_1 ∧ v7 = .int .i64 x7_1 ∧ Aside0 (spec_GluingNumber.l0 kq t103 x5_1 x6_1 x7_1 l0_0 = some (r1, r2)) ∧ Aside0 (kq ≤ k) ∧ Aside0 (Kd.R (Kd.int .i64) 2 w' w.heap.size (fun _ => True) v5 x5_1) ∧ Aside0 (w'.heap[gb101]? = some (.cells #[(.slice A0_0 l0_0.length c0_0)] 30 (0, 0))) ∧ Aside0 (Below w.heap.size w w'))
  case atStart => exact ⟨(t104), (0), (0), (by first | rfl | (simp; done) | (simp [*]; done)), (by first | rfl | (simp; done) | (simp [*]; done)), H', ⟨yoy _⟩, ⟨by (with_reducible repeat (first | apply Kd.R_alloc | apply Kd.R_drewN | apply Kd.R_drew)); exact HO106.out⟩, ⟨by (with_reducible repeat (first | refine blk_drewN ?_ _ | refine blk_drew ?_ | refine blk_alloc ?_ _)); exact BK101.out⟩, ⟨by repeat (first | (with_reducible first | exact HB.out | apply below_alloc | apply pw_below_drewN | apply below_drew1 | refine below_set ?_ GE101.out) | exact HB.out)⟩⟩
  case round =>
   clear H'
   try clear p2
   try clear c3
   try clear c5
   try clear c5b0
   try clear p6
   try clear c9
   try clear hcz13_0
   try clear hcz15_0
   try clear hcz7_0
   try clear hcz9_0
   try clear hfz13_0
   try clear hfz15_0
   try clear hfz7_0
   try clear hfz9_0
   obtain ⟨x5_1, x6_1, x7_1, rfl, rfl, HA, HK1, HO_5, BK101, HB⟩ := hrel
   cases gk with
   | zero => exact absurd HA.out (by simp [spec_GluingNumber.l0])
   | succ k1 =>
    have H := HA.out
    clear HA
    simp only [spec_GluingNumber.l0] at H
    by_cases c18 : (x5_1.length : Int) > 0
    rotate_left
    next =>
     rw [if_neg c18] at H
     have c18b0 : decide (0 < (x5_1.length : Int)) = false := yhy c18
     have c18b1 : decide (0 < x5_1.length) = false := yhy (by omega)
     clear c18
     have H' := Aside0.mk H
     clear H
     obtain ⟨Ao62, co62, eo62⟩ := Kd.R_slice HO_5.out
     subst eo62
     go_wp2
     go_loopg [6, 14] k1 (fun kq v6 v14 w' => ∃ (x6_2 : Int) (x14_2 : Int), v6 = .int .i64 x6_2 ∧ v14 = .int .i64 x14_2 ∧ Aside0 (spec_GluingNumber.l3 kq t103 x6_2 x7_1 x14_2 = some (r1, r2)) ∧ Aside0 (kq ≤ k1) ∧ Aside0 (w'.heap[gb101]? = some (.cells #[(.slice A0_0 l0_0.length c0_0)] 30 (0, 0))) ∧ Aside0 (Below w.heap.size w w'))
     case atStart => exact ⟨(x6_1), (0), (by first | rfl | (simp; done) | (simp [*]; done)), (by first | rfl | (simp; done) | (simp [*]; done)), H', ⟨yoy _⟩, ⟨by (with_reducible repeat (first | refine blk_drewN ?_ _ | refine blk_drew ?_ | refine blk_alloc ?_ _)); exact BK101.out⟩, ⟨by repeat (first | (with_reducible first | exact HB.out | apply below_alloc | apply pw_below_drewN | apply below_drew1 | refine below_set ?_ GE101.out) | exact HB.out)⟩⟩
     case round =>
      clear H'
      try clear c1
      try clear p1
      try clear q1
      try clear hx1
      try clear qi1
      try clear c2
      try clear p2
      try clear c3
      try clear c4
      try clear q4
      try clear c5
      try clear c5b0
      try clear p6
      try clear c9
      try clear c10
      try clear p10
      try clear q10
      try clear hx10
      try clear qi10
      try clear p11
      try clear q11
      try clear hx11
      try clear p13
      try clear q13
      try clear hx13
      try clear c18
      try clear c18b0
      try clear c18b1
      try clear c19
      try clear c19b0
      try clear c19b1
      try clear c21
      try clear c21b0
      try clear c22
      try clear c22b0
      try clear c24
      try clear c24b0
      try clear c25
      try clear c25b0
      try clear c30
      try clear c33
      try clear c33b0
      try clear c34
      try clear c34b0
      try clear c35
      try clear c35b0
      try clear c35b1
      try clear c36
      try clear c37
      try clear c37b0
      try clear c37b1
      try clear c38
      try clear c38b0
      try clear c38b1
      try clear c39
      try clear c41
      try clear c41b0
      try clear c41b1
      try clear c42
      try clear c42b0
      try clear c42b1
      try clear c43
      try clear c47
      try clear q47
      try clear c48
      try clear q48
      try clear c54
      try clear c54b0
      try clear c55
      try clear c55b0
      try clear c56
      try clear c56b0
      try clear c56b1
      try clear hcz13_0
      try clear hcz15_0
      try clear hcz28_0
      try clear hcz31_0
      try clear hcz31_1
      try clear hcz7_0
      try clear hcz9_0
      try clear hfz13_0
      try clear hfz15_0
      try clear hfz28_0
      try clear hfz31_0
      try clear hfz31_1
      try clear hfz7_0
      try clear hfz9_0
      try clear hx107_0
      try clear hx108_0
      try clear hx109_0
      try clear hx109_1
      try clear hx112_0
      try clear hx134_0
      try clear p1
      try clear p10
      try clear p107
      try clear p108
      try clear p109
      try clear p11
      try clear p112
      try clear p134
      try clear p2
      try clear p6
      try clear q048
      try clear q1
      try clear q10
      try clear q107
      try clear q108
      try clear q109
      try clear q11
      try clear q112
      try clear q134
      try clear q4
      try clear q47
      try clear q48
      obtain ⟨x6_2, x14_2, rfl, rfl, HA, HK2, BK101, HB⟩ := hrel
      cases gk with
      | zero => exact absurd HA.out (by simp [spec_GluingNumber.l3])
      | succ k2 =>
       have H := HA.out
       clear HA
       simp only [spec_GluingNumber.l3] at H
       by_cases c63 : x14_2 < (wrap64 (2 * t103))
       rotate_left
       next =>
        rw [if_neg c63] at H
        have c63b0 : decide (x14_2 < (wrap64 (2 * t103))) = false := yhy c63
        clear c63
        simp only [Option.some.injEq, Prod.mk.injEq] at H
        obtain ⟨rfl, rfl⟩ := H
        go_wp2
        go_ret2
        exact ⟨by first | rfl | (simp [errW_none, errW_some] <;> rfl) | (simp [*, errW_none, errW_some] <;> rfl), by repeat (first | (with_reducible first | exact HB.out | apply below_alloc | apply pw_below_drewN | apply below_drew1 | refine below_set ?_ GE101.out) | exact HB.out)⟩
       rw [if_pos c63] at H
       have c63b0 : decide (x14_2 < (wrap64 (2 * t103))) = true := ygy c63
       clear c63
       have H' := Aside0.mk H
       clear H
       go_wp2
       go_roundg k2
       case measure => have := HK1.out; have := HK2.out; omega
       case rel => exact ⟨(wrap64 (x6_2 * 6)), (wrap64 (x14_2 + 1)), (by first | rfl | (simp; done) | (simp [*]; done)), (by first | rfl | (simp; done) | (simp [*]; done)), H', ⟨by have := HK1.out; have := HK2.out; omega⟩, ⟨by (with_reducible repeat (first | refine blk_drewN ?_ _ | refine blk_drew ?_ | refine blk_alloc ?_ _)); exact BK101.out⟩, ⟨by repeat (first | (with_reducible first | exact HB.out | apply below_alloc | apply pw_below_drewN | apply below_drew1 | refine below_set ?_ GE101.out) | exact HB.out)⟩⟩
    rw [if_pos c18] at H
    have c18b0 : decide (0 < (x5_1.length : Int)) = true := ygy c18
    have c18b1 : decide (0 < x5_1.length) = true := ygy (by omega)
    clear c18
    by_cases c19 : 0 < (x5_1.length : Int)
    rotate_left
    next =>
     rw [if_neg c19] at H
     exact absurd H (by simp)
    rw [if_pos c19] at H
    have c19b0 : decide (0 < (x5_1.length : Int)) = true := ygy c19
    have c19b1 : decide (0 < x5_1.length) = true := ygy (by omega)
    clear c19
    obtain ⟨ji20, hji20⟩ : ∃ j_ : Int, (wrap64 (Int.tdiv (rd x5_1 0) 4)) = j_ := ⟨_, rfl⟩
    replace H : (if 0 ≤ (ji20) then (if (ji20) < (l0_0.length : Int) then (if 0 ≤ (Int.tmod (rd x5_1 0) 4) then (if (Int.tmod (rd x5_1 0) 4) < ((rd_LFace l0_0 (ji20)).length : Int) then ((spec_l06At.f k1 ((rd_Face (rd_LFace l0_0 (ji20)) (Int.tmod (rd x5_1 0) 4)).f1) (Int.tmod (rd x5_1 0) 4)).bind fun t111 => (spec_GluingNumber.l1 k1 t103 x5_1 x6_1 x7_1 (rd x5_1 0) t111 1 l0_0 ((rd_Face (rd_LFace l0_0 (ji20)) (Int.tmod (rd x5_1 0) 4)).f0) ((rd_Face (rd_LFace l0_0 (ji20)) (Int.tmod (rd x5_1 0) 4)).f1))) else (none)) else (none)) else (none)) else (none)) = some (r1, r2) := by first | (rw [hji20] at H; exact H) | (simp only [hji20] at H ⊢; exact H)
    have hji20w : (IntKind.i64.wrap (Int.tdiv (rd x5_1 0) 4)) = ji20 := (i64_w _).trans hji20
    by_cases c21 : 0 ≤ (ji20)
    rotate_left
    next =>
     rw [if_neg c21] at H
     exact absurd H (by simp)
    rw [if_pos c21] at H
    have c21b0 : decide (0 ≤ (ji20)) = true := ygy c21
    clear c21
    by_cases c22 : (ji20) < (l0_0.length : Int)
    rotate_left
    next =>
     rw [if_neg c22] at H
     exact absurd H (by simp)
    rw [if_pos c22] at H
    have c22b0 : decide ((ji20) < (l0_0.length : Int)) = true := ygy c22
    clear c22
    obtain ⟨ji23, hji23⟩ : ∃ j_ : Int, (Int.tmod (rd x5_1 0) 4) = j_ := ⟨_, rfl⟩
    replace H : (if 0 ≤ (ji23) then (if (ji23) < ((rd_LFace l0_0 (ji20)).length : Int) then ((spec_l06At.f k1 ((rd_Face (rd_LFace l0_0 (ji20)) (ji23)).f1) (ji23)).bind fun t111 => (spec_GluingNumber.l1 k1 t103 x5_1 x6_1 x7_1 (rd x5_1 0) t111 1 l0_0 ((rd_Face (rd_LFace l0_0 (ji20)) (ji23)).f0) ((rd_Face (rd_LFace l0_0 (ji20)) (ji23)).f1))) else (none)) else (none)) = some (r1, r2) := by first | (rw [hji23] at H; exact H) | (simp only [hji23] at H ⊢; exact H)
    by_cases c24 : 0 ≤ (ji23)
    rotate_left
    next =>
     rw [if_neg c24] at H
     exact absurd H (by simp)
    rw [if_pos c24] at H
    have c24b0 : decide (0 ≤ (ji23)) = true := ygy c24
    clear c24
    by_cases c25 : (ji23) < ((rd_LFace l0_0 (ji20)).length : Int)
    rotate_left
    next =>
     rw [if_neg c25] at H
     exact absurd H (by simp)
    rw [if_pos c25] at H
    have c25b0 : decide ((ji23) < ((rd_LFace l0_0 (ji20)).length : Int)) = true := ygy c25
    clear c25
    replace H := ydy.mp H
    obtain ⟨t111, A260, H⟩ := H
    replace H : (spec_GluingNumber.l1 k1 t103 x5_1 x6_1 x7_1 (rd x5_1 0) t111 1 l0_0 ((rd_Face (rd_LFace l0_0 (ji20)) (ji23)).f0) ((rd_Face (rd_LFace l0_0 (ji20)) (ji23)).f1)) = some (r1, r2) := H
    have A26 := Aside0.mk A260
    clear A260
    have H' := Aside0.mk H
    clear H
    obtain ⟨Ao27, co27, eo27⟩ := Kd.R_slice HO_5.out
    subst eo27
    have p107 : 0 ≤ (0 : Int) := (by omega)
    have q107 : 0 < (x5_1.length : Int) := of_decide_eq_true (by first | (with_reducible assumption) | assumption)
    obtain ⟨ad107, e107, hx107_0⟩ := Kd.at_int (Kd.R_reads' HO_5.out).2.2 0 p107 q107
    cases e107
    have qi107 : (0 < x5_1.length) = True := eq_true (by omega)
    (try rw [show ((0 : Int)).toNat = 0 from rfl] at hx107_0)
    (try rw [Addr.add_zero'] at hx107_0)
    replace p107 := eq_true p107
    replace q107 := eq_true q107
    have hcz28_0 : wr.cell? ⟨gb101, 0, none⟩ = some (.slice A0_0 l0_0.length c0_0) := (blk_cell BK101.out 0).trans rfl
    have hfz28_0 := blk_frozen BK101.out 0
    have p108 : 0 ≤ ((ji20) : Int) := of_decide_eq_true (by first | (with_reducible assumption) | assumption)
    have q108 : (ji20) < (l0_0.length : Int) := of_decide_eq_true (by first | (with_reducible assumption) | assumption)
    obtain ⟨ad108, A108_0, c108_0, e108, hx108_0, hl108_0, hi108_0⟩ := at_LFace HR0_0.out (ji20) p108 q108
    cases e108
    replace hx108_0 := (HB.out.cell (yny w _ hx108_0)).trans hx108_0
    have HR108_0 := Aside0.mk hi108_0
    have HC108_0 := Aside0.mk hl108_0
    clear hi108_0 hl108_0
    replace p108 := eq_true p108
    replace q108 := eq_true q108
    have p109 : 0 ≤ ((ji23) : Int) := of_decide_eq_true (by first | (with_reducible assumption) | assumption)
    have q109 : (ji23) < ((rd_LFace l0_0 (ji20)).length : Int) := of_decide_eq_true (by first | (with_reducible assumption) | assumption)
    obtain ⟨ad109, e109, hx109_0, hx109_1⟩ := at_Face HR108_0.out (ji23) p109 q109
    cases e109
    replace hx109_0 := (HB.out.cell (yny w _ hx109_0)).trans hx109_0
    replace hx109_1 := (HB.out.cell (yny w _ hx109_1)).trans hx109_1
    replace p109 := eq_true p109
    replace q109 := eq_true q109
    go_wp2_with (first | ((with_reducible refine gate_dst (N := 9) rfl ?_); refine box_event ?hg (N := 9) ?hd (cs := #[.int .i64 0, .int .i64 0]) (t := 59) ?hr ?_; (case hd => rfl); (case hg => rfl); (case hr => first | (go_simp; done) | (go_simp; rfl)); intro gb110 hg w29 hbox hb; have n0_ := Aside0.mk (Kd.R_below (by (with_reducible repeat (first | apply Kd.R_alloc | apply Kd.R_drewN | apply Kd.R_drew)); exact HO_5.out) hb); have n1_ := Aside0.mk (blk_below (g := gb101) (o := .cells #[.slice (some ad108) l0_0.length c0_0] 30 (0, 0)) (by (with_reducible repeat (first | refine blk_drewN ?_ _ | refine blk_drew ?_ | refine blk_alloc ?_ _)); exact BK101.out) hb); have n2_ := Aside0.mk (below_step (by repeat (first | (with_reducible first | exact HB.out | apply below_alloc | apply pw_below_drewN | apply below_drew1 | refine below_set ?_ GE101.out) | exact HB.out)) hb); have n3_ := Aside0.mk (hbox); have n4_ := Aside0.mk ((by rw [hg]; exact (below_size (by repeat (first | (with_reducible first | exact HB.out | apply below_alloc | apply pw_below_drewN | apply below_drew1 | refine below_set ?_ GE101.out) | exact HB.out))) : w.heap.size ≤ gb110)); have n5_ := Aside0.mk ((by rw [hg]; exact (below_size (by repeat (first | (with_reducible first | exact HB.out | apply below_alloc | apply pw_below_drewN | apply below_drew1 | refine below_set ?_ GE101.out) | exact HB.out))) : w.heap.size ≤ gb110)); have n6_ := Aside0.mk ((by rw [hg]; exact Nat.ne_of_lt (blk_lt (g := gb101) (o := .cells #[.slice (some ad108) l0_0.length c0_0] 30 (0, 0)) (by (with_reducible repeat (first | refine blk_drewN ?_ _ | refine blk_drew ?_ | refine blk_alloc ?_ _)); exact BK101.out)) : gb101 ≠ gb110)); have n7_ := Aside0.mk ((by rw [hg]; exact Nat.ne_of_gt (blk_lt (g := gb101) (o := .cells #[.slice (some ad108) l0_0.length c0_0] 30 (0, 0)) (by (with_reducible repeat (first | refine blk_drewN ?_ _ | refine blk_drew ?_ | refine blk_alloc ?_ _)); exact BK101.out)) : gb110 ≠ gb101)); clear HO_5; clear BK101; clear HB; have HO_5 := n0_; have BK101 := n1_; have HB := n2_; have BK110 := n3_; have GW110 := n4_; have GE110 := n5_; have NB101_110 := n6_; have NB110_101 := n7_; clear n0_ n1_ n2_ n3_ n4_ n5_ n6_ n7_; clear hb hbox hg; have hnb30 := NB110_101.out; have hnc30 := NB101_110.out; have hcz31_0 : w29.cell? ⟨gb110, 0, none⟩ = some (.int .i64 0) := (blk_cell BK110.out 0).trans rfl; have hcz31_1 : w29.cell? ⟨gb110, 1, none⟩ = some (.int .i64 0) := (blk_cell BK110.out 1).trans rfl; have hfz31_0 := blk_frozen BK110.out 0; have hfz31_1 := blk_frozen BK110.out 1) | ((with_reducible refine gate_callee (f := 36) rfl ?_); refine goesL_ (some 45) rfl rfl Try.func36 (by kernel_rfl) rfl #[.int .i64 ((rd_Face (rd_LFace l0_0 (ji20)) (ji23)).f1), .int .i64 ji23] rfl (by (try simp only [yiy, yjy, yky]); first | done | (simp only [hji20, hji23]; rfl) | rfl | (simp only [yly, ymy]; rfl)) ?_; (with_reducible refine (spec_l06At.calls k1 ((rd_Face (rd_LFace l0_0 (ji20)) (ji23)).f1) ji23 t111 _ A26.out).mono ?_); rintro e w32 ⟨rfl, hb⟩; refine ⟨_, rfl, ?_⟩; have n0_ := Aside0.mk (Kd.R_below (by (with_reducible repeat (first | apply Kd.R_alloc | apply Kd.R_drewN | apply Kd.R_drew)); exact (Kd.R_mono (Kd.R_far (p := ⟨gb110, 1, none⟩) (Kd.R_far (p := ⟨gb110, 0, none⟩) (Kd.R_types HO_5.out BK110.out (by decide)) (fun _ hk => hk.2) (.int .i64 ((rd_Face (rd_LFace l0_0 (ji20)) (ji23)).f0))) (fun _ hk => hk.2) (.int .i64 ((rd_Face (rd_LFace l0_0 (ji20)) (ji23)).f1))) (fun _ h_ => h_.1))) hb); have n1_ := Aside0.mk (blk_below (g := gb101) (o := .cells #[.slice (some ad108) l0_0.length c0_0] 30 (0, 0)) (by (with_reducible repeat (first | refine blk_drewN ?_ _ | refine blk_drew ?_ | refine blk_alloc ?_ _)); refine blk_far ?_ NB101_110.out _; (with_reducible repeat (first | refine blk_drewN ?_ _ | refine blk_drew ?_ | refine blk_alloc ?_ _)); refine blk_far ?_ NB101_110.out _; (with_reducible repeat (first | refine blk_drewN ?_ _ | refine blk_drew ?_ | refine blk_alloc ?_ _)); exact BK101.out) hb); have n2_ := Aside0.mk (blk_below (g := gb110) (o := .cells #[.int .i64 ((rd_Face (rd_LFace l0_0 (ji20)) (ji23)).f0), .int .i64 ((rd_Face (rd_LFace l0_0 (ji20)) (ji23)).f1)] 59 (0, 0)) (by (with_reducible repeat (first | refine blk_drewN ?_ _ | refine blk_drew ?_ | refine blk_alloc ?_ _)); refine blk_put (cs := #[.int .i64 ((rd_Face (rd_LFace l0_0 (ji20)) (ji23)).f0), .int .i64 0]) ?_ 1 _ rfl; (with_reducible repeat (first | refine blk_drewN ?_ _ | refine blk_drew ?_ | refine blk_alloc ?_ _)); refine blk_put (cs := #[.int .i64 0, .int .i64 0]) ?_ 0 _ rfl; (with_reducible repeat (first | refine blk_drewN ?_ _ | refine blk_drew ?_ | refine blk_alloc ?_ _)); exact BK110.out) hb); have n3_ := Aside0.mk (below_step (by repeat (first | (with_reducible first | exact HB.out | apply below_alloc | apply pw_below_drewN | apply below_drew1 | refine below_set ?_ GE101.out | refine below_set ?_ GE110.out) | exact HB.out)) hb); clear HO_5; clear BK101; clear BK110; clear HB; have HO_5 := n0_; have BK101 := n1_; have BK110 := n2_; have HB := n3_; clear n0_ n1_ n2_ n3_; (try clear hb); (try clear hb2); (try clear hk); (try clear hi)))
    go_loopg [11] k1 (fun kq v11 w' => ∃ (x11_2 : Int), v11 = .int .i64 x11_2 ∧ Aside0 (spec_GluingNumber.l1 kq t103 x5_1 x6_1 x7_1 (rd x5_1 0) t111 x11_2 l0_0 ((rd_Face (rd_LFace l0_0 (ji20)) (ji23)).f0) ((rd_Face (rd_LFace l0_0 (ji20)) (ji23)).f1) = some (r1, r2)) ∧ Aside0 (kq ≤ k1) ∧ Aside0 (Kd.R (Kd.int .i64) 2 w' w.heap.size (fun _ => True) (.slice (some ad107) x5_1.length co27) x5_1) ∧ Aside0 (w'.heap[gb101]? = some (.cells #[(.slice (some ad108) l0_0.length c0_0)] 30 (0, 0))) ∧ Aside0 (w'.heap[gb110]? = some (.cells #[.int .i64 ((rd_Face (rd_LFace l0_0 (ji20)) (ji23)).f0), .int .i64 ((rd_Face (rd_LFace l0_0 (ji20)) (ji23)).f1)] 59 (0, 0))) ∧ Aside0 (Below w.heap.size w w'))
    case atStart => exact ⟨(1), (by first | rfl | (simp; done) | (simp [*]; done)), H', ⟨yoy _⟩, ⟨by (with_reducible repeat (first | apply Kd.R_alloc | apply Kd.R_drewN | apply Kd.R_drew)); exact HO_5.out⟩, ⟨by (with_reducible repeat (first | refine blk_drewN ?_ _ | refine blk_drew ?_ | refine blk_alloc ?_ _)); exact BK101.out⟩, ⟨by (with_reducible repeat (first | refine blk_drewN ?_ _ | refine blk_drew ?_ | refine blk_alloc ?_ _)); exact BK110.out⟩, ⟨by repeat (first | (with_reducible first | exact HB.out | apply below_alloc | apply pw_below_drewN | apply below_drew1 | refine below_set ?_ GE101.out | refine below_set ?_ GE110.out) | exact HB.out)⟩⟩
    case round =>
     clear H'
     try clear c1
     try clear p1
     try clear q1
     try clear hx1
     try clear qi1
     try clear c2
     try clear p2
     try clear c3
     try clear c5
     try clear c5b0
     try clear p6
     try clear c9
     try clear c10
     try clear p10
     try clear q10
     try clear hx10
     try clear qi10
     try clear c18
     try clear c18b0
     try clear c18b1
     try clear c19
     try clear c19b0
     try clear c19b1
     try clear c21
     try clear c21b0
     try clear c22
     try clear c22b0
     try clear c24
     try clear c24b0
     try clear c25
     try clear c25b0
     try clear c30
     try clear hcz13_0
     try clear hcz15_0
     try clear hcz28_0
     try clear hcz31_0
     try clear hcz31_1
     try clear hcz7_0
     try clear hcz9_0
     try clear hfz13_0
     try clear hfz15_0
     try clear hfz28_0
     try clear hfz31_0
     try clear hfz31_1
     try clear hfz7_0
     try clear hfz9_0
     try clear hx107_0
     try clear hx108_0
     try clear hx109_0
     try clear hx109_1
     try clear p107
     try clear p108
     try clear p109
     try clear p2
     try clear p6
     try clear q107
     try clear q108
     try clear q109
     obtain ⟨x11_2, rfl, HA, HK2, HO_5, BK101, BK110, HB⟩ := hrel
     cases gk with
     | zero => exact absurd HA.out (by simp [spec_GluingNumber.l1])
     | succ k2 =>
      have H := HA.out
      clear HA
      simp only [spec_GluingNumber.l1] at H
      by_cases c33 : 0 ≤ x11_2
      rotate_left
      next =>
       rw [if_neg c33] at H
       exact absurd H (by simp)
      rw [if_pos c33] at H
      have c33b0 : decide (0 ≤ x11_2) = true := ygy c33
      clear c33
      by_cases c34 : x11_2 < (x5_1.length : Int)
      rotate_left
      next =>
       rw [if_neg c34] at H
       exact absurd H (by simp)
      rw [if_pos c34] at H
      have c34b0 : decide (x11_2 < (x5_1.length : Int)) = true := ygy c34
      clear c34
      by_cases c35 : (rd x5_1 x11_2) = (wrap64 ((wrap64 (4 * ((rd_Face (rd_LFace l0_0 (ji20)) (ji23)).f0))) + t111))
      rotate_left
      next =>
       rw [if_neg c35] at H
       have c35b0 : ((rd x5_1 x11_2) == (wrap64 ((wrap64 (4 * ((rd_Face (rd_LFace l0_0 (ji20)) (ji23)).f0))) + t111))) = false := beq_eq_false_iff_ne.mpr c35
       have c35b1 : ((rd x5_1 x11_2) != (wrap64 ((wrap64 (4 * ((rd_Face (rd_LFace l0_0 (ji20)) (ji23)).f0))) + t111))) = true := bne_iff_ne.mpr c35
       have H' := Aside0.mk H
       clear H
       try go_wp2
       have n0_ := Aside0.mk (Kd.R_drew HO_5.out)
       have n1_ := Aside0.mk (blk_drew BK101.out)
       have n2_ := Aside0.mk (blk_drew BK110.out)
       have n3_ := Aside0.mk (below_drew1 HB.out)
       clear HO_5
       clear BK101
       clear BK110
       clear HB
       have HO_5 := n0_
       have BK101 := n1_
       have BK110 := n2_
       have HB := n3_
       clear n0_ n1_ n2_ n3_
       have p112 : 0 ≤ (x11_2 : Int) := of_decide_eq_true (by first | (with_reducible assumption) | assumption)
       have q112 : x11_2 < (x5_1.length : Int) := of_decide_eq_true (by first | (with_reducible assumption) | assumption)
       obtain ⟨ad112, e112, hx112_0⟩ := Kd.at_int (Kd.R_reads' HO_5.out).2.2 x11_2 p112 q112
       obtain rfl : ad107 = ad112 := (by injection e112)
       replace p112 := eq_true p112
       replace q112 := eq_true q112
       refine start_ (n := 10) (S := fun w' => w'.cell? ⟨gb110, 0, none⟩ = some (.int .i64 ((rd_Face (rd_LFace l0_0 (ji20)) (ji23)).f0)) ∧ w'.cell? ⟨gb110, 1, none⟩ = some (.int .i64 ((rd_Face (rd_LFace l0_0 (ji20)) (ji23)).f1)) ∧ w'.cell? (ad107.add (x11_2).toNat) = some (.int .i64 (rd x5_1 x11_2))) (ds := []) #[false, false, false, false, false, false, false, false, false, false] (by kernel_rfl) rfl rfl ⟨(blk_cell BK110.out 0).trans rfl, (blk_cell BK110.out 1).trans rfl, hx112_0⟩ (fun hHeld => ?_); refine with_tabW spec_GluingNumber.tab14 spec_GluingNumber.bits14 (fun HT_ HW_ => ?_)
       generalize wr.drew = w61 at HO_5 BK101 BK110 HB hx112_0 hHeld ⊢
       refine pure_ (i := 0) (N := some 46) (v := ?_) (a' := ?_) #[true, false, false, false, false, false, false, false, false, false] rfl rfl (any_of HT_.out (by kernel_rfl)) (fun _ _ _ h => h) (Or.inl ⟨by rfl, ?_⟩) ?_ ?_
       rotate_left
       next =>
        intro w'
        go_simp
        with_reducible rfl
       rotate_left
       next =>
        simp only [Act.put, yay, yby, ycy, i64_w, i32_w]
        rfl
       refine pure_ (i := 1) (N := some 47) (v := ?_) (a' := ?_) #[true, true, false, false, false, false, false, false, false, false] rfl rfl (any_of HT_.out (by kernel_rfl)) (fun _ _ _ h => h) (Or.inl ⟨by rfl, ?_⟩) ?_ ?_
       rotate_left
       next =>
        intro w'
        go_simp
        with_reducible rfl
       rotate_left
       next =>
        simp only [Act.put, yay, yby, ycy, i64_w, i32_w]
        rfl
       refine pure_ (i := 2) (N := some 48) (v := ?_) (a' := ?_) #[true, true, true, false, false, false, false, false, false, false] rfl rfl (any_of HT_.out (by kernel_rfl)) (fun _ _ _ h => h) (Or.inl ⟨by rfl, ?_⟩) ?_ ?_
       rotate_left
       next =>
        intro w'
        go_simp
        with_reducible rfl
       rotate_left
       next =>
        simp only [Act.put, yay, yby, ycy, i64_w, i32_w]
        rfl
       refine pure_ (i := 4) (N := some 50) (v := ?_) (a' := ?_) #[true, true, true, false, true, false, false, false, false, false] rfl rfl (any_of HT_.out (by kernel_rfl)) (fun _ _ _ h => h) (Or.inl ⟨by rfl, ?_⟩) ?_ ?_
       rotate_left
       next =>
        intro w'
        go_simp
        with_reducible rfl
       rotate_left
       next =>
        simp only [Act.put, yay, yby, ycy, i64_w, i32_w]
        rfl
       refine pure_ (i := 7) (N := some 53) (v := ?_) (a' := ?_) #[true, true, true, false, true, false, false, true, false, false] rfl rfl (any_of HT_.out (by kernel_rfl)) (fun _ _ _ h => h) (Or.inl ⟨by rfl, ?_⟩) ?_ ?_
       rotate_left
       next =>
        intro w'
        go_simp
        with_reducible rfl
       rotate_left
       next =>
        simp only [Act.put, yay, yby, ycy, i64_w, i32_w]
        rfl
       refine take_ (i := 3) (N := some 49) (v := ?_) (a' := ?_) #[true, true, true, true, true, false, false, true, false, false] rfl rfl (take_ofW HT_.out HW_.out (by kernel_rfl)) (fun _ _ _ h => h) (Or.inl ⟨by rfl, ?_⟩) hHeld ?_ ?_
       rotate_left
       next =>
        rintro w' ⟨s0, s1, s2⟩
        go_simp
        with_reducible rfl
       rotate_left
       next =>
        simp only [Act.put, yay, yby, ycy, i64_w, i32_w]
        rfl
       refine take_ (i := 5) (N := some 51) (v := ?_) (a' := ?_) #[true, true, true, true, true, true, false, true, false, false] rfl rfl (take_ofW HT_.out HW_.out (by kernel_rfl)) (fun _ _ _ h => h) (Or.inl ⟨by rfl, ?_⟩) hHeld ?_ ?_
       rotate_left
       next =>
        rintro w' ⟨s0, s1, s2⟩
        go_simp
        with_reducible rfl
       rotate_left
       next =>
        simp only [Act.put, yay, yby, ycy, i64_w, i32_w]
        rfl
       refine pure_ (i := 6) (N := some 52) (v := ?_) (a' := ?_) #[true, true, true, true, true, true, true, true, false, false] rfl rfl (any_of HT_.out (by kernel_rfl)) (fun _ _ _ h => h) (Or.inl ⟨by rfl, ?_⟩) ?_ ?_
       rotate_left
       next =>
        intro w'
        go_simp
        with_reducible rfl
       rotate_left
       next =>
        simp only [Act.put, yay, yby, ycy, i64_w, i32_w]
        rfl
       refine pure_ (i := 8) (N := some 54) (v := ?_) (a' := ?_) #[true, true, true, true, true, true, true, true, true, false] rfl rfl (any_of HT_.out (by kernel_rfl)) (fun _ _ _ h => h) (Or.inl ⟨by rfl, ?_⟩) ?_ ?_
       rotate_left
       next =>
        intro w'
        go_simp
        with_reducible rfl
       rotate_left
       next =>
        simp only [Act.put, yay, yby, ycy, i64_w, i32_w]
        rfl
       refine pure_ (i := 9) (N := some 55) (v := ?_) (a' := ?_) #[true, true, true, true, true, true, true, true, true, true] rfl rfl (any_of HT_.out (by kernel_rfl)) (fun _ _ _ h => h) (Or.inl ⟨by rfl, ?_⟩) ?_ ?_
       rotate_left
       next =>
        intro w'
        go_simp
        with_reducible rfl
       rotate_left
       next =>
        simp only [Act.put, yay, yby, ycy, i64_w, i32_w]
        rfl
       refine done_ (done_of HT_.out (by kernel_rfl)) ?_
       try go_wp2
       go_roundg k2
       case measure => have := HK1.out; have := HK2.out; omega
       case rel => exact ⟨(wrap64 (x11_2 + 1)), (by first | rfl | (simp; done) | (simp [*]; done)), H', ⟨by have := HK1.out; have := HK2.out; omega⟩, ⟨by (with_reducible repeat (first | apply Kd.R_alloc | apply Kd.R_drewN | apply Kd.R_drew)); exact HO_5.out⟩, ⟨by (with_reducible repeat (first | refine blk_drewN ?_ _ | refine blk_drew ?_ | refine blk_alloc ?_ _)); exact BK101.out⟩, ⟨by (with_reducible repeat (first | refine blk_drewN ?_ _ | refine blk_drew ?_ | refine blk_alloc ?_ _)); exact BK110.out⟩, ⟨by repeat (first | (with_reducible first | exact HB.out | apply below_alloc | apply pw_below_drewN | apply below_drew1 | refine below_set ?_ GE101.out | refine below_set ?_ GE110.out) | exact HB.out)⟩⟩
      rw [if_pos c35] at H
      have c35b0 : ((rd x5_1 x11_2) == (wrap64 ((wrap64 (4 * ((rd_Face (rd_LFace l0_0 (ji20)) (ji23)).f0))) + t111))) = true := beq_iff_eq.mpr c35
      have c35b1 : ((rd x5_1 x11_2) != (wrap64 ((wrap64 (4 * ((rd_Face (rd_LFace l0_0 (ji20)) (ji23)).f0))) + t111))) = false := bne_eq_false_iff_eq.mpr c35
      clear c35
      replace H := ydy.mp H
      obtain ⟨t113, A360, H⟩ := H
      replace H : ((some (([] : List Int) : List Int)).bind fun y114 => (if 1 ≤ x11_2 then (if x11_2 ≤ (x5_1.length : Int) then ((some ((x5_1.take (x11_2 : Int).toNat).drop 1 : List Int)).bind fun y117 => (if y114.length + y117.length < 17592186044416 then ((some (y114 ++ y117 : List Int)).bind fun y121 => (if 0 ≤ (wrap64 (x11_2 + 1)) then (if (wrap64 (x11_2 + 1)) ≤ (x5_1.length : Int) then ((some (x5_1.drop ((wrap64 (x11_2 + 1)) : Int).toNat : List Int)).bind fun y124 => (if y121.length + y124.length < 17592186044416 then ((spec_l16Perms.f k2 (Int.tmod (rd x5_1 0) 4) t111).bind fun t131 => (spec_GluingNumber.l2 k2 t103 (y121 ++ y124) (wrap64 (x6_1 + (wrap64 ((wrap64 (x11_2 - 1)) * t113)))) x7_1 t131 0 l0_0 ((rd_Face (rd_LFace l0_0 (ji20)) (ji23)).f0) ((rd_Face (rd_LFace l0_0 (ji20)) (ji23)).f1))) else (none))) else (none)) else (none))) else (none))) else (none)) else (none))) = some (r1, r2) := H
      have A36 := Aside0.mk A360
      clear A360
      obtain ⟨y114, hy114⟩ : ∃ y_ : List Int, y_ = (([] : List Int)) := ⟨_, rfl⟩
      replace H : (if 1 ≤ x11_2 then (if x11_2 ≤ (x5_1.length : Int) then ((some ((x5_1.take (x11_2 : Int).toNat).drop 1 : List Int)).bind fun y117 => (if y114.length + y117.length < 17592186044416 then ((some (y114 ++ y117 : List Int)).bind fun y121 => (if 0 ≤ (wrap64 (x11_2 + 1)) then (if (wrap64 (x11_2 + 1)) ≤ (x5_1.length : Int) then ((some (x5_1.drop ((wrap64 (x11_2 + 1)) : Int).toNat : List Int)).bind fun y124 => (if y121.length + y124.length < 17592186044416 then ((spec_l16Perms.f k2 (Int.tmod (rd x5_1 0) 4) t111).bind fun t131 => (spec_GluingNumber.l2 k2 t103 (y121 ++ y124) (wrap64 (x6_1 + (wrap64 ((wrap64 (x11_2 - 1)) * t113)))) x7_1 t131 0 l0_0 ((rd_Face (rd_LFace l0_0 (ji20)) (ji23)).f0) ((rd_Face (rd_LFace l0_0 (ji20)) (ji23)).f1))) else (none))) else (none)) else (none))) else (none))) else (none)) else (none)) = some (r1, r2) := by first | (rw [hy114]; with_reducible exact H) | (have H2_ := (yfy _ _).symm.trans H; rw [hy114]; with_reducible exact H2_) | (have H2_ := (yfy _ _).symm.trans H; with_reducible exact H2_) | with_reducible exact H | (rw [hy114]; exact H) | exact H
      have Ny114 := Aside0.mk hy114
      clear hy114
      by_cases c37 : 1 ≤ x11_2
      rotate_left
      next =>
       rw [if_neg c37] at H
       exact absurd H (by simp)
      rw [if_pos c37] at H
      have c37b0 := eq_true c37
      have c37b1 : decide (1 ≤ x11_2) = true := ygy c37
      clear c37
      by_cases c38 : x11_2 ≤ (x5_1.length : Int)
      rotate_left
      next =>
       rw [if_neg c38] at H
       exact absurd H (by simp)
      rw [if_pos c38] at H
      have c38b0 := eq_true c38
      have c38b1 : decide (x11_2 ≤ (x5_1.length : Int)) = true := ygy c38
      clear c38
      obtain ⟨y117, hy117⟩ : ∃ y_ : List Int, y_ = ((x5_1.take (x11_2 : Int).toNat).drop 1) := ⟨_, rfl⟩
      replace H : (if y114.length + y117.length < 17592186044416 then ((some (y114 ++ y117 : List Int)).bind fun y121 => (if 0 ≤ (wrap64 (x11_2 + 1)) then (if (wrap64 (x11_2 + 1)) ≤ (x5_1.length : Int) then ((some (x5_1.drop ((wrap64 (x11_2 + 1)) : Int).toNat : List Int)).bind fun y124 => (if y121.length + y124.length < 17592186044416 then ((spec_l16Perms.f k2 (Int.tmod (rd x5_1 0) 4) t111).bind fun t131 => (spec_GluingNumber.l2 k2 t103 (y121 ++ y124) (wrap64 (x6_1 + (wrap64 ((wrap64 (x11_2 - 1)) * t113)))) x7_1 t131 0 l0_0 ((rd_Face (rd_LFace l0_0 (ji20)) (ji23)).f0) ((rd_Face (rd_LFace l0_0 (ji20)) (ji23)).f1))) else (none))) else (none)) else (none))) else (none)) = some (r1, r2) := by first | (rw [hy117]; with_reducible exact H) | (have H2_ := (yfy _ _).symm.trans H; rw [hy117]; with_reducible exact H2_) | (have H2_ := (yfy _ _).symm.trans H; with_reducible exact H2_) | with_reducible exact H | (rw [hy117]; exact H) | exact H
      have Ny117 := Aside0.mk hy117
      clear hy117
      by_cases c39 : y114.length + y117.length < 17592186044416
      rotate_left
      next =>
       rw [if_neg c39] at H
       exact absurd H (by simp)
      rw [if_pos c39] at H
      have LMc39 := Aside0.mk c39
      clear c39
      obtain ⟨y121, hy121⟩ : ∃ y_ : List Int, y_ = (y114 ++ y117) := ⟨_, rfl⟩
      replace H : (if 0 ≤ (wrap64 (x11_2 + 1)) then (if (wrap64 (x11_2 + 1)) ≤ (x5_1.length : Int) then ((some (x5_1.drop ((wrap64 (x11_2 + 1)) : Int).toNat : List Int)).bind fun y124 => (if y121.length + y124.length < 17592186044416 then ((spec_l16Perms.f k2 (Int.tmod (rd x5_1 0) 4) t111).bind fun t131 => (spec_GluingNumber.l2 k2 t103 (y121 ++ y124) (wrap64 (x6_1 + (wrap64 ((wrap64 (x11_2 - 1)) * t113)))) x7_1 t131 0 l0_0 ((rd_Face (rd_LFace l0_0 (ji20)) (ji23)).f0) ((rd_Face (rd_LFace l0_0 (ji20)) (ji23)).f1))) else (none))) else (none)) else (none)) = some (r1, r2) := by first | (rw [hy121]; with_reducible exact H) | (have H2_ := (yfy _ _).symm.trans H; rw [hy121]; with_reducible exact H2_) | (have H2_ := (yfy _ _).symm.trans H; with_reducible exact H2_) | with_reducible exact H | (rw [hy121]; exact H) | exact H
      have Ny121 := Aside0.mk hy121
      clear hy121
      obtain ⟨ji40, hji40⟩ : ∃ j_ : Int, (wrap64 (x11_2 + 1)) = j_ := ⟨_, rfl⟩
      replace H : (if 0 ≤ (ji40) then (if (ji40) ≤ (x5_1.length : Int) then ((some (x5_1.drop ((ji40) : Int).toNat : List Int)).bind fun y124 => (if y121.length + y124.length < 17592186044416 then ((spec_l16Perms.f k2 (Int.tmod (rd x5_1 0) 4) t111).bind fun t131 => (spec_GluingNumber.l2 k2 t103 (y121 ++ y124) (wrap64 (x6_1 + (wrap64 ((wrap64 (x11_2 - 1)) * t113)))) x7_1 t131 0 l0_0 ((rd_Face (rd_LFace l0_0 (ji20)) (ji23)).f0) ((rd_Face (rd_LFace l0_0 (ji20)) (ji23)).f1))) else (none))) else (none)) else (none)) = some (r1, r2) := by first | (rw [hji40] at H; exact H) | (simp only [hji40] at H ⊢; exact H)
      (try rw [hji40] at A36)
      have hji40w : (IntKind.i64.wrap (x11_2 + 1)) = ji40 := (i64_w _).trans hji40
      by_cases c41 : 0 ≤ (ji40)
      rotate_left
      next =>
       rw [if_neg c41] at H
       exact absurd H (by simp)
      rw [if_pos c41] at H
      have c41b0 := eq_true c41
      have c41b1 : decide (0 ≤ (ji40)) = true := ygy c41
      clear c41
      by_cases c42 : (ji40) ≤ (x5_1.length : Int)
      rotate_left
      next =>
       rw [if_neg c42] at H
       exact absurd H (by simp)
      rw [if_pos c42] at H
      have c42b0 := eq_true c42
      have c42b1 : decide ((ji40) ≤ (x5_1.length : Int)) = true := ygy c42
      clear c42
      obtain ⟨y124, hy124⟩ : ∃ y_ : List Int, y_ = (x5_1.drop ((ji40) : Int).toNat) := ⟨_, rfl⟩
      replace H : (if y121.length + y124.length < 17592186044416 then ((spec_l16Perms.f k2 (Int.tmod (rd x5_1 0) 4) t111).bind fun t131 => (spec_GluingNumber.l2 k2 t103 (y121 ++ y124) (wrap64 (x6_1 + (wrap64 ((wrap64 (x11_2 - 1)) * t113)))) x7_1 t131 0 l0_0 ((rd_Face (rd_LFace l0_0 (ji20)) (ji23)).f0) ((rd_Face (rd_LFace l0_0 (ji20)) (ji23)).f1))) else (none)) = some (r1, r2) := by first | (rw [hy124]; with_reducible exact H) | (have H2_ := (yfy _ _).symm.trans H; rw [hy124]; with_reducible exact H2_) | (have H2_ := (yfy _ _).symm.trans H; with_reducible exact H2_) | with_reducible exact H | (rw [hy124]; exact H) | exact H
      have Ny124 := Aside0.mk hy124
      clear hy124
      by_cases c43 : y121.length + y124.length < 17592186044416
      rotate_left
      next =>
       rw [if_neg c43] at H
       exact absurd H (by simp)
      rw [if_pos c43] at H
      have LMc43 := Aside0.mk c43
      clear c43
      obtain ⟨y128, hy128⟩ : ∃ y_ : List Int, y_ = (y121 ++ y124) := ⟨_, rfl⟩
      replace H : ((spec_l16Perms.f k2 (Int.tmod (rd x5_1 0) 4) t111).bind fun t131 => (spec_GluingNumber.l2 k2 t103 y128 (wrap64 (x6_1 + (wrap64 ((wrap64 (x11_2 - 1)) * t113)))) x7_1 t131 0 l0_0 ((rd_Face (rd_LFace l0_0 (ji20)) (ji23)).f0) ((rd_Face (rd_LFace l0_0 (ji20)) (ji23)).f1))) = some (r1, r2) := by first | (rw [hy128]; with_reducible exact H) | (have H2_ := (yfy _ _).symm.trans H; rw [hy128]; with_reducible exact H2_) | (have H2_ := (yfy _ _).symm.trans H; with_reducible exact H2_) | with_reducible exact H | (rw [hy128]; exact H) | exact H
      have Ny128 := Aside0.mk hy128
      clear hy128
      replace H := ydy.mp H
      obtain ⟨t131, A440, H⟩ := H
      replace H : (spec_GluingNumber.l2 k2 t103 y128 (wrap64 (x6_1 + (wrap64 ((wrap64 (x11_2 - 1)) * t113)))) x7_1 t131 0 l0_0 ((rd_Face (rd_LFace l0_0 (ji20)) (ji23)).f0) ((rd_Face (rd_LFace l0_0 (ji20)) (ji23)).f1)) = some (r1, r2) := H
      rw [hji23] at A440
      have A44 := Aside0.mk A440
      clear A440
      have H' := Aside0.mk H
      clear H
      try go_wp2
      have n0_ := Aside0.mk (Kd.R_drew HO_5.out)
      have n1_ := Aside0.mk (blk_drew BK101.out)
      have n2_ := Aside0.mk (blk_drew BK110.out)
      have n3_ := Aside0.mk (below_drew1 HB.out)
      clear HO_5
      clear BK101
      clear BK110
      clear HB
      have HO_5 := n0_
      have BK101 := n1_
      have BK110 := n2_
      have HB := n3_
      clear n0_ n1_ n2_ n3_
      have p112 : 0 ≤ (x11_2 : Int) := of_decide_eq_true (by first | (with_reducible assumption) | assumption)
      have q112 : x11_2 < (x5_1.length : Int) := of_decide_eq_true (by first | (with_reducible assumption) | assumption)
      obtain ⟨ad112, e112, hx112_0⟩ := Kd.at_int (Kd.R_reads' HO_5.out).2.2 x11_2 p112 q112
      obtain rfl : ad107 = ad112 := (by injection e112)
      replace p112 := eq_true p112
      replace q112 := eq_true q112
      refine start_ (n := 10) (S := fun w' => w'.cell? ⟨gb110, 0, none⟩ = some (.int .i64 ((rd_Face (rd_LFace l0_0 (ji20)) (ji23)).f0)) ∧ w'.cell? ⟨gb110, 1, none⟩ = some (.int .i64 ((rd_Face (rd_LFace l0_0 (ji20)) (ji23)).f1)) ∧ w'.cell? (ad107.add (x11_2).toNat) = some (.int .i64 (rd x5_1 x11_2))) (ds := []) #[false, false, false, false, false, false, false, false, false, false] (by kernel_rfl) rfl rfl ⟨(blk_cell BK110.out 0).trans rfl, (blk_cell BK110.out 1).trans rfl, hx112_0⟩ (fun hHeld => ?_); refine with_tabW spec_GluingNumber.tab14 spec_GluingNumber.bits14 (fun HT_ HW_ => ?_)
      generalize wr.drew = w45 at HO_5 BK101 BK110 HB hx112_0 hHeld ⊢
      refine pure_ (i := 0) (N := some 46) (v := ?_) (a' := ?_) #[true, false, false, false, false, false, false, false, false, false] rfl rfl (any_of HT_.out (by kernel_rfl)) (fun _ _ _ h => h) (Or.inl ⟨by rfl, ?_⟩) ?_ ?_
      rotate_left
      next =>
       intro w'
       go_simp
       with_reducible rfl
      rotate_left
      next =>
       simp only [Act.put, yay, yby, ycy, i64_w, i32_w]
       rfl
      refine pure_ (i := 1) (N := some 47) (v := ?_) (a' := ?_) #[true, true, false, false, false, false, false, false, false, false] rfl rfl (any_of HT_.out (by kernel_rfl)) (fun _ _ _ h => h) (Or.inl ⟨by rfl, ?_⟩) ?_ ?_
      rotate_left
      next =>
       intro w'
       go_simp
       with_reducible rfl
      rotate_left
      next =>
       simp only [Act.put, yay, yby, ycy, i64_w, i32_w]
       rfl
      refine pure_ (i := 2) (N := some 48) (v := ?_) (a' := ?_) #[true, true, true, false, false, false, false, false, false, false] rfl rfl (any_of HT_.out (by kernel_rfl)) (fun _ _ _ h => h) (Or.inl ⟨by rfl, ?_⟩) ?_ ?_
      rotate_left
      next =>
       intro w'
       go_simp
       with_reducible rfl
      rotate_left
      next =>
       simp only [Act.put, yay, yby, ycy, i64_w, i32_w]
       rfl
      refine pure_ (i := 4) (N := some 50) (v := ?_) (a' := ?_) #[true, true, true, false, true, false, false, false, false, false] rfl rfl (any_of HT_.out (by kernel_rfl)) (fun _ _ _ h => h) (Or.inl ⟨by rfl, ?_⟩) ?_ ?_
      rotate_left
      next =>
       intro w'
       go_simp
       with_reducible rfl
      rotate_left
      next =>
       simp only [Act.put, yay, yby, ycy, i64_w, i32_w]
       rfl
      refine pure_ (i := 7) (N := some 53) (v := ?_) (a' := ?_) #[true, true, true, false, true, false, false, true, false, false] rfl rfl (any_of HT_.out (by kernel_rfl)) (fun _ _ _ h => h) (Or.inl ⟨by rfl, ?_⟩) ?_ ?_
      rotate_left
      next =>
       intro w'
       go_simp
       with_reducible rfl
      rotate_left
      next =>
       simp only [Act.put, yay, yby, ycy, i64_w, i32_w]
       rfl
      refine take_ (i := 3) (N := some 49) (v := ?_) (a' := ?_) #[true, true, true, true, true, false, false, true, false, false] rfl rfl (take_ofW HT_.out HW_.out (by kernel_rfl)) (fun _ _ _ h => h) (Or.inl ⟨by rfl, ?_⟩) hHeld ?_ ?_
      rotate_left
      next =>
       rintro w' ⟨s0, s1, s2⟩
       go_simp
       with_reducible rfl
      rotate_left
      next =>
       simp only [Act.put, yay, yby, ycy, i64_w, i32_w]
       rfl
      refine take_ (i := 5) (N := some 51) (v := ?_) (a' := ?_) #[true, true, true, true, true, true, false, true, false, false] rfl rfl (take_ofW HT_.out HW_.out (by kernel_rfl)) (fun _ _ _ h => h) (Or.inl ⟨by rfl, ?_⟩) hHeld ?_ ?_
      rotate_left
      next =>
       rintro w' ⟨s0, s1, s2⟩
       go_simp
       with_reducible rfl
      rotate_left
      next =>
       simp only [Act.put, yay, yby, ycy, i64_w, i32_w]
       rfl
      refine pure_ (i := 6) (N := some 52) (v := ?_) (a' := ?_) #[true, true, true, true, true, true, true, true, false, false] rfl rfl (any_of HT_.out (by kernel_rfl)) (fun _ _ _ h => h) (Or.inl ⟨by rfl, ?_⟩) ?_ ?_
      rotate_left
      next =>
       intro w'
       go_simp
       with_reducible rfl
      rotate_left
      next =>
       simp only [Act.put, yay, yby, ycy, i64_w, i32_w]
       rfl
      refine pure_ (i := 8) (N := some 54) (v := ?_) (a' := ?_) #[true, true, true, true, true, true, true, true, true, false] rfl rfl (any_of HT_.out (by kernel_rfl)) (fun _ _ _ h => h) (Or.inl ⟨by rfl, ?_⟩) ?_ ?_
      rotate_left
      next =>
       intro w'
       go_simp
       with_reducible rfl
      rotate_left
      next =>
       simp only [Act.put, yay, yby, ycy, i64_w, i32_w]
       rfl
      refine pure_ (i := 9) (N := some 55) (v := ?_) (a' := ?_) #[true, true, true, true, true, true, true, true, true, true] rfl rfl (any_of HT_.out (by kernel_rfl)) (fun _ _ _ h => h) (Or.inl ⟨by rfl, ?_⟩) ?_ ?_
      rotate_left
      next =>
       intro w'
       go_simp
       with_reducible rfl
      rotate_left
      next =>
       simp only [Act.put, yay, yby, ycy, i64_w, i32_w]
       rfl
      refine done_ (done_of HT_.out (by kernel_rfl)) ?_
      try go_wp2_with (first | ((with_reducible refine gate_callee (f := 37) rfl ?_); refine goesL_ (some 64) rfl rfl Try.func37 (by kernel_rfl) rfl #[.int .i64 (wrap64 ((x5_1.length : Int) - 2))] rfl (by (try simp only [yiy, yjy, yky]); first | done | rfl | (simp only [yly, ymy]; rfl)) ?_; (with_reducible refine (spec_l16Matchings.calls k2 (wrap64 ((x5_1.length : Int) - 2)) t113 _ A36.out).mono ?_); rintro e w' ⟨rfl, ⟨nd, rfl⟩⟩; refine ⟨_, rfl, ?_⟩))
      (try (rw [drewN_self w45]; generalize hq_ : World.drewN w45 _ = w45; have n0_ : Aside0 (Kd.R (Kd.int .i64) 2 w45 w.heap.size (fun _ => True) (.slice (some ad107) x5_1.length co27) x5_1) := ⟨by rw [← hq_]; exact (by (with_reducible repeat (first | apply Kd.R_alloc | apply Kd.R_drewN | apply Kd.R_drew)); exact HO_5.out)⟩; have n1_ : Aside0 (w45.heap[gb101]? = some (.cells #[.slice (some ad108) l0_0.length c0_0] 30 (0, 0))) := ⟨by rw [← hq_]; exact (by (with_reducible repeat (first | refine blk_drewN ?_ _ | refine blk_drew ?_ | refine blk_alloc ?_ _)); exact BK101.out)⟩; have n2_ : Aside0 (w45.heap[gb110]? = some (.cells #[.int .i64 ((rd_Face (rd_LFace l0_0 (ji20)) (ji23)).f0), .int .i64 ((rd_Face (rd_LFace l0_0 (ji20)) (ji23)).f1)] 59 (0, 0))) := ⟨by rw [← hq_]; exact (by (with_reducible repeat (first | refine blk_drewN ?_ _ | refine blk_drew ?_ | refine blk_alloc ?_ _)); exact BK110.out)⟩; have n3_ : Aside0 (Below w.heap.size w w45) := ⟨by rw [← hq_]; exact (by repeat (first | (with_reducible first | exact HB.out | apply below_alloc | apply pw_below_drewN | apply below_drew1 | refine below_set ?_ GE101.out | refine below_set ?_ GE110.out) | exact HB.out))⟩; clear HO_5 BK101 BK110 HB hq_; have HO_5 := n0_; have BK101 := n1_; have BK110 := n2_; have HB := n3_; clear n0_ n1_ n2_ n3_))
      have n0_ := Aside0.mk (Kd.R_drew HO_5.out)
      have n1_ := Aside0.mk (blk_drew BK101.out)
      have n2_ := Aside0.mk (blk_drew BK110.out)
      have n3_ := Aside0.mk (below_drew1 HB.out)
      clear HO_5
      clear BK101
      clear BK110
      clear HB
      have HO_5 := n0_
      have BK101 := n1_
      have BK110 := n2_
      have HB := n3_
      clear n0_ n1_ n2_ n3_
      have q47 : (x11_2 : Int) ≤ ((x5_1.length : Int) : Int) := of_decide_eq_true (by first | (with_reducible assumption) | assumption)
      obtain ⟨i047, hi047, _, hsz47, _⟩ := info_parts info2
      have hroom47 : x5_1.length ≤ co27 := (Kd.R_reads' HO_5.out).2.1
      have hC47 : Kd.C (Kd.int .i64) _ (some ad107) x5_1.length x5_1 := (Kd.R_reads' HO_5.out).2.2
      have ql47 : (1 : Int) ≤ (x11_2 : Int) := of_decide_eq_true (by first | (with_reducible assumption) | assumption)
      have hcut47 := cut_mid (P := Try.prog) 44 2 .i64 .i64 Try.underlying44 hi047 1 hsz47 (some ad107) x5_1.length co27 1 x11_2 (by omega) ql47 q47 hroom47
      have hr47 := Kd.C_mid (lo := (1 : Int).toNat) (hi := (x11_2 : Int).toNat) (c := co27) hC47 (by omega) (by omega) hroom47
      obtain ⟨A47, hA47⟩ : ∃ A1, A1 = (if co27 = (1 : Int).toNat then (some ad107) else ((some ad107) : Option Addr).map (·.add ((1 : Int).toNat * 1))) := ⟨_, rfl⟩
      obtain ⟨c47, hc47⟩ : ∃ c1, c1 = co27 - (1 : Int).toNat := ⟨_, rfl⟩
      have hy47 : y117.length = (x11_2 : Int).toNat - (1 : Int).toNat := (by rw [Ny117.out, yly, ymy] <;> omega)
      rw [show ((x5_1).take (x11_2 : Int).toNat).drop (1 : Int).toNat = y117 from Ny117.out.symm] at hr47
      replace hr47 : Kd.C (Kd.int .i64) _ A47 y117.length y117 := (by rw [hA47]; exact hr47)
      rw [← hy47, ← hA47, ← hc47] at hcut47
      have HR120 := Aside0.mk hr47
      have HC120 := Aside0.mk (show y117.length ≤ c47 from by rw [hy47, hc47]; exact Nat.sub_le_sub_right (Nat.le_trans (by omega) hroom47) _)
      clear hr47 hC47 hroom47 hi047 hsz47 hc47
      have KY47 := Aside0.mk hy47
      have KA47 := Aside0.mk hA47
      clear hy47 hA47
      have KL47 := Aside0.mk (show (x11_2 : Int).toNat ≤ x5_1.length from by omega)
      have KM47 := Aside0.mk (show 1 ≤ (x11_2 : Int).toNat from by omega)
      replace q47 := eq_true q47
      have q48 : ((ji40) : Int) ≤ ((x5_1.length : Int) : Int) := of_decide_eq_true (by first | (with_reducible assumption) | assumption)
      obtain ⟨i048, hi048, _, hsz48, _⟩ := info_parts info2
      have hroom48 : x5_1.length ≤ co27 := (Kd.R_reads' HO_5.out).2.1
      have hC48 : Kd.C (Kd.int .i64) _ (some ad107) x5_1.length x5_1 := (Kd.R_reads' HO_5.out).2.2
      have q048 : (0 : Int) ≤ ((ji40) : Int) := of_decide_eq_true (by first | (with_reducible assumption) | assumption)
      have hcut48 := cut_from (P := Try.prog) 44 2 .i64 Try.underlying44 hi048 1 hsz48 (some ad107) x5_1.length co27 (ji40) q048 q48
      have hr48 := Kd.C_drop (m := ((ji40) : Int).toNat) (c := co27) hC48 (by omega) hroom48
      obtain ⟨A48, hA48⟩ : ∃ A1, A1 = (if co27 = ((ji40) : Int).toNat then (some ad107) else ((some ad107) : Option Addr).map (·.add (((ji40) : Int).toNat * 1))) := ⟨_, rfl⟩
      obtain ⟨c48, hc48⟩ : ∃ c1, c1 = co27 - ((ji40) : Int).toNat := ⟨_, rfl⟩
      have hy48 : y124.length = x5_1.length - ((ji40) : Int).toNat := (by rw [Ny124.out, yly] <;> omega)
      rw [show (x5_1).drop ((ji40) : Int).toNat = y124 from Ny124.out.symm] at hr48
      replace hr48 : Kd.C (Kd.int .i64) _ A48 y124.length y124 := (by rw [hA48]; exact hr48)
      rw [← hy48, ← hA48, ← hc48] at hcut48
      have HR127 := Aside0.mk hr48
      have HC127 := Aside0.mk (show y124.length ≤ c48 from by rw [hy48, hc48]; exact Nat.sub_le_sub_right hroom48 _)
      clear hr48 hC48 hroom48 hi048 hsz48 hc48
      have KY48 := Aside0.mk hy48
      have KA48 := Aside0.mk hA48
      clear hy48 hA48
      have KL48 := Aside0.mk (show ((ji40) : Int).toNat ≤ x5_1.length from by omega)
      replace q48 := eq_true q48
      refine start_ (n := 11) (S := fun w' => True) (ds := []) #[false, false, false, false, false, false, false, false, false, false, false] (by kernel_rfl) rfl rfl trivial (fun hHeld => ?_); refine with_tabW spec_GluingNumber.tab17 spec_GluingNumber.bits17 (fun HT_ HW_ => ?_)
      generalize w45.drew = w46 at HO_5 BK101 BK110 HB HR120 HR127 hHeld ⊢
      refine pure_ (i := 1) (N := some 68) (v := ?_) (a' := ?_) #[false, true, false, false, false, false, false, false, false, false, false] rfl rfl (any_of HT_.out (by kernel_rfl)) (fun _ _ _ h => h) (Or.inl ⟨by rfl, ?_⟩) ?_ ?_
      rotate_left
      next =>
       intro w'
       go_simp
       with_reducible rfl
      rotate_left
      next =>
       simp only [Act.put, yay, yby, ycy, i64_w, i32_w]
       rfl
      refine pure_ (i := 2) (N := some 69) (v := ?_) (a' := ?_) #[false, true, true, false, false, false, false, false, false, false, false] rfl rfl (any_of HT_.out (by kernel_rfl)) (fun _ _ _ h => h) (Or.inl ⟨by rfl, ?_⟩) ?_ ?_
      rotate_left
      next =>
       intro w'
       go_simp
       with_reducible rfl
      rotate_left
      next =>
       simp only [Act.put, yay, yby, ycy, i64_w, i32_w]
       rfl
      refine pure_ (i := 3) (N := some 70) (v := ?_) (a' := ?_) #[false, true, true, true, false, false, false, false, false, false, false] rfl rfl (any_of HT_.out (by kernel_rfl)) (fun _ _ _ h => h) (Or.inl ⟨by rfl, ?_⟩) ?_ ?_
      rotate_left
      next =>
       intro w'
       go_simp
       with_reducible rfl
      rotate_left
      next =>
       simp only [Act.put, yay, yby, ycy, i64_w, i32_w]
       rfl
      refine pure_ (i := 5) (N := some 72) (v := ?_) (a' := ?_) #[false, true, true, true, false, true, false, false, false, false, false] rfl rfl (any_of HT_.out (by kernel_rfl)) (fun _ _ _ h => h) (Or.inl ⟨by rfl, ?_⟩) ?_ ?_
      rotate_left
      next =>
       intro w'
       go_simp
       with_reducible rfl
      rotate_left
      next =>
       simp only [Act.put, yay, yby, ycy, i64_w, i32_w]
       rfl
      refine pure_ (i := 6) (N := some 73) (v := ?_) (a' := ?_) #[false, true, true, true, false, true, true, false, false, false, false] rfl rfl (any_of HT_.out (by kernel_rfl)) (fun _ _ _ h => h) (Or.inl ⟨by rfl, ?_⟩) ?_ ?_
      rotate_left
      next =>
       intro w'
       go_simp
       with_reducible rfl
      rotate_left
      next =>
       simp only [Act.put, yay, yby, ycy, i64_w, i32_w]
       rfl
      refine pure_ (i := 7) (N := some 74) (v := ?_) (a' := ?_) #[false, true, true, true, false, true, true, true, false, false, false] rfl rfl (any_of HT_.out (by kernel_rfl)) (fun _ _ _ h => h) (Or.inl ⟨by rfl, ?_⟩) ?_ ?_
      rotate_left
      next =>
       intro w'
       go_simp
       with_reducible rfl
      rotate_left
      next =>
       simp only [Act.put, yay, yby, ycy, i64_w, i32_w]
       rfl
      refine pure_ (i := 8) (N := some 75) (v := ?_) (a' := ?_) #[false, true, true, true, false, true, true, true, true, false, false] rfl rfl (any_of HT_.out (by kernel_rfl)) (fun _ _ _ h => h) (Or.inl ⟨by rfl, ?_⟩) ?_ ?_
      rotate_left
      next =>
       intro w'
       go_simp
       with_reducible rfl
      rotate_left
      next =>
       simp only [Act.put, yay, yby, ycy, i64_w, i32_w]
       rfl
      refine one_ (i := 0) (N := some 67) #[true, true, true, true, false, true, true, true, true, false, false] rfl rfl (one_of HT_.out (by kernel_rfl)) (by decide) (fun K hK => ?_)
      refine Kd.R_lit_step (Kd.int .i64) _ 2 ?hg (N := 67) ?hd (xs := ([] : List Int)) (inner := []) (ok := fun _ => True) (okp := fun _ => True) ?hr ?hp (fun _ hk => hk) trivial (Below.refl _ _) (yoy _) (by simp) ?_; (case hd => rfl); (case hg => rfl); (case hr => first | (go_simp; done) | (go_simp; rfl)); (case hp => exact (Reps.none _ _))
      intro v115 w49 ho50 hb hg_ hnew_
      clear hg_ hnew_
      (first | rw [← Ny114.out] at ho50 | (simp only [Int.reduceToNat] at ho50; rw [← Ny114.out] at ho50))
      have n0_ := Aside0.mk (Kd.R_elder' (by (with_reducible repeat (first | apply Kd.R_alloc | apply Kd.R_drewN | apply Kd.R_drew)); exact HO_5.out) (Kd.R_base ho50) hb)
      have n1_ := Aside0.mk (Kd.R_lower (Kd.R_new' ho50 (Kd.R_lt (by (with_reducible repeat (first | apply Kd.R_alloc | apply Kd.R_drewN | apply Kd.R_drew)); exact HO_5.out))) (below_size (by repeat (first | (with_reducible first | exact HB.out | apply below_alloc | apply pw_below_drewN | apply below_drew1 | refine below_set ?_ GE101.out | refine below_set ?_ GE110.out) | exact HB.out))))
      have n2_ := Aside0.mk (blk_below (g := gb101) (o := .cells #[.slice (some ad108) l0_0.length c0_0] 30 (0, 0)) (by (with_reducible repeat (first | refine blk_drewN ?_ _ | refine blk_drew ?_ | refine blk_alloc ?_ _)); exact BK101.out) hb)
      have n3_ := Aside0.mk (blk_below (g := gb110) (o := .cells #[.int .i64 ((rd_Face (rd_LFace l0_0 (ji20)) (ji23)).f0), .int .i64 ((rd_Face (rd_LFace l0_0 (ji20)) (ji23)).f1)] 59 (0, 0)) (by (with_reducible repeat (first | refine blk_drewN ?_ _ | refine blk_drew ?_ | refine blk_alloc ?_ _)); exact BK110.out) hb)
      have n4_ := Aside0.mk (Kd.C_below (by repeat (first | (with_reducible exact HR120.out) | (with_reducible refine Kd.C_alloc ?_ _) | (with_reducible refine Kd.C_drewN ?_ _) | (with_reducible refine Kd.C_drew ?_) | exact HR120.out)) hb)
      have n5_ := Aside0.mk (Kd.C_below (by repeat (first | (with_reducible exact HR127.out) | (with_reducible refine Kd.C_alloc ?_ _) | (with_reducible refine Kd.C_drewN ?_ _) | (with_reducible refine Kd.C_drew ?_) | exact HR127.out)) hb)
      have n6_ := Aside0.mk (below_step (by repeat (first | (with_reducible first | exact HB.out | apply below_alloc | apply pw_below_drewN | apply below_drew1 | refine below_set ?_ GE101.out | refine below_set ?_ GE110.out) | exact HB.out)) hb)
      clear HO_5
      clear BK101
      clear BK110
      clear HR120
      clear HR127
      clear HB
      have HO_5 := n0_
      have HO116 := n1_
      have BK101 := n2_
      have BK110 := n3_
      have HR120 := n4_
      have HR127 := n5_
      have HB := n6_
      clear n0_ n1_ n2_ n3_ n4_ n5_ n6_
      clear hb ho50
      refine hK.out _ _ trivial (fun hHeld => ?_)
      clear hK K
      refine norm_ (a' := ?_) ?_ ?_
      rotate_left
      next =>
       show Act.put _ (some 67) _ = _
       simp only [Act.put, yay, yby, ycy, i64_w, i32_w]
       rfl
      refine one_ (i := 4) (N := some 71) #[true, true, true, true, true, true, true, true, true, false, false] rfl rfl (one_of HT_.out (by kernel_rfl)) (by decide) (fun K hK => ?_)
      refine Kd.R_append_rows_step (Kd.int .i64) (w0 := w) w.heap.size (by rfl) (.tmp 67) (.tmp 70) 44 2 (.int .i64 0) 8 rfl Try.underlying44 info2 rfl (by decide) (by omega) v115 y114 y117 _ _ _ (fun k_ => some k_ ≠ (.slice (some ad107) x5_1.length co27 : Value).ownBlock) (fun _ => False) rfl rfl ?aO ?aR (fun _ _ h => h) (fun _ h => h.elim) ?aF ?aB ?aS ?aL ?_
      (case aR => repeat (first | exact (by repeat (first | (with_reducible exact HR120.out) | (with_reducible refine Kd.C_alloc ?_ _) | (with_reducible refine Kd.C_drewN ?_ _) | (with_reducible refine Kd.C_drew ?_) | exact HR120.out)) | (with_reducible refine Kd.C_alloc ?_ _) | (with_reducible refine Kd.C_drewN ?_ _) | (with_reducible refine Kd.C_drew ?_)))
      (case aB => exact (by repeat (first | (with_reducible first | exact HB.out | apply below_alloc | apply pw_below_drewN | apply below_drew1 | refine below_set ?_ GE101.out | refine below_set ?_ GE110.out) | exact HB.out)))
      (case aF => exact (fun k_ hk => Kd.fresh' (Kd.R_lt (by (with_reducible repeat (first | apply Kd.R_alloc | apply Kd.R_drewN | apply Kd.R_drew)); exact HO_5.out)) k_ hk))
      (case aO => exact (by (with_reducible repeat (first | apply Kd.R_alloc | apply Kd.R_drewN | apply Kd.R_drew)); exact Kd.R_mono HO116.out (fun _ hk => hk.2)))
      (case aS => exact (below_size (by repeat (first | (with_reducible first | exact HB.out | apply below_alloc | apply pw_below_drewN | apply below_drew1 | refine below_set ?_ GE101.out | refine below_set ?_ GE110.out) | exact HB.out))))
      (case aL => have := LMc39.out; omega)
      intro v122 w51 ho hb hg hat
      rw [← Ny121.out] at ho
      have n0_ := Aside0.mk (Kd.R_after (ok := (fun _ => True)) (by (with_reducible repeat (first | apply Kd.R_alloc | apply Kd.R_drewN | apply Kd.R_drew)); exact HO_5.out) hg hat)
      have n1_ := Aside0.mk (blk_grown (g := gb101) (o := .cells #[.slice (some ad108) l0_0.length c0_0] 30 (0, 0)) (by (with_reducible repeat (first | refine blk_drewN ?_ _ | refine blk_drew ?_ | refine blk_alloc ?_ _)); exact BK101.out) hg (Kd.R_ne HO116.out BK101.out (by decide)))
      have n2_ := Aside0.mk (blk_grown (g := gb110) (o := .cells #[.int .i64 ((rd_Face (rd_LFace l0_0 (ji20)) (ji23)).f0), .int .i64 ((rd_Face (rd_LFace l0_0 (ji20)) (ji23)).f1)] 59 (0, 0)) (by (with_reducible repeat (first | refine blk_drewN ?_ _ | refine blk_drew ?_ | refine blk_alloc ?_ _)); exact BK110.out) hg (Kd.R_ne HO116.out BK110.out (by decide)))
      have n3_ := Aside0.mk (hb)
      have n4_ := Aside0.mk ((show Kd.C (Kd.int .i64) w51 A47 y117.length y117 from by rw [Ny117.out, KA47.out]; exact Kd.C_mid (lo := 1) (hi := (x11_2 : Int).toNat) (c := co27) ((Kd.R_reads' (Kd.R_after (ok := (fun _ => True)) (by (with_reducible repeat (first | apply Kd.R_alloc | apply Kd.R_drewN | apply Kd.R_drew)); exact HO_5.out) hg hat)).2.2) KM47.out KL47.out ((Kd.R_reads' (Kd.R_after (ok := (fun _ => True)) (by (with_reducible repeat (first | apply Kd.R_alloc | apply Kd.R_drewN | apply Kd.R_drew)); exact HO_5.out) hg hat)).2.1)))
      have n5_ := Aside0.mk ((show Kd.C (Kd.int .i64) w51 A48 y124.length y124 from by rw [Ny124.out, KA48.out]; exact Kd.C_drop (m := ((ji40) : Int).toNat) (c := co27) ((Kd.R_reads' (Kd.R_after (ok := (fun _ => True)) (by (with_reducible repeat (first | apply Kd.R_alloc | apply Kd.R_drewN | apply Kd.R_drew)); exact HO_5.out) hg hat)).2.2) KL48.out ((Kd.R_reads' (Kd.R_after (ok := (fun _ => True)) (by (with_reducible repeat (first | apply Kd.R_alloc | apply Kd.R_drewN | apply Kd.R_drew)); exact HO_5.out) hg hat)).2.1)))
      have n6_ := Aside0.mk (ho)
      clear HO_5
      clear BK101
      clear BK110
      clear HB
      clear HR120
      clear HR127
      clear HO116
      have HO_5 := n0_
      have BK101 := n1_
      have BK110 := n2_
      have HB := n3_
      have HR120 := n4_
      have HR127 := n5_
      have HO123 := n6_
      clear n0_ n1_ n2_ n3_ n4_ n5_ n6_
      clear ho hb hg hat
      refine hK.out _ _ trivial (fun hHeld => ?_)
      clear hK K
      refine norm_ (a' := ?_) ?_ ?_
      rotate_left
      next =>
       show Act.put _ (some 71) _ = _
       simp only [Act.put, yay, yby, ycy, i64_w, i32_w]
       rfl
      refine one_ (i := 9) (N := some 76) #[true, true, true, true, true, true, true, true, true, true, false] rfl rfl (one_of HT_.out (by kernel_rfl)) (by decide) (fun K hK => ?_)
      refine Kd.R_append_rows_step (Kd.int .i64) (w0 := w) w.heap.size (by rfl) (.tmp 71) (.tmp 75) 44 2 (.int .i64 0) 8 rfl Try.underlying44 info2 rfl (by decide) (by omega) v122 y121 y124 _ _ _ (fun k_ => some k_ ≠ (.slice (some ad107) x5_1.length co27 : Value).ownBlock) (fun _ => False) rfl rfl ?aO ?aR (fun _ _ h => h) (fun _ h => h.elim) ?aF ?aB ?aS ?aL ?_
      (case aR => repeat (first | exact (by repeat (first | (with_reducible exact HR127.out) | (with_reducible refine Kd.C_alloc ?_ _) | (with_reducible refine Kd.C_drewN ?_ _) | (with_reducible refine Kd.C_drew ?_) | exact HR127.out)) | (with_reducible refine Kd.C_alloc ?_ _) | (with_reducible refine Kd.C_drewN ?_ _) | (with_reducible refine Kd.C_drew ?_)))
      (case aB => exact (by repeat (first | (with_reducible first | exact HB.out | apply below_alloc | apply pw_below_drewN | apply below_drew1 | refine below_set ?_ GE101.out | refine below_set ?_ GE110.out) | exact HB.out)))
      (case aF => exact (fun k_ hk => Kd.fresh' (Kd.R_lt (by (with_reducible repeat (first | apply Kd.R_alloc | apply Kd.R_drewN | apply Kd.R_drew)); exact HO_5.out)) k_ hk))
      (case aO => exact (by (with_reducible repeat (first | apply Kd.R_alloc | apply Kd.R_drewN | apply Kd.R_drew)); exact HO123.out))
      (case aS => exact (below_size (by repeat (first | (with_reducible first | exact HB.out | apply below_alloc | apply pw_below_drewN | apply below_drew1 | refine below_set ?_ GE101.out | refine below_set ?_ GE110.out) | exact HB.out))))
      (case aL => have := LMc43.out; omega)
      intro v129 w52 ho hb hg hat
      rw [← Ny128.out] at ho
      have n0_ := Aside0.mk (Kd.R_after (ok := (fun _ => True)) (by (with_reducible repeat (first | apply Kd.R_alloc | apply Kd.R_drewN | apply Kd.R_drew)); exact HO_5.out) hg hat)
      have n1_ := Aside0.mk (blk_grown (g := gb101) (o := .cells #[.slice (some ad108) l0_0.length c0_0] 30 (0, 0)) (by (with_reducible repeat (first | refine blk_drewN ?_ _ | refine blk_drew ?_ | refine blk_alloc ?_ _)); exact BK101.out) hg (Kd.R_ne HO123.out BK101.out (by decide)))
      have n2_ := Aside0.mk (blk_grown (g := gb110) (o := .cells #[.int .i64 ((rd_Face (rd_LFace l0_0 (ji20)) (ji23)).f0), .int .i64 ((rd_Face (rd_LFace l0_0 (ji20)) (ji23)).f1)] 59 (0, 0)) (by (with_reducible repeat (first | refine blk_drewN ?_ _ | refine blk_drew ?_ | refine blk_alloc ?_ _)); exact BK110.out) hg (Kd.R_ne HO123.out BK110.out (by decide)))
      have n3_ := Aside0.mk (hb)
      have n4_ := Aside0.mk ((show Kd.C (Kd.int .i64) w52 A47 y117.length y117 from by rw [Ny117.out, KA47.out]; exact Kd.C_mid (lo := 1) (hi := (x11_2 : Int).toNat) (c := co27) ((Kd.R_reads' (Kd.R_after (ok := (fun _ => True)) (by (with_reducible repeat (first | apply Kd.R_alloc | apply Kd.R_drewN | apply Kd.R_drew)); exact HO_5.out) hg hat)).2.2) KM47.out KL47.out ((Kd.R_reads' (Kd.R_after (ok := (fun _ => True)) (by (with_reducible repeat (first | apply Kd.R_alloc | apply Kd.R_drewN | apply Kd.R_drew)); exact HO_5.out) hg hat)).2.1)))
      have n5_ := Aside0.mk ((show Kd.C (Kd.int .i64) w52 A48 y124.length y124 from by rw [Ny124.out, KA48.out]; exact Kd.C_drop (m := ((ji40) : Int).toNat) (c := co27) ((Kd.R_reads' (Kd.R_after (ok := (fun _ => True)) (by (with_reducible repeat (first | apply Kd.R_alloc | apply Kd.R_drewN | apply Kd.R_drew)); exact HO_5.out) hg hat)).2.2) KL48.out ((Kd.R_reads' (Kd.R_after (ok := (fun _ => True)) (by (with_reducible repeat (first | apply Kd.R_alloc | apply Kd.R_drewN | apply Kd.R_drew)); exact HO_5.out) hg hat)).2.1)))
      have n6_ := Aside0.mk (ho)
      clear HO_5
      clear BK101
      clear BK110
      clear HB
      clear HR120
      clear HR127
      clear HO123
      have HO_5 := n0_
      have BK101 := n1_
      have BK110 := n2_
      have HB := n3_
      have HR120 := n4_
      have HR127 := n5_
      have HO130 := n6_
      clear n0_ n1_ n2_ n3_ n4_ n5_ n6_
      clear ho hb hg hat
      refine hK.out _ _ trivial (fun hHeld => ?_)
      clear hK K
      refine norm_ (a' := ?_) ?_ ?_
      rotate_left
      next =>
       show Act.put _ (some 76) _ = _
       simp only [Act.put, yay, yby, ycy, i64_w, i32_w]
       rfl
      refine pure_ (i := 10) (N := some 5) (v := ?_) (a' := ?_) #[true, true, true, true, true, true, true, true, true, true, true] rfl rfl (any_of HT_.out (by kernel_rfl)) (fun _ _ _ h => h) (Or.inl ⟨by rfl, ?_⟩) ?_ ?_
      rotate_left
      next =>
       intro w'
       go_simp
       with_reducible rfl
      rotate_left
      next =>
       simp only [Act.put, yay, yby, ycy, i64_w, i32_w]
       rfl
      refine done_ (done_of HT_.out (by kernel_rfl)) ?_
      try go_wp2_with (first | ((with_reducible refine gate_callee (f := 38) rfl ?_); refine goesL_ (some 80) rfl rfl Try.func38 (by kernel_rfl) rfl #[.int .i64 ji23, .int .i64 t111] rfl (by (try simp only [yiy, yjy, yky]); first | done | rfl | (simp only [yly, ymy]; rfl)) ?_; (with_reducible refine (spec_l16Perms.calls k2 ji23 t111 t131 _ A44.out).mono ?_); rintro e w53 ⟨v132, rfl, ho0, hb⟩; refine ⟨_, rfl, ?_⟩; have n0_ := Aside0.mk (Kd.R_elder' (by (with_reducible repeat (first | apply Kd.R_alloc | apply Kd.R_drewN | apply Kd.R_drew)); exact HO_5.out) (Kd.R_base ho0) hb); have n1_ := Aside0.mk (Kd.R_elder' (by (with_reducible repeat (first | apply Kd.R_alloc | apply Kd.R_drewN | apply Kd.R_drew)); exact HO130.out) (Kd.R_base ho0) hb); have n2_ := Aside0.mk (Kd.R_lower (Kd.R_new' (Kd.R_new' ho0 (Kd.R_lt (by (with_reducible repeat (first | apply Kd.R_alloc | apply Kd.R_drewN | apply Kd.R_drew)); exact HO_5.out))) (Kd.R_lt (by (with_reducible repeat (first | apply Kd.R_alloc | apply Kd.R_drewN | apply Kd.R_drew)); exact HO130.out))) (below_size (by repeat (first | (with_reducible first | exact HB.out | apply below_alloc | apply pw_below_drewN | apply below_drew1 | refine below_set ?_ GE101.out | refine below_set ?_ GE110.out) | exact HB.out)))); have n3_ := Aside0.mk (blk_below (g := gb101) (o := .cells #[.slice (some ad108) l0_0.length c0_0] 30 (0, 0)) (by (with_reducible repeat (first | refine blk_drewN ?_ _ | refine blk_drew ?_ | refine blk_alloc ?_ _)); exact BK101.out) hb); have n4_ := Aside0.mk (blk_below (g := gb110) (o := .cells #[.int .i64 ((rd_Face (rd_LFace l0_0 (ji20)) (ji23)).f0), .int .i64 ((rd_Face (rd_LFace l0_0 (ji20)) (ji23)).f1)] 59 (0, 0)) (by (with_reducible repeat (first | refine blk_drewN ?_ _ | refine blk_drew ?_ | refine blk_alloc ?_ _)); exact BK110.out) hb); have n5_ := Aside0.mk (Kd.C_below (by repeat (first | (with_reducible exact HR120.out) | (with_reducible refine Kd.C_alloc ?_ _) | (with_reducible refine Kd.C_drewN ?_ _) | (with_reducible refine Kd.C_drew ?_) | exact HR120.out)) hb); have n6_ := Aside0.mk (Kd.C_below (by repeat (first | (with_reducible exact HR127.out) | (with_reducible refine Kd.C_alloc ?_ _) | (with_reducible refine Kd.C_drewN ?_ _) | (with_reducible refine Kd.C_drew ?_) | exact HR127.out)) hb); have n7_ := Aside0.mk (below_step (by repeat (first | (with_reducible first | exact HB.out | apply below_alloc | apply pw_below_drewN | apply below_drew1 | refine below_set ?_ GE101.out | refine below_set ?_ GE110.out) | exact HB.out)) hb); clear HO_5; clear HO130; clear BK101; clear BK110; clear HR120; clear HR127; clear HB; have HO_5 := n0_; have HO130 := n1_; have HO133 := n2_; have BK101 := n3_; have BK110 := n4_; have HR120 := n5_; have HR127 := n6_; have HB := n7_; clear n0_ n1_ n2_ n3_ n4_ n5_ n6_ n7_; (try clear hb); (try clear hb2); (try clear hk); (try clear hi); (try clear ho0)))
      go_loopg [13] k2 (fun kq v13 w' => ∃ (x13_3 : Int), v13 = .int .i64 x13_3 ∧ Aside0 (spec_GluingNumber.l2 kq t103 y128 (wrap64 (x6_1 + (wrap64 ((wrap64 (x11_2 - 1)) * t113)))) x7_1 t131 x13_3 l0_0 ((rd_Face (rd_LFace l0_0 (ji20)) (ji23)).f0) ((rd_Face (rd_LFace l0_0 (ji20)) (ji23)).f1) = some (r1, r2)) ∧ Aside0 (kq ≤ k2) ∧ Aside0 (Kd.R (Kd.int .i64) 2 w' w.heap.size (fun k_ => some k_ ≠ (v132 : Value).ownBlock) v129 y128) ∧ Aside0 (Kd.R (Kd.int .i64) 2 w' w.heap.size (fun k_ => some k_ ≠ (v129 : Value).ownBlock) v132 t131) ∧ Aside0 (w'.heap[gb101]? = some (.cells #[(.slice (some ad108) l0_0.length c0_0)] 30 (0, 0))) ∧ Aside0 (w'.heap[gb110]? = some (.cells #[.int .i64 ((rd_Face (rd_LFace l0_0 (ji20)) (ji23)).f0), .int .i64 ((rd_Face (rd_LFace l0_0 (ji20)) (ji23)).f1)] 59 (0, 0))) ∧ Aside0 (Kd.C (Kd.int .i64) w' A47 y117.length y117) ∧ Aside0 (Kd.C (Kd.int .i64) w' A48 y124.length y124) ∧ Aside0 (Below w.heap.size w w'))
      case atStart => exact ⟨(0), (by first | rfl | (simp; done) | (simp [*]; done)), H', ⟨yoy _⟩, ⟨by (with_reducible repeat (first | apply Kd.R_alloc | apply Kd.R_drewN | apply Kd.R_drew)); exact Kd.R_mono HO130.out (fun _ hk => hk.2)⟩, ⟨by (with_reducible repeat (first | apply Kd.R_alloc | apply Kd.R_drewN | apply Kd.R_drew)); exact Kd.R_mono HO133.out (fun _ hk => hk.2)⟩, ⟨by (with_reducible repeat (first | refine blk_drewN ?_ _ | refine blk_drew ?_ | refine blk_alloc ?_ _)); exact BK101.out⟩, ⟨by (with_reducible repeat (first | refine blk_drewN ?_ _ | refine blk_drew ?_ | refine blk_alloc ?_ _)); exact BK110.out⟩, ⟨by repeat (first | (with_reducible exact HR120.out) | (with_reducible refine Kd.C_alloc ?_ _) | (with_reducible refine Kd.C_drewN ?_ _) | (with_reducible refine Kd.C_drew ?_) | exact HR120.out)⟩, ⟨by repeat (first | (with_reducible exact HR127.out) | (with_reducible refine Kd.C_alloc ?_ _) | (with_reducible refine Kd.C_drewN ?_ _) | (with_reducible refine Kd.C_drew ?_) | exact HR127.out)⟩, ⟨by repeat (first | (with_reducible first | exact HB.out | apply below_alloc | apply pw_below_drewN | apply below_drew1 | refine below_set ?_ GE101.out | refine below_set ?_ GE110.out) | exact HB.out)⟩⟩
      case round =>
       clear H'
       try clear c1
       try clear p1
       try clear q1
       try clear hx1
       try clear qi1
       try clear c2
       try clear p2
       try clear c3
       try clear c4
       try clear q4
       try clear c5
       try clear c5b0
       try clear p6
       try clear c9
       try clear c10
       try clear p10
       try clear q10
       try clear hx10
       try clear qi10
       try clear p11
       try clear q11
       try clear hx11
       try clear c18
       try clear c18b0
       try clear c18b1
       try clear c19
       try clear c19b0
       try clear c19b1
       try clear c21
       try clear c21b0
       try clear c22
       try clear c22b0
       try clear c24
       try clear c24b0
       try clear c25
       try clear c25b0
       try clear c30
       try clear c33
       try clear c33b0
       try clear c34
       try clear c34b0
       try clear c35
       try clear c35b0
       try clear c35b1
       try clear c36
       try clear c37
       try clear c37b0
       try clear c37b1
       try clear c38
       try clear c38b0
       try clear c38b1
       try clear c39
       try clear c41
       try clear c41b0
       try clear c41b1
       try clear c42
       try clear c42b0
       try clear c42b1
       try clear c43
       try clear c47
       try clear q47
       try clear c48
       try clear q48
       try clear hcz13_0
       try clear hcz15_0
       try clear hcz28_0
       try clear hcz31_0
       try clear hcz31_1
       try clear hcz7_0
       try clear hcz9_0
       try clear hfz13_0
       try clear hfz15_0
       try clear hfz28_0
       try clear hfz31_0
       try clear hfz31_1
       try clear hfz7_0
       try clear hfz9_0
       try clear hx107_0
       try clear hx108_0
       try clear hx109_0
       try clear hx109_1
       try clear hx112_0
       try clear p1
       try clear p10
       try clear p107
       try clear p108
       try clear p109
       try clear p112
       try clear p2
       try clear p6
       try clear q048
       try clear q1
       try clear q10
       try clear q107
       try clear q108
       try clear q109
       try clear q112
       try clear q47
       try clear q48
       obtain ⟨x13_3, rfl, HA, HK3, HO_5, HO_12, BK101, BK110, HR120, HR127, HB⟩ := hrel
       cases gk with
       | zero => exact absurd HA.out (by simp [spec_GluingNumber.l2])
       | succ k3 =>
        have H := HA.out
        clear HA
        simp only [spec_GluingNumber.l2] at H
        by_cases c54 : 0 ≤ x13_3
        rotate_left
        next =>
         rw [if_neg c54] at H
         exact absurd H (by simp)
        rw [if_pos c54] at H
        have c54b0 : decide (0 ≤ x13_3) = true := ygy c54
        clear c54
        by_cases c55 : x13_3 < (t131.length : Int)
        rotate_left
        next =>
         rw [if_neg c55] at H
         exact absurd H (by simp)
        rw [if_pos c55] at H
        have c55b0 : decide (x13_3 < (t131.length : Int)) = true := ygy c55
        clear c55
        by_cases c56 : (rd t131 x13_3) = ((rd_Face (rd_LFace l0_0 (ji20)) (ji23)).f1)
        rotate_left
        next =>
         rw [if_neg c56] at H
         have c56b0 : ((rd t131 x13_3) == ((rd_Face (rd_LFace l0_0 (ji20)) (ji23)).f1)) = false := beq_eq_false_iff_ne.mpr c56
         have c56b1 : ((rd t131 x13_3) != ((rd_Face (rd_LFace l0_0 (ji20)) (ji23)).f1)) = true := bne_iff_ne.mpr c56
         have H' := Aside0.mk H
         clear H
         try go_wp2
         have n0_ := Aside0.mk (Kd.R_drew HO_5.out)
         have n1_ := Aside0.mk (Kd.R_drew HO_12.out)
         have n2_ := Aside0.mk (blk_drew BK101.out)
         have n3_ := Aside0.mk (blk_drew BK110.out)
         have n4_ := Aside0.mk (Kd.C_drew HR120.out)
         have n5_ := Aside0.mk (Kd.C_drew HR127.out)
         have n6_ := Aside0.mk (below_drew1 HB.out)
         clear HO_5
         clear HO_12
         clear BK101
         clear BK110
         clear HR120
         clear HR127
         clear HB
         have HO_5 := n0_
         have HO_12 := n1_
         have BK101 := n2_
         have BK110 := n3_
         have HR120 := n4_
         have HR127 := n5_
         have HB := n6_
         clear n0_ n1_ n2_ n3_ n4_ n5_ n6_
         obtain ⟨Ao60, co60, eo60⟩ := Kd.R_slice HO_12.out
         (first | subst eo60 | (injection eo60 with f1_ f2_ f3_; have f4_ := f1_.symm; have f5_ := f3_.symm; clear f1_ f2_ f3_; subst f4_; subst f5_))
         have p134 : 0 ≤ (x13_3 : Int) := of_decide_eq_true (by first | (with_reducible assumption) | assumption)
         have q134 : x13_3 < (t131.length : Int) := of_decide_eq_true (by first | (with_reducible assumption) | assumption)
         obtain ⟨ad134, e134, hx134_0⟩ := Kd.at_int (Kd.R_reads' HO_12.out).2.2 x13_3 p134 q134
         cases e134
         replace p134 := eq_true p134
         replace q134 := eq_true q134
         refine start_ (n := 7) (S := fun w' => w'.cell? ⟨gb110, 0, none⟩ = some (.int .i64 ((rd_Face (rd_LFace l0_0 (ji20)) (ji23)).f0)) ∧ w'.cell? ⟨gb110, 1, none⟩ = some (.int .i64 ((rd_Face (rd_LFace l0_0 (ji20)) (ji23)).f1)) ∧ w'.cell? (ad134.add (x13_3).toNat) = some (.int .i64 (rd t131 x13_3))) (ds := []) #[false, false, false, false, false, false, false] (by kernel_rfl) rfl rfl ⟨(blk_cell BK110.out 0).trans rfl, (blk_cell BK110.out 1).trans rfl, hx134_0⟩ (fun hHeld => ?_)
         generalize wr.drew = w59 at HO_5 HO_12 BK101 BK110 HR120 HR127 HB hx134_0 hHeld ⊢
         refine pure_ (i := 0) (N := some 81) (v := ?_) (a' := ?_) #[true, false, false, false, false, false, false] rfl rfl (by kernel_rfl) (fun _ _ _ h => h) (Or.inl ⟨by rfl, ?_⟩) ?_ ?_
         rotate_left
         next =>
          intro w'
          go_simp
          with_reducible rfl
         rotate_left
         next =>
          simp only [Act.put, yay, yby, ycy, i64_w, i32_w]
          rfl
         refine pure_ (i := 1) (N := some 82) (v := ?_) (a' := ?_) #[true, true, false, false, false, false, false] rfl rfl (by kernel_rfl) (fun _ _ _ h => h) (Or.inl ⟨by rfl, ?_⟩) ?_ ?_
         rotate_left
         next =>
          intro w'
          go_simp
          with_reducible rfl
         rotate_left
         next =>
          simp only [Act.put, yay, yby, ycy, i64_w, i32_w]
          rfl
         refine pure_ (i := 2) (N := some 83) (v := ?_) (a' := ?_) #[true, true, true, false, false, false, false] rfl rfl (by kernel_rfl) (fun _ _ _ h => h) (Or.inl ⟨by rfl, ?_⟩) ?_ ?_
         rotate_left
         next =>
          intro w'
          go_simp
          with_reducible rfl
         rotate_left
         next =>
          simp only [Act.put, yay, yby, ycy, i64_w, i32_w]
          rfl
         refine pure_ (i := 4) (N := some 85) (v := ?_) (a' := ?_) #[true, true, true, false, true, false, false] rfl rfl (by kernel_rfl) (fun _ _ _ h => h) (Or.inl ⟨by rfl, ?_⟩) ?_ ?_
         rotate_left
         next =>
          intro w'
          go_simp
          with_reducible rfl
         rotate_left
         next =>
          simp only [Act.put, yay, yby, ycy, i64_w, i32_w]
          rfl
         refine take_ (i := 3) (N := some 84) (v := ?_) (a' := ?_) #[true, true, true, true, true, false, false] rfl rfl (by kernel_rfl) (fun _ _ _ h => h) (Or.inl ⟨by rfl, ?_⟩) hHeld ?_ ?_
         rotate_left
         next =>
          rintro w' ⟨s0, s1, s2⟩
          go_simp
          with_reducible rfl
         rotate_left
         next =>
          simp only [Act.put, yay, yby, ycy, i64_w, i32_w]
          rfl
         refine take_ (i := 5) (N := some 86) (v := ?_) (a' := ?_) #[true, true, true, true, true, true, false] rfl rfl (by kernel_rfl) (fun _ _ _ h => h) (Or.inl ⟨by rfl, ?_⟩) hHeld ?_ ?_
         rotate_left
         next =>
          rintro w' ⟨s0, s1, s2⟩
          go_simp
          with_reducible rfl
         rotate_left
         next =>
          simp only [Act.put, yay, yby, ycy, i64_w, i32_w]
          rfl
         refine pure_ (i := 6) (N := some 87) (v := ?_) (a' := ?_) #[true, true, true, true, true, true, true] rfl rfl (by kernel_rfl) (fun _ _ _ h => h) (Or.inl ⟨by rfl, ?_⟩) ?_ ?_
         rotate_left
         next =>
          intro w'
          go_simp
          with_reducible rfl
         rotate_left
         next =>
          simp only [Act.put, yay, yby, ycy, i64_w, i32_w]
          rfl
         refine done_ (by kernel_rfl) ?_
         try go_wp2
         go_roundg k3
         case measure => have := HK1.out; have := HK2.out; have := HK3.out; omega
         case rel => exact ⟨(wrap64 (x13_3 + 1)), (by first | rfl | (simp; done) | (simp [*]; done)), H', ⟨by have := HK1.out; have := HK2.out; have := HK3.out; omega⟩, ⟨by (with_reducible repeat (first | apply Kd.R_alloc | apply Kd.R_drewN | apply Kd.R_drew)); exact HO_5.out⟩, ⟨by (with_reducible repeat (first | apply Kd.R_alloc | apply Kd.R_drewN | apply Kd.R_drew)); exact HO_12.out⟩, ⟨by (with_reducible repeat (first | refine blk_drewN ?_ _ | refine blk_drew ?_ | refine blk_alloc ?_ _)); exact BK101.out⟩, ⟨by (with_reducible repeat (first | refine blk_drewN ?_ _ | refine blk_drew ?_ | refine blk_alloc ?_ _)); exact BK110.out⟩, ⟨by repeat (first | (with_reducible exact HR120.out) | (with_reducible refine Kd.C_alloc ?_ _) | (with_reducible refine Kd.C_drewN ?_ _) | (with_reducible refine Kd.C_drew ?_) | exact HR120.out)⟩, ⟨by repeat (first | (with_reducible exact HR127.out) | (with_reducible refine Kd.C_alloc ?_ _) | (with_reducible refine Kd.C_drewN ?_ _) | (with_reducible refine Kd.C_drew ?_) | exact HR127.out)⟩, ⟨by repeat (first | (with_reducible first | exact HB.out | apply below_alloc | apply pw_below_drewN | apply below_drew1 | refine below_set ?_ GE101.out | refine below_set ?_ GE110.out) | exact HB.out)⟩⟩
        rw [if_pos c56] at H
        have c56b0 : ((rd t131 x13_3) == ((rd_Face (rd_LFace l0_0 (ji20)) (ji23)).f1)) = true := beq_iff_eq.mpr c56
        have c56b1 : ((rd t131 x13_3) != ((rd_Face (rd_LFace l0_0 (ji20)) (ji23)).f1)) = false := bne_eq_false_iff_eq.mpr c56
        clear c56
        have H' := Aside0.mk H
        clear H
        try go_wp2
        have n0_ := Aside0.mk (Kd.R_drew HO_5.out)
        have n1_ := Aside0.mk (Kd.R_drew HO_12.out)
        have n2_ := Aside0.mk (blk_drew BK101.out)
        have n3_ := Aside0.mk (blk_drew BK110.out)
        have n4_ := Aside0.mk (Kd.C_drew HR120.out)
        have n5_ := Aside0.mk (Kd.C_drew HR127.out)
        have n6_ := Aside0.mk (below_drew1 HB.out)
        clear HO_5
        clear HO_12
        clear BK101
        clear BK110
        clear HR120
        clear HR127
        clear HB
        have HO_5 := n0_
        have HO_12 := n1_
        have BK101 := n2_
        have BK110 := n3_
        have HR120 := n4_
        have HR127 := n5_
        have HB := n6_
        clear n0_ n1_ n2_ n3_ n4_ n5_ n6_
        obtain ⟨Ao58, co58, eo58⟩ := Kd.R_slice HO_12.out
        (first | subst eo58 | (injection eo58 with f1_ f2_ f3_; have f4_ := f1_.symm; have f5_ := f3_.symm; clear f1_ f2_ f3_; subst f4_; subst f5_))
        have p134 : 0 ≤ (x13_3 : Int) := of_decide_eq_true (by first | (with_reducible assumption) | assumption)
        have q134 : x13_3 < (t131.length : Int) := of_decide_eq_true (by first | (with_reducible assumption) | assumption)
        obtain ⟨ad134, e134, hx134_0⟩ := Kd.at_int (Kd.R_reads' HO_12.out).2.2 x13_3 p134 q134
        cases e134
        replace p134 := eq_true p134
        replace q134 := eq_true q134
        refine start_ (n := 7) (S := fun w' => w'.cell? ⟨gb110, 0, none⟩ = some (.int .i64 ((rd_Face (rd_LFace l0_0 (ji20)) (ji23)).f0)) ∧ w'.cell? ⟨gb110, 1, none⟩ = some (.int .i64 ((rd_Face (rd_LFace l0_0 (ji20)) (ji23)).f1)) ∧ w'.cell? (ad134.add (x13_3).toNat) = some (.int .i64 (rd t131 x13_3))) (ds := []) #[false, false, false, false, false, false, false] (by kernel_rfl) rfl rfl ⟨(blk_cell BK110.out 0).trans rfl, (blk_cell BK110.out 1).trans rfl, hx134_0⟩ (fun hHeld => ?_)
        generalize wr.drew = w57 at HO_5 HO_12 BK101 BK110 HR120 HR127 HB hx134_0 hHeld ⊢
        refine pure_ (i := 0) (N := some 81) (v := ?_) (a' := ?_) #[true, false, false, false, false, false, false] rfl rfl (by kernel_rfl) (fun _ _ _ h => h) (Or.inl ⟨by rfl, ?_⟩) ?_ ?_
        rotate_left
        next =>
         intro w'
         go_simp
         with_reducible rfl
        rotate_left
        next =>
         simp only [Act.put, yay, yby, ycy, i64_w, i32_w]
         rfl
        refine pure_ (i := 1) (N := some 82) (v := ?_) (a' := ?_) #[true, true, false, false, false, false, false] rfl rfl (by kernel_rfl) (fun _ _ _ h => h) (Or.inl ⟨by rfl, ?_⟩) ?_ ?_
        rotate_left
        next =>
         intro w'
         go_simp
         with_reducible rfl
        rotate_left
        next =>
         simp only [Act.put, yay, yby, ycy, i64_w, i32_w]
         rfl
        refine pure_ (i := 2) (N := some 83) (v := ?_) (a' := ?_) #[true, true, true, false, false, false, false] rfl rfl (by kernel_rfl) (fun _ _ _ h => h) (Or.inl ⟨by rfl, ?_⟩) ?_ ?_
        rotate_left
        next =>
         intro w'
         go_simp
         with_reducible rfl
        rotate_left
        next =>
         simp only [Act.put, yay, yby, ycy, i64_w, i32_w]
         rfl
        refine pure_ (i := 4) (N := some 85) (v := ?_) (a' := ?_) #[true, true, true, false, true, false, false] rfl rfl (by kernel_rfl) (fun _ _ _ h => h) (Or.inl ⟨by rfl, ?_⟩) ?_ ?_
        rotate_left
        next =>
         intro w'
         go_simp
         with_reducible rfl
        rotate_left
        next =>
         simp only [Act.put, yay, yby, ycy, i64_w, i32_w]
         rfl
        refine take_ (i := 3) (N := some 84) (v := ?_) (a' := ?_) #[true, true, true, true, true, false, false] rfl rfl (by kernel_rfl) (fun _ _ _ h => h) (Or.inl ⟨by rfl, ?_⟩) hHeld ?_ ?_
        rotate_left
        next =>
         rintro w' ⟨s0, s1, s2⟩
         go_simp
         with_reducible rfl
        rotate_left
        next =>
         simp only [Act.put, yay, yby, ycy, i64_w, i32_w]
         rfl
        refine take_ (i := 5) (N := some 86) (v := ?_) (a' := ?_) #[true, true, true, true, true, true, false] rfl rfl (by kernel_rfl) (fun _ _ _ h => h) (Or.inl ⟨by rfl, ?_⟩) hHeld ?_ ?_
        rotate_left
        next =>
         rintro w' ⟨s0, s1, s2⟩
         go_simp
         with_reducible rfl
        rotate_left
        next =>
         simp only [Act.put, yay, yby, ycy, i64_w, i32_w]
         rfl
        refine pure_ (i := 6) (N := some 87) (v := ?_) (a' := ?_) #[true, true, true, true, true, true, true] rfl rfl (by kernel_rfl) (fun _ _ _ h => h) (Or.inl ⟨by rfl, ?_⟩) ?_ ?_
        rotate_left
        next =>
         intro w'
         go_simp
         with_reducible rfl
        rotate_left
        next =>
         simp only [Act.put, yay, yby, ycy, i64_w, i32_w]
         rfl
        refine done_ (by kernel_rfl) ?_
        try go_wp2
        go_roundg k3
        case measure => have := HK1.out; have := HK2.out; have := HK3.out; omega
        case rel => exact ⟨(y128), ((wrap64 (x6_1 + (wrap64 ((wrap64 (x11_2 - 1)) * t113))))), (wrap64 ((wrap64 (6 * x7_1)) + x13_3)), (by first | rfl | (simp; done) | (simp [*]; done)), (by first | rfl | (simp; done) | (simp [*]; done)), H', ⟨by have := HK1.out; have := HK2.out; have := HK3.out; omega⟩, ⟨by (with_reducible repeat (first | apply Kd.R_alloc | apply Kd.R_drewN | apply Kd.R_drew)); exact Kd.R_mono HO_5.out (fun _ hk => trivial)⟩, ⟨by (with_reducible repeat (first | refine blk_drewN ?_ _ | refine blk_drew ?_ | refine blk_alloc ?_ _)); exact BK101.out⟩, ⟨by repeat (first | (with_reducible first | exact HB.out | apply below_alloc | apply pw_below_drewN | apply below_drew1 | refine below_set ?_ GE101.out | refine below_set ?_ GE110.out) | exact HB.out)⟩⟩
/-! ### laws_FnExactGluingNumber: function 3 -/
def laws_FnExactGluingNumber.j0 : Nat → Bool → List (List (SLawFace)) → List (List (SFace)) → Option (Bool)
 | 0, _, _, _ => none
 | k + 1, x34, x102000, x112000 => if x34 = true then (some false) else ((laws_toTriangulation.f k x102000).bind fun t114 => ((laws_eqTriangulation.f k x112000 t114).bind fun t117 => (if t117 = true then (some true) else (some false))))
def laws_FnExactGluingNumber.f (k : Nat) (l0_0 : List (List (SLawFace))) : Option (Bool) := (laws_szTriangulation.f k l0_0 1048576).bind fun t102 => (if t102 < 0 then (some true) else ((laws_toTriangulation.f k l0_0).bind fun t103 => ((spec_GluingNumber.f k t103).bind fun bt106 => ((laws_toTriangulation.f k l0_0).bind fun t108 => ((impl_GluingNumber.f k t108).bind fun bt112 => (if bt112.1 = bt106.1 then (laws_FnExactGluingNumber.j0 k (bt112.2 != bt106.2) l0_0 t108) else (laws_FnExactGluingNumber.j0 k true l0_0 t108)))))))
set_option maxHeartbeats 8000000 in
set_option maxRecDepth 100000 in
theorem laws_FnExactGluingNumber.calls (k : Nat) (A0_0 : Option Addr) (c0_0 : Nat) (l0_0 : List (List (SLawFace))) (r : Bool) (w : World) (hr0_0 : Kd.C (Kd.slice 123 kLawFace) w A0_0 l0_0.length l0_0) (hc0_0 : l0_0.length ≤ c0_0) (h : laws_FnExactGluingNumber.f k l0_0 = some r) :
 Calls Try.prog 3 #[.agg #[.slice A0_0 l0_0.length c0_0]] w fun e w' => e = .returned (.bool r) ∧ Below w.heap.size w w' := by
 have hu24 := Try.underlying24
 have hu30 := Try.underlying30
 have HR0_0 := Aside0.mk hr0_0
 have HC0_0 := Aside0.mk hc0_0
 clear hr0_0 hc0_0
 have HB := Aside0.mk (Below.refl w.heap.size w)
 have H : ((laws_szTriangulation.f k l0_0 1048576).bind fun t102 => (if t102 < 0 then (some true) else ((laws_toTriangulation.f k l0_0).bind fun t103 => ((spec_GluingNumber.f k t103).bind fun bt106 => ((laws_toTriangulation.f k l0_0).bind fun t108 => ((impl_GluingNumber.f k t108).bind fun bt112 => (if bt112.1 = bt106.1 then (laws_FnExactGluingNumber.j0 k (bt112.2 != bt106.2) l0_0 t108) else (laws_FnExactGluingNumber.j0 k true l0_0 t108)))))))) = some r := h
 clear h
 replace H := ydy.mp H
 obtain ⟨t102, A20, H⟩ := H
 replace H : (if t102 < 0 then (some true) else ((laws_toTriangulation.f k l0_0).bind fun t103 => ((spec_GluingNumber.f k t103).bind fun bt106 => ((laws_toTriangulation.f k l0_0).bind fun t108 => ((impl_GluingNumber.f k t108).bind fun bt112 => (if bt112.1 = bt106.1 then (laws_FnExactGluingNumber.j0 k (bt112.2 != bt106.2) l0_0 t108) else (laws_FnExactGluingNumber.j0 k true l0_0 t108))))))) = some r := H
 have A2 := Aside0.mk A20
 clear A20
 by_cases c3 : t102 < 0
 next =>
  rw [if_pos c3] at H
  have c3b0 : decide (t102 < 0) = true := ygy c3
  clear c3
  obtain rfl := yey H
  go_enter Try.func3, Try.ntmps3
  go_wp2_with (first | ((with_reducible refine gate_dst (N := 1) rfl ?_); refine box_event ?hg (N := 1) ?hd (cs := #[.slice A0_0 l0_0.length c0_0]) (t := 24) ?hr ?_; (case hd => rfl); (case hg => rfl); (case hr => first | (go_simp; done) | (go_simp; rfl)); intro gb101 hg w4 hbox hb; have n0_ := Aside0.mk (below_step (by repeat (first | (with_reducible first | exact HB.out | apply below_alloc | apply pw_below_drewN | apply below_drew1) | exact HB.out)) hb); have n1_ := Aside0.mk (hbox); have n2_ := Aside0.mk ((by rw [hg]; exact (below_size (by repeat (first | (with_reducible first | exact HB.out | apply below_alloc | apply pw_below_drewN | apply below_drew1) | exact HB.out))) : w.heap.size ≤ gb101)); have n3_ := Aside0.mk ((by rw [hg]; exact (below_size (by repeat (first | (with_reducible first | exact HB.out | apply below_alloc | apply pw_below_drewN | apply below_drew1) | exact HB.out))) : w.heap.size ≤ gb101)); clear HB; have HB := n0_; have BK101 := n1_; have GW101 := n2_; have GE101 := n3_; clear n0_ n1_ n2_ n3_; clear hb hbox hg; have hcz5_0 : w4.cell? ⟨gb101, 0, none⟩ = some (.slice A0_0 l0_0.length c0_0) := (blk_cell BK101.out 0).trans rfl; have hfz5_0 := blk_frozen BK101.out 0) | ((with_reducible refine gate_callee (f := 8) rfl ?_); refine goesL_ (some 11) rfl rfl Try.func8 (by kernel_rfl) rfl #[.agg #[.slice A0_0 l0_0.length c0_0], .int .i64 1048576] rfl (by (try simp only [yiy, yjy, yky]); first | done | rfl | (simp only [yly, ymy]; rfl)) ?_; (with_reducible refine (laws_szTriangulation.calls k _ _ l0_0 1048576 t102 _ ?side1 ?side2 A2.out).mono ?_); (case side1 => repeat (first | exact (Kd.C_below HR0_0.out HB.out) | (with_reducible refine Kd.C_alloc ?_ _) | (with_reducible refine Kd.C_drewN ?_ _) | (with_reducible refine Kd.C_drew ?_))); (case side2 => exact HC0_0.out); rintro e w6 ⟨rfl, hb⟩; refine ⟨_, rfl, ?_⟩; have n0_ := Aside0.mk (blk_below (g := gb101) (o := .cells #[.slice A0_0 l0_0.length c0_0] 24 (0, 0)) (by (with_reducible repeat (first | refine blk_drewN ?_ _ | refine blk_drew ?_ | refine blk_alloc ?_ _)); exact BK101.out) hb); have n1_ := Aside0.mk (below_step (by repeat (first | (with_reducible first | exact HB.out | apply below_alloc | apply pw_below_drewN | apply below_drew1 | refine below_set ?_ GE101.out) | exact HB.out)) hb); clear BK101; clear HB; have BK101 := n0_; have HB := n1_; clear n0_ n1_; (try clear hb); (try clear hb2); (try clear hk); (try clear hi)))
  go_ret
  exact ⟨by first | rfl | (simp [errW_none, errW_some] <;> rfl) | (simp [*, errW_none, errW_some] <;> rfl), by repeat (first | (with_reducible first | exact HB.out | apply below_alloc | apply pw_below_drewN | apply below_drew1 | refine below_set ?_ GE101.out) | exact HB.out)⟩
 next =>
  rw [if_neg c3] at H
  have c3b0 : decide (t102 < 0) = false := yhy c3
  clear c3
  replace H := ydy.mp H
  obtain ⟨t103, A70, H⟩ := H
  replace H : ((spec_GluingNumber.f k t103).bind fun bt106 => ((laws_toTriangulation.f k l0_0).bind fun t108 => ((impl_GluingNumber.f k t108).bind fun bt112 => (if bt112.1 = bt106.1 then (laws_FnExactGluingNumber.j0 k (bt112.2 != bt106.2) l0_0 t108) else (laws_FnExactGluingNumber.j0 k true l0_0 t108))))) = some r := H
  have A7 := Aside0.mk A70
  clear A70
  replace H := ydy.mp H
  obtain ⟨⟨t106, t107⟩, A80, H⟩ := H
  replace H : ((laws_toTriangulation.f k l0_0).bind fun t108 => ((impl_GluingNumber.f k t108).bind fun bt112 => (if bt112.1 = t106 then (laws_FnExactGluingNumber.j0 k (bt112.2 != t107) l0_0 t108) else (laws_FnExactGluingNumber.j0 k true l0_0 t108)))) = some r := H
  have A8 := Aside0.mk A80
  clear A80
  replace H := ydy.mp H
  obtain ⟨t108, A90, H⟩ := H
  replace H : ((impl_GluingNumber.f k t108).bind fun bt112 => (if bt112.1 = t106 then (laws_FnExactGluingNumber.j0 k (bt112.2 != t107) l0_0 t108) else (laws_FnExactGluingNumber.j0 k true l0_0 t108))) = some r := H
  have A9 := Aside0.mk A90
  clear A90
  replace H := ydy.mp H
  obtain ⟨⟨t112, t113⟩, A100, H⟩ := H
  replace H : (if t112 = t106 then (laws_FnExactGluingNumber.j0 k (t113 != t107) l0_0 t108) else (laws_FnExactGluingNumber.j0 k true l0_0 t108)) = some r := H
  have A10 := Aside0.mk A100
  clear A100
  have HC11 := Aside0.mk H
  clear H
  go_enter Try.func3, Try.ntmps3
  go_upto_region 8 with (first | ((with_reducible refine gate_dst (N := 1) rfl ?_); refine box_event ?hg (N := 1) ?hd (cs := #[.slice A0_0 l0_0.length c0_0]) (t := 24) ?hr ?_; (case hd => rfl); (case hg => rfl); (case hr => first | (go_simp; done) | (go_simp; rfl)); intro gb101 hg w12 hbox hb; have n0_ := Aside0.mk (below_step (by repeat (first | (with_reducible first | exact HB.out | apply below_alloc | apply pw_below_drewN | apply below_drew1) | exact HB.out)) hb); have n1_ := Aside0.mk (hbox); have n2_ := Aside0.mk ((by rw [hg]; exact (below_size (by repeat (first | (with_reducible first | exact HB.out | apply below_alloc | apply pw_below_drewN | apply below_drew1) | exact HB.out))) : w.heap.size ≤ gb101)); have n3_ := Aside0.mk ((by rw [hg]; exact (below_size (by repeat (first | (with_reducible first | exact HB.out | apply below_alloc | apply pw_below_drewN | apply below_drew1) | exact HB.out))) : w.heap.size ≤ gb101)); clear HB; have HB := n0_; have BK101 := n1_; have GW101 := n2_; have GE101 := n3_; clear n0_ n1_ n2_ n3_; clear hb hbox hg; have hcz13_0 : w12.cell? ⟨gb101, 0, none⟩ = some (.slice A0_0 l0_0.length c0_0) := (blk_cell BK101.out 0).trans rfl; have hfz13_0 := blk_frozen BK101.out 0) | ((with_reducible refine gate_callee (f := 8) rfl ?_); refine goesL_ (some 11) rfl rfl Try.func8 (by kernel_rfl) rfl #[.agg #[.slice A0_0 l0_0.length c0_0], .int .i64 1048576] rfl (by (try simp only [yiy, yjy, yky]); first | done | rfl | (simp only [yly, ymy]; rfl)) ?_; (with_reducible refine (laws_szTriangulation.calls k _ _ l0_0 1048576 t102 _ ?side1 ?side2 A2.out).mono ?_); (case side1 => repeat (first | exact (Kd.C_below HR0_0.out HB.out) | (with_reducible refine Kd.C_alloc ?_ _) | (with_reducible refine Kd.C_drewN ?_ _) | (with_reducible refine Kd.C_drew ?_))); (case side2 => exact HC0_0.out); rintro e w14 ⟨rfl, hb⟩; refine ⟨_, rfl, ?_⟩; have n0_ := Aside0.mk (blk_below (g := gb101) (o := .cells #[.slice A0_0 l0_0.length c0_0] 24 (0, 0)) (by (with_reducible repeat (first | refine blk_drewN ?_ _ | refine blk_drew ?_ | refine blk_alloc ?_ _)); exact BK101.out) hb); have n1_ := Aside0.mk (below_step (by repeat (first | (with_reducible first | exact HB.out | apply below_alloc | apply pw_below_drewN | apply below_drew1 | refine below_set ?_ GE101.out) | exact HB.out)) hb); clear BK101; clear HB; have BK101 := n0_; have HB := n1_; clear n0_ n1_; (try clear hb); (try clear hb2); (try clear hk); (try clear hi); have hcz15_0 : w14.cell? ⟨gb101, 0, none⟩ = some (.slice A0_0 l0_0.length c0_0) := (blk_cell BK101.out 0).trans rfl; have hfz15_0 := blk_frozen BK101.out 0) | ((with_reducible refine gate_callee (f := 10) rfl ?_); refine goesL_ (some 16) rfl rfl Try.func10 (by kernel_rfl) rfl #[.agg #[.slice A0_0 l0_0.length c0_0]] rfl (by (try simp only [yiy, yjy, yky]); first | done | rfl | (simp only [yly, ymy]; rfl)) ?_; (with_reducible refine (laws_toTriangulation.calls k _ _ l0_0 t103 _ ?side1 ?side2 A7.out).mono ?_); (case side1 => repeat (first | exact (Kd.C_below HR0_0.out HB.out) | (with_reducible refine Kd.C_alloc ?_ _) | (with_reducible refine Kd.C_drewN ?_ _) | (with_reducible refine Kd.C_drew ?_))); (case side2 => exact HC0_0.out); rintro e w16 ⟨v104, rfl, ho0, hb⟩; refine ⟨_, rfl, ?_⟩; have n0_ := Aside0.mk (Kd.S_lower ho0 (below_size (by repeat (first | (with_reducible first | exact HB.out | apply below_alloc | apply pw_below_drewN | apply below_drew1 | refine below_set ?_ GE101.out) | exact HB.out)))); have n1_ := Aside0.mk (blk_below (g := gb101) (o := .cells #[.slice A0_0 l0_0.length c0_0] 24 (0, 0)) (by (with_reducible repeat (first | refine blk_drewN ?_ _ | refine blk_drew ?_ | refine blk_alloc ?_ _)); exact BK101.out) hb); have n2_ := Aside0.mk (below_step (by repeat (first | (with_reducible first | exact HB.out | apply below_alloc | apply pw_below_drewN | apply below_drew1 | refine below_set ?_ GE101.out) | exact HB.out)) hb); clear BK101; clear HB; have HO105 := n0_; have BK101 := n1_; have HB := n2_; clear n0_ n1_ n2_; (try clear hb); (try clear hb2); (try clear hk); (try clear hi); (try clear ho0); obtain ⟨Ao17, co17, eo17⟩ := Kd.S_slice HO105.out; subst eo17) | ((with_reducible refine gate_callee (f := 9) rfl ?_); refine goesL_ (some 17) rfl rfl Try.func9 (by kernel_rfl) rfl #[.agg #[.slice Ao17 t103.length co17]] rfl (by (try simp only [yiy, yjy, yky]); first | done | rfl | (simp only [yly, ymy]; rfl)) ?_; (with_reducible refine (spec_GluingNumber.calls k _ _ t103 t106 t107 _ ?side1 ?side2 A8.out).mono ?_); (case side1 => repeat (first | exact (Kd.S_reads' HO105.out).2.2 | (with_reducible refine Kd.C_alloc ?_ _) | (with_reducible refine Kd.C_drewN ?_ _) | (with_reducible refine Kd.C_drew ?_))); (case side2 => exact (Kd.S_reads' HO105.out).2.1); rintro e w18 ⟨rfl, hb⟩; refine ⟨_, rfl, ?_⟩; have n0_ := Aside0.mk (Kd.S_below (by (with_reducible repeat (first | apply Kd.S_alloc | apply Kd.S_drewN | apply Kd.S_drew)); exact HO105.out) hb); have n1_ := Aside0.mk (blk_below (g := gb101) (o := .cells #[.slice A0_0 l0_0.length c0_0] 24 (0, 0)) (by (with_reducible repeat (first | refine blk_drewN ?_ _ | refine blk_drew ?_ | refine blk_alloc ?_ _)); exact BK101.out) hb); have n2_ := Aside0.mk (below_step (by repeat (first | (with_reducible first | exact HB.out | apply below_alloc | apply pw_below_drewN | apply below_drew1 | refine below_set ?_ GE101.out) | exact HB.out)) hb); clear HO105; clear BK101; clear HB; have HO105 := n0_; have BK101 := n1_; have HB := n2_; clear n0_ n1_ n2_; (try clear hb); (try clear hb2); (try clear hk); (try clear hi); have hcz19_0 : w18.cell? ⟨gb101, 0, none⟩ = some (.slice A0_0 l0_0.length c0_0) := (blk_cell BK101.out 0).trans rfl; have hfz19_0 := blk_frozen BK101.out 0) | ((with_reducible refine gate_callee (f := 10) rfl ?_); refine goesL_ (some 21) rfl rfl Try.func10 (by kernel_rfl) rfl #[.agg #[.slice A0_0 l0_0.length c0_0]] rfl (by (try simp only [yiy, yjy, yky]); first | done | rfl | (simp only [yly, ymy]; rfl)) ?_; (with_reducible refine (laws_toTriangulation.calls k _ _ l0_0 t108 _ ?side1 ?side2 A9.out).mono ?_); (case side1 => repeat (first | exact (Kd.C_below HR0_0.out HB.out) | (with_reducible refine Kd.C_alloc ?_ _) | (with_reducible refine Kd.C_drewN ?_ _) | (with_reducible refine Kd.C_drew ?_))); (case side2 => exact HC0_0.out); rintro e w20 ⟨v109, rfl, ho0, hb⟩; refine ⟨_, rfl, ?_⟩; have n0_ := Aside0.mk (Kd.S_elder' (by (with_reducible repeat (first | apply Kd.S_alloc | apply Kd.S_drewN | apply Kd.S_drew)); exact HO105.out) (Kd.S_base ho0) hb); have n1_ := Aside0.mk (Kd.S_lower (Kd.S_new' ho0 (Kd.S_lt (by (with_reducible repeat (first | apply Kd.S_alloc | apply Kd.S_drewN | apply Kd.S_drew)); exact HO105.out))) (below_size (by repeat (first | (with_reducible first | exact HB.out | apply below_alloc | apply pw_below_drewN | apply below_drew1 | refine below_set ?_ GE101.out) | exact HB.out)))); have n2_ := Aside0.mk (blk_below (g := gb101) (o := .cells #[.slice A0_0 l0_0.length c0_0] 24 (0, 0)) (by (with_reducible repeat (first | refine blk_drewN ?_ _ | refine blk_drew ?_ | refine blk_alloc ?_ _)); exact BK101.out) hb); have n3_ := Aside0.mk (below_step (by repeat (first | (with_reducible first | exact HB.out | apply below_alloc | apply pw_below_drewN | apply below_drew1 | refine below_set ?_ GE101.out) | exact HB.out)) hb); clear HO105; clear BK101; clear HB; have HO105 := n0_; have HO110 := n1_; have BK101 := n2_; have HB := n3_; clear n0_ n1_ n2_ n3_; (try clear hb); (try clear hb2); (try clear hk); (try clear hi); (try clear ho0)) | ((with_reducible refine gate_dst (N := 6) rfl ?_); refine box_event ?hg (N := 6) ?hd (cs := #[.slice none 0 0]) (t := 30) ?hr ?_; (case hd => rfl); (case hg => rfl); (case hr => first | (go_simp; done) | (go_simp; rfl)); intro gb111 hg w21 hbox hb; have n0_ := Aside0.mk (Kd.S_below (by (with_reducible repeat (first | apply Kd.S_alloc | apply Kd.S_drewN | apply Kd.S_drew)); exact HO105.out) hb); have n1_ := Aside0.mk (Kd.S_below (by (with_reducible repeat (first | apply Kd.S_alloc | apply Kd.S_drewN | apply Kd.S_drew)); exact HO110.out) hb); have n2_ := Aside0.mk (blk_below (g := gb101) (o := .cells #[.slice A0_0 l0_0.length c0_0] 24 (0, 0)) (by (with_reducible repeat (first | refine blk_drewN ?_ _ | refine blk_drew ?_ | refine blk_alloc ?_ _)); exact BK101.out) hb); have n3_ := Aside0.mk (below_step (by repeat (first | (with_reducible first | exact HB.out | apply below_alloc | apply pw_below_drewN | apply below_drew1 | refine below_set ?_ GE101.out) | exact HB.out)) hb); have n4_ := Aside0.mk (hbox); have n5_ := Aside0.mk ((by rw [hg]; exact (below_size (by repeat (first | (with_reducible first | exact HB.out | apply below_alloc | apply pw_below_drewN | apply below_drew1 | refine below_set ?_ GE101.out) | exact HB.out))) : w.heap.size ≤ gb111)); have n6_ := Aside0.mk ((by rw [hg]; exact (below_size (by repeat (first | (with_reducible first | exact HB.out | apply below_alloc | apply pw_below_drewN | apply below_drew1 | refine below_set ?_ GE101.out) | exact HB.out))) : w.heap.size ≤ gb111)); have n7_ := Aside0.mk ((by rw [hg]; exact Nat.ne_of_lt (blk_lt (g := gb101) (o := .cells #[.slice A0_0 l0_0.length c0_0] 24 (0, 0)) (by (with_reducible repeat (first | refine blk_drewN ?_ _ | refine blk_drew ?_ | refine blk_alloc ?_ _)); exact BK101.out)) : gb101 ≠ gb111)); have n8_ := Aside0.mk ((by rw [hg]; exact Nat.ne_of_gt (blk_lt (g := gb101) (o := .cells #[.slice A0_0 l0_0.length c0_0] 24 (0, 0)) (by (with_reducible repeat (first | refine blk_drewN ?_ _ | refine blk_drew ?_ | refine blk_alloc ?_ _)); exact BK101.out)) : gb111 ≠ gb101)); clear HO105; clear HO110; clear BK101; clear HB; have HO105 := n0_; have HO110 := n1_; have BK101 := n2_; have HB := n3_; have BK111 := n4_; have GW111 := n5_; have GE111 := n6_; have NB101_111 := n7_; have NB111_101 := n8_; clear n0_ n1_ n2_ n3_ n4_ n5_ n6_ n7_ n8_; clear hb hbox hg; obtain ⟨Ao22, co22, eo22⟩ := Kd.S_slice HO110.out; subst eo22; have hnb23 := NB111_101.out; have hnc23 := NB101_111.out; have hcz24_0 : w21.cell? ⟨gb111, 0, none⟩ = some (.slice none 0 0) := (blk_cell BK111.out 0).trans rfl; have hfz24_0 := blk_frozen BK111.out 0) | ((with_reducible refine gate_callee (f := 11) rfl ?_); refine goesL_ (some 24) rfl rfl Try.func11 (by kernel_rfl) rfl #[.agg #[.slice Ao22 t108.length co22]] rfl (by (try simp only [yiy, yjy, yky]); first | done | rfl | (simp only [yly, ymy]; rfl)) ?_; (with_reducible refine (impl_GluingNumber.calls k _ _ t108 t112 t113 _ ?side1 ?side2 A10.out).mono ?_); (case side1 => refine (Kd.S_reads' (e := 60) (base := w.heap.size) (ok := fun k_ => (True ∧ some k_ ≠ (.slice Ao17 t103.length co17 : Value).ownBlock)) (n := t108.length) (c := co22) ?_).2.2; exact (by (with_reducible repeat (first | apply Kd.S_alloc | apply Kd.S_drewN | apply Kd.S_drew)); exact (Kd.S_mono (Kd.S_far (p := ⟨gb111, 0, none⟩) (Kd.S_types HO110.out BK111.out (by decide)) (fun _ hk => hk.2) (.slice Ao22 t108.length co22)) (fun _ h_ => h_.1)))); (case side2 => exact (Kd.S_reads' HO110.out).2.1); rintro e w25 ⟨rfl, hb⟩; refine ⟨_, rfl, ?_⟩; have n0_ := Aside0.mk (Kd.S_below (by (with_reducible repeat (first | apply Kd.S_alloc | apply Kd.S_drewN | apply Kd.S_drew)); exact (Kd.S_mono (Kd.S_far (p := ⟨gb111, 0, none⟩) (Kd.S_types HO105.out BK111.out (by decide)) (fun _ hk => hk.2) (.slice Ao22 t108.length co22)) (fun _ h_ => h_.1))) hb); have n1_ := Aside0.mk (Kd.S_below (by (with_reducible repeat (first | apply Kd.S_alloc | apply Kd.S_drewN | apply Kd.S_drew)); exact (Kd.S_mono (Kd.S_far (p := ⟨gb111, 0, none⟩) (Kd.S_types HO110.out BK111.out (by decide)) (fun _ hk => hk.2) (.slice Ao22 t108.length co22)) (fun _ h_ => h_.1))) hb); have n2_ := Aside0.mk (blk_below (g := gb101) (o := .cells #[.slice A0_0 l0_0.length c0_0] 24 (0, 0)) (by (with_reducible repeat (first | refine blk_drewN ?_ _ | refine blk_drew ?_ | refine blk_alloc ?_ _)); refine blk_far ?_ NB101_111.out _; (with_reducible repeat (first | refine blk_drewN ?_ _ | refine blk_drew ?_ | refine blk_alloc ?_ _)); exact BK101.out) hb); have n3_ := Aside0.mk (blk_below (g := gb111) (o := .cells #[.slice Ao22 t108.length co22] 30 (0, 0)) (by (with_reducible repeat (first | refine blk_drewN ?_ _ | refine blk_drew ?_ | refine blk_alloc ?_ _)); refine blk_put (cs := #[.slice none 0 0]) ?_ 0 _ rfl; (with_reducible repeat (first | refine blk_drewN ?_ _ | refine blk_drew ?_ | refine blk_alloc ?_ _)); exact BK111.out) hb); have n4_ := Aside0.mk (below_step (by repeat (first | (with_reducible first | exact HB.out | apply below_alloc | apply pw_below_drewN | apply below_drew1 | refine below_set ?_ GE101.out | refine below_set ?_ GE111.out) | exact HB.out)) hb); clear HO105; clear HO110; clear BK101; clear BK111; clear HB; have HO105 := n0_; have HO110 := n1_; have BK101 := n2_; have BK111 := n3_; have HB := n4_; clear n0_ n1_ n2_ n3_ n4_; (try clear hb); (try clear hb2); (try clear hk); (try clear hi)))
  (try simp only [Act.put, yay, yby, ycy])
  go_cut [34] (fun v34 wc => ∃ (kq : Nat) (x34_10 : Bool), v34 = .bool x34_10 ∧ Aside0 (laws_FnExactGluingNumber.j0 kq x34_10 l0_0 t108 = some r) ∧ Aside0 (kq ≤ k) ∧ Aside0 (Kd.S (Kd.slice 59 kFace) 60 wc w.heap.size (fun _ => True) (.slice Ao22 t108.length co22) t108) ∧ Aside0 (wc.heap[gb101]? = some (.cells #[(.slice A0_0 l0_0.length c0_0)] 24 (0, 0))) ∧ Aside0 (wc.heap[gb111]? = some (.cells #[(.slice Ao22 t108.length co22)] 30 (0, 0))) ∧ Aside0 (Below w.heap.size w wc))
  case first =>
   have H := HC11.out
   clear HC11
   by_cases c26 : t112 = t106
   rotate_left
   next =>
    rw [if_neg c26] at H
    have c26b0 : (t112 == t106) = false := beq_eq_false_iff_ne.mpr c26
    have c26b1 : (t112 != t106) = true := bne_iff_ne.mpr c26
    (first | rw [c26b0] | (simp only [i64_w, i32_w]; rw [c26b0]) | skip)
    have H' := Aside0.mk H
    clear H
    go_wp2
    go_meet
    case rel => exact ⟨_, (true), (by first | rfl | (simp; done) | (simp [*]; done)), H', ⟨by first | omega | exact yoy _⟩, ⟨by (with_reducible repeat (first | apply Kd.S_alloc | apply Kd.S_drewN | apply Kd.S_drew)); exact Kd.S_mono HO110.out (fun _ hk => trivial)⟩, ⟨by (with_reducible repeat (first | refine blk_drewN ?_ _ | refine blk_drew ?_ | refine blk_alloc ?_ _)); exact BK101.out⟩, ⟨by (with_reducible repeat (first | refine blk_drewN ?_ _ | refine blk_drew ?_ | refine blk_alloc ?_ _)); exact BK111.out⟩, ⟨by repeat (first | (with_reducible first | exact HB.out | apply below_alloc | apply pw_below_drewN | apply below_drew1 | refine below_set ?_ GE101.out | refine below_set ?_ GE111.out) | exact HB.out)⟩⟩
   rw [if_pos c26] at H
   have c26b0 : (t112 == t106) = true := beq_iff_eq.mpr c26
   have c26b1 : (t112 != t106) = false := bne_eq_false_iff_eq.mpr c26
   clear c26
   (first | rw [c26b0] | (simp only [i64_w, i32_w]; rw [c26b0]) | skip)
   have H' := Aside0.mk H
   clear H
   go_wp2
   go_meet
   case rel => exact ⟨_, ((t113 != t107)), (by first | rfl | (simp; done) | (simp [*]; done)), H', ⟨by first | omega | exact yoy _⟩, ⟨by (with_reducible repeat (first | apply Kd.S_alloc | apply Kd.S_drewN | apply Kd.S_drew)); exact Kd.S_mono HO110.out (fun _ hk => trivial)⟩, ⟨by (with_reducible repeat (first | refine blk_drewN ?_ _ | refine blk_drew ?_ | refine blk_alloc ?_ _)); exact BK101.out⟩, ⟨by (with_reducible repeat (first | refine blk_drewN ?_ _ | refine blk_drew ?_ | refine blk_alloc ?_ _)); exact BK111.out⟩, ⟨by repeat (first | (with_reducible first | exact HB.out | apply below_alloc | apply pw_below_drewN | apply below_drew1 | refine below_set ?_ GE101.out | refine below_set ?_ GE111.out) | exact HB.out)⟩⟩
  case rest =>
   clear HC11
   try clear c1
   try clear c2
   try clear p2
   try clear c3
   try clear c3b0
   try clear c8
   try clear c9
   try clear c10
   try clear c11
   try clear c23
   try clear c26
   try clear c26b0
   try clear c26b1
   try clear hcz13_0
   try clear hcz15_0
   try clear hcz19_0
   try clear hcz24_0
   try clear hcz5_0
   try clear hfz13_0
   try clear hfz15_0
   try clear hfz19_0
   try clear hfz24_0
   try clear hfz5_0
   obtain ⟨kq, x34_10, rfl, HA, HJ10, HO_112000, BK101, BK111, HB⟩ := hcut
   cases kq with
   | zero => exact absurd HA.out (by simp [laws_FnExactGluingNumber.j0])
   | succ kj10 =>
    have H := HA.out
    clear HA
    simp only [laws_FnExactGluingNumber.j0] at H
    by_cases c27 : x34_10 = true
    next =>
     subst c27
     have H1 : (some false) = some r := by rw [if_pos rfl] at H; exact H
     clear H
     have H := H1
     clear H1
     obtain rfl := yey H
     go_wp2
     go_ret
     exact ⟨by first | rfl | (simp [errW_none, errW_some] <;> rfl) | (simp [*, errW_none, errW_some] <;> rfl), by repeat (first | (with_reducible first | exact HB.out | apply below_alloc | apply pw_below_drewN | apply below_drew1 | refine below_set ?_ GE101.out | refine below_set ?_ GE111.out) | exact HB.out)⟩
    next =>
     replace c27 := Bool.eq_false_iff.mpr c27
     subst c27
     have H1 : ((laws_toTriangulation.f kj10 l0_0).bind fun t114 => ((laws_eqTriangulation.f kj10 t108 t114).bind fun t117 => (if t117 = true then (some true) else (some false)))) = some r := by rw [if_neg (show ¬ (false = true) by decide)] at H; exact H
     clear H
     have H := H1
     clear H1
     replace H := ydy.mp H
     obtain ⟨t114, A280, H⟩ := H
     replace H : ((laws_eqTriangulation.f kj10 t108 t114).bind fun t117 => (if t117 = true then (some true) else (some false))) = some r := H
     have A28 := Aside0.mk A280
     clear A280
     replace H := ydy.mp H
     obtain ⟨t117, A290, H⟩ := H
     replace H : (if t117 = true then (some true) else (some false)) = some r := H
     have A29 := Aside0.mk A290
     clear A290
     by_cases c30 : t117 = true
     next =>
      subst c30
      have H1 : (some true) = some r := by rw [if_pos rfl] at H; exact H
      clear H
      have H := H1
      clear H1
      obtain rfl := yey H
      try go_wp2
      have n0_ := Aside0.mk (Kd.S_drew HO_112000.out)
      have n1_ := Aside0.mk (blk_drew BK101.out)
      have n2_ := Aside0.mk (blk_drew BK111.out)
      have n3_ := Aside0.mk (below_drew1 HB.out)
      clear HO_112000
      clear BK101
      clear BK111
      clear HB
      have HO_112000 := n0_
      have BK101 := n1_
      have BK111 := n2_
      have HB := n3_
      clear n0_ n1_ n2_ n3_
      refine start_ (n := 5) (S := fun w' => w'.cell? ⟨gb111, 0, none⟩ = some (.slice Ao22 t108.length co22) ∧ w'.cell? ⟨gb101, 0, none⟩ = some (.slice A0_0 l0_0.length c0_0)) (ds := []) #[false, false, false, false, false] (by kernel_rfl) rfl rfl ⟨(blk_cell BK111.out 0).trans rfl, (blk_cell BK101.out 0).trans rfl⟩ (fun hHeld => ?_)
      generalize wc.drew = w31 at HO_112000 BK101 BK111 HB hHeld ⊢
      refine take_ (i := 0) (N := some 35) (v := ?_) (a' := ?_) #[true, false, false, false, false] rfl rfl (by kernel_rfl) (fun _ _ _ h => h) (Or.inl ⟨by rfl, ?_⟩) hHeld ?_ ?_
      rotate_left
      next =>
       rintro w' ⟨s0, s1⟩
       go_simp
       with_reducible rfl
      rotate_left
      next =>
       simp only [Act.put, yay, yby, ycy, i64_w, i32_w]
       rfl
      refine take_ (i := 1) (N := some 36) (v := ?_) (a' := ?_) #[true, true, false, false, false] rfl rfl (by kernel_rfl) (fun _ _ _ h => h) (Or.inl ⟨by rfl, ?_⟩) hHeld ?_ ?_
      rotate_left
      next =>
       rintro w' ⟨s0, s1⟩
       go_simp
       with_reducible rfl
      rotate_left
      next =>
       simp only [Act.put, yay, yby, ycy, i64_w, i32_w]
       rfl
      refine one_ (i := 2) (N := some 37) #[true, true, true, false, false] rfl rfl (by kernel_rfl) (by decide) (fun K hK => ?_)
      refine goes_ Try.func10 (by kernel_rfl) rfl #[.agg #[.slice A0_0 l0_0.length c0_0]] (by rfl) rfl rfl (by (try simp only [yiy, yjy, yky]); first | done | rfl | (simp only [yly, ymy]; rfl)) ?_
      with_reducible refine (laws_toTriangulation.calls kj10 _ _ l0_0 t114 _ ?side1 ?side2 A28.out).mono ?_
      (case side1 => repeat (first | exact (Kd.C_below HR0_0.out HB.out) | (with_reducible refine Kd.C_alloc ?_ _) | (with_reducible refine Kd.C_drewN ?_ _) | (with_reducible refine Kd.C_drew ?_)))
      (case side2 => exact HC0_0.out)
      rintro e w32 ⟨v115, rfl, ho0, hb⟩
      refine ⟨_, rfl, ?_⟩
      have n0_ := Aside0.mk (Kd.S_elder' (by (with_reducible repeat (first | apply Kd.S_alloc | apply Kd.S_drewN | apply Kd.S_drew)); exact HO_112000.out) (Kd.S_base ho0) hb)
      have n1_ := Aside0.mk (Kd.S_lower (Kd.S_new' ho0 (Kd.S_lt (by (with_reducible repeat (first | apply Kd.S_alloc | apply Kd.S_drewN | apply Kd.S_drew)); exact HO_112000.out))) (below_size (by repeat (first | (with_reducible first | exact HB.out | apply below_alloc | apply pw_below_drewN | apply below_drew1 | refine below_set ?_ GE101.out | refine below_set ?_ GE111.out) | exact HB.out))))
      have n2_ := Aside0.mk (blk_below (g := gb101) (o := .cells #[.slice A0_0 l0_0.length c0_0] 24 (0, 0)) (by (with_reducible repeat (first | refine blk_drewN ?_ _ | refine blk_drew ?_ | refine blk_alloc ?_ _)); exact BK101.out) hb)
      have n3_ := Aside0.mk (blk_below (g := gb111) (o := .cells #[.slice Ao22 t108.length co22] 30 (0, 0)) (by (with_reducible repeat (first | refine blk_drewN ?_ _ | refine blk_drew ?_ | refine blk_alloc ?_ _)); exact BK111.out) hb)
      have n4_ := Aside0.mk (below_step (by repeat (first | (with_reducible first | exact HB.out | apply below_alloc | apply pw_below_drewN | apply below_drew1 | refine below_set ?_ GE101.out | refine below_set ?_ GE111.out) | exact HB.out)) hb)
      clear HO_112000
      clear BK101
      clear BK111
      clear HB
      have HO_112000 := n0_
      have HO116 := n1_
      have BK101 := n2_
      have BK111 := n3_
      have HB := n4_
      clear n0_ n1_ n2_ n3_ n4_
      (try clear hb)
      (try clear hb2)
      (try clear hk)
      (try clear hi)
      (try clear ho0)
      obtain ⟨Ao33, co33, eo33⟩ := Kd.S_slice HO116.out
      (first | subst eo33 | (injection eo33 with f1_ f2_ f3_; have f4_ := f1_.symm; have f5_ := f3_.symm; clear f1_ f2_ f3_; subst f4_; subst f5_))
      refine hK.out _ _ ⟨(blk_cell BK111.out 0).trans rfl, (blk_cell BK101.out 0).trans rfl⟩ (fun hHeld => ?_)
      clear hK K
      refine norm_ (a' := ?_) ?_ ?_
      rotate_left
      next =>
       show Act.put _ (some 37) _ = _
       simp only [Act.put, yay, yby, ycy, i64_w, i32_w]
       rfl
      refine one_ (i := 3) (N := some 38) #[true, true, true, true, false] rfl rfl (by kernel_rfl) (by decide) (fun K hK => ?_)
      refine goes_ Try.func12 (by kernel_rfl) rfl #[.agg #[.slice Ao22 t108.length co22], .agg #[.slice Ao33 t114.length co33]] (by rfl) rfl rfl (by (try simp only [yiy, yjy, yky]); first | done | rfl | (simp only [yly, ymy]; rfl)) ?_
      with_reducible refine (laws_eqTriangulation.calls kj10 _ _ t108 _ _ t114 true _ ?side1 ?side2 ?side3 ?side4 A29.out).mono ?_
      (case side1 => repeat (first | exact (Kd.S_reads' HO_112000.out).2.2 | (with_reducible refine Kd.C_alloc ?_ _) | (with_reducible refine Kd.C_drewN ?_ _) | (with_reducible refine Kd.C_drew ?_)))
      (case side2 => exact (Kd.S_reads' HO_112000.out).2.1)
      (case side3 => repeat (first | exact (Kd.S_reads' HO116.out).2.2 | (with_reducible refine Kd.C_alloc ?_ _) | (with_reducible refine Kd.C_drewN ?_ _) | (with_reducible refine Kd.C_drew ?_)))
      (case side4 => exact (Kd.S_reads' HO116.out).2.1)
      rintro e w34 ⟨rfl, hb⟩
      refine ⟨_, rfl, ?_⟩
      have n0_ := Aside0.mk (Kd.S_below (by (with_reducible repeat (first | apply Kd.S_alloc | apply Kd.S_drewN | apply Kd.S_drew)); exact HO_112000.out) hb)
      have n1_ := Aside0.mk (Kd.S_below (by (with_reducible repeat (first | apply Kd.S_alloc | apply Kd.S_drewN | apply Kd.S_drew)); exact HO116.out) hb)
      have n2_ := Aside0.mk (blk_below (g := gb101) (o := .cells #[.slice A0_0 l0_0.length c0_0] 24 (0, 0)) (by (with_reducible repeat (first | refine blk_drewN ?_ _ | refine blk_drew ?_ | refine blk_alloc ?_ _)); exact BK101.out) hb)
      have n3_ := Aside0.mk (blk_below (g := gb111) (o := .cells #[.slice Ao22 t108.length co22] 30 (0, 0)) (by (with_reducible repeat (first | refine blk_drewN ?_ _ | refine blk_drew ?_ | refine blk_alloc ?_ _)); exact BK111.out) hb)
      have n4_ := Aside0.mk (below_step (by repeat (first | (with_reducible first | exact HB.out | apply below_alloc | apply pw_below_drewN | apply below_drew1 | refine below_set ?_ GE101.out | refine below_set ?_ GE111.out) | exact HB.out)) hb)
      clear HO_112000
      clear HO116
      clear BK101
      clear BK111
      clear HB
      have HO_112000 := n0_
      have HO116 := n1_
      have BK101 := n2_
      have BK111 := n3_
      have HB := n4_
      clear n0_ n1_ n2_ n3_ n4_
      (try clear hb)
      (try clear hb2)
      (try clear hk)
      (try clear hi)
      refine hK.out _ _ ⟨(blk_cell BK111.out 0).trans rfl, (blk_cell BK101.out 0).trans rfl⟩ (fun hHeld => ?_)
      clear hK K
      refine norm_ (a' := ?_) ?_ ?_
      rotate_left
      next =>
       show Act.put _ (some 38) _ = _
       simp only [Act.put, yay, yby, ycy, i64_w, i32_w]
       rfl
      refine pure_ (i := 4) (N := some 39) (v := ?_) (a' := ?_) #[true, true, true, true, true] rfl rfl (by kernel_rfl) (fun _ _ _ h => h) (Or.inl ⟨by rfl, ?_⟩) ?_ ?_
      rotate_left
      next =>
       intro w'
       go_simp
       with_reducible rfl
      rotate_left
      next =>
       simp only [Act.put, yay, yby, ycy, i64_w, i32_w]
       rfl
      refine done_ (by kernel_rfl) ?_
      try go_wp2
      go_ret
      exact ⟨by first | rfl | (simp [errW_none, errW_some] <;> rfl) | (simp [*, errW_none, errW_some] <;> rfl), by repeat (first | (with_reducible first | exact HB.out | apply below_alloc | apply pw_below_drewN | apply below_drew1 | refine below_set ?_ GE101.out | refine below_set ?_ GE111.out) | exact HB.out)⟩
     next =>
      replace c30 := Bool.eq_false_iff.mpr c30
      subst c30
      have H1 : (some false) = some r := by rw [if_neg (show ¬ (false = true) by decide)] at H; exact H
      clear H
      have H := H1
      clear H1
      obtain rfl := yey H
      try go_wp2
      have n0_ := Aside0.mk (Kd.S_drew HO_112000.out)
      have n1_ := Aside0.mk (blk_drew BK101.out)
      have n2_ := Aside0.mk (blk_drew BK111.out)
      have n3_ := Aside0.mk (below_drew1 HB.out)
      clear HO_112000
      clear BK101
      clear BK111
      clear HB
      have HO_112000 := n0_
      have BK101 := n1_
      have BK111 := n2_
      have HB := n3_
      clear n0_ n1_ n2_ n3_
      refine start_ (n := 5) (S := fun w' => w'.cell? ⟨gb111, 0, none⟩ = some (.slice Ao22 t108.length co22) ∧ w'.cell? ⟨gb101, 0, none⟩ = some (.slice A0_0 l0_0.length c0_0)) (ds := []) #[false, false, false, false, false] (by kernel_rfl) rfl rfl ⟨(blk_cell BK111.out 0).trans rfl, (blk_cell BK101.out 0).trans rfl⟩ (fun hHeld => ?_)
      generalize wc.drew = w35 at HO_112000 BK101 BK111 HB hHeld ⊢
      refine take_ (i := 0) (N := some 35) (v := ?_) (a' := ?_) #[true, false, false, false, false] rfl rfl (by kernel_rfl) (fun _ _ _ h => h) (Or.inl ⟨by rfl, ?_⟩) hHeld ?_ ?_
      rotate_left
      next =>
       rintro w' ⟨s0, s1⟩
       go_simp
       with_reducible rfl
      rotate_left
      next =>
       simp only [Act.put, yay, yby, ycy, i64_w, i32_w]
       rfl
      refine take_ (i := 1) (N := some 36) (v := ?_) (a' := ?_) #[true, true, false, false, false] rfl rfl (by kernel_rfl) (fun _ _ _ h => h) (Or.inl ⟨by rfl, ?_⟩) hHeld ?_ ?_
      rotate_left
      next =>
       rintro w' ⟨s0, s1⟩
       go_simp
       with_reducible rfl
      rotate_left
      next =>
       simp only [Act.put, yay, yby, ycy, i64_w, i32_w]
       rfl
      refine one_ (i := 2) (N := some 37) #[true, true, true, false, false] rfl rfl (by kernel_rfl) (by decide) (fun K hK => ?_)
      refine goes_ Try.func10 (by kernel_rfl) rfl #[.agg #[.slice A0_0 l0_0.length c0_0]] (by rfl) rfl rfl (by (try simp only [yiy, yjy, yky]); first | done | rfl | (simp only [yly, ymy]; rfl)) ?_
      with_reducible refine (laws_toTriangulation.calls kj10 _ _ l0_0 t114 _ ?side1 ?side2 A28.out).mono ?_
      (case side1 => repeat (first | exact (Kd.C_below HR0_0.out HB.out) | (with_reducible refine Kd.C_alloc ?_ _) | (with_reducible refine Kd.C_drewN ?_ _) | (with_reducible refine Kd.C_drew ?_)))
      (case side2 => exact HC0_0.out)
      rintro e w36 ⟨v115, rfl, ho0, hb⟩
      refine ⟨_, rfl, ?_⟩
      have n0_ := Aside0.mk (Kd.S_elder' (by (with_reducible repeat (first | apply Kd.S_alloc | apply Kd.S_drewN | apply Kd.S_drew)); exact HO_112000.out) (Kd.S_base ho0) hb)
      have n1_ := Aside0.mk (Kd.S_lower (Kd.S_new' ho0 (Kd.S_lt (by (with_reducible repeat (first | apply Kd.S_alloc | apply Kd.S_drewN | apply Kd.S_drew)); exact HO_112000.out))) (below_size (by repeat (first | (with_reducible first | exact HB.out | apply below_alloc | apply pw_below_drewN | apply below_drew1 | refine below_set ?_ GE101.out | refine below_set ?_ GE111.out) | exact HB.out))))
      have n2_ := Aside0.mk (blk_below (g := gb101) (o := .cells #[.slice A0_0 l0_0.length c0_0] 24 (0, 0)) (by (with_reducible repeat (first | refine blk_drewN ?_ _ | refine blk_drew ?_ | refine blk_alloc ?_ _)); exact BK101.out) hb)
      have n3_ := Aside0.mk (blk_below (g := gb111) (o := .cells #[.slice Ao22 t108.length co22] 30 (0, 0)) (by (with_reducible repeat (first | refine blk_drewN ?_ _ | refine blk_drew ?_ | refine blk_alloc ?_ _)); exact BK111.out) hb)
      have n4_ := Aside0.mk (below_step (by repeat (first | (with_reducible first | exact HB.out | apply below_alloc | apply pw_below_drewN | apply below_drew1 | refine below_set ?_ GE101.out | refine below_set ?_ GE111.out) | exact HB.out)) hb)
      clear HO_112000
      clear BK101
      clear BK111
      clear HB
      have HO_112000 := n0_
      have HO116 := n1_
      have BK101 := n2_
      have BK111 := n3_
      have HB := n4_
      clear n0_ n1_ n2_ n3_ n4_
      (try clear hb)
      (try clear hb2)
      (try clear hk)
      (try clear hi)
      (try clear ho0)
      obtain ⟨Ao37, co37, eo37⟩ := Kd.S_slice HO116.out
      (first | subst eo37 | (injection eo37 with f1_ f2_ f3_; have f4_ := f1_.symm; have f5_ := f3_.symm; clear f1_ f2_ f3_; subst f4_; subst f5_))
      refine hK.out _ _ ⟨(blk_cell BK111.out 0).trans rfl, (blk_cell BK101.out 0).trans rfl⟩ (fun hHeld => ?_)
      clear hK K
      refine norm_ (a' := ?_) ?_ ?_
      rotate_left
      next =>
       show Act.put _ (some 37) _ = _
       simp only [Act.put, yay, yby, ycy, i64_w, i32_w]
       rfl
      refine one_ (i := 3) (N := some 38) #[true, true, true, true, false] rfl rfl (by kernel_rfl) (by decide) (fun K hK => ?_)
      refine goes_ Try.func12 (by kernel_rfl) rfl #[.agg #[.slice Ao22 t108.length co22], .agg #[.slice Ao37 t114.length co37]] (by rfl) rfl rfl (by (try simp only [yiy, yjy, yky]); first | done | rfl | (simp only [yly, ymy]; rfl)) ?_
      with_reducible refine (laws_eqTriangulation.calls kj10 _ _ t108 _ _ t114 false _ ?side1 ?side2 ?side3 ?side4 A29.out).mono ?_
      (case side1 => repeat (first | exact (Kd.S_reads' HO_112000.out).2.2 | (with_reducible refine Kd.C_alloc ?_ _) | (with_reducible refine Kd.C_drewN ?_ _) | (with_reducible refine Kd.C_drew ?_)))
      (case side2 => exact (Kd.S_reads' HO_112000.out).2.1)
      (case side3 => repeat (first | exact (Kd.S_reads' HO116.out).2.2 | (with_reducible refine Kd.C_alloc ?_ _) | (with_reducible refine Kd.C_drewN ?_ _) | (with_reducible refine Kd.C_drew ?_)))
      (case side4 => exact (Kd.S_reads' HO116.out).2.1)
      rintro e w38 ⟨rfl, hb⟩
      refine ⟨_, rfl, ?_⟩
      have n0_ := Aside0.mk (Kd.S_below (by (with_reducible repeat (first | apply Kd.S_alloc | apply Kd.S_drewN | apply Kd.S_drew)); exact HO_112000.out) hb)
      have n1_ := Aside0.mk (Kd.S_below (by (with_reducible repeat (first | apply Kd.S_alloc | apply Kd.S_drewN | apply Kd.S_drew)); exact HO116.out) hb)
      have n2_ := Aside0.mk (blk_below (g := gb101) (o := .cells #[.slice A0_0 l0_0.length c0_0] 24 (0, 0)) (by (with_reducible repeat (first | refine blk_drewN ?_ _ | refine blk_drew ?_ | refine blk_alloc ?_ _)); exact BK101.out) hb)
      have n3_ := Aside0.mk (blk_below (g := gb111) (o := .cells #[.slice Ao22 t108.length co22] 30 (0, 0)) (by (with_reducible repeat (first | refine blk_drewN ?_ _ | refine blk_drew ?_ | refine blk_alloc ?_ _)); exact BK111.out) hb)
      have n4_ := Aside0.mk (below_step (by repeat (first | (with_reducible first | exact HB.out | apply below_alloc | apply pw_below_drewN | apply below_drew1 | refine below_set ?_ GE101.out | refine below_set ?_ GE111.out) | exact HB.out)) hb)
      clear HO_112000
      clear HO116
      clear BK101
      clear BK111
      clear HB
      have HO_112000 := n0_
      have HO116 := n1_
      have BK101 := n2_
      have BK111 := n3_
      have HB := n4_
      clear n0_ n1_ n2_ n3_ n4_
      (try clear hb)
      (try clear hb2)
      (try clear hk)
      (try clear hi)
      refine hK.out _ _ ⟨(blk_cell BK111.out 0).trans rfl, (blk_cell BK101.out 0).trans rfl⟩ (fun hHeld => ?_)
      clear hK K
      refine norm_ (a' := ?_) ?_ ?_
      rotate_left
      next =>
       show Act.put _ (some 38) _ = _
       simp only [Act.put, yay, yby, ycy, i64_w, i32_w]
       rfl
      refine pure_ (i := 4) (N := some 39) (v := ?_) (a' := ?_) #[true, true, true, true, true] rfl rfl (by kernel_rfl) (fun _ _ _ h => h) (Or.inl ⟨by rfl, ?_⟩) ?_ ?_
      rotate_left
      next =>
       intro w'
       go_simp
       with_reducible rfl
      rotate_left
      next =>
       simp only [Act.put, yay, yby, ycy, i64_w, i32_w]
       rfl
      refine done_ (by kernel_rfl) ?_
      try go_wp2
      go_ret
      exact ⟨by first | rfl | (simp [errW_none, errW_some] <;> rfl) | (simp [*, errW_none, errW_some] <;> rfl), by repeat (first | (with_reducible first | exact HB.out | apply below_alloc | apply pw_below_drewN | apply below_drew1 | refine below_set ?_ GE101.out | refine below_set ?_ GE111.out) | exact HB.out)⟩
end Go.Proofs.Ytfnopcbicceeaaa.P
namespace Go.Proofs.Ytfnopcbicceeaaa.Lib
set_option linter.unusedVariables false
open Go.RowKit Go.Proofs.YtfnopcbicceeaaaW.PrintWords
/-- A loop comes to g of its first state: at each state it ends with g, or goes on at a smaller state of the same g. -/
theorem ev_loop {σ ρ : Type} (L : Nat → σ → Option ρ) (I : σ → Prop) (m : σ → Nat) (g : σ → ρ)
    (h : ∀ s, I s → (∃ K, ∀ k, K ≤ k → L (k + 1) s = some (g s)) ∨ (∃ s' K, I s' ∧ m s' < m s ∧ g s' = g s ∧ ∀ k, K ≤ k → L (k + 1) s = L k s')) :
    ∀ s, I s → Ev (fun k => L k s) (g s) := by
  have key : ∀ (n : Nat) (s : σ), m s < n → I s → Ev (fun k => L k s) (g s) := by
    intro n
    induction n with
    | zero => intro s hs; omega
    | succ n ih =>
      intro s hs hi
      rcases h s hi with ⟨K, hK⟩ | ⟨s', K, hi', hm, hg, hK⟩
      · refine ⟨K + 1, fun k hk => ?_⟩
        obtain ⟨j, rfl⟩ : ∃ j, k = j + 1 := ⟨k - 1, by omega⟩
        exact hK j (by omega)
      · obtain ⟨K', hK'⟩ := ih s' (by omega) hi'
        refine ⟨max K K' + 1, fun k hk => ?_⟩
        obtain ⟨j, rfl⟩ : ∃ j, k = j + 1 := ⟨k - 1, by omega⟩
        show L (j + 1) s = some (g s)
        rw [hK j (by omega), ← hg]
        exact hK' j (by omega)
  intro s hi
  exact key (m s + 1) s (by omega) hi
/-- The same, where a round asks for no number of rounds. -/
theorem ev_loop0 {σ ρ : Type} (L : Nat → σ → Option ρ) (I : σ → Prop) (m : σ → Nat) (g : σ → ρ)
    (h : ∀ s, I s → (∀ k, L (k + 1) s = some (g s)) ∨ (∃ s', I s' ∧ m s' < m s ∧ g s' = g s ∧ ∀ k, L (k + 1) s = L k s')) :
    ∀ s, I s → Ev (fun k => L k s) (g s) :=
  ev_loop L I m g fun s hi => by
    rcases h s hi with h1 | ⟨s', h1, h2, h3, h4⟩
    · exact .inl ⟨0, fun k _ => h1 k⟩
    · exact .inr ⟨s', 0, h1, h2, h3, fun k _ => h4 k⟩
theorem wrap_id {x : Int} (h0 : -9223372036854775808 ≤ x) (h1 : x ≤ 9223372036854775807) : wrap64 x = x := by
  unfold wrap64; omega
theorem wrap_succ {n : Nat} (h : n ≤ 4611686018427387904) : wrap64 ((n : Int) + 1) = ((n + 1 : Nat) : Int) := by
  rw [wrap_id (by omega) (by omega)]; rfl
theorem rd_nat (xs : List Int) (n : Nat) : rd xs (n : Int) = xs.getD n 0 := by simp [rd]
theorem ev_neg {α : Type} {c : Prop} [Decidable c] {f g : Nat → Option α} {r : α} (h : ¬ c) (k : Ev g r) : Ev (fun n => if c then f n else g n) r := Ev.congr (fun _ => if_neg h) k
theorem ev_pos {α : Type} {c : Prop} [Decidable c] {f g : Nat → Option α} {r : α} (h : c) (k : Ev f r) : Ev (fun n => if c then f n else g n) r := Ev.congr (fun _ => if_pos h) k
theorem ev_some {α : Type} {r r' : α} (h : r = r') : Ev (fun _ => some r) r' := h ▸ Ev.now r
theorem ev_const {α : Type} {o : Option α} {r : α} (h : o = some r) : Ev (fun _ => o) r := ⟨0, fun _ _ => h⟩
theorem ev_const' {α : Type} {g : Nat → Option α} {r : α} (h : ∀ k, g k = some r) : Ev g r := ⟨0, fun k _ => h k⟩
/-- A function whose first step takes one round. -/
theorem ev_step {α : Type} {g f : Nat → Option α} {r : α} (h : ∀ k, g (k + 1) = f k) (k : Ev f r) : Ev g r := Ev.step h k
theorem idxO_any {α : Type} {f : α → Option Bool} {p : α → Bool} : ∀ (i : Nat) (l : List α), (∀ x ∈ l, f x = some (p x)) → ∃ r, idxO f i l = some r ∧ decide (0 ≤ r) = l.any p
  | i, [], _ => ⟨-1, rfl, rfl⟩
  | i, x :: xs, h => by
    rw [idxO_cons, h x (List.mem_cons_self ..), yfy]
    cases hp : p x with
    | true => exact ⟨i, by rw [if_pos rfl], by simp [hp]⟩
    | false =>
      obtain ⟨r, h1, h2⟩ := idxO_any (i + 1) xs (fun y hy => h y (List.mem_cons_of_mem _ hy))
      exact ⟨r, by rw [if_neg (by simp)]; exact h1, by rw [h2]; simp [hp]⟩
theorem contO {α : Type} {f : α → Option Bool} {p : α → Bool} (l : List α) (h : ∀ x ∈ l, f x = some (p x)) : (idxO f 0 l).bind (fun i => some (decide (0 ≤ i))) = some (l.any p) := by
  obtain ⟨r, h1, h2⟩ := idxO_any 0 l h
  rw [h1, yfy, h2]
/-- n numbers from a on. -/
def upFrom (a : Int) : Nat → List Int
  | 0 => []
  | n + 1 => a :: upFrom (a + 1) n
theorem upFrom_length (a : Int) (n : Nat) : (upFrom a n).length = n := by
  induction n generalizing a with
  | zero => rfl
  | succ n ih => simp [upFrom, ih]
end Go.Proofs.Ytfnopcbicceeaaa.Lib
namespace Go.Proofs.Ytfnopcbicceeaaa.P
open Go.RowKit Go.Proofs.YtfnopcbicceeaaaW.PrintWords Go.Proofs.Ytfnopcbicceeaaa.Lib
set_option linter.unusedVariables false
theorem inRange_eq (a b c : Int) : impl_inRange.f a b c = some (decide (b ≤ a) && decide (a ≤ c)) := by
  unfold impl_inRange.f
  by_cases h : b ≤ a <;> simp [h]
theorem l07In_eq (a b c : Int) : spec_l07In.f a b c = some (decide (b ≤ a) && decide (a ≤ c)) := by
  unfold spec_l07In.f
  by_cases h : b ≤ a <;> simp [h]
theorem l06Valid_eq (a : Int) : spec_l06Valid.f a = some (decide (0 ≤ a) && decide (a ≤ 23)) := by
  unfold spec_l06Valid.f
  by_cases h : 0 ≤ a
  · rw [if_pos h]; simp [h]; omega
  · rw [if_neg h]; simp [h]
theorem isPerm_eq (a : Int) : impl_isPerm.f a = some (decide (0 ≤ a) && decide (a ≤ 23)) := by
  unfold impl_isPerm.f; rw [inRange_eq]; rfl
/-- A number that is the index of a permutation. -/
theorem fin_of {p : Int} (h0 : 0 ≤ p) (h1 : p ≤ 23) : ∃ m : Fin 24, p = (m.val : Int) := ⟨⟨p.toNat, by omega⟩, by simp; omega⟩
theorem fin4_of {f : Int} (h0 : 0 ≤ f) (h1 : f ≤ 3) : ∃ m : Fin 4, f = (m.val : Int) := ⟨⟨f.toNat, by omega⟩, by simp; omega⟩
theorem l06Images_ev {p : Int} (h0 : 0 ≤ p) (h1 : p ≤ 23) : Ev (fun k => spec_l06Images.f k p) (permL p) := by
  obtain ⟨m, rfl⟩ := fin_of h0 h1
  have key : ∀ m : Fin 24, spec_l06Images.f 5 (m.val : Int) = some (permL (m.val : Int)) := by decide +kernel
  exact Ev.of (fun k => spec_l06Images.mono _ k) (key m)
theorem permL_len (p : Int) : (permL p).length = 4 := rfl
theorem permL_sm {p f : Int} (h0 : 0 ≤ p) (h1 : p ≤ 23) (hf0 : 0 ≤ f) (hf1 : f ≤ 3) : 0 ≤ rd (permL p) f ∧ rd (permL p) f ≤ 3 := by
  obtain ⟨a, b, c, d⟩ := permAt_sm p h0 h1
  exact rd_four_sm a b c d f hf0 hf1
theorem l06At_ev {p f : Int} (h0 : 0 ≤ p) (h1 : p ≤ 23) (hf0 : 0 ≤ f) (hf1 : f ≤ 3) : Ev (fun k => spec_l06At.f k p f) (rd (permL p) f) := by
  refine Ev.bind (l06Images_ev h0 h1) ?_
  exact ev_pos hf0 (ev_pos (by rw [permL_len]; omega) (Ev.now _))
theorem l06Back_ev {p : Int} (h0 : 0 ≤ p) (h1 : p ≤ 23) : Ev (fun k => spec_l06Back.f k p) (invP p) := by
  obtain ⟨m, rfl⟩ := fin_of h0 h1
  have key : ∀ m : Fin 24, spec_l06Back.f 40 (m.val : Int) = some (invP (m.val : Int)) := by decide +kernel
  exact Ev.of (fun k => spec_l06Back.mono _ k) (key m)
theorem target_eq {q p f : Int} (h0 : 0 ≤ p) (h1 : p ≤ 23) (hf0 : 0 ≤ f) (hf1 : f ≤ 3) : impl_Face_target.f q p f = some (rd (permL p) f) := if_pos ⟨h0, h1, hf0, hf1⟩
theorem partner_eq {q p a : Int} (h0 : 0 ≤ p) (h1 : p ≤ 23) : impl_Face_partner.f q p a = some (a, invP p) := by
  unfold impl_Face_partner.f impl_invert.f
  rw [if_pos ⟨h0, h1⟩]; rfl
abbrev Tri := List (List SFace)
/-- No list of t is longer than a million. -/
def Small (t : Tri) : Prop := t.length ≤ 1048576 ∧ ∀ r ∈ t, r.length ≤ 1048576
def SmallL (t : List (List SLawFace)) : Prop := t.length ≤ 1048576 ∧ ∀ r ∈ t, r.length ≤ 1048576
def Fits (t : List (List SLawFace)) : Prop := t.length ≤ 9223372036854775807 ∧ ∀ r ∈ t, r.length ≤ 9223372036854775807
theorem rd_LLawFace_lt (t : List (List SLawFace)) (n : Nat) (h : n < t.length) : rd_LLawFace t (n : Int) = t[n] := by simp [rd_LLawFace, h]
theorem rd_LFace_lt (t : Tri) (n : Nat) (h : n < t.length) : rd_LFace t (n : Int) = t[n] := by simp [rd_LFace, h]
theorem rd_LawFace_lt (t : List SLawFace) (n : Nat) (h : n < t.length) : rd_LawFace t (n : Int) = t[n] := by simp [rd_LawFace, h]
theorem szFaceS_eq (r : List SLawFace) (a : Int) (h0 : 0 ≤ a) (h1 : a ≤ 1048576) (h : r.length ≤ 9223372036854775807) : laws_szFaceS.f r a = some (if a - r.length < 0 then -1 else a - r.length) := by
  unfold laws_szFaceS.f
  rw [wrap_id (by omega) (by omega)]
  split <;> rfl
theorem szFaceSS_ev (t : List (List SLawFace)) (h : Fits t) (hl : t.length ≤ 1048576) : ∃ r, Ev (fun k => laws_szFaceSS.l0 k t (1048576 - t.length) 0) r ∧ (0 ≤ r → ∀ x ∈ t, x.length ≤ 1048576) := by
  have key : ∀ d n : Nat, ∀ a : Int, n + d = t.length → 0 ≤ a → a ≤ 1048576 → ∃ r, Ev (fun k => laws_szFaceSS.l0 k t a (n : Int)) r ∧ (0 ≤ r → ∀ x ∈ t.drop n, x.length ≤ 1048576) := by
    intro d
    induction d with
    | zero =>
      intro n a hn h0 h1
      refine ⟨a, ev_step (f := fun _ => some a) (fun k => ?_) (Ev.now a), fun _ x hx => ?_⟩
      · simp only [laws_szFaceSS.l0]; rw [if_neg (by omega)]
      · rw [List.drop_eq_nil_of_le (by omega)] at hx; cases hx
    | succ d ih =>
      intro n a hn h0 h1
      have hlt : n < t.length := by omega
      have hf := h.2 t[n] (List.getElem_mem hlt)
      by_cases hc : a - t[n].length < 0
      · refine ⟨-1, ev_step (f := fun _ => some (-1)) (fun k => ?_) (Ev.now (-1)), fun h => by omega⟩
        simp only [laws_szFaceSS.l0]
        rw [if_pos (by omega), if_pos (by omega), rd_LLawFace_lt t n hlt, szFaceS_eq _ a h0 h1 hf, yfy, if_pos hc]
        rfl
      · obtain ⟨r, hr, hr2⟩ := ih (n + 1) (a - t[n].length) (by omega) (by omega) (by omega)
        refine ⟨r, ev_step (fun k => ?_) hr, fun h x hx => ?_⟩
        · simp only [laws_szFaceSS.l0]
          rw [if_pos (by omega), if_pos (by omega), rd_LLawFace_lt t n hlt, szFaceS_eq _ a h0 h1 hf, yfy, if_neg hc, if_neg (by omega), wrap_succ (by omega)]
        · rw [List.drop_eq_getElem_cons hlt] at hx
          rcases List.mem_cons.1 hx with rfl | hx
          · omega
          · exact hr2 h x hx
  obtain ⟨r, hr, hr2⟩ := key t.length 0 (1048576 - t.length) (by omega) (by omega) (by omega)
  exact ⟨r, hr, fun h => by have := hr2 h; rwa [List.drop_zero] at this⟩
theorem szTriangulation_ev (t : List (List SLawFace)) (h : Fits t) : ∃ r, Ev (fun k => laws_szTriangulation.f k t 1048576) r ∧ (¬ r < 0 → SmallL t) := by
  by_cases hl : (1048576 - (t.length : Int)) < 0
  · refine ⟨-1, ?_, fun h => by omega⟩
    refine Ev.bind (a := -1) (ev_const' (fun k => ?_)) (ev_pos (by omega) (Ev.now _))
    unfold laws_szFaceSS.f
    have := h.1
    rw [wrap_id (by omega) (by omega), if_pos hl]
  · obtain ⟨r, hr, hr2⟩ := szFaceSS_ev t h (by omega)
    have h2 : Ev (fun k => laws_szFaceSS.f k t 1048576) r := by
      refine Ev.congr (fun k => ?_) hr
      unfold laws_szFaceSS.f
      rw [wrap_id (by omega) (by omega), if_neg hl]
    by_cases hn : r < 0
    · exact ⟨-1, Ev.bind h2 (ev_pos hn (Ev.now _)), fun h => by omega⟩
    · exact ⟨r, Ev.bind h2 (ev_neg hn (Ev.now _)), fun _ => ⟨by omega, hr2 (by omega)⟩⟩
/-- The copies of the law's values. -/
def cvF (x : SLawFace) : SFace := ⟨x.f0, x.f1⟩
def cvR (r : List SLawFace) : List SFace := r.map cvF
def cvT (t : List (List SLawFace)) : Tri := t.map cvR
theorem cvT_small {t : List (List SLawFace)} (h : SmallL t) : Small (cvT t) := by
  refine ⟨by simp [cvT]; exact h.1, fun r hr => ?_⟩
  obtain ⟨s, hs, rfl⟩ := List.mem_map.1 hr
  simp [cvR]; exact h.2 s hs
theorem map_take_set {α β : Type} (f : α → β) (l : List α) (z : β) (n : Nat) (h : n < l.length) :
    ((l.take n).map f ++ List.replicate (l.length - n) z).set n (f l[n]) = (l.take (n + 1)).map f ++ List.replicate (l.length - (n + 1)) z := by
  have e : l.length - n = (l.length - (n + 1)) + 1 := by omega
  rw [e, List.replicate_succ, List.set_append_right _ _ (by simp; omega)]
  have : n - ((l.take n).map f).length = 0 := by simp; omega
  rw [this, yby, List.take_succ_eq_append_getElem h, List.map_append, List.append_assoc]
  rfl
theorem toFaceS_ev (l : List SLawFace) (h : l.length ≤ 1048576) : Ev (fun k => laws_toFaceS.f k l) (cvR l) := by
  have hl : Ev (fun k => laws_toFaceS.l0 k l (List.replicate l.length zFace) 0) (cvR l) := by
    refine ev_loop0 (fun k (s : List SFace × Int) => laws_toFaceS.l0 k l s.1 s.2) (fun s => ∃ n : Nat, n ≤ l.length ∧ s.2 = n ∧ s.1 = (l.take n).map cvF ++ List.replicate (l.length - n) zFace) (fun s => l.length - s.2.toNat) (fun _ => cvR l) ?_ (List.replicate l.length zFace, 0) ⟨0, by omega, rfl, by simp⟩
    rintro ⟨a, i⟩ ⟨n, hn, rfl, rfl⟩
    dsimp only
    by_cases hlt : n < l.length
    · refine .inr ⟨((l.take (n + 1)).map cvF ++ List.replicate (l.length - (n + 1)) zFace, ((n + 1 : Nat) : Int)), ⟨n + 1, by omega, rfl, rfl⟩, by simp; omega, rfl, fun k => ?_⟩
      simp only [laws_toFaceS.l0, laws_toFace.f, yfy]
      rw [if_pos (by omega), if_pos (by omega), if_pos (by simp; omega), wrap_succ (by omega), Int.toNat_natCast, rd_LawFace_lt l n hlt]
      have := map_take_set cvF l zFace n hlt
      rw [← this]
      rfl
    · obtain rfl : n = l.length := by omega
      refine .inl fun k => ?_
      simp only [laws_toFaceS.l0]
      rw [if_neg (by omega)]
      simp [cvR]
  refine Ev.congr (fun k => ?_) hl
  unfold laws_toFaceS.f
  rw [if_pos (by omega), if_pos (by simp; omega), Int.toNat_natCast]
theorem toFaceSS_ev (l : List (List SLawFace)) (h : SmallL l) : Ev (fun k => laws_toFaceSS.f k l) (cvT l) := by
  have hl : Ev (fun k => laws_toFaceSS.l0 k l (List.replicate l.length []) 0) (cvT l) := by
    refine ev_loop (fun k (s : Tri × Int) => laws_toFaceSS.l0 k l s.1 s.2) (fun s => ∃ n : Nat, n ≤ l.length ∧ s.2 = n ∧ s.1 = (l.take n).map cvR ++ List.replicate (l.length - n) []) (fun s => l.length - s.2.toNat) (fun _ => cvT l) ?_ (List.replicate l.length [], 0) ⟨0, by omega, rfl, by simp⟩
    rintro ⟨a, i⟩ ⟨n, hn, rfl, rfl⟩
    dsimp only
    by_cases hlt : n < l.length
    · obtain ⟨K, hK⟩ := toFaceS_ev l[n] (h.2 _ (List.getElem_mem hlt))
      refine .inr ⟨((l.take (n + 1)).map cvR ++ List.replicate (l.length - (n + 1)) [], ((n + 1 : Nat) : Int)), K, ⟨n + 1, by omega, rfl, rfl⟩, by simp; omega, rfl, fun k hk => ?_⟩
      have e : laws_toFaceS.f k l[n] = some _ := hK k hk
      have h1 := h.1
      simp only [laws_toFaceSS.l0]
      rw [if_pos (by omega), if_pos (by omega), rd_LLawFace_lt l n hlt, e, yfy, if_pos (by simp; omega), wrap_succ (by omega), Int.toNat_natCast, map_take_set cvR l [] n hlt]
    · obtain rfl : n = l.length := by omega
      refine .inl ⟨0, fun k _ => ?_⟩
      simp only [laws_toFaceSS.l0]
      rw [if_neg (by omega)]
      simp [cvT]
  have h1 := h.1
  refine Ev.congr (fun k => ?_) hl
  unfold laws_toFaceSS.f
  rw [if_pos (by omega), if_pos (by simp; omega), Int.toNat_natCast]
theorem toTriangulation_ev (l : List (List SLawFace)) (h : SmallL l) : Ev (fun k => laws_toTriangulation.f k l) (cvT l) := Ev.bind (toFaceSS_ev l h) (Ev.now _)
theorem eqFaceS_ev (l : List SFace) (h : l.length ≤ 1048576) : Ev (fun k => laws_eqFaceS.f k l l) true := by
  have hl : Ev (fun k => laws_eqFaceS.l0 k l l 0) true := by
    refine ev_loop0 (fun k (s : Int) => laws_eqFaceS.l0 k l l s) (fun s => ∃ n : Nat, n ≤ l.length ∧ s = n) (fun s => l.length - s.toNat) (fun _ => true) ?_ 0 ⟨0, by omega, rfl⟩
    rintro i ⟨n, hn, rfl⟩
    by_cases hlt : n < l.length
    · refine .inr ⟨((n + 1 : Nat) : Int), ⟨n + 1, by omega, rfl⟩, by simp; omega, rfl, fun k => ?_⟩
      simp only [laws_eqFaceS.l0, laws_eqFace.f]
      rw [if_pos (by omega), if_pos (by omega), if_pos (by omega), if_pos trivial, if_pos trivial, yfy, if_pos rfl, wrap_succ (by omega)]
    · refine .inl fun k => ?_
      simp only [laws_eqFaceS.l0]
      rw [if_neg (by omega)]
  refine Ev.congr (fun k => ?_) hl
  unfold laws_eqFaceS.f
  rw [if_pos rfl]
theorem eqTriangulation_ev (l : Tri) (h : Small l) : Ev (fun k => laws_eqTriangulation.f k l l) true := by
  have hl : Ev (fun k => laws_eqFaceSS.l0 k l l 0) true := by
    refine ev_loop (fun k (s : Int) => laws_eqFaceSS.l0 k l l s) (fun s => ∃ n : Nat, n ≤ l.length ∧ s = n) (fun s => l.length - s.toNat) (fun _ => true) ?_ 0 ⟨0, by omega, rfl⟩
    rintro i ⟨n, hn, rfl⟩
    by_cases hlt : n < l.length
    · obtain ⟨K, hK⟩ := eqFaceS_ev l[n] (h.2 _ (List.getElem_mem hlt))
      refine .inr ⟨((n + 1 : Nat) : Int), K, ⟨n + 1, by omega, rfl⟩, by simp; omega, rfl, fun k hk => ?_⟩
      have e : laws_eqFaceS.f k l[n] l[n] = some _ := hK k hk
      have h1 := h.1
      simp only [laws_eqFaceSS.l0]
      rw [if_pos (by omega), if_pos (by omega), if_pos (by omega), rd_LFace_lt l n hlt, e, yfy, if_pos rfl, wrap_succ (by omega)]
    · refine .inl ⟨0, fun k _ => ?_⟩
      simp only [laws_eqFaceSS.l0]
      rw [if_neg (by omega)]
  have h2 : Ev (fun k => laws_eqFaceSS.f k l l) true := by
    refine Ev.congr (fun k => ?_) hl
    unfold laws_eqFaceSS.f
    rw [if_pos rfl]
  exact Ev.bind h2 (ev_pos rfl (Ev.now _))
/-- The face f of the tetrahedron a. -/
abbrev fc (t : Tri) (a f : Int) : SFace := rd_Face (rd_LFace t a) f
/-- Is a face as in a valid triangulation? -/
def goodF (t : Tri) (a f : Int) : Bool :=
  if (fc t a f).f0 = -1 then (fc t a f).f1 == 0
  else if 0 ≤ (fc t a f).f0 ∧ (fc t a f).f0 < (t.length : Int) ∧ 0 ≤ (fc t a f).f1 ∧ (fc t a f).f1 ≤ 23 then
    ((fc t (fc t a f).f0 (rd (permL (fc t a f).f1) f)).f0 == a && (fc t (fc t a f).f0 (rd (permL (fc t a f).f1) f)).f1 == invP (fc t a f).f1) && !((fc t a f).f0 == a && rd (permL (fc t a f).f1) f == f)
  else false
/-- d faces of a from f on are good. -/
def goodFs (t : Tri) (a : Int) : Int → Nat → Bool
  | _, 0 => true
  | f, d + 1 => goodF t a f && goodFs t a (f + 1) d
/-- d tetrahedra from a on are good. -/
def goodTs (t : Tri) : Int → Nat → Bool
  | _, 0 => true
  | a, d + 1 => goodFs t a 0 4 && goodTs t (a + 1) d
/-- A valid triangulation. -/
def isTri (t : Tri) : Bool := decide (t.length ≤ 8) && (t.all (fun r => decide (r.length = 4)) && goodTs t 0 t.length)
section
variable {t : Tri}
theorem row4 (h4 : ∀ r ∈ t, r.length = 4) {a : Int} (h0 : 0 ≤ a) (h1 : a < t.length) : (rd_LFace t a).length = 4 := by
  obtain ⟨n, rfl⟩ := Int.eq_ofNat_of_zero_le h0
  rw [rd_LFace_lt t n (by omega)]
  exact h4 _ (List.getElem_mem _)
theorem impl_isGood_ev (h4 : ∀ r ∈ t, r.length = 4) (hn : t.length ≤ 8) {a f : Int} (h0 : 0 ≤ a) (h1 : a < t.length) (hf0 : 0 ≤ f) (hf1 : f ≤ 3) : Ev (fun k => impl_Triangulation_isGood.f k t a f) (goodF t a f) := by
  have hr := row4 h4 h0 h1
  refine Ev.congr (fun k => by unfold impl_Triangulation_isGood.f; rw [if_pos h0, if_pos h1, if_pos hf0, if_pos (by omega)]) ?_
  change Ev (fun k => if (fc t a f).f0 = -1 then some ((fc t a f).f1 == 0) else _) (goodF t a f)
  unfold goodF
  by_cases hb : (fc t a f).f0 = -1
  · rw [if_pos hb]; exact ev_pos hb (Ev.now _)
  · refine ev_neg hb ?_
    rw [if_neg hb]
    have hix : impl_hasIndex_Simpl_Face.f t (fc t a f).f0 = some (decide (0 ≤ (fc t a f).f0) && decide ((fc t a f).f0 ≤ (t.length : Int) - 1)) := by
      unfold impl_hasIndex_Simpl_Face.f impl_size_Simpl_Face.f
      rw [yfy, wrap_id (by omega) (by omega), inRange_eq]; rfl
    have hfalse : Ev (fun k => impl_Triangulation_isGood.j0 k a f true t (fc t a f).f0 (fc t a f).f1) false := ev_step (fun k => by rw [impl_Triangulation_isGood.j0, if_pos rfl]) (Ev.now false)
    refine Ev.bind (ev_const hix) ?_
    by_cases hi : 0 ≤ (fc t a f).f0 ∧ (fc t a f).f0 < (t.length : Int)
    · refine ev_pos (by simp; omega) ?_
      refine Ev.bind (ev_const (isPerm_eq _)) ?_
      by_cases hp : 0 ≤ (fc t a f).f1 ∧ (fc t a f).f1 ≤ 23
      · rw [if_pos ⟨hi.1, hi.2, hp.1, hp.2⟩]
        have e : (!(decide (0 ≤ (fc t a f).f1) && decide ((fc t a f).f1 ≤ 23))) = false := by simp [hp]
        rw [e]
        refine ev_step (fun k => by rw [impl_Triangulation_isGood.j0, if_neg (by simp), target_eq hp.1 hp.2 hf0 hf1, yfy]) ?_
        obtain ⟨hg0, hg1⟩ := permL_sm hp.1 hp.2 hf0 hf1
        have hr2 := row4 h4 hi.1 hi.2
        refine ev_pos hi.1 (ev_pos hi.2 (ev_pos hg0 (ev_pos (by rw [hr2]; omega) ?_)))
        refine Ev.bind (ev_const (partner_eq hp.1 hp.2)) ?_
        change Ev (fun k => if ((fc t (fc t a f).f0 (rd (permL (fc t a f).f1) f)).f0 == a && (fc t (fc t a f).f0 (rd (permL (fc t a f).f1) f)).f1 == invP (fc t a f).f1) = true then _ else _) _
        generalize ((fc t (fc t a f).f0 (rd (permL (fc t a f).f1) f)).f0 == a && (fc t (fc t a f).f0 (rd (permL (fc t a f).f1) f)).f1 == invP (fc t a f).f1) = b
        cases b with
        | false => refine ev_neg (by simp) ?_; rw [Bool.false_and]; exact Ev.now false
        | true =>
          refine ev_pos rfl ?_
          rw [Bool.true_and]
          by_cases ha : (fc t a f).f0 = a
          · refine ev_pos ha (ev_some ?_)
            rw [ha]; simp [bne]
          · refine ev_neg ha (ev_some ?_)
            simp [ha]
      · rw [if_neg (by omega)]
        have e : (!(decide (0 ≤ (fc t a f).f1) && decide ((fc t a f).f1 ≤ 23))) = true := by
          rw [Bool.not_eq_true', Bool.and_eq_false_iff, decide_eq_false_iff_not, decide_eq_false_iff_not]; omega
        rw [e]
        exact hfalse
    · rw [if_neg (by omega)]
      refine ev_neg ?_ hfalse
      rw [Bool.and_eq_true, decide_eq_true_eq, decide_eq_true_eq]; omega
theorem impl_l1_ev (h4 : ∀ r ∈ t, r.length = 4) (hn : t.length ≤ 8) {a : Int} (h0 : 0 ≤ a) (h1 : a < t.length) {R : Bool} (hR : Ev (fun k => impl_isTriangulation.l0 k (t.length : Int) (a + 1) t) R) :
    ∀ (d : Nat) (f : Int), 0 ≤ f → f + d = 4 → Ev (fun k => impl_isTriangulation.l1 k a (t.length : Int) a f t) (goodFs t a f d && R)
  | 0, f, hf, he => by
    refine ev_step (fun k => by rw [impl_isTriangulation.l1, if_neg (by omega), wrap_id (by omega) (by omega)]) ?_
    rw [goodFs, Bool.true_and]; exact hR
  | d + 1, f, hf, he => by
    refine ev_step (fun k => by rw [impl_isTriangulation.l1, if_pos (by omega)]) ?_
    refine Ev.bind (impl_isGood_ev h4 hn h0 h1 hf (by omega)) ?_
    rw [goodFs]
    cases hg : goodF t a f with
    | false => exact ev_neg (by simp) (by rw [Bool.false_and, Bool.false_and]; exact Ev.now false)
    | true =>
      refine ev_pos rfl ?_
      rw [Bool.true_and]
      exact Ev.congr (fun k => by rw [wrap_id (by omega) (by omega)]) (impl_l1_ev h4 hn h0 h1 hR d (f + 1) (by omega) (by omega))
theorem impl_l0_ev (h4 : ∀ r ∈ t, r.length = 4) (hn : t.length ≤ 8) : ∀ (d : Nat) (a : Int), 0 ≤ a → a + d = t.length → Ev (fun k => impl_isTriangulation.l0 k (t.length : Int) a t) (goodTs t a d)
  | 0, a, ha, he => by
    refine ev_step (fun k => by rw [impl_isTriangulation.l0, if_neg (by omega)]) ?_
    exact Ev.now true
  | d + 1, a, ha, he => by
    refine ev_step (fun k => by rw [impl_isTriangulation.l0, if_pos (by omega)]) ?_
    rw [goodTs]
    exact impl_l1_ev h4 hn ha (by omega) (impl_l0_ev h4 hn d (a + 1) (by omega) (by omega)) 4 0 (by omega) (by omega)
theorem all4_iff : t.all (fun r => decide (r.length = 4)) = true ↔ ∀ r ∈ t, r.length = 4 := by simp
theorem contains4 (h : Small t) : slices_ContainsFunc_SSimpl_Face_at_impl_isTriangulation_1.f t = some (!(t.all fun r => decide (r.length = 4))) := by
  unfold slices_ContainsFunc_SSimpl_Face_at_impl_isTriangulation_1.f slices_IndexFunc_SSimpl_Face_at_impl_isTriangulation_1.f
  rw [contO (p := fun r => !(decide (r.length = 4))) t (fun r _ => by
    show impl_isTriangulation_1.f r = _
    unfold impl_isTriangulation_1.f
    congr 1
    by_cases h : r.length = 4
    · simp [h]
    · have : ¬ ((r.length : Int) = 4) := by omega
      simp [h, this]), List.not_all_eq_any_not]
theorem impl_isTri_ev (h : Small t) : Ev (fun k => impl_isTriangulation.f k t) (isTri t) := by
  have hfalse : Ev (fun k => impl_isTriangulation.j0 k true t) false := ev_step (fun k => by rw [impl_isTriangulation.j0, if_pos rfl]) (Ev.now false)
  unfold isTri
  by_cases h8 : t.length ≤ 8
  · refine Ev.congr (fun k => by unfold impl_isTriangulation.f; rw [if_neg (by omega), contains4 h, yfy]) ?_
    rw [ygy h8, Bool.true_and]
    cases hall : t.all (fun r => decide (r.length = 4)) with
    | false => rw [Bool.false_and]; exact hfalse
    | true =>
      rw [Bool.true_and]
      refine ev_step (fun k => by rw [impl_isTriangulation.j0, if_neg (by simp)]) ?_
      exact impl_l0_ev (all4_iff.1 hall) h8 t.length 0 (by omega) (by omega)
  · refine Ev.congr (fun k => by unfold impl_isTriangulation.f; rw [if_pos (by omega)]) ?_
    rw [yhy h8, Bool.false_and]; exact hfalse
theorem spec_l2_ev (h4 : ∀ r ∈ t, r.length = 4) (hn : t.length ≤ 8) {a : Int} (h0 : 0 ≤ a) (h1 : a < t.length) {R : Bool} (hR : Ev (fun k => spec_IsTriangulation.l1 k (a + 1) t) R) :
    ∀ (d : Nat) (f : Int), 0 ≤ f → f + d = 4 → Ev (fun k => spec_IsTriangulation.l2 k a f t) (goodFs t a f d && R)
  | 0, f, hf, he => by
    refine ev_step (fun k => by rw [spec_IsTriangulation.l2, if_neg (by omega), wrap_id (by omega) (by omega)]) ?_
    rw [goodFs, Bool.true_and]; exact hR
  | d + 1, f, hf, he => by
    have hr := row4 h4 h0 h1
    have ih : Ev (fun k => spec_IsTriangulation.l2 k a (wrap64 (f + 1)) t) (goodFs t a (f + 1) d && R) := Ev.congr (fun k => by rw [wrap_id (by omega) (by omega)]) (spec_l2_ev h4 hn h0 h1 hR d (f + 1) (by omega) (by omega))
    refine ev_step (fun k => by rw [spec_IsTriangulation.l2, if_pos (by omega), if_pos h0, if_pos h1, if_pos hf, if_pos (by omega)]) ?_
    change Ev (fun k => if (fc t a f).f0 = -1 then spec_IsTriangulation.j3 k a f ((fc t a f).f1 == 0) t (fc t a f).f0 (fc t a f).f1 else spec_IsTriangulation.j3 k a f false t (fc t a f).f0 (fc t a f).f1) _
    rw [goodFs]
    have hstop : ∀ b, Ev (fun k => spec_IsTriangulation.j4 k a f true t (fc t a f).f0 (fc t a f).f1) (false && b) := fun b => by
      rw [Bool.false_and]; exact ev_step (fun k => by rw [spec_IsTriangulation.j4, if_pos rfl]) (Ev.now false)
    have hgo : Ev (fun k => spec_IsTriangulation.j3 k a f true t (fc t a f).f0 (fc t a f).f1) (goodFs t a (f + 1) d && R) := ev_step (fun k => by rw [spec_IsTriangulation.j3, if_pos rfl]) ih
    have hrest : (¬ ((fc t a f).f0 = -1 ∧ (fc t a f).f1 = 0)) → Ev (fun k => spec_IsTriangulation.j3 k a f false t (fc t a f).f0 (fc t a f).f1) (goodF t a f && goodFs t a (f + 1) d && R) := by
      intro hnb
      refine ev_step (fun k => by rw [spec_IsTriangulation.j3, spec_l07Tets.f, if_neg (by simp), yfy, l07In_eq, yfy, wrap_id (by omega) (by omega)]) ?_
      unfold goodF
      by_cases hi : 0 ≤ (fc t a f).f0 ∧ (fc t a f).f0 < (t.length : Int)
      · refine ev_pos (by simp; omega) ?_
        refine Ev.bind (ev_const (l06Valid_eq _)) ?_
        rw [if_neg (by omega)]
        by_cases hp : 0 ≤ (fc t a f).f1 ∧ (fc t a f).f1 ≤ 23
        · rw [if_pos ⟨hi.1, hi.2, hp.1, hp.2⟩]
          have e : (!(decide (0 ≤ (fc t a f).f1) && decide ((fc t a f).f1 ≤ 23))) = false := by simp [hp]
          rw [e]
          obtain ⟨hg0, hg1⟩ := permL_sm hp.1 hp.2 hf (by omega)
          have hr2 := row4 h4 hi.1 hi.2
          refine ev_step (fun k => by rw [spec_IsTriangulation.j4, if_neg (by simp)]) ?_
          refine Ev.bind (l06At_ev hp.1 hp.2 hf (by omega)) ?_
          refine Ev.bind (l06Back_ev hp.1 hp.2) ?_
          refine ev_pos hi.1 (ev_pos hi.2 (ev_pos hg0 (ev_pos (by rw [hr2]; omega) ?_)))
          change Ev (fun k => if (!((fc t (fc t a f).f0 (rd (permL (fc t a f).f1) f)).f0 == a) || !((fc t (fc t a f).f0 (rd (permL (fc t a f).f1) f)).f1 == invP (fc t a f).f1)) = true then _ else _) _
          generalize ((fc t (fc t a f).f0 (rd (permL (fc t a f).f1) f)).f0 == a) = b1
          generalize ((fc t (fc t a f).f0 (rd (permL (fc t a f).f1) f)).f1 == invP (fc t a f).f1) = b2
          cases b1 with
          | false => exact ev_pos rfl (by rw [Bool.false_and, Bool.false_and, Bool.false_and, Bool.false_and]; exact Ev.now false)
          | true =>
            cases b2 with
            | false => exact ev_pos rfl (by rw [Bool.true_and, Bool.false_and, Bool.false_and, Bool.false_and]; exact Ev.now false)
            | true =>
              refine ev_neg (by simp) ?_
              rw [Bool.true_and, Bool.true_and]
              by_cases ha : (fc t a f).f0 = a
              · refine ev_pos ha ?_
                by_cases hg : rd (permL (fc t a f).f1) f = f
                · refine ev_pos hg ?_
                  rw [ha, hg]
                  simp
                  exact Ev.now false
                · refine ev_neg hg ?_
                  have : (rd (permL (fc t a f).f1) f == f) = false := by simp [hg]
                  rw [this, Bool.and_false, Bool.not_false, Bool.true_and]
                  exact ih
              · refine ev_neg ha ?_
                have : ((fc t a f).f0 == a) = false := by simp [ha]
                rw [this, Bool.false_and, Bool.not_false, Bool.true_and]
                exact ih
        · rw [if_neg (by omega)]
          have e : (!(decide (0 ≤ (fc t a f).f1) && decide ((fc t a f).f1 ≤ 23))) = true := by
            rw [Bool.not_eq_true', Bool.and_eq_false_iff, decide_eq_false_iff_not, decide_eq_false_iff_not]; omega
          rw [e, Bool.false_and]
          exact hstop R
      · have hg : (if (fc t a f).f0 = -1 then ((fc t a f).f1 == 0) else if 0 ≤ (fc t a f).f0 ∧ (fc t a f).f0 < (t.length : Int) ∧ 0 ≤ (fc t a f).f1 ∧ (fc t a f).f1 ≤ 23 then
            ((fc t (fc t a f).f0 (rd (permL (fc t a f).f1) f)).f0 == a && (fc t (fc t a f).f0 (rd (permL (fc t a f).f1) f)).f1 == invP (fc t a f).f1) && !((fc t a f).f0 == a && rd (permL (fc t a f).f1) f == f) else false) = false := by
          by_cases hb : (fc t a f).f0 = -1
          · rw [if_pos hb]; simp; intro h; exact hnb ⟨hb, h⟩
          · rw [if_neg hb, if_neg (by omega)]
        rw [hg, Bool.false_and]
        refine ev_neg ?_ (hstop R)
        rw [Bool.and_eq_true, decide_eq_true_eq, decide_eq_true_eq]; omega
    by_cases hb : (fc t a f).f0 = -1
    · refine ev_pos hb ?_
      by_cases h0' : (fc t a f).f1 = 0
      · have e : goodF t a f = true := by unfold goodF; rw [if_pos hb]; simp [h0']
        rw [e, Bool.true_and]
        have e2 : ((fc t a f).f1 == 0) = true := by simp [h0']
        rw [e2]; exact hgo
      · have e2 : ((fc t a f).f1 == 0) = false := by simp [h0']
        rw [e2]; exact hrest (fun h => h0' h.2)
    · exact ev_neg hb (hrest (fun h => hb h.1))
theorem spec_l1_ev (h4 : ∀ r ∈ t, r.length = 4) (hn : t.length ≤ 8) : ∀ (d : Nat) (a : Int), 0 ≤ a → a + d = t.length → Ev (fun k => spec_IsTriangulation.l1 k a t) (goodTs t a d)
  | 0, a, ha, he => by
    refine ev_step (fun k => by rw [spec_IsTriangulation.l1, spec_l07Tets.f, yfy, if_neg (by omega)]) ?_
    exact Ev.now true
  | d + 1, a, ha, he => by
    refine ev_step (fun k => by rw [spec_IsTriangulation.l1, spec_l07Tets.f, yfy, if_pos (by omega)]) ?_
    rw [goodTs]
    exact spec_l2_ev h4 hn ha (by omega) (spec_l1_ev h4 hn d (a + 1) (by omega) (by omega)) 4 0 (by omega) (by omega)
theorem spec_l0_ev (h8 : t.length ≤ 8) (d : Nat) : ∀ n : Nat, n + d = t.length → (t.all (fun r => decide (r.length = 4)) = (t.drop n).all (fun r => decide (r.length = 4))) → Ev (fun k => spec_IsTriangulation.l0 k (n : Int) t) (t.all (fun r => decide (r.length = 4)) && goodTs t 0 t.length) := by
  induction d with
  | zero =>
    intro n hn ha
    refine ev_step (fun k => by rw [spec_IsTriangulation.l0, if_neg (by omega)]) ?_
    have hall : t.all (fun r => decide (r.length = 4)) = true := by rw [ha, List.drop_eq_nil_of_le (by omega)]; rfl
    rw [hall, Bool.true_and]
    exact spec_l1_ev (all4_iff.1 hall) h8 t.length 0 (by omega) (by omega)
  | succ d ih =>
    intro n hn ha
    have hlt : n < t.length := by omega
    refine ev_step (fun k => by rw [spec_IsTriangulation.l0, if_pos (by omega), if_pos (by omega), rd_LFace_lt t n hlt]) ?_
    rw [List.drop_eq_getElem_cons hlt, List.all_cons] at ha
    by_cases h : t[n].length = 4
    · refine ev_pos (by omega) ?_
      refine Ev.congr (fun k => by rw [wrap_succ (by omega)]) (ih (n + 1) (by omega) ?_)
      rw [ha, ygy h, Bool.true_and]
    · refine ev_neg (by omega) ?_
      rw [ha, yhy h, Bool.false_and, Bool.false_and]
      exact Ev.now false
theorem spec_isTri_ev (t : Tri) : Ev (fun k => spec_IsTriangulation.f k t) (isTri t) := by
  refine Ev.congr (fun k => by unfold spec_IsTriangulation.f spec_l07Tets.f; rw [yfy]) ?_
  unfold isTri
  by_cases h8 : t.length ≤ 8
  · refine ev_neg (by omega) ?_
    rw [ygy h8, Bool.true_and]
    exact spec_l0_ev h8 t.length 0 (by omega) (by rw [List.drop_zero])
  · refine ev_pos (by omega) ?_
    rw [yhy h8, Bool.false_and]
    exact Ev.now false
end
theorem isTri_good {t : Tri} (h : isTri t = true) : t.length ≤ 8 ∧ (∀ r ∈ t, r.length = 4) ∧ goodTs t 0 t.length = true := by
  unfold isTri at h
  rw [Bool.and_eq_true, Bool.and_eq_true, decide_eq_true_eq] at h
  exact ⟨h.1, all4_iff.1 h.2.1, h.2.2⟩
theorem goodFs_at (t : Tri) (a : Int) (d : Nat) : ∀ f, goodFs t a f d = true → ∀ g, f ≤ g → g < f + d → goodF t a g = true := by
  induction d with
  | zero => intro f _ g h1 h2; omega
  | succ d ih =>
    intro f h g h1 h2
    rw [goodFs, Bool.and_eq_true] at h
    by_cases e : g = f
    · rw [e]; exact h.1
    · exact ih (f + 1) h.2 g (by omega) (by omega)
theorem goodTs_at (t : Tri) (d : Nat) : ∀ a, goodTs t a d = true → ∀ b, a ≤ b → b < a + d → ∀ g, 0 ≤ g → g ≤ 3 → goodF t b g = true := by
  induction d with
  | zero => intro a _ b h1 h2; omega
  | succ d ih =>
    intro a h b h1 h2 g hg0 hg1
    rw [goodTs, Bool.and_eq_true] at h
    by_cases e : b = a
    · rw [e]; exact goodFs_at t a 4 0 h.1 g hg0 (by omega)
    · exact ih (a + 1) h.2 b (by omega) (by omega) g hg0 hg1
/-- A face of a valid triangulation: the boundary, or glued to a face that is glued back. -/
theorem face_good {t : Tri} (h : isTri t = true) {a f : Int} (h0 : 0 ≤ a) (h1 : a < t.length) (hf0 : 0 ≤ f) (hf1 : f ≤ 3) :
    ((fc t a f).f0 = -1 ∧ (fc t a f).f1 = 0) ∨
    ((0 ≤ (fc t a f).f0 ∧ (fc t a f).f0 < (t.length : Int) ∧ 0 ≤ (fc t a f).f1 ∧ (fc t a f).f1 ≤ 23) ∧
      (fc t (fc t a f).f0 (rd (permL (fc t a f).f1) f)).f0 = a ∧ (fc t (fc t a f).f0 (rd (permL (fc t a f).f1) f)).f1 = invP (fc t a f).f1 ∧ ¬ ((fc t a f).f0 = a ∧ rd (permL (fc t a f).f1) f = f)) := by
  have hg := goodTs_at t t.length 0 (isTri_good h).2.2 a h0 (by omega) f hf0 hf1
  unfold goodF at hg
  by_cases hb : (fc t a f).f0 = -1
  · rw [if_pos hb] at hg
    exact .inl ⟨hb, by simpa using hg⟩
  · rw [if_neg hb] at hg
    by_cases hi : 0 ≤ (fc t a f).f0 ∧ (fc t a f).f0 < (t.length : Int) ∧ 0 ≤ (fc t a f).f1 ∧ (fc t a f).f1 ≤ 23
    · rw [if_pos hi, Bool.and_eq_true, Bool.and_eq_true, Bool.not_eq_true'] at hg
      refine .inr ⟨hi, eq_of_beq hg.1.1, eq_of_beq hg.1.2, fun hc => ?_⟩
      have := hg.2
      rw [Bool.and_eq_false_iff] at this
      rcases this with h2 | h2
      · exact absurd hc.1 (by simpa using h2)
      · exact absurd hc.2 (by simpa using h2)
    · rw [if_neg hi] at hg; cases hg
theorem rowlen {t : Tri} (h : isTri t = true) {a : Int} (h0 : 0 ≤ a) (h1 : a < t.length) : (rd_LFace t a).length = 4 := row4 (isTri_good h).2.1 h0 h1
/-- The boundary faces among d faces of a from f on. -/
def bdFs (t : Tri) (a : Int) : Int → Nat → List (List Int)
  | _, 0 => []
  | f, d + 1 => (if (fc t a f).f0 < 0 then [[a, f]] else []) ++ bdFs t a (f + 1) d
/-- The boundary faces of d tetrahedra from a on. -/
def bdTs (t : Tri) : Int → Nat → List (List Int)
  | _, 0 => []
  | a, d + 1 => bdFs t a 0 4 ++ bdTs t (a + 1) d
/-- The boundary faces. -/
def bdry (t : Tri) : List (List Int) := bdTs t 0 t.length
section
variable {t : Tri}
theorem impl_bd1 (h4 : ∀ r ∈ t, r.length = 4) {a : Int} (h0 : 0 ≤ a) (h1 : a < t.length) {R : List (List Int)} {D : Nat}
    (hR : ∀ acc : List (List Int), acc.length + D ≤ 100 → Ev (fun k => impl_Triangulation_boundaryFaces.l0 k acc t (t.length : Int) (wrap64 (a + 1))) (acc ++ R)) :
    ∀ (d : Nat) (f : Int) (acc : List (List Int)), 0 ≤ f → f + d = 4 → acc.length + (d + D) ≤ 100 → Ev (fun k => impl_Triangulation_boundaryFaces.l1 k acc a t (t.length : Int) a (rd_LFace t a) 4 f) (acc ++ (bdFs t a f d ++ R))
  | 0, f, acc, hf, he, hl => by
    refine ev_step (fun k => by rw [impl_Triangulation_boundaryFaces.l1, if_neg (by omega)]) ?_
    exact hR acc (by omega)
  | d + 1, f, acc, hf, he, hl => by
    have hr := row4 h4 h0 h1
    have ih := impl_bd1 h4 h0 h1 hR d (f + 1)
    have ew : wrap64 (f + 1) = f + 1 := wrap_id (by omega) (by omega)
    refine ev_step (fun k => by rw [impl_Triangulation_boundaryFaces.l1, if_pos (by omega), if_pos (by omega), if_pos (by omega), impl_Face_isBoundary.f, yfy, ew]) ?_
    rw [bdFs]
    by_cases hb : (fc t a f).f0 < 0
    · refine ev_pos (by simpa using hb) (ev_pos (by omega) ?_)
      rw [if_pos hb]
      have := ih (acc ++ [[a, f]]) (by omega) (by omega) (by simp; omega)
      simpa using this
    · refine ev_neg (by simpa using hb) ?_
      rw [if_neg hb]
      exact ih acc (by omega) (by omega) (by omega)
theorem impl_bd0 (h4 : ∀ r ∈ t, r.length = 4) (hn : t.length ≤ 8) : ∀ (d : Nat) (a : Int) (acc : List (List Int)), 0 ≤ a → a + d = t.length → acc.length + 4 * d ≤ 100 → Ev (fun k => impl_Triangulation_boundaryFaces.l0 k acc t (t.length : Int) a) (acc ++ bdTs t a d)
  | 0, a, acc, ha, he, hl => by
    refine ev_step (fun k => by rw [impl_Triangulation_boundaryFaces.l0, if_neg (by omega)]) ?_
    rw [bdTs, List.append_nil]; exact Ev.now _
  | d + 1, a, acc, ha, he, hl => by
    have hr := row4 h4 ha (by omega : a < t.length)
    refine ev_step (fun k => by rw [impl_Triangulation_boundaryFaces.l0, if_pos (by omega), if_pos (by omega), if_pos (by omega), hr]) ?_
    rw [bdTs]
    refine impl_bd1 h4 ha (by omega) (D := 4 * d) (fun acc h => ?_) 4 0 acc (by omega) (by omega) (by omega)
    rw [wrap_id (by omega) (by omega)]
    exact impl_bd0 h4 hn d (a + 1) acc (by omega) (by omega) (by omega)
theorem impl_bd_ev (h4 : ∀ r ∈ t, r.length = 4) (hn : t.length ≤ 8) : Ev (fun k => impl_Triangulation_boundaryFaces.f k t) (bdry t) := by
  have := impl_bd0 h4 hn t.length 0 [] (by omega) (by omega) (by simp; omega)
  rw [List.nil_append] at this
  exact this
theorem spec_bd1 (h4 : ∀ r ∈ t, r.length = 4) {a : Int} (h0 : 0 ≤ a) (h1 : a < t.length) {R : List (List Int)} {D : Nat}
    (hR : ∀ acc : List (List Int), acc.length + D ≤ 100 → Ev (fun k => spec_l07Boundary.l0 k acc (wrap64 (a + 1)) t) (acc ++ R)) :
    ∀ (d : Nat) (f : Int) (acc : List (List Int)), 0 ≤ f → f + d = 4 → acc.length + (d + D) ≤ 100 → Ev (fun k => spec_l07Boundary.l1 k acc a f t) (acc ++ (bdFs t a f d ++ R))
  | 0, f, acc, hf, he, hl => by
    refine ev_step (fun k => by rw [spec_l07Boundary.l1, if_neg (by omega)]) ?_
    exact hR acc (by omega)
  | d + 1, f, acc, hf, he, hl => by
    have hr := row4 h4 h0 h1
    have ih := spec_bd1 h4 h0 h1 hR d (f + 1)
    have ew : wrap64 (f + 1) = f + 1 := wrap_id (by omega) (by omega)
    refine ev_step (fun k => by rw [spec_l07Boundary.l1, if_pos (by omega), if_pos h0, if_pos h1, if_pos (by omega), if_pos (by omega), ew]) ?_
    rw [bdFs]
    by_cases hb : (fc t a f).f0 < 0
    · refine ev_pos hb (ev_pos (by omega) ?_)
      rw [if_pos hb]
      have := ih (acc ++ [[a, f]]) (by omega) (by omega) (by simp; omega)
      simpa using this
    · refine ev_neg hb ?_
      rw [if_neg hb]
      exact ih acc (by omega) (by omega) (by omega)
theorem spec_bd0 (h4 : ∀ r ∈ t, r.length = 4) (hn : t.length ≤ 8) : ∀ (d : Nat) (a : Int) (acc : List (List Int)), 0 ≤ a → a + d = t.length → acc.length + 4 * d ≤ 100 → Ev (fun k => spec_l07Boundary.l0 k acc a t) (acc ++ bdTs t a d)
  | 0, a, acc, ha, he, hl => by
    refine ev_step (fun k => by rw [spec_l07Boundary.l0, if_neg (by omega)]) ?_
    rw [bdTs, List.append_nil]; exact Ev.now _
  | d + 1, a, acc, ha, he, hl => by
    refine ev_step (fun k => by rw [spec_l07Boundary.l0, if_pos (by omega)]) ?_
    rw [bdTs]
    refine spec_bd1 h4 ha (by omega) (D := 4 * d) (fun acc h => ?_) 4 0 acc (by omega) (by omega) (by omega)
    rw [wrap_id (by omega) (by omega)]
    exact spec_bd0 h4 hn d (a + 1) acc (by omega) (by omega) (by omega)
theorem spec_bd_ev (h4 : ∀ r ∈ t, r.length = 4) (hn : t.length ≤ 8) : Ev (fun k => spec_l07Boundary.f k t) (bdry t) := by
  have := spec_bd0 h4 hn t.length 0 [] (by omega) (by omega) (by simp; omega)
  rw [List.nil_append] at this
  exact this
def isClosed (t : Tri) : Bool := if isTri t then (if (t.length : Int) > 0 then ((bdry t).length : Int) == 0 else false) else false
theorem spec_isClosed_ev (t : Tri) : Ev (fun k => spec_IsClosed.f k t) (isClosed t) := by
  refine Ev.bind (spec_isTri_ev t) ?_
  unfold isClosed
  cases h : isTri t with
  | false => exact ev_neg (by simp) (Ev.now _)
  | true =>
    obtain ⟨h8, h4, _⟩ := isTri_good h
    refine ev_pos rfl ?_
    rw [if_pos rfl]
    by_cases hl : (t.length : Int) > 0
    · rw [if_pos hl]; exact ev_pos hl (Ev.bind (spec_bd_ev h4 h8) (Ev.now _))
    · rw [if_neg hl]; exact ev_neg hl (Ev.now _)
theorem impl_isClosed_ev {t : Tri} (hs : Small t) : Ev (fun k => impl_isClosed.f k t) (isClosed t) := by
  refine Ev.bind (impl_isTri_ev hs) ?_
  unfold isClosed
  cases h : isTri t with
  | false => exact ev_neg (by simp) (Ev.now _)
  | true =>
    obtain ⟨h8, h4, _⟩ := isTri_good h
    refine ev_pos rfl ?_
    rw [if_pos rfl]
    by_cases hl : (t.length : Int) > 0
    · rw [if_pos hl]; exact ev_pos hl (Ev.bind (impl_bd_ev h4 h8) (Ev.now _))
    · rw [if_neg hl]; exact ev_neg hl (Ev.now _)
end
theorem fresh_go (n : Nat) (hn : n ≤ 1000000) : ∀ (d i : Nat) (xs : List Int), i + d = n → xs.length = i → Ev (fun k => spec_l08Fresh.l0 k (n : Int) xs (i : Int)) (xs ++ upFrom (i : Int) d)
  | 0, i, xs, h, hl => by
    refine ev_step (fun k => by rw [spec_l08Fresh.l0, if_neg (by omega)]) ?_
    rw [upFrom, List.append_nil]; exact Ev.now _
  | d + 1, i, xs, h, hl => by
    refine ev_step (fun k => by rw [spec_l08Fresh.l0, if_pos (by omega), if_pos (by omega), wrap_succ (by omega)]) ?_
    have := fresh_go n hn d (i + 1) (xs ++ [(i : Int)]) (by omega) (by simp [hl])
    rw [List.append_assoc] at this
    exact this
theorem fresh_ev (n : Nat) (hn : n ≤ 1000000) : Ev (fun k => spec_l08Fresh.f k (n : Int)) (upFrom 0 n) := by
  have := fresh_go n hn n 0 [] (by omega) rfl
  exact this
/- whole numbers modulo 2 ^ 64 -/
theorem wrap_mulL (a b : Int) : wrap64 (wrap64 a * b) = wrap64 (a * b) := by
  obtain ⟨q, hq⟩ : ∃ q : Int, wrap64 a = a + 18446744073709551616 * q := ⟨-((a + 9223372036854775808) / 18446744073709551616), by unfold wrap64; omega⟩
  have hk : ∀ c q : Int, wrap64 (c + 18446744073709551616 * q) = wrap64 c := fun c q => by unfold wrap64; omega
  rw [hq, Int.add_mul, Int.mul_assoc, hk]
def mul6 : Nat → Int → Int
  | 0, x => x
  | d + 1, x => mul6 d (wrap64 (x * 6))
theorem mul6_eq : ∀ (d : Nat) (x : Int), mul6 (d + 1) x = wrap64 (x * 6 ^ (d + 1))
  | 0, x => by simp [mul6]
  | d + 1, x => by
    rw [mul6, mul6_eq d, wrap_mulL, Int.mul_assoc]
    congr 2
    rw [Int.pow_succ 6 (d + 1), Int.mul_comm]
/- places in lists -/
theorem index_l0_mem (l : List Int) (x : Int) (hl : l.length ≤ 1000000) : ∀ (d n : Nat), n + d = l.length → x ∈ l.drop n → Ev (fun k => slices_Index_Sint64.l0 k l x (l.length : Int) (n : Int)) ((n + (l.drop n).idxOf x : Nat) : Int)
  | 0, n, h, hm => by rw [List.drop_eq_nil_of_le (by omega)] at hm; cases hm
  | d + 1, n, h, hm => by
    have hlt : n < l.length := by omega
    have ex : rd l (n : Int) = l[n] := by simp [rd, hlt]
    rw [List.drop_eq_getElem_cons hlt] at hm ⊢
    by_cases c : x = l[n]
    · refine ev_step (f := fun _ => some (n : Int)) (fun k => by rw [slices_Index_Sint64.l0, if_pos (by omega), if_pos (by omega), if_pos (by omega), ex, if_pos c]) (ev_some ?_)
      rw [← c, List.idxOf_cons_self]; simp
    · have hm2 : x ∈ l.drop (n + 1) := by
        rcases List.mem_cons.1 hm with e | e
        · exact absurd e c
        · exact e
      have ih := index_l0_mem l x hl d (n + 1) (by omega) hm2
      refine ev_step (fun k => by rw [slices_Index_Sint64.l0, if_pos (by omega), if_pos (by omega), if_pos (by omega), ex, if_neg c, wrap_succ (by omega)]) ?_
      rw [List.idxOf_cons, show (l[n] == x) = false from by simpa using fun e => c e.symm, cond_false]
      have e : n + 1 + (l.drop (n + 1)).idxOf x = n + (((l.drop (n + 1)).idxOf x) + 1) := by omega
      rw [← e]
      exact ih
theorem index_mem {l : List Int} {x : Int} (hl : l.length ≤ 1000000) (hm : x ∈ l) : Ev (fun k => slices_Index_Sint64.f k l x) ((l.idxOf x : Nat) : Int) := by
  have := index_l0_mem l x hl l.length 0 (by omega) (by rw [List.drop_zero]; exact hm)
  rw [List.drop_zero, Nat.zero_add] at this
  exact this
theorem upFrom_mem {y : Int} : ∀ {n : Nat} {a : Int}, y ∈ upFrom a n ↔ a ≤ y ∧ y < a + (n : Int)
  | 0, a => by simp [upFrom]
  | n + 1, a => by
    rw [upFrom, List.mem_cons, upFrom_mem]
    push_cast
    omega
theorem upFrom_nodup : ∀ (n : Nat) (a : Int), (upFrom a n).Nodup
  | 0, a => List.nodup_nil
  | n + 1, a => by
    rw [upFrom, List.nodup_cons]
    exact ⟨fun h => by have := (upFrom_mem.1 h).1; omega, upFrom_nodup n (a + 1)⟩
section
variable (t : Tri)
/-- The permutation and the partner of the face with a number. -/
def qp (x : Int) : Int := (fc t (x / 4) (x % 4)).f1
def pt (x : Int) : Int := 4 * (fc t (x / 4) (x % 4)).f0 + rd (permL (qp t x)) (x % 4)
/-- What is left when the faces below x, and their partners, are gone. -/
def lft (x : Nat) : List Int := (upFrom (x : Int) (4 * t.length - x)).filter fun y => decide ((x : Int) ≤ pt t y)
def mtv (m : Int) : Int := (impl_matchings.f 20 m).getD 0
def numR : Nat → Nat → Int → Int
  | 0, _, num => num
  | d + 1, x, num => if (x : Int) < pt t (x : Int) then numR d (x + 1) (wrap64 (num + wrap64 (wrap64 ((((lft t x).idxOf (pt t (x : Int)) : Nat) : Int) - 1) * mtv (((lft t x).length : Int) - 2)))) else numR d (x + 1) num
def digR : Nat → Nat → Int → Int
  | 0, _, dig => dig
  | d + 1, x, dig => if (x : Int) < pt t (x : Int) then digR d (x + 1) (wrap64 (wrap64 (6 * dig) + (((mapL ((x : Int) % 4) (pt t (x : Int) % 4)).idxOf (qp t (x : Int)) : Nat) : Int))) else digR d (x + 1) dig
end
theorem digR_add (t : Tri) : ∀ (d e x : Nat) (dig : Int), digR t (d + e) x dig = digR t e (x + d) (digR t d x dig)
  | 0, e, x, dig => by rw [Nat.zero_add, digR, Nat.add_zero]
  | d + 1, e, x, dig => by
    rw [show d + 1 + e = (d + e) + 1 by omega, digR, digR, show x + (d + 1) = x + 1 + d by omega]
    split
    · exact digR_add t d e (x + 1) _
    · exact digR_add t d e (x + 1) _
theorem mats_key : ∀ m : Fin 15, impl_matchings.f 20 (m.val : Int) = some (mtv (m.val : Int)) ∧ spec_l16Matchings.f 20 (m.val : Int) = some (mtv (m.val : Int)) := by decide +kernel
theorem mats_ev {m : Int} (h0 : 0 ≤ m) (h1 : m ≤ 14) : Ev (fun k => impl_matchings.f k m) (mtv m) ∧ Ev (fun k => spec_l16Matchings.f k m) (mtv m) := by
  obtain ⟨j, rfl⟩ : ∃ j : Fin 15, m = (j.val : Int) := ⟨⟨m.toNat, by omega⟩, by simp; omega⟩
  exact ⟨Ev.of (fun k => impl_matchings.mono _ k) (mats_key j).1, Ev.of (fun k => spec_l16Matchings.mono _ k) (mats_key j).2⟩
theorem gluings_ev {n : Nat} (h : n ≤ 4) : Ev (fun k => impl_gluings.f k (n : Int)) (6 ^ (2 * n)) := by
  obtain ⟨j, rfl⟩ : ∃ j : Fin 5, n = j.val := ⟨⟨n, by omega⟩, rfl⟩
  have key : ∀ j : Fin 5, impl_gluings.f 20 (j.val : Int) = some (6 ^ (2 * j.val)) := by decide +kernel
  exact Ev.of (fun k => impl_gluings.mono _ k) (key j)
theorem perms16_ev {f g : Int} (f0 : 0 ≤ f) (f1 : f ≤ 3) (g0 : 0 ≤ g) (g1 : g ≤ 3) : Ev (fun k => spec_l16Perms.f k f g) (mapL f g) := by
  obtain ⟨i, rfl⟩ := fin4_of f0 f1
  obtain ⟨j, rfl⟩ := fin4_of g0 g1
  have key : ∀ i j : Fin 4, spec_l16Perms.f 60 (i.val : Int) (j.val : Int) = some (mapL (i.val : Int) (j.val : Int)) := by decide +kernel
  exact Ev.of (fun k => spec_l16Perms.mono _ _ k) (key i j)
theorem mapL_mem {f g p : Int} (p0 : 0 ≤ p) (p1 : p ≤ 23) (h : rd (permL p) f = g) : p ∈ mapL f g := by
  unfold mapL
  rw [List.mem_filter]
  refine ⟨?_, by simp [h]⟩
  unfold mapAll
  rw [List.mem_map]
  exact ⟨p.toNat, by simp; omega, by omega⟩
theorem mapL_len (f g : Int) : (mapL f g).length ≤ 24 := by
  unfold mapL
  exact Nat.le_trans (List.length_filter_le _ _) (by decide)
/-- What is known of the faces of a closed valid triangulation. -/
structure Clo (t : Tri) : Prop where
  tri : isTri t = true
  no : ∀ a f : Int, 0 ≤ a → a < (t.length : Int) → 0 ≤ f → f ≤ 3 → ¬ (fc t a f).f0 < 0
theorem bdFs_no (t : Tri) (a : Int) : ∀ (d : Nat) (f : Int), (bdFs t a f d).length = 0 → ∀ g : Int, f ≤ g → g < f + (d : Int) → ¬ (fc t a g).f0 < 0
  | 0, f, h, g, h1, h2 => by omega
  | d + 1, f, h, g, h1, h2 => by
    rw [bdFs, List.length_append] at h
    by_cases e : g = f
    · subst e
      intro hb
      rw [if_pos hb] at h
      simp at h
    · exact bdFs_no t a d (f + 1) (by omega) g (by omega) (by push_cast at h2; omega)
theorem bdTs_no (t : Tri) : ∀ (d : Nat) (a : Int), (bdTs t a d).length = 0 → ∀ b : Int, a ≤ b → b < a + (d : Int) → ∀ f : Int, 0 ≤ f → f ≤ 3 → ¬ (fc t b f).f0 < 0
  | 0, a, h, b, h1, h2 => by omega
  | d + 1, a, h, b, h1, h2 => fun f f0 f1 => by
    rw [bdTs, List.length_append] at h
    by_cases e : b = a
    · subst e
      exact bdFs_no t b 4 0 (by omega) f f0 (by omega)
    · exact bdTs_no t d (a + 1) (by omega) b (by omega) (by push_cast at h2; omega) f f0 f1
theorem clo_of {t : Tri} (h : isClosed t = true) : Clo t ∧ 0 < t.length := by
  unfold isClosed at h
  cases ht : isTri t with
  | false => rw [ht] at h; cases h
  | true =>
    rw [ht, if_pos rfl] at h
    by_cases hl : (t.length : Int) > 0
    · rw [if_pos hl] at h
      have h2 : (bdry t).length = 0 := by have := eq_of_beq h; omega
      exact ⟨⟨ht, fun a f a0 a1 f0 f1 => bdTs_no t t.length 0 h2 a a0 (by omega) f f0 f1⟩, by omega⟩
    · rw [if_neg hl] at h; cases h
section
variable {t : Tri}
theorem Clo.at (h : Clo t) {x : Int} (h0 : 0 ≤ x) (h1 : x < 4 * (t.length : Int)) :
    0 ≤ pt t x ∧ pt t x < 4 * (t.length : Int) ∧ pt t x ≠ x ∧ pt t (pt t x) = x ∧ 0 ≤ qp t x ∧ qp t x ≤ 23 ∧ pt t x / 4 = (fc t (x / 4) (x % 4)).f0 ∧ pt t x % 4 = rd (permL (qp t x)) (x % 4) := by
  rcases face_good h.tri (show 0 ≤ x / 4 by omega) (show x / 4 < (t.length : Int) by omega) (show 0 ≤ x % 4 by omega) (by omega) with ⟨e, _⟩ | ⟨⟨g0, g1, p0, p1⟩, e1, e2, e3⟩
  · exact absurd (show (fc t (x / 4) (x % 4)).f0 < 0 by omega) (h.no _ _ (by omega) (by omega) (by omega) (by omega))
  have hs := permL_sm p0 p1 (show 0 ≤ x % 4 by omega) (by omega)
  have hd : pt t x / 4 = (fc t (x / 4) (x % 4)).f0 := by unfold pt qp; omega
  have hm : pt t x % 4 = rd (permL (qp t x)) (x % 4) := by unfold pt qp; omega
  refine ⟨by unfold pt qp; omega, by unfold pt qp; omega, fun e => e3 ⟨by rw [← hd, e], ?_⟩, ?_, p0, p1, hd, hm⟩
  · have : pt t x % 4 = x % 4 := by rw [e]
    rw [hm] at this
    exact this
  · have hp : pt t (pt t x) = 4 * (fc t (pt t x / 4) (pt t x % 4)).f0 + rd (permL (fc t (pt t x / 4) (pt t x % 4)).f1) (pt t x % 4) := rfl
    rw [hp, hd, hm]
    unfold qp
    rw [e1, e2]
    have : rd (permL (invP (fc t (x / 4) (x % 4)).f1)) (rd (permL (fc t (x / 4) (x % 4)).f1) (x % 4)) = x % 4 := by
      obtain ⟨m, hmm⟩ := fin_of p0 p1
      obtain ⟨n, hnn⟩ := fin4_of (show 0 ≤ x % 4 by omega) (by omega)
      rw [hmm, hnn]
      have key : ∀ (m : Fin 24) (n : Fin 4), rd (permL (invP (m.val : Int))) (rd (permL (m.val : Int)) (n.val : Int)) = (n.val : Int) := by decide +kernel
      exact key m n
    rw [this]
    omega
theorem lft_len (x : Nat) : (lft t x).length ≤ 4 * t.length := by
  unfold lft
  have := List.length_filter_le (fun y => decide ((x : Int) ≤ pt t y)) (upFrom (x : Int) (4 * t.length - x))
  rw [upFrom_length] at this
  omega
theorem lft_zero (h : Clo t) : lft t 0 = upFrom 0 (4 * t.length) := by
  unfold lft
  rw [Nat.sub_zero]
  show List.filter (fun y => decide ((0 : Int) ≤ pt t y)) (upFrom 0 (4 * t.length)) = upFrom 0 (4 * t.length)
  refine List.filter_eq_self.2 (fun y hy => ?_)
  obtain ⟨y0, y1⟩ := upFrom_mem.1 hy
  have := (h.at (x := y) y0 (by push_cast at y1; omega)).1
  rw [decide_eq_true_eq]
  exact this
theorem lft_skip (h : Clo t) {x : Nat} (hx : x < 4 * t.length) (hp : ¬ (x : Int) < pt t (x : Int)) : lft t (x + 1) = lft t x := by
  have ha := h.at (x := (x : Int)) (by omega) (by omega)
  obtain ⟨m, hm⟩ : ∃ m, 4 * t.length - x = m + 1 := ⟨4 * t.length - x - 1, by omega⟩
  unfold lft
  rw [hm, show 4 * t.length - (x + 1) = m by omega, upFrom, List.filter_cons, if_neg (by rw [decide_eq_true_eq]; omega)]
  apply List.filter_congr
  intro y hy
  obtain ⟨y0, y1⟩ := upFrom_mem.1 hy
  have hb := h.at (x := y) (by omega) (by omega)
  have hne : pt t y ≠ (x : Int) := fun e => by
    have := hb.2.2.2.1
    rw [e] at this
    omega
  apply decide_eq_decide.2
  push_cast
  omega
theorem lft_take (h : Clo t) {x : Nat} (hx : x < 4 * t.length) (hp : (x : Int) < pt t (x : Int)) :
    ∃ M : List Int, lft t x = (x : Int) :: M ∧ pt t (x : Int) ∈ M ∧ lft t (x + 1) = M.eraseIdx (M.idxOf (pt t (x : Int))) := by
  have ha := h.at (x := (x : Int)) (by omega) (by omega)
  obtain ⟨m, hm⟩ : ∃ m, 4 * t.length - x = m + 1 := ⟨4 * t.length - x - 1, by omega⟩
  refine ⟨(upFrom ((x : Int) + 1) m).filter (fun y => decide ((x : Int) ≤ pt t y)), ?_, ?_, ?_⟩
  · unfold lft
    rw [hm, upFrom, List.filter_cons, if_pos (by rw [decide_eq_true_eq]; omega)]
  · rw [List.mem_filter, upFrom_mem, decide_eq_true_eq, ha.2.2.2.1]
    omega
  · have hnd : ((upFrom ((x : Int) + 1) m).filter (fun y => decide ((x : Int) ≤ pt t y))).Nodup := (upFrom_nodup m _).filter _
    rw [← List.erase_eq_eraseIdx_of_idxOf rfl, hnd.erase_eq_filter, List.filter_filter]
    unfold lft
    rw [show 4 * t.length - (x + 1) = m by omega]
    push_cast
    apply List.filter_congr
    intro y hy
    obtain ⟨y0, y1⟩ := upFrom_mem.1 hy
    have hb := h.at (x := y) (by omega) (by omega)
    have hiff : (x : Int) + 1 ≤ pt t y ↔ y ≠ pt t (x : Int) ∧ (x : Int) ≤ pt t y := by
      constructor
      · intro q
        refine ⟨fun e => ?_, by omega⟩
        rw [e, ha.2.2.2.1] at q
        omega
      · rintro ⟨q1, q2⟩
        have : pt t y ≠ (x : Int) := fun e => q1 (by rw [← e]; exact hb.2.2.2.1.symm)
        omega
    rw [Bool.eq_iff_iff, decide_eq_true_eq, Bool.and_eq_true, bne_iff_ne, decide_eq_true_eq]
    exact hiff
end
def prs (t : Tri) (x : Nat) : List Int := (List.range x).map fun (i : Nat) => pt t (i : Int)
theorem prs_len (t : Tri) (x : Nat) : (prs t x).length = x := by simp [prs]
theorem prs_rd (t : Tri) {x i : Nat} (h : i < x) : rd (prs t x) (i : Int) = pt t (i : Int) := by simp [prs, rd, h]
theorem prs_succ (t : Tri) (x : Nat) : prs t (x + 1) = prs t x ++ [pt t (x : Int)] := by simp [prs, List.range_succ]
theorem idxOf_before : ∀ (l : List Int) (x : Int) (j : Nat), j < l.idxOf x → rd l (j : Int) ≠ x
  | [], x, j, h => by simp at h
  | a :: l, x, j, h => by
    by_cases e : a = x
    · rw [List.idxOf_cons, show (a == x) = true from by simpa using e, cond_true] at h; omega
    · rw [List.idxOf_cons, show (a == x) = false from by simpa using e, cond_false] at h
      cases j with
      | zero => exact e
      | succ j =>
        have := idxOf_before l x j (by omega)
        rw [rd_nat] at this ⊢
        rw [List.getD_cons_succ]; exact this
section
variable {t : Tri}
/-- What one round takes off. -/
theorem lft_round (h : Clo t) {x : Nat} (hx : x < 4 * t.length) (hp : (x : Int) < pt t (x : Int)) :
    ∃ i : Nat, (lft t x).idxOf (pt t (x : Int)) = i ∧ 1 ≤ i ∧ i < (lft t x).length ∧ pt t (x : Int) ∈ lft t x ∧ rd (lft t x) 0 = (x : Int) ∧ rd (lft t x) (i : Int) = pt t (x : Int) ∧ (∀ j : Nat, j < i → rd (lft t x) (j : Int) ≠ pt t (x : Int)) ∧ ((lft t x).eraseIdx i).drop 1 = lft t (x + 1) := by
  obtain ⟨M, h1, h2, h3⟩ := lft_take h hx hp
  have hne : ¬ (x : Int) = pt t (x : Int) := by omega
  refine ⟨M.idxOf (pt t (x : Int)) + 1, ?_, by omega, ?_, ?_, ?_, ?_, ?_, ?_⟩
  · rw [h1, List.idxOf_cons, show ((x : Int) == pt t (x : Int)) = false from by simpa using hne, cond_false]
  · rw [h1, List.length_cons]
    have := List.idxOf_lt_length_of_mem h2
    omega
  · rw [h1]; exact List.mem_cons_of_mem _ h2
  · rw [h1]; rfl
  · rw [h1, rd_nat, List.getD_cons_succ]
    have := List.idxOf_lt_length_of_mem h2
    rw [List.getD_eq_getElem?_getD, List.getElem?_eq_getElem this, Option.getD_some, List.getElem_idxOf]
  · intro j hj
    rw [h1]
    cases j with
    | zero => exact hne
    | succ j =>
      rw [rd_nat, List.getD_cons_succ]
      have := idxOf_before M (pt t (x : Int)) j (by omega)
      rw [rd_nat] at this
      exact this
  · rw [h1, h3, List.eraseIdx_cons_succ, List.drop_one, List.tail_cons]
theorem lft_end : lft t (4 * t.length) = [] := by unfold lft; rw [Nat.sub_self]; rfl
/-- The program's loop over what is left. -/
theorem mnQ_ev (h : Clo t) (hn : t.length ≤ 4) : ∀ (d x : Nat) (num : Int), x + d = 4 * t.length → Ev (fun k => mnQ (prs t (4 * t.length)) k num (lft t x)) (numR t d x num)
  | 0, x, num, hd => by
    obtain rfl : x = 4 * t.length := by omega
    rw [lft_end, numR]
    exact ev_step (f := fun _ => some num) (fun k => by rw [mnQ, if_pos (show ([] : List Int).length = 0 from rfl)]) (Ev.now _)
  | d + 1, x, num, hd => by
    have hx : x < 4 * t.length := by omega
    have h8 := (isTri_good h.tri).1
    rw [numR]
    by_cases hp : (x : Int) < pt t (x : Int)
    · rw [if_pos hp]
      obtain ⟨i, e1, e2, e3, e4, e5, e6, e7, e8⟩ := lft_round h hx hp
      have hl := lft_len (t := t) x
      have ha := h.at (x := (x : Int)) (by omega) (by omega)
      have ih := mnQ_ev h hn d (x + 1) (wrap64 (num + wrap64 (wrap64 ((i : Int) - 1) * mtv (((lft t x).length : Int) - 2)))) (by omega)
      rw [e1]
      refine ev_step (f := fun k => (mnI k (prs t (4 * t.length)) (lft t x)).bind fun i => if 0 ≤ i ∧ i < ((lft t x).length : Int) ∧ 2 ≤ (lft t x).length then (impl_matchings.f k (wrap64 (((lft t x).length : Int) - 2))).bind fun m => mnQ (prs t (4 * t.length)) k (wrap64 (num + wrap64 (wrap64 (i - 1) * m))) (((lft t x).eraseIdx i.toNat).drop 1) else none) (fun k => by rw [mnQ, if_neg (by omega)]) ?_
      refine Ev.bind (a := (i : Int)) ?_ (ev_pos ⟨by omega, by omega, by omega⟩ ?_)
      · refine ev_pos ⟨by rw [e5]; omega, by rw [e5, prs_len]; omega⟩ ?_
        rw [e5, prs_rd t hx, ← e1]
        exact index_mem (by omega) e4
      · rw [wrap_id (x := ((lft t x).length : Int) - 2) (by omega) (by omega)]
        refine Ev.bind (mats_ev (by omega) (by omega)).1 ?_
        rw [Int.toNat_natCast, e8]
        exact ih
    · rw [if_neg hp, ← lft_skip h hx hp]
      exact mnQ_ev h hn d (x + 1) num (by omega)
theorem gn_spec_l1 (h : Clo t) {n num dig : Int} {left : List Int} {x g a0 a1 : Int} (hl : left.length ≤ 1000) {i : Nat} (hi : i < left.length) (hno : ∀ j : Nat, j < i → rd left (j : Int) ≠ wrap64 (wrap64 (4 * a0) + g)) {R : Int × Int} (hR : Ev (fun k => spec_GluingNumber.l1 k n left num dig x g (i : Int) t a0 a1) R) :
    ∀ d j : Nat, j + d = i → Ev (fun k => spec_GluingNumber.l1 k n left num dig x g (j : Int) t a0 a1) R
  | 0, j, e => by
    obtain rfl : j = i := by omega
    exact hR
  | d + 1, j, e => by
    have ih := gn_spec_l1 h hl hi hno hR d (j + 1) (by omega)
    exact ev_step (fun k => by rw [spec_GluingNumber.l1, if_pos (by omega), if_pos (by omega), if_neg (hno j (by omega)), wrap_succ (by omega)]) ih
theorem gn_spec_l2 {n num dig : Int} {left perms : List Int} {a0 a1 : Int} (hl : perms.length ≤ 1000) {i : Nat} (hi : i < perms.length) (hno : ∀ j : Nat, j < i → rd perms (j : Int) ≠ a1) {R : Int × Int} (hR : Ev (fun k => spec_GluingNumber.l2 k n left num dig perms (i : Int) t a0 a1) R) :
    ∀ d j : Nat, j + d = i → Ev (fun k => spec_GluingNumber.l2 k n left num dig perms (j : Int) t a0 a1) R
  | 0, j, e => by
    obtain rfl : j = i := by omega
    exact hR
  | d + 1, j, e => by
    have ih := gn_spec_l2 hl hi hno hR d (j + 1) (by omega)
    exact ev_step (fun k => by rw [spec_GluingNumber.l2, if_pos (by omega), if_pos (by omega), if_neg (hno j (by omega)), wrap_succ (by omega)]) ih
theorem take_drop_cut (l : List Int) (i : Nat) (h1 : 1 ≤ i) (h2 : i < l.length) : ([] ++ (l.take i).drop 1) ++ l.drop (i + 1) = (l.eraseIdx i).drop 1 := by
  cases l with
  | nil => simp at h2
  | cons a l =>
    obtain ⟨j, rfl⟩ : ∃ j, i = j + 1 := ⟨i - 1, by omega⟩
    simp [List.eraseIdx_eq_take_drop_succ]
end
section
variable {t : Tri}
theorem gn_l1_hit {n num dig x g a0 a1 m : Int} {left N' perms : List Int} {i : Nat} {R : Int × Int} (hl : left.length ≤ 16) (e2 : 1 ≤ i) (e3 : i < left.length) (hat : rd left (i : Int) = wrap64 (wrap64 (4 * a0) + g)) (e8 : (left.eraseIdx i).drop 1 = N')
    (hm : Ev (fun k => spec_l16Matchings.f k ((left.length : Int) - 2)) m) (hp : Ev (fun k => spec_l16Perms.f k (Int.tmod x 4) g) perms) (hR : Ev (fun k => spec_GluingNumber.l2 k n N' (wrap64 (num + wrap64 (wrap64 ((i : Int) - 1) * m))) dig perms 0 t a0 a1) R) :
    Ev (fun k => spec_GluingNumber.l1 k n left num dig x g (i : Int) t a0 a1) R := by
  have hc1 : wrap64 ((i : Int) + 1) = ((i + 1 : Nat) : Int) := wrap_succ (by omega)
  have hc2 : wrap64 ((left.length : Int) - 2) = (left.length : Int) - 2 := wrap_id (by omega) (by omega)
  have l1 : ((left.take i).drop 1).length ≤ 100 := by rw [yly, ymy]; omega
  have l2 : (left.drop (i + 1)).length ≤ 100 := by rw [yly]; omega
  have b0 : (0 : Int) ≤ (i : Int) := by omega
  have b1 : (i : Int) < (left.length : Int) := by omega
  have b2 : (1 : Int) ≤ (i : Int) := by omega
  have b3 : (i : Int) ≤ (left.length : Int) := by omega
  have b4 : (0 : Int) ≤ ((i + 1 : Nat) : Int) := by omega
  have b5 : ((i + 1 : Nat) : Int) ≤ (left.length : Int) := by omega
  have b6 : ([] : List Int).length + ((left.take i).drop 1).length < 17592186044416 := by rw [List.length_nil]; omega
  have b7 : ([] ++ (left.take i).drop 1).length + (left.drop (i + 1)).length < 17592186044416 := by rw [List.nil_append]; omega
  have hcut := take_drop_cut left i e2 e3
  clear l1 l2
  refine ev_step (f := fun k => (spec_l16Matchings.f k ((left.length : Int) - 2)).bind fun t113 => (spec_l16Perms.f k (Int.tmod x 4) g).bind fun t131 => spec_GluingNumber.l2 k n N' (wrap64 (num + (wrap64 ((wrap64 ((i : Int) - 1)) * t113)))) dig t131 0 t a0 a1) (fun k => ?_) (Ev.bind hm (Ev.bind hp hR))
  rw [spec_GluingNumber.l1, if_pos b0, if_pos b1, if_pos hat, hc2]
  refine congrArg _ (funext fun t113 => ?_)
  rw [yfy, if_pos b2, if_pos b3, yfy, Int.toNat_natCast, if_pos b6, yfy, hc1, if_pos b4, if_pos b5, yfy, Int.toNat_natCast, if_pos b7, hcut, e8]
theorem pt_wrap (hn : t.length ≤ 4) {x : Int} (a0 : 0 ≤ pt t x) (a1 : pt t x < 4 * (t.length : Int)) {g : Int} (a4 : pt t x / 4 = (fc t (x / 4) (x % 4)).f0) (a5 : pt t x % 4 = g) : wrap64 (wrap64 (4 * (fc t (x / 4) (x % 4)).f0) + g) = pt t x := by
  rw [← a4, ← a5]
  generalize pt t x = y at a0 a1
  unfold wrap64
  omega
/-- The reference's loop over what is left. -/
theorem gn_spec_l0 (h : Clo t) (hn : t.length ≤ 4) : ∀ (d x : Nat) (num dig : Int) (R : Int × Int), x + d = 4 * t.length → Ev (fun k => spec_GluingNumber.l3 k (t.length : Int) (numR t d x num) (digR t d x dig) 0) R → Ev (fun k => spec_GluingNumber.l0 k (t.length : Int) (lft t x) num dig t) R
  | 0, x, num, dig, R, hd, hR => by
    obtain rfl : x = 4 * t.length := by omega
    rw [lft_end]
    rw [numR, digR] at hR
    exact ev_step (fun k => by rw [spec_GluingNumber.l0, if_neg (show ¬ ((([] : List Int).length : Nat) : Int) > 0 by simp)]) hR
  | d + 1, x, num, dig, R, hd, hR => by
    have hx : x < 4 * t.length := by omega
    have h8 := (isTri_good h.tri).1
    rw [numR, digR] at hR
    by_cases hp : (x : Int) < pt t (x : Int)
    · rw [if_pos hp, if_pos hp] at hR
      obtain ⟨i, e1, e2, e3, e4, e5, e6, e7, e8⟩ := lft_round h hx hp
      have hl := lft_len (t := t) x
      obtain ⟨a0, a1, a2, a3, p0, p1, a4, a5⟩ := h.at (x := (x : Int)) (by omega) (by omega)
      have ih := gn_spec_l0 h hn d (x + 1) _ _ R (by omega) hR
      have ed : wrap64 (Int.tdiv (rd (lft t x) 0) 4) = (x : Int) / 4 := by rw [e5, Int.tdiv_eq_ediv_of_nonneg (by omega)]; exact wrap_id (by omega) (by omega)
      have em : Int.tmod (rd (lft t x) 0) 4 = (x : Int) % 4 := by rw [e5, Int.tmod_eq_emod_of_nonneg (by omega)]
      have em2 : Int.tmod (x : Int) 4 = (x : Int) % 4 := Int.tmod_eq_emod_of_nonneg (by omega)
      have hr := rowlen h.tri (show 0 ≤ (x : Int) / 4 by omega) (by omega)
      have hs := permL_sm p0 p1 (show 0 ≤ (x : Int) % 4 by omega) (by omega)
      have hg := (l06At_ev p0 p1 (show 0 ≤ (x : Int) % 4 by omega) (by omega))
      have hw := pt_wrap (t := t) hn a0 a1 a4 a5
      have hmm := mapL_mem (f := (x : Int) % 4) (g := rd (permL (qp t (x : Int))) ((x : Int) % 4)) p0 p1 rfl
      have hml := mapL_len ((x : Int) % 4) (rd (permL (qp t (x : Int))) ((x : Int) % 4))
      have hlt := List.idxOf_lt_length_of_mem hmm
      obtain ⟨j, hj⟩ : ∃ j, (mapL ((x : Int) % 4) (rd (permL (qp t (x : Int))) ((x : Int) % 4))).idxOf (qp t (x : Int)) = j := ⟨_, rfl⟩
      have hbef := fun q (hq : q < j) => idxOf_before (mapL ((x : Int) % 4) (rd (permL (qp t (x : Int))) ((x : Int) % 4))) (qp t (x : Int)) q (by rw [hj]; exact hq)
      have hat : rd (mapL ((x : Int) % 4) (rd (permL (qp t (x : Int))) ((x : Int) % 4))) (j : Int) = qp t (x : Int) := by
        rw [rd_nat, List.getD_eq_getElem?_getD, List.getElem?_eq_getElem (by rw [← hj]; exact hlt), Option.getD_some]
        subst hj
        exact List.getElem_idxOf hlt
      rw [hj] at hlt
      rw [e1, a5, hj] at ih
      have hfc : rd_Face (rd_LFace t ((x : Int) / 4)) ((x : Int) % 4) = fc t ((x : Int) / 4) ((x : Int) % 4) := rfl
      -- the permutations are looked through
      have s2 : ∀ num' : Int, Ev (fun k => spec_GluingNumber.l0 k (t.length : Int) (lft t (x + 1)) num' (wrap64 (wrap64 (6 * dig) + (j : Int))) t) R → Ev (fun k => spec_GluingNumber.l2 k (t.length : Int) (lft t (x + 1)) num' dig (mapL ((x : Int) % 4) (rd (permL (qp t (x : Int))) ((x : Int) % 4))) 0 t (fc t ((x : Int) / 4) ((x : Int) % 4)).f0 (qp t (x : Int))) R := fun num' hN => by
        refine gn_spec_l2 (i := j) (by omega) hlt hbef ?_ j 0 (by omega)
        exact ev_step (fun k => by rw [spec_GluingNumber.l2, if_pos (by omega), if_pos (by omega), if_pos hat]) hN
      have s1 := gn_l1_hit (t := t) (n := (t.length : Int)) (num := num) (dig := dig) (x := (x : Int)) (g := rd (permL (qp t (x : Int))) ((x : Int) % 4)) (a0 := (fc t ((x : Int) / 4) ((x : Int) % 4)).f0) (a1 := qp t (x : Int)) (by omega) e2 e3 (by rw [e6, hw]) e8 (mats_ev (by omega) (by omega)).2 (by rw [em2]; exact perms16_ev (by omega) (by omega) hs.1 hs.2) (s2 _ ih)
      have s0 := gn_spec_l1 h (by omega) e3 (fun q hq => by rw [hw]; exact e7 q hq) s1 (i - 1) 1 (by omega)
      refine ev_step (f := fun k => (spec_l06At.f k (fc t ((x : Int) / 4) ((x : Int) % 4)).f1 ((x : Int) % 4)).bind fun t111 => spec_GluingNumber.l1 k (t.length : Int) (lft t x) num dig (x : Int) t111 1 t (fc t ((x : Int) / 4) ((x : Int) % 4)).f0 (fc t ((x : Int) / 4) ((x : Int) % 4)).f1) (fun k => ?_) (Ev.bind hg s0)
      rw [spec_GluingNumber.l0, if_pos (by omega), if_pos (by omega), ed, em, e5, if_pos (by omega), if_pos (by omega), if_pos (by omega), if_pos (by omega), hfc]
    · rw [if_neg hp, if_neg hp] at hR
      rw [← lft_skip h hx hp]
      exact gn_spec_l0 h hn d (x + 1) num dig R (by omega) hR
end
section
variable {t : Tri}
theorem gn_spec_l3 {n : Nat} (hn : n ≤ 4) (dig : Int) : ∀ (d j : Nat) (num : Int), j + d = 2 * n → Ev (fun k => spec_GluingNumber.l3 k (n : Int) num dig (j : Int)) (wrap64 (mul6 d num + dig), 0)
  | 0, j, num, hd => ev_step (f := fun _ => some (wrap64 (num + dig), 0)) (fun k => by rw [spec_GluingNumber.l3, wrap_id (x := 2 * (n : Int)) (by omega) (by omega), if_neg (by omega)]) (Ev.now _)
  | d + 1, j, num, hd => by
    have ih := gn_spec_l3 hn dig d (j + 1) (wrap64 (num * 6)) (by omega)
    exact ev_step (fun k => by rw [spec_GluingNumber.l3, wrap_id (x := 2 * (n : Int)) (by omega) (by omega), if_pos (by omega), wrap_succ (by omega)]) ih
theorem fx_wrap {a f : Nat} (ha : a ≤ 8) (hf : f ≤ 4) : wrap64 (wrap64 (4 * (a : Int)) + (f : Int)) = ((4 * a + f : Nat) : Int) := by unfold wrap64; omega
theorem fx_tmod {a f : Nat} (hf : f < 4) : Int.tmod ((4 * a + f : Nat) : Int) 4 = (f : Int) := by rw [Int.tmod_eq_emod_of_nonneg (by omega)]; omega
theorem gn_l1_step {ps : List Int} {dig g x y : Int} {a f : Nat} {row : List SFace} {R : Int × Int} (hf : f < 4) (hps : ps.length ≤ 100) (hr : row.length = 4) (ht : impl_Face_target.f (rd_Face row (f : Int)).f0 (rd_Face row (f : Int)).f1 (f : Int) = some g)
    (hw : wrap64 (wrap64 (4 * (rd_Face row (f : Int)).f0) + g) = y) (hx : wrap64 (wrap64 (4 * (a : Int)) + (f : Int)) = x) {G : Nat → Option (Int × Int)}
    (hG : ∀ k, (if x < y then ((impl_mapping.f (Int.tmod x 4) (Int.tmod y 4)).bind fun t113 => ((slices_Index_Sint64.f k t113 (rd_Face row (f : Int)).f1).bind fun t116 => (impl_GluingNumber.l1 k (ps ++ [y]) (wrap64 ((wrap64 (6 * dig)) + t116)) (a : Int) t (t.length : Int) (a : Int) row 4 ((f + 1 : Nat) : Int) t))) else (impl_GluingNumber.l1 k (ps ++ [y]) dig (a : Int) t (t.length : Int) (a : Int) row 4 ((f + 1 : Nat) : Int) t)) = G k) (h : Ev G R) :
    Ev (fun k => impl_GluingNumber.l1 k ps dig (a : Int) t (t.length : Int) (a : Int) row 4 (f : Int) t) R := by
  have b0 : (f : Int) < 4 := by omega
  have b1 : (0 : Int) ≤ (f : Int) := by omega
  have b2 : (f : Int) < (row.length : Int) := by omega
  have b3 : ps.length < 17592186044416 := by omega
  have b4 : wrap64 ((f : Int) + 1) = ((f + 1 : Nat) : Int) := wrap_succ (by omega)
  refine ev_step (fun k => ?_) h
  rw [impl_GluingNumber.l1, if_pos b0, if_pos b1, if_pos b2, ht, yfy, if_pos b3, yfy, hw, hx, b4]
  exact hG k
/-- The program's loop over the faces of a tetrahedron. -/
theorem gn_impl_l1 (h : Clo t) (hn : t.length ≤ 4) {a : Nat} (ha : a < t.length) {R : Int × Int} : ∀ (d f : Nat) (dig : Int), f + d = 4 →
    Ev (fun k => impl_GluingNumber.l0 k (prs t (4 * a + 4)) (digR t d (4 * a + f) dig) t (t.length : Int) (wrap64 ((a : Int) + 1)) t) R →
    Ev (fun k => impl_GluingNumber.l1 k (prs t (4 * a + f)) dig (a : Int) t (t.length : Int) (a : Int) (rd_LFace t (a : Int)) 4 (f : Int) t) R
  | 0, f, dig, hf, hR => by
    obtain rfl : f = 4 := by omega
    rw [digR] at hR
    exact ev_step (fun k => by rw [impl_GluingNumber.l1, if_neg (by omega)]) hR
  | d + 1, f, dig, hf, hR => by
    have ha8 : a ≤ 8 := by omega
    have hf3 : f < 4 := by omega
    have hf4 : f ≤ 4 := by omega
    have hf1 : f + 1 + d = 4 := by omega
    have hps : (prs t (4 * a + f)).length ≤ 100 := by rw [prs_len]; omega
    have z0 : (0 : Int) ≤ (f : Int) := by omega
    have z3 : (f : Int) ≤ 3 := by omega
    have hr := rowlen h.tri (show 0 ≤ (a : Int) by omega) (by omega)
    have ex : ((4 * a + f : Nat) : Int) / 4 = (a : Int) := by omega
    have em : ((4 * a + f : Nat) : Int) % 4 = (f : Int) := by omega
    obtain ⟨a0, a1, a2, a3, p0, p1, a4, a5⟩ := h.at (x := ((4 * a + f : Nat) : Int)) (by omega) (by omega)
    have hfc : rd_Face (rd_LFace t (a : Int)) (f : Int) = fc t (((4 * a + f : Nat) : Int) / 4) (((4 * a + f : Nat) : Int) % 4) := by rw [ex, em]
    have hq : (fc t (((4 * a + f : Nat) : Int) / 4) (((4 * a + f : Nat) : Int) % 4)).f1 = qp t ((4 * a + f : Nat) : Int) := rfl
    rw [em] at a5
    have hs := permL_sm p0 p1 (show 0 ≤ (f : Int) by omega) (by omega)
    have ht := target_eq (q := (fc t (((4 * a + f : Nat) : Int) / 4) (((4 * a + f : Nat) : Int) % 4)).f0) p0 p1 (show 0 ≤ (f : Int) by omega) (by omega)
    have hw := pt_wrap (t := t) hn a0 a1 (x := ((4 * a + f : Nat) : Int)) a4 a5
    have hx := fx_wrap ha8 hf4
    rw [digR] at hR
    have em1 := fx_tmod (a := a) hf3
    have em2 : Int.tmod (pt t ((4 * a + f : Nat) : Int)) 4 = rd (permL (qp t ((4 * a + f : Nat) : Int))) (f : Int) := (Int.tmod_eq_emod_of_nonneg a0).trans a5
    have hstep : ∀ {g : Nat → Option (Int × Int)}, (∀ k, (if ((4 * a + f : Nat) : Int) < pt t ((4 * a + f : Nat) : Int) then ((impl_mapping.f (f : Int) (rd (permL (qp t ((4 * a + f : Nat) : Int))) (f : Int))).bind fun t113 => ((slices_Index_Sint64.f k t113 (qp t ((4 * a + f : Nat) : Int))).bind fun t116 => (impl_GluingNumber.l1 k (prs t (4 * a + f + 1)) (wrap64 ((wrap64 (6 * dig)) + t116)) (a : Int) t (t.length : Int) (a : Int) (rd_LFace t (a : Int)) 4 ((f + 1 : Nat) : Int) t))) else (impl_GluingNumber.l1 k (prs t (4 * a + f + 1)) dig (a : Int) t (t.length : Int) (a : Int) (rd_LFace t (a : Int)) 4 ((f + 1 : Nat) : Int) t)) = g k) → Ev g R → Ev (fun k => impl_GluingNumber.l1 k (prs t (4 * a + f)) dig (a : Int) t (t.length : Int) (a : Int) (rd_LFace t (a : Int)) 4 (f : Int) t) R := fun {g} hg hG => by
      refine gn_l1_step (t := t) (x := ((4 * a + f : Nat) : Int)) (y := pt t ((4 * a + f : Nat) : Int)) hf3 hps hr (by rw [hfc, hq]; exact ht) (by rw [hfc]; exact hw) hx (fun k => ?_) hG
      rw [hfc, hq, em1, em2, ← prs_succ]
      exact hg k
    have ih := fun dig' (hN : Ev (fun k => impl_GluingNumber.l0 k (prs t (4 * a + 4)) (digR t d (4 * a + f + 1) dig') t (t.length : Int) (wrap64 ((a : Int) + 1)) t) R) => gn_impl_l1 h hn ha (R := R) d (f + 1) dig' hf1 hN
    by_cases hp : ((4 * a + f : Nat) : Int) < pt t ((4 * a + f : Nat) : Int)
    · rw [if_pos hp, em, a5] at hR
      refine hstep (fun k => if_pos hp) (Ev.bind (ev_const (if_pos ⟨z0, z3⟩)) (Ev.bind (index_mem (Nat.le_trans (mapL_len _ _) (by decide)) (mapL_mem p0 p1 rfl)) ?_))
      exact ih _ hR
    · rw [if_neg hp] at hR
      exact hstep (fun k => if_neg hp) (ih _ hR)
theorem gn_impl_l0 (h : Clo t) (hn : t.length ≤ 4) : ∀ (d a : Nat) (dig : Int), a + d = t.length → Ev (fun k => impl_GluingNumber.l0 k (prs t (4 * a)) dig t (t.length : Int) (a : Int) t) (wrap64 (wrap64 (numR t (4 * t.length) 0 0 * 6 ^ (2 * t.length)) + digR t (4 * d) (4 * a) dig), 0)
  | 0, a, dig, hd => by
    obtain rfl : a = t.length := by omega
    refine ev_step (fun k => by rw [impl_GluingNumber.l0, if_neg (by omega)]) ?_
    have hc : Ev (fun k => impl_counting.f k ((prs t (4 * t.length)).length : Int)) (upFrom 0 (4 * t.length)) := by
      rw [prs_len]
      obtain ⟨j, hj⟩ : ∃ j : Fin 5, t.length = j.val := ⟨⟨t.length, by omega⟩, rfl⟩
      have key : ∀ j : Fin 5, impl_counting.f 40 ((4 * j.val : Nat) : Int) = some (upFrom 0 (4 * j.val)) := by decide +kernel
      rw [hj]
      exact Ev.of (fun k => impl_counting.mono _ k) (key j)
    refine Ev.bind (Ev.bind hc ?_) (Ev.bind (ev_const rfl) (Ev.bind (gluings_ev hn) (Ev.now _)))
    have := mnQ_ev h hn (4 * t.length) 0 0 (by omega)
    rw [lft_zero h] at this
    exact this
  | d + 1, a, dig, hd => by
    have hr := rowlen h.tri (show 0 ≤ (a : Int) by omega) (by omega)
    refine ev_step (fun k => by rw [impl_GluingNumber.l0, if_pos (by omega), if_pos (by omega), if_pos (by omega), hr]) ?_
    have ih := gn_impl_l0 h hn d (a + 1) (digR t 4 (4 * a) dig) (by omega)
    refine gn_impl_l1 h hn (show a < t.length by omega) 4 0 dig (by omega) ?_
    rw [wrap_succ (by omega), show 4 * a + 4 = 4 * (a + 1) by omega, Nat.add_zero]
    rw [show 4 * (d + 1) = 4 + 4 * d by omega, digR_add, show 4 * a + 4 = 4 * (a + 1) by omega]
    exact ih
/-- What both sides come to. -/
def gnR (t : Tri) : Int × Int := if isClosed t = true then (if (t.length : Int) > 4 then (0, 2) else (wrap64 (wrap64 (numR t (4 * t.length) 0 0 * 6 ^ (2 * t.length)) + digR t (4 * t.length) 0 0), 0)) else (0, 1)
theorem impl_gn_ev (hs : Small t) : Ev (fun k => impl_GluingNumber.f k t) (gnR t) := by
  refine Ev.bind (impl_isClosed_ev hs) ?_
  unfold gnR
  by_cases h : isClosed t = true
  · rw [if_pos h]
    obtain ⟨hc, hpos⟩ := clo_of h
    refine ev_pos h ?_
    by_cases hn : (t.length : Int) > 4
    · rw [if_pos hn]; exact ev_pos hn (Ev.now _)
    · rw [if_neg hn]
      exact ev_neg hn (gn_impl_l0 hc (by omega) t.length 0 0 (by omega))
  · rw [if_neg h]
    exact ev_neg h (Ev.now _)
theorem spec_gn_ev (t : Tri) : Ev (fun k => spec_GluingNumber.f k t) (gnR t) := by
  refine Ev.bind (spec_isClosed_ev t) ?_
  unfold gnR
  by_cases h : isClosed t = true
  · rw [if_pos h]
    obtain ⟨hc, hpos⟩ := clo_of h
    refine ev_pos h (Ev.bind (a := (t.length : Int)) (ev_const rfl) ?_)
    by_cases hn : (t.length : Int) > 4
    · rw [if_pos hn]; exact ev_pos hn (Ev.now _)
    · rw [if_neg hn]
      have hf := fresh_ev (4 * t.length) (by omega)
      have ew : wrap64 (4 * (t.length : Int)) = ((4 * t.length : Nat) : Int) := by rw [wrap_id (by omega) (by omega)]; omega
      refine ev_neg hn (Ev.bind (a := upFrom 0 (4 * t.length)) (by rw [ew]; exact hf) ?_)
      rw [← lft_zero hc]
      refine gn_spec_l0 hc (by omega) (4 * t.length) 0 0 0 _ (by omega) ?_
      have := gn_spec_l3 (n := t.length) (by omega) (digR t (4 * t.length) 0 0) (2 * t.length) 0 (numR t (4 * t.length) 0 0) (by omega)
      obtain ⟨e, he⟩ : ∃ e, 2 * t.length = e + 1 := ⟨2 * t.length - 1, by omega⟩
      rw [he, mul6_eq, ← he] at this
      exact this
  · rw [if_neg h]
    exact ev_neg h (Ev.now _)
end
end Go.Proofs.Ytfnopcbicceeaaa.P
namespace Go.Proofs.Ytfnopcbicceeaaa.Pure
open Go.RowKit Go.Proofs.Ytfnopcbicceeaaa.P Go.Proofs.Ytfnopcbicceeaaa.Lib Go.Proofs.YtfnopcbicceeaaaW.PrintWords
set_option linter.unusedVariables false
theorem FnExactGluingNumber (l : List (List SLawFace)) (h : Fits l) : ∃ k, laws_FnExactGluingNumber.f k l = some true := by
  refine Ev.rounds ?_
  obtain ⟨r, hr, hs⟩ := szTriangulation_ev l h
  refine Ev.bind hr ?_
  by_cases hn : r < 0
  · exact ev_pos hn (Ev.now true)
  have hsm := hs hn
  have hto := toTriangulation_ev l hsm
  have hS := cvT_small hsm
  have hsp := spec_gn_ev (cvT l)
  have him := impl_gn_ev hS
  generalize gnR (cvT l) = o at *
  refine ev_neg hn ?_
  refine Ev.bind hto ?_
  refine Ev.bind hsp ?_
  refine Ev.bind hto ?_
  refine Ev.bind him ?_
  refine ev_pos rfl ?_
  have hj : Ev (fun k => laws_FnExactGluingNumber.j0 k (o.2 != o.2) l (cvT l)) true := by
    rw [bne_self_eq_false]
    refine ev_step (f := fun k => (laws_toTriangulation.f k l).bind fun t114 => (laws_eqTriangulation.f k (cvT l) t114).bind fun t117 => if t117 = true then some true else some false) (fun k => by rw [laws_FnExactGluingNumber.j0, if_neg (by decide)]) ?_
    refine Ev.bind hto ?_
    exact Ev.bind (eqTriangulation_ev _ hS) (ev_pos rfl (Ev.now true))
  exact hj
end Go.Proofs.Ytfnopcbicceeaaa.Pure
namespace Go.Proofs.Ytfnopcbicceeaaa.Lib
open Go.RowKit Go.Proofs.YtfnopcbicceeaaaW.PrintWords Go.Joins Go.Deep Go.WideShapes Go.ChangeShapes
set_option linter.unusedVariables false
/-- Whatever reads as data at type t reads as a value of the kind d. -/
def Opens (P : Program) (t : TypeId) {α : Type} (d : Kd α) : Prop := ∀ (H : Type) (enc : TypeId × Value → H) (w : World) (base : Nat) (spare : Nat → Bool) (held : Bool) (fuel : Nat) (cs : List Value) (x : DataW H × List MemPlace),
  DataW.trod enc P w base spare held fuel t cs = some x → ∃ y, d.K w y cs
theorem pick_list {α : Type} {R : Nat → α → Prop} : ∀ n, (∀ i, i < n → ∃ y, R i y) → ∃ ys : List α, ys.length = n ∧ ∀ j p, ys[j]? = some p → R j p
  | 0, _ => ⟨[], rfl, fun j p h => by simp at h⟩
  | n + 1, h => by
    obtain ⟨ys, hl, hr⟩ := pick_list n (fun i hi => h i (by omega))
    obtain ⟨y, hy⟩ := h n (by omega)
    refine ⟨ys ++ [y], by simp [hl], fun j p hj => ?_⟩
    by_cases hlt : j < n
    · rw [List.getElem?_append_left (by omega)] at hj
      exact hr j p hj
    · have hjn : j < (ys ++ [y]).length := (List.getElem?_eq_some_iff.1 hj).1
      have : j = n := by simp [hl] at hjn; omega
      subst this
      rw [List.getElem?_append_right (by omega), hl, Nat.sub_self] at hj
      injection hj with hj
      rw [← hj]
      exact hy
theorem opens_slice {P : Program} {t e : TypeId} {α : Type} {d : Kd α} (ht : P.underlying t = some (.slice e)) (hc : P.cellsOf e = d.sz) (h : Opens P e d) : Opens P t (Kd.slice e d) := by
  intro H enc w base spare held fuel cs x hx
  rcases open_slice ht hx with ⟨rfl, _⟩ | ⟨a, len, cap, m, n, D, Pl, rfl, hb, hl, hm, hmm, _, hi⟩
  · exact ⟨[], none, 0, rfl, yoy _, Kd.C_nil d w⟩
  · have each : ∀ i, i < len → ∃ y, ∃ cs', w.cells? base (a.add (i * d.sz)) d.sz = some cs' ∧ d.K w y cs' := by
      intro i hil
      have him : i < m := by rw [hmm]; split <;> omega
      obtain ⟨cs', h1, h2⟩ := hi i him
      obtain ⟨y, hy⟩ := h H enc w base spare held n cs' _ h2
      rw [hc] at h1
      exact ⟨y, cs', h1, hy⟩
    obtain ⟨ys, hlen, hys⟩ := pick_list len each
    refine ⟨ys, some a, cap, by rw [hlen], by omega, rfl, ?_, fun _ => ⟨a, rfl, fun j p hj => ?_⟩⟩
    · unfold maxLen at hm; omega
    · obtain ⟨cs', h1, h2⟩ := hys j p hj
      obtain ⟨_, h3, h4⟩ := World.cells?_some h1
      refine ⟨cs', h3, h2, fun i u hu => ?_⟩
      have hil : i < d.sz := by rw [← h3]; exact (List.getElem?_eq_some_iff.1 hu).1
      rw [← hu, ← h4 i hil, Go.Deep.add_add]
theorem opens_struct2 {P : Program} {t : TypeId} {f0 f1 : Field} {α : Type} (hs : P.underlying t = some (.struct #[f0, f1])) (hone : oneCellFields P #[f0, f1] = true) (hC : P.cellsOf t = 2)
    (h0 : P.underlying f0.type = some (.int .i64)) (h1 : P.underlying f1.type = some (.int .i64)) (d : Kd α) (mk : Int → Int → α) (hK : ∀ w a b, d.K w (mk a b) [.int .i64 a, .int .i64 b]) : Opens P t d := by
  intro H enc w base spare held fuel cs x h
  obtain ⟨y0, y1, n, hx, hl, g0, g1⟩ := trod_struct2 hs h
  obtain ⟨o0, k0⟩ := hone_of hone 0 f0 rfl
  obtain ⟨o1, k1⟩ := hone_of hone 1 f1 rfl
  rw [hC] at hl
  match cs, hl with
  | [c0, c1], _ =>
    rw [o0, k0] at g0
    rw [o1, k1] at g1
    obtain ⟨a, e0, _, _⟩ := DataW.trod_int h0 g0
    obtain ⟨b, e1, _, _⟩ := DataW.trod_int h1 g1
    simp at e0 e1
    subst e0 e1
    exact ⟨mk a b, hK w a b⟩
section
variable {H : Type} {enc : TypeId × Value → H} {P : Program} {w : World} {base : Nat} {spare : Nat → Bool} {held : Bool}
theorem array1 {α : Type} {cs : Array α} (h : cs.size = 1) : ∃ c0, cs = #[c0] := by
  obtain ⟨l⟩ := cs
  match l, h with
  | [c0], _ => exact ⟨c0, rfl⟩
/-- A struct that holds one slice, by value. -/
theorem open_agg1 {r : Reach} {b0 : Nat} {t e : TypeId} {f0 : Field} {α : Type} {d : Kd α} {v : Value} {D : DataW H} {p : List MemPlace} (hs : P.underlying t = some (.struct #[f0])) (hone : oneCellFields P #[f0] = true) (hC : P.cellsOf t = 1)
    (ho : Opens P f0.type (Kd.slice e d)) (hv : Value.okWide P w r b0 t v) (h : DataW.Trod enc P w base spare held t v D p) :
    ∃ (A : Option Addr) (c : Nat) (l : List α), v = .agg #[.slice A l.length c] ∧ l.length ≤ c ∧ d.C w A l.length l := by
  obtain ⟨cs, rfl, hsz⟩ := okWide_struct hs hv
  obtain ⟨c0, rfl⟩ := array1 (hsz.trans hC)
  obtain ⟨fuel, hf⟩ := h
  obtain ⟨y0, n, hx, _, h0⟩ := trod_struct1 hs hf
  obtain ⟨o0, k0⟩ := hone_of hone 0 f0 rfl
  have h0' : DataW.trod enc P w base spare held n f0.type [c0] = some y0 := by simpa [Value.cells, o0, k0] using h0
  obtain ⟨l, A, c, e1, hl, hCC⟩ := ho H enc w base spare held n _ _ h0'
  simp at e1
  subst e1
  exact ⟨A, c, l, rfl, hl, hCC⟩
end
theorem fits_of_C {e : Nat} {α : Type} {d : Kd α} {w : World} {A : Option Addr} {l : List (List α)} (h : (Kd.slice e d).C w A l.length l) : l.length ≤ 9223372036854775807 ∧ ∀ r ∈ l, r.length ≤ 9223372036854775807 := by
  refine ⟨h.2.1, fun r hr => ?_⟩
  obtain ⟨j, hj, rfl⟩ := List.mem_iff_getElem.1 hr
  obtain ⟨ad, _, hc⟩ := h.2.2 (by omega)
  obtain ⟨c, _, hK, _⟩ := hc j _ (List.getElem?_eq_getElem hj)
  obtain ⟨A', c', _, _, hC⟩ := hK
  exact hC.2.1
end Go.Proofs.Ytfnopcbicceeaaa.Lib
