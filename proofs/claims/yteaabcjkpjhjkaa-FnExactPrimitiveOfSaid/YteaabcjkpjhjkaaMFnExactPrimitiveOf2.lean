/- The statement FnExactPrimitiveOfSaid, proved: part 2 of 2 (texts of this session, put together by a program of it). -/
import Derived.Test.YteaabcjkpjhjkaaMFnExactPrimitiveOf1
import Derived.Test.YteaabcjkpjhjkaaRows
import Derived.WalkKit
import Derived.ProofKit
import Derived.OpenShut
import Derived.ShutString
import Derived.ChangeOld
import Derived.Below
import Derived.SizedLaws
import Derived.Test.YteaabcjkpjhjkaaWSized
-- Printed by a program of this session (drv.py), by means of the kit's print.py.
namespace Go.Proofs.Yteaabcjkpjhjkaa.P
open Go.RowKit Go.Proofs.YteaabcjkpjhjkaaW.PrintWords Go.Proofs.YteaabcjkpjhjkaaW.PrintLast Go.Proofs.YteaabcjkpjhjkaaW.PrintMore
attribute [local go_sem] max2_int min2_int max_two min_two max_three min_three max_four min_four   -- for this text's walks alone
set_option linter.unusedVariables false
set_option linter.unusedSimpArgs false

/-! ### spec_l20Candidates: function 20 -/
def spec_l20Candidates.l0 : Nat → List Int → Int → Int → Option (Int)
  | 0, _, _, _ => none
  | k + 1, x0, x3, x4 => if x4 < (x0.length : Int) then (if 0 ≤ x4 then (spec_l20Candidates.l0 k x0 (mn (wrap64 (x3 * (wrap64 ((rd x0 x4) + 1)))) 20001) (wrap64 (x4 + 1))) else (none)) else (some x3)
def spec_l20Candidates.f (k : Nat) (l0 : List Int) : Option (Int) := spec_l20Candidates.l0 k l0 1 0
theorem spec_l20Candidates.mono_l : ∀ k, (∀ y0 y1 y2, LeO (spec_l20Candidates.l0 k y0 y1 y2) (spec_l20Candidates.l0 (k + 1) y0 y1 y2))
  | 0 => fun _ _ _ r h => by simp [spec_l20Candidates.l0] at h
  | k + 1 => by
    have ih0 := spec_l20Candidates.mono_l k
    · intro y0 y1 y2
      unfold spec_l20Candidates.l0
      repeat' first
      | (with_reducible exact ih0 _ _ _)
      | (with_reducible exact LeO.refl _)
      | (with_reducible exact LeO.none _)
      | (with_reducible refine LeO.ite ?_ ?_)
      | (with_reducible refine LeO.bind ?_ (fun _ => ?_))
      | exact ih0 _ _ _
      | exact LeO.none _
      | refine LeO.ite ?_ ?_
      | refine LeO.bind ?_ (fun _ => ?_)
theorem spec_l20Candidates.mono : ∀ a0 k, LeO (spec_l20Candidates.f k a0) (spec_l20Candidates.f (k + 1) a0) := by
  intro a0 k
  have ih0 := spec_l20Candidates.mono_l k
  unfold spec_l20Candidates.f
  repeat' first
      | (with_reducible exact ih0 _ _ _)
      | (with_reducible exact LeO.refl _)
      | (with_reducible exact LeO.none _)
      | (with_reducible refine LeO.ite ?_ ?_)
      | (with_reducible refine LeO.bind ?_ (fun _ => ?_))
      | exact ih0 _ _ _
      | exact LeO.none _
      | refine LeO.ite ?_ ?_
      | refine LeO.bind ?_ (fun _ => ?_)
set_option maxHeartbeats 8000000 in
set_option maxRecDepth 100000 in
theorem spec_l20Candidates.calls (k : Nat) (A0 : Option Addr) (c0 : Nat) (l0 : List Int) (r : Int) (w : World) (hr0 : Kd.C (Kd.int .i64) w A0 l0.length l0) (hc0 : l0.length ≤ c0) (h : spec_l20Candidates.f k l0 = some r) :
    Calls Try.prog 20 #[.slice A0 l0.length c0] w fun e w' => e = .returned (.int .i64 r) ∧ Below w.heap.size w w' := by
  have HR0 := Aside0.mk hr0
  have HC0 := Aside0.mk hc0
  clear hr0 hc0
  have HB := Aside0.mk (Below.refl w.heap.size w)
  have H : (spec_l20Candidates.l0 k l0 1 0) = some r := h
  clear h
  have H' := Aside0.mk H
  clear H
  go_enter Try.func20, Try.ntmps20
  go_wp2
  go_loopg [3, 4] k (fun kq v3 v4 w' => ∃ (x3_1 : Int) (x4_1 : Int), v3 = .int .i64 x3_1 ∧ v4 = .int .i64 x4_1 ∧ Aside0 (spec_l20Candidates.l0 kq l0 x3_1 x4_1 = some r) ∧ Aside0 (kq ≤ k) ∧ Aside0 (Below w.heap.size w w'))
  case atStart => exact ⟨(1), (0), (by first | rfl | (simp; done) | (simp [*]; done)), (by first | rfl | (simp; done) | (simp [*]; done)), H', ⟨Nat.le_refl _⟩, ⟨by repeat (first | (with_reducible first | exact HB.out | apply below_alloc | apply pw_below_drewN | apply below_drew1) | exact HB.out)⟩⟩
  case round =>
    clear H'
    obtain ⟨x3_1, x4_1, rfl, rfl, HA, HK1, HB⟩ := hrel
    cases gk with
    | zero => exact absurd HA.out (by simp [spec_l20Candidates.l0])
    | succ k1 =>
      have H := HA.out
      clear HA
      simp only [spec_l20Candidates.l0] at H
      by_cases c2 : x4_1 < (l0.length : Int)
      · rw [if_pos c2] at H
        have c2b0 : decide (x4_1 < (l0.length : Int)) = true := decide_eq_true c2
        clear c2
        by_cases c3 : 0 ≤ x4_1
        · rw [if_pos c3] at H
          have c3b0 : decide (0 ≤ x4_1) = true := decide_eq_true c3
          clear c3
          obtain ⟨ji4, hji4⟩ : ∃ j_ : Int, (mn (wrap64 (x3_1 * (wrap64 ((rd l0 x4_1) + 1)))) 20001) = j_ := ⟨_, rfl⟩
          replace H : (spec_l20Candidates.l0 k1 l0 ji4 (wrap64 (x4_1 + 1))) = some r := by first | (rw [hji4] at H; exact H) | (simp only [hji4] at H ⊢; exact H)
          have hji4_ : (if 20001 < (wrap64 (x3_1 * (wrap64 ((rd l0 x4_1) + 1)))) then 20001 else (wrap64 (x3_1 * (wrap64 ((rd l0 x4_1) + 1))))) = ji4 := hji4
          have H' := Aside0.mk H
          clear H
          have p101 : 0 ≤ (x4_1 : Int) := of_decide_eq_true (by first | (with_reducible assumption) | assumption)
          have q101 : x4_1 < (l0.length : Int) := of_decide_eq_true (by first | (with_reducible assumption) | assumption)
          obtain ⟨ad101, e101, hx101_0⟩ := Kd.at_int HR0.out x4_1 p101 q101
          cases e101
          replace hx101_0 := (HB.out.cell (World.block_lt_of_cell? w _ hx101_0)).trans hx101_0
          replace p101 := eq_true p101
          replace q101 := eq_true q101
          go_wp2
          go_roundg k1
          case measure => have := HK1.out; omega
          case rel => exact ⟨(ji4), (wrap64 (x4_1 + 1)), (by first | rfl | (simp; done) | (simp only [← hji4] <;> (first | rfl | simp)) | (simp [*]; done)), (by first | rfl | (simp; done) | (simp [*]; done)), H', ⟨by have := HK1.out; omega⟩, ⟨by repeat (first | (with_reducible first | exact HB.out | apply below_alloc | apply pw_below_drewN | apply below_drew1) | exact HB.out)⟩⟩
        · rw [if_neg c3] at H
          exact absurd H (by simp)
      · rw [if_neg c2] at H
        have c2b0 : decide (x4_1 < (l0.length : Int)) = false := decide_eq_false c2
        clear c2
        obtain rfl := Option.some.inj H
        go_wp2
        go_ret
        exact ⟨by first | rfl | (simp [errW_none, errW_some] <;> rfl) | (simp [*, errW_none, errW_some] <;> rfl), by repeat (first | (with_reducible first | exact HB.out | apply below_alloc | apply pw_below_drewN | apply below_drew1) | exact HB.out)⟩

end Go.Proofs.Yteaabcjkpjhjkaa.P

-- Printed by a program of this session (drv.py), by means of the kit's print.py.
namespace Go.Proofs.Yteaabcjkpjhjkaa.P
open Go.RowKit Go.Proofs.YteaabcjkpjhjkaaW.PrintWords Go.Proofs.YteaabcjkpjhjkaaW.PrintLast Go.Proofs.YteaabcjkpjhjkaaW.PrintMore
attribute [local go_sem] max2_int min2_int max_two min_two max_three min_three max_four min_four   -- for this text's walks alone
set_option linter.unusedVariables false
set_option linter.unusedSimpArgs false

/-! ### spec_CandidateCount: function 13 -/
def spec_CandidateCount.l0 : Nat → List Int → Int → Option (Int)
  | 0, _, _ => none
  | k + 1, x0, x3 => if x3 < (x0.length : Int) then (if 0 ≤ x3 then ((spec_l01In.f (rd x0 x3) 0 1000).bind fun t102 => (if t102 = true then (spec_CandidateCount.l0 k x0 (wrap64 (x3 + 1))) else (some (-1)))) else (none)) else ((spec_l20Candidates.f k x0).bind fun t103 => (some t103))
def spec_CandidateCount.f (k : Nat) (l0 : List Int) : Option (Int) := spec_CandidateCount.l0 k l0 0
theorem spec_CandidateCount.mono_l : ∀ k, (∀ y0 y1, LeO (spec_CandidateCount.l0 k y0 y1) (spec_CandidateCount.l0 (k + 1) y0 y1))
  | 0 => fun _ _ r h => by simp [spec_CandidateCount.l0] at h
  | k + 1 => by
    have ih0 := spec_CandidateCount.mono_l k
    · intro y0 y1
      unfold spec_CandidateCount.l0
      repeat' first
      | (with_reducible exact ih0 _ _)
      | (with_reducible exact spec_l20Candidates.mono _ _)
      | (with_reducible exact LeO.refl _)
      | (with_reducible exact LeO.none _)
      | (with_reducible refine LeO.ite ?_ ?_)
      | (with_reducible refine LeO.bind ?_ (fun _ => ?_))
      | exact ih0 _ _
      | exact spec_l20Candidates.mono _ _
      | exact LeO.none _
      | refine LeO.ite ?_ ?_
      | refine LeO.bind ?_ (fun _ => ?_)
theorem spec_CandidateCount.mono : ∀ a0 k, LeO (spec_CandidateCount.f k a0) (spec_CandidateCount.f (k + 1) a0) := by
  intro a0 k
  have ih0 := spec_CandidateCount.mono_l k
  unfold spec_CandidateCount.f
  repeat' first
      | (with_reducible exact ih0 _ _)
      | (with_reducible exact spec_l20Candidates.mono _ _)
      | (with_reducible exact LeO.refl _)
      | (with_reducible exact LeO.none _)
      | (with_reducible refine LeO.ite ?_ ?_)
      | (with_reducible refine LeO.bind ?_ (fun _ => ?_))
      | exact ih0 _ _
      | exact spec_l20Candidates.mono _ _
      | exact LeO.none _
      | refine LeO.ite ?_ ?_
      | refine LeO.bind ?_ (fun _ => ?_)
set_option maxHeartbeats 8000000 in
set_option maxRecDepth 100000 in
theorem spec_CandidateCount.calls (k : Nat) (A0 : Option Addr) (c0 : Nat) (l0 : List Int) (r : Int) (w : World) (hr0 : Kd.C (Kd.int .i64) w A0 l0.length l0) (hc0 : l0.length ≤ c0) (h : spec_CandidateCount.f k l0 = some r) :
    Calls Try.prog 13 #[.slice A0 l0.length c0] w fun e w' => e = .returned (.int .i64 r) ∧ Below w.heap.size w w' := by
  have HR0 := Aside0.mk hr0
  have HC0 := Aside0.mk hc0
  clear hr0 hc0
  have HB := Aside0.mk (Below.refl w.heap.size w)
  have H : (spec_CandidateCount.l0 k l0 0) = some r := h
  clear h
  have H' := Aside0.mk H
  clear H
  go_enter Try.func13, Try.ntmps13
  go_wp2
  go_loopg [3] k (fun kq v3 w' => ∃ (x3_1 : Int), v3 = .int .i64 x3_1 ∧ Aside0 (spec_CandidateCount.l0 kq l0 x3_1 = some r) ∧ Aside0 (kq ≤ k) ∧ Aside0 (Below w.heap.size w w'))
  case atStart => exact ⟨(0), (by first | rfl | (simp; done) | (simp [*]; done)), H', ⟨Nat.le_refl _⟩, ⟨by repeat (first | (with_reducible first | exact HB.out | apply below_alloc | apply pw_below_drewN | apply below_drew1) | exact HB.out)⟩⟩
  case round =>
    clear H'
    try clear c1
    obtain ⟨x3_1, rfl, HA, HK1, HB⟩ := hrel
    cases gk with
    | zero => exact absurd HA.out (by simp [spec_CandidateCount.l0])
    | succ k1 =>
      have H := HA.out
      clear HA
      simp only [spec_CandidateCount.l0] at H
      by_cases c2 : x3_1 < (l0.length : Int)
      · rw [if_pos c2] at H
        have c2b0 : decide (x3_1 < (l0.length : Int)) = true := decide_eq_true c2
        clear c2
        by_cases c3 : 0 ≤ x3_1
        · rw [if_pos c3] at H
          have c3b0 : decide (0 ≤ x3_1) = true := decide_eq_true c3
          clear c3
          replace H := Option.bind_eq_some_iff.mp H
          obtain ⟨t102, A40, H⟩ := H
          replace H : (if t102 = true then (spec_CandidateCount.l0 k1 l0 (wrap64 (x3_1 + 1))) else (some (-1))) = some r := H
          have A4 := Aside0.mk A40
          clear A40
          by_cases c5 : t102 = true
          · subst c5
            have H1 : (spec_CandidateCount.l0 k1 l0 (wrap64 (x3_1 + 1))) = some r := by rw [if_pos rfl] at H; exact H
            clear H
            have H := H1
            clear H1
            have H' := Aside0.mk H
            clear H
            have p101 : 0 ≤ (x3_1 : Int) := of_decide_eq_true (by first | (with_reducible assumption) | assumption)
            have q101 : x3_1 < (l0.length : Int) := of_decide_eq_true (by first | (with_reducible assumption) | assumption)
            obtain ⟨ad101, e101, hx101_0⟩ := Kd.at_int HR0.out x3_1 p101 q101
            cases e101
            replace hx101_0 := (HB.out.cell (World.block_lt_of_cell? w _ hx101_0)).trans hx101_0
            replace p101 := eq_true p101
            replace q101 := eq_true q101
            go_wp2_with (first | ((with_reducible refine gate_callee (f := 19) rfl ?_); refine goesL_ (some 14) rfl rfl Try.func19 (by kernel_rfl) rfl #[.int .i64 (rd l0 x3_1), .int .i64 0, .int .i64 1000] rfl (by (try simp only [List.map_toArray, List.map_cons, List.map_nil]); first | done | rfl | (simp only [List.length_drop, List.length_take]; rfl)) ?_; (with_reducible refine (spec_l01In.calls (rd l0 x3_1) 0 1000 true _ A4.out).mono ?_); rintro e w' ⟨rfl, ⟨nd, rfl⟩⟩; refine ⟨_, rfl, ?_⟩))
            go_roundg k1
            case measure => have := HK1.out; omega
            case rel => exact ⟨(wrap64 (x3_1 + 1)), (by first | rfl | (simp; done) | (simp [*]; done)), H', ⟨by have := HK1.out; omega⟩, ⟨by repeat (first | (with_reducible first | exact HB.out | apply below_alloc | apply pw_below_drewN | apply below_drew1) | exact HB.out)⟩⟩
          · replace c5 := Bool.eq_false_iff.mpr c5
            subst c5
            have H1 : (some (-1)) = some r := by rw [if_neg (show ¬ (false = true) by decide)] at H; exact H
            clear H
            have H := H1
            clear H1
            obtain rfl := Option.some.inj H
            have p101 : 0 ≤ (x3_1 : Int) := of_decide_eq_true (by first | (with_reducible assumption) | assumption)
            have q101 : x3_1 < (l0.length : Int) := of_decide_eq_true (by first | (with_reducible assumption) | assumption)
            obtain ⟨ad101, e101, hx101_0⟩ := Kd.at_int HR0.out x3_1 p101 q101
            cases e101
            replace hx101_0 := (HB.out.cell (World.block_lt_of_cell? w _ hx101_0)).trans hx101_0
            replace p101 := eq_true p101
            replace q101 := eq_true q101
            go_wp2_with (first | ((with_reducible refine gate_callee (f := 19) rfl ?_); refine goesL_ (some 14) rfl rfl Try.func19 (by kernel_rfl) rfl #[.int .i64 (rd l0 x3_1), .int .i64 0, .int .i64 1000] rfl (by (try simp only [List.map_toArray, List.map_cons, List.map_nil]); first | done | rfl | (simp only [List.length_drop, List.length_take]; rfl)) ?_; (with_reducible refine (spec_l01In.calls (rd l0 x3_1) 0 1000 false _ A4.out).mono ?_); rintro e w' ⟨rfl, ⟨nd, rfl⟩⟩; refine ⟨_, rfl, ?_⟩))
            go_ret
            exact ⟨by first | rfl | (simp [errW_none, errW_some] <;> rfl) | (simp [*, errW_none, errW_some] <;> rfl), by repeat (first | (with_reducible first | exact HB.out | apply below_alloc | apply pw_below_drewN | apply below_drew1) | exact HB.out)⟩
        · rw [if_neg c3] at H
          exact absurd H (by simp)
      · rw [if_neg c2] at H
        have c2b0 : decide (x3_1 < (l0.length : Int)) = false := decide_eq_false c2
        clear c2
        replace H := Option.bind_eq_some_iff.mp H
        obtain ⟨t103, A60, H⟩ := H
        replace H : (some t103) = some r := H
        have A6 := Aside0.mk A60
        clear A60
        obtain rfl := Option.some.inj H
        go_wp2_with (first | ((with_reducible refine gate_callee (f := 20) rfl ?_); refine goesL_ (some 17) rfl rfl Try.func20 (by kernel_rfl) rfl #[.slice A0 l0.length c0] rfl (by (try simp only [List.map_toArray, List.map_cons, List.map_nil]); first | done | rfl | (simp only [List.length_drop, List.length_take]; rfl)) ?_; (with_reducible refine (spec_l20Candidates.calls k1 _ _ l0 t103 _ ?side1 ?side2 A6.out).mono ?_); (case side1 => repeat (first | exact (Kd.C_below HR0.out HB.out) | (with_reducible refine Kd.C_alloc ?_ _) | (with_reducible refine Kd.C_drewN ?_ _) | (with_reducible refine Kd.C_drew ?_))); (case side2 => exact HC0.out); rintro e w7 ⟨rfl, hb⟩; refine ⟨_, rfl, ?_⟩; have n0_ := Aside0.mk (below_step (by repeat (first | (with_reducible first | exact HB.out | apply below_alloc | apply pw_below_drewN | apply below_drew1) | exact HB.out)) hb); clear HB; have HB := n0_; clear n0_; (try clear hb); (try clear hb2); (try clear hk); (try clear hi)))
        go_ret
        exact ⟨by first | rfl | (simp [errW_none, errW_some] <;> rfl) | (simp [*, errW_none, errW_some] <;> rfl), by repeat (first | (with_reducible first | exact HB.out | apply below_alloc | apply pw_below_drewN | apply below_drew1) | exact HB.out)⟩

end Go.Proofs.Yteaabcjkpjhjkaa.P

-- Printed by a program of this session (drv.py), by means of the kit's print.py.
namespace Go.Proofs.Yteaabcjkpjhjkaa.P
open Go.RowKit Go.Proofs.YteaabcjkpjhjkaaW.PrintWords Go.Proofs.YteaabcjkpjhjkaaW.PrintLast Go.Proofs.YteaabcjkpjhjkaaW.PrintMore
attribute [local go_sem] max2_int min2_int max_two min_two max_three min_three max_four min_four   -- for this text's walks alone
set_option linter.unusedVariables false
set_option linter.unusedSimpArgs false

/-! ### laws_FnExactCandidateCount: function 4 -/
def laws_FnExactCandidateCount.f (k : Nat) (l0 : List Int) : Option (Bool) := if (l0.length : Int) > 1048576 then (some true) else ((laws_toInt64S.f k l0).bind fun t101 => ((spec_CandidateCount.f k t101).bind fun t104 => ((laws_toInt64S.f k l0).bind fun t105 => ((impl_CandidateCount.f k t105).bind fun t108 => (if t108 = t104 then ((laws_toInt64S.f k l0).bind fun t109 => ((laws_eqInt64S.f k t105 t109).bind fun t112 => (if t112 = true then (some true) else (some false)))) else (some false))))))
theorem laws_FnExactCandidateCount.mono : ∀ a0 k, LeO (laws_FnExactCandidateCount.f k a0) (laws_FnExactCandidateCount.f (k + 1) a0) := by
  intro a0 k
  unfold laws_FnExactCandidateCount.f
  repeat' first
      | (with_reducible exact impl_CandidateCount.mono _ _)
      | (with_reducible exact laws_eqInt64S.mono _ _ _)
      | (with_reducible exact laws_toInt64S.mono _ _)
      | (with_reducible exact spec_CandidateCount.mono _ _)
      | (with_reducible exact LeO.refl _)
      | (with_reducible exact LeO.none _)
      | (with_reducible refine LeO.ite ?_ ?_)
      | (with_reducible refine LeO.bind ?_ (fun _ => ?_))
      | exact impl_CandidateCount.mono _ _
      | exact laws_eqInt64S.mono _ _ _
      | exact laws_toInt64S.mono _ _
      | exact spec_CandidateCount.mono _ _
      | exact LeO.none _
      | refine LeO.ite ?_ ?_
      | refine LeO.bind ?_ (fun _ => ?_)
set_option maxHeartbeats 8000000 in
set_option maxRecDepth 100000 in
theorem laws_FnExactCandidateCount.calls (k : Nat) (A0 : Option Addr) (c0 : Nat) (l0 : List Int) (r : Bool) (w : World) (hr0 : Kd.C (Kd.int .i64) w A0 l0.length l0) (hc0 : l0.length ≤ c0) (h : laws_FnExactCandidateCount.f k l0 = some r) :
    Calls Try.prog 4 #[.slice A0 l0.length c0] w fun e w' => e = .returned (.bool r) ∧ Below w.heap.size w w' := by
  have HR0 := Aside0.mk hr0
  have HC0 := Aside0.mk hc0
  clear hr0 hc0
  have HB := Aside0.mk (Below.refl w.heap.size w)
  have H : (if (l0.length : Int) > 1048576 then (some true) else ((laws_toInt64S.f k l0).bind fun t101 => ((spec_CandidateCount.f k t101).bind fun t104 => ((laws_toInt64S.f k l0).bind fun t105 => ((impl_CandidateCount.f k t105).bind fun t108 => (if t108 = t104 then ((laws_toInt64S.f k l0).bind fun t109 => ((laws_eqInt64S.f k t105 t109).bind fun t112 => (if t112 = true then (some true) else (some false)))) else (some false))))))) = some r := h
  clear h
  by_cases c2 : (l0.length : Int) > 1048576
  · rw [if_pos c2] at H
    have c2b0 : decide (1048576 < (l0.length : Int)) = true := decide_eq_true c2
    have c2b1 : decide (1048576 < l0.length) = true := decide_eq_true (by omega)
    clear c2
    obtain rfl := Option.some.inj H
    go_enter Try.func4, Try.ntmps4
    go_wp2
    go_ret
    exact ⟨by first | rfl | (simp [errW_none, errW_some] <;> rfl) | (simp [*, errW_none, errW_some] <;> rfl), by repeat (first | (with_reducible first | exact HB.out | apply below_alloc | apply pw_below_drewN | apply below_drew1) | exact HB.out)⟩
  · rw [if_neg c2] at H
    have c2b0 : decide (1048576 < (l0.length : Int)) = false := decide_eq_false c2
    have c2b1 : decide (1048576 < l0.length) = false := decide_eq_false (by omega)
    clear c2
    replace H := Option.bind_eq_some_iff.mp H
    obtain ⟨t101, A30, H⟩ := H
    replace H : ((spec_CandidateCount.f k t101).bind fun t104 => ((laws_toInt64S.f k l0).bind fun t105 => ((impl_CandidateCount.f k t105).bind fun t108 => (if t108 = t104 then ((laws_toInt64S.f k l0).bind fun t109 => ((laws_eqInt64S.f k t105 t109).bind fun t112 => (if t112 = true then (some true) else (some false)))) else (some false))))) = some r := H
    have A3 := Aside0.mk A30
    clear A30
    replace H := Option.bind_eq_some_iff.mp H
    obtain ⟨t104, A40, H⟩ := H
    replace H : ((laws_toInt64S.f k l0).bind fun t105 => ((impl_CandidateCount.f k t105).bind fun t108 => (if t108 = t104 then ((laws_toInt64S.f k l0).bind fun t109 => ((laws_eqInt64S.f k t105 t109).bind fun t112 => (if t112 = true then (some true) else (some false)))) else (some false)))) = some r := H
    have A4 := Aside0.mk A40
    clear A40
    replace H := Option.bind_eq_some_iff.mp H
    obtain ⟨t105, A50, H⟩ := H
    replace H : ((impl_CandidateCount.f k t105).bind fun t108 => (if t108 = t104 then ((laws_toInt64S.f k l0).bind fun t109 => ((laws_eqInt64S.f k t105 t109).bind fun t112 => (if t112 = true then (some true) else (some false)))) else (some false))) = some r := H
    have A5 := Aside0.mk A50
    clear A50
    replace H := Option.bind_eq_some_iff.mp H
    obtain ⟨t108, A60, H⟩ := H
    replace H : (if t108 = t104 then ((laws_toInt64S.f k l0).bind fun t109 => ((laws_eqInt64S.f k t105 t109).bind fun t112 => (if t112 = true then (some true) else (some false)))) else (some false)) = some r := H
    have A6 := Aside0.mk A60
    clear A60
    by_cases c7 : t108 = t104
    · rw [if_pos c7] at H
      have c7b0 : (t108 == t104) = true := beq_iff_eq.mpr c7
      have c7b1 : (t108 != t104) = false := bne_eq_false_iff_eq.mpr c7
      clear c7
      replace H := Option.bind_eq_some_iff.mp H
      obtain ⟨t109, A80, H⟩ := H
      replace H : ((laws_eqInt64S.f k t105 t109).bind fun t112 => (if t112 = true then (some true) else (some false))) = some r := H
      have A8 := Aside0.mk A80
      clear A80
      replace H := Option.bind_eq_some_iff.mp H
      obtain ⟨t112, A90, H⟩ := H
      replace H : (if t112 = true then (some true) else (some false)) = some r := H
      have A9 := Aside0.mk A90
      clear A90
      by_cases c10 : t112 = true
      · subst c10
        have H1 : (some true) = some r := by rw [if_pos rfl] at H; exact H
        clear H
        have H := H1
        clear H1
        obtain rfl := Option.some.inj H
        go_enter Try.func4, Try.ntmps4
        go_wp2_with (first | ((with_reducible refine gate_callee (f := 8) rfl ?_); refine goesL_ (some 10) rfl rfl Try.func8 (by kernel_rfl) rfl #[.slice A0 l0.length c0] rfl (by (try simp only [List.map_toArray, List.map_cons, List.map_nil]); first | done | rfl | (simp only [List.length_drop, List.length_take]; rfl)) ?_; (with_reducible refine (laws_toInt64S.calls k _ _ l0 t101 _ ?side1 ?side2 A3.out).mono ?_); (case side1 => repeat (first | exact HR0.out | (with_reducible refine Kd.C_alloc ?_ _) | (with_reducible refine Kd.C_drewN ?_ _) | (with_reducible refine Kd.C_drew ?_))); (case side2 => exact HC0.out); rintro e w11 ⟨v102, rfl, ho0, hb⟩; refine ⟨_, rfl, ?_⟩; have n0_ := Aside0.mk (Kd.R_lower ho0 (below_size (by repeat (first | (with_reducible first | exact HB.out | apply below_alloc | apply pw_below_drewN | apply below_drew1) | exact HB.out)))); have n1_ := Aside0.mk (below_step (by repeat (first | (with_reducible first | exact HB.out | apply below_alloc | apply pw_below_drewN | apply below_drew1) | exact HB.out)) hb); clear HB; have HO103 := n0_; have HB := n1_; clear n0_ n1_; (try clear hb); (try clear hb2); (try clear hk); (try clear hi); (try clear ho0); obtain ⟨Ao12, co12, eo12⟩ := Kd.R_slice HO103.out; subst eo12) | ((with_reducible refine gate_callee (f := 13) rfl ?_); refine goesL_ (some 11) rfl rfl Try.func13 (by kernel_rfl) rfl #[.slice Ao12 t101.length co12] rfl (by (try simp only [List.map_toArray, List.map_cons, List.map_nil]); first | done | rfl | (simp only [List.length_drop, List.length_take]; rfl)) ?_; (with_reducible refine (spec_CandidateCount.calls k _ _ t101 t104 _ ?side1 ?side2 A4.out).mono ?_); (case side1 => repeat (first | exact (Kd.R_reads' HO103.out).2.2 | (with_reducible refine Kd.C_alloc ?_ _) | (with_reducible refine Kd.C_drewN ?_ _) | (with_reducible refine Kd.C_drew ?_))); (case side2 => exact (Kd.R_reads' HO103.out).2.1); rintro e w13 ⟨rfl, hb⟩; refine ⟨_, rfl, ?_⟩; have n0_ := Aside0.mk (Kd.R_below (by (with_reducible repeat (first | apply Kd.R_alloc | apply Kd.R_drewN | apply Kd.R_drew)); exact HO103.out) hb); have n1_ := Aside0.mk (below_step (by repeat (first | (with_reducible first | exact HB.out | apply below_alloc | apply pw_below_drewN | apply below_drew1) | exact HB.out)) hb); clear HO103; clear HB; have HO103 := n0_; have HB := n1_; clear n0_ n1_; (try clear hb); (try clear hb2); (try clear hk); (try clear hi)) | ((with_reducible refine gate_callee (f := 8) rfl ?_); refine goesL_ (some 13) rfl rfl Try.func8 (by kernel_rfl) rfl #[.slice A0 l0.length c0] rfl (by (try simp only [List.map_toArray, List.map_cons, List.map_nil]); first | done | rfl | (simp only [List.length_drop, List.length_take]; rfl)) ?_; (with_reducible refine (laws_toInt64S.calls k _ _ l0 t105 _ ?side1 ?side2 A5.out).mono ?_); (case side1 => repeat (first | exact (Kd.C_below HR0.out HB.out) | (with_reducible refine Kd.C_alloc ?_ _) | (with_reducible refine Kd.C_drewN ?_ _) | (with_reducible refine Kd.C_drew ?_))); (case side2 => exact HC0.out); rintro e w14 ⟨v106, rfl, ho0, hb⟩; refine ⟨_, rfl, ?_⟩; have n0_ := Aside0.mk (Kd.R_elder' (by (with_reducible repeat (first | apply Kd.R_alloc | apply Kd.R_drewN | apply Kd.R_drew)); exact HO103.out) (Kd.R_base ho0) hb); have n1_ := Aside0.mk (Kd.R_lower (Kd.R_new' ho0 (Kd.R_lt (by (with_reducible repeat (first | apply Kd.R_alloc | apply Kd.R_drewN | apply Kd.R_drew)); exact HO103.out))) (below_size (by repeat (first | (with_reducible first | exact HB.out | apply below_alloc | apply pw_below_drewN | apply below_drew1) | exact HB.out)))); have n2_ := Aside0.mk (below_step (by repeat (first | (with_reducible first | exact HB.out | apply below_alloc | apply pw_below_drewN | apply below_drew1) | exact HB.out)) hb); clear HO103; clear HB; have HO103 := n0_; have HO107 := n1_; have HB := n2_; clear n0_ n1_ n2_; (try clear hb); (try clear hb2); (try clear hk); (try clear hi); (try clear ho0); obtain ⟨Ao15, co15, eo15⟩ := Kd.R_slice HO107.out; subst eo15) | ((with_reducible refine gate_callee (f := 14) rfl ?_); refine goesL_ (some 15) rfl rfl Try.func14 (by kernel_rfl) rfl #[.slice Ao15 t105.length co15] rfl (by (try simp only [List.map_toArray, List.map_cons, List.map_nil]); first | done | rfl | (simp only [List.length_drop, List.length_take]; rfl)) ?_; (with_reducible refine (impl_CandidateCount.calls k _ _ t105 t108 _ ?side1 ?side2 A6.out).mono ?_); (case side1 => repeat (first | exact (Kd.R_reads' HO107.out).2.2 | (with_reducible refine Kd.C_alloc ?_ _) | (with_reducible refine Kd.C_drewN ?_ _) | (with_reducible refine Kd.C_drew ?_))); (case side2 => exact (Kd.R_reads' HO107.out).2.1); rintro e w16 ⟨rfl, hb⟩; refine ⟨_, rfl, ?_⟩; have n0_ := Aside0.mk (Kd.R_below (by (with_reducible repeat (first | apply Kd.R_alloc | apply Kd.R_drewN | apply Kd.R_drew)); exact HO103.out) hb); have n1_ := Aside0.mk (Kd.R_below (by (with_reducible repeat (first | apply Kd.R_alloc | apply Kd.R_drewN | apply Kd.R_drew)); exact HO107.out) hb); have n2_ := Aside0.mk (below_step (by repeat (first | (with_reducible first | exact HB.out | apply below_alloc | apply pw_below_drewN | apply below_drew1) | exact HB.out)) hb); clear HO103; clear HO107; clear HB; have HO103 := n0_; have HO107 := n1_; have HB := n2_; clear n0_ n1_ n2_; (try clear hb); (try clear hb2); (try clear hk); (try clear hi)) | ((with_reducible refine gate_callee (f := 8) rfl ?_); refine goesL_ (some 21) rfl rfl Try.func8 (by kernel_rfl) rfl #[.slice A0 l0.length c0] rfl (by (try simp only [List.map_toArray, List.map_cons, List.map_nil]); first | done | rfl | (simp only [List.length_drop, List.length_take]; rfl)) ?_; (with_reducible refine (laws_toInt64S.calls k _ _ l0 t109 _ ?side1 ?side2 A8.out).mono ?_); (case side1 => repeat (first | exact (Kd.C_below HR0.out HB.out) | (with_reducible refine Kd.C_alloc ?_ _) | (with_reducible refine Kd.C_drewN ?_ _) | (with_reducible refine Kd.C_drew ?_))); (case side2 => exact HC0.out); rintro e w17 ⟨v110, rfl, ho0, hb⟩; refine ⟨_, rfl, ?_⟩; have n0_ := Aside0.mk (Kd.R_elder' (by (with_reducible repeat (first | apply Kd.R_alloc | apply Kd.R_drewN | apply Kd.R_drew)); exact HO103.out) (Kd.R_base ho0) hb); have n1_ := Aside0.mk (Kd.R_elder' (by (with_reducible repeat (first | apply Kd.R_alloc | apply Kd.R_drewN | apply Kd.R_drew)); exact HO107.out) (Kd.R_base ho0) hb); have n2_ := Aside0.mk (Kd.R_lower (Kd.R_new' (Kd.R_new' ho0 (Kd.R_lt (by (with_reducible repeat (first | apply Kd.R_alloc | apply Kd.R_drewN | apply Kd.R_drew)); exact HO103.out))) (Kd.R_lt (by (with_reducible repeat (first | apply Kd.R_alloc | apply Kd.R_drewN | apply Kd.R_drew)); exact HO107.out))) (below_size (by repeat (first | (with_reducible first | exact HB.out | apply below_alloc | apply pw_below_drewN | apply below_drew1) | exact HB.out)))); have n3_ := Aside0.mk (below_step (by repeat (first | (with_reducible first | exact HB.out | apply below_alloc | apply pw_below_drewN | apply below_drew1) | exact HB.out)) hb); clear HO103; clear HO107; clear HB; have HO103 := n0_; have HO107 := n1_; have HO111 := n2_; have HB := n3_; clear n0_ n1_ n2_ n3_; (try clear hb); (try clear hb2); (try clear hk); (try clear hi); (try clear ho0); obtain ⟨Ao18, co18, eo18⟩ := Kd.R_slice HO111.out; subst eo18) | ((with_reducible refine gate_callee (f := 10) rfl ?_); refine goesL_ (some 22) rfl rfl Try.func10 (by kernel_rfl) rfl #[.slice Ao15 t105.length co15, .slice Ao18 t109.length co18] rfl (by (try simp only [List.map_toArray, List.map_cons, List.map_nil]); first | done | rfl | (simp only [List.length_drop, List.length_take]; rfl)) ?_; (with_reducible refine (laws_eqInt64S.calls k _ _ t105 _ _ t109 true _ ?side1 ?side2 ?side3 ?side4 A9.out).mono ?_); (case side1 => repeat (first | exact (Kd.R_reads' HO107.out).2.2 | (with_reducible refine Kd.C_alloc ?_ _) | (with_reducible refine Kd.C_drewN ?_ _) | (with_reducible refine Kd.C_drew ?_))); (case side2 => exact (Kd.R_reads' HO107.out).2.1); (case side3 => repeat (first | exact (Kd.R_reads' HO111.out).2.2 | (with_reducible refine Kd.C_alloc ?_ _) | (with_reducible refine Kd.C_drewN ?_ _) | (with_reducible refine Kd.C_drew ?_))); (case side4 => exact (Kd.R_reads' HO111.out).2.1); rintro e w' ⟨rfl, ⟨nd, rfl⟩⟩; refine ⟨_, rfl, ?_⟩))
        go_ret
        exact ⟨by first | rfl | (simp [errW_none, errW_some] <;> rfl) | (simp [*, errW_none, errW_some] <;> rfl), by repeat (first | (with_reducible first | exact HB.out | apply below_alloc | apply pw_below_drewN | apply below_drew1) | exact HB.out)⟩
      · replace c10 := Bool.eq_false_iff.mpr c10
        subst c10
        have H1 : (some false) = some r := by rw [if_neg (show ¬ (false = true) by decide)] at H; exact H
        clear H
        have H := H1
        clear H1
        obtain rfl := Option.some.inj H
        go_enter Try.func4, Try.ntmps4
        go_wp2_with (first | ((with_reducible refine gate_callee (f := 8) rfl ?_); refine goesL_ (some 10) rfl rfl Try.func8 (by kernel_rfl) rfl #[.slice A0 l0.length c0] rfl (by (try simp only [List.map_toArray, List.map_cons, List.map_nil]); first | done | rfl | (simp only [List.length_drop, List.length_take]; rfl)) ?_; (with_reducible refine (laws_toInt64S.calls k _ _ l0 t101 _ ?side1 ?side2 A3.out).mono ?_); (case side1 => repeat (first | exact HR0.out | (with_reducible refine Kd.C_alloc ?_ _) | (with_reducible refine Kd.C_drewN ?_ _) | (with_reducible refine Kd.C_drew ?_))); (case side2 => exact HC0.out); rintro e w19 ⟨v102, rfl, ho0, hb⟩; refine ⟨_, rfl, ?_⟩; have n0_ := Aside0.mk (Kd.R_lower ho0 (below_size (by repeat (first | (with_reducible first | exact HB.out | apply below_alloc | apply pw_below_drewN | apply below_drew1) | exact HB.out)))); have n1_ := Aside0.mk (below_step (by repeat (first | (with_reducible first | exact HB.out | apply below_alloc | apply pw_below_drewN | apply below_drew1) | exact HB.out)) hb); clear HB; have HO103 := n0_; have HB := n1_; clear n0_ n1_; (try clear hb); (try clear hb2); (try clear hk); (try clear hi); (try clear ho0); obtain ⟨Ao20, co20, eo20⟩ := Kd.R_slice HO103.out; subst eo20) | ((with_reducible refine gate_callee (f := 13) rfl ?_); refine goesL_ (some 11) rfl rfl Try.func13 (by kernel_rfl) rfl #[.slice Ao20 t101.length co20] rfl (by (try simp only [List.map_toArray, List.map_cons, List.map_nil]); first | done | rfl | (simp only [List.length_drop, List.length_take]; rfl)) ?_; (with_reducible refine (spec_CandidateCount.calls k _ _ t101 t104 _ ?side1 ?side2 A4.out).mono ?_); (case side1 => repeat (first | exact (Kd.R_reads' HO103.out).2.2 | (with_reducible refine Kd.C_alloc ?_ _) | (with_reducible refine Kd.C_drewN ?_ _) | (with_reducible refine Kd.C_drew ?_))); (case side2 => exact (Kd.R_reads' HO103.out).2.1); rintro e w21 ⟨rfl, hb⟩; refine ⟨_, rfl, ?_⟩; have n0_ := Aside0.mk (Kd.R_below (by (with_reducible repeat (first | apply Kd.R_alloc | apply Kd.R_drewN | apply Kd.R_drew)); exact HO103.out) hb); have n1_ := Aside0.mk (below_step (by repeat (first | (with_reducible first | exact HB.out | apply below_alloc | apply pw_below_drewN | apply below_drew1) | exact HB.out)) hb); clear HO103; clear HB; have HO103 := n0_; have HB := n1_; clear n0_ n1_; (try clear hb); (try clear hb2); (try clear hk); (try clear hi)) | ((with_reducible refine gate_callee (f := 8) rfl ?_); refine goesL_ (some 13) rfl rfl Try.func8 (by kernel_rfl) rfl #[.slice A0 l0.length c0] rfl (by (try simp only [List.map_toArray, List.map_cons, List.map_nil]); first | done | rfl | (simp only [List.length_drop, List.length_take]; rfl)) ?_; (with_reducible refine (laws_toInt64S.calls k _ _ l0 t105 _ ?side1 ?side2 A5.out).mono ?_); (case side1 => repeat (first | exact (Kd.C_below HR0.out HB.out) | (with_reducible refine Kd.C_alloc ?_ _) | (with_reducible refine Kd.C_drewN ?_ _) | (with_reducible refine Kd.C_drew ?_))); (case side2 => exact HC0.out); rintro e w22 ⟨v106, rfl, ho0, hb⟩; refine ⟨_, rfl, ?_⟩; have n0_ := Aside0.mk (Kd.R_elder' (by (with_reducible repeat (first | apply Kd.R_alloc | apply Kd.R_drewN | apply Kd.R_drew)); exact HO103.out) (Kd.R_base ho0) hb); have n1_ := Aside0.mk (Kd.R_lower (Kd.R_new' ho0 (Kd.R_lt (by (with_reducible repeat (first | apply Kd.R_alloc | apply Kd.R_drewN | apply Kd.R_drew)); exact HO103.out))) (below_size (by repeat (first | (with_reducible first | exact HB.out | apply below_alloc | apply pw_below_drewN | apply below_drew1) | exact HB.out)))); have n2_ := Aside0.mk (below_step (by repeat (first | (with_reducible first | exact HB.out | apply below_alloc | apply pw_below_drewN | apply below_drew1) | exact HB.out)) hb); clear HO103; clear HB; have HO103 := n0_; have HO107 := n1_; have HB := n2_; clear n0_ n1_ n2_; (try clear hb); (try clear hb2); (try clear hk); (try clear hi); (try clear ho0); obtain ⟨Ao23, co23, eo23⟩ := Kd.R_slice HO107.out; subst eo23) | ((with_reducible refine gate_callee (f := 14) rfl ?_); refine goesL_ (some 15) rfl rfl Try.func14 (by kernel_rfl) rfl #[.slice Ao23 t105.length co23] rfl (by (try simp only [List.map_toArray, List.map_cons, List.map_nil]); first | done | rfl | (simp only [List.length_drop, List.length_take]; rfl)) ?_; (with_reducible refine (impl_CandidateCount.calls k _ _ t105 t108 _ ?side1 ?side2 A6.out).mono ?_); (case side1 => repeat (first | exact (Kd.R_reads' HO107.out).2.2 | (with_reducible refine Kd.C_alloc ?_ _) | (with_reducible refine Kd.C_drewN ?_ _) | (with_reducible refine Kd.C_drew ?_))); (case side2 => exact (Kd.R_reads' HO107.out).2.1); rintro e w24 ⟨rfl, hb⟩; refine ⟨_, rfl, ?_⟩; have n0_ := Aside0.mk (Kd.R_below (by (with_reducible repeat (first | apply Kd.R_alloc | apply Kd.R_drewN | apply Kd.R_drew)); exact HO103.out) hb); have n1_ := Aside0.mk (Kd.R_below (by (with_reducible repeat (first | apply Kd.R_alloc | apply Kd.R_drewN | apply Kd.R_drew)); exact HO107.out) hb); have n2_ := Aside0.mk (below_step (by repeat (first | (with_reducible first | exact HB.out | apply below_alloc | apply pw_below_drewN | apply below_drew1) | exact HB.out)) hb); clear HO103; clear HO107; clear HB; have HO103 := n0_; have HO107 := n1_; have HB := n2_; clear n0_ n1_ n2_; (try clear hb); (try clear hb2); (try clear hk); (try clear hi)) | ((with_reducible refine gate_callee (f := 8) rfl ?_); refine goesL_ (some 21) rfl rfl Try.func8 (by kernel_rfl) rfl #[.slice A0 l0.length c0] rfl (by (try simp only [List.map_toArray, List.map_cons, List.map_nil]); first | done | rfl | (simp only [List.length_drop, List.length_take]; rfl)) ?_; (with_reducible refine (laws_toInt64S.calls k _ _ l0 t109 _ ?side1 ?side2 A8.out).mono ?_); (case side1 => repeat (first | exact (Kd.C_below HR0.out HB.out) | (with_reducible refine Kd.C_alloc ?_ _) | (with_reducible refine Kd.C_drewN ?_ _) | (with_reducible refine Kd.C_drew ?_))); (case side2 => exact HC0.out); rintro e w25 ⟨v110, rfl, ho0, hb⟩; refine ⟨_, rfl, ?_⟩; have n0_ := Aside0.mk (Kd.R_elder' (by (with_reducible repeat (first | apply Kd.R_alloc | apply Kd.R_drewN | apply Kd.R_drew)); exact HO103.out) (Kd.R_base ho0) hb); have n1_ := Aside0.mk (Kd.R_elder' (by (with_reducible repeat (first | apply Kd.R_alloc | apply Kd.R_drewN | apply Kd.R_drew)); exact HO107.out) (Kd.R_base ho0) hb); have n2_ := Aside0.mk (Kd.R_lower (Kd.R_new' (Kd.R_new' ho0 (Kd.R_lt (by (with_reducible repeat (first | apply Kd.R_alloc | apply Kd.R_drewN | apply Kd.R_drew)); exact HO103.out))) (Kd.R_lt (by (with_reducible repeat (first | apply Kd.R_alloc | apply Kd.R_drewN | apply Kd.R_drew)); exact HO107.out))) (below_size (by repeat (first | (with_reducible first | exact HB.out | apply below_alloc | apply pw_below_drewN | apply below_drew1) | exact HB.out)))); have n3_ := Aside0.mk (below_step (by repeat (first | (with_reducible first | exact HB.out | apply below_alloc | apply pw_below_drewN | apply below_drew1) | exact HB.out)) hb); clear HO103; clear HO107; clear HB; have HO103 := n0_; have HO107 := n1_; have HO111 := n2_; have HB := n3_; clear n0_ n1_ n2_ n3_; (try clear hb); (try clear hb2); (try clear hk); (try clear hi); (try clear ho0); obtain ⟨Ao26, co26, eo26⟩ := Kd.R_slice HO111.out; subst eo26) | ((with_reducible refine gate_callee (f := 10) rfl ?_); refine goesL_ (some 22) rfl rfl Try.func10 (by kernel_rfl) rfl #[.slice Ao23 t105.length co23, .slice Ao26 t109.length co26] rfl (by (try simp only [List.map_toArray, List.map_cons, List.map_nil]); first | done | rfl | (simp only [List.length_drop, List.length_take]; rfl)) ?_; (with_reducible refine (laws_eqInt64S.calls k _ _ t105 _ _ t109 false _ ?side1 ?side2 ?side3 ?side4 A9.out).mono ?_); (case side1 => repeat (first | exact (Kd.R_reads' HO107.out).2.2 | (with_reducible refine Kd.C_alloc ?_ _) | (with_reducible refine Kd.C_drewN ?_ _) | (with_reducible refine Kd.C_drew ?_))); (case side2 => exact (Kd.R_reads' HO107.out).2.1); (case side3 => repeat (first | exact (Kd.R_reads' HO111.out).2.2 | (with_reducible refine Kd.C_alloc ?_ _) | (with_reducible refine Kd.C_drewN ?_ _) | (with_reducible refine Kd.C_drew ?_))); (case side4 => exact (Kd.R_reads' HO111.out).2.1); rintro e w' ⟨rfl, ⟨nd, rfl⟩⟩; refine ⟨_, rfl, ?_⟩))
        go_ret
        exact ⟨by first | rfl | (simp [errW_none, errW_some] <;> rfl) | (simp [*, errW_none, errW_some] <;> rfl), by repeat (first | (with_reducible first | exact HB.out | apply below_alloc | apply pw_below_drewN | apply below_drew1) | exact HB.out)⟩
    · rw [if_neg c7] at H
      have c7b0 : (t108 == t104) = false := beq_eq_false_iff_ne.mpr c7
      have c7b1 : (t108 != t104) = true := bne_iff_ne.mpr c7
      obtain rfl := Option.some.inj H
      go_enter Try.func4, Try.ntmps4
      go_wp2_with (first | ((with_reducible refine gate_callee (f := 8) rfl ?_); refine goesL_ (some 10) rfl rfl Try.func8 (by kernel_rfl) rfl #[.slice A0 l0.length c0] rfl (by (try simp only [List.map_toArray, List.map_cons, List.map_nil]); first | done | rfl | (simp only [List.length_drop, List.length_take]; rfl)) ?_; (with_reducible refine (laws_toInt64S.calls k _ _ l0 t101 _ ?side1 ?side2 A3.out).mono ?_); (case side1 => repeat (first | exact HR0.out | (with_reducible refine Kd.C_alloc ?_ _) | (with_reducible refine Kd.C_drewN ?_ _) | (with_reducible refine Kd.C_drew ?_))); (case side2 => exact HC0.out); rintro e w27 ⟨v102, rfl, ho0, hb⟩; refine ⟨_, rfl, ?_⟩; have n0_ := Aside0.mk (Kd.R_lower ho0 (below_size (by repeat (first | (with_reducible first | exact HB.out | apply below_alloc | apply pw_below_drewN | apply below_drew1) | exact HB.out)))); have n1_ := Aside0.mk (below_step (by repeat (first | (with_reducible first | exact HB.out | apply below_alloc | apply pw_below_drewN | apply below_drew1) | exact HB.out)) hb); clear HB; have HO103 := n0_; have HB := n1_; clear n0_ n1_; (try clear hb); (try clear hb2); (try clear hk); (try clear hi); (try clear ho0); obtain ⟨Ao28, co28, eo28⟩ := Kd.R_slice HO103.out; subst eo28) | ((with_reducible refine gate_callee (f := 13) rfl ?_); refine goesL_ (some 11) rfl rfl Try.func13 (by kernel_rfl) rfl #[.slice Ao28 t101.length co28] rfl (by (try simp only [List.map_toArray, List.map_cons, List.map_nil]); first | done | rfl | (simp only [List.length_drop, List.length_take]; rfl)) ?_; (with_reducible refine (spec_CandidateCount.calls k _ _ t101 t104 _ ?side1 ?side2 A4.out).mono ?_); (case side1 => repeat (first | exact (Kd.R_reads' HO103.out).2.2 | (with_reducible refine Kd.C_alloc ?_ _) | (with_reducible refine Kd.C_drewN ?_ _) | (with_reducible refine Kd.C_drew ?_))); (case side2 => exact (Kd.R_reads' HO103.out).2.1); rintro e w29 ⟨rfl, hb⟩; refine ⟨_, rfl, ?_⟩; have n0_ := Aside0.mk (Kd.R_below (by (with_reducible repeat (first | apply Kd.R_alloc | apply Kd.R_drewN | apply Kd.R_drew)); exact HO103.out) hb); have n1_ := Aside0.mk (below_step (by repeat (first | (with_reducible first | exact HB.out | apply below_alloc | apply pw_below_drewN | apply below_drew1) | exact HB.out)) hb); clear HO103; clear HB; have HO103 := n0_; have HB := n1_; clear n0_ n1_; (try clear hb); (try clear hb2); (try clear hk); (try clear hi)) | ((with_reducible refine gate_callee (f := 8) rfl ?_); refine goesL_ (some 13) rfl rfl Try.func8 (by kernel_rfl) rfl #[.slice A0 l0.length c0] rfl (by (try simp only [List.map_toArray, List.map_cons, List.map_nil]); first | done | rfl | (simp only [List.length_drop, List.length_take]; rfl)) ?_; (with_reducible refine (laws_toInt64S.calls k _ _ l0 t105 _ ?side1 ?side2 A5.out).mono ?_); (case side1 => repeat (first | exact (Kd.C_below HR0.out HB.out) | (with_reducible refine Kd.C_alloc ?_ _) | (with_reducible refine Kd.C_drewN ?_ _) | (with_reducible refine Kd.C_drew ?_))); (case side2 => exact HC0.out); rintro e w30 ⟨v106, rfl, ho0, hb⟩; refine ⟨_, rfl, ?_⟩; have n0_ := Aside0.mk (Kd.R_elder' (by (with_reducible repeat (first | apply Kd.R_alloc | apply Kd.R_drewN | apply Kd.R_drew)); exact HO103.out) (Kd.R_base ho0) hb); have n1_ := Aside0.mk (Kd.R_lower (Kd.R_new' ho0 (Kd.R_lt (by (with_reducible repeat (first | apply Kd.R_alloc | apply Kd.R_drewN | apply Kd.R_drew)); exact HO103.out))) (below_size (by repeat (first | (with_reducible first | exact HB.out | apply below_alloc | apply pw_below_drewN | apply below_drew1) | exact HB.out)))); have n2_ := Aside0.mk (below_step (by repeat (first | (with_reducible first | exact HB.out | apply below_alloc | apply pw_below_drewN | apply below_drew1) | exact HB.out)) hb); clear HO103; clear HB; have HO103 := n0_; have HO107 := n1_; have HB := n2_; clear n0_ n1_ n2_; (try clear hb); (try clear hb2); (try clear hk); (try clear hi); (try clear ho0); obtain ⟨Ao31, co31, eo31⟩ := Kd.R_slice HO107.out; subst eo31) | ((with_reducible refine gate_callee (f := 14) rfl ?_); refine goesL_ (some 15) rfl rfl Try.func14 (by kernel_rfl) rfl #[.slice Ao31 t105.length co31] rfl (by (try simp only [List.map_toArray, List.map_cons, List.map_nil]); first | done | rfl | (simp only [List.length_drop, List.length_take]; rfl)) ?_; (with_reducible refine (impl_CandidateCount.calls k _ _ t105 t108 _ ?side1 ?side2 A6.out).mono ?_); (case side1 => repeat (first | exact (Kd.R_reads' HO107.out).2.2 | (with_reducible refine Kd.C_alloc ?_ _) | (with_reducible refine Kd.C_drewN ?_ _) | (with_reducible refine Kd.C_drew ?_))); (case side2 => exact (Kd.R_reads' HO107.out).2.1); rintro e w32 ⟨rfl, hb⟩; refine ⟨_, rfl, ?_⟩; have n0_ := Aside0.mk (Kd.R_below (by (with_reducible repeat (first | apply Kd.R_alloc | apply Kd.R_drewN | apply Kd.R_drew)); exact HO103.out) hb); have n1_ := Aside0.mk (Kd.R_below (by (with_reducible repeat (first | apply Kd.R_alloc | apply Kd.R_drewN | apply Kd.R_drew)); exact HO107.out) hb); have n2_ := Aside0.mk (below_step (by repeat (first | (with_reducible first | exact HB.out | apply below_alloc | apply pw_below_drewN | apply below_drew1) | exact HB.out)) hb); clear HO103; clear HO107; clear HB; have HO103 := n0_; have HO107 := n1_; have HB := n2_; clear n0_ n1_ n2_; (try clear hb); (try clear hb2); (try clear hk); (try clear hi)))
      go_ret
      exact ⟨by first | rfl | (simp [errW_none, errW_some] <;> rfl) | (simp [*, errW_none, errW_some] <;> rfl), by repeat (first | (with_reducible first | exact HB.out | apply below_alloc | apply pw_below_drewN | apply below_drew1) | exact HB.out)⟩

/-- THE ONE PURE STATEMENT of laws_FnExactCandidateCount: yours. -/
def laws_FnExactCandidateCount.Pure : Prop := ∀ (l0 : List Int), l0.length ≤ maxLen → l0.length * 8 ≤ 140737488351232 → (∀ x ∈ l0, (Lit.int .i64 x).wf = true) → ∃ k, laws_FnExactCandidateCount.f k l0 = some true
theorem laws_FnExactCandidateCount.walk (P : laws_FnExactCandidateCount.Pure) (a0 : Option Addr) (len0 cap0 : Nat) (z0 : List Int) (w : World) (w0 : (a0 = none ∧ len0 = 0 ∧ cap0 = 0 ∧ z0 = []) ∨ ∃ x, a0 = some x ∧ len0 ≤ cap0 ∧ cap0 ≤ maxLen ∧ z0.length = cap0 ∧ (∀ i, i < z0.length → w.cell? (x.add i) = some (.int .i64 (z0.getD i 0))) ∧ ∀ n ∈ z0, (Lit.int .i64 n).wf = true) (y0 : len0 * 8 ≤ 140737488351232) :
    Calls Try.prog 4 #[.slice a0 len0 cap0] w fun e w' => e = .returned (.bool true) ∧ Below w.heap.size w w' := by
  obtain ⟨l0, rfl, hr0, hm0, hw0, hc0⟩ := ReadsInt.ofRowC w0
  obtain ⟨k, h⟩ := P l0 hm0 y0 hw0
  refine (laws_FnExactCandidateCount.calls k _ _ l0 true w (Kd.C_of_reads (d := (0 : Int)) (h1 := fun _ => rfl) hr0) hc0 h).mono ?_
  rintro e w' ⟨rfl, hd⟩
  exact ⟨rfl, hd⟩

end Go.Proofs.Yteaabcjkpjhjkaa.P

/- CandidateCount: the product of the elements plus one, cut off at 20001; -1 where an element is out of range. -/
namespace Go.Proofs.Yteaabcjkpjhjkaa.P
open Go.RowKit Go.Proofs.YteaabcjkpjhjkaaW.PrintWords Go.Proofs.YteaabcjkpjhjkaaW.PrintMore Go.Proofs.Yteaabcjkpjhjkaa.Lib
set_option linter.unusedVariables false
theorem inRange_eq (a b c : Int) : impl_inRange.f a b c = some (decide (b ≤ a) && decide (a ≤ c)) := by
  unfold impl_inRange.f
  by_cases h : b ≤ a <;> simp [h]
theorem l01In_eq (a b c : Int) : spec_l01In.f a b c = some (decide (b ≤ a) && decide (a ≤ c)) := by
  unfold spec_l01In.f
  by_cases h : b ≤ a <;> simp [h]
/-- An element in range. -/
def inR (x : Int) : Bool := decide (0 ≤ x) && decide (x ≤ 1000)
theorem inR_iff (x : Int) : inR x = true ↔ 0 ≤ x ∧ x ≤ 1000 := by simp [inR]
def candStep (n x : Int) : Int := min (n * (x + 1)) 20001
def cand (l : List Int) : Int := if l.all inR then l.foldl candStep 1 else -1
theorem cand_top : ∀ l : List Int, (∀ x ∈ l, 0 ≤ x) → l.foldl candStep 20001 = 20001
  | [], _ => rfl
  | x :: xs, h => by
    have hx := h x (List.mem_cons_self ..)
    have e : candStep 20001 x = 20001 := by unfold candStep; omega
    rw [List.foldl_cons, e]
    exact cand_top xs fun y hy => h y (List.mem_cons_of_mem _ hy)
theorem mul_bd {n x : Int} (h1 : 1 ≤ n) (h2 : n ≤ 20001) (h3 : 0 ≤ x) (h4 : x ≤ 1000) : 1 ≤ n * (x + 1) ∧ n * (x + 1) ≤ 20021001 := by
  have e1 : 1 * 1 ≤ n * (x + 1) := Int.mul_le_mul h1 (by omega) (by omega) (by omega)
  have e2 : n * (x + 1) ≤ 20001 * 1001 := Int.mul_le_mul h2 (by omega) (by omega) (by omega)
  omega
theorem step_bd {n x : Int} (h1 : 1 ≤ n) (h2 : n ≤ 20001) (h3 : 0 ≤ x) (h4 : x ≤ 1000) : 1 ≤ candStep n x ∧ candStep n x ≤ 20001 := by
  have := mul_bd h1 h2 h3 h4
  unfold candStep; omega
theorem mn_min (a b : Int) : mn a b = min a b := by unfold mn; split <;> omega
theorem l20Candidates_ev (l : List Int) (h : l.length ≤ 4398046511104) (hr : ∀ x ∈ l, 0 ≤ x ∧ x ≤ 1000) : Ev (fun k => spec_l20Candidates.f k l) (l.foldl candStep 1) := by
  refine ev_loop0 (fun k (s : Int × Int) => spec_l20Candidates.l0 k l s.1 s.2) (fun s => ∃ n : Nat, n ≤ l.length ∧ s.2 = n ∧ 1 ≤ s.1 ∧ s.1 ≤ 20001) (fun s => l.length - s.2.toNat) (fun s => (l.drop s.2.toNat).foldl candStep s.1) ?_ (1, 0) ⟨0, by omega, rfl, by simp, by simp⟩
  rintro ⟨a, i⟩ ⟨n, hn, rfl, h1, h2⟩
  dsimp only at h1 h2 ⊢
  by_cases hlt : n < l.length
  · right
    have hx := hr l[n] (List.getElem_mem hlt)
    have hb := mul_bd h1 h2 hx.1 hx.2
    have hs := step_bd h1 h2 hx.1 hx.2
    refine ⟨(candStep a l[n], ((n + 1 : Nat) : Int)), ⟨n + 1, by omega, rfl, hs⟩, by dsimp only; omega, ?_, fun k => ?_⟩
    · dsimp only; rw [Int.toNat_natCast, Int.toNat_natCast, List.drop_eq_getElem_cons hlt]; rfl
    · simp only [spec_l20Candidates.l0]
      rw [if_pos (by omega), if_pos (by omega), rd_lt l n hlt, wrap_succ (by omega), wrap_id (x := l[n] + 1) (by omega) (by omega), wrap_id (by omega) (by omega), mn_min]
      rfl
  · obtain rfl : n = l.length := by omega
    refine .inl fun k => ?_
    simp only [spec_l20Candidates.l0]
    rw [if_neg (by omega)]
    simp
theorem all_drop {l : List Int} {n : Nat} (h : n < l.length) : (l.drop n).all inR = (inR l[n] && (l.drop (n + 1)).all inR) := by
  rw [List.drop_eq_getElem_cons h, List.all_cons]
theorem spec_CandidateCount_ev (l : List Int) (h : l.length ≤ 4398046511104) : Ev (fun k => spec_CandidateCount.f k l) (cand l) := by
  have key : Ev (fun k => spec_CandidateCount.l0 k l 0) (if (l.drop 0).all inR then cand l else -1) := by
    refine ev_loop (fun k (s : Int) => spec_CandidateCount.l0 k l s) (fun s => ∃ n : Nat, n ≤ l.length ∧ s = n ∧ (l.all inR = (l.drop n).all inR)) (fun s => l.length - s.toNat) (fun s => if (l.drop s.toNat).all inR then cand l else -1) ?_ 0 ⟨0, by omega, rfl, by simp⟩
    rintro i ⟨n, hn, rfl, ha⟩
    by_cases hlt : n < l.length
    · rw [Int.toNat_natCast, all_drop hlt] at *
      cases hp : inR l[n] with
      | true =>
        right
        rw [hp, Bool.true_and] at ha
        refine ⟨((n + 1 : Nat) : Int), 0, ⟨n + 1, by omega, rfl, ha⟩, by omega, by simp, fun k _ => ?_⟩
        simp only [spec_CandidateCount.l0]
        rw [if_pos (by omega), if_pos (by omega), rd_lt l n hlt, l01In_eq, Option.bind_some]
        change (if inR l[n] = true then _ else _) = _
        rw [if_pos hp, wrap_succ (by omega)]
      | false =>
        left
        refine ⟨0, fun k _ => ?_⟩
        simp only [spec_CandidateCount.l0]
        rw [if_pos (by omega), if_pos (by omega), rd_lt l n hlt, l01In_eq, Option.bind_some]
        change (if inR l[n] = true then _ else _) = _
        rw [hp]
        simp
    · obtain rfl : n = l.length := by omega
      left
      have hall : l.all inR = true := by rw [ha]; simp
      obtain ⟨K, hK⟩ := l20Candidates_ev l h (fun x hx => (inR_iff x).1 (List.all_eq_true.1 hall x hx))
      refine ⟨K, fun k hk => ?_⟩
      simp only [spec_CandidateCount.l0]
      have e : spec_l20Candidates.f k l = some _ := hK k hk
      rw [if_neg (by omega), e, Option.bind_some]
      simp [cand, hall]
  have e : (if (l.drop 0).all inR then cand l else -1) = cand l := by
    rw [List.drop_zero]; unfold cand; split <;> rfl
  rw [e] at key
  exact key
theorem contains_cand (l : List Int) : slices_ContainsFunc_Sint64_at_impl_CandidateCount_1.f l = some (!(l.all inR)) := by
  unfold slices_ContainsFunc_Sint64_at_impl_CandidateCount_1.f slices_IndexFunc_Sint64_at_impl_CandidateCount_1.f
  rw [contO (p := fun x => !inR x) l (fun x _ => by show impl_CandidateCount_1.f x = _; unfold impl_CandidateCount_1.f; rw [inRange_eq]; rfl)]
  rw [List.not_all_eq_any_not]
theorem impl_CandidateCount_ev (l : List Int) (h : l.length ≤ 4398046511104) : Ev (fun k => impl_CandidateCount.f k l) (cand l) := by
  refine Ev.congr (fun k => by unfold impl_CandidateCount.f; rw [contains_cand, Option.bind_some]) ?_
  cases hall : l.all inR with
  | false =>
    refine ev_pos rfl ?_
    exact ev_some (by unfold cand; rw [hall]; rfl)
  | true =>
    refine ev_neg (by simp) ?_
    have hr : ∀ x ∈ l, 0 ≤ x ∧ x ≤ 1000 := fun x hx => (inR_iff x).1 (List.all_eq_true.1 hall x hx)
    have e : cand l = l.foldl candStep 1 := by unfold cand; rw [hall]; rfl
    rw [e]
    refine ev_loop0 (fun k (s : Int × Int) => impl_CandidateCount.l0 k s.1 l (l.length : Int) s.2) (fun s => ∃ n : Nat, n ≤ l.length ∧ s.2 = n ∧ 1 ≤ s.1 ∧ s.1 ≤ 20000) (fun s => l.length - s.2.toNat) (fun s => (l.drop s.2.toNat).foldl candStep s.1) ?_ (1, 0) ⟨0, by omega, rfl, by simp, by simp⟩
    rintro ⟨a, i⟩ ⟨n, hn, rfl, h1, h2⟩
    dsimp only at h1 h2 ⊢
    by_cases hlt : n < l.length
    · have hx := hr l[n] (List.getElem_mem hlt)
      have hb := mul_bd h1 (by omega) hx.1 hx.2
      by_cases hc : a * (l[n] + 1) > 20000
      · left
        intro k
        simp only [impl_CandidateCount.l0]
        rw [if_pos (by omega), if_pos (by omega), if_pos (by omega), rd_lt l n hlt, wrap_id (x := l[n] + 1) (by omega) (by omega), wrap_id (by omega) (by omega), if_pos hc]
        congr 1
        rw [Int.toNat_natCast, List.drop_eq_getElem_cons hlt, List.foldl_cons]
        have : candStep a l[n] = 20001 := by unfold candStep; omega
        rw [this]
        exact (cand_top _ fun x hx => (hr x (List.mem_of_mem_drop hx)).1).symm
      · right
        have hs : candStep a l[n] = a * (l[n] + 1) := by unfold candStep; omega
        refine ⟨(candStep a l[n], ((n + 1 : Nat) : Int)), ⟨n + 1, by omega, rfl, by dsimp only; omega, by dsimp only; omega⟩, by dsimp only; omega, ?_, fun k => ?_⟩
        · dsimp only; rw [Int.toNat_natCast, Int.toNat_natCast, List.drop_eq_getElem_cons hlt]; rfl
        · simp only [impl_CandidateCount.l0]
          rw [if_pos (by omega), if_pos (by omega), if_pos (by omega), rd_lt l n hlt, wrap_id (x := l[n] + 1) (by omega) (by omega), wrap_id (by omega) (by omega), if_neg hc, wrap_succ (by omega), hs]
    · obtain rfl : n = l.length := by omega
      refine .inl fun k => ?_
      simp only [impl_CandidateCount.l0]
      rw [if_neg (by omega)]
      simp
end Go.Proofs.Yteaabcjkpjhjkaa.P

-- Printed by a program of this session (drv.py), by means of the kit's print.py.
namespace Go.Proofs.Yteaabcjkpjhjkaa.P
open Go.RowKit Go.Proofs.YteaabcjkpjhjkaaW.PrintWords Go.Proofs.YteaabcjkpjhjkaaW.PrintLast Go.Proofs.YteaabcjkpjhjkaaW.PrintMore
attribute [local go_sem] max2_int min2_int max_two min_two max_three min_three max_four min_four   -- for this text's walks alone
set_option linter.unusedVariables false
set_option linter.unusedSimpArgs false

/-! ### impl_SupportOf: function 9 -/
def impl_SupportOf.l0 : Nat → List Int → List Int → Int → Int → Option (List Int)
  | 0, _, _, _, _ => none
  | k + 1, x3, x6, x7, x8 => if x8 < x7 then (if 0 ≤ x8 then (if x8 < (x6.length : Int) then (if (rd x6 x8) = 0 then (impl_SupportOf.l0 k x3 x6 x7 (wrap64 (x8 + 1))) else (if x3.length < 17592186044416 then (impl_SupportOf.l0 k (x3 ++ [x8]) x6 x7 (wrap64 (x8 + 1))) else (none))) else (none)) else (none)) else (some x3)
def impl_SupportOf.f (k : Nat) (l0 : List Int) : Option (List Int) := impl_SupportOf.l0 k ([] : List Int) l0 (l0.length : Int) 0
theorem impl_SupportOf.mono_l : ∀ k, (∀ y0 y1 y2 y3, LeO (impl_SupportOf.l0 k y0 y1 y2 y3) (impl_SupportOf.l0 (k + 1) y0 y1 y2 y3))
  | 0 => fun _ _ _ _ r h => by simp [impl_SupportOf.l0] at h
  | k + 1 => by
    have ih0 := impl_SupportOf.mono_l k
    · intro y0 y1 y2 y3
      unfold impl_SupportOf.l0
      repeat' first
      | (with_reducible exact ih0 _ _ _ _)
      | (with_reducible exact LeO.refl _)
      | (with_reducible exact LeO.none _)
      | (with_reducible refine LeO.ite ?_ ?_)
      | (with_reducible refine LeO.bind ?_ (fun _ => ?_))
      | exact ih0 _ _ _ _
      | exact LeO.none _
      | refine LeO.ite ?_ ?_
      | refine LeO.bind ?_ (fun _ => ?_)
theorem impl_SupportOf.mono : ∀ a0 k, LeO (impl_SupportOf.f k a0) (impl_SupportOf.f (k + 1) a0) := by
  intro a0 k
  have ih0 := impl_SupportOf.mono_l k
  unfold impl_SupportOf.f
  repeat' first
      | (with_reducible exact ih0 _ _ _ _)
      | (with_reducible exact LeO.refl _)
      | (with_reducible exact LeO.none _)
      | (with_reducible refine LeO.ite ?_ ?_)
      | (with_reducible refine LeO.bind ?_ (fun _ => ?_))
      | exact ih0 _ _ _ _
      | exact LeO.none _
      | refine LeO.ite ?_ ?_
      | refine LeO.bind ?_ (fun _ => ?_)
set_option maxHeartbeats 8000000 in
set_option maxRecDepth 100000 in
theorem impl_SupportOf.calls (k : Nat) (A0 : Option Addr) (c0 : Nat) (l0 : List Int) (r : List Int) (w : World) (hr0 : Kd.C (Kd.int .i64) w A0 l0.length l0) (hc0 : l0.length ≤ c0) (h : impl_SupportOf.f k l0 = some r) :
    Calls Try.prog 9 #[.slice A0 l0.length c0] w fun e w' => ∃ v0_ : Value, e = .returned (v0_) ∧ Kd.R (Kd.int .i64) 2 w' w.heap.size (fun _ => True) v0_ r ∧ Below w.heap.size w w' := by
  have HR0 := Aside0.mk hr0
  have HC0 := Aside0.mk hc0
  clear hr0 hc0
  have HB := Aside0.mk (Below.refl w.heap.size w)
  have H : (impl_SupportOf.l0 k ([] : List Int) l0 (l0.length : Int) 0) = some r := h
  clear h
  have H' := Aside0.mk H
  clear H
  go_enter Try.func9, Try.ntmps9
  go_wp2
  go_loopg [3, 8] k (fun kq v3 v8 w' => ∃ (x3_1 : List Int) (x8_1 : Int), v8 = .int .i64 x8_1 ∧ Aside0 (impl_SupportOf.l0 kq x3_1 l0 (l0.length : Int) x8_1 = some r) ∧ Aside0 (kq ≤ k) ∧ Aside0 (Kd.R (Kd.int .i64) 2 w' w.heap.size (fun _ => True) v3 x3_1) ∧ Aside0 (Below w.heap.size w w'))
  case atStart => exact ⟨(([] : List Int)), (0), (by first | rfl | (simp; done) | (simp [*]; done)), H', ⟨Nat.le_refl _⟩, ⟨by first | exact Kd.R_nil _ _ _ _ _ | exact Kd.N_nil _ _ _ _ _ | exact Kd.V_nil _ _ _ _ _ | exact Kd.Q_nil _ _ _ _ _ | exact Kd.S_nil _ _ _ _ _⟩, ⟨by repeat (first | (with_reducible first | exact HB.out | apply below_alloc | apply pw_below_drewN | apply below_drew1) | exact HB.out)⟩⟩
  case round =>
    clear H'
    obtain ⟨x3_1, x8_1, rfl, HA, HK1, HO_3, HB⟩ := hrel
    cases gk with
    | zero => exact absurd HA.out (by simp [impl_SupportOf.l0])
    | succ k1 =>
      have H := HA.out
      clear HA
      simp only [impl_SupportOf.l0] at H
      by_cases c2 : x8_1 < (l0.length : Int)
      · rw [if_pos c2] at H
        have c2b0 : decide (x8_1 < (l0.length : Int)) = true := decide_eq_true c2
        clear c2
        by_cases c3 : 0 ≤ x8_1
        · rw [if_pos c3] at H
          have c3b0 : decide (0 ≤ x8_1) = true := decide_eq_true c3
          clear c3
          by_cases c4 : x8_1 < (l0.length : Int)
          · rw [if_pos c4] at H
            have c4b0 : decide (x8_1 < (l0.length : Int)) = true := decide_eq_true c4
            clear c4
            by_cases c5 : (rd l0 x8_1) = 0
            · rw [if_pos c5] at H
              have c5b0 : ((rd l0 x8_1) == 0) = true := beq_iff_eq.mpr c5
              have c5b1 : ((rd l0 x8_1) != 0) = false := bne_eq_false_iff_eq.mpr c5
              clear c5
              have H' := Aside0.mk H
              clear H
              have p101 : 0 ≤ (x8_1 : Int) := of_decide_eq_true (by first | (with_reducible assumption) | assumption)
              have q101 : x8_1 < (l0.length : Int) := of_decide_eq_true (by first | (with_reducible assumption) | assumption)
              obtain ⟨ad101, e101, hx101_0⟩ := Kd.at_int HR0.out x8_1 p101 q101
              cases e101
              replace hx101_0 := (HB.out.cell (World.block_lt_of_cell? w _ hx101_0)).trans hx101_0
              replace p101 := eq_true p101
              replace q101 := eq_true q101
              go_wp2
              go_roundg k1
              case measure => have := HK1.out; omega
              case rel => exact ⟨(x3_1), (wrap64 (x8_1 + 1)), (by first | rfl | (simp; done) | (simp [*]; done)), H', ⟨by have := HK1.out; omega⟩, ⟨by (with_reducible repeat (first | apply Kd.R_alloc | apply Kd.R_drewN | apply Kd.R_drew)); exact HO_3.out⟩, ⟨by repeat (first | (with_reducible first | exact HB.out | apply below_alloc | apply pw_below_drewN | apply below_drew1) | exact HB.out)⟩⟩
            · rw [if_neg c5] at H
              have c5b0 : ((rd l0 x8_1) == 0) = false := beq_eq_false_iff_ne.mpr c5
              have c5b1 : ((rd l0 x8_1) != 0) = true := bne_iff_ne.mpr c5
              by_cases c6 : x3_1.length < 17592186044416
              · rw [if_pos c6] at H
                have LMc6 := Aside0.mk c6
                clear c6
                obtain ⟨y102, hy102⟩ : ∃ y_ : List Int, y_ = (x3_1 ++ [x8_1]) := ⟨_, rfl⟩
                replace H : (impl_SupportOf.l0 k1 y102 l0 (l0.length : Int) (wrap64 (x8_1 + 1))) = some r := by first | (rw [hy102]; with_reducible exact H) | (have H2_ := (Option.bind_some _ _).symm.trans H; rw [hy102]; with_reducible exact H2_) | (have H2_ := (Option.bind_some _ _).symm.trans H; with_reducible exact H2_) | with_reducible exact H | (rw [hy102]; exact H) | exact H
                have Ny102 := Aside0.mk hy102
                clear hy102
                have H' := Aside0.mk H
                clear H
                have p101 : 0 ≤ (x8_1 : Int) := of_decide_eq_true (by first | (with_reducible assumption) | assumption)
                have q101 : x8_1 < (l0.length : Int) := of_decide_eq_true (by first | (with_reducible assumption) | assumption)
                obtain ⟨ad101, e101, hx101_0⟩ := Kd.at_int HR0.out x8_1 p101 q101
                cases e101
                replace hx101_0 := (HB.out.cell (World.block_lt_of_cell? w _ hx101_0)).trans hx101_0
                replace p101 := eq_true p101
                replace q101 := eq_true q101
                go_wp2_with (first | ((with_reducible refine gate_builtin (b := .append) (xs := #[.tmp 15, .tmp 17]) rfl ?_); at_builtin; refine Kd.R_append (Kd.int .i64) (w0 := w) w.heap.size rfl (.tmp 15) (.tmp 17) 22 2 (.int .i64 0) 8 rfl Try.underlying22 info2 rfl (by decide) (by omega) u3 x3_1 x8_1 [.int .i64 x8_1] (fun _ => True) (fun _ => False) rfl rfl ?aP (fun _ hk => hk.elim) ?aF ?aO ?aB ?aS ?aL ?_; (case aP => exact rfl); (case aB => exact (by repeat (first | (with_reducible first | exact HB.out | apply below_alloc | apply pw_below_drewN | apply below_drew1) | exact HB.out))); (case aF => exact (fun _ _ => trivial)); (case aO => exact (by (with_reducible repeat (first | apply Kd.R_alloc | apply Kd.R_drewN | apply Kd.R_drew)); exact HO_3.out)); (case aS => exact (below_size (by repeat (first | (with_reducible first | exact HB.out | apply below_alloc | apply pw_below_drewN | apply below_drew1) | exact HB.out)))); (case aL => have := LMc6.out; omega); intro v103 w7 ho hb hg hat; rw [← Ny102.out] at ho; have n0_ := Aside0.mk (hb); have n1_ := Aside0.mk (ho); clear HB; clear HO_3; have HB := n0_; have HO104 := n1_; clear n0_ n1_; clear ho hb hg hat))
                go_roundg k1
                case measure => have := HK1.out; omega
                case rel => exact ⟨(y102), (wrap64 (x8_1 + 1)), (by first | rfl | (simp; done) | (simp [*]; done)), H', ⟨by have := HK1.out; omega⟩, ⟨by (with_reducible repeat (first | apply Kd.R_alloc | apply Kd.R_drewN | apply Kd.R_drew)); exact HO104.out⟩, ⟨by repeat (first | (with_reducible first | exact HB.out | apply below_alloc | apply pw_below_drewN | apply below_drew1) | exact HB.out)⟩⟩
              · rw [if_neg c6] at H
                exact absurd H (by simp)
          · rw [if_neg c4] at H
            exact absurd H (by simp)
        · rw [if_neg c3] at H
          exact absurd H (by simp)
      · rw [if_neg c2] at H
        have c2b0 : decide (x8_1 < (l0.length : Int)) = false := decide_eq_false c2
        clear c2
        obtain rfl := Option.some.inj H
        go_wp2
        go_ret
        exact ⟨_, by first | rfl | (simp [errW_none, errW_some] <;> rfl) | (simp [*, errW_none, errW_some] <;> rfl), by (with_reducible repeat (first | apply Kd.R_alloc | apply Kd.R_drewN | apply Kd.R_drew)); exact HO_3.out, by repeat (first | (with_reducible first | exact HB.out | apply below_alloc | apply pw_below_drewN | apply below_drew1) | exact HB.out)⟩

end Go.Proofs.Yteaabcjkpjhjkaa.P

/- The positions of the elements that are not 0: what both functions come to. -/
namespace Go.Proofs.Yteaabcjkpjhjkaa.P
open Go.RowKit Go.Proofs.YteaabcjkpjhjkaaW.PrintWords Go.Proofs.Yteaabcjkpjhjkaa.Lib
set_option linter.unusedVariables false
/-- The positions, from i on, of the elements that are not 0. -/
def supp : Nat → List Int → List Int
  | _, [] => []
  | i, x :: xs => if x = 0 then supp (i + 1) xs else (i : Int) :: supp (i + 1) xs
theorem supp_length (i : Nat) (l : List Int) : (supp i l).length ≤ l.length := by
  induction l generalizing i with
  | nil => simp [supp]
  | cons x xs ih => unfold supp; have := ih (i + 1); split <;> simp <;> omega
theorem supp_drop (l : List Int) (n : Nat) (h : n < l.length) : supp n (l.drop n) = if l[n] = 0 then supp (n + 1) (l.drop (n + 1)) else (n : Int) :: supp (n + 1) (l.drop (n + 1)) := by
  rw [List.drop_eq_getElem_cons h]; rfl
theorem spec_SupportOf_ev (l : List Int) (h : l.length ≤ 4398046511104) : Ev (fun k => spec_SupportOf.f k l) (supp 0 l) := by
  refine ev_loop0 (fun k (s : List Int × Int) => spec_SupportOf.l0 k l s.1 s.2) (fun s => ∃ n : Nat, n ≤ l.length ∧ s.2 = n ∧ s.1.length ≤ n) (fun s => l.length - s.2.toNat) (fun s => s.1 ++ supp s.2.toNat (l.drop s.2.toNat)) ?_ ([], 0) ⟨0, by omega, rfl, by simp⟩
  rintro ⟨a, i⟩ ⟨n, hn, rfl, ha⟩
  dsimp only at ha ⊢
  by_cases hlt : n < l.length
  · right
    rw [Int.toNat_natCast, supp_drop l n hlt]
    by_cases hx : l[n] = 0
    · refine ⟨(a, ((n + 1 : Nat) : Int)), ⟨n + 1, by omega, rfl, by dsimp only; omega⟩, by dsimp only; omega, by dsimp only; rw [Int.toNat_natCast, if_pos hx], fun k => ?_⟩
      simp only [spec_SupportOf.l0]
      rw [if_pos (by omega), if_pos (by omega), rd_lt l n hlt, if_pos hx, wrap_succ (by omega)]
    · refine ⟨(a ++ [(n : Int)], ((n + 1 : Nat) : Int)), ⟨n + 1, by omega, rfl, by simp; omega⟩, by dsimp only; omega, by dsimp only; rw [Int.toNat_natCast, if_neg hx]; simp, fun k => ?_⟩
      simp only [spec_SupportOf.l0]
      rw [if_pos (by omega), if_pos (by omega), rd_lt l n hlt, if_neg hx, if_pos (by omega), wrap_succ (by omega)]
  · obtain rfl : n = l.length := by omega
    refine .inl fun k => ?_
    simp only [spec_SupportOf.l0]
    rw [if_neg (by omega)]
    simp [supp]
theorem impl_SupportOf_ev (l : List Int) (h : l.length ≤ 4398046511104) : Ev (fun k => impl_SupportOf.f k l) (supp 0 l) := by
  refine ev_loop0 (fun k (s : List Int × Int) => impl_SupportOf.l0 k s.1 l (l.length : Int) s.2) (fun s => ∃ n : Nat, n ≤ l.length ∧ s.2 = n ∧ s.1.length ≤ n) (fun s => l.length - s.2.toNat) (fun s => s.1 ++ supp s.2.toNat (l.drop s.2.toNat)) ?_ ([], 0) ⟨0, by omega, rfl, by simp⟩
  rintro ⟨a, i⟩ ⟨n, hn, rfl, ha⟩
  dsimp only at ha ⊢
  by_cases hlt : n < l.length
  · right
    rw [Int.toNat_natCast, supp_drop l n hlt]
    by_cases hx : l[n] = 0
    · refine ⟨(a, ((n + 1 : Nat) : Int)), ⟨n + 1, by omega, rfl, by dsimp only; omega⟩, by dsimp only; omega, by dsimp only; rw [Int.toNat_natCast, if_pos hx], fun k => ?_⟩
      simp only [impl_SupportOf.l0]
      rw [if_pos (by omega), if_pos (by omega), if_pos (by omega), rd_lt l n hlt, if_pos hx, wrap_succ (by omega)]
    · refine ⟨(a ++ [(n : Int)], ((n + 1 : Nat) : Int)), ⟨n + 1, by omega, rfl, by simp; omega⟩, by dsimp only; omega, by dsimp only; rw [Int.toNat_natCast, if_neg hx]; simp, fun k => ?_⟩
      simp only [impl_SupportOf.l0]
      rw [if_pos (by omega), if_pos (by omega), if_pos (by omega), rd_lt l n hlt, if_neg hx, if_pos (by omega), wrap_succ (by omega)]
  · obtain rfl : n = l.length := by omega
    refine .inl fun k => ?_
    simp only [impl_SupportOf.l0]
    rw [if_neg (by omega)]
    simp [supp]
end Go.Proofs.Yteaabcjkpjhjkaa.P

/- PrimitiveOf: a vector divided by the greatest common divisor of its elements, where these are in range and not all 0. -/
namespace Go.Proofs.Yteaabcjkpjhjkaa.P
open Go.RowKit Go.Proofs.YteaabcjkpjhjkaaW.PrintWords Go.Proofs.YteaabcjkpjhjkaaW.PrintMore Go.Proofs.Yteaabcjkpjhjkaa.Lib
set_option linter.unusedVariables false
def gcdI (a b : Int) : Int := (Int.gcd a b : Int)
def gcdL (l : List Int) : Int := l.foldl gcdI 0
theorem gcdI_nonneg (a b : Int) : 0 ≤ gcdI a b := by unfold gcdI; omega
theorem gcdI_step {a b : Int} (ha : 0 ≤ a) (hb : 0 < b) : gcdI a b = gcdI b (Int.tmod a b) := by
  unfold gcdI
  obtain ⟨m, rfl⟩ := Int.eq_ofNat_of_zero_le ha
  obtain ⟨n, rfl⟩ := Int.eq_ofNat_of_zero_le (Int.le_of_lt hb)
  have e : Int.tmod (m : Int) (n : Int) = ((m % n : Nat) : Int) := rfl
  rw [e]
  simp only [Int.gcd, Int.natAbs_natCast]
  rw [Nat.gcd_comm m n, Nat.gcd_rec n m, Nat.gcd_comm]
theorem gcdI_zero {a : Int} (ha : 0 ≤ a) : gcdI a 0 = a := by
  unfold gcdI
  obtain ⟨m, rfl⟩ := Int.eq_ofNat_of_zero_le ha
  simp [Int.gcd]
theorem gcdI_le {a b : Int} (ha : 0 ≤ a) (hb : 0 ≤ b) : gcdI a b ≤ max a b := by
  unfold gcdI
  obtain ⟨m, rfl⟩ := Int.eq_ofNat_of_zero_le ha
  obtain ⟨n, rfl⟩ := Int.eq_ofNat_of_zero_le hb
  simp only [Int.gcd, Int.natAbs_natCast]
  rcases Nat.eq_zero_or_pos n with h | h
  · subst h; simp
  · have := Nat.gcd_le_right m h; omega
theorem l18Gcd_ev (a b : Int) (ha : 0 ≤ a) (hb : 0 ≤ b) : Ev (fun k => spec_l18Gcd.f k a b) (gcdI a b) := by
  refine ev_loop0 (fun k (s : Int × Int) => spec_l18Gcd.l0 k s.1 s.2) (fun s => 0 ≤ s.1 ∧ 0 ≤ s.2) (fun s => s.2.toNat) (fun s => gcdI s.1 s.2) ?_ (a, b) ⟨ha, hb⟩
  rintro ⟨x, y⟩ ⟨hx, hy⟩
  dsimp only at hx hy ⊢
  by_cases h : y = 0
  · subst h
    left
    intro k
    simp only [spec_l18Gcd.l0]
    rw [if_pos trivial, gcdI_zero hx]
  · right
    have h1 : 0 ≤ Int.tmod x y := Int.tmod_nonneg y hx
    have h2 : Int.tmod x y < y := Int.tmod_lt_of_pos x (by omega)
    refine ⟨(y, Int.tmod x y), ⟨hy, h1⟩, by dsimp only; omega, (gcdI_step hx (by omega)).symm, fun k => ?_⟩
    simp only [spec_l18Gcd.l0]
    rw [if_neg h]
theorem impl_gcd0_ev (a b : Int) (ha : 0 ≤ a) (hb : 0 ≤ b) : Ev (fun k => impl_gcd.l0 k a b) (gcdI a b) := by
  refine ev_loop0 (fun k (s : Int × Int) => impl_gcd.l0 k s.1 s.2) (fun s => 0 ≤ s.1 ∧ 0 ≤ s.2) (fun s => s.2.toNat) (fun s => gcdI s.1 s.2) ?_ (a, b) ⟨ha, hb⟩
  rintro ⟨x, y⟩ ⟨hx, hy⟩
  dsimp only at hx hy ⊢
  by_cases h : y = 0
  · subst h
    left
    intro k
    simp only [impl_gcd.l0]
    rw [if_pos trivial, gcdI_zero hx]
  · right
    have h1 : 0 ≤ Int.tmod x y := Int.tmod_nonneg y hx
    have h2 : Int.tmod x y < y := Int.tmod_lt_of_pos x (by omega)
    refine ⟨(y, Int.tmod x y), ⟨hy, h1⟩, by dsimp only; omega, (gcdI_step hx (by omega)).symm, fun k => ?_⟩
    simp only [impl_gcd.l0]
    rw [if_neg h]
theorem impl_abs_eq (a : Int) (h : -9223372036854775807 ≤ a) (h2 : a ≤ 9223372036854775807) : impl_abs.f a = some (a.natAbs : Int) := by
  unfold impl_abs.f
  by_cases c : a < 0
  · rw [if_pos c, wrap_id (by omega) (by omega)]; congr 1; omega
  · rw [if_neg c]; congr 1; omega
theorem impl_gcd_ev (a b : Int) (ha : -9223372036854775807 ≤ a) (ha2 : a ≤ 9223372036854775807) (hb : -9223372036854775807 ≤ b) (hb2 : b ≤ 9223372036854775807) : Ev (fun k => impl_gcd.f k a b) (gcdI a b) := by
  refine Ev.congr (fun k => by unfold impl_gcd.f; rw [impl_abs_eq a ha ha2, impl_abs_eq b hb hb2, Option.bind_some, Option.bind_some]) ?_
  have e : gcdI a b = gcdI (a.natAbs : Int) (b.natAbs : Int) := by unfold gcdI; simp [Int.gcd]
  rw [e]
  exact impl_gcd0_ev _ _ (by omega) (by omega)
theorem gcdL_bd : ∀ (l : List Int) (a : Int), 0 ≤ a → a ≤ 1000 → (∀ x ∈ l, 0 ≤ x ∧ x ≤ 1000) → 0 ≤ l.foldl gcdI a ∧ l.foldl gcdI a ≤ 1000
  | [], a, h0, h1, _ => ⟨h0, h1⟩
  | x :: xs, a, h0, h1, h => by
    have hx := h x (List.mem_cons_self ..)
    have := gcdI_le h0 hx.1
    exact gcdL_bd xs (gcdI a x) (gcdI_nonneg _ _) (by omega) fun y hy => h y (List.mem_cons_of_mem _ hy)
theorem impl_gcdOf_ev (l : List Int) (h : l.length ≤ 4398046511104) (hr : ∀ x ∈ l, -9223372036854775807 ≤ x ∧ x ≤ 9223372036854775807) : Ev (fun k => impl_gcdOf.f k l) (gcdL l) := by
  refine ev_loop (fun k (s : Int × Int) => impl_gcdOf.l0 k s.1 l (l.length : Int) s.2) (fun s => ∃ n : Nat, n ≤ l.length ∧ s.2 = n ∧ 0 ≤ s.1 ∧ s.1 ≤ 9223372036854775807) (fun s => l.length - s.2.toNat) (fun s => (l.drop s.2.toNat).foldl gcdI s.1) ?_ (0, 0) ⟨0, by omega, rfl, by simp, by simp⟩
  rintro ⟨a, i⟩ ⟨n, hn, rfl, h1, h2⟩
  dsimp only at h1 h2 ⊢
  by_cases hlt : n < l.length
  · right
    have hx := hr l[n] (List.getElem_mem hlt)
    obtain ⟨K, hK⟩ := impl_gcd_ev a l[n] (by omega) (by omega) hx.1 hx.2
    have hb : gcdI a l[n] ≤ 9223372036854775807 := by
      have e : gcdI a l[n] = gcdI a (l[n].natAbs : Int) := by unfold gcdI; simp [Int.gcd]
      have := gcdI_le h1 (b := (l[n].natAbs : Int)) (by omega)
      omega
    refine ⟨(gcdI a l[n], ((n + 1 : Nat) : Int)), K, ⟨n + 1, by omega, rfl, gcdI_nonneg _ _, hb⟩, by dsimp only; omega, ?_, fun k hk => ?_⟩
    · dsimp only; rw [Int.toNat_natCast, Int.toNat_natCast, List.drop_eq_getElem_cons hlt]; rfl
    · have e : impl_gcd.f k a l[n] = some _ := hK k hk
      simp only [impl_gcdOf.l0]
      rw [if_pos (by omega), if_pos (by omega), if_pos (by omega), rd_lt l n hlt, e, Option.bind_some, wrap_succ (by omega)]
  · obtain rfl : n = l.length := by omega
    refine .inl ⟨0, fun k _ => ?_⟩
    simp only [impl_gcdOf.l0]
    rw [if_neg (by omega)]
    simp
/-- A list divided by a number, as Go divides. -/
def divL (d : Int) (l : List Int) : List Int := l.map fun x => wrap64 (Int.tdiv x d)
theorem divL_cons (d x : Int) (l : List Int) : divL d (x :: l) = wrap64 (Int.tdiv x d) :: divL d l := rfl
theorem divL_app (d : Int) (a b : List Int) : divL d (a ++ b) = divL d a ++ divL d b := List.map_append
theorem spec_divL_ev (l : List Int) (d : Int) (hd : d ≠ 0) (h : l.length ≤ 4398046511104) : Ev (fun k => spec_l18Primitive.l1 k l d [] 0) (divL d l) := by
  refine ev_loop0 (fun k (s : List Int × Int) => spec_l18Primitive.l1 k l d s.1 s.2) (fun s => ∃ n : Nat, n ≤ l.length ∧ s.2 = n ∧ s.1.length ≤ n) (fun s => l.length - s.2.toNat) (fun s => s.1 ++ divL d (l.drop s.2.toNat)) ?_ ([], 0) ⟨0, by omega, rfl, by simp⟩
  rintro ⟨a, i⟩ ⟨n, hn, rfl, ha⟩
  dsimp only at ha ⊢
  by_cases hlt : n < l.length
  · right
    refine ⟨(a ++ [wrap64 (Int.tdiv l[n] d)], ((n + 1 : Nat) : Int)), ⟨n + 1, by omega, rfl, by simp; omega⟩, by dsimp only; omega, ?_, fun k => ?_⟩
    · dsimp only; rw [Int.toNat_natCast, Int.toNat_natCast, List.drop_eq_getElem_cons hlt, divL_cons, List.append_assoc]; rfl
    · simp only [spec_l18Primitive.l1]
      rw [if_pos (by omega), if_pos (by omega), if_neg hd, if_pos (by omega), rd_lt l n hlt, wrap_succ (by omega)]
  · obtain rfl : n = l.length := by omega
    refine .inl fun k => ?_
    simp only [spec_l18Primitive.l1]
    rw [if_neg (by omega)]
    simp [divL]
theorem spec_l18Primitive_ev (l : List Int) (h : l.length ≤ 4398046511104) (hr : ∀ x ∈ l, 0 ≤ x) (hd : gcdL l ≠ 0) : Ev (fun k => spec_l18Primitive.f k l) (divL (gcdL l) l) := by
  refine ev_loop (fun k (s : Int × Int) => spec_l18Primitive.l0 k l s.1 s.2) (fun s => ∃ n : Nat, n ≤ l.length ∧ s.2 = n ∧ 0 ≤ s.1 ∧ (l.drop n).foldl gcdI s.1 = gcdL l) (fun s => l.length - s.2.toNat) (fun _ => divL (gcdL l) l) ?_ (0, 0) ⟨0, by omega, rfl, by simp, rfl⟩
  rintro ⟨a, i⟩ ⟨n, hn, rfl, h1, hg⟩
  dsimp only at h1 hg ⊢
  by_cases hlt : n < l.length
  · right
    have hx := hr l[n] (List.getElem_mem hlt)
    obtain ⟨K, hK⟩ := l18Gcd_ev a l[n] h1 hx
    refine ⟨(gcdI a l[n], ((n + 1 : Nat) : Int)), K, ⟨n + 1, by omega, rfl, gcdI_nonneg _ _, ?_⟩, by dsimp only; omega, rfl, fun k hk => ?_⟩
    · rw [List.drop_eq_getElem_cons hlt] at hg; exact hg
    · have e : spec_l18Gcd.f k a l[n] = some _ := hK k hk
      simp only [spec_l18Primitive.l0]
      rw [if_pos (by omega), if_pos (by omega), rd_lt l n hlt, e, Option.bind_some, wrap_succ (by omega)]
  · obtain rfl : n = l.length := by omega
    left
    have e : a = gcdL l := by rw [← hg]; simp
    subst e
    obtain ⟨K, hK⟩ := spec_divL_ev l (gcdL l) hd h
    refine ⟨K, fun k hk => ?_⟩
    have e : spec_l18Primitive.l1 k l (gcdL l) [] 0 = some _ := hK k hk
    simp only [spec_l18Primitive.l0]
    rw [if_neg (by omega), e]
theorem divL_one (l : List Int) (hr : ∀ x ∈ l, 0 ≤ x ∧ x ≤ 1000) : divL 1 l = l := by
  unfold divL
  conv => rhs; rw [← List.map_id l]
  refine List.map_congr_left fun x hx => ?_
  have := hr x hx
  simp only [Int.tdiv_one, id]
  exact wrap_id (by omega) (by omega)
theorem divL_take_set (d : Int) (l : List Int) (n : Nat) (h : n < l.length) : (divL d (l.take n) ++ l.drop n).set n (wrap64 (Int.tdiv l[n] d)) = divL d (l.take (n + 1)) ++ l.drop (n + 1) := by
  have hl : (divL d (l.take n)).length = n := by simp [divL]; omega
  rw [List.set_append_right _ _ (by omega), hl, Nat.sub_self, List.drop_eq_getElem_cons h, List.set_cons_zero, List.take_succ_eq_append_getElem h, divL_app, List.append_assoc]
  rfl
theorem impl_div_ev (l : List Int) (d : Int) (hd : d ≠ 0) (h : l.length ≤ 4398046511104) : Ev (fun k => impl_primitive.l0 k l d (l.length : Int) 0) (divL d l) := by
  refine ev_loop0 (fun k (s : List Int × Int) => impl_primitive.l0 k s.1 d (l.length : Int) s.2) (fun s => ∃ n : Nat, n ≤ l.length ∧ s.2 = n ∧ s.1 = divL d (l.take n) ++ l.drop n) (fun s => l.length - s.2.toNat) (fun _ => divL d l) ?_ (l, 0) ⟨0, by omega, rfl, by simp [divL]⟩
  rintro ⟨a, i⟩ ⟨n, hn, rfl, rfl⟩
  dsimp only
  have hl : (divL d (l.take n) ++ l.drop n).length = l.length := by simp [divL]; omega
  by_cases hlt : n < l.length
  · right
    have hx : rd (divL d (l.take n) ++ l.drop n) (n : Int) = l[n] := by
      rw [rd_nat, List.getD_eq_getElem?_getD, List.getElem?_append_right (by simp [divL]; omega)]
      have : (divL d (l.take n)).length = n := by simp [divL]; omega
      rw [this, Nat.sub_self]
      simp [hlt]
    refine ⟨(divL d (l.take (n + 1)) ++ l.drop (n + 1), ((n + 1 : Nat) : Int)), ⟨n + 1, by omega, rfl, rfl⟩, by dsimp only; omega, rfl, fun k => ?_⟩
    simp only [impl_primitive.l0]
    rw [if_pos (by omega), if_pos (by omega), if_pos (by omega), if_neg hd, hx, Int.toNat_natCast, divL_take_set d l n hlt, wrap_succ (by omega)]
  · obtain rfl : n = l.length := by omega
    refine .inl fun k => ?_
    simp only [impl_primitive.l0]
    rw [if_neg (by omega)]
    simp
/-- What PrimitiveOf answers. -/
def prim (l : List Int) : List Int := if l.all inR then if gcdL l = 0 then [] else divL (gcdL l) l else []
theorem foldl_gcd_zero : ∀ (l : List Int) (a : Int), l.foldl gcdI a = 0 ↔ (a = 0 ∧ ∀ x ∈ l, x = 0) ∨ (l = [] ∧ a = 0)
  | [], a => by simp
  | x :: xs, a => by
    rw [List.foldl_cons, foldl_gcd_zero xs]
    have e : gcdI a x = 0 ↔ a = 0 ∧ x = 0 := by unfold gcdI; rw [Int.natCast_eq_zero, Int.gcd_eq_zero_iff]
    rw [e]
    constructor
    · rintro (⟨⟨h1, h2⟩, h3⟩ | ⟨rfl, h1, h2⟩)
      · exact .inl ⟨h1, fun y hy => by rcases List.mem_cons.1 hy with rfl | h; exact h2; exact h3 y h⟩
      · exact .inl ⟨h1, fun y hy => by rcases List.mem_cons.1 hy with rfl | h; exact h2; cases h⟩
    · rintro (⟨h1, h2⟩ | ⟨h1, _⟩)
      · exact .inl ⟨⟨h1, h2 x (List.mem_cons_self ..)⟩, fun y hy => h2 y (List.mem_cons_of_mem _ hy)⟩
      · cases h1
theorem supp_nil : ∀ (i : Nat) (l : List Int), (supp i l).length = 0 ↔ ∀ x ∈ l, x = 0
  | i, [] => by simp [supp]
  | i, x :: xs => by
    unfold supp
    by_cases h : x = 0
    · rw [if_pos h, supp_nil (i + 1) xs]; simp [h]
    · rw [if_neg h]; simp [h]
theorem gcdL_zero (l : List Int) : gcdL l = 0 ↔ (supp 0 l).length = 0 := by
  rw [supp_nil]; unfold gcdL; rw [foldl_gcd_zero]
  constructor
  · rintro (⟨_, h⟩ | ⟨rfl, _⟩)
    · exact h
    · intro x hx; cases hx
  · exact fun h => .inl ⟨rfl, h⟩
theorem spec_PrimitiveOf_ev (l : List Int) (h : l.length ≤ 4398046511104) : Ev (fun k => spec_PrimitiveOf.f k l) (prim l) := by
  have key : Ev (fun k => spec_PrimitiveOf.l0 k l 0) (if (l.drop 0).all inR then prim l else []) := by
    refine ev_loop (fun k (s : Int) => spec_PrimitiveOf.l0 k l s) (fun s => ∃ n : Nat, n ≤ l.length ∧ s = n ∧ (l.all inR = (l.drop n).all inR)) (fun s => l.length - s.toNat) (fun s => if (l.drop s.toNat).all inR then prim l else []) ?_ 0 ⟨0, by omega, rfl, by simp⟩
    rintro i ⟨n, hn, rfl, ha⟩
    by_cases hlt : n < l.length
    · rw [Int.toNat_natCast, all_drop hlt] at *
      cases hp : inR l[n] with
      | true =>
        right
        rw [hp, Bool.true_and] at ha
        refine ⟨((n + 1 : Nat) : Int), 0, ⟨n + 1, by omega, rfl, ha⟩, by omega, by simp, fun k _ => ?_⟩
        simp only [spec_PrimitiveOf.l0]
        rw [if_pos (by omega), if_pos (by omega), rd_lt l n hlt, l01In_eq, Option.bind_some]
        change (if inR l[n] = true then _ else _) = _
        rw [if_pos hp, wrap_succ (by omega)]
      | false =>
        left
        refine ⟨0, fun k _ => ?_⟩
        simp only [spec_PrimitiveOf.l0]
        rw [if_pos (by omega), if_pos (by omega), rd_lt l n hlt, l01In_eq, Option.bind_some]
        change (if inR l[n] = true then _ else _) = _
        rw [hp]
        simp
    · obtain rfl : n = l.length := by omega
      left
      have hall : l.all inR = true := by rw [ha]; simp
      have hr : ∀ x ∈ l, 0 ≤ x ∧ x ≤ 1000 := fun x hx => (inR_iff x).1 (List.all_eq_true.1 hall x hx)
      obtain ⟨K, hK⟩ := spec_SupportOf_ev l h
      by_cases hz : (supp 0 l).length = 0
      · refine ⟨K, fun k hk => ?_⟩
        have e : spec_SupportOf.f k l = some _ := hK k hk
        simp only [spec_PrimitiveOf.l0]
        rw [if_neg (by omega), e, Option.bind_some, if_pos (by omega)]
        simp [prim, hall, (gcdL_zero l).2 hz]
      · have hg : gcdL l ≠ 0 := fun h => hz ((gcdL_zero l).1 h)
        obtain ⟨K2, hK2⟩ := spec_l18Primitive_ev l h (fun x hx => (hr x hx).1) hg
        refine ⟨max K K2, fun k hk => ?_⟩
        have e : spec_SupportOf.f k l = some _ := hK k (by omega)
        have e2 : spec_l18Primitive.f k l = some _ := hK2 k (by omega)
        simp only [spec_PrimitiveOf.l0]
        rw [if_neg (by omega), e, Option.bind_some, if_neg (by omega), e2, Option.bind_some]
        simp [prim, hall, hg]
  have e : (if (l.drop 0).all inR then prim l else []) = prim l := by
    rw [List.drop_zero]; unfold prim; split <;> rfl
  rw [e] at key
  exact key
theorem contains_prim (l : List Int) : slices_ContainsFunc_Sint64_at_impl_PrimitiveOf_1.f l = some (!(l.all inR)) := by
  unfold slices_ContainsFunc_Sint64_at_impl_PrimitiveOf_1.f slices_IndexFunc_Sint64_at_impl_PrimitiveOf_1.f
  rw [contO (p := fun x => !inR x) l (fun x _ => by show impl_PrimitiveOf_1.f x = _; unfold impl_PrimitiveOf_1.f; rw [inRange_eq]; rfl)]
  rw [List.not_all_eq_any_not]
theorem clone_eq (l : List Int) (h : l.length ≤ 4398046511104) : slices_Clone_Sint64.f l = some l := by
  unfold slices_Clone_Sint64.f; rw [if_pos (by omega)]
theorem impl_primitive_ev (l : List Int) (h : l.length ≤ 4398046511104) (hr : ∀ x ∈ l, 0 ≤ x ∧ x ≤ 1000) (hg : gcdL l ≠ 0) : Ev (fun k => impl_primitive.f k l) (divL (gcdL l) l) := by
  refine Ev.congr (fun k => by unfold impl_primitive.f; rw [clone_eq l h, Option.bind_some]) ?_
  refine Ev.bind (impl_gcdOf_ev l h fun x hx => ?_) ?_
  · have := hr x hx; omega
  by_cases h1 : gcdL l > 1
  · exact ev_pos h1 (impl_div_ev l (gcdL l) hg h)
  · refine ev_neg h1 ?_
    have hb := gcdL_bd l 0 (by omega) (by omega) hr
    have e : gcdL l = 1 := by unfold gcdL at *; omega
    rw [e]
    exact ev_some (divL_one l hr).symm
theorem impl_PrimitiveOf_ev (l : List Int) (h : l.length ≤ 4398046511104) : Ev (fun k => impl_PrimitiveOf.f k l) (prim l) := by
  refine Ev.congr (fun k => by unfold impl_PrimitiveOf.f; rw [contains_prim, Option.bind_some]) ?_
  cases hall : l.all inR with
  | false =>
    refine ev_pos rfl ?_
    exact ev_some (by unfold prim; rw [hall]; rfl)
  | true =>
    refine ev_neg (by simp) ?_
    have hr : ∀ x ∈ l, 0 ≤ x ∧ x ≤ 1000 := fun x hx => (inR_iff x).1 (List.all_eq_true.1 hall x hx)
    refine Ev.bind (impl_gcdOf_ev l h fun x hx => ?_) ?_
    · have := hr x hx; omega
    by_cases hg : gcdL l = 0
    · refine ev_pos hg ?_
      exact ev_some (by unfold prim; rw [hall, if_pos rfl, if_pos hg])
    · refine ev_neg hg ?_
      refine Ev.bind (impl_primitive_ev l h hr hg) ?_
      exact ev_some (by unfold prim; rw [hall, if_pos rfl, if_neg hg])
theorem prim_length (l : List Int) : (prim l).length ≤ l.length := by
  unfold prim divL; split
  · split <;> simp
  · simp
end Go.Proofs.Yteaabcjkpjhjkaa.P

/- The pure statement of FnExactPrimitiveOf. -/
namespace Go.Proofs.Yteaabcjkpjhjkaa.Pure
open Go.RowKit Go.Proofs.Yteaabcjkpjhjkaa.P Go.Proofs.Yteaabcjkpjhjkaa.Lib Go.Proofs.YteaabcjkpjhjkaaW.PrintWords Go.Proofs.YteaabcjkpjhjkaaW.PrintLast
theorem FnExactPrimitiveOf : laws_FnExactPrimitiveOf.Pure := by
  intro l hm hb hw
  refine Ev.rounds ?_
  by_cases hl : (l.length : Int) > 1048576
  · refine Ev.congr (fun k => ?_) (Ev.now true)
    unfold laws_FnExactPrimitiveOf.f; rw [if_pos hl]
  · have hl1 : l.length ≤ 1048576 := by omega
    have hs := prim_length l
    have he := eqInt64S_ev l (by omega)
    have hes := eqInt64S_ev (prim l) (by omega)
    have hmk := markInt64S_ev (prim l) 1 (by omega) (by omega) (by omega)
    have hml := markInt64S_ev l 1 (by omega) (by omega) (by omega)
    have hh := heldInt64S_ev 1 (prim l).length (by omega) (by omega) (by omega)
    have hj : Ev (fun k => laws_FnExactPrimitiveOf.j0 k l (prim l) (prim l) false) true := by
      refine ev_step (fun k => by unfold laws_FnExactPrimitiveOf.j0; rfl) ?_
      refine ev_neg (by simp) ?_
      refine Ev.bind hmk ?_
      refine Ev.bind hh ?_
      refine ev_neg (by omega) ?_
      refine ev_pos rfl ?_
      refine Ev.bind (toInt64S_ev l (by omega)) ?_
      refine Ev.bind (impl_PrimitiveOf_ev l (by omega)) ?_
      refine Ev.bind hes ?_
      refine ev_pos rfl ?_
      refine Ev.bind hh ?_
      refine ev_neg (by omega) ?_
      refine ev_pos rfl ?_
      exact Ev.now true
    refine Ev.congr (fun k => by unfold laws_FnExactPrimitiveOf.f; rw [if_neg hl]) ?_
    refine Ev.bind (toInt64S_ev l (by omega)) ?_
    refine Ev.bind (spec_PrimitiveOf_ev l (by omega)) ?_
    refine Ev.bind (toInt64S_ev l (by omega)) ?_
    refine Ev.bind (impl_PrimitiveOf_ev l (by omega)) ?_
    refine Ev.bind hes ?_
    refine ev_pos rfl ?_
    refine Ev.bind (toInt64S_ev l (by omega)) ?_
    refine Ev.bind he ?_
    refine ev_pos rfl ?_
    refine Ev.bind hml ?_
    refine ev_neg (by dsimp only; omega) ?_
    refine Ev.bind hes ?_
    exact hj
end Go.Proofs.Yteaabcjkpjhjkaa.Pure

-- Printed by a program of this session (drv.py), by means of the kit's print.py.
namespace Go.Proofs.Yteaabcjkpjhjkaa.fnExactPrimitiveOf
open Go.ChangeShapes Go.WideShapes Go.ChangeAt Go.RowKit
open Go.ChangeMaps (open_string shut_string)
set_option linter.unusedVariables false
theorem own : ownKnob Try.prog.godebug = none := by kernel_rfl
theorem laidOut : laidOutB Try.prog = true := by kernel_rfl
def IsRow (k : IntKind) (w : World) (a : Option Addr) (len cap : Nat) (zs : List Int) : Prop :=
  (a = none ∧ len = 0 ∧ cap = 0 ∧ zs = []) ∨
  ∃ x, a = some x ∧ len ≤ cap ∧ cap ≤ maxLen ∧ zs.length = cap ∧ (∀ i, i < zs.length → w.cell? (x.add i) = some (.int k (zs.getD i 0))) ∧ ∀ n ∈ zs, (Lit.int k n).wf = true
set_option maxRecDepth 100000 in
theorem lifted (os : Os) (started : os.Started) (H : Type) (enc : TypeId × Value → H) :
    ReturnsInHanded {} Try.checked os 6 .any (Rows.fnExactPrimitiveOfSpec.pre6 enc Try.prog Try.f6 Rows.fnExactPrimitiveOfRow.domain false) (Rows.fnExactPrimitiveOfSpec.post enc Try.prog Try.f6 false true false false) := by
  refine returnsInHanded_of_change_sized (C := Try.checked) own started (by kernel_rfl) Try.func6
    (ChangeSpec.witness6 (enc := enc) (C := Try.checked) false ⟨#[], #[.slice none 0 0], []⟩ 8 (by kernel_rfl) (by kernel_rfl) (by kernel_rfl) (by kernel_rfl)) ?_
  intro W base args ds gs before hval0 hW hcnd hsz0 _
  have hsz : (DataW.weightsEach Try.prog (Try.f6.params.toList ++ Rows.fnExactPrimitiveOfSpec.plain.varTypes Try.prog) (ds ++ gs)).all (· ≤ reachBytes) = true := hsz0
  have hval : ∀ (j : Nat) t v, Try.f6.params[j]? = some t → args[j]? = some v → Value.okWide Try.prog W .any base t v := hval0
  have hW' := hW
  obtain ⟨p, q, hA0, hV, rfl, hfz, hnd⟩ := hW
  have hA : DataW.TrodAll enc Try.prog W 0 (fun _ => true) true Try.f6.params.toList args.toList ds p := hA0
  rw [Try.params6] at hA hval hsz
  obtain ⟨v0, vs0, d0, ds0, p0, q0, hargs, rfl, rfl, h0, r0⟩ := trodAll_cons hA
  obtain ⟨rfl, rfl, rfl⟩ := trodAll_nil r0
  obtain rfl : args = #[v0] := by cases args; simp_all
  obtain ⟨rfl, rfl⟩ := trodVars_none hV
  obtain ⟨a0, len0, cap0, rfl⟩ := okWide_slice Try.underlying22 (hval 0 22 v0 rfl rfl)
  have k0 := h0
  have lt0 : ∀ x ∈ p0, x.block < W.heap.size := by obtain ⟨m, hm⟩ := k0; exact DataW.trod_lt m _ _ _ hm
  obtain ⟨z0, w0⟩ : ∃ zs, IsRow .i64 W a0 len0 cap0 zs := by
    obtain ⟨fuel, hf⟩ := h0
    rcases open_ints Try.underlying22 Try.underlying2 (by kernel_rfl) hf with ⟨hcs, _⟩ | ⟨x, l, c, zs, hcs, _, hl, hm, hz, _, hcell, hwz⟩
    · simp [Value.cells] at hcs
      obtain ⟨rfl, rfl, rfl⟩ := hcs
      exact ⟨[], .inl ⟨rfl, rfl, rfl, rfl⟩⟩
    · simp [Value.cells] at hcs
      obtain ⟨rfl, rfl, rfl⟩ := hcs
      exact ⟨zs, .inr ⟨_, rfl, hl, hm, by simpa using hz, hcell, hwz⟩⟩
  have y0 : len0 * 8 ≤ 140737488351232 := Go.Proofs.YteaabcjkpjhjkaaW.PrintWords.sized_ints hsz (j := 0) (t := 22) rfl rfl Try.underlying22 Try.underlying2 (by kernel_rfl) (by kernel_rfl) h0
  clear hA0 hval0 hsz0 hsz
  refine (P.laws_FnExactPrimitiveOf.walk Pure.FnExactPrimitiveOf a0 len0 cap0 z0 W w0 y0).mono fun e W' ⟨he, bel⟩ => ?_
  subst he
  exact ⟨_, rfl, _, _, _, [], _, [], hW', trodAll_mk1 (shut_bool Try.underlying4 _), (trodAll_cons_mk (Below.trod laidOut (by kernel_rfl) (of_decide_eq_true (by kernel_rfl)) k0 bel lt0) trodAll_mk0), rfl, bel.frame _, fun h => by cases h⟩
theorem over : Rows.fnExactPrimitiveOfRow.holds Try.pinned (OpenSpec.ofChange Rows.fnExactPrimitiveOfSpec) :=
  OpenClaim.holds_of_wide 6 Try.f6 rfl rfl rfl rfl rfl rfl rfl ⟨rfl, rfl, rfl, rfl, rfl⟩ rfl rfl rfl rfl rfl (by kernel_rfl) Try.func6 (by kernel_rfl)
    (of_decide_eq_true (by kernel_rfl)) (by unfold Func.isWrapper; first | (rw [if_pos (by decide +kernel)]; kernel_rfl) | (rw [if_neg (by decide +kernel)]; exact ⟨rfl, rfl⟩))
    (fun os started H enc _ => lifted os started H enc)
theorem proved : Rows.FnExactPrimitiveOfSaid := over
#print axioms proved
end Go.Proofs.Yteaabcjkpjhjkaa.fnExactPrimitiveOf
namespace Go.Proofs.Yteaabcjkpjhjkaa
/-- The row, under a short name, for the claim. -/
theorem fnExactPrimitiveOf_holds : Rows.FnExactPrimitiveOfSaid := fnExactPrimitiveOf.proved
end Go.Proofs.Yteaabcjkpjhjkaa
