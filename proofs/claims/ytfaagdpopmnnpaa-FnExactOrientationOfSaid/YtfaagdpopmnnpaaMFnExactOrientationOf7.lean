/- The statement FnExactOrientationOfSaid, proved: part 7 of 7 (texts of this session and of the kit's print, put together and cut to what is used by a program of it). -/
import Derived.Test.YtfaagdpopmnnpaaMFnExactOrientationOf6
import Derived.Deep.Slices
import Derived.ChangeSame
import Derived.ChangeArms
import Derived.WideShapes
import Derived.Lib.SmallJoins
import Derived.ChangeShapes
import Derived.Test.YtfaagdpopmnnpaaRows
import Derived.WalkKit
import Derived.ProofKit
import Derived.OpenShut
import Derived.ShutString
import Derived.ChangeOld
import Derived.Below
import Derived.SizedLaws
import Derived.Carry
-- Printed by a program of this session (drv.py), by means of the kit's print.py.
namespace Go.Proofs.Ytfaagdpopmnnpaa.P
open Go.RowKit Go.Proofs.YtfaagdpopmnnpaaW.PrintWords Go.Proofs.YtfaagdpopmnnpaaW.PrintLast Go.Proofs.YtfaagdpopmnnpaaW.PrintMore
attribute [local go_sem] max2_int min2_int max_two min_two max_three min_three max_four min_four   -- for this text's walks alone
set_option linter.unusedVariables false
set_option linter.unusedSimpArgs false
/-! ### spec_OrientationOf: function 22 -/
def spec_OrientationOf.f (k : Nat) (l0_0 : List (List (SFace))) : Option (List Int × Int) := (spec_IsTriangulation.f k l0_0).bind fun t102 => (if t102 = true then ((spec_l10Signs.f k l0_0).bind fun bt103 => (if bt103.2 = true then (some (bt103.1, 0)) else (some (([] : List Int), 5)))) else (some (([] : List Int), 1)))
set_option maxHeartbeats 8000000 in
set_option maxRecDepth 100000 in
theorem spec_OrientationOf.calls (k : Nat) (A0_0 : Option Addr) (c0_0 : Nat) (l0_0 : List (List (SFace))) (r1 : List Int) (r2 : Int) (w : World) (hr0_0 : Kd.C (Kd.slice 66 kFace) w A0_0 l0_0.length l0_0) (hc0_0 : l0_0.length ≤ c0_0) (h : spec_OrientationOf.f k l0_0 = some (r1, r2)) :
    Calls Try.prog 22 #[.agg #[.slice A0_0 l0_0.length c0_0]] w fun e w' => ∃ v0_ : Value, e = .returned (.tuple #[v0_, .int .i64 r2]) ∧ Kd.R (Kd.int .i64) 2 w' w.heap.size (fun _ => True) v0_ r1 ∧ Below w.heap.size w w' := by
  have hu29 := Try.underlying29
  have HR0_0 := Aside0.mk hr0_0
  have HC0_0 := Aside0.mk hc0_0
  clear hr0_0 hc0_0
  have HB := Aside0.mk (Below.refl w.heap.size w)
  have H : ((spec_IsTriangulation.f k l0_0).bind fun t102 => (if t102 = true then ((spec_l10Signs.f k l0_0).bind fun bt103 => (if bt103.2 = true then (some (bt103.1, 0)) else (some (([] : List Int), 5)))) else (some (([] : List Int), 1)))) = some (r1, r2) := h
  clear h
  replace H := Option.bind_eq_some_iff.mp H
  obtain ⟨t102, A20, H⟩ := H
  replace H : (if t102 = true then ((spec_l10Signs.f k l0_0).bind fun bt103 => (if bt103.2 = true then (some (bt103.1, 0)) else (some (([] : List Int), 5)))) else (some (([] : List Int), 1))) = some (r1, r2) := H
  have A2 := Aside0.mk A20
  clear A20
  by_cases c3 : t102 = true
  · subst c3
    have H1 : ((spec_l10Signs.f k l0_0).bind fun bt103 => (if bt103.2 = true then (some (bt103.1, 0)) else (some (([] : List Int), 5)))) = some (r1, r2) := by rw [if_pos rfl] at H; exact H
    clear H
    have H := H1
    clear H1
    replace H := Option.bind_eq_some_iff.mp H
    obtain ⟨⟨t103, t106⟩, A40, H⟩ := H
    replace H : (if t106 = true then (some (t103, 0)) else (some (([] : List Int), 5))) = some (r1, r2) := H
    have A4 := Aside0.mk A40
    clear A40
    by_cases c5 : t106 = true
    · subst c5
      have H1 : (some (t103, 0)) = some (r1, r2) := by rw [if_pos rfl] at H; exact H
      clear H
      have H := H1
      clear H1
      simp only [Option.some.injEq, Prod.mk.injEq] at H
      obtain ⟨rfl, rfl⟩ := H
      go_enter Try.func22, Try.ntmps22
      go_wp2_with (first | ((with_reducible refine gate_dst (N := 1) rfl ?_); refine box_event ?hg (N := 1) ?hd (cs := #[.slice A0_0 l0_0.length c0_0]) (t := 29) ?hr ?_; (case hd => rfl); (case hg => rfl); (case hr => first | (go_simp; done) | (go_simp; rfl)); intro gb101 hg w6 hbox hb; have n0_ := Aside0.mk (below_step (by repeat (first | (with_reducible first | exact HB.out | apply below_alloc | apply pw_below_drewN | apply below_drew1) | exact HB.out)) hb); have n1_ := Aside0.mk (hbox); have n2_ := Aside0.mk ((by rw [hg]; exact (below_size (by repeat (first | (with_reducible first | exact HB.out | apply below_alloc | apply pw_below_drewN | apply below_drew1) | exact HB.out))) : w.heap.size ≤ gb101)); have n3_ := Aside0.mk ((by rw [hg]; exact (below_size (by repeat (first | (with_reducible first | exact HB.out | apply below_alloc | apply pw_below_drewN | apply below_drew1) | exact HB.out))) : w.heap.size ≤ gb101)); clear HB; have HB := n0_; have BK101 := n1_; have GW101 := n2_; have GE101 := n3_; clear n0_ n1_ n2_ n3_; clear hb hbox hg; have hcz7_0 : w6.cell? ⟨gb101, 0, none⟩ = some (.slice A0_0 l0_0.length c0_0) := (blk_cell BK101.out 0).trans rfl; have hfz7_0 := blk_frozen BK101.out 0) | ((with_reducible refine gate_callee (f := 59) rfl ?_); refine goesL_ (some 7) rfl rfl Try.func59 (by kernel_rfl) rfl #[.agg #[.slice A0_0 l0_0.length c0_0]] rfl (by (try simp only [List.map_toArray, List.map_cons, List.map_nil]); first | done | rfl | (simp only [List.length_drop, List.length_take]; rfl)) ?_; (with_reducible refine (spec_IsTriangulation.calls k _ _ l0_0 true _ ?side1 ?side2 A2.out).mono ?_); (case side1 => repeat (first | exact (Kd.C_below HR0_0.out HB.out) | (with_reducible refine Kd.C_alloc ?_ _) | (with_reducible refine Kd.C_drewN ?_ _) | (with_reducible refine Kd.C_drew ?_))); (case side2 => exact HC0_0.out); rintro e w8 ⟨rfl, hb⟩; refine ⟨_, rfl, ?_⟩; have n0_ := Aside0.mk (blk_below (g := gb101) (o := .cells #[.slice A0_0 l0_0.length c0_0] 29 (0, 0)) (by (with_reducible repeat (first | refine blk_drewN ?_ _ | refine blk_drew ?_ | refine blk_alloc ?_ _)); exact BK101.out) hb); have n1_ := Aside0.mk (below_step (by repeat (first | (with_reducible first | exact HB.out | apply below_alloc | apply pw_below_drewN | apply below_drew1 | refine below_set ?_ GE101.out) | exact HB.out)) hb); clear BK101; clear HB; have BK101 := n0_; have HB := n1_; clear n0_ n1_; (try clear hb); (try clear hb2); (try clear hk); (try clear hi); have hcz9_0 : w8.cell? ⟨gb101, 0, none⟩ = some (.slice A0_0 l0_0.length c0_0) := (blk_cell BK101.out 0).trans rfl; have hfz9_0 := blk_frozen BK101.out 0) | ((with_reducible refine gate_callee (f := 64) rfl ?_); refine goesL_ (some 11) rfl rfl Try.func64 (by kernel_rfl) rfl #[.agg #[.slice A0_0 l0_0.length c0_0]] rfl (by (try simp only [List.map_toArray, List.map_cons, List.map_nil]); first | done | rfl | (simp only [List.length_drop, List.length_take]; rfl)) ?_; (with_reducible refine (spec_l10Signs.calls k _ _ l0_0 t103 true _ ?side1 ?side2 A4.out).mono ?_); (case side1 => repeat (first | exact (Kd.C_below HR0_0.out HB.out) | (with_reducible refine Kd.C_alloc ?_ _) | (with_reducible refine Kd.C_drewN ?_ _) | (with_reducible refine Kd.C_drew ?_))); (case side2 => exact HC0_0.out); rintro e w10 ⟨v104, rfl, ho0, hb⟩; refine ⟨_, rfl, ?_⟩; have n0_ := Aside0.mk (Kd.R_lower ho0 (below_size (by repeat (first | (with_reducible first | exact HB.out | apply below_alloc | apply pw_below_drewN | apply below_drew1 | refine below_set ?_ GE101.out) | exact HB.out)))); have n1_ := Aside0.mk (blk_below (g := gb101) (o := .cells #[.slice A0_0 l0_0.length c0_0] 29 (0, 0)) (by (with_reducible repeat (first | refine blk_drewN ?_ _ | refine blk_drew ?_ | refine blk_alloc ?_ _)); exact BK101.out) hb); have n2_ := Aside0.mk (below_step (by repeat (first | (with_reducible first | exact HB.out | apply below_alloc | apply pw_below_drewN | apply below_drew1 | refine below_set ?_ GE101.out) | exact HB.out)) hb); clear BK101; clear HB; have HO105 := n0_; have BK101 := n1_; have HB := n2_; clear n0_ n1_ n2_; (try clear hb); (try clear hb2); (try clear hk); (try clear hi); (try clear ho0)))
      go_ret2
      exact ⟨_, by first | rfl | (simp [errW_none, errW_some] <;> rfl) | (simp [*, errW_none, errW_some] <;> rfl), by (with_reducible repeat (first | apply Kd.R_alloc | apply Kd.R_drewN | apply Kd.R_drew)); exact HO105.out, by repeat (first | (with_reducible first | exact HB.out | apply below_alloc | apply pw_below_drewN | apply below_drew1 | refine below_set ?_ GE101.out) | exact HB.out)⟩
    · replace c5 := Bool.eq_false_iff.mpr c5
      subst c5
      have H1 : (some (([] : List Int), 5)) = some (r1, r2) := by rw [if_neg (show ¬ (false = true) by decide)] at H; exact H
      clear H
      have H := H1
      clear H1
      simp only [Option.some.injEq, Prod.mk.injEq] at H
      obtain ⟨rfl, rfl⟩ := H
      go_enter Try.func22, Try.ntmps22
      go_wp2_with (first | ((with_reducible refine gate_dst (N := 1) rfl ?_); refine box_event ?hg (N := 1) ?hd (cs := #[.slice A0_0 l0_0.length c0_0]) (t := 29) ?hr ?_; (case hd => rfl); (case hg => rfl); (case hr => first | (go_simp; done) | (go_simp; rfl)); intro gb101 hg w11 hbox hb; have n0_ := Aside0.mk (below_step (by repeat (first | (with_reducible first | exact HB.out | apply below_alloc | apply pw_below_drewN | apply below_drew1) | exact HB.out)) hb); have n1_ := Aside0.mk (hbox); have n2_ := Aside0.mk ((by rw [hg]; exact (below_size (by repeat (first | (with_reducible first | exact HB.out | apply below_alloc | apply pw_below_drewN | apply below_drew1) | exact HB.out))) : w.heap.size ≤ gb101)); have n3_ := Aside0.mk ((by rw [hg]; exact (below_size (by repeat (first | (with_reducible first | exact HB.out | apply below_alloc | apply pw_below_drewN | apply below_drew1) | exact HB.out))) : w.heap.size ≤ gb101)); clear HB; have HB := n0_; have BK101 := n1_; have GW101 := n2_; have GE101 := n3_; clear n0_ n1_ n2_ n3_; clear hb hbox hg; have hcz12_0 : w11.cell? ⟨gb101, 0, none⟩ = some (.slice A0_0 l0_0.length c0_0) := (blk_cell BK101.out 0).trans rfl; have hfz12_0 := blk_frozen BK101.out 0) | ((with_reducible refine gate_callee (f := 59) rfl ?_); refine goesL_ (some 7) rfl rfl Try.func59 (by kernel_rfl) rfl #[.agg #[.slice A0_0 l0_0.length c0_0]] rfl (by (try simp only [List.map_toArray, List.map_cons, List.map_nil]); first | done | rfl | (simp only [List.length_drop, List.length_take]; rfl)) ?_; (with_reducible refine (spec_IsTriangulation.calls k _ _ l0_0 true _ ?side1 ?side2 A2.out).mono ?_); (case side1 => repeat (first | exact (Kd.C_below HR0_0.out HB.out) | (with_reducible refine Kd.C_alloc ?_ _) | (with_reducible refine Kd.C_drewN ?_ _) | (with_reducible refine Kd.C_drew ?_))); (case side2 => exact HC0_0.out); rintro e w13 ⟨rfl, hb⟩; refine ⟨_, rfl, ?_⟩; have n0_ := Aside0.mk (blk_below (g := gb101) (o := .cells #[.slice A0_0 l0_0.length c0_0] 29 (0, 0)) (by (with_reducible repeat (first | refine blk_drewN ?_ _ | refine blk_drew ?_ | refine blk_alloc ?_ _)); exact BK101.out) hb); have n1_ := Aside0.mk (below_step (by repeat (first | (with_reducible first | exact HB.out | apply below_alloc | apply pw_below_drewN | apply below_drew1 | refine below_set ?_ GE101.out) | exact HB.out)) hb); clear BK101; clear HB; have BK101 := n0_; have HB := n1_; clear n0_ n1_; (try clear hb); (try clear hb2); (try clear hk); (try clear hi); have hcz14_0 : w13.cell? ⟨gb101, 0, none⟩ = some (.slice A0_0 l0_0.length c0_0) := (blk_cell BK101.out 0).trans rfl; have hfz14_0 := blk_frozen BK101.out 0) | ((with_reducible refine gate_callee (f := 64) rfl ?_); refine goesL_ (some 11) rfl rfl Try.func64 (by kernel_rfl) rfl #[.agg #[.slice A0_0 l0_0.length c0_0]] rfl (by (try simp only [List.map_toArray, List.map_cons, List.map_nil]); first | done | rfl | (simp only [List.length_drop, List.length_take]; rfl)) ?_; (with_reducible refine (spec_l10Signs.calls k _ _ l0_0 t103 false _ ?side1 ?side2 A4.out).mono ?_); (case side1 => repeat (first | exact (Kd.C_below HR0_0.out HB.out) | (with_reducible refine Kd.C_alloc ?_ _) | (with_reducible refine Kd.C_drewN ?_ _) | (with_reducible refine Kd.C_drew ?_))); (case side2 => exact HC0_0.out); rintro e w15 ⟨v104, rfl, ho0, hb⟩; refine ⟨_, rfl, ?_⟩; have n0_ := Aside0.mk (Kd.R_lower ho0 (below_size (by repeat (first | (with_reducible first | exact HB.out | apply below_alloc | apply pw_below_drewN | apply below_drew1 | refine below_set ?_ GE101.out) | exact HB.out)))); have n1_ := Aside0.mk (blk_below (g := gb101) (o := .cells #[.slice A0_0 l0_0.length c0_0] 29 (0, 0)) (by (with_reducible repeat (first | refine blk_drewN ?_ _ | refine blk_drew ?_ | refine blk_alloc ?_ _)); exact BK101.out) hb); have n2_ := Aside0.mk (below_step (by repeat (first | (with_reducible first | exact HB.out | apply below_alloc | apply pw_below_drewN | apply below_drew1 | refine below_set ?_ GE101.out) | exact HB.out)) hb); clear BK101; clear HB; have HO105 := n0_; have BK101 := n1_; have HB := n2_; clear n0_ n1_ n2_; (try clear hb); (try clear hb2); (try clear hk); (try clear hi); (try clear ho0)))
      go_ret2
      exact ⟨_, by first | rfl | (simp [errW_none, errW_some] <;> rfl) | (simp [*, errW_none, errW_some] <;> rfl), by first | exact Kd.R_nil _ _ _ _ _ | exact Kd.N_nil _ _ _ _ _ | exact Kd.V_nil _ _ _ _ _ | exact Kd.Q_nil _ _ _ _ _ | exact Kd.S_nil _ _ _ _ _, by repeat (first | (with_reducible first | exact HB.out | apply below_alloc | apply pw_below_drewN | apply below_drew1 | refine below_set ?_ GE101.out) | exact HB.out)⟩
  · replace c3 := Bool.eq_false_iff.mpr c3
    subst c3
    have H1 : (some (([] : List Int), 1)) = some (r1, r2) := by rw [if_neg (show ¬ (false = true) by decide)] at H; exact H
    clear H
    have H := H1
    clear H1
    simp only [Option.some.injEq, Prod.mk.injEq] at H
    obtain ⟨rfl, rfl⟩ := H
    go_enter Try.func22, Try.ntmps22
    go_wp2_with (first | ((with_reducible refine gate_dst (N := 1) rfl ?_); refine box_event ?hg (N := 1) ?hd (cs := #[.slice A0_0 l0_0.length c0_0]) (t := 29) ?hr ?_; (case hd => rfl); (case hg => rfl); (case hr => first | (go_simp; done) | (go_simp; rfl)); intro gb101 hg w16 hbox hb; have n0_ := Aside0.mk (below_step (by repeat (first | (with_reducible first | exact HB.out | apply below_alloc | apply pw_below_drewN | apply below_drew1) | exact HB.out)) hb); have n1_ := Aside0.mk (hbox); have n2_ := Aside0.mk ((by rw [hg]; exact (below_size (by repeat (first | (with_reducible first | exact HB.out | apply below_alloc | apply pw_below_drewN | apply below_drew1) | exact HB.out))) : w.heap.size ≤ gb101)); have n3_ := Aside0.mk ((by rw [hg]; exact (below_size (by repeat (first | (with_reducible first | exact HB.out | apply below_alloc | apply pw_below_drewN | apply below_drew1) | exact HB.out))) : w.heap.size ≤ gb101)); clear HB; have HB := n0_; have BK101 := n1_; have GW101 := n2_; have GE101 := n3_; clear n0_ n1_ n2_ n3_; clear hb hbox hg; have hcz17_0 : w16.cell? ⟨gb101, 0, none⟩ = some (.slice A0_0 l0_0.length c0_0) := (blk_cell BK101.out 0).trans rfl; have hfz17_0 := blk_frozen BK101.out 0) | ((with_reducible refine gate_callee (f := 59) rfl ?_); refine goesL_ (some 7) rfl rfl Try.func59 (by kernel_rfl) rfl #[.agg #[.slice A0_0 l0_0.length c0_0]] rfl (by (try simp only [List.map_toArray, List.map_cons, List.map_nil]); first | done | rfl | (simp only [List.length_drop, List.length_take]; rfl)) ?_; (with_reducible refine (spec_IsTriangulation.calls k _ _ l0_0 false _ ?side1 ?side2 A2.out).mono ?_); (case side1 => repeat (first | exact (Kd.C_below HR0_0.out HB.out) | (with_reducible refine Kd.C_alloc ?_ _) | (with_reducible refine Kd.C_drewN ?_ _) | (with_reducible refine Kd.C_drew ?_))); (case side2 => exact HC0_0.out); rintro e w18 ⟨rfl, hb⟩; refine ⟨_, rfl, ?_⟩; have n0_ := Aside0.mk (blk_below (g := gb101) (o := .cells #[.slice A0_0 l0_0.length c0_0] 29 (0, 0)) (by (with_reducible repeat (first | refine blk_drewN ?_ _ | refine blk_drew ?_ | refine blk_alloc ?_ _)); exact BK101.out) hb); have n1_ := Aside0.mk (below_step (by repeat (first | (with_reducible first | exact HB.out | apply below_alloc | apply pw_below_drewN | apply below_drew1 | refine below_set ?_ GE101.out) | exact HB.out)) hb); clear BK101; clear HB; have BK101 := n0_; have HB := n1_; clear n0_ n1_; (try clear hb); (try clear hb2); (try clear hk); (try clear hi)))
    go_ret2
    exact ⟨_, by first | rfl | (simp [errW_none, errW_some] <;> rfl) | (simp [*, errW_none, errW_some] <;> rfl), by first | exact Kd.R_nil _ _ _ _ _ | exact Kd.N_nil _ _ _ _ _ | exact Kd.V_nil _ _ _ _ _ | exact Kd.Q_nil _ _ _ _ _ | exact Kd.S_nil _ _ _ _ _, by repeat (first | (with_reducible first | exact HB.out | apply below_alloc | apply pw_below_drewN | apply below_drew1 | refine below_set ?_ GE101.out) | exact HB.out)⟩
end Go.Proofs.Ytfaagdpopmnnpaa.P

/- What a walk through a law keeps: rows of the walk's own, each within a range of blocks. -/
namespace Go.Proofs.Ytfaagdpopmnnpaa.Lib
open Go.RowKit Go.Proofs.YtfaagdpopmnnpaaW.PrintWords
set_option linter.unusedVariables false
section
variable {α : Type} {d : Kd α} {e b lo hi lo2 hi2 T : Nat} {w w' W : World} {v : Value} {xs ys : List α}
/-- A row of rows of the walk's own (all of it made from b on), its blocks from lo on and before hi. -/
def ObS (d : Kd α) (e b : Nat) (w : World) (lo hi : Nat) (v : Value) (xs : List α) : Prop := hi ≤ w.heap.size ∧ Kd.S d e w b (fun k => lo ≤ k ∧ k < hi) v xs
/-- The same for a row of scalars. -/
def ObR (d : Kd α) (e b : Nat) (w : World) (lo hi : Nat) (v : Value) (xs : List α) : Prop := hi ≤ w.heap.size ∧ Kd.R d e w b (fun k => lo ≤ k ∧ k < hi) v xs
theorem size_set (w : World) (g i : Nat) (u : Value) : w.heap.size ≤ (w.setCell ⟨g, i, none⟩ u).heap.size := ((Below.refl 0 w).setCell (Nat.zero_le _) u).size
theorem ObS.made (ho : Kd.S d e w' W.heap.size (fun _ => True) v xs) (hb : Below W.heap.size W w') (hT : T ≤ W.heap.size) (hB : b ≤ W.heap.size) : ∃ lo hi, (T ≤ lo ∧ lo ≤ hi) ∧ hi ≤ w'.heap.size ∧ ObS d e b w' lo hi v xs :=
  ⟨W.heap.size, w'.heap.size, ⟨hT, hb.size⟩, Nat.le_refl _, Nat.le_refl _, Kd.S_lower (Kd.S_mono (Kd.S_bound ho) (fun k hk => ⟨hk.2.1, hk.2.2.1⟩)) hB⟩
theorem ObR.made (ho : Kd.R d e w' W.heap.size (fun _ => True) v xs) (hb : Below W.heap.size W w') (hT : T ≤ W.heap.size) (hB : b ≤ W.heap.size) : ∃ lo hi, (T ≤ lo ∧ lo ≤ hi) ∧ hi ≤ w'.heap.size ∧ ObR d e b w' lo hi v xs :=
  ⟨W.heap.size, w'.heap.size, ⟨hT, hb.size⟩, Nat.le_refl _, Nat.le_refl _, Kd.R_lower (Kd.R_mono (Kd.R_bound ho) (fun k hk => ⟨hk.2.1, hk.2.2.1⟩)) hB⟩
theorem ObS.below (h : ObS d e b w lo hi v xs) (hb : Below w.heap.size w w') : ObS d e b w' lo hi v xs := ⟨Nat.le_trans h.1 hb.size, Kd.S_below h.2 hb⟩
theorem ObR.below (h : ObR d e b w lo hi v xs) (hb : Below w.heap.size w w') : ObR d e b w' lo hi v xs := ⟨Nat.le_trans h.1 hb.size, Kd.R_below h.2 hb⟩
theorem ObS.drew (h : ObS d e b w lo hi v xs) : ObS d e b w.drew lo hi v xs := ⟨h.1, Kd.S_drew h.2⟩
theorem ObR.drew (h : ObR d e b w lo hi v xs) : ObR d e b w.drew lo hi v xs := ⟨h.1, Kd.R_drew h.2⟩
theorem ObS.far {g i : Nat} (h : ObS d e b w lo hi v xs) (hg : g < lo ∨ hi ≤ g) (u : Value) : ObS d e b (w.setCell ⟨g, i, none⟩ u) lo hi v xs :=
  ⟨Nat.le_trans h.1 (size_set _ _ _ _), Kd.S_far h.2 (fun k hk => by show k ≠ g; have := hk.1; have := hk.2; omega) u⟩
theorem ObR.far {g i : Nat} (h : ObR d e b w lo hi v xs) (hg : g < lo ∨ hi ≤ g) (u : Value) : ObR d e b (w.setCell ⟨g, i, none⟩ u) lo hi v xs :=
  ⟨Nat.le_trans h.1 (size_set _ _ _ _), Kd.R_far h.2 (fun k hk => by show k ≠ g; have := hk.1; have := hk.2; omega) u⟩
theorem ObS.kept (h : ObS d e b w lo hi v xs) (hk : Kept w w' (fun k => lo2 ≤ k ∧ k < hi2)) (hd : hi ≤ lo2 ∨ hi2 ≤ lo) : ObS d e b w' lo hi v xs :=
  ⟨Nat.le_trans h.1 hk.1, Kd.S_kept h.2 hk (fun k h1 h2 => by have := h1.1; have := h1.2; have := h2.1; have := h2.2; omega)⟩
theorem ObR.kept (h : ObR d e b w lo hi v xs) (hk : Kept w w' (fun k => lo2 ≤ k ∧ k < hi2)) (hd : hi ≤ lo2 ∨ hi2 ≤ lo) : ObR d e b w' lo hi v xs :=
  ⟨Nat.le_trans h.1 hk.1, Kd.R_kept h.2 hk (fun k h1 h2 => by have := h1.1; have := h1.2; have := h2.1; have := h2.2; omega)⟩
theorem ObS.slice (h : ObS d e b w lo hi v xs) : ∃ A c, v = .slice A xs.length c := Kd.S_slice h.2
theorem ObR.slice (h : ObR d e b w lo hi v xs) : ∃ A c, v = .slice A xs.length c := Kd.R_slice h.2
theorem ObS.reads {A : Option Addr} {n c : Nat} (h : ObS d e b w lo hi (.slice A n c) xs) : n = xs.length ∧ n ≤ c ∧ d.C w A xs.length xs := Kd.S_reads' h.2
theorem ObR.reads {A : Option Addr} {n c : Nat} (h : ObR d e b w lo hi (.slice A n c) xs) : n = xs.length ∧ n ≤ c ∧ d.C w A xs.length xs := Kd.R_reads' h.2
theorem ObS.room {A : Option Addr} {n c : Nat} (h : ObS d e b w lo hi (.slice A n c) xs) : xs.length ≤ c := by have := h.reads; omega
theorem ObR.room {A : Option Addr} {n c : Nat} (h : ObR d e b w lo hi (.slice A n c) xs) : xs.length ≤ c := by have := h.reads; omega
theorem ObR.marked {ok' : Nat → Prop} (h : ObR d e b w lo hi v xs) (hE : d.E = []) (hy : Kd.R d e w' b ok' v ys) (hs : w.heap.size ≤ w'.heap.size) : ObR d e b w' lo hi v ys :=
  ⟨Nat.le_trans h.1 hs, Kd.R_reok hE hy (fun k e => h.2.1 k e)⟩
theorem ObS.marked (h : ObS d e b w lo hi v xs) (hy : Kd.S d e w' b (fun k => lo ≤ k ∧ k < hi) v ys) (hs : w.heap.size ≤ w'.heap.size) : ObS d e b w' lo hi v ys := ⟨Nat.le_trans h.1 hs, hy⟩
theorem ObR.range (h : ObR d e b w lo hi v xs) (hk : Kept w w' (fun k_ => some k_ = v.ownBlock)) : Kept w w' (fun k => lo ≤ k ∧ k < hi) := hk.mono (fun k e => h.2.1 k e.symm)
theorem ObS.row (h : ObS d e b w lo hi v xs) : Kd.S d e w b (fun k => lo ≤ k ∧ k < hi) v xs := h.2
theorem ObR.row (h : ObR d e b w lo hi v xs) : Kd.R d e w b (fun k => lo ≤ k ∧ k < hi) v xs := h.2
theorem below_of_drewN {n : Nat} (h : w' = w.drewN n) : Below w.heap.size w w' := h ▸ pw_below_drewN (Below.refl _ _) n
theorem top_below (h : T ≤ w.heap.size) (hb : Below w.heap.size w w') : T ≤ w'.heap.size := Nat.le_trans h hb.size
theorem top_drew (h : T ≤ w.heap.size) : T ≤ w.drew.heap.size := h
theorem top_far {g i : Nat} {u : Value} (h : T ≤ w.heap.size) : T ≤ (w.setCell ⟨g, i, none⟩ u).heap.size := Nat.le_trans h (size_set _ _ _ _)
end
end Go.Proofs.Ytfaagdpopmnnpaa.Lib

-- Printed by a program of this session (drv.py), by means of the kit's print.py.
namespace Go.Proofs.Ytfaagdpopmnnpaa.P
open Go.RowKit Go.Proofs.YtfaagdpopmnnpaaW.PrintWords Go.Proofs.YtfaagdpopmnnpaaW.PrintLast Go.Proofs.YtfaagdpopmnnpaaW.PrintMore
attribute [local go_sem] max2_int min2_int max_two min_two max_three min_three max_four min_four   -- for this text's walks alone
set_option linter.unusedVariables false
set_option linter.unusedSimpArgs false
open Go.Proofs.Ytfaagdpopmnnpaa.Lib
/-! ### laws_FnExactOrientationOf: function 5 -/
def laws_FnExactOrientationOf.f (k : Nat) (l0 : List (List (SLawFace))) : Option Bool := (laws_szTriangulation.f k l0 1048576).bind fun t2 => if t2 < 0 then some true else (laws_toTriangulation.f k l0).bind fun t5 => (spec_OrientationOf.f k t5).bind fun bt3 => (laws_toTriangulation.f k l0).bind fun t12 => (impl_OrientationOf.f k t12).bind fun bt5 => (laws_eqInt64S.f k bt5.1 bt3.1).bind fun t19 => if t19 = true then if bt5.2 = bt3.2 then (laws_toTriangulation.f k l0).bind fun t22 => (laws_eqTriangulation.f k t12 t22).bind fun t25 => if t25 = true then (laws_markTriangulation.f k t12 1).bind fun bt12 => if bt12.1 < 0 then some false else (laws_eqInt64S.f k bt5.1 bt3.1).bind fun t31 => if t31 = true then if bt5.2 = bt3.2 then (laws_markInt64S.f k bt5.1 1).bind fun bt17 => (laws_heldInt64S.f k bt17.2 1).bind fun t37 => if t37 < 0 then some false else if t37 = bt17.1 then (laws_toTriangulation.f k l0).bind fun t41 => (impl_OrientationOf.f k t41).bind fun bt22 => (laws_eqInt64S.f k bt22.1 bt3.1).bind fun t48 => if t48 = true then if bt22.2 = bt3.2 then (laws_heldInt64S.f k bt17.2 1).bind fun t51 => if t51 < 0 then some false else if t51 = bt17.1 then some true else some false else some false else some false else some false else some false else some false else some false else some false else some false
set_option maxHeartbeats 8000000 in
set_option maxRecDepth 100000 in
theorem laws_FnExactOrientationOf.calls (k : Nat) (A0 : Option Addr) (c0 : Nat) (l0 : List (List (SLawFace))) (w : World) (hr0 : Kd.C (Kd.slice 135 kLawFace) w A0 l0.length l0) (hc0 : l0.length ≤ c0) (h : laws_FnExactOrientationOf.f k l0 = some true) :
    Calls Try.prog 5 #[.agg #[.slice A0 l0.length c0]] w fun e w' => e = .returned (.bool true) ∧ Below w.heap.size w w' := by
  have hu24 := Try.underlying24
  have hu29 := Try.underlying29
  have HR0 := Aside0.mk hr0
  have HC0 := Aside0.mk hc0
  clear hr0 hc0
  have HB := Aside0.mk (Below.refl w.heap.size w)
  have HT := Aside0.mk (Nat.le_refl w.heap.size)
  have H := h
  clear h
  unfold laws_FnExactOrientationOf.f at H
  obtain ⟨t2, H10, H⟩ := Option.bind_eq_some_iff.mp H
  have H1 := Aside0.mk H10
  clear H10
  by_cases cC3 : t2 < 0
  · have dC3 : decide (t2 < 0) = true := decide_eq_true cC3
    clear cC3 H
    go_enter Try.func5, Try.ntmps5
    try go_wp2_with (first | ((with_reducible refine gate_dst (N := 1) rfl ?_); refine box_event ?hg (N := 1) ?hd (cs := #[.slice A0 l0.length c0]) (t := 24) ?hr ?_; (case hd => rfl); (case hg => rfl); (case hr => first | (go_simp; done) | (go_simp; rfl)); intro g1 hg w1 hbox hb; have HNg1 := Aside0.mk (by rw [hg]; exact HT.out : w.heap.size ≤ g1); have HXg1 := Aside0.mk (show g1 + 1 ≤ w1.heap.size from blk_lt hbox); have nHB := Aside0.mk (below_step HB.out hb); have nHT := Aside0.mk (top_below HT.out hb); clear HB HT  ; have HB := nHB; have HT := nHT; clear nHB nHT  ; clear HT; have HT := HXg1; clear HXg1; have BKg1 := Aside0.mk hbox; clear hg hbox hb; have hczg1 : w1.cell? ⟨g1, 0, none⟩ = some (.slice A0 l0.length c0) := (blk_cell BKg1.out 0).trans rfl; have hfzg1 := blk_frozen BKg1.out 0) | ((with_reducible refine gate_callee (f := 15) rfl ?_); refine goesL_ (some 16) rfl rfl Try.func15 (by kernel_rfl) rfl #[.agg #[.slice A0 l0.length c0], .int .i64 1048576] rfl (by (try simp only [List.map_toArray, List.map_cons, List.map_nil]); first | done | rfl | (simp only [List.length_drop, List.length_take]; rfl)) ?_; (with_reducible refine (laws_szTriangulation.calls k _ _ l0 1048576 t2 _ ?side1 ?side2 H1.out).mono ?_); (case side1 => exact Kd.C_below HR0.out HB.out); (case side2 => exact HC0.out); rintro e w2 ⟨rfl, hb⟩; refine ⟨_, rfl, ?_⟩; (try clear hczg1 hfzg1); have nBg1 := Aside0.mk (blk_below (g := g1) (o := .cells #[.slice A0 l0.length c0] 24 (0, 0)) BKg1.out hb); have nHB := Aside0.mk (below_step HB.out hb); have nHT := Aside0.mk (top_below HT.out hb); clear HB HT  BKg1; have BKg1 := nBg1; have HB := nHB; have HT := nHT; clear nHB nHT  nBg1; (try clear hb); (try clear hnd); have hczg1 : w2.cell? ⟨g1, 0, none⟩ = some (.slice A0 l0.length c0) := (blk_cell BKg1.out 0).trans rfl; have hfzg1 := blk_frozen BKg1.out 0))
    go_ret
    exact ⟨by first | rfl | (simp <;> rfl), HB.out⟩
  rw [if_neg cC3] at H
  have dC3 : decide (t2 < 0) = false := decide_eq_false cC3
  clear cC3
  obtain ⟨t5, H40, H⟩ := Option.bind_eq_some_iff.mp H
  have H4 := Aside0.mk H40
  clear H40
  obtain ⟨⟨t8, t10⟩, H70, H⟩ := Option.bind_eq_some_iff.mp H
  have H7 := Aside0.mk H70
  clear H70
  obtain ⟨t12, H110, H⟩ := Option.bind_eq_some_iff.mp H
  have H11 := Aside0.mk H110
  clear H110
  obtain ⟨⟨t15, t17⟩, H140, H⟩ := Option.bind_eq_some_iff.mp H
  have H14 := Aside0.mk H140
  clear H140
  obtain ⟨t19, H180, H⟩ := Option.bind_eq_some_iff.mp H
  obtain rfl : t19 = true := by cases t19 with | true => rfl | false => exact absurd H (by simp)
  replace H := H
  have H18 := Aside0.mk H180
  clear H180
  rw [if_pos rfl] at H
  have cC20 : t17 = t10 := by by_cases c_ : t17 = t10; exact c_; rw [if_neg c_] at H; cases H
  rw [if_pos cC20] at H
  have dC20 : (t17 != t10) = false := by rw [cC20]; exact bne_self_eq_false _
  clear cC20
  obtain ⟨t22, H210, H⟩ := Option.bind_eq_some_iff.mp H
  have H21 := Aside0.mk H210
  clear H210
  obtain ⟨t25, H240, H⟩ := Option.bind_eq_some_iff.mp H
  obtain rfl : t25 = true := by cases t25 with | true => rfl | false => exact absurd H (by simp)
  replace H := H
  have H24 := Aside0.mk H240
  clear H240
  rw [if_pos rfl] at H
  obtain ⟨⟨m27, y28⟩, H260, H⟩ := Option.bind_eq_some_iff.mp H
  have H26 := Aside0.mk H260
  clear H260
  dsimp only at H
  have cC29 : ¬ (m27 < 0) := fun c_ => by rw [if_pos c_] at H; cases H
  rw [if_neg cC29] at H
  have dC29 : decide (m27 < 0) = false := decide_eq_false cC29
  clear cC29
  obtain ⟨t31, H300, H⟩ := Option.bind_eq_some_iff.mp H
  obtain rfl : t31 = true := by cases t31 with | true => rfl | false => exact absurd H (by simp)
  replace H := H
  have H30 := Aside0.mk H300
  clear H300
  rw [if_pos rfl] at H
  have cC32 : t17 = t10 := by by_cases c_ : t17 = t10; exact c_; rw [if_neg c_] at H; cases H
  rw [if_pos cC32] at H
  have dC32 : (t17 != t10) = false := by rw [cC32]; exact bne_self_eq_false _
  clear cC32
  obtain ⟨⟨m34, y35⟩, H330, H⟩ := Option.bind_eq_some_iff.mp H
  have H33 := Aside0.mk H330
  clear H330
  dsimp only at H
  obtain ⟨t37, H360, H⟩ := Option.bind_eq_some_iff.mp H
  have H36 := Aside0.mk H360
  clear H360
  have cC38 : ¬ (t37 < 0) := fun c_ => by rw [if_pos c_] at H; cases H
  rw [if_neg cC38] at H
  have dC38 : decide (t37 < 0) = false := decide_eq_false cC38
  clear cC38
  have cC39 : t37 = m34 := by by_cases c_ : t37 = m34; exact c_; rw [if_neg c_] at H; cases H
  rw [if_pos cC39] at H
  have dC39 : (t37 != m34) = false := by rw [cC39]; exact bne_self_eq_false _
  clear cC39
  obtain ⟨t41, H400, H⟩ := Option.bind_eq_some_iff.mp H
  have H40 := Aside0.mk H400
  clear H400
  obtain ⟨⟨t44, t46⟩, H430, H⟩ := Option.bind_eq_some_iff.mp H
  have H43 := Aside0.mk H430
  clear H430
  obtain ⟨t48, H470, H⟩ := Option.bind_eq_some_iff.mp H
  obtain rfl : t48 = true := by cases t48 with | true => rfl | false => exact absurd H (by simp)
  replace H := H
  have H47 := Aside0.mk H470
  clear H470
  rw [if_pos rfl] at H
  have cC49 : t46 = t10 := by by_cases c_ : t46 = t10; exact c_; rw [if_neg c_] at H; cases H
  rw [if_pos cC49] at H
  have dC49 : (t46 != t10) = false := by rw [cC49]; exact bne_self_eq_false _
  clear cC49
  obtain ⟨t51, H500, H⟩ := Option.bind_eq_some_iff.mp H
  have H50 := Aside0.mk H500
  clear H500
  have cC52 : ¬ (t51 < 0) := fun c_ => by rw [if_pos c_] at H; cases H
  rw [if_neg cC52] at H
  have dC52 : decide (t51 < 0) = false := decide_eq_false cC52
  clear cC52
  have cC53 : t51 = m34 := by by_cases c_ : t51 = m34; exact c_; rw [if_neg c_] at H; cases H
  rw [if_pos cC53] at H
  have dC53 : (t51 != m34) = false := by rw [cC53]; exact bne_self_eq_false _
  clear cC53
  clear H
  go_enter Try.func5, Try.ntmps5
  try go_wp2_with (first | ((with_reducible refine gate_dst (N := 1) rfl ?_); refine box_event ?hg (N := 1) ?hd (cs := #[.slice A0 l0.length c0]) (t := 24) ?hr ?_; (case hd => rfl); (case hg => rfl); (case hr => first | (go_simp; done) | (go_simp; rfl)); intro g1 hg w1 hbox hb; have HNg1 := Aside0.mk (by rw [hg]; exact HT.out : w.heap.size ≤ g1); have HXg1 := Aside0.mk (show g1 + 1 ≤ w1.heap.size from blk_lt hbox); have nHB := Aside0.mk (below_step HB.out hb); have nHT := Aside0.mk (top_below HT.out hb); clear HB HT  ; have HB := nHB; have HT := nHT; clear nHB nHT  ; clear HT; have HT := HXg1; clear HXg1; have BKg1 := Aside0.mk hbox; clear hg hbox hb; have hczg1 : w1.cell? ⟨g1, 0, none⟩ = some (.slice A0 l0.length c0) := (blk_cell BKg1.out 0).trans rfl; have hfzg1 := blk_frozen BKg1.out 0) | ((with_reducible refine gate_callee (f := 15) rfl ?_); refine goesL_ (some 16) rfl rfl Try.func15 (by kernel_rfl) rfl #[.agg #[.slice A0 l0.length c0], .int .i64 1048576] rfl (by (try simp only [List.map_toArray, List.map_cons, List.map_nil]); first | done | rfl | (simp only [List.length_drop, List.length_take]; rfl)) ?_; (with_reducible refine (laws_szTriangulation.calls k _ _ l0 1048576 t2 _ ?side1 ?side2 H1.out).mono ?_); (case side1 => exact Kd.C_below HR0.out HB.out); (case side2 => exact HC0.out); rintro e w2 ⟨rfl, hb⟩; refine ⟨_, rfl, ?_⟩; (try clear hczg1 hfzg1); have nBg1 := Aside0.mk (blk_below (g := g1) (o := .cells #[.slice A0 l0.length c0] 24 (0, 0)) BKg1.out hb); have nHB := Aside0.mk (below_step HB.out hb); have nHT := Aside0.mk (top_below HT.out hb); clear HB HT  BKg1; have BKg1 := nBg1; have HB := nHB; have HT := nHT; clear nHB nHT  nBg1; (try clear hb); (try clear hnd); have hczg1 : w2.cell? ⟨g1, 0, none⟩ = some (.slice A0 l0.length c0) := (blk_cell BKg1.out 0).trans rfl; have hfzg1 := blk_frozen BKg1.out 0) | ((with_reducible refine gate_callee (f := 17) rfl ?_); refine goesL_ (some 21) rfl rfl Try.func17 (by kernel_rfl) rfl #[.agg #[.slice A0 l0.length c0]] rfl (by (try simp only [List.map_toArray, List.map_cons, List.map_nil]); first | done | rfl | (simp only [List.length_drop, List.length_take]; rfl)) ?_; (with_reducible refine (laws_toTriangulation.calls k _ _ l0 t5 _ ?side1 ?side2 H4.out).mono ?_); (case side1 => exact Kd.C_below HR0.out HB.out); (case side2 => exact HC0.out); rintro e w3 ⟨vo6, rfl, ho0, hb⟩; refine ⟨_, rfl, ?_⟩; (try clear hczg1 hfzg1); obtain ⟨loo6, hio6, hno6⟩ := ObS.made ho0 hb HT.out (below_size HB.out); have nBg1 := Aside0.mk (blk_below (g := g1) (o := .cells #[.slice A0 l0.length c0] 24 (0, 0)) BKg1.out hb); have nHB := Aside0.mk (below_step HB.out hb); have nHT := Aside0.mk (top_below HT.out hb); clear HB HT  BKg1; have BKg1 := nBg1; have HB := nHB; have HT := nHT; clear nHB nHT  nBg1; have HNo6 := Aside0.mk hno6.1; clear HT; have HT := Aside0.mk hno6.2.1; have HOo6 := Aside0.mk hno6.2.2; clear hno6 ho0; obtain ⟨Ao6, co6, eeo6⟩ := HOo6.out.slice; subst eeo6; (try clear hb); (try clear hnd); have hczg1 : w3.cell? ⟨g1, 0, none⟩ = some (.slice A0 l0.length c0) := (blk_cell BKg1.out 0).trans rfl; have hfzg1 := blk_frozen BKg1.out 0) | ((with_reducible refine gate_callee (f := 22) rfl ?_); refine goesL_ (some 22) rfl rfl Try.func22 (by kernel_rfl) rfl #[.agg #[.slice Ao6 t5.length co6]] rfl (by (try simp only [List.map_toArray, List.map_cons, List.map_nil]); first | done | rfl | (simp only [List.length_drop, List.length_take]; rfl)) ?_; (with_reducible refine (spec_OrientationOf.calls k _ _ t5 t8 t10 _ ?side1 ?side2 H7.out).mono ?_); (case side1 => exact (ObS.reads HOo6.out).2.2); (case side2 => exact ObS.room HOo6.out); rintro e w4 ⟨vo9, rfl, ho0, hb⟩; refine ⟨_, rfl, ?_⟩; (try clear hczg1 hfzg1); obtain ⟨loo9, hio9, hno9⟩ := ObR.made ho0 hb HT.out (below_size HB.out); have nOo6 := Aside0.mk (ObS.below HOo6.out hb); have nBg1 := Aside0.mk (blk_below (g := g1) (o := .cells #[.slice A0 l0.length c0] 24 (0, 0)) BKg1.out hb); have nHB := Aside0.mk (below_step HB.out hb); have nHT := Aside0.mk (top_below HT.out hb); clear HB HT HOo6 BKg1; have HOo6 := nOo6; have BKg1 := nBg1; have HB := nHB; have HT := nHT; clear nHB nHT nOo6 nBg1; have HNo9 := Aside0.mk hno9.1; clear HT; have HT := Aside0.mk hno9.2.1; have HOo9 := Aside0.mk hno9.2.2; clear hno9 ho0; obtain ⟨Ao9, co9, eeo9⟩ := HOo9.out.slice; subst eeo9; (try clear hb); (try clear hnd); have hczg1 : w4.cell? ⟨g1, 0, none⟩ = some (.slice A0 l0.length c0) := (blk_cell BKg1.out 0).trans rfl; have hfzg1 := blk_frozen BKg1.out 0) | ((with_reducible refine gate_callee (f := 17) rfl ?_); refine goesL_ (some 26) rfl rfl Try.func17 (by kernel_rfl) rfl #[.agg #[.slice A0 l0.length c0]] rfl (by (try simp only [List.map_toArray, List.map_cons, List.map_nil]); first | done | rfl | (simp only [List.length_drop, List.length_take]; rfl)) ?_; (with_reducible refine (laws_toTriangulation.calls k _ _ l0 t12 _ ?side1 ?side2 H11.out).mono ?_); (case side1 => exact Kd.C_below HR0.out HB.out); (case side2 => exact HC0.out); rintro e w5 ⟨vo13, rfl, ho0, hb⟩; refine ⟨_, rfl, ?_⟩; (try clear hczg1 hfzg1); obtain ⟨loo13, hio13, hno13⟩ := ObS.made ho0 hb HT.out (below_size HB.out); have nOo6 := Aside0.mk (ObS.below HOo6.out hb); have nOo9 := Aside0.mk (ObR.below HOo9.out hb); have nBg1 := Aside0.mk (blk_below (g := g1) (o := .cells #[.slice A0 l0.length c0] 24 (0, 0)) BKg1.out hb); have nHB := Aside0.mk (below_step HB.out hb); have nHT := Aside0.mk (top_below HT.out hb); clear HB HT HOo6 HOo9 BKg1; have HOo6 := nOo6; have HOo9 := nOo9; have BKg1 := nBg1; have HB := nHB; have HT := nHT; clear nHB nHT nOo6 nOo9 nBg1; have HNo13 := Aside0.mk hno13.1; clear HT; have HT := Aside0.mk hno13.2.1; have HOo13 := Aside0.mk hno13.2.2; clear hno13 ho0; obtain ⟨Ao13, co13, eeo13⟩ := HOo13.out.slice; subst eeo13; (try clear hb); (try clear hnd); have hczg1 : w5.cell? ⟨g1, 0, none⟩ = some (.slice A0 l0.length c0) := (blk_cell BKg1.out 0).trans rfl; have hfzg1 := blk_frozen BKg1.out 0) | ((with_reducible refine gate_dst (N := 6) rfl ?_); refine box_event ?hg (N := 6) ?hd (cs := #[.slice none 0 0]) (t := 29) ?hr ?_; (case hd => rfl); (case hg => rfl); (case hr => first | (go_simp; done) | (go_simp; rfl)); intro g6 hg w6 hbox hb; (try clear hczg1 hfzg1); have HNg6 := Aside0.mk (by rw [hg]; exact HT.out : hio13 ≤ g6); have HXg6 := Aside0.mk (show g6 + 1 ≤ w6.heap.size from blk_lt hbox); have nOo6 := Aside0.mk (ObS.below HOo6.out hb); have nOo9 := Aside0.mk (ObR.below HOo9.out hb); have nOo13 := Aside0.mk (ObS.below HOo13.out hb); have nBg1 := Aside0.mk (blk_below (g := g1) (o := .cells #[.slice A0 l0.length c0] 24 (0, 0)) BKg1.out hb); have nHB := Aside0.mk (below_step HB.out hb); have nHT := Aside0.mk (top_below HT.out hb); clear HB HT HOo6 HOo9 HOo13 BKg1; have HOo6 := nOo6; have HOo9 := nOo9; have HOo13 := nOo13; have BKg1 := nBg1; have HB := nHB; have HT := nHT; clear nHB nHT nOo6 nOo9 nOo13 nBg1; clear HT; have HT := HXg6; clear HXg6; have BKg6 := Aside0.mk hbox; clear hg hbox hb; have hnbg6_g1 : g6 ≠ g1 := (by have := HNg1.out; have := HNo6.out; have := HNo9.out; have := HNo13.out; have := HNg6.out; omega); have hnbg1_g6 : g1 ≠ g6 := (by have := HNg1.out; have := HNo6.out; have := HNo9.out; have := HNo13.out; have := HNg6.out; omega); have hczg1 : w6.cell? ⟨g1, 0, none⟩ = some (.slice A0 l0.length c0) := (blk_cell BKg1.out 0).trans rfl; have hfzg1 := blk_frozen BKg1.out 0; have hczg6 : w6.cell? ⟨g6, 0, none⟩ = some (.slice none 0 0) := (blk_cell BKg6.out 0).trans rfl; have hfzg6 := blk_frozen BKg6.out 0) | ((with_reducible refine gate_callee (f := 23) rfl ?_); refine goesL_ (some 29) rfl rfl Try.func23 (by kernel_rfl) rfl #[.agg #[.slice Ao13 t12.length co13]] rfl (by (try simp only [List.map_toArray, List.map_cons, List.map_nil]); first | done | rfl | (simp only [List.length_drop, List.length_take]; rfl)) ?_; (with_reducible refine (impl_OrientationOf.calls k _ _ t12 t15 t17 _ ?side1 ?side2 H14.out).mono ?_); (case side1 => exact (ObS.reads (ObS.far (g := g6) (i := 0) HOo13.out (by have := HNg1.out; have := HNo6.out; have := HNo9.out; have := HNo13.out; have := HNg6.out; omega) _)).2.2); (case side2 => exact ObS.room HOo13.out); rintro e w7 ⟨vo16, rfl, ho0, hb⟩; refine ⟨_, rfl, ?_⟩; (try clear hczg1 hfzg1 hczg6 hfzg6); obtain ⟨loo16, hio16, hno16⟩ := ObR.made ho0 hb (top_far HT.out) (below_size (below_set HB.out (show w.heap.size ≤ g6 from (by have := HNg1.out; have := HNo6.out; have := HNo9.out; have := HNo13.out; have := HNg6.out; omega)))); have nOo6 := Aside0.mk (ObS.below (ObS.far (g := g6) (i := 0) HOo6.out (by have := HNg1.out; have := HNo6.out; have := HNo9.out; have := HNo13.out; have := HNg6.out; omega) _) hb); have nOo9 := Aside0.mk (ObR.below (ObR.far (g := g6) (i := 0) HOo9.out (by have := HNg1.out; have := HNo6.out; have := HNo9.out; have := HNo13.out; have := HNg6.out; omega) _) hb); have nOo13 := Aside0.mk (ObS.below (ObS.far (g := g6) (i := 0) HOo13.out (by have := HNg1.out; have := HNo6.out; have := HNo9.out; have := HNo13.out; have := HNg6.out; omega) _) hb); have nBg1 := Aside0.mk (blk_below (g := g1) (o := .cells #[.slice A0 l0.length c0] 24 (0, 0)) (blk_far (p := ⟨g6, 0, none⟩) BKg1.out (show g1 ≠ g6 from (by have := HNg1.out; have := HNo6.out; have := HNo9.out; have := HNo13.out; have := HNg6.out; omega)) _) hb); have nBg6 := Aside0.mk (blk_below (g := g6) (o := .cells #[.slice Ao13 t12.length co13] 29 (0, 0)) (blk_put (cs := #[.slice none 0 0]) BKg6.out 0 _ rfl) hb); have nHB := Aside0.mk (below_step (below_set HB.out (show w.heap.size ≤ g6 from (by have := HNg1.out; have := HNo6.out; have := HNo9.out; have := HNo13.out; have := HNg6.out; omega))) hb); have nHT := Aside0.mk (top_below (top_far HT.out) hb); clear HB HT HOo6 HOo9 HOo13 BKg1 BKg6; have HOo6 := nOo6; have HOo9 := nOo9; have HOo13 := nOo13; have BKg1 := nBg1; have BKg6 := nBg6; have HB := nHB; have HT := nHT; clear nHB nHT nOo6 nOo9 nOo13 nBg1 nBg6; have HNo16 := Aside0.mk hno16.1; clear HT; have HT := Aside0.mk hno16.2.1; have HOo16 := Aside0.mk hno16.2.2; clear hno16 ho0; obtain ⟨Ao16, co16, eeo16⟩ := HOo16.out.slice; subst eeo16; (try clear hb); (try clear hnd); have hczg1 : w7.cell? ⟨g1, 0, none⟩ = some (.slice A0 l0.length c0) := (blk_cell BKg1.out 0).trans rfl; have hfzg1 := blk_frozen BKg1.out 0; have hczg6 : w7.cell? ⟨g6, 0, none⟩ = some (.slice Ao13 t12.length co13) := (blk_cell BKg6.out 0).trans rfl; have hfzg6 := blk_frozen BKg6.out 0) | ((with_reducible refine gate_callee (f := 24) rfl ?_); refine goesL_ (some 34) rfl rfl Try.func24 (by kernel_rfl) rfl #[.slice Ao16 t15.length co16, .slice Ao9 t8.length co9] rfl (by (try simp only [List.map_toArray, List.map_cons, List.map_nil]); first | done | rfl | (simp only [List.length_drop, List.length_take]; rfl)) ?_; (with_reducible refine (laws_eqInt64S.calls k _ _ t15 _ _ t8 true _ ?side1 ?side2 ?side3 ?side4 H18.out).mono ?_); (case side1 => exact (ObR.reads HOo16.out).2.2); (case side2 => exact ObR.room HOo16.out); (case side3 => exact (ObR.reads HOo9.out).2.2); (case side4 => exact ObR.room HOo9.out); rintro e w8 ⟨rfl, ⟨nd, hnd⟩⟩; refine ⟨_, rfl, ?_⟩; have hb := below_of_drewN hnd; (try clear hczg1 hfzg1 hczg6 hfzg6); have nOo6 := Aside0.mk (ObS.below HOo6.out hb); have nOo9 := Aside0.mk (ObR.below HOo9.out hb); have nOo13 := Aside0.mk (ObS.below HOo13.out hb); have nOo16 := Aside0.mk (ObR.below HOo16.out hb); have nBg1 := Aside0.mk (blk_below (g := g1) (o := .cells #[.slice A0 l0.length c0] 24 (0, 0)) BKg1.out hb); have nBg6 := Aside0.mk (blk_below (g := g6) (o := .cells #[.slice Ao13 t12.length co13] 29 (0, 0)) BKg6.out hb); have nHB := Aside0.mk (below_step HB.out hb); have nHT := Aside0.mk (top_below HT.out hb); clear HB HT HOo6 HOo9 HOo13 HOo16 BKg1 BKg6; have HOo6 := nOo6; have HOo9 := nOo9; have HOo13 := nOo13; have HOo16 := nOo16; have BKg1 := nBg1; have BKg6 := nBg6; have HB := nHB; have HT := nHT; clear nHB nHT nOo6 nOo9 nOo13 nOo16 nBg1 nBg6; (try clear hb); (try clear hnd); have hczg1 : w8.cell? ⟨g1, 0, none⟩ = some (.slice A0 l0.length c0) := (blk_cell BKg1.out 0).trans rfl; have hfzg1 := blk_frozen BKg1.out 0; have hczg6 : w8.cell? ⟨g6, 0, none⟩ = some (.slice Ao13 t12.length co13) := (blk_cell BKg6.out 0).trans rfl; have hfzg6 := blk_frozen BKg6.out 0))
  (try clear hczg1 hfzg1 hczg6 hfzg6)
  have nOo6 := Aside0.mk (ObS.drew HOo6.out)
  have nOo9 := Aside0.mk (ObR.drew HOo9.out)
  have nOo13 := Aside0.mk (ObS.drew HOo13.out)
  have nOo16 := Aside0.mk (ObR.drew HOo16.out)
  have nBg1 := Aside0.mk (blk_drew BKg1.out)
  have nBg6 := Aside0.mk (blk_drew BKg6.out)
  have nHB := Aside0.mk (below_drew1 HB.out)
  have nHT := Aside0.mk (top_drew HT.out)
  clear HB HT HOo6 HOo9 HOo13 HOo16 BKg1 BKg6
  have HOo6 := nOo6
  have HOo9 := nOo9
  have HOo13 := nOo13
  have HOo16 := nOo16
  have BKg1 := nBg1
  have BKg6 := nBg6
  have HB := nHB
  have HT := nHT
  clear nHB nHT nOo6 nOo9 nOo13 nOo16 nBg1 nBg6
  refine start_ (n := 5) (S := fun w' => w'.cell? ⟨g6, 0, none⟩ = some (.slice Ao13 t12.length co13) ∧ w'.cell? ⟨g1, 0, none⟩ = some (.slice A0 l0.length c0)) (ds := []) #[false, false, false, false, false] (by kernel_rfl) rfl rfl ⟨(blk_cell BKg6.out 0).trans rfl, (blk_cell BKg1.out 0).trans rfl⟩ (fun hHeld => ?_)
  generalize hdr_ : World.drew _ = w9 at HOo6 HOo9 HOo13 HOo16 BKg1 BKg6 HB HT hHeld ⊢
  (try clear hdr_)
  refine take_ (i := 0) (N := some 41) (v := ?_) (a' := ?_) #[true, false, false, false, false] rfl rfl (by kernel_rfl) (fun _ _ _ h => h) (Or.inl ⟨by rfl, ?_⟩) hHeld ?_ ?_
  rotate_left
  · rintro w' ⟨s0, s1⟩
    go_simp
    with_reducible rfl
  rotate_left
  · simp only [Act.put, List.setIfInBounds_toArray, List.set_cons_zero, List.set_cons_succ, i64_w, i32_w]
    rfl
  refine take_ (i := 1) (N := some 42) (v := ?_) (a' := ?_) #[true, true, false, false, false] rfl rfl (by kernel_rfl) (fun _ _ _ h => h) (Or.inl ⟨by rfl, ?_⟩) hHeld ?_ ?_
  rotate_left
  · rintro w' ⟨s0, s1⟩
    go_simp
    with_reducible rfl
  rotate_left
  · simp only [Act.put, List.setIfInBounds_toArray, List.set_cons_zero, List.set_cons_succ, i64_w, i32_w]
    rfl
  refine one_ (i := 2) (N := some 43) #[true, true, true, false, false] rfl rfl (by kernel_rfl) (by decide) (fun K hK => ?_)
  refine goes_ Try.func17 (by kernel_rfl) rfl #[.agg #[.slice A0 l0.length c0]] (by rfl) rfl rfl (by (try simp only [List.map_toArray, List.map_cons, List.map_nil]); first | done | rfl | (simp only [List.length_drop, List.length_take]; rfl)) ?_
  with_reducible refine (laws_toTriangulation.calls k _ _ l0 t22 _ ?side1 ?side2 H21.out).mono ?_
  (case side1 => exact Kd.C_below HR0.out HB.out)
  (case side2 => exact HC0.out)
  rintro e w10 ⟨vo23, rfl, ho0, hb⟩
  refine ⟨_, rfl, ?_⟩
  (try clear hczg1 hfzg1 hczg6 hfzg6)
  obtain ⟨loo23, hio23, hno23⟩ := ObS.made ho0 hb HT.out (below_size HB.out)
  have nOo6 := Aside0.mk (ObS.below HOo6.out hb)
  have nOo9 := Aside0.mk (ObR.below HOo9.out hb)
  have nOo13 := Aside0.mk (ObS.below HOo13.out hb)
  have nOo16 := Aside0.mk (ObR.below HOo16.out hb)
  have nBg1 := Aside0.mk (blk_below (g := g1) (o := .cells #[.slice A0 l0.length c0] 24 (0, 0)) BKg1.out hb)
  have nBg6 := Aside0.mk (blk_below (g := g6) (o := .cells #[.slice Ao13 t12.length co13] 29 (0, 0)) BKg6.out hb)
  have nHB := Aside0.mk (below_step HB.out hb)
  have nHT := Aside0.mk (top_below HT.out hb)
  clear HB HT HOo6 HOo9 HOo13 HOo16 BKg1 BKg6
  have HOo6 := nOo6
  have HOo9 := nOo9
  have HOo13 := nOo13
  have HOo16 := nOo16
  have BKg1 := nBg1
  have BKg6 := nBg6
  have HB := nHB
  have HT := nHT
  clear nHB nHT nOo6 nOo9 nOo13 nOo16 nBg1 nBg6
  have HNo23 := Aside0.mk hno23.1
  clear HT
  have HT := Aside0.mk hno23.2.1
  have HOo23 := Aside0.mk hno23.2.2
  clear hno23 ho0
  obtain ⟨Ao23, co23, eeo23⟩ := HOo23.out.slice
  subst eeo23
  (try clear hb)
  (try clear hnd)
  refine hK.out _ _ ⟨(blk_cell BKg6.out 0).trans rfl, (blk_cell BKg1.out 0).trans rfl⟩ (fun hHeld => ?_)
  clear hK K
  refine norm_ (a' := ?_) ?_ ?_
  rotate_left
  · show Act.put _ (some 43) _ = _
    simp only [Act.put, List.setIfInBounds_toArray, List.set_cons_zero, List.set_cons_succ, i64_w, i32_w]
    rfl
  refine one_ (i := 3) (N := some 44) #[true, true, true, true, false] rfl rfl (by kernel_rfl) (by decide) (fun K hK => ?_)
  refine goes_ Try.func19 (by kernel_rfl) rfl #[.agg #[.slice Ao13 t12.length co13], .agg #[.slice Ao23 t22.length co23]] (by rfl) rfl rfl (by (try simp only [List.map_toArray, List.map_cons, List.map_nil]); first | done | rfl | (simp only [List.length_drop, List.length_take]; rfl)) ?_
  with_reducible refine (laws_eqTriangulation.calls k _ _ t12 _ _ t22 true _ ?side1 ?side2 ?side3 ?side4 H24.out).mono ?_
  (case side1 => exact (ObS.reads HOo13.out).2.2)
  (case side2 => exact ObS.room HOo13.out)
  (case side3 => exact (ObS.reads HOo23.out).2.2)
  (case side4 => exact ObS.room HOo23.out)
  rintro e w11 ⟨rfl, hb⟩
  refine ⟨_, rfl, ?_⟩
  (try clear hczg1 hfzg1 hczg6 hfzg6)
  have nOo6 := Aside0.mk (ObS.below HOo6.out hb)
  have nOo9 := Aside0.mk (ObR.below HOo9.out hb)
  have nOo13 := Aside0.mk (ObS.below HOo13.out hb)
  have nOo16 := Aside0.mk (ObR.below HOo16.out hb)
  have nOo23 := Aside0.mk (ObS.below HOo23.out hb)
  have nBg1 := Aside0.mk (blk_below (g := g1) (o := .cells #[.slice A0 l0.length c0] 24 (0, 0)) BKg1.out hb)
  have nBg6 := Aside0.mk (blk_below (g := g6) (o := .cells #[.slice Ao13 t12.length co13] 29 (0, 0)) BKg6.out hb)
  have nHB := Aside0.mk (below_step HB.out hb)
  have nHT := Aside0.mk (top_below HT.out hb)
  clear HB HT HOo6 HOo9 HOo13 HOo16 HOo23 BKg1 BKg6
  have HOo6 := nOo6
  have HOo9 := nOo9
  have HOo13 := nOo13
  have HOo16 := nOo16
  have HOo23 := nOo23
  have BKg1 := nBg1
  have BKg6 := nBg6
  have HB := nHB
  have HT := nHT
  clear nHB nHT nOo6 nOo9 nOo13 nOo16 nOo23 nBg1 nBg6
  (try clear hb)
  (try clear hnd)
  refine hK.out _ _ ⟨(blk_cell BKg6.out 0).trans rfl, (blk_cell BKg1.out 0).trans rfl⟩ (fun hHeld => ?_)
  clear hK K
  refine norm_ (a' := ?_) ?_ ?_
  rotate_left
  · show Act.put _ (some 44) _ = _
    simp only [Act.put, List.setIfInBounds_toArray, List.set_cons_zero, List.set_cons_succ, i64_w, i32_w]
    rfl
  refine pure_ (i := 4) (N := some 45) (v := ?_) (a' := ?_) #[true, true, true, true, true] rfl rfl (by kernel_rfl) (fun _ _ _ h => h) (Or.inl ⟨by rfl, ?_⟩) ?_ ?_
  rotate_left
  · intro w'
    go_simp
    with_reducible rfl
  rotate_left
  · simp only [Act.put, List.setIfInBounds_toArray, List.set_cons_zero, List.set_cons_succ, i64_w, i32_w]
    rfl
  refine done_ (by kernel_rfl) ?_
  have hczg1 : w11.cell? ⟨g1, 0, none⟩ = some (.slice A0 l0.length c0) := (blk_cell BKg1.out 0).trans rfl
  have hfzg1 := blk_frozen BKg1.out 0
  have hczg6 : w11.cell? ⟨g6, 0, none⟩ = some (.slice Ao13 t12.length co13) := (blk_cell BKg6.out 0).trans rfl
  have hfzg6 := blk_frozen BKg6.out 0
  try go_wp2_with (first | ((with_reducible refine gate_callee (f := 25) rfl ?_); refine goesL_ (some 48) rfl rfl Try.func25 (by kernel_rfl) rfl #[.agg #[.slice Ao13 t12.length co13], .int .i64 1] rfl (by (try simp only [List.map_toArray, List.map_cons, List.map_nil]); first | done | rfl | (simp only [List.length_drop, List.length_take]; rfl)) ?_; (with_reducible refine (laws_markTriangulation.calls k (fun k_ => loo13 ≤ k_ ∧ k_ < hio13) (.slice Ao13 t12.length co13) t12 1 m27 y28 w _ HB.out (ObS.row HOo13.out) H26.out).mono ?_); rintro e w12 ⟨rfl, hy, hb, hk0⟩; refine ⟨_, rfl, ?_⟩; have hk := hk0; have nM := Aside0.mk (ObS.marked HOo13.out hy hk.1); (try clear hczg1 hfzg1 hczg6 hfzg6); have nOo6 := Aside0.mk (ObS.kept HOo6.out hk (by have := HNg1.out; have := HNo6.out; have := HNo9.out; have := HNo13.out; have := HNg6.out; have := HNo16.out; have := HNo23.out; omega)); have nOo9 := Aside0.mk (ObR.kept HOo9.out hk (by have := HNg1.out; have := HNo6.out; have := HNo9.out; have := HNo13.out; have := HNg6.out; have := HNo16.out; have := HNo23.out; omega)); have nOo16 := Aside0.mk (ObR.kept HOo16.out hk (by have := HNg1.out; have := HNo6.out; have := HNo9.out; have := HNo13.out; have := HNg6.out; have := HNo16.out; have := HNo23.out; omega)); have nOo23 := Aside0.mk (ObS.kept HOo23.out hk (by have := HNg1.out; have := HNo6.out; have := HNo9.out; have := HNo13.out; have := HNg6.out; have := HNo16.out; have := HNo23.out; omega)); have nBg1 := Aside0.mk (blk_kept (g := g1) (o := .cells #[.slice A0 l0.length c0] 24 (0, 0)) BKg1.out hk (fun h_ => by have h1_ := h_.1; have h2_ := h_.2; have := HNg1.out; have := HNo6.out; have := HNo9.out; have := HNo13.out; have := HNg6.out; have := HNo16.out; have := HNo23.out; omega)); have nBg6 := Aside0.mk (blk_kept (g := g6) (o := .cells #[.slice Ao13 t12.length co13] 29 (0, 0)) BKg6.out hk (fun h_ => by have h1_ := h_.1; have h2_ := h_.2; have := HNg1.out; have := HNo6.out; have := HNo9.out; have := HNo13.out; have := HNg6.out; have := HNo16.out; have := HNo23.out; omega)); have nHT := Aside0.mk (Nat.le_trans HT.out hk.1); clear HB HT HOo6 HOo9 HOo13 HOo16 HOo23 BKg1 BKg6; have HOo6 := nOo6; have HOo9 := nOo9; have HOo13 := nM; have HOo16 := nOo16; have HOo23 := nOo23; have BKg1 := nBg1; have BKg6 := nBg6; have HB := Aside0.mk hb; have HT := nHT; (try clear hy); clear hb hk0 hk nM nHT nOo6 nOo9 nOo16 nOo23 nBg1 nBg6; have hczg1 : w12.cell? ⟨g1, 0, none⟩ = some (.slice A0 l0.length c0) := (blk_cell BKg1.out 0).trans rfl; have hfzg1 := blk_frozen BKg1.out 0; have hczg6 : w12.cell? ⟨g6, 0, none⟩ = some (.slice Ao13 t12.length co13) := (blk_cell BKg6.out 0).trans rfl; have hfzg6 := blk_frozen BKg6.out 0))
  try go_wp2_with (first | (go_at_call 24; (with_reducible refine (laws_eqInt64S.calls k _ _ t15 _ _ t8 true _ ?side1 ?side2 ?side3 ?side4 H30.out).mono ?_); (case side1 => exact (ObR.reads HOo16.out).2.2); (case side2 => exact ObR.room HOo16.out); (case side3 => exact (ObR.reads HOo9.out).2.2); (case side4 => exact ObR.room HOo9.out); rintro e w13 ⟨rfl, ⟨nd, hnd⟩⟩; have hb := below_of_drewN hnd; (try clear hczg1 hfzg1 hczg6 hfzg6); have nOo6 := Aside0.mk (ObS.below HOo6.out hb); have nOo9 := Aside0.mk (ObR.below HOo9.out hb); have nOo13 := Aside0.mk (ObS.below HOo13.out hb); have nOo16 := Aside0.mk (ObR.below HOo16.out hb); have nOo23 := Aside0.mk (ObS.below HOo23.out hb); have nBg1 := Aside0.mk (blk_below (g := g1) (o := .cells #[.slice A0 l0.length c0] 24 (0, 0)) BKg1.out hb); have nBg6 := Aside0.mk (blk_below (g := g6) (o := .cells #[.slice Ao13 t12.length co13] 29 (0, 0)) BKg6.out hb); have nHB := Aside0.mk (below_step HB.out hb); have nHT := Aside0.mk (top_below HT.out hb); clear HB HT HOo6 HOo9 HOo13 HOo16 HOo23 BKg1 BKg6; have HOo6 := nOo6; have HOo9 := nOo9; have HOo13 := nOo13; have HOo16 := nOo16; have HOo23 := nOo23; have BKg1 := nBg1; have BKg6 := nBg6; have HB := nHB; have HT := nHT; clear nHB nHT nOo6 nOo9 nOo13 nOo16 nOo23 nBg1 nBg6; (try clear hb); (try clear hnd); have hczg1 : w13.cell? ⟨g1, 0, none⟩ = some (.slice A0 l0.length c0) := (blk_cell BKg1.out 0).trans rfl; have hfzg1 := blk_frozen BKg1.out 0; have hczg6 : w13.cell? ⟨g6, 0, none⟩ = some (.slice Ao13 t12.length co13) := (blk_cell BKg6.out 0).trans rfl; have hfzg6 := blk_frozen BKg6.out 0) | ((with_reducible refine gate_callee (f := 26) rfl ?_); refine goesL_ (some 64) rfl rfl Try.func26 (by kernel_rfl) rfl #[.slice Ao16 t15.length co16, .int .i64 1] rfl (by (try simp only [List.map_toArray, List.map_cons, List.map_nil]); first | done | rfl | (simp only [List.length_drop, List.length_take]; rfl)) ?_; (with_reducible refine (laws_markInt64S.calls k (fun k_ => some k_ = (.slice Ao16 t15.length co16 : Value).ownBlock) (.slice Ao16 t15.length co16) t15 1 m34 y35 w _ HB.out (Kd.R_tight rfl (ObR.row HOo16.out)) H33.out).mono ?_); rintro e w14 ⟨rfl, hy, hb, hk0⟩; refine ⟨_, rfl, ?_⟩; have hk := ObR.range HOo16.out hk0; have nM := Aside0.mk (ObR.marked HOo16.out rfl hy hk.1); (try clear hczg1 hfzg1 hczg6 hfzg6); have nOo6 := Aside0.mk (ObS.kept HOo6.out hk (by have := HNg1.out; have := HNo6.out; have := HNo9.out; have := HNo13.out; have := HNg6.out; have := HNo16.out; have := HNo23.out; omega)); have nOo9 := Aside0.mk (ObR.kept HOo9.out hk (by have := HNg1.out; have := HNo6.out; have := HNo9.out; have := HNo13.out; have := HNg6.out; have := HNo16.out; have := HNo23.out; omega)); have nOo13 := Aside0.mk (ObS.kept HOo13.out hk (by have := HNg1.out; have := HNo6.out; have := HNo9.out; have := HNo13.out; have := HNg6.out; have := HNo16.out; have := HNo23.out; omega)); have nOo23 := Aside0.mk (ObS.kept HOo23.out hk (by have := HNg1.out; have := HNo6.out; have := HNo9.out; have := HNo13.out; have := HNg6.out; have := HNo16.out; have := HNo23.out; omega)); have nBg1 := Aside0.mk (blk_kept (g := g1) (o := .cells #[.slice A0 l0.length c0] 24 (0, 0)) BKg1.out hk (fun h_ => by have h1_ := h_.1; have h2_ := h_.2; have := HNg1.out; have := HNo6.out; have := HNo9.out; have := HNo13.out; have := HNg6.out; have := HNo16.out; have := HNo23.out; omega)); have nBg6 := Aside0.mk (blk_kept (g := g6) (o := .cells #[.slice Ao13 t12.length co13] 29 (0, 0)) BKg6.out hk (fun h_ => by have h1_ := h_.1; have h2_ := h_.2; have := HNg1.out; have := HNo6.out; have := HNo9.out; have := HNo13.out; have := HNg6.out; have := HNo16.out; have := HNo23.out; omega)); have nHT := Aside0.mk (Nat.le_trans HT.out hk.1); clear HB HT HOo6 HOo9 HOo13 HOo16 HOo23 BKg1 BKg6; have HOo6 := nOo6; have HOo9 := nOo9; have HOo13 := nOo13; have HOo16 := nM; have HOo23 := nOo23; have BKg1 := nBg1; have BKg6 := nBg6; have HB := Aside0.mk hb; have HT := nHT; (try clear hy); clear hb hk0 hk nM nHT nOo6 nOo9 nOo13 nOo23 nBg1 nBg6; have hczg1 : w14.cell? ⟨g1, 0, none⟩ = some (.slice A0 l0.length c0) := (blk_cell BKg1.out 0).trans rfl; have hfzg1 := blk_frozen BKg1.out 0; have hczg6 : w14.cell? ⟨g6, 0, none⟩ = some (.slice Ao13 t12.length co13) := (blk_cell BKg6.out 0).trans rfl; have hfzg6 := blk_frozen BKg6.out 0) | ((with_reducible refine gate_callee (f := 27) rfl ?_); refine goesL_ (some 67) rfl rfl Try.func27 (by kernel_rfl) rfl #[.slice Ao16 y35.length co16, .int .i64 1] rfl (by (try simp only [List.map_toArray, List.map_cons, List.map_nil]); first | done | (rw [show y35.length = t15.length from (ObR.reads HOo16.out).1.symm] <;> rfl) | rfl | (simp only [List.length_drop, List.length_take]; rfl)) ?_; (with_reducible refine (laws_heldInt64S.calls k _ _ y35 1 t37 _ ?side1 ?side2 H36.out).mono ?_); (case side1 => exact (ObR.reads HOo16.out).2.2); (case side2 => exact ObR.room HOo16.out); rintro e w15 ⟨rfl, ⟨nd, hnd⟩⟩; refine ⟨_, rfl, ?_⟩; have hb := below_of_drewN hnd; (try clear hczg1 hfzg1 hczg6 hfzg6); have nOo6 := Aside0.mk (ObS.below HOo6.out hb); have nOo9 := Aside0.mk (ObR.below HOo9.out hb); have nOo13 := Aside0.mk (ObS.below HOo13.out hb); have nOo16 := Aside0.mk (ObR.below HOo16.out hb); have nOo23 := Aside0.mk (ObS.below HOo23.out hb); have nBg1 := Aside0.mk (blk_below (g := g1) (o := .cells #[.slice A0 l0.length c0] 24 (0, 0)) BKg1.out hb); have nBg6 := Aside0.mk (blk_below (g := g6) (o := .cells #[.slice Ao13 t12.length co13] 29 (0, 0)) BKg6.out hb); have nHB := Aside0.mk (below_step HB.out hb); have nHT := Aside0.mk (top_below HT.out hb); clear HB HT HOo6 HOo9 HOo13 HOo16 HOo23 BKg1 BKg6; have HOo6 := nOo6; have HOo9 := nOo9; have HOo13 := nOo13; have HOo16 := nOo16; have HOo23 := nOo23; have BKg1 := nBg1; have BKg6 := nBg6; have HB := nHB; have HT := nHT; clear nHB nHT nOo6 nOo9 nOo13 nOo16 nOo23 nBg1 nBg6; (try clear hb); (try clear hnd); have hczg1 : w15.cell? ⟨g1, 0, none⟩ = some (.slice A0 l0.length c0) := (blk_cell BKg1.out 0).trans rfl; have hfzg1 := blk_frozen BKg1.out 0; have hczg6 : w15.cell? ⟨g6, 0, none⟩ = some (.slice Ao13 t12.length co13) := (blk_cell BKg6.out 0).trans rfl; have hfzg6 := blk_frozen BKg6.out 0) | ((with_reducible refine gate_callee (f := 17) rfl ?_); refine goesL_ (some 75) rfl rfl Try.func17 (by kernel_rfl) rfl #[.agg #[.slice A0 l0.length c0]] rfl (by (try simp only [List.map_toArray, List.map_cons, List.map_nil]); first | done | rfl | (simp only [List.length_drop, List.length_take]; rfl)) ?_; (with_reducible refine (laws_toTriangulation.calls k _ _ l0 t41 _ ?side1 ?side2 H40.out).mono ?_); (case side1 => exact Kd.C_below HR0.out HB.out); (case side2 => exact HC0.out); rintro e w16 ⟨vo42, rfl, ho0, hb⟩; refine ⟨_, rfl, ?_⟩; (try clear hczg1 hfzg1 hczg6 hfzg6); obtain ⟨loo42, hio42, hno42⟩ := ObS.made ho0 hb HT.out (below_size HB.out); have nOo6 := Aside0.mk (ObS.below HOo6.out hb); have nOo9 := Aside0.mk (ObR.below HOo9.out hb); have nOo13 := Aside0.mk (ObS.below HOo13.out hb); have nOo16 := Aside0.mk (ObR.below HOo16.out hb); have nOo23 := Aside0.mk (ObS.below HOo23.out hb); have nBg1 := Aside0.mk (blk_below (g := g1) (o := .cells #[.slice A0 l0.length c0] 24 (0, 0)) BKg1.out hb); have nBg6 := Aside0.mk (blk_below (g := g6) (o := .cells #[.slice Ao13 t12.length co13] 29 (0, 0)) BKg6.out hb); have nHB := Aside0.mk (below_step HB.out hb); have nHT := Aside0.mk (top_below HT.out hb); clear HB HT HOo6 HOo9 HOo13 HOo16 HOo23 BKg1 BKg6; have HOo6 := nOo6; have HOo9 := nOo9; have HOo13 := nOo13; have HOo16 := nOo16; have HOo23 := nOo23; have BKg1 := nBg1; have BKg6 := nBg6; have HB := nHB; have HT := nHT; clear nHB nHT nOo6 nOo9 nOo13 nOo16 nOo23 nBg1 nBg6; have HNo42 := Aside0.mk hno42.1; clear HT; have HT := Aside0.mk hno42.2.1; have HOo42 := Aside0.mk hno42.2.2; clear hno42 ho0; obtain ⟨Ao42, co42, eeo42⟩ := HOo42.out.slice; subst eeo42; (try clear hb); (try clear hnd); have hczg1 : w16.cell? ⟨g1, 0, none⟩ = some (.slice A0 l0.length c0) := (blk_cell BKg1.out 0).trans rfl; have hfzg1 := blk_frozen BKg1.out 0; have hczg6 : w16.cell? ⟨g6, 0, none⟩ = some (.slice Ao13 t12.length co13) := (blk_cell BKg6.out 0).trans rfl; have hfzg6 := blk_frozen BKg6.out 0) | ((with_reducible refine gate_callee (f := 23) rfl ?_); refine goesL_ (some 76) rfl rfl Try.func23 (by kernel_rfl) rfl #[.agg #[.slice Ao42 t41.length co42]] rfl (by (try simp only [List.map_toArray, List.map_cons, List.map_nil]); first | done | rfl | (simp only [List.length_drop, List.length_take]; rfl)) ?_; (with_reducible refine (impl_OrientationOf.calls k _ _ t41 t44 t46 _ ?side1 ?side2 H43.out).mono ?_); (case side1 => exact (ObS.reads HOo42.out).2.2); (case side2 => exact ObS.room HOo42.out); rintro e w17 ⟨vo45, rfl, ho0, hb⟩; refine ⟨_, rfl, ?_⟩; (try clear hczg1 hfzg1 hczg6 hfzg6); obtain ⟨loo45, hio45, hno45⟩ := ObR.made ho0 hb HT.out (below_size HB.out); have nOo6 := Aside0.mk (ObS.below HOo6.out hb); have nOo9 := Aside0.mk (ObR.below HOo9.out hb); have nOo13 := Aside0.mk (ObS.below HOo13.out hb); have nOo16 := Aside0.mk (ObR.below HOo16.out hb); have nOo23 := Aside0.mk (ObS.below HOo23.out hb); have nOo42 := Aside0.mk (ObS.below HOo42.out hb); have nBg1 := Aside0.mk (blk_below (g := g1) (o := .cells #[.slice A0 l0.length c0] 24 (0, 0)) BKg1.out hb); have nBg6 := Aside0.mk (blk_below (g := g6) (o := .cells #[.slice Ao13 t12.length co13] 29 (0, 0)) BKg6.out hb); have nHB := Aside0.mk (below_step HB.out hb); have nHT := Aside0.mk (top_below HT.out hb); clear HB HT HOo6 HOo9 HOo13 HOo16 HOo23 HOo42 BKg1 BKg6; have HOo6 := nOo6; have HOo9 := nOo9; have HOo13 := nOo13; have HOo16 := nOo16; have HOo23 := nOo23; have HOo42 := nOo42; have BKg1 := nBg1; have BKg6 := nBg6; have HB := nHB; have HT := nHT; clear nHB nHT nOo6 nOo9 nOo13 nOo16 nOo23 nOo42 nBg1 nBg6; have HNo45 := Aside0.mk hno45.1; clear HT; have HT := Aside0.mk hno45.2.1; have HOo45 := Aside0.mk hno45.2.2; clear hno45 ho0; obtain ⟨Ao45, co45, eeo45⟩ := HOo45.out.slice; subst eeo45; (try clear hb); (try clear hnd); have hczg1 : w17.cell? ⟨g1, 0, none⟩ = some (.slice A0 l0.length c0) := (blk_cell BKg1.out 0).trans rfl; have hfzg1 := blk_frozen BKg1.out 0; have hczg6 : w17.cell? ⟨g6, 0, none⟩ = some (.slice Ao13 t12.length co13) := (blk_cell BKg6.out 0).trans rfl; have hfzg6 := blk_frozen BKg6.out 0) | ((with_reducible refine gate_callee (f := 24) rfl ?_); refine goesL_ (some 81) rfl rfl Try.func24 (by kernel_rfl) rfl #[.slice Ao45 t44.length co45, .slice Ao9 t8.length co9] rfl (by (try simp only [List.map_toArray, List.map_cons, List.map_nil]); first | done | rfl | (simp only [List.length_drop, List.length_take]; rfl)) ?_; (with_reducible refine (laws_eqInt64S.calls k _ _ t44 _ _ t8 true _ ?side1 ?side2 ?side3 ?side4 H47.out).mono ?_); (case side1 => exact (ObR.reads HOo45.out).2.2); (case side2 => exact ObR.room HOo45.out); (case side3 => exact (ObR.reads HOo9.out).2.2); (case side4 => exact ObR.room HOo9.out); rintro e w18 ⟨rfl, ⟨nd, hnd⟩⟩; refine ⟨_, rfl, ?_⟩; have hb := below_of_drewN hnd; (try clear hczg1 hfzg1 hczg6 hfzg6); have nOo6 := Aside0.mk (ObS.below HOo6.out hb); have nOo9 := Aside0.mk (ObR.below HOo9.out hb); have nOo13 := Aside0.mk (ObS.below HOo13.out hb); have nOo16 := Aside0.mk (ObR.below HOo16.out hb); have nOo23 := Aside0.mk (ObS.below HOo23.out hb); have nOo42 := Aside0.mk (ObS.below HOo42.out hb); have nOo45 := Aside0.mk (ObR.below HOo45.out hb); have nBg1 := Aside0.mk (blk_below (g := g1) (o := .cells #[.slice A0 l0.length c0] 24 (0, 0)) BKg1.out hb); have nBg6 := Aside0.mk (blk_below (g := g6) (o := .cells #[.slice Ao13 t12.length co13] 29 (0, 0)) BKg6.out hb); have nHB := Aside0.mk (below_step HB.out hb); have nHT := Aside0.mk (top_below HT.out hb); clear HB HT HOo6 HOo9 HOo13 HOo16 HOo23 HOo42 HOo45 BKg1 BKg6; have HOo6 := nOo6; have HOo9 := nOo9; have HOo13 := nOo13; have HOo16 := nOo16; have HOo23 := nOo23; have HOo42 := nOo42; have HOo45 := nOo45; have BKg1 := nBg1; have BKg6 := nBg6; have HB := nHB; have HT := nHT; clear nHB nHT nOo6 nOo9 nOo13 nOo16 nOo23 nOo42 nOo45 nBg1 nBg6; (try clear hb); (try clear hnd); have hczg1 : w18.cell? ⟨g1, 0, none⟩ = some (.slice A0 l0.length c0) := (blk_cell BKg1.out 0).trans rfl; have hfzg1 := blk_frozen BKg1.out 0; have hczg6 : w18.cell? ⟨g6, 0, none⟩ = some (.slice Ao13 t12.length co13) := (blk_cell BKg6.out 0).trans rfl; have hfzg6 := blk_frozen BKg6.out 0) | ((with_reducible refine gate_callee (f := 27) rfl ?_); refine goesL_ (some 90) rfl rfl Try.func27 (by kernel_rfl) rfl #[.slice Ao16 y35.length co16, .int .i64 1] rfl (by (try simp only [List.map_toArray, List.map_cons, List.map_nil]); first | done | (rw [show y35.length = t15.length from (ObR.reads HOo16.out).1.symm] <;> rfl) | rfl | (simp only [List.length_drop, List.length_take]; rfl)) ?_; (with_reducible refine (laws_heldInt64S.calls k _ _ y35 1 t51 _ ?side1 ?side2 H50.out).mono ?_); (case side1 => exact (ObR.reads HOo16.out).2.2); (case side2 => exact ObR.room HOo16.out); rintro e w19 ⟨rfl, ⟨nd, hnd⟩⟩; refine ⟨_, rfl, ?_⟩; have hb := below_of_drewN hnd; (try clear hczg1 hfzg1 hczg6 hfzg6); have nOo6 := Aside0.mk (ObS.below HOo6.out hb); have nOo9 := Aside0.mk (ObR.below HOo9.out hb); have nOo13 := Aside0.mk (ObS.below HOo13.out hb); have nOo16 := Aside0.mk (ObR.below HOo16.out hb); have nOo23 := Aside0.mk (ObS.below HOo23.out hb); have nOo42 := Aside0.mk (ObS.below HOo42.out hb); have nOo45 := Aside0.mk (ObR.below HOo45.out hb); have nBg1 := Aside0.mk (blk_below (g := g1) (o := .cells #[.slice A0 l0.length c0] 24 (0, 0)) BKg1.out hb); have nBg6 := Aside0.mk (blk_below (g := g6) (o := .cells #[.slice Ao13 t12.length co13] 29 (0, 0)) BKg6.out hb); have nHB := Aside0.mk (below_step HB.out hb); have nHT := Aside0.mk (top_below HT.out hb); clear HB HT HOo6 HOo9 HOo13 HOo16 HOo23 HOo42 HOo45 BKg1 BKg6; have HOo6 := nOo6; have HOo9 := nOo9; have HOo13 := nOo13; have HOo16 := nOo16; have HOo23 := nOo23; have HOo42 := nOo42; have HOo45 := nOo45; have BKg1 := nBg1; have BKg6 := nBg6; have HB := nHB; have HT := nHT; clear nHB nHT nOo6 nOo9 nOo13 nOo16 nOo23 nOo42 nOo45 nBg1 nBg6; (try clear hb); (try clear hnd); have hczg1 : w19.cell? ⟨g1, 0, none⟩ = some (.slice A0 l0.length c0) := (blk_cell BKg1.out 0).trans rfl; have hfzg1 := blk_frozen BKg1.out 0; have hczg6 : w19.cell? ⟨g6, 0, none⟩ = some (.slice Ao13 t12.length co13) := (blk_cell BKg6.out 0).trans rfl; have hfzg6 := blk_frozen BKg6.out 0))
  go_ret
  exact ⟨by first | rfl | (simp <;> rfl), HB.out⟩
end Go.Proofs.Ytfaagdpopmnnpaa.P

/- Plain lemmas on loops that are counted by rounds, and on lists of whole numbers. -/
namespace Go.Proofs.Ytfaagdpopmnnpaa.Lib
set_option linter.unusedVariables false
open Go.RowKit Go.Proofs.YtfaagdpopmnnpaaW.PrintWords
/-- A loop comes to g of its first state: at each state it ends with g, or goes on at a smaller state of the same g. -/
theorem ev_loop {σ ρ : Type} (L : Nat → σ → Option ρ) (I : σ → Prop) (m : σ → Nat) (g : σ → ρ)
    (h : ∀ s, I s → (∃ K, ∀ k, K ≤ k → L (k + 1) s = some (g s)) ∨ (∃ s' K, I s' ∧ m s' < m s ∧ g s' = g s ∧ ∀ k, K ≤ k → L (k + 1) s = L k s')) :
    ∀ s, I s → Ev (fun k => L k s) (g s) := by
  have key : ∀ (n : Nat) (s : σ), m s < n → I s → Ev (fun k => L k s) (g s) := by
    intro n
    induction n with
    | zero => intro s hs; omega
    | succ n ih =>
      intro s hs hi
      rcases h s hi with ⟨K, hK⟩ | ⟨s', K, hi', hm, hg, hK⟩
      · refine ⟨K + 1, fun k hk => ?_⟩
        obtain ⟨j, rfl⟩ : ∃ j, k = j + 1 := ⟨k - 1, by omega⟩
        exact hK j (by omega)
      · obtain ⟨K', hK'⟩ := ih s' (by omega) hi'
        refine ⟨max K K' + 1, fun k hk => ?_⟩
        obtain ⟨j, rfl⟩ : ∃ j, k = j + 1 := ⟨k - 1, by omega⟩
        show L (j + 1) s = some (g s)
        rw [hK j (by omega), ← hg]
        exact hK' j (by omega)
  intro s hi
  exact key (m s + 1) s (by omega) hi
/-- The same, where a round asks for no number of rounds. -/
theorem ev_loop0 {σ ρ : Type} (L : Nat → σ → Option ρ) (I : σ → Prop) (m : σ → Nat) (g : σ → ρ)
    (h : ∀ s, I s → (∀ k, L (k + 1) s = some (g s)) ∨ (∃ s', I s' ∧ m s' < m s ∧ g s' = g s ∧ ∀ k, L (k + 1) s = L k s')) :
    ∀ s, I s → Ev (fun k => L k s) (g s) :=
  ev_loop L I m g fun s hi => by
    rcases h s hi with h1 | ⟨s', h1, h2, h3, h4⟩
    · exact .inl ⟨0, fun k _ => h1 k⟩
    · exact .inr ⟨s', 0, h1, h2, h3, fun k _ => h4 k⟩
theorem wrap_id {x : Int} (h0 : -9223372036854775808 ≤ x) (h1 : x ≤ 9223372036854775807) : wrap64 x = x := by
  unfold wrap64; omega
theorem wrap_succ {n : Nat} (h : n ≤ 4611686018427387904) : wrap64 ((n : Int) + 1) = ((n + 1 : Nat) : Int) := by
  rw [wrap_id (by omega) (by omega)]; rfl
theorem rd_nat (xs : List Int) (n : Nat) : rd xs (n : Int) = xs.getD n 0 := by simp [rd]
theorem rd_lt (xs : List Int) (n : Nat) (h : n < xs.length) : rd xs (n : Int) = xs[n] := by simp [rd, h]
theorem ev_neg {α : Type} {c : Prop} [Decidable c] {f g : Nat → Option α} {r : α} (h : ¬ c) (k : Ev g r) : Ev (fun n => if c then f n else g n) r := Ev.congr (fun _ => if_neg h) k
theorem ev_pos {α : Type} {c : Prop} [Decidable c] {f g : Nat → Option α} {r : α} (h : c) (k : Ev f r) : Ev (fun n => if c then f n else g n) r := Ev.congr (fun _ => if_pos h) k
theorem ev_some {α : Type} {r r' : α} (h : r = r') : Ev (fun _ => some r) r' := h ▸ Ev.now r
theorem ev_const {α : Type} {o : Option α} {r : α} (h : o = some r) : Ev (fun _ => o) r := ⟨0, fun _ _ => h⟩
theorem ev_const' {α : Type} {g : Nat → Option α} {r : α} (h : ∀ k, g k = some r) : Ev g r := ⟨0, fun k _ => h k⟩
/-- A function whose first step takes one round. -/
theorem ev_step {α : Type} {g f : Nat → Option α} {r : α} (h : ∀ k, g (k + 1) = f k) (k : Ev f r) : Ev g r := Ev.step h k
theorem idxO_any {α : Type} {f : α → Option Bool} {p : α → Bool} : ∀ (i : Nat) (l : List α), (∀ x ∈ l, f x = some (p x)) → ∃ r, idxO f i l = some r ∧ decide (0 ≤ r) = l.any p
  | i, [], _ => ⟨-1, rfl, rfl⟩
  | i, x :: xs, h => by
    rw [idxO_cons, h x (List.mem_cons_self ..), Option.bind_some]
    cases hp : p x with
    | true => exact ⟨i, by rw [if_pos rfl], by simp [hp]⟩
    | false =>
      obtain ⟨r, h1, h2⟩ := idxO_any (i + 1) xs (fun y hy => h y (List.mem_cons_of_mem _ hy))
      exact ⟨r, by rw [if_neg (by simp)]; exact h1, by rw [h2]; simp [hp]⟩
theorem contO {α : Type} {f : α → Option Bool} {p : α → Bool} (l : List α) (h : ∀ x ∈ l, f x = some (p x)) : (idxO f 0 l).bind (fun i => some (decide (0 ≤ i))) = some (l.any p) := by
  obtain ⟨r, h1, h2⟩ := idxO_any 0 l h
  rw [h1, Option.bind_some, h2]
/-- n numbers from a on. -/
def upFrom (a : Int) : Nat → List Int
  | 0 => []
  | n + 1 => a :: upFrom (a + 1) n
theorem upFrom_length (a : Int) (n : Nat) : (upFrom a n).length = n := by
  induction n generalizing a with
  | zero => rfl
  | succ n ih => simp [upFrom, ih]
theorem upFrom_get (a : Int) (n i : Nat) (h : i < n) : (upFrom a n).getD i 0 = a + i := by
  induction n generalizing a i with
  | zero => omega
  | succ n ih =>
    cases i with
    | zero => simp [upFrom]
    | succ i => simp only [upFrom, List.getD_cons_succ]; rw [ih (a + 1) i (by omega)]; omega
theorem upFrom_snoc (a : Int) (n : Nat) : upFrom a (n + 1) = upFrom a n ++ [a + n] := by
  induction n generalizing a with
  | zero => simp [upFrom]
  | succ n ih => rw [upFrom, ih (a + 1)]; simp [upFrom]; omega
end Go.Proofs.Ytfaagdpopmnnpaa.Lib

/- Permutations of four vertices: what the reference's functions come to, in the words of the program's contracts. -/
namespace Go.Proofs.Ytfaagdpopmnnpaa.P
open Go.RowKit Go.Proofs.YtfaagdpopmnnpaaW.PrintWords Go.Proofs.Ytfaagdpopmnnpaa.Lib
set_option linter.unusedVariables false
theorem inRange_eq (a b c : Int) : impl_inRange.f a b c = some (decide (b ≤ a) && decide (a ≤ c)) := by
  unfold impl_inRange.f
  by_cases h : b ≤ a <;> simp [h]
theorem l07In_eq (a b c : Int) : spec_l07In.f a b c = some (decide (b ≤ a) && decide (a ≤ c)) := by
  unfold spec_l07In.f
  by_cases h : b ≤ a <;> simp [h]
theorem l06Valid_eq (a : Int) : spec_l06Valid.f a = some (decide (0 ≤ a) && decide (a ≤ 23)) := by
  unfold spec_l06Valid.f
  by_cases h : 0 ≤ a
  · rw [if_pos h]; simp [h]; omega
  · rw [if_neg h]; simp [h]
theorem isPerm_eq (a : Int) : impl_isPerm.f a = some (decide (0 ≤ a) && decide (a ≤ 23)) := by
  unfold impl_isPerm.f; rw [inRange_eq]; rfl
/-- A number that is the index of a permutation. -/
theorem fin_of {p : Int} (h0 : 0 ≤ p) (h1 : p ≤ 23) : ∃ m : Fin 24, p = (m.val : Int) := ⟨⟨p.toNat, by omega⟩, by simp; omega⟩
theorem l06Images_ev {p : Int} (h0 : 0 ≤ p) (h1 : p ≤ 23) : Ev (fun k => spec_l06Images.f k p) (permL p) := by
  obtain ⟨m, rfl⟩ := fin_of h0 h1
  have key : ∀ m : Fin 24, spec_l06Images.f 5 (m.val : Int) = some (permL (m.val : Int)) := by decide +kernel
  exact Ev.of (fun k => spec_l06Images.mono _ k) (key m)
theorem permL_len (p : Int) : (permL p).length = 4 := rfl
theorem permL_sm {p f : Int} (h0 : 0 ≤ p) (h1 : p ≤ 23) (hf0 : 0 ≤ f) (hf1 : f ≤ 3) : 0 ≤ rd (permL p) f ∧ rd (permL p) f ≤ 3 := by
  obtain ⟨a, b, c, d⟩ := permAt_sm p h0 h1
  exact rd_four_sm a b c d f hf0 hf1
theorem l06At_ev {p f : Int} (h0 : 0 ≤ p) (h1 : p ≤ 23) (hf0 : 0 ≤ f) (hf1 : f ≤ 3) : Ev (fun k => spec_l06At.f k p f) (rd (permL p) f) := by
  refine Ev.bind (l06Images_ev h0 h1) ?_
  exact ev_pos hf0 (ev_pos (by rw [permL_len]; omega) (Ev.now _))
theorem l06Back_ev {p : Int} (h0 : 0 ≤ p) (h1 : p ≤ 23) : Ev (fun k => spec_l06Back.f k p) (invP p) := by
  obtain ⟨m, rfl⟩ := fin_of h0 h1
  have key : ∀ m : Fin 24, spec_l06Back.f 40 (m.val : Int) = some (invP (m.val : Int)) := by decide +kernel
  exact Ev.of (fun k => spec_l06Back.mono _ k) (key m)
theorem target_eq {q p f : Int} (h0 : 0 ≤ p) (h1 : p ≤ 23) (hf0 : 0 ≤ f) (hf1 : f ≤ 3) : impl_Face_target.f q p f = some (rd (permL p) f) := if_pos ⟨h0, h1, hf0, hf1⟩
theorem partner_eq {q p a : Int} (h0 : 0 ≤ p) (h1 : p ≤ 23) : impl_Face_partner.f q p a = some (a, invP p) := by
  unfold impl_Face_partner.f impl_invert.f
  rw [if_pos ⟨h0, h1⟩]; rfl
end Go.Proofs.Ytfaagdpopmnnpaa.P

/- Valid triangulations: the laws' own functions on triangulations, and IsTriangulation of both sides. -/
namespace Go.Proofs.Ytfaagdpopmnnpaa.P
open Go.RowKit Go.Proofs.YtfaagdpopmnnpaaW.PrintWords Go.Proofs.Ytfaagdpopmnnpaa.Lib
set_option linter.unusedVariables false
abbrev Tri := List (List SFace)
/-- No list of t is longer than a million. -/
def Small (t : Tri) : Prop := t.length ≤ 1048576 ∧ ∀ r ∈ t, r.length ≤ 1048576
def SmallL (t : List (List SLawFace)) : Prop := t.length ≤ 1048576 ∧ ∀ r ∈ t, r.length ≤ 1048576
def Fits (t : List (List SLawFace)) : Prop := t.length ≤ 9223372036854775807 ∧ ∀ r ∈ t, r.length ≤ 9223372036854775807
theorem rd_LLawFace_lt (t : List (List SLawFace)) (n : Nat) (h : n < t.length) : rd_LLawFace t (n : Int) = t[n] := by simp [rd_LLawFace, h]
theorem rd_LFace_lt (t : Tri) (n : Nat) (h : n < t.length) : rd_LFace t (n : Int) = t[n] := by simp [rd_LFace, h]
theorem rd_LawFace_lt (t : List SLawFace) (n : Nat) (h : n < t.length) : rd_LawFace t (n : Int) = t[n] := by simp [rd_LawFace, h]
theorem rd_Face_lt (t : List SFace) (n : Nat) (h : n < t.length) : rd_Face t (n : Int) = t[n] := by simp [rd_Face, h]
theorem szFaceS_eq (r : List SLawFace) (a : Int) (h0 : 0 ≤ a) (h1 : a ≤ 1048576) (h : r.length ≤ 9223372036854775807) : laws_szFaceS.f r a = some (if a - r.length < 0 then -1 else a - r.length) := by
  unfold laws_szFaceS.f
  rw [wrap_id (by omega) (by omega)]
  split <;> rfl
theorem szFaceSS_ev (t : List (List SLawFace)) (h : Fits t) (hl : t.length ≤ 1048576) : ∃ r, Ev (fun k => laws_szFaceSS.l0 k t (1048576 - t.length) 0) r ∧ (0 ≤ r → ∀ x ∈ t, x.length ≤ 1048576) := by
  have key : ∀ d n : Nat, ∀ a : Int, n + d = t.length → 0 ≤ a → a ≤ 1048576 → ∃ r, Ev (fun k => laws_szFaceSS.l0 k t a (n : Int)) r ∧ (0 ≤ r → ∀ x ∈ t.drop n, x.length ≤ 1048576) := by
    intro d
    induction d with
    | zero =>
      intro n a hn h0 h1
      refine ⟨a, ev_step (f := fun _ => some a) (fun k => ?_) (Ev.now a), fun _ x hx => ?_⟩
      · simp only [laws_szFaceSS.l0]; rw [if_neg (by omega)]
      · rw [List.drop_eq_nil_of_le (by omega)] at hx; cases hx
    | succ d ih =>
      intro n a hn h0 h1
      have hlt : n < t.length := by omega
      have hf := h.2 t[n] (List.getElem_mem hlt)
      by_cases hc : a - t[n].length < 0
      · refine ⟨-1, ev_step (f := fun _ => some (-1)) (fun k => ?_) (Ev.now (-1)), fun h => by omega⟩
        simp only [laws_szFaceSS.l0]
        rw [if_pos (by omega), if_pos (by omega), rd_LLawFace_lt t n hlt, szFaceS_eq _ a h0 h1 hf, Option.bind_some, if_pos hc]
        rfl
      · obtain ⟨r, hr, hr2⟩ := ih (n + 1) (a - t[n].length) (by omega) (by omega) (by omega)
        refine ⟨r, ev_step (fun k => ?_) hr, fun h x hx => ?_⟩
        · simp only [laws_szFaceSS.l0]
          rw [if_pos (by omega), if_pos (by omega), rd_LLawFace_lt t n hlt, szFaceS_eq _ a h0 h1 hf, Option.bind_some, if_neg hc, if_neg (by omega), wrap_succ (by omega)]
        · rw [List.drop_eq_getElem_cons hlt] at hx
          rcases List.mem_cons.1 hx with rfl | hx
          · omega
          · exact hr2 h x hx
  obtain ⟨r, hr, hr2⟩ := key t.length 0 (1048576 - t.length) (by omega) (by omega) (by omega)
  exact ⟨r, hr, fun h => by have := hr2 h; rwa [List.drop_zero] at this⟩
theorem szTriangulation_ev (t : List (List SLawFace)) (h : Fits t) : ∃ r, Ev (fun k => laws_szTriangulation.f k t 1048576) r ∧ (¬ r < 0 → SmallL t) := by
  by_cases hl : (1048576 - (t.length : Int)) < 0
  · refine ⟨-1, ?_, fun h => by omega⟩
    refine Ev.bind (a := -1) (ev_const' (fun k => ?_)) (ev_pos (by omega) (Ev.now _))
    unfold laws_szFaceSS.f
    have := h.1
    rw [wrap_id (by omega) (by omega), if_pos hl]
  · obtain ⟨r, hr, hr2⟩ := szFaceSS_ev t h (by omega)
    have h2 : Ev (fun k => laws_szFaceSS.f k t 1048576) r := by
      refine Ev.congr (fun k => ?_) hr
      unfold laws_szFaceSS.f
      rw [wrap_id (by omega) (by omega), if_neg hl]
    by_cases hn : r < 0
    · exact ⟨-1, Ev.bind h2 (ev_pos hn (Ev.now _)), fun h => by omega⟩
    · exact ⟨r, Ev.bind h2 (ev_neg hn (Ev.now _)), fun _ => ⟨by omega, hr2 (by omega)⟩⟩
/-- The copies of the law's values. -/
def cvF (x : SLawFace) : SFace := ⟨x.f0, x.f1⟩
def cvR (r : List SLawFace) : List SFace := r.map cvF
def cvT (t : List (List SLawFace)) : Tri := t.map cvR
theorem cvT_small {t : List (List SLawFace)} (h : SmallL t) : Small (cvT t) := by
  refine ⟨by simp [cvT]; exact h.1, fun r hr => ?_⟩
  obtain ⟨s, hs, rfl⟩ := List.mem_map.1 hr
  simp [cvR]; exact h.2 s hs
theorem map_take_set {α β : Type} (f : α → β) (l : List α) (z : β) (n : Nat) (h : n < l.length) :
    ((l.take n).map f ++ List.replicate (l.length - n) z).set n (f l[n]) = (l.take (n + 1)).map f ++ List.replicate (l.length - (n + 1)) z := by
  have e : l.length - n = (l.length - (n + 1)) + 1 := by omega
  rw [e, List.replicate_succ, List.set_append_right _ _ (by simp; omega)]
  have : n - ((l.take n).map f).length = 0 := by simp; omega
  rw [this, List.set_cons_zero, List.take_succ_eq_append_getElem h, List.map_append, List.append_assoc]
  rfl
theorem toFaceS_ev (l : List SLawFace) (h : l.length ≤ 1048576) : Ev (fun k => laws_toFaceS.f k l) (cvR l) := by
  have hl : Ev (fun k => laws_toFaceS.l0 k l (List.replicate l.length zFace) 0) (cvR l) := by
    refine ev_loop0 (fun k (s : List SFace × Int) => laws_toFaceS.l0 k l s.1 s.2) (fun s => ∃ n : Nat, n ≤ l.length ∧ s.2 = n ∧ s.1 = (l.take n).map cvF ++ List.replicate (l.length - n) zFace) (fun s => l.length - s.2.toNat) (fun _ => cvR l) ?_ (List.replicate l.length zFace, 0) ⟨0, by omega, rfl, by simp⟩
    rintro ⟨a, i⟩ ⟨n, hn, rfl, rfl⟩
    dsimp only
    by_cases hlt : n < l.length
    · refine .inr ⟨((l.take (n + 1)).map cvF ++ List.replicate (l.length - (n + 1)) zFace, ((n + 1 : Nat) : Int)), ⟨n + 1, by omega, rfl, rfl⟩, by simp; omega, rfl, fun k => ?_⟩
      simp only [laws_toFaceS.l0, laws_toFace.f, Option.bind_some]
      rw [if_pos (by omega), if_pos (by omega), if_pos (by simp; omega), wrap_succ (by omega), Int.toNat_natCast, rd_LawFace_lt l n hlt]
      have := map_take_set cvF l zFace n hlt
      rw [← this]
      rfl
    · obtain rfl : n = l.length := by omega
      refine .inl fun k => ?_
      simp only [laws_toFaceS.l0]
      rw [if_neg (by omega)]
      simp [cvR]
  refine Ev.congr (fun k => ?_) hl
  unfold laws_toFaceS.f
  rw [if_pos (by omega), if_pos (by simp; omega), Int.toNat_natCast]
theorem toFaceSS_ev (l : List (List SLawFace)) (h : SmallL l) : Ev (fun k => laws_toFaceSS.f k l) (cvT l) := by
  have hl : Ev (fun k => laws_toFaceSS.l0 k l (List.replicate l.length []) 0) (cvT l) := by
    refine ev_loop (fun k (s : Tri × Int) => laws_toFaceSS.l0 k l s.1 s.2) (fun s => ∃ n : Nat, n ≤ l.length ∧ s.2 = n ∧ s.1 = (l.take n).map cvR ++ List.replicate (l.length - n) []) (fun s => l.length - s.2.toNat) (fun _ => cvT l) ?_ (List.replicate l.length [], 0) ⟨0, by omega, rfl, by simp⟩
    rintro ⟨a, i⟩ ⟨n, hn, rfl, rfl⟩
    dsimp only
    by_cases hlt : n < l.length
    · obtain ⟨K, hK⟩ := toFaceS_ev l[n] (h.2 _ (List.getElem_mem hlt))
      refine .inr ⟨((l.take (n + 1)).map cvR ++ List.replicate (l.length - (n + 1)) [], ((n + 1 : Nat) : Int)), K, ⟨n + 1, by omega, rfl, rfl⟩, by simp; omega, rfl, fun k hk => ?_⟩
      have e : laws_toFaceS.f k l[n] = some _ := hK k hk
      have h1 := h.1
      simp only [laws_toFaceSS.l0]
      rw [if_pos (by omega), if_pos (by omega), rd_LLawFace_lt l n hlt, e, Option.bind_some, if_pos (by simp; omega), wrap_succ (by omega), Int.toNat_natCast, map_take_set cvR l [] n hlt]
    · obtain rfl : n = l.length := by omega
      refine .inl ⟨0, fun k _ => ?_⟩
      simp only [laws_toFaceSS.l0]
      rw [if_neg (by omega)]
      simp [cvT]
  have h1 := h.1
  refine Ev.congr (fun k => ?_) hl
  unfold laws_toFaceSS.f
  rw [if_pos (by omega), if_pos (by simp; omega), Int.toNat_natCast]
theorem toTriangulation_ev (l : List (List SLawFace)) (h : SmallL l) : Ev (fun k => laws_toTriangulation.f k l) (cvT l) := Ev.bind (toFaceSS_ev l h) (Ev.now _)
theorem eqFaceS_ev (l : List SFace) (h : l.length ≤ 1048576) : Ev (fun k => laws_eqFaceS.f k l l) true := by
  have hl : Ev (fun k => laws_eqFaceS.l0 k l l 0) true := by
    refine ev_loop0 (fun k (s : Int) => laws_eqFaceS.l0 k l l s) (fun s => ∃ n : Nat, n ≤ l.length ∧ s = n) (fun s => l.length - s.toNat) (fun _ => true) ?_ 0 ⟨0, by omega, rfl⟩
    rintro i ⟨n, hn, rfl⟩
    by_cases hlt : n < l.length
    · refine .inr ⟨((n + 1 : Nat) : Int), ⟨n + 1, by omega, rfl⟩, by simp; omega, rfl, fun k => ?_⟩
      simp only [laws_eqFaceS.l0, laws_eqFace.f]
      rw [if_pos (by omega), if_pos (by omega), if_pos (by omega), if_pos trivial, if_pos trivial, Option.bind_some, if_pos rfl, wrap_succ (by omega)]
    · refine .inl fun k => ?_
      simp only [laws_eqFaceS.l0]
      rw [if_neg (by omega)]
  refine Ev.congr (fun k => ?_) hl
  unfold laws_eqFaceS.f
  rw [if_pos rfl]
theorem eqTriangulation_ev (l : Tri) (h : Small l) : Ev (fun k => laws_eqTriangulation.f k l l) true := by
  have hl : Ev (fun k => laws_eqFaceSS.l0 k l l 0) true := by
    refine ev_loop (fun k (s : Int) => laws_eqFaceSS.l0 k l l s) (fun s => ∃ n : Nat, n ≤ l.length ∧ s = n) (fun s => l.length - s.toNat) (fun _ => true) ?_ 0 ⟨0, by omega, rfl⟩
    rintro i ⟨n, hn, rfl⟩
    by_cases hlt : n < l.length
    · obtain ⟨K, hK⟩ := eqFaceS_ev l[n] (h.2 _ (List.getElem_mem hlt))
      refine .inr ⟨((n + 1 : Nat) : Int), K, ⟨n + 1, by omega, rfl⟩, by simp; omega, rfl, fun k hk => ?_⟩
      have e : laws_eqFaceS.f k l[n] l[n] = some _ := hK k hk
      have h1 := h.1
      simp only [laws_eqFaceSS.l0]
      rw [if_pos (by omega), if_pos (by omega), if_pos (by omega), rd_LFace_lt l n hlt, e, Option.bind_some, if_pos rfl, wrap_succ (by omega)]
    · refine .inl ⟨0, fun k _ => ?_⟩
      simp only [laws_eqFaceSS.l0]
      rw [if_neg (by omega)]
  have h2 : Ev (fun k => laws_eqFaceSS.f k l l) true := by
    refine Ev.congr (fun k => ?_) hl
    unfold laws_eqFaceSS.f
    rw [if_pos rfl]
  exact Ev.bind h2 (ev_pos rfl (Ev.now _))
end Go.Proofs.Ytfaagdpopmnnpaa.P

/- IsTriangulation of both sides comes to one plain test. -/
namespace Go.Proofs.Ytfaagdpopmnnpaa.P
open Go.RowKit Go.Proofs.YtfaagdpopmnnpaaW.PrintWords Go.Proofs.Ytfaagdpopmnnpaa.Lib
set_option linter.unusedVariables false
/-- The face f of the tetrahedron a. -/
abbrev fc (t : Tri) (a f : Int) : SFace := rd_Face (rd_LFace t a) f
/-- Is a face as in a valid triangulation? -/
def goodF (t : Tri) (a f : Int) : Bool :=
  if (fc t a f).f0 = -1 then (fc t a f).f1 == 0
  else if 0 ≤ (fc t a f).f0 ∧ (fc t a f).f0 < (t.length : Int) ∧ 0 ≤ (fc t a f).f1 ∧ (fc t a f).f1 ≤ 23 then
    ((fc t (fc t a f).f0 (rd (permL (fc t a f).f1) f)).f0 == a && (fc t (fc t a f).f0 (rd (permL (fc t a f).f1) f)).f1 == invP (fc t a f).f1) && !((fc t a f).f0 == a && rd (permL (fc t a f).f1) f == f)
  else false
/-- d faces of a from f on are good. -/
def goodFs (t : Tri) (a : Int) : Int → Nat → Bool
  | _, 0 => true
  | f, d + 1 => goodF t a f && goodFs t a (f + 1) d
/-- d tetrahedra from a on are good. -/
def goodTs (t : Tri) : Int → Nat → Bool
  | _, 0 => true
  | a, d + 1 => goodFs t a 0 4 && goodTs t (a + 1) d
/-- A valid triangulation. -/
def isTri (t : Tri) : Bool := decide (t.length ≤ 8) && (t.all (fun r => decide (r.length = 4)) && goodTs t 0 t.length)
section
variable {t : Tri}
theorem row4 (h4 : ∀ r ∈ t, r.length = 4) {a : Int} (h0 : 0 ≤ a) (h1 : a < t.length) : (rd_LFace t a).length = 4 := by
  obtain ⟨n, rfl⟩ := Int.eq_ofNat_of_zero_le h0
  rw [rd_LFace_lt t n (by omega)]
  exact h4 _ (List.getElem_mem _)
theorem impl_isGood_ev (h4 : ∀ r ∈ t, r.length = 4) (hn : t.length ≤ 8) {a f : Int} (h0 : 0 ≤ a) (h1 : a < t.length) (hf0 : 0 ≤ f) (hf1 : f ≤ 3) : Ev (fun k => impl_Triangulation_isGood.f k t a f) (goodF t a f) := by
  have hr := row4 h4 h0 h1
  refine Ev.congr (fun k => by unfold impl_Triangulation_isGood.f; rw [if_pos h0, if_pos h1, if_pos hf0, if_pos (by omega)]) ?_
  change Ev (fun k => if (fc t a f).f0 = -1 then some ((fc t a f).f1 == 0) else _) (goodF t a f)
  unfold goodF
  by_cases hb : (fc t a f).f0 = -1
  · rw [if_pos hb]; exact ev_pos hb (Ev.now _)
  · refine ev_neg hb ?_
    rw [if_neg hb]
    have hix : impl_hasIndex_Simpl_Face.f t (fc t a f).f0 = some (decide (0 ≤ (fc t a f).f0) && decide ((fc t a f).f0 ≤ (t.length : Int) - 1)) := by
      unfold impl_hasIndex_Simpl_Face.f impl_size_Simpl_Face.f
      rw [Option.bind_some, wrap_id (by omega) (by omega), inRange_eq]; rfl
    have hfalse : Ev (fun k => impl_Triangulation_isGood.j0 k a f true t (fc t a f).f0 (fc t a f).f1) false := ev_step (fun k => by rw [impl_Triangulation_isGood.j0, if_pos rfl]) (Ev.now false)
    refine Ev.bind (ev_const hix) ?_
    by_cases hi : 0 ≤ (fc t a f).f0 ∧ (fc t a f).f0 < (t.length : Int)
    · refine ev_pos (by simp; omega) ?_
      refine Ev.bind (ev_const (isPerm_eq _)) ?_
      by_cases hp : 0 ≤ (fc t a f).f1 ∧ (fc t a f).f1 ≤ 23
      · rw [if_pos ⟨hi.1, hi.2, hp.1, hp.2⟩]
        have e : (!(decide (0 ≤ (fc t a f).f1) && decide ((fc t a f).f1 ≤ 23))) = false := by simp [hp]
        rw [e]
        refine ev_step (fun k => by rw [impl_Triangulation_isGood.j0, if_neg (by simp), target_eq hp.1 hp.2 hf0 hf1, Option.bind_some]) ?_
        obtain ⟨hg0, hg1⟩ := permL_sm hp.1 hp.2 hf0 hf1
        have hr2 := row4 h4 hi.1 hi.2
        refine ev_pos hi.1 (ev_pos hi.2 (ev_pos hg0 (ev_pos (by rw [hr2]; omega) ?_)))
        refine Ev.bind (ev_const (partner_eq hp.1 hp.2)) ?_
        change Ev (fun k => if ((fc t (fc t a f).f0 (rd (permL (fc t a f).f1) f)).f0 == a && (fc t (fc t a f).f0 (rd (permL (fc t a f).f1) f)).f1 == invP (fc t a f).f1) = true then _ else _) _
        generalize ((fc t (fc t a f).f0 (rd (permL (fc t a f).f1) f)).f0 == a && (fc t (fc t a f).f0 (rd (permL (fc t a f).f1) f)).f1 == invP (fc t a f).f1) = b
        cases b with
        | false => refine ev_neg (by simp) ?_; rw [Bool.false_and]; exact Ev.now false
        | true =>
          refine ev_pos rfl ?_
          rw [Bool.true_and]
          by_cases ha : (fc t a f).f0 = a
          · refine ev_pos ha (ev_some ?_)
            rw [ha]; simp [bne]
          · refine ev_neg ha (ev_some ?_)
            simp [ha]
      · rw [if_neg (by omega)]
        have e : (!(decide (0 ≤ (fc t a f).f1) && decide ((fc t a f).f1 ≤ 23))) = true := by
          rw [Bool.not_eq_true', Bool.and_eq_false_iff, decide_eq_false_iff_not, decide_eq_false_iff_not]; omega
        rw [e]
        exact hfalse
    · rw [if_neg (by omega)]
      refine ev_neg ?_ hfalse
      rw [Bool.and_eq_true, decide_eq_true_eq, decide_eq_true_eq]; omega
theorem impl_l1_ev (h4 : ∀ r ∈ t, r.length = 4) (hn : t.length ≤ 8) {a : Int} (h0 : 0 ≤ a) (h1 : a < t.length) {R : Bool} (hR : Ev (fun k => impl_isTriangulation.l0 k (t.length : Int) (a + 1) t) R) :
    ∀ (d : Nat) (f : Int), 0 ≤ f → f + d = 4 → Ev (fun k => impl_isTriangulation.l1 k a (t.length : Int) a f t) (goodFs t a f d && R)
  | 0, f, hf, he => by
    refine ev_step (fun k => by rw [impl_isTriangulation.l1, if_neg (by omega), wrap_id (by omega) (by omega)]) ?_
    rw [goodFs, Bool.true_and]; exact hR
  | d + 1, f, hf, he => by
    refine ev_step (fun k => by rw [impl_isTriangulation.l1, if_pos (by omega)]) ?_
    refine Ev.bind (impl_isGood_ev h4 hn h0 h1 hf (by omega)) ?_
    rw [goodFs]
    cases hg : goodF t a f with
    | false => exact ev_neg (by simp) (by rw [Bool.false_and, Bool.false_and]; exact Ev.now false)
    | true =>
      refine ev_pos rfl ?_
      rw [Bool.true_and]
      exact Ev.congr (fun k => by rw [wrap_id (by omega) (by omega)]) (impl_l1_ev h4 hn h0 h1 hR d (f + 1) (by omega) (by omega))
theorem impl_l0_ev (h4 : ∀ r ∈ t, r.length = 4) (hn : t.length ≤ 8) : ∀ (d : Nat) (a : Int), 0 ≤ a → a + d = t.length → Ev (fun k => impl_isTriangulation.l0 k (t.length : Int) a t) (goodTs t a d)
  | 0, a, ha, he => by
    refine ev_step (fun k => by rw [impl_isTriangulation.l0, if_neg (by omega)]) ?_
    exact Ev.now true
  | d + 1, a, ha, he => by
    refine ev_step (fun k => by rw [impl_isTriangulation.l0, if_pos (by omega)]) ?_
    rw [goodTs]
    exact impl_l1_ev h4 hn ha (by omega) (impl_l0_ev h4 hn d (a + 1) (by omega) (by omega)) 4 0 (by omega) (by omega)
theorem all4_iff : t.all (fun r => decide (r.length = 4)) = true ↔ ∀ r ∈ t, r.length = 4 := by simp
theorem contains4 (h : Small t) : slices_ContainsFunc_SSimpl_Face_at_impl_isTriangulation_1.f t = some (!(t.all fun r => decide (r.length = 4))) := by
  unfold slices_ContainsFunc_SSimpl_Face_at_impl_isTriangulation_1.f slices_IndexFunc_SSimpl_Face_at_impl_isTriangulation_1.f
  rw [contO (p := fun r => !(decide (r.length = 4))) t (fun r _ => by
    show impl_isTriangulation_1.f r = _
    unfold impl_isTriangulation_1.f
    congr 1
    by_cases h : r.length = 4
    · simp [h]
    · have : ¬ ((r.length : Int) = 4) := by omega
      simp [h, this]), List.not_all_eq_any_not]
theorem impl_isTri_ev (h : Small t) : Ev (fun k => impl_isTriangulation.f k t) (isTri t) := by
  have hfalse : Ev (fun k => impl_isTriangulation.j0 k true t) false := ev_step (fun k => by rw [impl_isTriangulation.j0, if_pos rfl]) (Ev.now false)
  unfold isTri
  by_cases h8 : t.length ≤ 8
  · refine Ev.congr (fun k => by unfold impl_isTriangulation.f; rw [if_neg (by omega), contains4 h, Option.bind_some]) ?_
    rw [decide_eq_true h8, Bool.true_and]
    cases hall : t.all (fun r => decide (r.length = 4)) with
    | false => rw [Bool.false_and]; exact hfalse
    | true =>
      rw [Bool.true_and]
      refine ev_step (fun k => by rw [impl_isTriangulation.j0, if_neg (by simp)]) ?_
      exact impl_l0_ev (all4_iff.1 hall) h8 t.length 0 (by omega) (by omega)
  · refine Ev.congr (fun k => by unfold impl_isTriangulation.f; rw [if_pos (by omega)]) ?_
    rw [decide_eq_false h8, Bool.false_and]; exact hfalse
theorem spec_l2_ev (h4 : ∀ r ∈ t, r.length = 4) (hn : t.length ≤ 8) {a : Int} (h0 : 0 ≤ a) (h1 : a < t.length) {R : Bool} (hR : Ev (fun k => spec_IsTriangulation.l1 k (a + 1) t) R) :
    ∀ (d : Nat) (f : Int), 0 ≤ f → f + d = 4 → Ev (fun k => spec_IsTriangulation.l2 k a f t) (goodFs t a f d && R)
  | 0, f, hf, he => by
    refine ev_step (fun k => by rw [spec_IsTriangulation.l2, if_neg (by omega), wrap_id (by omega) (by omega)]) ?_
    rw [goodFs, Bool.true_and]; exact hR
  | d + 1, f, hf, he => by
    have hr := row4 h4 h0 h1
    have ih : Ev (fun k => spec_IsTriangulation.l2 k a (wrap64 (f + 1)) t) (goodFs t a (f + 1) d && R) := Ev.congr (fun k => by rw [wrap_id (by omega) (by omega)]) (spec_l2_ev h4 hn h0 h1 hR d (f + 1) (by omega) (by omega))
    refine ev_step (fun k => by rw [spec_IsTriangulation.l2, if_pos (by omega), if_pos h0, if_pos h1, if_pos hf, if_pos (by omega)]) ?_
    change Ev (fun k => if (fc t a f).f0 = -1 then spec_IsTriangulation.j3 k a f ((fc t a f).f1 == 0) t (fc t a f).f0 (fc t a f).f1 else spec_IsTriangulation.j3 k a f false t (fc t a f).f0 (fc t a f).f1) _
    rw [goodFs]
    have hstop : ∀ b, Ev (fun k => spec_IsTriangulation.j4 k a f true t (fc t a f).f0 (fc t a f).f1) (false && b) := fun b => by
      rw [Bool.false_and]; exact ev_step (fun k => by rw [spec_IsTriangulation.j4, if_pos rfl]) (Ev.now false)
    have hgo : Ev (fun k => spec_IsTriangulation.j3 k a f true t (fc t a f).f0 (fc t a f).f1) (goodFs t a (f + 1) d && R) := ev_step (fun k => by rw [spec_IsTriangulation.j3, if_pos rfl]) ih
    have hrest : (¬ ((fc t a f).f0 = -1 ∧ (fc t a f).f1 = 0)) → Ev (fun k => spec_IsTriangulation.j3 k a f false t (fc t a f).f0 (fc t a f).f1) (goodF t a f && goodFs t a (f + 1) d && R) := by
      intro hnb
      refine ev_step (fun k => by rw [spec_IsTriangulation.j3, spec_l07Tets.f, if_neg (by simp), Option.bind_some, l07In_eq, Option.bind_some, wrap_id (by omega) (by omega)]) ?_
      unfold goodF
      by_cases hi : 0 ≤ (fc t a f).f0 ∧ (fc t a f).f0 < (t.length : Int)
      · refine ev_pos (by simp; omega) ?_
        refine Ev.bind (ev_const (l06Valid_eq _)) ?_
        rw [if_neg (by omega)]
        by_cases hp : 0 ≤ (fc t a f).f1 ∧ (fc t a f).f1 ≤ 23
        · rw [if_pos ⟨hi.1, hi.2, hp.1, hp.2⟩]
          have e : (!(decide (0 ≤ (fc t a f).f1) && decide ((fc t a f).f1 ≤ 23))) = false := by simp [hp]
          rw [e]
          obtain ⟨hg0, hg1⟩ := permL_sm hp.1 hp.2 hf (by omega)
          have hr2 := row4 h4 hi.1 hi.2
          refine ev_step (fun k => by rw [spec_IsTriangulation.j4, if_neg (by simp)]) ?_
          refine Ev.bind (l06At_ev hp.1 hp.2 hf (by omega)) ?_
          refine Ev.bind (l06Back_ev hp.1 hp.2) ?_
          refine ev_pos hi.1 (ev_pos hi.2 (ev_pos hg0 (ev_pos (by rw [hr2]; omega) ?_)))
          change Ev (fun k => if (!((fc t (fc t a f).f0 (rd (permL (fc t a f).f1) f)).f0 == a) || !((fc t (fc t a f).f0 (rd (permL (fc t a f).f1) f)).f1 == invP (fc t a f).f1)) = true then _ else _) _
          generalize ((fc t (fc t a f).f0 (rd (permL (fc t a f).f1) f)).f0 == a) = b1
          generalize ((fc t (fc t a f).f0 (rd (permL (fc t a f).f1) f)).f1 == invP (fc t a f).f1) = b2
          cases b1 with
          | false => exact ev_pos rfl (by rw [Bool.false_and, Bool.false_and, Bool.false_and, Bool.false_and]; exact Ev.now false)
          | true =>
            cases b2 with
            | false => exact ev_pos rfl (by rw [Bool.true_and, Bool.false_and, Bool.false_and, Bool.false_and]; exact Ev.now false)
            | true =>
              refine ev_neg (by simp) ?_
              rw [Bool.true_and, Bool.true_and]
              by_cases ha : (fc t a f).f0 = a
              · refine ev_pos ha ?_
                by_cases hg : rd (permL (fc t a f).f1) f = f
                · refine ev_pos hg ?_
                  rw [ha, hg]
                  simp
                  exact Ev.now false
                · refine ev_neg hg ?_
                  have : (rd (permL (fc t a f).f1) f == f) = false := by simp [hg]
                  rw [this, Bool.and_false, Bool.not_false, Bool.true_and]
                  exact ih
              · refine ev_neg ha ?_
                have : ((fc t a f).f0 == a) = false := by simp [ha]
                rw [this, Bool.false_and, Bool.not_false, Bool.true_and]
                exact ih
        · rw [if_neg (by omega)]
          have e : (!(decide (0 ≤ (fc t a f).f1) && decide ((fc t a f).f1 ≤ 23))) = true := by
            rw [Bool.not_eq_true', Bool.and_eq_false_iff, decide_eq_false_iff_not, decide_eq_false_iff_not]; omega
          rw [e, Bool.false_and]
          exact hstop R
      · have hg : (if (fc t a f).f0 = -1 then ((fc t a f).f1 == 0) else if 0 ≤ (fc t a f).f0 ∧ (fc t a f).f0 < (t.length : Int) ∧ 0 ≤ (fc t a f).f1 ∧ (fc t a f).f1 ≤ 23 then
            ((fc t (fc t a f).f0 (rd (permL (fc t a f).f1) f)).f0 == a && (fc t (fc t a f).f0 (rd (permL (fc t a f).f1) f)).f1 == invP (fc t a f).f1) && !((fc t a f).f0 == a && rd (permL (fc t a f).f1) f == f) else false) = false := by
          by_cases hb : (fc t a f).f0 = -1
          · rw [if_pos hb]; simp; intro h; exact hnb ⟨hb, h⟩
          · rw [if_neg hb, if_neg (by omega)]
        rw [hg, Bool.false_and]
        refine ev_neg ?_ (hstop R)
        rw [Bool.and_eq_true, decide_eq_true_eq, decide_eq_true_eq]; omega
    by_cases hb : (fc t a f).f0 = -1
    · refine ev_pos hb ?_
      by_cases h0' : (fc t a f).f1 = 0
      · have e : goodF t a f = true := by unfold goodF; rw [if_pos hb]; simp [h0']
        rw [e, Bool.true_and]
        have e2 : ((fc t a f).f1 == 0) = true := by simp [h0']
        rw [e2]; exact hgo
      · have e2 : ((fc t a f).f1 == 0) = false := by simp [h0']
        rw [e2]; exact hrest (fun h => h0' h.2)
    · exact ev_neg hb (hrest (fun h => hb h.1))
theorem spec_l1_ev (h4 : ∀ r ∈ t, r.length = 4) (hn : t.length ≤ 8) : ∀ (d : Nat) (a : Int), 0 ≤ a → a + d = t.length → Ev (fun k => spec_IsTriangulation.l1 k a t) (goodTs t a d)
  | 0, a, ha, he => by
    refine ev_step (fun k => by rw [spec_IsTriangulation.l1, spec_l07Tets.f, Option.bind_some, if_neg (by omega)]) ?_
    exact Ev.now true
  | d + 1, a, ha, he => by
    refine ev_step (fun k => by rw [spec_IsTriangulation.l1, spec_l07Tets.f, Option.bind_some, if_pos (by omega)]) ?_
    rw [goodTs]
    exact spec_l2_ev h4 hn ha (by omega) (spec_l1_ev h4 hn d (a + 1) (by omega) (by omega)) 4 0 (by omega) (by omega)
theorem spec_l0_ev (h8 : t.length ≤ 8) (d : Nat) : ∀ n : Nat, n + d = t.length → (t.all (fun r => decide (r.length = 4)) = (t.drop n).all (fun r => decide (r.length = 4))) → Ev (fun k => spec_IsTriangulation.l0 k (n : Int) t) (t.all (fun r => decide (r.length = 4)) && goodTs t 0 t.length) := by
  induction d with
  | zero =>
    intro n hn ha
    refine ev_step (fun k => by rw [spec_IsTriangulation.l0, if_neg (by omega)]) ?_
    have hall : t.all (fun r => decide (r.length = 4)) = true := by rw [ha, List.drop_eq_nil_of_le (by omega)]; rfl
    rw [hall, Bool.true_and]
    exact spec_l1_ev (all4_iff.1 hall) h8 t.length 0 (by omega) (by omega)
  | succ d ih =>
    intro n hn ha
    have hlt : n < t.length := by omega
    refine ev_step (fun k => by rw [spec_IsTriangulation.l0, if_pos (by omega), if_pos (by omega), rd_LFace_lt t n hlt]) ?_
    rw [List.drop_eq_getElem_cons hlt, List.all_cons] at ha
    by_cases h : t[n].length = 4
    · refine ev_pos (by omega) ?_
      refine Ev.congr (fun k => by rw [wrap_succ (by omega)]) (ih (n + 1) (by omega) ?_)
      rw [ha, decide_eq_true h, Bool.true_and]
    · refine ev_neg (by omega) ?_
      rw [ha, decide_eq_false h, Bool.false_and, Bool.false_and]
      exact Ev.now false
theorem spec_isTri_ev (t : Tri) : Ev (fun k => spec_IsTriangulation.f k t) (isTri t) := by
  refine Ev.congr (fun k => by unfold spec_IsTriangulation.f spec_l07Tets.f; rw [Option.bind_some]) ?_
  unfold isTri
  by_cases h8 : t.length ≤ 8
  · refine ev_neg (by omega) ?_
    rw [decide_eq_true h8, Bool.true_and]
    exact spec_l0_ev h8 t.length 0 (by omega) (by rw [List.drop_zero])
  · refine ev_pos (by omega) ?_
    rw [decide_eq_false h8, Bool.false_and]
    exact Ev.now false
end
end Go.Proofs.Ytfaagdpopmnnpaa.P

-- Printed by a program of this session (drv.py), by means of the kit's print.py.
namespace Go.Proofs.Ytfaagdpopmnnpaa.P
open Go.RowKit Go.Proofs.YtfaagdpopmnnpaaW.PrintWords Go.Proofs.YtfaagdpopmnnpaaW.PrintLast Go.Proofs.YtfaagdpopmnnpaaW.PrintMore
attribute [local go_sem] max2_int min2_int max_two min_two max_three min_three max_four min_four   -- for this text's walks alone
set_option linter.unusedVariables false
set_option linter.unusedSimpArgs false
/-! ### spec_l07Boundary: function 137 -/
mutual
def spec_l07Boundary.l0 : Nat → List (List Int) → Int → List (List (SFace)) → Option ((List (List Int)))
  | 0, _, _, _ => none
  | k + 1, x3, x4, x102000 => if x4 < (x102000.length : Int) then (spec_l07Boundary.l1 k x3 x4 0 x102000) else (some x3)
def spec_l07Boundary.l1 : Nat → List (List Int) → Int → Int → List (List (SFace)) → Option ((List (List Int)))
  | 0, _, _, _, _ => none
  | k + 1, x3, x4, x5, x102000 => if x5 < 4 then (if 0 ≤ x4 then (if x4 < (x102000.length : Int) then (if 0 ≤ x5 then (if x5 < ((rd_LFace x102000 x4).length : Int) then (if ((rd_Face (rd_LFace x102000 x4) x5).f0) < 0 then (if x3.length < 5864062014805 then (spec_l07Boundary.l1 k (x3 ++ [(([x4, x5] : List Int))]) x4 (wrap64 (x5 + 1)) x102000) else (none)) else (spec_l07Boundary.l1 k x3 x4 (wrap64 (x5 + 1)) x102000)) else (none)) else (none)) else (none)) else (none)) else (spec_l07Boundary.l0 k x3 (wrap64 (x4 + 1)) x102000)
end
theorem spec_l07Boundary.mono_l : ∀ k, (∀ y0 y1 y2, LeO (spec_l07Boundary.l0 k y0 y1 y2) (spec_l07Boundary.l0 (k + 1) y0 y1 y2)) ∧ (∀ y0 y1 y2 y3, LeO (spec_l07Boundary.l1 k y0 y1 y2 y3) (spec_l07Boundary.l1 (k + 1) y0 y1 y2 y3))
  | 0 => ⟨fun _ _ _ r h => by simp [spec_l07Boundary.l0] at h, fun _ _ _ _ r h => by simp [spec_l07Boundary.l1] at h⟩
  | k + 1 => by
    obtain ⟨ih0, ih1⟩ := spec_l07Boundary.mono_l k
    refine ⟨?_, ?_⟩
    · intro y0 y1 y2
      unfold spec_l07Boundary.l0
      repeat' first
      | (with_reducible exact ih0 _ _ _)
      | (with_reducible exact ih1 _ _ _ _)
      | (with_reducible exact LeO.refl _)
      | (with_reducible exact LeO.none _)
      | (with_reducible refine LeO.ite ?_ ?_)
      | (with_reducible refine LeO.bind ?_ (fun _ => ?_))
      | exact ih0 _ _ _
      | exact ih1 _ _ _ _
      | exact LeO.none _
      | refine LeO.ite ?_ ?_
      | refine LeO.bind ?_ (fun _ => ?_)
    · intro y0 y1 y2 y3
      unfold spec_l07Boundary.l1
      repeat' first
      | (with_reducible exact ih0 _ _ _)
      | (with_reducible exact ih1 _ _ _ _)
      | (with_reducible exact LeO.refl _)
      | (with_reducible exact LeO.none _)
      | (with_reducible refine LeO.ite ?_ ?_)
      | (with_reducible refine LeO.bind ?_ (fun _ => ?_))
      | exact ih0 _ _ _
      | exact ih1 _ _ _ _
      | exact LeO.none _
      | refine LeO.ite ?_ ?_
      | refine LeO.bind ?_ (fun _ => ?_)
end Go.Proofs.Ytfaagdpopmnnpaa.P

-- Printed by a program of this session (drv.py), by means of the kit's print.py.
namespace Go.Proofs.Ytfaagdpopmnnpaa.P
open Go.RowKit Go.Proofs.YtfaagdpopmnnpaaW.PrintWords Go.Proofs.YtfaagdpopmnnpaaW.PrintLast Go.Proofs.YtfaagdpopmnnpaaW.PrintMore
attribute [local go_sem] max2_int min2_int max_two min_two max_three min_three max_four min_four   -- for this text's walks alone
set_option linter.unusedVariables false
set_option linter.unusedSimpArgs false
/-! ### impl_Triangulation_boundaryFaces: function 138 -/
mutual
def impl_Triangulation_boundaryFaces.l0 : Nat → List (List Int) → List (List (SFace)) → Int → Int → Option ((List (List Int)))
  | 0, _, _, _, _ => none
  | k + 1, x3, x9, x10, x11 => if x11 < x10 then (if 0 ≤ x11 then (if x11 < (x9.length : Int) then (impl_Triangulation_boundaryFaces.l1 k x3 x11 x9 x10 x11 (rd_LFace x9 x11) ((rd_LFace x9 x11).length : Int) 0) else (none)) else (none)) else (some x3)
def impl_Triangulation_boundaryFaces.l1 : Nat → List (List Int) → Int → List (List (SFace)) → Int → Int → List (SFace) → Int → Int → Option ((List (List Int)))
  | 0, _, _, _, _, _, _, _, _ => none
  | k + 1, x3, x4, x9, x10, x11, x16, x17, x18 => if x18 < x17 then (if 0 ≤ x18 then (if x18 < (x16.length : Int) then ((impl_Face_isBoundary.f ((rd_Face x16 x18).f0) ((rd_Face x16 x18).f1)).bind fun t105 => (if t105 = true then (if x3.length < 5864062014805 then (impl_Triangulation_boundaryFaces.l1 k (x3 ++ [(([x4, x18] : List Int))]) x4 x9 x10 x11 x16 x17 (wrap64 (x18 + 1))) else (none)) else (impl_Triangulation_boundaryFaces.l1 k x3 x4 x9 x10 x11 x16 x17 (wrap64 (x18 + 1))))) else (none)) else (none)) else (impl_Triangulation_boundaryFaces.l0 k x3 x9 x10 (wrap64 (x11 + 1)))
end
theorem impl_Triangulation_boundaryFaces.mono_l : ∀ k, (∀ y0 y1 y2 y3, LeO (impl_Triangulation_boundaryFaces.l0 k y0 y1 y2 y3) (impl_Triangulation_boundaryFaces.l0 (k + 1) y0 y1 y2 y3)) ∧ (∀ y0 y1 y2 y3 y4 y5 y6 y7, LeO (impl_Triangulation_boundaryFaces.l1 k y0 y1 y2 y3 y4 y5 y6 y7) (impl_Triangulation_boundaryFaces.l1 (k + 1) y0 y1 y2 y3 y4 y5 y6 y7))
  | 0 => ⟨fun _ _ _ _ r h => by simp [impl_Triangulation_boundaryFaces.l0] at h, fun _ _ _ _ _ _ _ _ r h => by simp [impl_Triangulation_boundaryFaces.l1] at h⟩
  | k + 1 => by
    obtain ⟨ih0, ih1⟩ := impl_Triangulation_boundaryFaces.mono_l k
    refine ⟨?_, ?_⟩
    · intro y0 y1 y2 y3
      unfold impl_Triangulation_boundaryFaces.l0
      repeat' first
      | (with_reducible exact ih0 _ _ _ _)
      | (with_reducible exact ih1 _ _ _ _ _ _ _ _)
      | (with_reducible exact LeO.refl _)
      | (with_reducible exact LeO.none _)
      | (with_reducible refine LeO.ite ?_ ?_)
      | (with_reducible refine LeO.bind ?_ (fun _ => ?_))
      | exact ih0 _ _ _ _
      | exact ih1 _ _ _ _ _ _ _ _
      | exact LeO.none _
      | refine LeO.ite ?_ ?_
      | refine LeO.bind ?_ (fun _ => ?_)
    · intro y0 y1 y2 y3 y4 y5 y6 y7
      unfold impl_Triangulation_boundaryFaces.l1
      repeat' first
      | (with_reducible exact ih0 _ _ _ _)
      | (with_reducible exact ih1 _ _ _ _ _ _ _ _)
      | (with_reducible exact LeO.refl _)
      | (with_reducible exact LeO.none _)
      | (with_reducible refine LeO.ite ?_ ?_)
      | (with_reducible refine LeO.bind ?_ (fun _ => ?_))
      | exact ih0 _ _ _ _
      | exact ih1 _ _ _ _ _ _ _ _
      | exact LeO.none _
      | refine LeO.ite ?_ ?_
      | refine LeO.bind ?_ (fun _ => ?_)
end Go.Proofs.Ytfaagdpopmnnpaa.P

/- Boundary faces and IsClosed of both sides. -/
namespace Go.Proofs.Ytfaagdpopmnnpaa.P
open Go.RowKit Go.Proofs.YtfaagdpopmnnpaaW.PrintWords Go.Proofs.Ytfaagdpopmnnpaa.Lib
set_option linter.unusedVariables false
theorem isTri_good {t : Tri} (h : isTri t = true) : t.length ≤ 8 ∧ (∀ r ∈ t, r.length = 4) ∧ goodTs t 0 t.length = true := by
  unfold isTri at h
  rw [Bool.and_eq_true, Bool.and_eq_true, decide_eq_true_eq] at h
  exact ⟨h.1, all4_iff.1 h.2.1, h.2.2⟩
section
variable {t : Tri}
end
end Go.Proofs.Ytfaagdpopmnnpaa.P

/- What holds of each face of a valid triangulation; copies of a triangulation. -/
namespace Go.Proofs.Ytfaagdpopmnnpaa.P
open Go.RowKit Go.Proofs.YtfaagdpopmnnpaaW.PrintWords Go.Proofs.Ytfaagdpopmnnpaa.Lib
set_option linter.unusedVariables false
theorem goodFs_at (t : Tri) (a : Int) (d : Nat) : ∀ f, goodFs t a f d = true → ∀ g, f ≤ g → g < f + d → goodF t a g = true := by
  induction d with
  | zero => intro f _ g h1 h2; omega
  | succ d ih =>
    intro f h g h1 h2
    rw [goodFs, Bool.and_eq_true] at h
    by_cases e : g = f
    · rw [e]; exact h.1
    · exact ih (f + 1) h.2 g (by omega) (by omega)
theorem goodTs_at (t : Tri) (d : Nat) : ∀ a, goodTs t a d = true → ∀ b, a ≤ b → b < a + d → ∀ g, 0 ≤ g → g ≤ 3 → goodF t b g = true := by
  induction d with
  | zero => intro a _ b h1 h2; omega
  | succ d ih =>
    intro a h b h1 h2 g hg0 hg1
    rw [goodTs, Bool.and_eq_true] at h
    by_cases e : b = a
    · rw [e]; exact goodFs_at t a 4 0 h.1 g hg0 (by omega)
    · exact ih (a + 1) h.2 b (by omega) (by omega) g hg0 hg1
/-- A face of a valid triangulation: the boundary, or glued to a face that is glued back. -/
theorem face_good {t : Tri} (h : isTri t = true) {a f : Int} (h0 : 0 ≤ a) (h1 : a < t.length) (hf0 : 0 ≤ f) (hf1 : f ≤ 3) :
    ((fc t a f).f0 = -1 ∧ (fc t a f).f1 = 0) ∨
    ((0 ≤ (fc t a f).f0 ∧ (fc t a f).f0 < (t.length : Int) ∧ 0 ≤ (fc t a f).f1 ∧ (fc t a f).f1 ≤ 23) ∧
      (fc t (fc t a f).f0 (rd (permL (fc t a f).f1) f)).f0 = a ∧ (fc t (fc t a f).f0 (rd (permL (fc t a f).f1) f)).f1 = invP (fc t a f).f1 ∧ ¬ ((fc t a f).f0 = a ∧ rd (permL (fc t a f).f1) f = f)) := by
  have hg := goodTs_at t t.length 0 (isTri_good h).2.2 a h0 (by omega) f hf0 hf1
  unfold goodF at hg
  by_cases hb : (fc t a f).f0 = -1
  · rw [if_pos hb] at hg
    exact .inl ⟨hb, by simpa using hg⟩
  · rw [if_neg hb] at hg
    by_cases hi : 0 ≤ (fc t a f).f0 ∧ (fc t a f).f0 < (t.length : Int) ∧ 0 ≤ (fc t a f).f1 ∧ (fc t a f).f1 ≤ 23
    · rw [if_pos hi, Bool.and_eq_true, Bool.and_eq_true, Bool.not_eq_true'] at hg
      refine .inr ⟨hi, eq_of_beq hg.1.1, eq_of_beq hg.1.2, fun hc => ?_⟩
      have := hg.2
      rw [Bool.and_eq_false_iff] at this
      rcases this with h2 | h2
      · exact absurd hc.1 (by simpa using h2)
      · exact absurd hc.2 (by simpa using h2)
    · rw [if_neg hi] at hg; cases hg
theorem rowlen {t : Tri} (h : isTri t = true) {a : Int} (h0 : 0 ≤ a) (h1 : a < t.length) : (rd_LFace t a).length = 4 := row4 (isTri_good h).2.1 h0 h1
end Go.Proofs.Ytfaagdpopmnnpaa.P

/- Orientations: the search of both sides comes to the same. -/
namespace Go.Proofs.Ytfaagdpopmnnpaa.P
open Go.RowKit Go.Proofs.YtfaagdpopmnnpaaW.PrintWords Go.Proofs.Ytfaagdpopmnnpaa.Lib
set_option linter.unusedVariables false
theorem sgnP_one {p : Int} (h0 : 0 ≤ p) (h1 : p ≤ 23) : sgnP p = 1 ∨ sgnP p = -1 := by
  obtain ⟨m, rfl⟩ := fin_of h0 h1
  have key : ∀ m : Fin 24, sgnP (m.val : Int) = 1 ∨ sgnP (m.val : Int) = -1 := by decide +kernel
  exact key m
theorem signPerm4_ev {p : Int} (h0 : 0 ≤ p) (h1 : p ≤ 23) : Ev (fun k => spec_SignPerm4.f k p) (sgnP p) := by
  obtain ⟨m, rfl⟩ := fin_of h0 h1
  have key : ∀ m : Fin 24, spec_SignPerm4.f 40 (m.val : Int) = some (sgnP (m.val : Int)) := by decide +kernel
  exact Ev.of (fun k => spec_SignPerm4.mono _ k) (key m)
/-- How many elements have no sign. -/
def zc : List Int → Nat
  | [] => 0
  | x :: xs => (if x = 0 then 1 else 0) + zc xs
theorem zc_le (l : List Int) : zc l ≤ l.length := by
  induction l with
  | nil => simp [zc]
  | cons x xs ih => simp only [zc, List.length_cons]; split <;> omega
theorem zc_set : ∀ (l : List Int) (n : Nat) (v : Int), n < l.length → l.getD n 0 = 0 → v ≠ 0 → zc (l.set n v) + 1 = zc l
  | [], n, v, h, _, _ => by simp at h
  | x :: xs, 0, v, _, hz, hv => by
    have hx : x = 0 := by simpa using hz
    simp [zc, hx, hv]; omega
  | x :: xs, n + 1, v, h, hz, hv => by
    have := zc_set xs n v (by simpa using h) (by simpa using hz) hv
    simp only [List.set_cons_succ, zc]; omega
abbrev pm (x : Int) : Prop := x = 1 ∨ x = -1
/-- Signs and a queue, in the course of a search over n elements. -/
structure Inv (n : Nat) (sg qu : List Int) : Prop where
  len : sg.length = n
  small : ∀ x : Int, 0 ≤ x → x < n → rd sg x = 0 ∨ pm (rd sg x)
  queue : ∀ x ∈ qu, 0 ≤ x ∧ x < n ∧ pm (rd sg x)
theorem rd_set {l : List Int} {a b v : Int} (ha0 : 0 ≤ a) (ha1 : a < l.length) (hb : 0 ≤ b) : rd (l.set a.toNat v) b = if b = a then v else rd l b := by
  unfold rd
  by_cases e : b = a
  · subst e
    rw [if_pos rfl]
    have : b.toNat < l.length := by omega
    simp [List.getD_eq_getElem?_getD, this]
  · rw [if_neg e]
    have : a.toNat ≠ b.toNat := by omega
    simp [List.getD_eq_getElem?_getD, List.getElem?_set_ne this]
theorem rd_mem {l : List Int} {i : Int} (h0 : 0 ≤ i) (h1 : i < l.length) : rd l i ∈ l := by
  obtain ⟨n, rfl⟩ := Int.eq_ofNat_of_zero_le h0
  rw [rd_lt l n (by omega)]
  exact List.getElem_mem _
theorem Inv.set {n : Nat} {sg qu : List Int} (h : Inv n sg qu) {k v : Int} (h0 : 0 ≤ k) (h1 : k < n) (hv : pm v) : Inv n (sg.set k.toNat v) (qu ++ [k]) := by
  have hl := h.len
  refine ⟨by rw [List.length_set]; exact hl, fun x hx0 hx1 => ?_, fun x hx => ?_⟩
  · rw [rd_set h0 (by omega) hx0]
    split
    · exact .inr hv
    · exact h.small x hx0 hx1
  · rcases List.mem_append.1 hx with hx | hx
    · obtain ⟨a, b, c⟩ := h.queue x hx
      refine ⟨a, b, ?_⟩
      rw [rd_set h0 (by omega) a]
      split
      · exact hv
      · exact c
    · rw [List.mem_singleton.1 hx]
      refine ⟨h0, h1, ?_⟩
      rw [rd_set h0 (by omega) h0, if_pos rfl]
      exact hv
theorem want_eq {s p : Int} (hs : pm s) (hp : pm p) : wrap64 (s * wrap64 (-p)) = wrap64 (wrap64 (-s) * p) ∧ pm (wrap64 (wrap64 (-s) * p)) := by
  rcases hs with rfl | rfl <;> rcases hp with rfl | rfl <;> decide +kernel
/-- One face: what impl comes to, and what the reference does. -/
theorem vis_step {n : Nat} {sg qu : List Int} (h : Inv n sg qu) (ok : Bool) {i k p : Int} (hi0 : 0 ≤ i) (hi1 : i < qu.length) (h0 : 0 ≤ k) (h1 : k < n) (hp : pm p) :
    ∃ (sg' qu' : List Int) (c : Bool), vis sg qu ok i k (wrap64 (-p)) = (sg', qu', ok && c) ∧ Inv n sg' qu' ∧ qu.length ≤ qu'.length ∧ rd qu' i = rd qu i ∧ zc sg' + qu'.length = zc sg + qu.length ∧
      (rd sg k = 0 → sg' = sg.set k.toNat (wrap64 (wrap64 (-(rd sg (rd qu i))) * p)) ∧ qu' = qu ++ [k] ∧ c = true) ∧
      (rd sg k ≠ 0 → sg' = sg ∧ qu' = qu ∧ (c = true ↔ rd sg k = wrap64 (wrap64 (-(rd sg (rd qu i))) * p))) := by
  obtain ⟨q0, q1, qs⟩ := h.queue _ (rd_mem hi0 hi1)
  obtain ⟨we, wp⟩ := want_eq qs hp
  unfold vis
  rw [we]
  generalize wrap64 (wrap64 (-(rd sg (rd qu i))) * p) = want at wp ⊢
  have hl := h.len
  by_cases hz : rd sg k = 0
  · rw [if_pos hz]
    refine ⟨sg.set k.toNat want, qu ++ [k], true, by simp, h.set h0 h1 wp, by simp, rd_app qu k i hi0 hi1, ?_, fun _ => ⟨rfl, rfl, rfl⟩, fun hn => absurd hz hn⟩
    have := zc_set sg k.toNat want (by omega) hz (by rcases wp with rfl | rfl <;> decide)
    simp; omega
  · rw [if_neg hz]
    have hs := (h.small k h0 h1).resolve_left hz
    by_cases hc : rd sg k = wrap64 (-want)
    · rw [if_pos hc]
      refine ⟨sg, qu, false, by simp, h, Nat.le_refl _, rfl, rfl, fun hn => absurd hn hz, fun _ => ⟨rfl, rfl, ?_⟩⟩
      constructor
      · intro hf; cases hf
      · intro he
        rw [he] at hc
        rcases wp with rfl | rfl <;> revert hc <;> decide +kernel
    · rw [if_neg hc]
      refine ⟨sg, qu, true, by simp, h, Nat.le_refl _, rfl, rfl, fun hn => absurd hn hz, fun _ => ⟨rfl, rfl, ?_⟩⟩
      refine ⟨fun _ => ?_, fun _ => rfl⟩
      rcases hs with e | e <;> rcases wp with rfl | rfl <;> rw [e] at hc ⊢ <;> first | rfl | (exact absurd rfl hc) | (revert hc; decide +kernel)
section
variable {t : Tri}
theorem row_face (h : isTri t = true) {a f : Int} (h0 : 0 ≤ a) (h1 : a < t.length) (hf0 : 0 ≤ f) (hf1 : f ≤ 3) (hb : ¬ (fc t a f).f0 < 0) : (0 ≤ (fc t a f).f0 ∧ (fc t a f).f0 < (t.length : Int)) ∧ (0 ≤ (fc t a f).f1 ∧ (fc t a f).f1 ≤ 23) := by
  rcases face_good h h0 h1 hf0 hf1 with ⟨e, _⟩ | ⟨e, _⟩
  · omega
  · exact ⟨⟨e.1, e.2.1⟩, e.2.2⟩
/-- The faces of one tetrahedron, from f on. -/
theorem row_sim (h : isTri t = true) (a i : Int) (hi0 : 0 ≤ i) : ∀ (d f : Nat) (sg qu : List Int) (ok : Bool), f + d = 4 → Inv t.length sg qu → i < qu.length → zc sg + qu.length ≤ 100 →
    ∃ (sg' qu' : List Int) (c : Bool), visAll i ((rd_LFace t (rd qu i)).drop f) (sg, qu, ok) = (sg', qu', ok && c) ∧ Inv t.length sg' qu' ∧ qu.length ≤ qu'.length ∧ rd qu' i = rd qu i ∧ zc sg' + qu'.length = zc sg + qu.length ∧
      (c = true → ∀ R, Ev (fun k => spec_l10Signs.l1 k sg' a qu' (wrap64 (i + 1)) t) R → Ev (fun k => spec_l10Signs.l2 k sg a qu i (f : Int) t) R) ∧ (c = false → Ev (fun k => spec_l10Signs.l2 k sg a qu i (f : Int) t) ([], false))
  | 0, f, sg, qu, ok, hf, hI, hi1, hM => by
    obtain rfl : f = 4 := by omega
    obtain ⟨q0, q1, qs⟩ := hI.queue _ (rd_mem hi0 hi1)
    have hr := rowlen h q0 q1
    refine ⟨sg, qu, true, by rw [List.drop_eq_nil_of_le (by omega)]; simp [visAll], hI, Nat.le_refl _, rfl, rfl, fun _ R hR => ?_, fun hc => by cases hc⟩
    exact ev_step (fun k => by rw [spec_l10Signs.l2, if_neg (by omega)]) hR
  | d + 1, f, sg, qu, ok, hf, hI, hi1, hM => by
    obtain ⟨q0, q1, qs⟩ := hI.queue _ (rd_mem hi0 hi1)
    have hr := rowlen h q0 q1
    have hl := hI.len
    have hlt : f < (rd_LFace t (rd qu i)).length := by omega
    have ex : (rd_LFace t (rd qu i))[f] = fc t (rd qu i) (f : Int) := (rd_Face_lt _ f hlt).symm
    rw [List.drop_eq_getElem_cons hlt, visAll, ex]
    have hstep : ∀ {R : List Int × Bool} {g : Nat → Option (List Int × Bool)}, (∀ k, spec_l10Signs.l2 (k + 1) sg a qu i (f : Int) t = g k) → Ev g R → Ev (fun k => spec_l10Signs.l2 k sg a qu i (f : Int) t) R := fun hg hR => ev_step hg hR
    have hw : wrap64 ((f : Int) + 1) = ((f + 1 : Nat) : Int) := wrap_succ (by omega)
    by_cases hb : (fc t (rd qu i) (f : Int)).f0 < 0
    · rw [if_pos hb]
      obtain ⟨sg', qu', c, e1, e2, e3, e4, e5, e6, e7⟩ := row_sim h a i hi0 d (f + 1) sg qu ok (by omega) hI hi1 hM
      have hs : ∀ k, spec_l10Signs.l2 (k + 1) sg a qu i (f : Int) t = spec_l10Signs.l2 k sg a qu i ((f + 1 : Nat) : Int) t := fun k => by
        rw [spec_l10Signs.l2, if_pos (by omega), if_pos hi0, if_pos (by omega), if_pos q0, if_pos q1, if_pos (by omega), if_pos (by omega), if_pos hb, hw]
      exact ⟨sg', qu', c, e1, e2, e3, e4, e5, fun hc R hR => hstep hs (e6 hc R hR), fun hc => hstep hs (e7 hc)⟩
    · rw [if_neg hb]
      obtain ⟨⟨g0, g1⟩, p0, p1⟩ := row_face h q0 q1 (by omega : (0 : Int) ≤ (f : Int)) (by omega) hb
      have hp := sgnP_one p0 p1
      obtain ⟨sg1, qu1, c1, v1, v2, v3, v4, v5, v6, v7⟩ := vis_step hI ok hi0 hi1 g0 g1 hp
      dsimp only
      rw [v1]
      have hqs := signPerm4_ev p0 p1
      obtain ⟨sg', qu', c, e1, e2, e3, e4, e5, e6, e7⟩ := row_sim h a i hi0 d (f + 1) sg1 qu1 (ok && c1) (by omega) v2 (by omega) (by omega)
      rw [v4] at e1
      -- what the reference does up to the test
      have hs : ∀ {R : List Int × Bool} {g : Nat → Option (List Int × Bool)}, (∀ k, (if rd sg (fc t (rd qu i) (f : Int)).f0 = 0 then ((some (sg.set ((fc t (rd qu i) (f : Int)).f0 : Int).toNat (wrap64 ((wrap64 (-(rd sg (rd qu i)))) * sgnP (fc t (rd qu i) (f : Int)).f1)) : List Int)).bind fun y119 => (if qu.length < 17592186044416 then (if (rd y119 ((fc t (rd qu i) (f : Int)).f0)) = (wrap64 ((wrap64 (-(rd sg (rd qu i)))) * sgnP (fc t (rd qu i) (f : Int)).f1)) then (spec_l10Signs.l2 k y119 a (qu ++ [(fc t (rd qu i) (f : Int)).f0]) i (wrap64 ((f : Int) + 1)) t) else (some (([] : List Int), false))) else (none))) else (if (rd sg ((fc t (rd qu i) (f : Int)).f0)) = (wrap64 ((wrap64 (-(rd sg (rd qu i)))) * sgnP (fc t (rd qu i) (f : Int)).f1)) then (spec_l10Signs.l2 k sg a qu i (wrap64 ((f : Int) + 1)) t) else (some (([] : List Int), false)))) = g k) → Ev g R → Ev (fun k => spec_l10Signs.l2 k sg a qu i (f : Int) t) R := by
        intro R g hg hR
        refine hstep (g := fun k => (spec_SignPerm4.f k ((fc t (rd qu i) (f : Int)).f1)).bind fun t117 => _) (fun k => by rw [spec_l10Signs.l2, if_pos (by omega), if_pos hi0, if_pos (by omega), if_pos q0, if_pos q1, if_pos (by omega), if_pos (by omega), if_neg hb, if_pos (by rw [hl]; exact q1)]) ?_
        refine Ev.bind hqs ?_
        refine ev_pos g0 (ev_pos (by rw [hl]; exact g1) ?_)
        exact Ev.congr hg hR
      have hqlen : qu.length < 17592186044416 := by omega
      by_cases hz : rd sg (fc t (rd qu i) (f : Int)).f0 = 0
      · obtain ⟨a1, a2, a3⟩ := v6 hz
        subst a1 a2 a3
        refine ⟨sg', qu', c, by simpa using e1, e2, by omega, by rw [e4, v4], by omega, fun hc R hR => ?_, fun hc => ?_⟩
        · exact hs (fun k => by rw [if_pos hz, Option.bind_some, if_pos hqlen, if_pos (by rw [rd_set g0 (by rw [hl]; exact g1) g0, if_pos rfl]), hw]) (e6 hc R hR)
        · exact hs (fun k => by rw [if_pos hz, Option.bind_some, if_pos hqlen, if_pos (by rw [rd_set g0 (by rw [hl]; exact g1) g0, if_pos rfl]), hw]) (e7 hc)
      · obtain ⟨a1, a2, a3⟩ := v7 hz
        have b1 := a1.symm
        have b2 := a2.symm
        clear a1 a2
        subst b1 b2
        cases c1 with
        | true =>
          have he := a3.1 rfl
          refine ⟨sg', qu', c, by simpa using e1, e2, by omega, e4, by omega, fun hc R hR => ?_, fun hc => ?_⟩
          · exact hs (fun k => by rw [if_neg hz, if_pos he, hw]) (e6 hc R hR)
          · exact hs (fun k => by rw [if_neg hz, if_pos he, hw]) (e7 hc)
        | false =>
          have he : ¬ rd sg (fc t (rd qu i) (f : Int)).f0 = wrap64 ((wrap64 (-(rd sg (rd qu i)))) * sgnP (fc t (rd qu i) (f : Int)).f1) := fun e => by have := a3.2 e; cases this
          refine ⟨sg', qu', false, by rw [e1]; simp, e2, by omega, e4, by omega, fun hc => (by cases hc), fun _ => ?_⟩
          exact hs (fun k => by rw [if_neg hz, if_neg he]) (Ev.now _)
/-- A queue, from i on. -/
theorem queue_sim (h : isTri t = true) (a : Int) : ∀ (m : Nat) (sg qu : List Int) (ok : Bool) (i : Int), Inv t.length sg qu → 0 ≤ i → zc sg + qu.length ≤ 100 → (zc sg + qu.length : Int) - i < m →
    ∃ (sg' : List Int) (c : Bool), Ev (fun k => inQ t k i (sg, qu, ok)) (sg', ok && c) ∧ Inv t.length sg' [] ∧
      (c = true → ∀ R, Ev (fun k => spec_l10Signs.l0 k sg' (wrap64 (a + 1)) t) R → Ev (fun k => spec_l10Signs.l1 k sg a qu i t) R) ∧ (c = false → Ev (fun k => spec_l10Signs.l1 k sg a qu i t) ([], false))
  | 0, sg, qu, ok, i, hI, hi0, hM, hm => by
    refine ⟨sg, true, ?_, ⟨hI.len, hI.small, fun x hx => by cases hx⟩, fun _ R hR => ?_, fun hc => by cases hc⟩
    · exact ev_step (g := fun k => inQ t k i (sg, qu, ok)) (f := fun _ => some (sg, ok && true)) (fun k => by rw [inQ, if_neg (by dsimp only; omega), Bool.and_true]) (Ev.now _)
    · exact ev_step (fun k => by rw [spec_l10Signs.l1, if_neg (by omega)]) hR
  | m + 1, sg, qu, ok, i, hI, hi0, hM, hm => by
    by_cases hi1 : i < (qu.length : Int)
    · obtain ⟨q0, q1, qs⟩ := hI.queue _ (rd_mem hi0 hi1)
      have hr := rowlen h q0 q1
      obtain ⟨sg1, qu1, c1, r1, r2, r3, r4, r5, r6, r7⟩ := row_sim h a i hi0 4 0 sg qu ok (by omega) hI hi1 hM
      rw [List.drop_zero] at r1
      obtain ⟨sg', c, e1, e2, e3, e4⟩ := queue_sim h a m sg1 qu1 (ok && c1) (i + 1) r2 (by omega) (by omega) (by omega)
      have hw : wrap64 (i + 1) = i + 1 := wrap_id (by omega) (by omega)
      rw [hw] at r6
      have hok : okRow t (rd qu i) qu.length := by
        refine ⟨⟨q0, q1⟩, by omega, fun y hy hb => ?_, by omega⟩
        obtain ⟨f, hf, rfl⟩ := List.mem_iff_getElem.1 hy
        have ex : (rd_LFace t (rd qu i))[f] = fc t (rd qu i) (f : Int) := (rd_Face_lt _ f hf).symm
        rw [ex] at hb ⊢
        obtain ⟨⟨x1, x2⟩, x3, x4⟩ := row_face h q0 q1 (by omega : (0 : Int) ≤ (f : Int)) (by omega) hb
        exact ⟨x1, x2, x3, x4⟩
      have hs : ∀ {R : List Int × Bool}, Ev (fun k => spec_l10Signs.l2 k sg a qu i 0 t) R → Ev (fun k => spec_l10Signs.l1 k sg a qu i t) R := fun hR => ev_step (fun k => by rw [spec_l10Signs.l1, if_pos hi1]) hR
      refine ⟨sg', c1 && c, ?_, e2, fun hc R hR => ?_, fun hc => ?_⟩
      · rw [← Bool.and_assoc]
        refine ev_step (g := fun k => inQ t k i (sg, qu, ok)) (fun k => ?_) e1
        rw [inQ]
        dsimp only
        rw [if_pos hi1, if_pos hok, r1]
      · rw [Bool.and_eq_true] at hc
        exact hs (r6 hc.1 R (e3 hc.2 R hR))
      · cases c1 with
        | false => exact hs (r7 rfl)
        | true => exact hs (r6 rfl _ (e4 (by simpa using hc)))
    · refine ⟨sg, true, ?_, ⟨hI.len, hI.small, fun x hx => by cases hx⟩, fun _ R hR => ?_, fun hc => by cases hc⟩
      · exact ev_step (g := fun k => inQ t k i (sg, qu, ok)) (f := fun _ => some (sg, ok && true)) (fun k => by rw [inQ, if_neg (by dsimp only; omega), Bool.and_true]) (Ev.now _)
      · exact ev_step (fun k => by rw [spec_l10Signs.l1, if_neg hi1]) hR
/-- All tetrahedra, from a on. -/
theorem all_sim (h : isTri t = true) : ∀ (d : Nat) (a : Int) (sg : List Int) (ok : Bool), Inv t.length sg [] → 0 ≤ a → a + d = t.length →
    ∃ (sg' : List Int) (c : Bool), Ev (fun k => outQ t k d a sg ok) (sg', ok && c) ∧ sg'.length = t.length ∧ (c = true → Ev (fun k => spec_l10Signs.l0 k sg a t) (sg', true)) ∧ (c = false → Ev (fun k => spec_l10Signs.l0 k sg a t) ([], false))
  | 0, a, sg, ok, hI, ha, hd => by
    refine ⟨sg, true, ?_, hI.len, fun _ => ?_, fun hc => by cases hc⟩
    · exact ev_const' fun k => by rw [outQ, Bool.and_true]
    · exact ev_step (f := fun _ => some (sg, true)) (fun k => by rw [spec_l10Signs.l0, spec_l07Tets.f, Option.bind_some, if_neg (by omega)]) (Ev.now _)
  | d + 1, a, sg, ok, hI, ha, hd => by
    have h8 := (isTri_good h).1
    have hl := hI.len
    have hw : wrap64 (a + 1) = a + 1 := wrap_id (by omega) (by omega)
    have hs : ∀ {R : List Int × Bool} {g : Nat → Option (List Int × Bool)}, (∀ k, (if (rd sg a) = 0 then (spec_l10Signs.l1 k (sg.set (a : Int).toNat 1) a (([a] : List Int)) 0 t) else (spec_l10Signs.l0 k sg (wrap64 (a + 1)) t)) = g k) → Ev g R → Ev (fun k => spec_l10Signs.l0 k sg a t) R := fun hg hR =>
      ev_step (fun k => by rw [spec_l10Signs.l0, spec_l07Tets.f, Option.bind_some, if_pos (by omega), if_pos ha, if_pos (by omega)]; exact hg k) hR
    by_cases hz : rd sg a = 0
    · have hI1 : Inv t.length (sg.set a.toNat 1) [a] := by simpa using hI.set (k := a) (v := 1) ha (by omega) (.inl rfl)
      have hzc := zc_set sg a.toNat 1 (by omega) hz (by decide)
      have hzl := zc_le sg
      obtain ⟨sg1, c1, e1, e2, e3, e4⟩ := queue_sim h a 200 (sg.set a.toNat 1) [a] ok 0 hI1 (by omega) (by simp; omega) (by simp; omega)
      obtain ⟨sg', c, f1, f2, f3, f4⟩ := all_sim h d (a + 1) sg1 (ok && c1) e2 (by omega) (by omega)
      rw [hw] at e3
      refine ⟨sg', c1 && c, ?_, f2, fun hc => ?_, fun hc => ?_⟩
      · rw [← Bool.and_assoc]
        refine Ev.congr (fun k => by rw [outQ, if_pos hz]) (Ev.bind e1 ?_)
        exact f1
      · rw [Bool.and_eq_true] at hc
        exact hs (fun k => if_pos hz) (e3 hc.1 _ (f3 hc.2))
      · cases c1 with
        | false => exact hs (fun k => if_pos hz) (e4 rfl)
        | true => exact hs (fun k => if_pos hz) (e3 rfl _ (f4 (by simpa using hc)))
    · obtain ⟨sg', c, f1, f2, f3, f4⟩ := all_sim h d (a + 1) sg ok hI (by omega) (by omega)
      refine ⟨sg', c, Ev.congr (fun k => by rw [outQ, if_neg hz]) f1, f2, fun hc => ?_, fun hc => ?_⟩
      · exact hs (fun k => by rw [if_neg hz, hw]) (f3 hc)
      · exact hs (fun k => by rw [if_neg hz, hw]) (f4 hc)
/-- Both searches. -/
theorem signs_sim (h : isTri t = true) : ∃ (sg : List Int) (c : Bool), Ev (fun k => impl_Triangulation_orientation.f k t) (sg, c) ∧ sg.length = t.length ∧ (c = true → Ev (fun k => spec_l10Signs.f k t) (sg, true)) ∧ (c = false → Ev (fun k => spec_l10Signs.f k t) ([], false)) := by
  have h8 := (isTri_good h).1
  have hrep : ∀ x : Int, rd (List.replicate t.length 0) x = 0 := fun x => by
    unfold rd
    by_cases hx : x.toNat < t.length
    · simp [List.getD_eq_getElem?_getD, hx]
    · simp [List.getD_eq_getElem?_getD, hx]
  have hI : Inv t.length (List.replicate t.length 0) [] := ⟨List.length_replicate, fun x _ _ => .inl (hrep x), fun x hx => by cases hx⟩
  obtain ⟨sg, c, e1, e2, e3, e4⟩ := all_sim h t.length 0 (List.replicate t.length 0) true hI (by omega) (by omega)
  rw [Bool.true_and] at e1
  have hf : ∀ k, spec_l10Signs.f k t = spec_l10Signs.l0 k (List.replicate t.length 0) 0 t := fun k => by
    unfold spec_l10Signs.f
    rw [if_pos (by omega), if_pos (by omega), Int.toNat_natCast]
  refine ⟨sg, c, Ev.congr (fun k => ?_) e1, e2, fun hc => Ev.congr hf (e3 hc), fun hc => Ev.congr hf (e4 hc)⟩
  unfold impl_Triangulation_orientation.f signO
  rw [if_pos (by omega)]
end
end Go.Proofs.Ytfaagdpopmnnpaa.P

/- OrientationOf and IsOrientable of both sides. -/
namespace Go.Proofs.Ytfaagdpopmnnpaa.P
open Go.RowKit Go.Proofs.YtfaagdpopmnnpaaW.PrintWords Go.Proofs.Ytfaagdpopmnnpaa.Lib
set_option linter.unusedVariables false
theorem orientOf_ev {t : Tri} (hs : Small t) : ∃ r : List Int × Int, r.1.length ≤ 8 ∧ Ev (fun k => spec_OrientationOf.f k t) r ∧ Ev (fun k => impl_OrientationOf.f k t) r := by
  cases h : isTri t with
  | false =>
    have h1 := spec_isTri_ev t
    have h2 := impl_isTri_ev hs
    rw [h] at h1 h2
    exact ⟨([], 1), by simp, Ev.bind h1 (ev_neg (by simp) (Ev.now _)), Ev.bind h2 (ev_neg (by simp) (Ev.now _))⟩
  | true =>
    have h1 := spec_isTri_ev t
    have h2 := impl_isTri_ev hs
    rw [h] at h1 h2
    obtain ⟨sg, c, e1, e2, e3, e4⟩ := signs_sim h
    have h8 := (isTri_good h).1
    cases c with
    | true => exact ⟨(sg, 0), by dsimp only; omega, Ev.bind h1 (ev_pos rfl (Ev.bind (e3 rfl) (ev_pos rfl (Ev.now _)))), Ev.bind h2 (ev_pos rfl (Ev.bind e1 (ev_pos rfl (Ev.now _))))⟩
    | false => exact ⟨([], 5), by simp, Ev.bind h1 (ev_pos rfl (Ev.bind (e4 rfl) (ev_neg (by simp) (Ev.now _)))), Ev.bind h2 (ev_pos rfl (Ev.bind e1 (ev_neg (by simp) (Ev.now _))))⟩
end Go.Proofs.Ytfaagdpopmnnpaa.P

-- Printed by a program of this session (drv.py), by means of the kit's print.py.
namespace Go.Proofs.Ytfaagdpopmnnpaa.P
open Go.RowKit Go.Proofs.YtfaagdpopmnnpaaW.PrintWords Go.Proofs.YtfaagdpopmnnpaaW.PrintLast Go.Proofs.YtfaagdpopmnnpaaW.PrintMore
attribute [local go_sem] max2_int min2_int max_two min_two max_three min_three max_four min_four   -- for this text's walks alone
set_option linter.unusedVariables false
set_option linter.unusedSimpArgs false
/-! ### laws_heldFaceS: function 135 -/
def laws_heldFaceS.l0 : Nat → List (SFace) → Int → Int → Option (Int)
  | 0, _, _, _ => none
  | k + 1, x0, x1, x5 => if x5 < (x0.length : Int) then (if 0 ≤ x5 then (if ((rd_Face x0 x5).f0) = x1 then (if ((rd_Face x0 x5).f1) = (wrap64 (x1 + 1)) then (laws_heldFaceS.l0 k x0 (wrap64 ((wrap64 (x1 + 1)) + 1)) (wrap64 (x5 + 1))) else (some (-1))) else (some (-1))) else (none)) else (some x1)
def laws_heldFaceS.f (k : Nat) (l0 : List (SFace)) (a1 : Int) : Option (Int) := laws_heldFaceS.l0 k l0 a1 0
theorem laws_heldFaceS.mono_l : ∀ k, (∀ y0 y1 y2, LeO (laws_heldFaceS.l0 k y0 y1 y2) (laws_heldFaceS.l0 (k + 1) y0 y1 y2))
  | 0 => fun _ _ _ r h => by simp [laws_heldFaceS.l0] at h
  | k + 1 => by
    have ih0 := laws_heldFaceS.mono_l k
    · intro y0 y1 y2
      unfold laws_heldFaceS.l0
      repeat' first
      | (with_reducible exact ih0 _ _ _)
      | (with_reducible exact LeO.refl _)
      | (with_reducible exact LeO.none _)
      | (with_reducible refine LeO.ite ?_ ?_)
      | (with_reducible refine LeO.bind ?_ (fun _ => ?_))
      | exact ih0 _ _ _
      | exact LeO.none _
      | refine LeO.ite ?_ ?_
      | refine LeO.bind ?_ (fun _ => ?_)
theorem laws_heldFaceS.mono : ∀ a0 a1 k, LeO (laws_heldFaceS.f k a0 a1) (laws_heldFaceS.f (k + 1) a0 a1) := by
  intro a0 a1 k
  have ih0 := laws_heldFaceS.mono_l k
  unfold laws_heldFaceS.f
  repeat' first
      | (with_reducible exact ih0 _ _ _)
      | (with_reducible exact LeO.refl _)
      | (with_reducible exact LeO.none _)
      | (with_reducible refine LeO.ite ?_ ?_)
      | (with_reducible refine LeO.bind ?_ (fun _ => ?_))
      | exact ih0 _ _ _
      | exact LeO.none _
      | refine LeO.ite ?_ ?_
      | refine LeO.bind ?_ (fun _ => ?_)
end Go.Proofs.Ytfaagdpopmnnpaa.P

-- Printed by a program of this session (drv.py), by means of the kit's print.py.
namespace Go.Proofs.Ytfaagdpopmnnpaa.P
open Go.RowKit Go.Proofs.YtfaagdpopmnnpaaW.PrintWords Go.Proofs.YtfaagdpopmnnpaaW.PrintLast Go.Proofs.YtfaagdpopmnnpaaW.PrintMore
attribute [local go_sem] max2_int min2_int max_two min_two max_three min_three max_four min_four   -- for this text's walks alone
set_option linter.unusedVariables false
set_option linter.unusedSimpArgs false
/-! ### laws_heldFaceSS: function 81 -/
def laws_heldFaceSS.l0 : Nat → List (List (SFace)) → Int → Int → Option (Int)
  | 0, _, _, _ => none
  | k + 1, x0, x1, x5 => if x5 < (x0.length : Int) then (if 0 ≤ x5 then ((laws_heldFaceS.f k (rd_LFace x0 x5) x1).bind fun t102 => (if t102 < 0 then (some (-1)) else (laws_heldFaceSS.l0 k x0 t102 (wrap64 (x5 + 1))))) else (none)) else (some x1)
theorem laws_heldFaceSS.mono_l : ∀ k, (∀ y0 y1 y2, LeO (laws_heldFaceSS.l0 k y0 y1 y2) (laws_heldFaceSS.l0 (k + 1) y0 y1 y2))
  | 0 => fun _ _ _ r h => by simp [laws_heldFaceSS.l0] at h
  | k + 1 => by
    have ih0 := laws_heldFaceSS.mono_l k
    · intro y0 y1 y2
      unfold laws_heldFaceSS.l0
      repeat' first
      | (with_reducible exact ih0 _ _ _)
      | (with_reducible exact laws_heldFaceS.mono _ _ _)
      | (with_reducible exact LeO.refl _)
      | (with_reducible exact LeO.none _)
      | (with_reducible refine LeO.ite ?_ ?_)
      | (with_reducible refine LeO.bind ?_ (fun _ => ?_))
      | exact ih0 _ _ _
      | exact laws_heldFaceS.mono _ _ _
      | exact LeO.none _
      | refine LeO.ite ?_ ?_
      | refine LeO.bind ?_ (fun _ => ?_)
end Go.Proofs.Ytfaagdpopmnnpaa.P

/- The marks that a law writes into a triangulation, and the law's reading of them. -/
namespace Go.Proofs.Ytfaagdpopmnnpaa.P
open Go.RowKit Go.Proofs.YtfaagdpopmnnpaaW.PrintWords Go.Proofs.Ytfaagdpopmnnpaa.Lib
set_option linter.unusedVariables false
/-- n marked faces from a on. -/
def mkR (a : Int) : Nat → List SFace
  | 0 => []
  | n + 1 => ⟨a, a + 1⟩ :: mkR (a + 2) n
theorem mkR_length (a : Int) (n : Nat) : (mkR a n).length = n := by
  induction n generalizing a with
  | zero => rfl
  | succ n ih => simp [mkR, ih]
theorem mkR_snoc (a : Int) (n : Nat) : mkR a (n + 1) = mkR a n ++ [⟨a + 2 * n, a + 2 * n + 1⟩] := by
  induction n generalizing a with
  | zero => simp [mkR]
  | succ n ih =>
    rw [mkR, ih (a + 2)]
    have e : a + 2 + 2 * (n : Int) = a + 2 * ((n + 1 : Nat) : Int) := by omega
    rw [e]; rfl
theorem mk_set (l : List SFace) (a : Int) (n : Nat) (h : n < l.length) : (mkR a n ++ l.drop n).set n ⟨a + 2 * n, a + 2 * n + 1⟩ = mkR a (n + 1) ++ l.drop (n + 1) := by
  rw [List.set_append_right _ _ (by rw [mkR_length]; exact Nat.le_refl _), mkR_length, Nat.sub_self, List.drop_eq_getElem_cons h, List.set_cons_zero, mkR_snoc, List.append_assoc]
  rfl
theorem rd_Face_set (l : List SFace) (n : Nat) (v : SFace) (h : n < l.length) : rd_Face (l.set n v) (n : Int) = v := by
  rw [rd_Face_lt _ n (by rw [List.length_set]; exact h), List.getElem_set_self]
theorem markFaceS_ev (l : List SFace) (a : Int) (h : l.length ≤ 1099511627776) (h0 : 0 ≤ a) (h1 : a ≤ 4398046511104) : Ev (fun k => laws_markFaceS.f k l a) (a + 2 * l.length, mkR a l.length) := by
  have hl : Ev (fun k => laws_markFaceS.l0 k l a 0) (a + 2 * l.length, mkR a l.length) := by
    refine ev_loop0 (fun k (s : List SFace × Int × Int) => laws_markFaceS.l0 k s.1 s.2.1 s.2.2) (fun s => ∃ n : Nat, n ≤ l.length ∧ s.2.2 = n ∧ s.2.1 = a + 2 * n ∧ s.1 = mkR a n ++ l.drop n) (fun s => l.length - s.2.2.toNat) (fun _ => (a + 2 * l.length, mkR a l.length)) ?_ (l, a, 0) ⟨0, by omega, rfl, by simp, by simp [mkR]⟩
    rintro ⟨x, b, i⟩ ⟨n, hn, rfl, rfl, rfl⟩
    dsimp only
    have hlen : (mkR a n ++ l.drop n).length = l.length := by simp [mkR_length]; omega
    by_cases hlt : n < l.length
    · refine .inr ⟨(mkR a (n + 1) ++ l.drop (n + 1), a + 2 * ((n + 1 : Nat) : Int), ((n + 1 : Nat) : Int)), ⟨n + 1, by omega, rfl, rfl, rfl⟩, by simp; omega, rfl, fun k => ?_⟩
      simp only [laws_markFaceS.l0]
      rw [if_pos (by rw [hlen]; omega), if_pos (by omega), Option.bind_some, Int.toNat_natCast, rd_Face_set _ n _ (by rw [hlen]; exact hlt), List.set_set, wrap_id (x := a + 2 * (n : Int) + 1) (by omega) (by omega), mk_set l a n hlt, wrap_succ (by omega), wrap_id (by omega) (by omega)]
      congr 1; omega
    · obtain rfl : n = l.length := by omega
      refine .inl fun k => ?_
      simp only [laws_markFaceS.l0]
      rw [if_neg (by rw [hlen]; omega)]
      simp
  exact hl
/-- The marks of a triangulation, and their number. -/
def cntF : Tri → Nat
  | [] => 0
  | r :: rs => 2 * r.length + cntF rs
def mkT (a : Int) : Tri → Tri
  | [] => []
  | r :: rs => mkR a r.length :: mkT (a + 2 * r.length) rs
theorem cntF_le (t : Tri) (h : ∀ r ∈ t, r.length ≤ 1048576) : cntF t ≤ 2097152 * t.length := by
  induction t with
  | nil => simp [cntF]
  | cons r rs ih =>
    have h1 := h r (List.mem_cons_self ..)
    have h2 := ih (fun x hx => h x (List.mem_cons_of_mem _ hx))
    simp only [cntF, List.length_cons]; omega
theorem markGo_ev : ∀ (suf : Tri) (pre : Tri) (a : Int), (∀ r ∈ suf, r.length ≤ 1048576) → 0 ≤ a → a + cntF suf ≤ 4398046511104 → Ev (fun k => laws_markFaceSS.go k suf.length (pre ++ suf) a pre.length) (a + cntF suf, pre ++ mkT a suf)
  | [], pre, a, _, h0, h1 => ev_const' fun k => by simp [laws_markFaceSS.go, cntF, mkT]
  | r :: rs, pre, a, hr, h0, h1 => by
    simp only [cntF] at h1
    have hm := markFaceS_ev r a (by have := hr r (List.mem_cons_self ..); omega) h0 (by omega)
    have ih := markGo_ev rs (pre ++ [mkR a r.length]) (a + 2 * r.length) (fun x hx => hr x (List.mem_cons_of_mem _ hx)) (by omega) (by omega)
    simp only [List.length_cons, laws_markFaceSS.go]
    have e0 : List.getD (pre ++ r :: rs) pre.length [] = r := by simp
    rw [e0]
    refine Ev.bind hm ?_
    dsimp only
    have e1 : (pre ++ r :: rs).set pre.length (mkR a r.length) = pre ++ [mkR a r.length] ++ rs := by
      rw [List.set_append_right _ _ (Nat.le_refl _), Nat.sub_self, List.set_cons_zero]; simp
    rw [e1]
    have e2 : pre.length + 1 = (pre ++ [mkR a r.length]).length := by simp
    rw [e2]
    have e3 : (a + ((cntF (r :: rs) : Nat) : Int), pre ++ mkT a (r :: rs)) = (a + 2 * r.length + (cntF rs : Int), pre ++ [mkR a r.length] ++ mkT (a + 2 * r.length) rs) := by
      simp only [cntF, mkT, List.append_assoc, List.singleton_append]; congr 1; omega
    rw [e3]
    exact ih
theorem markTriangulation_ev (t : Tri) (a : Int) (hs : Small t) (h0 : 0 ≤ a) (h1 : a ≤ 1048576) : Ev (fun k => laws_markTriangulation.f k t a) (a + cntF t, mkT a t) := by
  have := markGo_ev t [] a hs.2 h0 (by have := cntF_le t hs.2; have := hs.1; omega)
  rw [List.nil_append, List.nil_append] at this
  exact this
end Go.Proofs.Ytfaagdpopmnnpaa.P

-- Printed by a program of this session (drv.py), by means of the kit's print.py.
namespace Go.Proofs.Ytfaagdpopmnnpaa.P
open Go.RowKit Go.Proofs.YtfaagdpopmnnpaaW.PrintWords Go.Proofs.YtfaagdpopmnnpaaW.PrintLast Go.Proofs.YtfaagdpopmnnpaaW.PrintMore
attribute [local go_sem] max2_int min2_int max_two min_two max_three min_three max_four min_four   -- for this text's walks alone
set_option linter.unusedVariables false
set_option linter.unusedSimpArgs false
/-! ### laws_toInt64S: function 45 -/
def laws_toInt64S.l0 : Nat → List Int → List Int → Int → Option (List Int)
  | 0, _, _, _ => none
  | k + 1, x0, x3, x4 => if x4 < (x0.length : Int) then (if 0 ≤ x4 then (if x4 < (x3.length : Int) then (laws_toInt64S.l0 k x0 (x3.set (x4 : Int).toNat (rd x0 x4)) (wrap64 (x4 + 1))) else (none)) else (none)) else (some x3)
theorem laws_toInt64S.mono_l : ∀ k, (∀ y0 y1 y2, LeO (laws_toInt64S.l0 k y0 y1 y2) (laws_toInt64S.l0 (k + 1) y0 y1 y2))
  | 0 => fun _ _ _ r h => by simp [laws_toInt64S.l0] at h
  | k + 1 => by
    have ih0 := laws_toInt64S.mono_l k
    · intro y0 y1 y2
      unfold laws_toInt64S.l0
      repeat' first
      | (with_reducible exact ih0 _ _ _)
      | (with_reducible exact LeO.refl _)
      | (with_reducible exact LeO.none _)
      | (with_reducible refine LeO.ite ?_ ?_)
      | (with_reducible refine LeO.bind ?_ (fun _ => ?_))
      | exact ih0 _ _ _
      | exact LeO.none _
      | refine LeO.ite ?_ ?_
      | refine LeO.bind ?_ (fun _ => ?_)
end Go.Proofs.Ytfaagdpopmnnpaa.P

/- What the laws' own functions on lists of whole numbers come to: the copy, the comparison, the marks. -/
namespace Go.Proofs.Ytfaagdpopmnnpaa.P
open Go.RowKit Go.Proofs.YtfaagdpopmnnpaaW.PrintWords Go.Proofs.Ytfaagdpopmnnpaa.Lib
set_option linter.unusedVariables false
theorem eqInt64S_ev (l : List Int) (h : l.length ≤ 4398046511104) : Ev (fun k => laws_eqInt64S.f k l l) true := by
  have hl : Ev (fun k => laws_eqInt64S.l0 k l l 0) true := by
    refine ev_loop0 (fun k (s : Int) => laws_eqInt64S.l0 k l l s) (fun s => ∃ n : Nat, n ≤ l.length ∧ s = n) (fun s => l.length - s.toNat) (fun _ => true) ?_ 0 ⟨0, by omega, rfl⟩
    rintro i ⟨n, hn, rfl⟩
    by_cases hlt : n < l.length
    · refine .inr ⟨((n + 1 : Nat) : Int), ⟨n + 1, by omega, rfl⟩, by simp; omega, rfl, fun k => ?_⟩
      simp only [laws_eqInt64S.l0]
      rw [if_pos (by omega), if_pos (by omega), if_pos (by omega), if_pos trivial, wrap_succ (by omega)]
    · refine .inl fun k => ?_
      simp only [laws_eqInt64S.l0]
      rw [if_neg (by omega)]
  refine Ev.congr (fun k => ?_) hl
  unfold laws_eqInt64S.f
  rw [if_pos rfl]
theorem take_set_up (l : List Int) (a : Int) (n : Nat) (h : n < l.length) : (upFrom a n ++ l.drop n).set n (a + n) = upFrom a (n + 1) ++ l.drop (n + 1) := by
  rw [List.set_append_right _ _ (by rw [upFrom_length]; omega), upFrom_length, Nat.sub_self, List.drop_eq_getElem_cons h, List.set_cons_zero, upFrom_snoc, List.append_assoc]
  rfl
theorem markInt64S_ev (l : List Int) (a : Int) (h : l.length ≤ 4398046511104) (h0 : 0 ≤ a) (h1 : a ≤ 4398046511104) : Ev (fun k => laws_markInt64S.f k l a) (a + l.length, upFrom a l.length) := by
  have hl : Ev (fun k => laws_markInt64S.l0 k l a 0) (a + l.length, upFrom a l.length) := by
    refine ev_loop0 (fun k (s : List Int × Int × Int) => laws_markInt64S.l0 k s.1 s.2.1 s.2.2) (fun s => ∃ n : Nat, n ≤ l.length ∧ s.2.2 = n ∧ s.2.1 = a + n ∧ s.1 = upFrom a n ++ l.drop n) (fun s => l.length - s.2.2.toNat) (fun _ => (a + l.length, upFrom a l.length)) ?_ (l, a, 0) ⟨0, by omega, rfl, by simp, by simp [upFrom]⟩
    rintro ⟨x, b, i⟩ ⟨n, hn, rfl, rfl, rfl⟩
    dsimp only
    have hlen : (upFrom a n ++ l.drop n).length = l.length := by simp [upFrom_length]; omega
    by_cases hlt : n < l.length
    · refine .inr ⟨(upFrom a (n + 1) ++ l.drop (n + 1), a + ((n + 1 : Nat) : Int), ((n + 1 : Nat) : Int)), ⟨n + 1, by omega, rfl, rfl, rfl⟩, by simp; omega, rfl, fun k => ?_⟩
      simp only [laws_markInt64S.l0]
      rw [if_pos (by rw [hlen]; omega), if_pos (by omega), wrap_succ (by omega), Int.toNat_natCast, take_set_up l a n hlt, wrap_id (by omega) (by omega)]
      congr 1; omega
    · obtain rfl : n = l.length := by omega
      refine .inl fun k => ?_
      simp only [laws_markInt64S.l0]
      rw [if_neg (by rw [hlen]; omega)]
      simp
  exact hl
theorem heldInt64S_ev (a : Int) (m : Nat) (h : m ≤ 4398046511104) (h0 : 0 ≤ a) (h1 : a ≤ 4398046511104) : Ev (fun k => laws_heldInt64S.f k (upFrom a m) a) (a + m) := by
  have hl : Ev (fun k => laws_heldInt64S.l0 k (upFrom a m) a 0) (a + m) := by
    refine ev_loop0 (fun k (s : Int × Int) => laws_heldInt64S.l0 k (upFrom a m) s.1 s.2) (fun s => ∃ n : Nat, n ≤ m ∧ s.2 = n ∧ s.1 = a + n) (fun s => m - s.2.toNat) (fun _ => a + m) ?_ (a, 0) ⟨0, by omega, rfl, by simp⟩
    rintro ⟨b, i⟩ ⟨n, hn, rfl, rfl⟩
    dsimp only
    by_cases hlt : n < m
    · refine .inr ⟨(a + ((n + 1 : Nat) : Int), ((n + 1 : Nat) : Int)), ⟨n + 1, by omega, rfl, rfl⟩, by simp; omega, rfl, fun k => ?_⟩
      simp only [laws_heldInt64S.l0]
      rw [if_pos (by rw [upFrom_length]; omega), if_pos (by omega), if_pos (by rw [rd_nat, upFrom_get a m n hlt]), wrap_succ (by omega), wrap_id (by omega) (by omega)]
      congr 1; omega
    · obtain rfl : n = m := by omega
      refine .inl fun k => ?_
      simp only [laws_heldInt64S.l0]
      rw [if_neg (by rw [upFrom_length]; omega)]
  exact hl
end Go.Proofs.Ytfaagdpopmnnpaa.P

/- The pure statement of FnExactOrientationOf. -/
namespace Go.Proofs.Ytfaagdpopmnnpaa.Pure
open Go.RowKit Go.Proofs.Ytfaagdpopmnnpaa.P Go.Proofs.Ytfaagdpopmnnpaa.Lib Go.Proofs.YtfaagdpopmnnpaaW.PrintWords
theorem FnExactOrientationOf (l : List (List SLawFace)) (h : Fits l) : ∃ k, laws_FnExactOrientationOf.f k l = some true := by
  refine Ev.rounds ?_
  obtain ⟨r, hr, hs⟩ := szTriangulation_ev l h
  refine Ev.bind hr ?_
  by_cases hn : r < 0
  · exact ev_pos hn (Ev.now true)
  have hsm := hs hn
  have hto := toTriangulation_ev l hsm
  have hS := cvT_small hsm
  obtain ⟨o, hL, o1, hi⟩ := orientOf_ev hS
  have heq := eqInt64S_ev o.1 (by omega)
  have hh := heldInt64S_ev 1 o.1.length (by omega) (by omega) (by omega)
  refine ev_neg hn ?_
  refine Ev.bind hto ?_
  refine Ev.bind o1 ?_
  refine Ev.bind hto ?_
  refine Ev.bind hi ?_
  refine Ev.bind heq (ev_pos rfl (ev_pos rfl ?_))
  refine Ev.bind hto ?_
  refine Ev.bind (eqTriangulation_ev _ hS) (ev_pos rfl ?_)
  refine Ev.bind (markTriangulation_ev _ 1 hS (by omega) (by omega)) ?_
  refine ev_neg (by dsimp only; omega) ?_
  refine Ev.bind heq (ev_pos rfl (ev_pos rfl ?_))
  refine Ev.bind (markInt64S_ev _ 1 (by omega) (by omega) (by omega)) ?_
  refine Ev.bind hh ?_
  refine ev_neg (by omega) (ev_pos rfl ?_)
  refine Ev.bind hto ?_
  refine Ev.bind hi ?_
  refine Ev.bind heq (ev_pos rfl (ev_pos rfl ?_))
  refine Ev.bind hh ?_
  exact ev_neg (by omega) (ev_pos rfl (Ev.now true))
end Go.Proofs.Ytfaagdpopmnnpaa.Pure

/- How an argument that reads as data reads as a list: slices of slices of structs of whole numbers, and structs that hold one slice. -/
namespace Go.Proofs.Ytfaagdpopmnnpaa.Lib
open Go.RowKit Go.Proofs.YtfaagdpopmnnpaaW.PrintWords Go.Joins Go.Deep Go.WideShapes Go.ChangeShapes
set_option linter.unusedVariables false
/-- Whatever reads as data at type t reads as a value of the kind d. -/
def Opens (P : Program) (t : TypeId) {α : Type} (d : Kd α) : Prop := ∀ (H : Type) (enc : TypeId × Value → H) (w : World) (base : Nat) (spare : Nat → Bool) (held : Bool) (fuel : Nat) (cs : List Value) (x : DataW H × List MemPlace),
  DataW.trod enc P w base spare held fuel t cs = some x → ∃ y, d.K w y cs
theorem pick_list {α : Type} {R : Nat → α → Prop} : ∀ n, (∀ i, i < n → ∃ y, R i y) → ∃ ys : List α, ys.length = n ∧ ∀ j p, ys[j]? = some p → R j p
  | 0, _ => ⟨[], rfl, fun j p h => by simp at h⟩
  | n + 1, h => by
    obtain ⟨ys, hl, hr⟩ := pick_list n (fun i hi => h i (by omega))
    obtain ⟨y, hy⟩ := h n (by omega)
    refine ⟨ys ++ [y], by simp [hl], fun j p hj => ?_⟩
    by_cases hlt : j < n
    · rw [List.getElem?_append_left (by omega)] at hj
      exact hr j p hj
    · have hjn : j < (ys ++ [y]).length := (List.getElem?_eq_some_iff.1 hj).1
      have : j = n := by simp [hl] at hjn; omega
      subst this
      rw [List.getElem?_append_right (by omega), hl, Nat.sub_self] at hj
      injection hj with hj
      rw [← hj]
      exact hy
theorem opens_slice {P : Program} {t e : TypeId} {α : Type} {d : Kd α} (ht : P.underlying t = some (.slice e)) (hc : P.cellsOf e = d.sz) (h : Opens P e d) : Opens P t (Kd.slice e d) := by
  intro H enc w base spare held fuel cs x hx
  rcases open_slice ht hx with ⟨rfl, _⟩ | ⟨a, len, cap, m, n, D, Pl, rfl, hb, hl, hm, hmm, _, hi⟩
  · exact ⟨[], none, 0, rfl, Nat.le_refl _, Kd.C_nil d w⟩
  · have each : ∀ i, i < len → ∃ y, ∃ cs', w.cells? base (a.add (i * d.sz)) d.sz = some cs' ∧ d.K w y cs' := by
      intro i hil
      have him : i < m := by rw [hmm]; split <;> omega
      obtain ⟨cs', h1, h2⟩ := hi i him
      obtain ⟨y, hy⟩ := h H enc w base spare held n cs' _ h2
      rw [hc] at h1
      exact ⟨y, cs', h1, hy⟩
    obtain ⟨ys, hlen, hys⟩ := pick_list len each
    refine ⟨ys, some a, cap, by rw [hlen], by omega, rfl, ?_, fun _ => ⟨a, rfl, fun j p hj => ?_⟩⟩
    · unfold maxLen at hm; omega
    · obtain ⟨cs', h1, h2⟩ := hys j p hj
      obtain ⟨_, h3, h4⟩ := World.cells?_some h1
      refine ⟨cs', h3, h2, fun i u hu => ?_⟩
      have hil : i < d.sz := by rw [← h3]; exact (List.getElem?_eq_some_iff.1 hu).1
      rw [← hu, ← h4 i hil, Go.Deep.add_add]
theorem opens_struct2 {P : Program} {t : TypeId} {f0 f1 : Field} {α : Type} (hs : P.underlying t = some (.struct #[f0, f1])) (hone : oneCellFields P #[f0, f1] = true) (hC : P.cellsOf t = 2)
    (h0 : P.underlying f0.type = some (.int .i64)) (h1 : P.underlying f1.type = some (.int .i64)) (d : Kd α) (mk : Int → Int → α) (hK : ∀ w a b, d.K w (mk a b) [.int .i64 a, .int .i64 b]) : Opens P t d := by
  intro H enc w base spare held fuel cs x h
  obtain ⟨y0, y1, n, hx, hl, g0, g1⟩ := trod_struct2 hs h
  obtain ⟨o0, k0⟩ := hone_of hone 0 f0 rfl
  obtain ⟨o1, k1⟩ := hone_of hone 1 f1 rfl
  rw [hC] at hl
  match cs, hl with
  | [c0, c1], _ =>
    rw [o0, k0] at g0
    rw [o1, k1] at g1
    obtain ⟨a, e0, _, _⟩ := DataW.trod_int h0 g0
    obtain ⟨b, e1, _, _⟩ := DataW.trod_int h1 g1
    simp at e0 e1
    subst e0 e1
    exact ⟨mk a b, hK w a b⟩
section
variable {H : Type} {enc : TypeId × Value → H} {P : Program} {w : World} {base : Nat} {spare : Nat → Bool} {held : Bool}
theorem array1 {α : Type} {cs : Array α} (h : cs.size = 1) : ∃ c0, cs = #[c0] := by
  obtain ⟨l⟩ := cs
  match l, h with
  | [c0], _ => exact ⟨c0, rfl⟩
/-- A struct that holds one slice, by value. -/
theorem open_agg1 {r : Reach} {b0 : Nat} {t e : TypeId} {f0 : Field} {α : Type} {d : Kd α} {v : Value} {D : DataW H} {p : List MemPlace} (hs : P.underlying t = some (.struct #[f0])) (hone : oneCellFields P #[f0] = true) (hC : P.cellsOf t = 1)
    (ho : Opens P f0.type (Kd.slice e d)) (hv : Value.okWide P w r b0 t v) (h : DataW.Trod enc P w base spare held t v D p) :
    ∃ (A : Option Addr) (c : Nat) (l : List α), v = .agg #[.slice A l.length c] ∧ l.length ≤ c ∧ d.C w A l.length l := by
  obtain ⟨cs, rfl, hsz⟩ := okWide_struct hs hv
  obtain ⟨c0, rfl⟩ := array1 (hsz.trans hC)
  obtain ⟨fuel, hf⟩ := h
  obtain ⟨y0, n, hx, _, h0⟩ := trod_struct1 hs hf
  obtain ⟨o0, k0⟩ := hone_of hone 0 f0 rfl
  have h0' : DataW.trod enc P w base spare held n f0.type [c0] = some y0 := by simpa [Value.cells, o0, k0] using h0
  obtain ⟨l, A, c, e1, hl, hCC⟩ := ho H enc w base spare held n _ _ h0'
  simp at e1
  subst e1
  exact ⟨A, c, l, rfl, hl, hCC⟩
end
theorem fits_of_C {e : Nat} {α : Type} {d : Kd α} {w : World} {A : Option Addr} {l : List (List α)} (h : (Kd.slice e d).C w A l.length l) : l.length ≤ 9223372036854775807 ∧ ∀ r ∈ l, r.length ≤ 9223372036854775807 := by
  refine ⟨h.2.1, fun r hr => ?_⟩
  obtain ⟨j, hj, rfl⟩ := List.mem_iff_getElem.1 hr
  obtain ⟨ad, _, hc⟩ := h.2.2 (by omega)
  obtain ⟨c, _, hK, _⟩ := hc j _ (List.getElem?_eq_getElem hj)
  obtain ⟨A', c', _, _, hC⟩ := hK
  exact hC.2.1
end Go.Proofs.Ytfaagdpopmnnpaa.Lib

-- Printed by a program of this session (drv.py), by means of the kit's print.py.
namespace Go.Proofs.Ytfaagdpopmnnpaa.fnExactOrientationOf
open Go.ChangeShapes Go.WideShapes Go.ChangeAt Go.RowKit Go.Proofs.Ytfaagdpopmnnpaa.Lib Go.Proofs.YtfaagdpopmnnpaaW.PrintWords Go.Proofs.Ytfaagdpopmnnpaa.P
open Go.ChangeMaps (open_string shut_string)
set_option linter.unusedVariables false
theorem own : ownKnob Try.prog.godebug = none := by kernel_rfl
theorem laidOut : laidOutB Try.prog = true := by kernel_rfl
set_option maxRecDepth 100000 in
theorem lifted (os : Os) (started : os.Started) (H : Type) (enc : TypeId × Value → H) :
    ReturnsInHanded {} Try.checked os 5 .any (Rows.fnExactOrientationOfSpec.pre6 enc Try.prog Try.f5 Rows.fnExactOrientationOfRow.domain false) (Rows.fnExactOrientationOfSpec.post enc Try.prog Try.f5 false true false false) := by
  refine returnsInHanded_of_change_sized (C := Try.checked) own started (by kernel_rfl) Try.func5
    (ChangeSpec.witness6 (enc := enc) (C := Try.checked) false ⟨#[], #[.agg #[.slice none 0 0]], []⟩ 8 (by kernel_rfl) (by kernel_rfl) (by kernel_rfl) (by kernel_rfl)) ?_
  intro W base args ds gs before hval0 hW hcnd hsz0 _
  have hval : ∀ (j : Nat) t v, Try.f5.params[j]? = some t → args[j]? = some v → Value.okWide Try.prog W .any base t v := hval0
  have hW' := hW
  obtain ⟨p, q, hA0, hV, rfl, hfz, hnd⟩ := hW
  have hA : DataW.TrodAll enc Try.prog W 0 (fun _ => true) true Try.f5.params.toList args.toList ds p := hA0
  rw [Try.params5] at hA hval
  obtain ⟨v0, vs0, d0, ds0, p0, q0, hargs, rfl, rfl, h0, r0⟩ := trodAll_cons hA
  obtain ⟨rfl, rfl, rfl⟩ := trodAll_nil r0
  obtain rfl : args = #[v0] := by cases args; simp_all
  obtain ⟨rfl, rfl⟩ := trodVars_none hV
  have k0 := h0
  have lt0 : ∀ x ∈ p0, x.block < W.heap.size := by obtain ⟨m, hm⟩ := k0; exact DataW.trod_lt m _ _ _ hm
  obtain ⟨A0, c0, l0, rfl, hl0, hC0⟩ := open_agg1 Try.underlying24 (by kernel_rfl) (by kernel_rfl) (opens_slice Try.underlying22 (by kernel_rfl) (opens_slice Try.underlying109 (by kernel_rfl) (opens_struct2 Try.underlying135 (by kernel_rfl) (by kernel_rfl) Try.underlying2 Try.underlying2 kLawFace (fun a b => (⟨a, b⟩ : SLawFace)) (fun w a b => kLawFace_mk w ⟨a, b⟩)))) (hval 0 24 v0 rfl rfl) h0
  obtain ⟨k, hk⟩ := Pure.FnExactOrientationOf l0 (fits_of_C hC0)
  refine (laws_FnExactOrientationOf.calls k _ _ l0 W hC0 hl0 hk).mono fun e W' ⟨he, bel⟩ => ?_
  subst he
  exact ⟨_, rfl, _, _, _, [], _, [], hW', trodAll_mk1 (shut_bool Try.underlying4 _), (trodAll_cons_mk (Below.trod laidOut (by kernel_rfl) (of_decide_eq_true (by kernel_rfl)) k0 bel lt0) trodAll_mk0), rfl, bel.frame _, fun h => by cases h⟩
theorem over : Rows.fnExactOrientationOfRow.holds Try.pinned (OpenSpec.ofChange Rows.fnExactOrientationOfSpec) :=
  OpenClaim.holds_of_wide 5 Try.f5 rfl rfl rfl rfl rfl rfl rfl ⟨rfl, rfl, rfl, rfl, rfl⟩ rfl rfl rfl rfl rfl (by kernel_rfl) Try.func5 (by kernel_rfl)
    (of_decide_eq_true (by kernel_rfl)) (by unfold Func.isWrapper; first | (rw [if_pos (by decide +kernel)]; kernel_rfl) | (rw [if_neg (by decide +kernel)]; exact ⟨rfl, rfl⟩))
    (fun os started H enc _ => lifted os started H enc)
theorem proved : Rows.FnExactOrientationOfSaid := over
#print axioms proved
end Go.Proofs.Ytfaagdpopmnnpaa.fnExactOrientationOf
namespace Go.Proofs.Ytfaagdpopmnnpaa
/-- The row, under a short name, for the claim. -/
theorem fnExactOrientationOf_holds : Rows.FnExactOrientationOfSaid := fnExactOrientationOf.proved
end Go.Proofs.Ytfaagdpopmnnpaa
