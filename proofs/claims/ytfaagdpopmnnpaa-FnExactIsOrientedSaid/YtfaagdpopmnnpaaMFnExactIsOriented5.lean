/- The statement FnExactIsOrientedSaid, proved: part 5 of 5 (texts of this session and of the kit's print, put together and cut to what is used by a program of it). -/
import Derived.Test.YtfaagdpopmnnpaaMFnExactIsOriented4
import Derived.Deep.Slices
import Derived.ChangeSame
import Derived.ChangeArms
import Derived.WideShapes
import Derived.Lib.SmallJoins
import Derived.ChangeShapes
import Derived.Test.YtfaagdpopmnnpaaRows
import Derived.WalkKit
import Derived.ProofKit
import Derived.OpenShut
import Derived.ShutString
import Derived.ChangeOld
import Derived.Below
import Derived.SizedLaws
import Derived.Carry
-- Printed by a program of this session (drv.py), by means of the kit's print.py.
namespace Go.Proofs.Ytfaagdpopmnnpaa.P
open Go.RowKit Go.Proofs.YtfaagdpopmnnpaaW.PrintWords Go.Proofs.YtfaagdpopmnnpaaW.PrintLast Go.Proofs.YtfaagdpopmnnpaaW.PrintMore
attribute [local go_sem] max2_int min2_int max_two min_two max_three min_three max_four min_four   -- for this text's walks alone
set_option linter.unusedVariables false
set_option linter.unusedSimpArgs false
/-! ### spec_IsOriented: function 16 -/
mutual
def spec_IsOriented.l0 : Nat → Int → List (List (SFace)) → Option (Bool)
  | 0, _, _ => none
  | k + 1, x3, x102000 => if x3 < (x102000.length : Int) then (spec_IsOriented.l1 k x3 0 x102000) else (some true)
def spec_IsOriented.l1 : Nat → Int → Int → List (List (SFace)) → Option (Bool)
  | 0, _, _, _ => none
  | k + 1, x3, x4, x102000 => if x4 < 4 then (if 0 ≤ x3 then (if x3 < (x102000.length : Int) then (if 0 ≤ x4 then (if x4 < ((rd_LFace x102000 x3).length : Int) then (if ((rd_Face (rd_LFace x102000 x3) x4).f0) ≥ 0 then ((spec_SignPerm4.f k ((rd_Face (rd_LFace x102000 x3) x4).f1)).bind fun t107 => (if t107 = 1 then (some false) else (spec_IsOriented.l1 k x3 (wrap64 (x4 + 1)) x102000))) else (spec_IsOriented.l1 k x3 (wrap64 (x4 + 1)) x102000)) else (none)) else (none)) else (none)) else (none)) else (spec_IsOriented.l0 k (wrap64 (x3 + 1)) x102000)
end
def spec_IsOriented.f (k : Nat) (l0_0 : List (List (SFace))) : Option (Bool) := (spec_IsTriangulation.f k l0_0).bind fun t102 => (if t102 = true then (spec_IsOriented.l0 k 0 l0_0) else (some false))
theorem spec_IsOriented.mono_l : ∀ k, (∀ y0 y1, LeO (spec_IsOriented.l0 k y0 y1) (spec_IsOriented.l0 (k + 1) y0 y1)) ∧ (∀ y0 y1 y2, LeO (spec_IsOriented.l1 k y0 y1 y2) (spec_IsOriented.l1 (k + 1) y0 y1 y2))
  | 0 => ⟨fun _ _ r h => by simp [spec_IsOriented.l0] at h, fun _ _ _ r h => by simp [spec_IsOriented.l1] at h⟩
  | k + 1 => by
    obtain ⟨ih0, ih1⟩ := spec_IsOriented.mono_l k
    refine ⟨?_, ?_⟩
    · intro y0 y1
      unfold spec_IsOriented.l0
      repeat' first
      | (with_reducible exact ih0 _ _)
      | (with_reducible exact ih1 _ _ _)
      | (with_reducible exact spec_IsTriangulation.mono _ _)
      | (with_reducible exact spec_SignPerm4.mono _ _)
      | (with_reducible exact LeO.refl _)
      | (with_reducible exact LeO.none _)
      | (with_reducible refine LeO.ite ?_ ?_)
      | (with_reducible refine LeO.bind ?_ (fun _ => ?_))
      | exact ih0 _ _
      | exact ih1 _ _ _
      | exact spec_IsTriangulation.mono _ _
      | exact spec_SignPerm4.mono _ _
      | exact LeO.none _
      | refine LeO.ite ?_ ?_
      | refine LeO.bind ?_ (fun _ => ?_)
    · intro y0 y1 y2
      unfold spec_IsOriented.l1
      repeat' first
      | (with_reducible exact ih0 _ _)
      | (with_reducible exact ih1 _ _ _)
      | (with_reducible exact spec_IsTriangulation.mono _ _)
      | (with_reducible exact spec_SignPerm4.mono _ _)
      | (with_reducible exact LeO.refl _)
      | (with_reducible exact LeO.none _)
      | (with_reducible refine LeO.ite ?_ ?_)
      | (with_reducible refine LeO.bind ?_ (fun _ => ?_))
      | exact ih0 _ _
      | exact ih1 _ _ _
      | exact spec_IsTriangulation.mono _ _
      | exact spec_SignPerm4.mono _ _
      | exact LeO.none _
      | refine LeO.ite ?_ ?_
      | refine LeO.bind ?_ (fun _ => ?_)
set_option maxHeartbeats 8000000 in
set_option maxRecDepth 100000 in
theorem spec_IsOriented.calls (k : Nat) (A0_0 : Option Addr) (c0_0 : Nat) (l0_0 : List (List (SFace))) (r : Bool) (w : World) (hr0_0 : Kd.C (Kd.slice 66 kFace) w A0_0 l0_0.length l0_0) (hc0_0 : l0_0.length ≤ c0_0) (h : spec_IsOriented.f k l0_0 = some r) :
    Calls Try.prog 16 #[.agg #[.slice A0_0 l0_0.length c0_0]] w fun e w' => e = .returned (.bool r) ∧ Below w.heap.size w w' := by
  have hu29 := Try.underlying29
  have HR0_0 := Aside0.mk hr0_0
  have HC0_0 := Aside0.mk hc0_0
  clear hr0_0 hc0_0
  have HB := Aside0.mk (Below.refl w.heap.size w)
  have H : ((spec_IsTriangulation.f k l0_0).bind fun t102 => (if t102 = true then (spec_IsOriented.l0 k 0 l0_0) else (some false))) = some r := h
  clear h
  replace H := Option.bind_eq_some_iff.mp H
  obtain ⟨t102, A20, H⟩ := H
  replace H : (if t102 = true then (spec_IsOriented.l0 k 0 l0_0) else (some false)) = some r := H
  have A2 := Aside0.mk A20
  clear A20
  by_cases c3 : t102 = true
  · subst c3
    have H1 : (spec_IsOriented.l0 k 0 l0_0) = some r := by rw [if_pos rfl] at H; exact H
    clear H
    have H := H1
    clear H1
    have H' := Aside0.mk H
    clear H
    go_enter Try.func16, Try.ntmps16
    go_wp2_with (first | ((with_reducible refine gate_dst (N := 1) rfl ?_); refine box_event ?hg (N := 1) ?hd (cs := #[.slice A0_0 l0_0.length c0_0]) (t := 29) ?hr ?_; (case hd => rfl); (case hg => rfl); (case hr => first | (go_simp; done) | (go_simp; rfl)); intro gb101 hg w4 hbox hb; have n0_ := Aside0.mk (below_step (by repeat (first | (with_reducible first | exact HB.out | apply below_alloc | apply pw_below_drewN | apply below_drew1) | exact HB.out)) hb); have n1_ := Aside0.mk (hbox); have n2_ := Aside0.mk ((by rw [hg]; exact (below_size (by repeat (first | (with_reducible first | exact HB.out | apply below_alloc | apply pw_below_drewN | apply below_drew1) | exact HB.out))) : w.heap.size ≤ gb101)); have n3_ := Aside0.mk ((by rw [hg]; exact (below_size (by repeat (first | (with_reducible first | exact HB.out | apply below_alloc | apply pw_below_drewN | apply below_drew1) | exact HB.out))) : w.heap.size ≤ gb101)); clear HB; have HB := n0_; have BK101 := n1_; have GW101 := n2_; have GE101 := n3_; clear n0_ n1_ n2_ n3_; clear hb hbox hg; have hcz5_0 : w4.cell? ⟨gb101, 0, none⟩ = some (.slice A0_0 l0_0.length c0_0) := (blk_cell BK101.out 0).trans rfl; have hfz5_0 := blk_frozen BK101.out 0) | ((with_reducible refine gate_callee (f := 59) rfl ?_); refine goesL_ (some 6) rfl rfl Try.func59 (by kernel_rfl) rfl #[.agg #[.slice A0_0 l0_0.length c0_0]] rfl (by (try simp only [List.map_toArray, List.map_cons, List.map_nil]); first | done | rfl | (simp only [List.length_drop, List.length_take]; rfl)) ?_; (with_reducible refine (spec_IsTriangulation.calls k _ _ l0_0 true _ ?side1 ?side2 A2.out).mono ?_); (case side1 => repeat (first | exact (Kd.C_below HR0_0.out HB.out) | (with_reducible refine Kd.C_alloc ?_ _) | (with_reducible refine Kd.C_drewN ?_ _) | (with_reducible refine Kd.C_drew ?_))); (case side2 => exact HC0_0.out); rintro e w6 ⟨rfl, hb⟩; refine ⟨_, rfl, ?_⟩; have n0_ := Aside0.mk (blk_below (g := gb101) (o := .cells #[.slice A0_0 l0_0.length c0_0] 29 (0, 0)) (by (with_reducible repeat (first | refine blk_drewN ?_ _ | refine blk_drew ?_ | refine blk_alloc ?_ _)); exact BK101.out) hb); have n1_ := Aside0.mk (below_step (by repeat (first | (with_reducible first | exact HB.out | apply below_alloc | apply pw_below_drewN | apply below_drew1 | refine below_set ?_ GE101.out) | exact HB.out)) hb); clear BK101; clear HB; have BK101 := n0_; have HB := n1_; clear n0_ n1_; (try clear hb); (try clear hb2); (try clear hk); (try clear hi)))
    go_loopg [3] k (fun kq v3 w' => ∃ (x3_1 : Int), v3 = .int .i64 x3_1 ∧ Aside0 (spec_IsOriented.l0 kq x3_1 l0_0 = some r) ∧ Aside0 (kq ≤ k) ∧ Aside0 (w'.heap[gb101]? = some (.cells #[(.slice A0_0 l0_0.length c0_0)] 29 (0, 0))) ∧ Aside0 (Below w.heap.size w w'))
    case atStart => exact ⟨(0), (by first | rfl | (simp; done) | (simp [*]; done)), H', ⟨Nat.le_refl _⟩, ⟨by (with_reducible repeat (first | refine blk_drewN ?_ _ | refine blk_drew ?_ | refine blk_alloc ?_ _)); exact BK101.out⟩, ⟨by repeat (first | (with_reducible first | exact HB.out | apply below_alloc | apply pw_below_drewN | apply below_drew1 | refine below_set ?_ GE101.out) | exact HB.out)⟩⟩
    case round =>
      clear H'
      try clear c1
      try clear p2
      try clear c3
      try clear c5
      try clear hcz5_0
      try clear hfz5_0
      obtain ⟨x3_1, rfl, HA, HK1, BK101, HB⟩ := hrel
      cases gk with
      | zero => exact absurd HA.out (by simp [spec_IsOriented.l0])
      | succ k1 =>
        have H := HA.out
        clear HA
        simp only [spec_IsOriented.l0] at H
        by_cases c7 : x3_1 < (l0_0.length : Int)
        · rw [if_pos c7] at H
          have c7b0 : decide (x3_1 < (l0_0.length : Int)) = true := decide_eq_true c7
          clear c7
          have H' := Aside0.mk H
          clear H
          have hcz8_0 : wr.cell? ⟨gb101, 0, none⟩ = some (.slice A0_0 l0_0.length c0_0) := (blk_cell BK101.out 0).trans rfl
          have hfz8_0 := blk_frozen BK101.out 0
          go_wp2
          go_loopg [4] k1 (fun kq v4 w' => ∃ (x4_2 : Int), v4 = .int .i64 x4_2 ∧ Aside0 (spec_IsOriented.l1 kq x3_1 x4_2 l0_0 = some r) ∧ Aside0 (kq ≤ k1) ∧ Aside0 (w'.heap[gb101]? = some (.cells #[(.slice A0_0 l0_0.length c0_0)] 29 (0, 0))) ∧ Aside0 (Below w.heap.size w w'))
          case atStart => exact ⟨(0), (by first | rfl | (simp; done) | (simp [*]; done)), H', ⟨Nat.le_refl _⟩, ⟨by (with_reducible repeat (first | refine blk_drewN ?_ _ | refine blk_drew ?_ | refine blk_alloc ?_ _)); exact BK101.out⟩, ⟨by repeat (first | (with_reducible first | exact HB.out | apply below_alloc | apply pw_below_drewN | apply below_drew1 | refine below_set ?_ GE101.out) | exact HB.out)⟩⟩
          case round =>
            clear H'
            try clear c1
            try clear p2
            try clear c3
            try clear c5
            try clear c7
            try clear c7b0
            try clear hcz5_0
            try clear hcz8_0
            try clear hfz5_0
            try clear hfz8_0
            try clear p2
            obtain ⟨x4_2, rfl, HA, HK2, BK101, HB⟩ := hrel
            cases gk with
            | zero => exact absurd HA.out (by simp [spec_IsOriented.l1])
            | succ k2 =>
              have H := HA.out
              clear HA
              simp only [spec_IsOriented.l1] at H
              by_cases c9 : x4_2 < 4
              · rw [if_pos c9] at H
                have c9b0 : decide (x4_2 < 4) = true := decide_eq_true c9
                clear c9
                by_cases c10 : 0 ≤ x3_1
                · rw [if_pos c10] at H
                  have c10b0 : decide (0 ≤ x3_1) = true := decide_eq_true c10
                  clear c10
                  by_cases c11 : x3_1 < (l0_0.length : Int)
                  · rw [if_pos c11] at H
                    have c11b0 : decide (x3_1 < (l0_0.length : Int)) = true := decide_eq_true c11
                    clear c11
                    by_cases c12 : 0 ≤ x4_2
                    · rw [if_pos c12] at H
                      have c12b0 : decide (0 ≤ x4_2) = true := decide_eq_true c12
                      clear c12
                      by_cases c13 : x4_2 < ((rd_LFace l0_0 x3_1).length : Int)
                      · rw [if_pos c13] at H
                        have c13b0 : decide (x4_2 < ((rd_LFace l0_0 x3_1).length : Int)) = true := decide_eq_true c13
                        clear c13
                        by_cases c14 : ((rd_Face (rd_LFace l0_0 x3_1) x4_2).f0) ≥ 0
                        · rw [if_pos c14] at H
                          have c14b0 : decide (0 ≤ ((rd_Face (rd_LFace l0_0 x3_1) x4_2).f0)) = true := decide_eq_true c14
                          clear c14
                          replace H := Option.bind_eq_some_iff.mp H
                          obtain ⟨t107, A150, H⟩ := H
                          replace H : (if t107 = 1 then (some false) else (spec_IsOriented.l1 k2 x3_1 (wrap64 (x4_2 + 1)) l0_0)) = some r := H
                          have A15 := Aside0.mk A150
                          clear A150
                          by_cases c16 : t107 = 1
                          · rw [if_pos c16] at H
                            have c16b0 : (t107 == 1) = true := beq_iff_eq.mpr c16
                            have c16b1 : (t107 != 1) = false := bne_eq_false_iff_eq.mpr c16
                            clear c16
                            obtain rfl := Option.some.inj H
                            have hcz17_0 : wr.cell? ⟨gb101, 0, none⟩ = some (.slice A0_0 l0_0.length c0_0) := (blk_cell BK101.out 0).trans rfl
                            have hfz17_0 := blk_frozen BK101.out 0
                            have p103 : 0 ≤ (x3_1 : Int) := of_decide_eq_true (by first | (with_reducible assumption) | assumption)
                            have q103 : x3_1 < (l0_0.length : Int) := of_decide_eq_true (by first | (with_reducible assumption) | assumption)
                            obtain ⟨ad103, A103_0, c103_0, e103, hx103_0, hl103_0, hi103_0⟩ := at_LFace HR0_0.out x3_1 p103 q103
                            cases e103
                            replace hx103_0 := (HB.out.cell (World.block_lt_of_cell? w _ hx103_0)).trans hx103_0
                            have HR103_0 := Aside0.mk hi103_0
                            have HC103_0 := Aside0.mk hl103_0
                            clear hi103_0 hl103_0
                            replace p103 := eq_true p103
                            replace q103 := eq_true q103
                            have p104 : 0 ≤ (x4_2 : Int) := of_decide_eq_true (by first | (with_reducible assumption) | assumption)
                            have q104 : x4_2 < ((rd_LFace l0_0 x3_1).length : Int) := of_decide_eq_true (by first | (with_reducible assumption) | assumption)
                            obtain ⟨ad104, e104, hx104_0, hx104_1⟩ := at_Face HR103_0.out x4_2 p104 q104
                            cases e104
                            replace hx104_0 := (HB.out.cell (World.block_lt_of_cell? w _ hx104_0)).trans hx104_0
                            replace hx104_1 := (HB.out.cell (World.block_lt_of_cell? w _ hx104_1)).trans hx104_1
                            replace p104 := eq_true p104
                            replace q104 := eq_true q104
                            have p105 : 0 ≤ (x3_1 : Int) := of_decide_eq_true (by first | (with_reducible assumption) | assumption)
                            have q105 : x3_1 < (l0_0.length : Int) := of_decide_eq_true (by first | (with_reducible assumption) | assumption)
                            obtain ⟨ad105, A105_0, c105_0, e105, hx105_0, hl105_0, hi105_0⟩ := at_LFace HR0_0.out x3_1 p105 q105
                            obtain rfl : ad103 = ad105 := (by injection e105)
                            replace hx105_0 := (HB.out.cell (World.block_lt_of_cell? w _ hx105_0)).trans hx105_0
                            have HR105_0 := Aside0.mk hi105_0
                            have HC105_0 := Aside0.mk hl105_0
                            clear hi105_0 hl105_0
                            replace p105 := eq_true p105
                            replace q105 := eq_true q105
                            have ea_ := Option.some.inj (hx103_0.symm.trans hx105_0)
                            injection ea_ with ea_ en_ ec_
                            subst ea_
                            subst ec_
                            clear en_
                            have p106 : 0 ≤ (x4_2 : Int) := of_decide_eq_true (by first | (with_reducible assumption) | assumption)
                            have q106 : x4_2 < ((rd_LFace l0_0 x3_1).length : Int) := of_decide_eq_true (by first | (with_reducible assumption) | assumption)
                            obtain ⟨ad106, e106, hx106_0, hx106_1⟩ := at_Face HR105_0.out x4_2 p106 q106
                            cases e106
                            replace hx106_0 := (HB.out.cell (World.block_lt_of_cell? w _ hx106_0)).trans hx106_0
                            replace hx106_1 := (HB.out.cell (World.block_lt_of_cell? w _ hx106_1)).trans hx106_1
                            replace p106 := eq_true p106
                            replace q106 := eq_true q106
                            go_wp2_with (first | (go_at_call 60; (with_reducible refine (spec_SignPerm4.calls k2 ((rd_Face (rd_LFace l0_0 x3_1) x4_2).f1) t107 _ A15.out).mono ?_); rintro e w18 ⟨rfl, hb⟩; have n0_ := Aside0.mk (blk_below (g := gb101) (o := .cells #[.slice (some ad103) l0_0.length c0_0] 29 (0, 0)) (by (with_reducible repeat (first | refine blk_drewN ?_ _ | refine blk_drew ?_ | refine blk_alloc ?_ _)); exact BK101.out) hb); have n1_ := Aside0.mk (below_step (by repeat (first | (with_reducible first | exact HB.out | apply below_alloc | apply pw_below_drewN | apply below_drew1 | refine below_set ?_ GE101.out) | exact HB.out)) hb); clear BK101; clear HB; have BK101 := n0_; have HB := n1_; clear n0_ n1_; (try clear hb); (try clear hb2); (try clear hk); (try clear hi)))
                            go_ret
                            exact ⟨by first | rfl | (simp [errW_none, errW_some] <;> rfl) | (simp [*, errW_none, errW_some] <;> rfl), by repeat (first | (with_reducible first | exact HB.out | apply below_alloc | apply pw_below_drewN | apply below_drew1 | refine below_set ?_ GE101.out) | exact HB.out)⟩
                          · rw [if_neg c16] at H
                            have c16b0 : (t107 == 1) = false := beq_eq_false_iff_ne.mpr c16
                            have c16b1 : (t107 != 1) = true := bne_iff_ne.mpr c16
                            have H' := Aside0.mk H
                            clear H
                            have hcz19_0 : wr.cell? ⟨gb101, 0, none⟩ = some (.slice A0_0 l0_0.length c0_0) := (blk_cell BK101.out 0).trans rfl
                            have hfz19_0 := blk_frozen BK101.out 0
                            have p103 : 0 ≤ (x3_1 : Int) := of_decide_eq_true (by first | (with_reducible assumption) | assumption)
                            have q103 : x3_1 < (l0_0.length : Int) := of_decide_eq_true (by first | (with_reducible assumption) | assumption)
                            obtain ⟨ad103, A103_0, c103_0, e103, hx103_0, hl103_0, hi103_0⟩ := at_LFace HR0_0.out x3_1 p103 q103
                            cases e103
                            replace hx103_0 := (HB.out.cell (World.block_lt_of_cell? w _ hx103_0)).trans hx103_0
                            have HR103_0 := Aside0.mk hi103_0
                            have HC103_0 := Aside0.mk hl103_0
                            clear hi103_0 hl103_0
                            replace p103 := eq_true p103
                            replace q103 := eq_true q103
                            have p104 : 0 ≤ (x4_2 : Int) := of_decide_eq_true (by first | (with_reducible assumption) | assumption)
                            have q104 : x4_2 < ((rd_LFace l0_0 x3_1).length : Int) := of_decide_eq_true (by first | (with_reducible assumption) | assumption)
                            obtain ⟨ad104, e104, hx104_0, hx104_1⟩ := at_Face HR103_0.out x4_2 p104 q104
                            cases e104
                            replace hx104_0 := (HB.out.cell (World.block_lt_of_cell? w _ hx104_0)).trans hx104_0
                            replace hx104_1 := (HB.out.cell (World.block_lt_of_cell? w _ hx104_1)).trans hx104_1
                            replace p104 := eq_true p104
                            replace q104 := eq_true q104
                            have p105 : 0 ≤ (x3_1 : Int) := of_decide_eq_true (by first | (with_reducible assumption) | assumption)
                            have q105 : x3_1 < (l0_0.length : Int) := of_decide_eq_true (by first | (with_reducible assumption) | assumption)
                            obtain ⟨ad105, A105_0, c105_0, e105, hx105_0, hl105_0, hi105_0⟩ := at_LFace HR0_0.out x3_1 p105 q105
                            obtain rfl : ad103 = ad105 := (by injection e105)
                            replace hx105_0 := (HB.out.cell (World.block_lt_of_cell? w _ hx105_0)).trans hx105_0
                            have HR105_0 := Aside0.mk hi105_0
                            have HC105_0 := Aside0.mk hl105_0
                            clear hi105_0 hl105_0
                            replace p105 := eq_true p105
                            replace q105 := eq_true q105
                            have ea_ := Option.some.inj (hx103_0.symm.trans hx105_0)
                            injection ea_ with ea_ en_ ec_
                            subst ea_
                            subst ec_
                            clear en_
                            have p106 : 0 ≤ (x4_2 : Int) := of_decide_eq_true (by first | (with_reducible assumption) | assumption)
                            have q106 : x4_2 < ((rd_LFace l0_0 x3_1).length : Int) := of_decide_eq_true (by first | (with_reducible assumption) | assumption)
                            obtain ⟨ad106, e106, hx106_0, hx106_1⟩ := at_Face HR105_0.out x4_2 p106 q106
                            cases e106
                            replace hx106_0 := (HB.out.cell (World.block_lt_of_cell? w _ hx106_0)).trans hx106_0
                            replace hx106_1 := (HB.out.cell (World.block_lt_of_cell? w _ hx106_1)).trans hx106_1
                            replace p106 := eq_true p106
                            replace q106 := eq_true q106
                            go_wp2_with (first | (go_at_call 60; (with_reducible refine (spec_SignPerm4.calls k2 ((rd_Face (rd_LFace l0_0 x3_1) x4_2).f1) t107 _ A15.out).mono ?_); rintro e w20 ⟨rfl, hb⟩; have n0_ := Aside0.mk (blk_below (g := gb101) (o := .cells #[.slice (some ad103) l0_0.length c0_0] 29 (0, 0)) (by (with_reducible repeat (first | refine blk_drewN ?_ _ | refine blk_drew ?_ | refine blk_alloc ?_ _)); exact BK101.out) hb); have n1_ := Aside0.mk (below_step (by repeat (first | (with_reducible first | exact HB.out | apply below_alloc | apply pw_below_drewN | apply below_drew1 | refine below_set ?_ GE101.out) | exact HB.out)) hb); clear BK101; clear HB; have BK101 := n0_; have HB := n1_; clear n0_ n1_; (try clear hb); (try clear hb2); (try clear hk); (try clear hi)))
                            go_roundg k2
                            case measure => have := HK1.out; have := HK2.out; omega
                            case rel => exact ⟨(wrap64 (x4_2 + 1)), (by first | rfl | (simp; done) | (simp [*]; done)), H', ⟨by have := HK1.out; have := HK2.out; omega⟩, ⟨by (with_reducible repeat (first | refine blk_drewN ?_ _ | refine blk_drew ?_ | refine blk_alloc ?_ _)); exact BK101.out⟩, ⟨by repeat (first | (with_reducible first | exact HB.out | apply below_alloc | apply pw_below_drewN | apply below_drew1 | refine below_set ?_ GE101.out) | exact HB.out)⟩⟩
                        · rw [if_neg c14] at H
                          have c14b0 : decide (0 ≤ ((rd_Face (rd_LFace l0_0 x3_1) x4_2).f0)) = false := decide_eq_false c14
                          clear c14
                          have H' := Aside0.mk H
                          clear H
                          have hcz21_0 : wr.cell? ⟨gb101, 0, none⟩ = some (.slice A0_0 l0_0.length c0_0) := (blk_cell BK101.out 0).trans rfl
                          have hfz21_0 := blk_frozen BK101.out 0
                          have p103 : 0 ≤ (x3_1 : Int) := of_decide_eq_true (by first | (with_reducible assumption) | assumption)
                          have q103 : x3_1 < (l0_0.length : Int) := of_decide_eq_true (by first | (with_reducible assumption) | assumption)
                          obtain ⟨ad103, A103_0, c103_0, e103, hx103_0, hl103_0, hi103_0⟩ := at_LFace HR0_0.out x3_1 p103 q103
                          cases e103
                          replace hx103_0 := (HB.out.cell (World.block_lt_of_cell? w _ hx103_0)).trans hx103_0
                          have HR103_0 := Aside0.mk hi103_0
                          have HC103_0 := Aside0.mk hl103_0
                          clear hi103_0 hl103_0
                          replace p103 := eq_true p103
                          replace q103 := eq_true q103
                          have p104 : 0 ≤ (x4_2 : Int) := of_decide_eq_true (by first | (with_reducible assumption) | assumption)
                          have q104 : x4_2 < ((rd_LFace l0_0 x3_1).length : Int) := of_decide_eq_true (by first | (with_reducible assumption) | assumption)
                          obtain ⟨ad104, e104, hx104_0, hx104_1⟩ := at_Face HR103_0.out x4_2 p104 q104
                          cases e104
                          replace hx104_0 := (HB.out.cell (World.block_lt_of_cell? w _ hx104_0)).trans hx104_0
                          replace hx104_1 := (HB.out.cell (World.block_lt_of_cell? w _ hx104_1)).trans hx104_1
                          replace p104 := eq_true p104
                          replace q104 := eq_true q104
                          go_wp2
                          go_roundg k2
                          case measure => have := HK1.out; have := HK2.out; omega
                          case rel => exact ⟨(wrap64 (x4_2 + 1)), (by first | rfl | (simp; done) | (simp [*]; done)), H', ⟨by have := HK1.out; have := HK2.out; omega⟩, ⟨by (with_reducible repeat (first | refine blk_drewN ?_ _ | refine blk_drew ?_ | refine blk_alloc ?_ _)); exact BK101.out⟩, ⟨by repeat (first | (with_reducible first | exact HB.out | apply below_alloc | apply pw_below_drewN | apply below_drew1 | refine below_set ?_ GE101.out) | exact HB.out)⟩⟩
                      · rw [if_neg c13] at H
                        exact absurd H (by simp)
                    · rw [if_neg c12] at H
                      exact absurd H (by simp)
                  · rw [if_neg c11] at H
                    exact absurd H (by simp)
                · rw [if_neg c10] at H
                  exact absurd H (by simp)
              · rw [if_neg c9] at H
                have c9b0 : decide (x4_2 < 4) = false := decide_eq_false c9
                clear c9
                have H' := Aside0.mk H
                clear H
                go_wp2
                go_roundg k2
                case measure => have := HK1.out; have := HK2.out; omega
                case rel => exact ⟨(wrap64 (x3_1 + 1)), (by first | rfl | (simp; done) | (simp [*]; done)), H', ⟨by have := HK1.out; have := HK2.out; omega⟩, ⟨by (with_reducible repeat (first | refine blk_drewN ?_ _ | refine blk_drew ?_ | refine blk_alloc ?_ _)); exact BK101.out⟩, ⟨by repeat (first | (with_reducible first | exact HB.out | apply below_alloc | apply pw_below_drewN | apply below_drew1 | refine below_set ?_ GE101.out) | exact HB.out)⟩⟩
        · rw [if_neg c7] at H
          have c7b0 : decide (x3_1 < (l0_0.length : Int)) = false := decide_eq_false c7
          clear c7
          obtain rfl := Option.some.inj H
          have hcz22_0 : wr.cell? ⟨gb101, 0, none⟩ = some (.slice A0_0 l0_0.length c0_0) := (blk_cell BK101.out 0).trans rfl
          have hfz22_0 := blk_frozen BK101.out 0
          go_wp2
          go_ret
          exact ⟨by first | rfl | (simp [errW_none, errW_some] <;> rfl) | (simp [*, errW_none, errW_some] <;> rfl), by repeat (first | (with_reducible first | exact HB.out | apply below_alloc | apply pw_below_drewN | apply below_drew1 | refine below_set ?_ GE101.out) | exact HB.out)⟩
  · replace c3 := Bool.eq_false_iff.mpr c3
    subst c3
    have H1 : (some false) = some r := by rw [if_neg (show ¬ (false = true) by decide)] at H; exact H
    clear H
    have H := H1
    clear H1
    obtain rfl := Option.some.inj H
    go_enter Try.func16, Try.ntmps16
    go_wp2_with (first | ((with_reducible refine gate_dst (N := 1) rfl ?_); refine box_event ?hg (N := 1) ?hd (cs := #[.slice A0_0 l0_0.length c0_0]) (t := 29) ?hr ?_; (case hd => rfl); (case hg => rfl); (case hr => first | (go_simp; done) | (go_simp; rfl)); intro gb101 hg w23 hbox hb; have n0_ := Aside0.mk (below_step (by repeat (first | (with_reducible first | exact HB.out | apply below_alloc | apply pw_below_drewN | apply below_drew1) | exact HB.out)) hb); have n1_ := Aside0.mk (hbox); have n2_ := Aside0.mk ((by rw [hg]; exact (below_size (by repeat (first | (with_reducible first | exact HB.out | apply below_alloc | apply pw_below_drewN | apply below_drew1) | exact HB.out))) : w.heap.size ≤ gb101)); have n3_ := Aside0.mk ((by rw [hg]; exact (below_size (by repeat (first | (with_reducible first | exact HB.out | apply below_alloc | apply pw_below_drewN | apply below_drew1) | exact HB.out))) : w.heap.size ≤ gb101)); clear HB; have HB := n0_; have BK101 := n1_; have GW101 := n2_; have GE101 := n3_; clear n0_ n1_ n2_ n3_; clear hb hbox hg; have hcz24_0 : w23.cell? ⟨gb101, 0, none⟩ = some (.slice A0_0 l0_0.length c0_0) := (blk_cell BK101.out 0).trans rfl; have hfz24_0 := blk_frozen BK101.out 0) | ((with_reducible refine gate_callee (f := 59) rfl ?_); refine goesL_ (some 6) rfl rfl Try.func59 (by kernel_rfl) rfl #[.agg #[.slice A0_0 l0_0.length c0_0]] rfl (by (try simp only [List.map_toArray, List.map_cons, List.map_nil]); first | done | rfl | (simp only [List.length_drop, List.length_take]; rfl)) ?_; (with_reducible refine (spec_IsTriangulation.calls k _ _ l0_0 false _ ?side1 ?side2 A2.out).mono ?_); (case side1 => repeat (first | exact (Kd.C_below HR0_0.out HB.out) | (with_reducible refine Kd.C_alloc ?_ _) | (with_reducible refine Kd.C_drewN ?_ _) | (with_reducible refine Kd.C_drew ?_))); (case side2 => exact HC0_0.out); rintro e w25 ⟨rfl, hb⟩; refine ⟨_, rfl, ?_⟩; have n0_ := Aside0.mk (blk_below (g := gb101) (o := .cells #[.slice A0_0 l0_0.length c0_0] 29 (0, 0)) (by (with_reducible repeat (first | refine blk_drewN ?_ _ | refine blk_drew ?_ | refine blk_alloc ?_ _)); exact BK101.out) hb); have n1_ := Aside0.mk (below_step (by repeat (first | (with_reducible first | exact HB.out | apply below_alloc | apply pw_below_drewN | apply below_drew1 | refine below_set ?_ GE101.out) | exact HB.out)) hb); clear BK101; clear HB; have BK101 := n0_; have HB := n1_; clear n0_ n1_; (try clear hb); (try clear hb2); (try clear hk); (try clear hi)))
    go_ret
    exact ⟨by first | rfl | (simp [errW_none, errW_some] <;> rfl) | (simp [*, errW_none, errW_some] <;> rfl), by repeat (first | (with_reducible first | exact HB.out | apply below_alloc | apply pw_below_drewN | apply below_drew1 | refine below_set ?_ GE101.out) | exact HB.out)⟩
end Go.Proofs.Ytfaagdpopmnnpaa.P

-- Printed by a program of this session (drv.py), by means of the kit's print.py.
namespace Go.Proofs.Ytfaagdpopmnnpaa.P
open Go.RowKit Go.Proofs.YtfaagdpopmnnpaaW.PrintWords Go.Proofs.YtfaagdpopmnnpaaW.PrintLast Go.Proofs.YtfaagdpopmnnpaaW.PrintMore
attribute [local go_sem] max2_int min2_int max_two min_two max_three min_three max_four min_four   -- for this text's walks alone
set_option linter.unusedVariables false
set_option linter.unusedSimpArgs false
/-! ### laws_FnExactIsOriented: function 3 -/
def laws_FnExactIsOriented.f (k : Nat) (l0_0 : List (List (SLawFace))) : Option (Bool) := (laws_szTriangulation.f k l0_0 1048576).bind fun t102 => (if t102 < 0 then (some true) else ((laws_toTriangulation.f k l0_0).bind fun t103 => ((spec_IsOriented.f k t103).bind fun t106 => ((laws_toTriangulation.f k l0_0).bind fun t107 => ((impl_IsOriented.f k t107).bind fun t111 => (if (t111 != t106) = true then (some false) else ((laws_toTriangulation.f k l0_0).bind fun t112 => ((laws_eqTriangulation.f k t107 t112).bind fun t115 => (if t115 = true then (some true) else (some false))))))))))
set_option maxHeartbeats 8000000 in
set_option maxRecDepth 100000 in
theorem laws_FnExactIsOriented.calls (k : Nat) (A0_0 : Option Addr) (c0_0 : Nat) (l0_0 : List (List (SLawFace))) (r : Bool) (w : World) (hr0_0 : Kd.C (Kd.slice 135 kLawFace) w A0_0 l0_0.length l0_0) (hc0_0 : l0_0.length ≤ c0_0) (h : laws_FnExactIsOriented.f k l0_0 = some r) :
 Calls Try.prog 3 #[.agg #[.slice A0_0 l0_0.length c0_0]] w fun e w' => e = .returned (.bool r) ∧ Below w.heap.size w w' := by
 have hu24 := Try.underlying24
 have hu29 := Try.underlying29
 have HR0_0 := Aside0.mk hr0_0
 have HC0_0 := Aside0.mk hc0_0
 clear hr0_0 hc0_0
 have HB := Aside0.mk (Below.refl w.heap.size w)
 have H : ((laws_szTriangulation.f k l0_0 1048576).bind fun t102 => (if t102 < 0 then (some true) else ((laws_toTriangulation.f k l0_0).bind fun t103 => ((spec_IsOriented.f k t103).bind fun t106 => ((laws_toTriangulation.f k l0_0).bind fun t107 => ((impl_IsOriented.f k t107).bind fun t111 => (if (t111 != t106) = true then (some false) else ((laws_toTriangulation.f k l0_0).bind fun t112 => ((laws_eqTriangulation.f k t107 t112).bind fun t115 => (if t115 = true then (some true) else (some false))))))))))) = some r := h
 clear h
 replace H := Option.bind_eq_some_iff.mp H
 obtain ⟨t102, A20, H⟩ := H
 replace H : (if t102 < 0 then (some true) else ((laws_toTriangulation.f k l0_0).bind fun t103 => ((spec_IsOriented.f k t103).bind fun t106 => ((laws_toTriangulation.f k l0_0).bind fun t107 => ((impl_IsOriented.f k t107).bind fun t111 => (if (t111 != t106) = true then (some false) else ((laws_toTriangulation.f k l0_0).bind fun t112 => ((laws_eqTriangulation.f k t107 t112).bind fun t115 => (if t115 = true then (some true) else (some false)))))))))) = some r := H
 have A2 := Aside0.mk A20
 clear A20
 by_cases c3 : t102 < 0
 next =>
  rw [if_pos c3] at H
  have c3b0 : decide (t102 < 0) = true := decide_eq_true c3
  clear c3
  obtain rfl := Option.some.inj H
  go_enter Try.func3, Try.ntmps3
  go_wp2_with (first | ((with_reducible refine gate_dst (N := 1) rfl ?_); refine box_event ?hg (N := 1) ?hd (cs := #[.slice A0_0 l0_0.length c0_0]) (t := 24) ?hr ?_; (case hd => rfl); (case hg => rfl); (case hr => first | (go_simp; done) | (go_simp; rfl)); intro gb101 hg w4 hbox hb; have n0_ := Aside0.mk (below_step (by repeat (first | (with_reducible first | exact HB.out | apply below_alloc | apply pw_below_drewN | apply below_drew1) | exact HB.out)) hb); have n1_ := Aside0.mk (hbox); have n2_ := Aside0.mk ((by rw [hg]; exact (below_size (by repeat (first | (with_reducible first | exact HB.out | apply below_alloc | apply pw_below_drewN | apply below_drew1) | exact HB.out))) : w.heap.size ≤ gb101)); have n3_ := Aside0.mk ((by rw [hg]; exact (below_size (by repeat (first | (with_reducible first | exact HB.out | apply below_alloc | apply pw_below_drewN | apply below_drew1) | exact HB.out))) : w.heap.size ≤ gb101)); clear HB; have HB := n0_; have BK101 := n1_; have GW101 := n2_; have GE101 := n3_; clear n0_ n1_ n2_ n3_; clear hb hbox hg; have hcz5_0 : w4.cell? ⟨gb101, 0, none⟩ = some (.slice A0_0 l0_0.length c0_0) := (blk_cell BK101.out 0).trans rfl; have hfz5_0 := blk_frozen BK101.out 0) | ((with_reducible refine gate_callee (f := 15) rfl ?_); refine goesL_ (some 9) rfl rfl Try.func15 (by kernel_rfl) rfl #[.agg #[.slice A0_0 l0_0.length c0_0], .int .i64 1048576] rfl (by (try simp only [List.map_toArray, List.map_cons, List.map_nil]); first | done | rfl | (simp only [List.length_drop, List.length_take]; rfl)) ?_; (with_reducible refine (laws_szTriangulation.calls k _ _ l0_0 1048576 t102 _ ?side1 ?side2 A2.out).mono ?_); (case side1 => repeat (first | exact (Kd.C_below HR0_0.out HB.out) | (with_reducible refine Kd.C_alloc ?_ _) | (with_reducible refine Kd.C_drewN ?_ _) | (with_reducible refine Kd.C_drew ?_))); (case side2 => exact HC0_0.out); rintro e w6 ⟨rfl, hb⟩; refine ⟨_, rfl, ?_⟩; have n0_ := Aside0.mk (blk_below (g := gb101) (o := .cells #[.slice A0_0 l0_0.length c0_0] 24 (0, 0)) (by (with_reducible repeat (first | refine blk_drewN ?_ _ | refine blk_drew ?_ | refine blk_alloc ?_ _)); exact BK101.out) hb); have n1_ := Aside0.mk (below_step (by repeat (first | (with_reducible first | exact HB.out | apply below_alloc | apply pw_below_drewN | apply below_drew1 | refine below_set ?_ GE101.out) | exact HB.out)) hb); clear BK101; clear HB; have BK101 := n0_; have HB := n1_; clear n0_ n1_; (try clear hb); (try clear hb2); (try clear hk); (try clear hi)))
  go_ret
  exact ⟨by first | rfl | (simp [errW_none, errW_some] <;> rfl) | (simp [*, errW_none, errW_some] <;> rfl), by repeat (first | (with_reducible first | exact HB.out | apply below_alloc | apply pw_below_drewN | apply below_drew1 | refine below_set ?_ GE101.out) | exact HB.out)⟩
 next =>
  rw [if_neg c3] at H
  have c3b0 : decide (t102 < 0) = false := decide_eq_false c3
  clear c3
  replace H := Option.bind_eq_some_iff.mp H
  obtain ⟨t103, A70, H⟩ := H
  replace H : ((spec_IsOriented.f k t103).bind fun t106 => ((laws_toTriangulation.f k l0_0).bind fun t107 => ((impl_IsOriented.f k t107).bind fun t111 => (if (t111 != t106) = true then (some false) else ((laws_toTriangulation.f k l0_0).bind fun t112 => ((laws_eqTriangulation.f k t107 t112).bind fun t115 => (if t115 = true then (some true) else (some false)))))))) = some r := H
  have A7 := Aside0.mk A70
  clear A70
  replace H := Option.bind_eq_some_iff.mp H
  obtain ⟨t106, A80, H⟩ := H
  replace H : ((laws_toTriangulation.f k l0_0).bind fun t107 => ((impl_IsOriented.f k t107).bind fun t111 => (if (t111 != t106) = true then (some false) else ((laws_toTriangulation.f k l0_0).bind fun t112 => ((laws_eqTriangulation.f k t107 t112).bind fun t115 => (if t115 = true then (some true) else (some false))))))) = some r := H
  have A8 := Aside0.mk A80
  clear A80
  replace H := Option.bind_eq_some_iff.mp H
  obtain ⟨t107, A90, H⟩ := H
  replace H : ((impl_IsOriented.f k t107).bind fun t111 => (if (t111 != t106) = true then (some false) else ((laws_toTriangulation.f k l0_0).bind fun t112 => ((laws_eqTriangulation.f k t107 t112).bind fun t115 => (if t115 = true then (some true) else (some false)))))) = some r := H
  have A9 := Aside0.mk A90
  clear A90
  replace H := Option.bind_eq_some_iff.mp H
  obtain ⟨t111, A100, H⟩ := H
  replace H : (if (t111 != t106) = true then (some false) else ((laws_toTriangulation.f k l0_0).bind fun t112 => ((laws_eqTriangulation.f k t107 t112).bind fun t115 => (if t115 = true then (some true) else (some false))))) = some r := H
  have A10 := Aside0.mk A100
  clear A100
  by_cases c11 : (t111 != t106) = true
  next =>
   rw [if_pos c11] at H
   have c11b0 : (t111 != t106) = true := c11
   (try (have c11b1 : decide (t111 = t106) = false := by simpa using c11))
   (try (have c11b2 : (t111 == t106) = false := by simpa using c11))
   (try (have c11b3 : ¬ (t111 = t106) := by simpa using c11))
   clear c11
   obtain rfl := Option.some.inj H
   go_enter Try.func3, Try.ntmps3
   go_wp2_with (first | ((with_reducible refine gate_dst (N := 1) rfl ?_); refine box_event ?hg (N := 1) ?hd (cs := #[.slice A0_0 l0_0.length c0_0]) (t := 24) ?hr ?_; (case hd => rfl); (case hg => rfl); (case hr => first | (go_simp; done) | (go_simp; rfl)); intro gb101 hg w12 hbox hb; have n0_ := Aside0.mk (below_step (by repeat (first | (with_reducible first | exact HB.out | apply below_alloc | apply pw_below_drewN | apply below_drew1) | exact HB.out)) hb); have n1_ := Aside0.mk (hbox); have n2_ := Aside0.mk ((by rw [hg]; exact (below_size (by repeat (first | (with_reducible first | exact HB.out | apply below_alloc | apply pw_below_drewN | apply below_drew1) | exact HB.out))) : w.heap.size ≤ gb101)); have n3_ := Aside0.mk ((by rw [hg]; exact (below_size (by repeat (first | (with_reducible first | exact HB.out | apply below_alloc | apply pw_below_drewN | apply below_drew1) | exact HB.out))) : w.heap.size ≤ gb101)); clear HB; have HB := n0_; have BK101 := n1_; have GW101 := n2_; have GE101 := n3_; clear n0_ n1_ n2_ n3_; clear hb hbox hg; have hcz13_0 : w12.cell? ⟨gb101, 0, none⟩ = some (.slice A0_0 l0_0.length c0_0) := (blk_cell BK101.out 0).trans rfl; have hfz13_0 := blk_frozen BK101.out 0) | ((with_reducible refine gate_callee (f := 15) rfl ?_); refine goesL_ (some 9) rfl rfl Try.func15 (by kernel_rfl) rfl #[.agg #[.slice A0_0 l0_0.length c0_0], .int .i64 1048576] rfl (by (try simp only [List.map_toArray, List.map_cons, List.map_nil]); first | done | rfl | (simp only [List.length_drop, List.length_take]; rfl)) ?_; (with_reducible refine (laws_szTriangulation.calls k _ _ l0_0 1048576 t102 _ ?side1 ?side2 A2.out).mono ?_); (case side1 => repeat (first | exact (Kd.C_below HR0_0.out HB.out) | (with_reducible refine Kd.C_alloc ?_ _) | (with_reducible refine Kd.C_drewN ?_ _) | (with_reducible refine Kd.C_drew ?_))); (case side2 => exact HC0_0.out); rintro e w14 ⟨rfl, hb⟩; refine ⟨_, rfl, ?_⟩; have n0_ := Aside0.mk (blk_below (g := gb101) (o := .cells #[.slice A0_0 l0_0.length c0_0] 24 (0, 0)) (by (with_reducible repeat (first | refine blk_drewN ?_ _ | refine blk_drew ?_ | refine blk_alloc ?_ _)); exact BK101.out) hb); have n1_ := Aside0.mk (below_step (by repeat (first | (with_reducible first | exact HB.out | apply below_alloc | apply pw_below_drewN | apply below_drew1 | refine below_set ?_ GE101.out) | exact HB.out)) hb); clear BK101; clear HB; have BK101 := n0_; have HB := n1_; clear n0_ n1_; (try clear hb); (try clear hb2); (try clear hk); (try clear hi); have hcz15_0 : w14.cell? ⟨gb101, 0, none⟩ = some (.slice A0_0 l0_0.length c0_0) := (blk_cell BK101.out 0).trans rfl; have hfz15_0 := blk_frozen BK101.out 0) | ((with_reducible refine gate_callee (f := 17) rfl ?_); refine goesL_ (some 13) rfl rfl Try.func17 (by kernel_rfl) rfl #[.agg #[.slice A0_0 l0_0.length c0_0]] rfl (by (try simp only [List.map_toArray, List.map_cons, List.map_nil]); first | done | rfl | (simp only [List.length_drop, List.length_take]; rfl)) ?_; (with_reducible refine (laws_toTriangulation.calls k _ _ l0_0 t103 _ ?side1 ?side2 A7.out).mono ?_); (case side1 => repeat (first | exact (Kd.C_below HR0_0.out HB.out) | (with_reducible refine Kd.C_alloc ?_ _) | (with_reducible refine Kd.C_drewN ?_ _) | (with_reducible refine Kd.C_drew ?_))); (case side2 => exact HC0_0.out); rintro e w16 ⟨v104, rfl, ho0, hb⟩; refine ⟨_, rfl, ?_⟩; have n0_ := Aside0.mk (Kd.S_lower ho0 (below_size (by repeat (first | (with_reducible first | exact HB.out | apply below_alloc | apply pw_below_drewN | apply below_drew1 | refine below_set ?_ GE101.out) | exact HB.out)))); have n1_ := Aside0.mk (blk_below (g := gb101) (o := .cells #[.slice A0_0 l0_0.length c0_0] 24 (0, 0)) (by (with_reducible repeat (first | refine blk_drewN ?_ _ | refine blk_drew ?_ | refine blk_alloc ?_ _)); exact BK101.out) hb); have n2_ := Aside0.mk (below_step (by repeat (first | (with_reducible first | exact HB.out | apply below_alloc | apply pw_below_drewN | apply below_drew1 | refine below_set ?_ GE101.out) | exact HB.out)) hb); clear BK101; clear HB; have HO105 := n0_; have BK101 := n1_; have HB := n2_; clear n0_ n1_ n2_; (try clear hb); (try clear hb2); (try clear hk); (try clear hi); (try clear ho0); obtain ⟨Ao17, co17, eo17⟩ := Kd.S_slice HO105.out; subst eo17) | ((with_reducible refine gate_callee (f := 16) rfl ?_); refine goesL_ (some 14) rfl rfl Try.func16 (by kernel_rfl) rfl #[.agg #[.slice Ao17 t103.length co17]] rfl (by (try simp only [List.map_toArray, List.map_cons, List.map_nil]); first | done | rfl | (simp only [List.length_drop, List.length_take]; rfl)) ?_; (with_reducible refine (spec_IsOriented.calls k _ _ t103 t106 _ ?side1 ?side2 A8.out).mono ?_); (case side1 => repeat (first | exact (Kd.S_reads' HO105.out).2.2 | (with_reducible refine Kd.C_alloc ?_ _) | (with_reducible refine Kd.C_drewN ?_ _) | (with_reducible refine Kd.C_drew ?_))); (case side2 => exact (Kd.S_reads' HO105.out).2.1); rintro e w18 ⟨rfl, hb⟩; refine ⟨_, rfl, ?_⟩; have n0_ := Aside0.mk (Kd.S_below (by (with_reducible repeat (first | apply Kd.S_alloc | apply Kd.S_drewN | apply Kd.S_drew)); exact HO105.out) hb); have n1_ := Aside0.mk (blk_below (g := gb101) (o := .cells #[.slice A0_0 l0_0.length c0_0] 24 (0, 0)) (by (with_reducible repeat (first | refine blk_drewN ?_ _ | refine blk_drew ?_ | refine blk_alloc ?_ _)); exact BK101.out) hb); have n2_ := Aside0.mk (below_step (by repeat (first | (with_reducible first | exact HB.out | apply below_alloc | apply pw_below_drewN | apply below_drew1 | refine below_set ?_ GE101.out) | exact HB.out)) hb); clear HO105; clear BK101; clear HB; have HO105 := n0_; have BK101 := n1_; have HB := n2_; clear n0_ n1_ n2_; (try clear hb); (try clear hb2); (try clear hk); (try clear hi); have hcz19_0 : w18.cell? ⟨gb101, 0, none⟩ = some (.slice A0_0 l0_0.length c0_0) := (blk_cell BK101.out 0).trans rfl; have hfz19_0 := blk_frozen BK101.out 0) | ((with_reducible refine gate_callee (f := 17) rfl ?_); refine goesL_ (some 16) rfl rfl Try.func17 (by kernel_rfl) rfl #[.agg #[.slice A0_0 l0_0.length c0_0]] rfl (by (try simp only [List.map_toArray, List.map_cons, List.map_nil]); first | done | rfl | (simp only [List.length_drop, List.length_take]; rfl)) ?_; (with_reducible refine (laws_toTriangulation.calls k _ _ l0_0 t107 _ ?side1 ?side2 A9.out).mono ?_); (case side1 => repeat (first | exact (Kd.C_below HR0_0.out HB.out) | (with_reducible refine Kd.C_alloc ?_ _) | (with_reducible refine Kd.C_drewN ?_ _) | (with_reducible refine Kd.C_drew ?_))); (case side2 => exact HC0_0.out); rintro e w20 ⟨v108, rfl, ho0, hb⟩; refine ⟨_, rfl, ?_⟩; have n0_ := Aside0.mk (Kd.S_elder' (by (with_reducible repeat (first | apply Kd.S_alloc | apply Kd.S_drewN | apply Kd.S_drew)); exact HO105.out) (Kd.S_base ho0) hb); have n1_ := Aside0.mk (Kd.S_lower (Kd.S_new' ho0 (Kd.S_lt (by (with_reducible repeat (first | apply Kd.S_alloc | apply Kd.S_drewN | apply Kd.S_drew)); exact HO105.out))) (below_size (by repeat (first | (with_reducible first | exact HB.out | apply below_alloc | apply pw_below_drewN | apply below_drew1 | refine below_set ?_ GE101.out) | exact HB.out)))); have n2_ := Aside0.mk (blk_below (g := gb101) (o := .cells #[.slice A0_0 l0_0.length c0_0] 24 (0, 0)) (by (with_reducible repeat (first | refine blk_drewN ?_ _ | refine blk_drew ?_ | refine blk_alloc ?_ _)); exact BK101.out) hb); have n3_ := Aside0.mk (below_step (by repeat (first | (with_reducible first | exact HB.out | apply below_alloc | apply pw_below_drewN | apply below_drew1 | refine below_set ?_ GE101.out) | exact HB.out)) hb); clear HO105; clear BK101; clear HB; have HO105 := n0_; have HO109 := n1_; have BK101 := n2_; have HB := n3_; clear n0_ n1_ n2_ n3_; (try clear hb); (try clear hb2); (try clear hk); (try clear hi); (try clear ho0)) | ((with_reducible refine gate_dst (N := 5) rfl ?_); refine box_event ?hg (N := 5) ?hd (cs := #[.slice none 0 0]) (t := 29) ?hr ?_; (case hd => rfl); (case hg => rfl); (case hr => first | (go_simp; done) | (go_simp; rfl)); intro gb110 hg w21 hbox hb; have n0_ := Aside0.mk (Kd.S_below (by (with_reducible repeat (first | apply Kd.S_alloc | apply Kd.S_drewN | apply Kd.S_drew)); exact HO105.out) hb); have n1_ := Aside0.mk (Kd.S_below (by (with_reducible repeat (first | apply Kd.S_alloc | apply Kd.S_drewN | apply Kd.S_drew)); exact HO109.out) hb); have n2_ := Aside0.mk (blk_below (g := gb101) (o := .cells #[.slice A0_0 l0_0.length c0_0] 24 (0, 0)) (by (with_reducible repeat (first | refine blk_drewN ?_ _ | refine blk_drew ?_ | refine blk_alloc ?_ _)); exact BK101.out) hb); have n3_ := Aside0.mk (below_step (by repeat (first | (with_reducible first | exact HB.out | apply below_alloc | apply pw_below_drewN | apply below_drew1 | refine below_set ?_ GE101.out) | exact HB.out)) hb); have n4_ := Aside0.mk (hbox); have n5_ := Aside0.mk ((by rw [hg]; exact (below_size (by repeat (first | (with_reducible first | exact HB.out | apply below_alloc | apply pw_below_drewN | apply below_drew1 | refine below_set ?_ GE101.out) | exact HB.out))) : w.heap.size ≤ gb110)); have n6_ := Aside0.mk ((by rw [hg]; exact (below_size (by repeat (first | (with_reducible first | exact HB.out | apply below_alloc | apply pw_below_drewN | apply below_drew1 | refine below_set ?_ GE101.out) | exact HB.out))) : w.heap.size ≤ gb110)); have n7_ := Aside0.mk ((by rw [hg]; exact Nat.ne_of_lt (blk_lt (g := gb101) (o := .cells #[.slice A0_0 l0_0.length c0_0] 24 (0, 0)) (by (with_reducible repeat (first | refine blk_drewN ?_ _ | refine blk_drew ?_ | refine blk_alloc ?_ _)); exact BK101.out)) : gb101 ≠ gb110)); have n8_ := Aside0.mk ((by rw [hg]; exact Nat.ne_of_gt (blk_lt (g := gb101) (o := .cells #[.slice A0_0 l0_0.length c0_0] 24 (0, 0)) (by (with_reducible repeat (first | refine blk_drewN ?_ _ | refine blk_drew ?_ | refine blk_alloc ?_ _)); exact BK101.out)) : gb110 ≠ gb101)); clear HO105; clear HO109; clear BK101; clear HB; have HO105 := n0_; have HO109 := n1_; have BK101 := n2_; have HB := n3_; have BK110 := n4_; have GW110 := n5_; have GE110 := n6_; have NB101_110 := n7_; have NB110_101 := n8_; clear n0_ n1_ n2_ n3_ n4_ n5_ n6_ n7_ n8_; clear hb hbox hg; obtain ⟨Ao22, co22, eo22⟩ := Kd.S_slice HO109.out; subst eo22; have hnb23 := NB110_101.out; have hnc23 := NB101_110.out; have hcz24_0 : w21.cell? ⟨gb110, 0, none⟩ = some (.slice none 0 0) := (blk_cell BK110.out 0).trans rfl; have hfz24_0 := blk_frozen BK110.out 0) | ((with_reducible refine gate_callee (f := 18) rfl ?_); refine goesL_ (some 18) rfl rfl Try.func18 (by kernel_rfl) rfl #[.agg #[.slice Ao22 t107.length co22]] rfl (by (try simp only [List.map_toArray, List.map_cons, List.map_nil]); first | done | rfl | (simp only [List.length_drop, List.length_take]; rfl)) ?_; (with_reducible refine (impl_IsOriented.calls k _ _ t107 t111 _ ?side1 ?side2 A10.out).mono ?_); (case side1 => refine (Kd.S_reads' (e := 67) (base := w.heap.size) (ok := fun k_ => (True ∧ some k_ ≠ (.slice Ao17 t103.length co17 : Value).ownBlock)) (n := t107.length) (c := co22) ?_).2.2; exact (by (with_reducible repeat (first | apply Kd.S_alloc | apply Kd.S_drewN | apply Kd.S_drew)); exact (Kd.S_mono (Kd.S_far (p := ⟨gb110, 0, none⟩) (Kd.S_types HO109.out BK110.out (by decide)) (fun _ hk => hk.2) (.slice Ao22 t107.length co22)) (fun _ h_ => h_.1)))); (case side2 => exact (Kd.S_reads' HO109.out).2.1); rintro e w25 ⟨rfl, hb⟩; refine ⟨_, rfl, ?_⟩; have n0_ := Aside0.mk (Kd.S_below (by (with_reducible repeat (first | apply Kd.S_alloc | apply Kd.S_drewN | apply Kd.S_drew)); exact (Kd.S_mono (Kd.S_far (p := ⟨gb110, 0, none⟩) (Kd.S_types HO105.out BK110.out (by decide)) (fun _ hk => hk.2) (.slice Ao22 t107.length co22)) (fun _ h_ => h_.1))) hb); have n1_ := Aside0.mk (Kd.S_below (by (with_reducible repeat (first | apply Kd.S_alloc | apply Kd.S_drewN | apply Kd.S_drew)); exact (Kd.S_mono (Kd.S_far (p := ⟨gb110, 0, none⟩) (Kd.S_types HO109.out BK110.out (by decide)) (fun _ hk => hk.2) (.slice Ao22 t107.length co22)) (fun _ h_ => h_.1))) hb); have n2_ := Aside0.mk (blk_below (g := gb101) (o := .cells #[.slice A0_0 l0_0.length c0_0] 24 (0, 0)) (by (with_reducible repeat (first | refine blk_drewN ?_ _ | refine blk_drew ?_ | refine blk_alloc ?_ _)); refine blk_far ?_ NB101_110.out _; (with_reducible repeat (first | refine blk_drewN ?_ _ | refine blk_drew ?_ | refine blk_alloc ?_ _)); exact BK101.out) hb); have n3_ := Aside0.mk (blk_below (g := gb110) (o := .cells #[.slice Ao22 t107.length co22] 29 (0, 0)) (by (with_reducible repeat (first | refine blk_drewN ?_ _ | refine blk_drew ?_ | refine blk_alloc ?_ _)); refine blk_put (cs := #[.slice none 0 0]) ?_ 0 _ rfl; (with_reducible repeat (first | refine blk_drewN ?_ _ | refine blk_drew ?_ | refine blk_alloc ?_ _)); exact BK110.out) hb); have n4_ := Aside0.mk (below_step (by repeat (first | (with_reducible first | exact HB.out | apply below_alloc | apply pw_below_drewN | apply below_drew1 | refine below_set ?_ GE101.out | refine below_set ?_ GE110.out) | exact HB.out)) hb); clear HO105; clear HO109; clear BK101; clear BK110; clear HB; have HO105 := n0_; have HO109 := n1_; have BK101 := n2_; have BK110 := n3_; have HB := n4_; clear n0_ n1_ n2_ n3_ n4_; (try clear hb); (try clear hb2); (try clear hk); (try clear hi)))
   go_ret
   exact ⟨by first | rfl | (simp [errW_none, errW_some] <;> rfl) | (simp [*, errW_none, errW_some] <;> rfl), by repeat (first | (with_reducible first | exact HB.out | apply below_alloc | apply pw_below_drewN | apply below_drew1 | refine below_set ?_ GE101.out | refine below_set ?_ GE110.out) | exact HB.out)⟩
  next =>
   rw [if_neg c11] at H
   have c11b0 : (t111 != t106) = false := by simpa using c11
   (try (have c11b1 : decide (t111 = t106) = true := by simpa using c11))
   (try (have c11b2 : (t111 == t106) = true := by simpa using c11))
   clear c11
   replace H := Option.bind_eq_some_iff.mp H
   obtain ⟨t112, A260, H⟩ := H
   replace H : ((laws_eqTriangulation.f k t107 t112).bind fun t115 => (if t115 = true then (some true) else (some false))) = some r := H
   have A26 := Aside0.mk A260
   clear A260
   replace H := Option.bind_eq_some_iff.mp H
   obtain ⟨t115, A270, H⟩ := H
   replace H : (if t115 = true then (some true) else (some false)) = some r := H
   have A27 := Aside0.mk A270
   clear A270
   by_cases c28 : t115 = true
   next =>
    subst c28
    have H1 : (some true) = some r := by rw [if_pos rfl] at H; exact H
    clear H
    have H := H1
    clear H1
    obtain rfl := Option.some.inj H
    go_enter Try.func3, Try.ntmps3
    try go_wp2_with (first | ((with_reducible refine gate_dst (N := 1) rfl ?_); refine box_event ?hg (N := 1) ?hd (cs := #[.slice A0_0 l0_0.length c0_0]) (t := 24) ?hr ?_; (case hd => rfl); (case hg => rfl); (case hr => first | (go_simp; done) | (go_simp; rfl)); intro gb101 hg w29 hbox hb; have n0_ := Aside0.mk (below_step (by repeat (first | (with_reducible first | exact HB.out | apply below_alloc | apply pw_below_drewN | apply below_drew1) | exact HB.out)) hb); have n1_ := Aside0.mk (hbox); have n2_ := Aside0.mk ((by rw [hg]; exact (below_size (by repeat (first | (with_reducible first | exact HB.out | apply below_alloc | apply pw_below_drewN | apply below_drew1) | exact HB.out))) : w.heap.size ≤ gb101)); have n3_ := Aside0.mk ((by rw [hg]; exact (below_size (by repeat (first | (with_reducible first | exact HB.out | apply below_alloc | apply pw_below_drewN | apply below_drew1) | exact HB.out))) : w.heap.size ≤ gb101)); clear HB; have HB := n0_; have BK101 := n1_; have GW101 := n2_; have GE101 := n3_; clear n0_ n1_ n2_ n3_; clear hb hbox hg; have hcz30_0 : w29.cell? ⟨gb101, 0, none⟩ = some (.slice A0_0 l0_0.length c0_0) := (blk_cell BK101.out 0).trans rfl; have hfz30_0 := blk_frozen BK101.out 0) | ((with_reducible refine gate_callee (f := 15) rfl ?_); refine goesL_ (some 9) rfl rfl Try.func15 (by kernel_rfl) rfl #[.agg #[.slice A0_0 l0_0.length c0_0], .int .i64 1048576] rfl (by (try simp only [List.map_toArray, List.map_cons, List.map_nil]); first | done | rfl | (simp only [List.length_drop, List.length_take]; rfl)) ?_; (with_reducible refine (laws_szTriangulation.calls k _ _ l0_0 1048576 t102 _ ?side1 ?side2 A2.out).mono ?_); (case side1 => repeat (first | exact (Kd.C_below HR0_0.out HB.out) | (with_reducible refine Kd.C_alloc ?_ _) | (with_reducible refine Kd.C_drewN ?_ _) | (with_reducible refine Kd.C_drew ?_))); (case side2 => exact HC0_0.out); rintro e w31 ⟨rfl, hb⟩; refine ⟨_, rfl, ?_⟩; have n0_ := Aside0.mk (blk_below (g := gb101) (o := .cells #[.slice A0_0 l0_0.length c0_0] 24 (0, 0)) (by (with_reducible repeat (first | refine blk_drewN ?_ _ | refine blk_drew ?_ | refine blk_alloc ?_ _)); exact BK101.out) hb); have n1_ := Aside0.mk (below_step (by repeat (first | (with_reducible first | exact HB.out | apply below_alloc | apply pw_below_drewN | apply below_drew1 | refine below_set ?_ GE101.out) | exact HB.out)) hb); clear BK101; clear HB; have BK101 := n0_; have HB := n1_; clear n0_ n1_; (try clear hb); (try clear hb2); (try clear hk); (try clear hi); have hcz32_0 : w31.cell? ⟨gb101, 0, none⟩ = some (.slice A0_0 l0_0.length c0_0) := (blk_cell BK101.out 0).trans rfl; have hfz32_0 := blk_frozen BK101.out 0) | ((with_reducible refine gate_callee (f := 17) rfl ?_); refine goesL_ (some 13) rfl rfl Try.func17 (by kernel_rfl) rfl #[.agg #[.slice A0_0 l0_0.length c0_0]] rfl (by (try simp only [List.map_toArray, List.map_cons, List.map_nil]); first | done | rfl | (simp only [List.length_drop, List.length_take]; rfl)) ?_; (with_reducible refine (laws_toTriangulation.calls k _ _ l0_0 t103 _ ?side1 ?side2 A7.out).mono ?_); (case side1 => repeat (first | exact (Kd.C_below HR0_0.out HB.out) | (with_reducible refine Kd.C_alloc ?_ _) | (with_reducible refine Kd.C_drewN ?_ _) | (with_reducible refine Kd.C_drew ?_))); (case side2 => exact HC0_0.out); rintro e w33 ⟨v104, rfl, ho0, hb⟩; refine ⟨_, rfl, ?_⟩; have n0_ := Aside0.mk (Kd.S_lower ho0 (below_size (by repeat (first | (with_reducible first | exact HB.out | apply below_alloc | apply pw_below_drewN | apply below_drew1 | refine below_set ?_ GE101.out) | exact HB.out)))); have n1_ := Aside0.mk (blk_below (g := gb101) (o := .cells #[.slice A0_0 l0_0.length c0_0] 24 (0, 0)) (by (with_reducible repeat (first | refine blk_drewN ?_ _ | refine blk_drew ?_ | refine blk_alloc ?_ _)); exact BK101.out) hb); have n2_ := Aside0.mk (below_step (by repeat (first | (with_reducible first | exact HB.out | apply below_alloc | apply pw_below_drewN | apply below_drew1 | refine below_set ?_ GE101.out) | exact HB.out)) hb); clear BK101; clear HB; have HO105 := n0_; have BK101 := n1_; have HB := n2_; clear n0_ n1_ n2_; (try clear hb); (try clear hb2); (try clear hk); (try clear hi); (try clear ho0); obtain ⟨Ao34, co34, eo34⟩ := Kd.S_slice HO105.out; subst eo34) | ((with_reducible refine gate_callee (f := 16) rfl ?_); refine goesL_ (some 14) rfl rfl Try.func16 (by kernel_rfl) rfl #[.agg #[.slice Ao34 t103.length co34]] rfl (by (try simp only [List.map_toArray, List.map_cons, List.map_nil]); first | done | rfl | (simp only [List.length_drop, List.length_take]; rfl)) ?_; (with_reducible refine (spec_IsOriented.calls k _ _ t103 t106 _ ?side1 ?side2 A8.out).mono ?_); (case side1 => repeat (first | exact (Kd.S_reads' HO105.out).2.2 | (with_reducible refine Kd.C_alloc ?_ _) | (with_reducible refine Kd.C_drewN ?_ _) | (with_reducible refine Kd.C_drew ?_))); (case side2 => exact (Kd.S_reads' HO105.out).2.1); rintro e w35 ⟨rfl, hb⟩; refine ⟨_, rfl, ?_⟩; have n0_ := Aside0.mk (Kd.S_below (by (with_reducible repeat (first | apply Kd.S_alloc | apply Kd.S_drewN | apply Kd.S_drew)); exact HO105.out) hb); have n1_ := Aside0.mk (blk_below (g := gb101) (o := .cells #[.slice A0_0 l0_0.length c0_0] 24 (0, 0)) (by (with_reducible repeat (first | refine blk_drewN ?_ _ | refine blk_drew ?_ | refine blk_alloc ?_ _)); exact BK101.out) hb); have n2_ := Aside0.mk (below_step (by repeat (first | (with_reducible first | exact HB.out | apply below_alloc | apply pw_below_drewN | apply below_drew1 | refine below_set ?_ GE101.out) | exact HB.out)) hb); clear HO105; clear BK101; clear HB; have HO105 := n0_; have BK101 := n1_; have HB := n2_; clear n0_ n1_ n2_; (try clear hb); (try clear hb2); (try clear hk); (try clear hi); have hcz36_0 : w35.cell? ⟨gb101, 0, none⟩ = some (.slice A0_0 l0_0.length c0_0) := (blk_cell BK101.out 0).trans rfl; have hfz36_0 := blk_frozen BK101.out 0) | ((with_reducible refine gate_callee (f := 17) rfl ?_); refine goesL_ (some 16) rfl rfl Try.func17 (by kernel_rfl) rfl #[.agg #[.slice A0_0 l0_0.length c0_0]] rfl (by (try simp only [List.map_toArray, List.map_cons, List.map_nil]); first | done | rfl | (simp only [List.length_drop, List.length_take]; rfl)) ?_; (with_reducible refine (laws_toTriangulation.calls k _ _ l0_0 t107 _ ?side1 ?side2 A9.out).mono ?_); (case side1 => repeat (first | exact (Kd.C_below HR0_0.out HB.out) | (with_reducible refine Kd.C_alloc ?_ _) | (with_reducible refine Kd.C_drewN ?_ _) | (with_reducible refine Kd.C_drew ?_))); (case side2 => exact HC0_0.out); rintro e w37 ⟨v108, rfl, ho0, hb⟩; refine ⟨_, rfl, ?_⟩; have n0_ := Aside0.mk (Kd.S_elder' (by (with_reducible repeat (first | apply Kd.S_alloc | apply Kd.S_drewN | apply Kd.S_drew)); exact HO105.out) (Kd.S_base ho0) hb); have n1_ := Aside0.mk (Kd.S_lower (Kd.S_new' ho0 (Kd.S_lt (by (with_reducible repeat (first | apply Kd.S_alloc | apply Kd.S_drewN | apply Kd.S_drew)); exact HO105.out))) (below_size (by repeat (first | (with_reducible first | exact HB.out | apply below_alloc | apply pw_below_drewN | apply below_drew1 | refine below_set ?_ GE101.out) | exact HB.out)))); have n2_ := Aside0.mk (blk_below (g := gb101) (o := .cells #[.slice A0_0 l0_0.length c0_0] 24 (0, 0)) (by (with_reducible repeat (first | refine blk_drewN ?_ _ | refine blk_drew ?_ | refine blk_alloc ?_ _)); exact BK101.out) hb); have n3_ := Aside0.mk (below_step (by repeat (first | (with_reducible first | exact HB.out | apply below_alloc | apply pw_below_drewN | apply below_drew1 | refine below_set ?_ GE101.out) | exact HB.out)) hb); clear HO105; clear BK101; clear HB; have HO105 := n0_; have HO109 := n1_; have BK101 := n2_; have HB := n3_; clear n0_ n1_ n2_ n3_; (try clear hb); (try clear hb2); (try clear hk); (try clear hi); (try clear ho0)) | ((with_reducible refine gate_dst (N := 5) rfl ?_); refine box_event ?hg (N := 5) ?hd (cs := #[.slice none 0 0]) (t := 29) ?hr ?_; (case hd => rfl); (case hg => rfl); (case hr => first | (go_simp; done) | (go_simp; rfl)); intro gb110 hg w38 hbox hb; have n0_ := Aside0.mk (Kd.S_below (by (with_reducible repeat (first | apply Kd.S_alloc | apply Kd.S_drewN | apply Kd.S_drew)); exact HO105.out) hb); have n1_ := Aside0.mk (Kd.S_below (by (with_reducible repeat (first | apply Kd.S_alloc | apply Kd.S_drewN | apply Kd.S_drew)); exact HO109.out) hb); have n2_ := Aside0.mk (blk_below (g := gb101) (o := .cells #[.slice A0_0 l0_0.length c0_0] 24 (0, 0)) (by (with_reducible repeat (first | refine blk_drewN ?_ _ | refine blk_drew ?_ | refine blk_alloc ?_ _)); exact BK101.out) hb); have n3_ := Aside0.mk (below_step (by repeat (first | (with_reducible first | exact HB.out | apply below_alloc | apply pw_below_drewN | apply below_drew1 | refine below_set ?_ GE101.out) | exact HB.out)) hb); have n4_ := Aside0.mk (hbox); have n5_ := Aside0.mk ((by rw [hg]; exact (below_size (by repeat (first | (with_reducible first | exact HB.out | apply below_alloc | apply pw_below_drewN | apply below_drew1 | refine below_set ?_ GE101.out) | exact HB.out))) : w.heap.size ≤ gb110)); have n6_ := Aside0.mk ((by rw [hg]; exact (below_size (by repeat (first | (with_reducible first | exact HB.out | apply below_alloc | apply pw_below_drewN | apply below_drew1 | refine below_set ?_ GE101.out) | exact HB.out))) : w.heap.size ≤ gb110)); have n7_ := Aside0.mk ((by rw [hg]; exact Nat.ne_of_lt (blk_lt (g := gb101) (o := .cells #[.slice A0_0 l0_0.length c0_0] 24 (0, 0)) (by (with_reducible repeat (first | refine blk_drewN ?_ _ | refine blk_drew ?_ | refine blk_alloc ?_ _)); exact BK101.out)) : gb101 ≠ gb110)); have n8_ := Aside0.mk ((by rw [hg]; exact Nat.ne_of_gt (blk_lt (g := gb101) (o := .cells #[.slice A0_0 l0_0.length c0_0] 24 (0, 0)) (by (with_reducible repeat (first | refine blk_drewN ?_ _ | refine blk_drew ?_ | refine blk_alloc ?_ _)); exact BK101.out)) : gb110 ≠ gb101)); clear HO105; clear HO109; clear BK101; clear HB; have HO105 := n0_; have HO109 := n1_; have BK101 := n2_; have HB := n3_; have BK110 := n4_; have GW110 := n5_; have GE110 := n6_; have NB101_110 := n7_; have NB110_101 := n8_; clear n0_ n1_ n2_ n3_ n4_ n5_ n6_ n7_ n8_; clear hb hbox hg; obtain ⟨Ao39, co39, eo39⟩ := Kd.S_slice HO109.out; subst eo39; have hnb40 := NB110_101.out; have hnc40 := NB101_110.out; have hcz41_0 : w38.cell? ⟨gb110, 0, none⟩ = some (.slice none 0 0) := (blk_cell BK110.out 0).trans rfl; have hfz41_0 := blk_frozen BK110.out 0) | ((with_reducible refine gate_callee (f := 18) rfl ?_); refine goesL_ (some 18) rfl rfl Try.func18 (by kernel_rfl) rfl #[.agg #[.slice Ao39 t107.length co39]] rfl (by (try simp only [List.map_toArray, List.map_cons, List.map_nil]); first | done | rfl | (simp only [List.length_drop, List.length_take]; rfl)) ?_; (with_reducible refine (impl_IsOriented.calls k _ _ t107 t111 _ ?side1 ?side2 A10.out).mono ?_); (case side1 => refine (Kd.S_reads' (e := 67) (base := w.heap.size) (ok := fun k_ => (True ∧ some k_ ≠ (.slice Ao34 t103.length co34 : Value).ownBlock)) (n := t107.length) (c := co39) ?_).2.2; exact (by (with_reducible repeat (first | apply Kd.S_alloc | apply Kd.S_drewN | apply Kd.S_drew)); exact (Kd.S_mono (Kd.S_far (p := ⟨gb110, 0, none⟩) (Kd.S_types HO109.out BK110.out (by decide)) (fun _ hk => hk.2) (.slice Ao39 t107.length co39)) (fun _ h_ => h_.1)))); (case side2 => exact (Kd.S_reads' HO109.out).2.1); rintro e w42 ⟨rfl, hb⟩; refine ⟨_, rfl, ?_⟩; have n0_ := Aside0.mk (Kd.S_below (by (with_reducible repeat (first | apply Kd.S_alloc | apply Kd.S_drewN | apply Kd.S_drew)); exact (Kd.S_mono (Kd.S_far (p := ⟨gb110, 0, none⟩) (Kd.S_types HO105.out BK110.out (by decide)) (fun _ hk => hk.2) (.slice Ao39 t107.length co39)) (fun _ h_ => h_.1))) hb); have n1_ := Aside0.mk (Kd.S_below (by (with_reducible repeat (first | apply Kd.S_alloc | apply Kd.S_drewN | apply Kd.S_drew)); exact (Kd.S_mono (Kd.S_far (p := ⟨gb110, 0, none⟩) (Kd.S_types HO109.out BK110.out (by decide)) (fun _ hk => hk.2) (.slice Ao39 t107.length co39)) (fun _ h_ => h_.1))) hb); have n2_ := Aside0.mk (blk_below (g := gb101) (o := .cells #[.slice A0_0 l0_0.length c0_0] 24 (0, 0)) (by (with_reducible repeat (first | refine blk_drewN ?_ _ | refine blk_drew ?_ | refine blk_alloc ?_ _)); refine blk_far ?_ NB101_110.out _; (with_reducible repeat (first | refine blk_drewN ?_ _ | refine blk_drew ?_ | refine blk_alloc ?_ _)); exact BK101.out) hb); have n3_ := Aside0.mk (blk_below (g := gb110) (o := .cells #[.slice Ao39 t107.length co39] 29 (0, 0)) (by (with_reducible repeat (first | refine blk_drewN ?_ _ | refine blk_drew ?_ | refine blk_alloc ?_ _)); refine blk_put (cs := #[.slice none 0 0]) ?_ 0 _ rfl; (with_reducible repeat (first | refine blk_drewN ?_ _ | refine blk_drew ?_ | refine blk_alloc ?_ _)); exact BK110.out) hb); have n4_ := Aside0.mk (below_step (by repeat (first | (with_reducible first | exact HB.out | apply below_alloc | apply pw_below_drewN | apply below_drew1 | refine below_set ?_ GE101.out | refine below_set ?_ GE110.out) | exact HB.out)) hb); clear HO105; clear HO109; clear BK101; clear BK110; clear HB; have HO105 := n0_; have HO109 := n1_; have BK101 := n2_; have BK110 := n3_; have HB := n4_; clear n0_ n1_ n2_ n3_ n4_; (try clear hb); (try clear hb2); (try clear hk); (try clear hi)))
    have n0_ := Aside0.mk (Kd.S_drew HO105.out)
    have n1_ := Aside0.mk (Kd.S_drew HO109.out)
    have n2_ := Aside0.mk (blk_drew BK101.out)
    have n3_ := Aside0.mk (blk_drew BK110.out)
    have n4_ := Aside0.mk (below_drew1 HB.out)
    clear HO105
    clear HO109
    clear BK101
    clear BK110
    clear HB
    have HO105 := n0_
    have HO109 := n1_
    have BK101 := n2_
    have BK110 := n3_
    have HB := n4_
    clear n0_ n1_ n2_ n3_ n4_
    refine start_ (n := 5) (S := fun w' => w'.cell? ⟨gb110, 0, none⟩ = some (.slice Ao39 t107.length co39) ∧ w'.cell? ⟨gb101, 0, none⟩ = some (.slice A0_0 l0_0.length c0_0)) (ds := []) #[false, false, false, false, false] (by kernel_rfl) rfl rfl ⟨(blk_cell BK110.out 0).trans rfl, (blk_cell BK101.out 0).trans rfl⟩ (fun hHeld => ?_)
    generalize w42.drew = w43 at HO105 HO109 BK101 BK110 HB hHeld ⊢
    refine take_ (i := 0) (N := some 22) (v := ?_) (a' := ?_) #[true, false, false, false, false] rfl rfl (by kernel_rfl) (fun _ _ _ h => h) (Or.inl ⟨by rfl, ?_⟩) hHeld ?_ ?_
    rotate_left
    next =>
     rintro w' ⟨s0, s1⟩
     go_simp
     with_reducible rfl
    rotate_left
    next =>
     simp only [Act.put, List.setIfInBounds_toArray, List.set_cons_zero, List.set_cons_succ, i64_w, i32_w]
     rfl
    refine take_ (i := 1) (N := some 23) (v := ?_) (a' := ?_) #[true, true, false, false, false] rfl rfl (by kernel_rfl) (fun _ _ _ h => h) (Or.inl ⟨by rfl, ?_⟩) hHeld ?_ ?_
    rotate_left
    next =>
     rintro w' ⟨s0, s1⟩
     go_simp
     with_reducible rfl
    rotate_left
    next =>
     simp only [Act.put, List.setIfInBounds_toArray, List.set_cons_zero, List.set_cons_succ, i64_w, i32_w]
     rfl
    refine one_ (i := 2) (N := some 24) #[true, true, true, false, false] rfl rfl (by kernel_rfl) (by decide) (fun K hK => ?_)
    refine goes_ Try.func17 (by kernel_rfl) rfl #[.agg #[.slice A0_0 l0_0.length c0_0]] (by rfl) rfl rfl (by (try simp only [List.map_toArray, List.map_cons, List.map_nil]); first | done | rfl | (simp only [List.length_drop, List.length_take]; rfl)) ?_
    with_reducible refine (laws_toTriangulation.calls k _ _ l0_0 t112 _ ?side1 ?side2 A26.out).mono ?_
    (case side1 => repeat (first | exact (Kd.C_below HR0_0.out HB.out) | (with_reducible refine Kd.C_alloc ?_ _) | (with_reducible refine Kd.C_drewN ?_ _) | (with_reducible refine Kd.C_drew ?_)))
    (case side2 => exact HC0_0.out)
    rintro e w44 ⟨v113, rfl, ho0, hb⟩
    refine ⟨_, rfl, ?_⟩
    have n0_ := Aside0.mk (Kd.S_elder' (by (with_reducible repeat (first | apply Kd.S_alloc | apply Kd.S_drewN | apply Kd.S_drew)); exact HO105.out) (Kd.S_base ho0) hb)
    have n1_ := Aside0.mk (Kd.S_elder' (by (with_reducible repeat (first | apply Kd.S_alloc | apply Kd.S_drewN | apply Kd.S_drew)); exact HO109.out) (Kd.S_base ho0) hb)
    have n2_ := Aside0.mk (Kd.S_lower (Kd.S_new' (Kd.S_new' ho0 (Kd.S_lt (by (with_reducible repeat (first | apply Kd.S_alloc | apply Kd.S_drewN | apply Kd.S_drew)); exact HO105.out))) (Kd.S_lt (by (with_reducible repeat (first | apply Kd.S_alloc | apply Kd.S_drewN | apply Kd.S_drew)); exact HO109.out))) (below_size (by repeat (first | (with_reducible first | exact HB.out | apply below_alloc | apply pw_below_drewN | apply below_drew1 | refine below_set ?_ GE101.out | refine below_set ?_ GE110.out) | exact HB.out))))
    have n3_ := Aside0.mk (blk_below (g := gb101) (o := .cells #[.slice A0_0 l0_0.length c0_0] 24 (0, 0)) (by (with_reducible repeat (first | refine blk_drewN ?_ _ | refine blk_drew ?_ | refine blk_alloc ?_ _)); exact BK101.out) hb)
    have n4_ := Aside0.mk (blk_below (g := gb110) (o := .cells #[.slice Ao39 t107.length co39] 29 (0, 0)) (by (with_reducible repeat (first | refine blk_drewN ?_ _ | refine blk_drew ?_ | refine blk_alloc ?_ _)); exact BK110.out) hb)
    have n5_ := Aside0.mk (below_step (by repeat (first | (with_reducible first | exact HB.out | apply below_alloc | apply pw_below_drewN | apply below_drew1 | refine below_set ?_ GE101.out | refine below_set ?_ GE110.out) | exact HB.out)) hb)
    clear HO105
    clear HO109
    clear BK101
    clear BK110
    clear HB
    have HO105 := n0_
    have HO109 := n1_
    have HO114 := n2_
    have BK101 := n3_
    have BK110 := n4_
    have HB := n5_
    clear n0_ n1_ n2_ n3_ n4_ n5_
    (try clear hb)
    (try clear hb2)
    (try clear hk)
    (try clear hi)
    (try clear ho0)
    obtain ⟨Ao45, co45, eo45⟩ := Kd.S_slice HO114.out
    (first | subst eo45 | (injection eo45 with f1_ f2_ f3_; have f4_ := f1_.symm; have f5_ := f3_.symm; clear f1_ f2_ f3_; subst f4_; subst f5_))
    refine hK.out _ _ ⟨(blk_cell BK110.out 0).trans rfl, (blk_cell BK101.out 0).trans rfl⟩ (fun hHeld => ?_)
    clear hK K
    refine norm_ (a' := ?_) ?_ ?_
    rotate_left
    next =>
     show Act.put _ (some 24) _ = _
     simp only [Act.put, List.setIfInBounds_toArray, List.set_cons_zero, List.set_cons_succ, i64_w, i32_w]
     rfl
    refine one_ (i := 3) (N := some 25) #[true, true, true, true, false] rfl rfl (by kernel_rfl) (by decide) (fun K hK => ?_)
    refine goes_ Try.func19 (by kernel_rfl) rfl #[.agg #[.slice Ao39 t107.length co39], .agg #[.slice Ao45 t112.length co45]] (by rfl) rfl rfl (by (try simp only [List.map_toArray, List.map_cons, List.map_nil]); first | done | rfl | (simp only [List.length_drop, List.length_take]; rfl)) ?_
    with_reducible refine (laws_eqTriangulation.calls k _ _ t107 _ _ t112 true _ ?side1 ?side2 ?side3 ?side4 A27.out).mono ?_
    (case side1 => repeat (first | exact (Kd.S_reads' HO109.out).2.2 | (with_reducible refine Kd.C_alloc ?_ _) | (with_reducible refine Kd.C_drewN ?_ _) | (with_reducible refine Kd.C_drew ?_)))
    (case side2 => exact (Kd.S_reads' HO109.out).2.1)
    (case side3 => repeat (first | exact (Kd.S_reads' HO114.out).2.2 | (with_reducible refine Kd.C_alloc ?_ _) | (with_reducible refine Kd.C_drewN ?_ _) | (with_reducible refine Kd.C_drew ?_)))
    (case side4 => exact (Kd.S_reads' HO114.out).2.1)
    rintro e w46 ⟨rfl, hb⟩
    refine ⟨_, rfl, ?_⟩
    have n0_ := Aside0.mk (Kd.S_below (by (with_reducible repeat (first | apply Kd.S_alloc | apply Kd.S_drewN | apply Kd.S_drew)); exact HO105.out) hb)
    have n1_ := Aside0.mk (Kd.S_below (by (with_reducible repeat (first | apply Kd.S_alloc | apply Kd.S_drewN | apply Kd.S_drew)); exact HO109.out) hb)
    have n2_ := Aside0.mk (Kd.S_below (by (with_reducible repeat (first | apply Kd.S_alloc | apply Kd.S_drewN | apply Kd.S_drew)); exact HO114.out) hb)
    have n3_ := Aside0.mk (blk_below (g := gb101) (o := .cells #[.slice A0_0 l0_0.length c0_0] 24 (0, 0)) (by (with_reducible repeat (first | refine blk_drewN ?_ _ | refine blk_drew ?_ | refine blk_alloc ?_ _)); exact BK101.out) hb)
    have n4_ := Aside0.mk (blk_below (g := gb110) (o := .cells #[.slice Ao39 t107.length co39] 29 (0, 0)) (by (with_reducible repeat (first | refine blk_drewN ?_ _ | refine blk_drew ?_ | refine blk_alloc ?_ _)); exact BK110.out) hb)
    have n5_ := Aside0.mk (below_step (by repeat (first | (with_reducible first | exact HB.out | apply below_alloc | apply pw_below_drewN | apply below_drew1 | refine below_set ?_ GE101.out | refine below_set ?_ GE110.out) | exact HB.out)) hb)
    clear HO105
    clear HO109
    clear HO114
    clear BK101
    clear BK110
    clear HB
    have HO105 := n0_
    have HO109 := n1_
    have HO114 := n2_
    have BK101 := n3_
    have BK110 := n4_
    have HB := n5_
    clear n0_ n1_ n2_ n3_ n4_ n5_
    (try clear hb)
    (try clear hb2)
    (try clear hk)
    (try clear hi)
    refine hK.out _ _ ⟨(blk_cell BK110.out 0).trans rfl, (blk_cell BK101.out 0).trans rfl⟩ (fun hHeld => ?_)
    clear hK K
    refine norm_ (a' := ?_) ?_ ?_
    rotate_left
    next =>
     show Act.put _ (some 25) _ = _
     simp only [Act.put, List.setIfInBounds_toArray, List.set_cons_zero, List.set_cons_succ, i64_w, i32_w]
     rfl
    refine pure_ (i := 4) (N := some 26) (v := ?_) (a' := ?_) #[true, true, true, true, true] rfl rfl (by kernel_rfl) (fun _ _ _ h => h) (Or.inl ⟨by rfl, ?_⟩) ?_ ?_
    rotate_left
    next =>
     intro w'
     go_simp
     with_reducible rfl
    rotate_left
    next =>
     simp only [Act.put, List.setIfInBounds_toArray, List.set_cons_zero, List.set_cons_succ, i64_w, i32_w]
     rfl
    refine done_ (by kernel_rfl) ?_
    try go_wp2
    go_ret
    exact ⟨by first | rfl | (simp [errW_none, errW_some] <;> rfl) | (simp [*, errW_none, errW_some] <;> rfl), by repeat (first | (with_reducible first | exact HB.out | apply below_alloc | apply pw_below_drewN | apply below_drew1 | refine below_set ?_ GE101.out | refine below_set ?_ GE110.out) | exact HB.out)⟩
   next =>
    replace c28 := Bool.eq_false_iff.mpr c28
    subst c28
    have H1 : (some false) = some r := by rw [if_neg (show ¬ (false = true) by decide)] at H; exact H
    clear H
    have H := H1
    clear H1
    obtain rfl := Option.some.inj H
    go_enter Try.func3, Try.ntmps3
    try go_wp2_with (first | ((with_reducible refine gate_dst (N := 1) rfl ?_); refine box_event ?hg (N := 1) ?hd (cs := #[.slice A0_0 l0_0.length c0_0]) (t := 24) ?hr ?_; (case hd => rfl); (case hg => rfl); (case hr => first | (go_simp; done) | (go_simp; rfl)); intro gb101 hg w47 hbox hb; have n0_ := Aside0.mk (below_step (by repeat (first | (with_reducible first | exact HB.out | apply below_alloc | apply pw_below_drewN | apply below_drew1) | exact HB.out)) hb); have n1_ := Aside0.mk (hbox); have n2_ := Aside0.mk ((by rw [hg]; exact (below_size (by repeat (first | (with_reducible first | exact HB.out | apply below_alloc | apply pw_below_drewN | apply below_drew1) | exact HB.out))) : w.heap.size ≤ gb101)); have n3_ := Aside0.mk ((by rw [hg]; exact (below_size (by repeat (first | (with_reducible first | exact HB.out | apply below_alloc | apply pw_below_drewN | apply below_drew1) | exact HB.out))) : w.heap.size ≤ gb101)); clear HB; have HB := n0_; have BK101 := n1_; have GW101 := n2_; have GE101 := n3_; clear n0_ n1_ n2_ n3_; clear hb hbox hg; have hcz48_0 : w47.cell? ⟨gb101, 0, none⟩ = some (.slice A0_0 l0_0.length c0_0) := (blk_cell BK101.out 0).trans rfl; have hfz48_0 := blk_frozen BK101.out 0) | ((with_reducible refine gate_callee (f := 15) rfl ?_); refine goesL_ (some 9) rfl rfl Try.func15 (by kernel_rfl) rfl #[.agg #[.slice A0_0 l0_0.length c0_0], .int .i64 1048576] rfl (by (try simp only [List.map_toArray, List.map_cons, List.map_nil]); first | done | rfl | (simp only [List.length_drop, List.length_take]; rfl)) ?_; (with_reducible refine (laws_szTriangulation.calls k _ _ l0_0 1048576 t102 _ ?side1 ?side2 A2.out).mono ?_); (case side1 => repeat (first | exact (Kd.C_below HR0_0.out HB.out) | (with_reducible refine Kd.C_alloc ?_ _) | (with_reducible refine Kd.C_drewN ?_ _) | (with_reducible refine Kd.C_drew ?_))); (case side2 => exact HC0_0.out); rintro e w49 ⟨rfl, hb⟩; refine ⟨_, rfl, ?_⟩; have n0_ := Aside0.mk (blk_below (g := gb101) (o := .cells #[.slice A0_0 l0_0.length c0_0] 24 (0, 0)) (by (with_reducible repeat (first | refine blk_drewN ?_ _ | refine blk_drew ?_ | refine blk_alloc ?_ _)); exact BK101.out) hb); have n1_ := Aside0.mk (below_step (by repeat (first | (with_reducible first | exact HB.out | apply below_alloc | apply pw_below_drewN | apply below_drew1 | refine below_set ?_ GE101.out) | exact HB.out)) hb); clear BK101; clear HB; have BK101 := n0_; have HB := n1_; clear n0_ n1_; (try clear hb); (try clear hb2); (try clear hk); (try clear hi); have hcz50_0 : w49.cell? ⟨gb101, 0, none⟩ = some (.slice A0_0 l0_0.length c0_0) := (blk_cell BK101.out 0).trans rfl; have hfz50_0 := blk_frozen BK101.out 0) | ((with_reducible refine gate_callee (f := 17) rfl ?_); refine goesL_ (some 13) rfl rfl Try.func17 (by kernel_rfl) rfl #[.agg #[.slice A0_0 l0_0.length c0_0]] rfl (by (try simp only [List.map_toArray, List.map_cons, List.map_nil]); first | done | rfl | (simp only [List.length_drop, List.length_take]; rfl)) ?_; (with_reducible refine (laws_toTriangulation.calls k _ _ l0_0 t103 _ ?side1 ?side2 A7.out).mono ?_); (case side1 => repeat (first | exact (Kd.C_below HR0_0.out HB.out) | (with_reducible refine Kd.C_alloc ?_ _) | (with_reducible refine Kd.C_drewN ?_ _) | (with_reducible refine Kd.C_drew ?_))); (case side2 => exact HC0_0.out); rintro e w51 ⟨v104, rfl, ho0, hb⟩; refine ⟨_, rfl, ?_⟩; have n0_ := Aside0.mk (Kd.S_lower ho0 (below_size (by repeat (first | (with_reducible first | exact HB.out | apply below_alloc | apply pw_below_drewN | apply below_drew1 | refine below_set ?_ GE101.out) | exact HB.out)))); have n1_ := Aside0.mk (blk_below (g := gb101) (o := .cells #[.slice A0_0 l0_0.length c0_0] 24 (0, 0)) (by (with_reducible repeat (first | refine blk_drewN ?_ _ | refine blk_drew ?_ | refine blk_alloc ?_ _)); exact BK101.out) hb); have n2_ := Aside0.mk (below_step (by repeat (first | (with_reducible first | exact HB.out | apply below_alloc | apply pw_below_drewN | apply below_drew1 | refine below_set ?_ GE101.out) | exact HB.out)) hb); clear BK101; clear HB; have HO105 := n0_; have BK101 := n1_; have HB := n2_; clear n0_ n1_ n2_; (try clear hb); (try clear hb2); (try clear hk); (try clear hi); (try clear ho0); obtain ⟨Ao52, co52, eo52⟩ := Kd.S_slice HO105.out; subst eo52) | ((with_reducible refine gate_callee (f := 16) rfl ?_); refine goesL_ (some 14) rfl rfl Try.func16 (by kernel_rfl) rfl #[.agg #[.slice Ao52 t103.length co52]] rfl (by (try simp only [List.map_toArray, List.map_cons, List.map_nil]); first | done | rfl | (simp only [List.length_drop, List.length_take]; rfl)) ?_; (with_reducible refine (spec_IsOriented.calls k _ _ t103 t106 _ ?side1 ?side2 A8.out).mono ?_); (case side1 => repeat (first | exact (Kd.S_reads' HO105.out).2.2 | (with_reducible refine Kd.C_alloc ?_ _) | (with_reducible refine Kd.C_drewN ?_ _) | (with_reducible refine Kd.C_drew ?_))); (case side2 => exact (Kd.S_reads' HO105.out).2.1); rintro e w53 ⟨rfl, hb⟩; refine ⟨_, rfl, ?_⟩; have n0_ := Aside0.mk (Kd.S_below (by (with_reducible repeat (first | apply Kd.S_alloc | apply Kd.S_drewN | apply Kd.S_drew)); exact HO105.out) hb); have n1_ := Aside0.mk (blk_below (g := gb101) (o := .cells #[.slice A0_0 l0_0.length c0_0] 24 (0, 0)) (by (with_reducible repeat (first | refine blk_drewN ?_ _ | refine blk_drew ?_ | refine blk_alloc ?_ _)); exact BK101.out) hb); have n2_ := Aside0.mk (below_step (by repeat (first | (with_reducible first | exact HB.out | apply below_alloc | apply pw_below_drewN | apply below_drew1 | refine below_set ?_ GE101.out) | exact HB.out)) hb); clear HO105; clear BK101; clear HB; have HO105 := n0_; have BK101 := n1_; have HB := n2_; clear n0_ n1_ n2_; (try clear hb); (try clear hb2); (try clear hk); (try clear hi); have hcz54_0 : w53.cell? ⟨gb101, 0, none⟩ = some (.slice A0_0 l0_0.length c0_0) := (blk_cell BK101.out 0).trans rfl; have hfz54_0 := blk_frozen BK101.out 0) | ((with_reducible refine gate_callee (f := 17) rfl ?_); refine goesL_ (some 16) rfl rfl Try.func17 (by kernel_rfl) rfl #[.agg #[.slice A0_0 l0_0.length c0_0]] rfl (by (try simp only [List.map_toArray, List.map_cons, List.map_nil]); first | done | rfl | (simp only [List.length_drop, List.length_take]; rfl)) ?_; (with_reducible refine (laws_toTriangulation.calls k _ _ l0_0 t107 _ ?side1 ?side2 A9.out).mono ?_); (case side1 => repeat (first | exact (Kd.C_below HR0_0.out HB.out) | (with_reducible refine Kd.C_alloc ?_ _) | (with_reducible refine Kd.C_drewN ?_ _) | (with_reducible refine Kd.C_drew ?_))); (case side2 => exact HC0_0.out); rintro e w55 ⟨v108, rfl, ho0, hb⟩; refine ⟨_, rfl, ?_⟩; have n0_ := Aside0.mk (Kd.S_elder' (by (with_reducible repeat (first | apply Kd.S_alloc | apply Kd.S_drewN | apply Kd.S_drew)); exact HO105.out) (Kd.S_base ho0) hb); have n1_ := Aside0.mk (Kd.S_lower (Kd.S_new' ho0 (Kd.S_lt (by (with_reducible repeat (first | apply Kd.S_alloc | apply Kd.S_drewN | apply Kd.S_drew)); exact HO105.out))) (below_size (by repeat (first | (with_reducible first | exact HB.out | apply below_alloc | apply pw_below_drewN | apply below_drew1 | refine below_set ?_ GE101.out) | exact HB.out)))); have n2_ := Aside0.mk (blk_below (g := gb101) (o := .cells #[.slice A0_0 l0_0.length c0_0] 24 (0, 0)) (by (with_reducible repeat (first | refine blk_drewN ?_ _ | refine blk_drew ?_ | refine blk_alloc ?_ _)); exact BK101.out) hb); have n3_ := Aside0.mk (below_step (by repeat (first | (with_reducible first | exact HB.out | apply below_alloc | apply pw_below_drewN | apply below_drew1 | refine below_set ?_ GE101.out) | exact HB.out)) hb); clear HO105; clear BK101; clear HB; have HO105 := n0_; have HO109 := n1_; have BK101 := n2_; have HB := n3_; clear n0_ n1_ n2_ n3_; (try clear hb); (try clear hb2); (try clear hk); (try clear hi); (try clear ho0)) | ((with_reducible refine gate_dst (N := 5) rfl ?_); refine box_event ?hg (N := 5) ?hd (cs := #[.slice none 0 0]) (t := 29) ?hr ?_; (case hd => rfl); (case hg => rfl); (case hr => first | (go_simp; done) | (go_simp; rfl)); intro gb110 hg w56 hbox hb; have n0_ := Aside0.mk (Kd.S_below (by (with_reducible repeat (first | apply Kd.S_alloc | apply Kd.S_drewN | apply Kd.S_drew)); exact HO105.out) hb); have n1_ := Aside0.mk (Kd.S_below (by (with_reducible repeat (first | apply Kd.S_alloc | apply Kd.S_drewN | apply Kd.S_drew)); exact HO109.out) hb); have n2_ := Aside0.mk (blk_below (g := gb101) (o := .cells #[.slice A0_0 l0_0.length c0_0] 24 (0, 0)) (by (with_reducible repeat (first | refine blk_drewN ?_ _ | refine blk_drew ?_ | refine blk_alloc ?_ _)); exact BK101.out) hb); have n3_ := Aside0.mk (below_step (by repeat (first | (with_reducible first | exact HB.out | apply below_alloc | apply pw_below_drewN | apply below_drew1 | refine below_set ?_ GE101.out) | exact HB.out)) hb); have n4_ := Aside0.mk (hbox); have n5_ := Aside0.mk ((by rw [hg]; exact (below_size (by repeat (first | (with_reducible first | exact HB.out | apply below_alloc | apply pw_below_drewN | apply below_drew1 | refine below_set ?_ GE101.out) | exact HB.out))) : w.heap.size ≤ gb110)); have n6_ := Aside0.mk ((by rw [hg]; exact (below_size (by repeat (first | (with_reducible first | exact HB.out | apply below_alloc | apply pw_below_drewN | apply below_drew1 | refine below_set ?_ GE101.out) | exact HB.out))) : w.heap.size ≤ gb110)); have n7_ := Aside0.mk ((by rw [hg]; exact Nat.ne_of_lt (blk_lt (g := gb101) (o := .cells #[.slice A0_0 l0_0.length c0_0] 24 (0, 0)) (by (with_reducible repeat (first | refine blk_drewN ?_ _ | refine blk_drew ?_ | refine blk_alloc ?_ _)); exact BK101.out)) : gb101 ≠ gb110)); have n8_ := Aside0.mk ((by rw [hg]; exact Nat.ne_of_gt (blk_lt (g := gb101) (o := .cells #[.slice A0_0 l0_0.length c0_0] 24 (0, 0)) (by (with_reducible repeat (first | refine blk_drewN ?_ _ | refine blk_drew ?_ | refine blk_alloc ?_ _)); exact BK101.out)) : gb110 ≠ gb101)); clear HO105; clear HO109; clear BK101; clear HB; have HO105 := n0_; have HO109 := n1_; have BK101 := n2_; have HB := n3_; have BK110 := n4_; have GW110 := n5_; have GE110 := n6_; have NB101_110 := n7_; have NB110_101 := n8_; clear n0_ n1_ n2_ n3_ n4_ n5_ n6_ n7_ n8_; clear hb hbox hg; obtain ⟨Ao57, co57, eo57⟩ := Kd.S_slice HO109.out; subst eo57; have hnb58 := NB110_101.out; have hnc58 := NB101_110.out; have hcz59_0 : w56.cell? ⟨gb110, 0, none⟩ = some (.slice none 0 0) := (blk_cell BK110.out 0).trans rfl; have hfz59_0 := blk_frozen BK110.out 0) | ((with_reducible refine gate_callee (f := 18) rfl ?_); refine goesL_ (some 18) rfl rfl Try.func18 (by kernel_rfl) rfl #[.agg #[.slice Ao57 t107.length co57]] rfl (by (try simp only [List.map_toArray, List.map_cons, List.map_nil]); first | done | rfl | (simp only [List.length_drop, List.length_take]; rfl)) ?_; (with_reducible refine (impl_IsOriented.calls k _ _ t107 t111 _ ?side1 ?side2 A10.out).mono ?_); (case side1 => refine (Kd.S_reads' (e := 67) (base := w.heap.size) (ok := fun k_ => (True ∧ some k_ ≠ (.slice Ao52 t103.length co52 : Value).ownBlock)) (n := t107.length) (c := co57) ?_).2.2; exact (by (with_reducible repeat (first | apply Kd.S_alloc | apply Kd.S_drewN | apply Kd.S_drew)); exact (Kd.S_mono (Kd.S_far (p := ⟨gb110, 0, none⟩) (Kd.S_types HO109.out BK110.out (by decide)) (fun _ hk => hk.2) (.slice Ao57 t107.length co57)) (fun _ h_ => h_.1)))); (case side2 => exact (Kd.S_reads' HO109.out).2.1); rintro e w60 ⟨rfl, hb⟩; refine ⟨_, rfl, ?_⟩; have n0_ := Aside0.mk (Kd.S_below (by (with_reducible repeat (first | apply Kd.S_alloc | apply Kd.S_drewN | apply Kd.S_drew)); exact (Kd.S_mono (Kd.S_far (p := ⟨gb110, 0, none⟩) (Kd.S_types HO105.out BK110.out (by decide)) (fun _ hk => hk.2) (.slice Ao57 t107.length co57)) (fun _ h_ => h_.1))) hb); have n1_ := Aside0.mk (Kd.S_below (by (with_reducible repeat (first | apply Kd.S_alloc | apply Kd.S_drewN | apply Kd.S_drew)); exact (Kd.S_mono (Kd.S_far (p := ⟨gb110, 0, none⟩) (Kd.S_types HO109.out BK110.out (by decide)) (fun _ hk => hk.2) (.slice Ao57 t107.length co57)) (fun _ h_ => h_.1))) hb); have n2_ := Aside0.mk (blk_below (g := gb101) (o := .cells #[.slice A0_0 l0_0.length c0_0] 24 (0, 0)) (by (with_reducible repeat (first | refine blk_drewN ?_ _ | refine blk_drew ?_ | refine blk_alloc ?_ _)); refine blk_far ?_ NB101_110.out _; (with_reducible repeat (first | refine blk_drewN ?_ _ | refine blk_drew ?_ | refine blk_alloc ?_ _)); exact BK101.out) hb); have n3_ := Aside0.mk (blk_below (g := gb110) (o := .cells #[.slice Ao57 t107.length co57] 29 (0, 0)) (by (with_reducible repeat (first | refine blk_drewN ?_ _ | refine blk_drew ?_ | refine blk_alloc ?_ _)); refine blk_put (cs := #[.slice none 0 0]) ?_ 0 _ rfl; (with_reducible repeat (first | refine blk_drewN ?_ _ | refine blk_drew ?_ | refine blk_alloc ?_ _)); exact BK110.out) hb); have n4_ := Aside0.mk (below_step (by repeat (first | (with_reducible first | exact HB.out | apply below_alloc | apply pw_below_drewN | apply below_drew1 | refine below_set ?_ GE101.out | refine below_set ?_ GE110.out) | exact HB.out)) hb); clear HO105; clear HO109; clear BK101; clear BK110; clear HB; have HO105 := n0_; have HO109 := n1_; have BK101 := n2_; have BK110 := n3_; have HB := n4_; clear n0_ n1_ n2_ n3_ n4_; (try clear hb); (try clear hb2); (try clear hk); (try clear hi)))
    have n0_ := Aside0.mk (Kd.S_drew HO105.out)
    have n1_ := Aside0.mk (Kd.S_drew HO109.out)
    have n2_ := Aside0.mk (blk_drew BK101.out)
    have n3_ := Aside0.mk (blk_drew BK110.out)
    have n4_ := Aside0.mk (below_drew1 HB.out)
    clear HO105
    clear HO109
    clear BK101
    clear BK110
    clear HB
    have HO105 := n0_
    have HO109 := n1_
    have BK101 := n2_
    have BK110 := n3_
    have HB := n4_
    clear n0_ n1_ n2_ n3_ n4_
    refine start_ (n := 5) (S := fun w' => w'.cell? ⟨gb110, 0, none⟩ = some (.slice Ao57 t107.length co57) ∧ w'.cell? ⟨gb101, 0, none⟩ = some (.slice A0_0 l0_0.length c0_0)) (ds := []) #[false, false, false, false, false] (by kernel_rfl) rfl rfl ⟨(blk_cell BK110.out 0).trans rfl, (blk_cell BK101.out 0).trans rfl⟩ (fun hHeld => ?_)
    generalize w60.drew = w61 at HO105 HO109 BK101 BK110 HB hHeld ⊢
    refine take_ (i := 0) (N := some 22) (v := ?_) (a' := ?_) #[true, false, false, false, false] rfl rfl (by kernel_rfl) (fun _ _ _ h => h) (Or.inl ⟨by rfl, ?_⟩) hHeld ?_ ?_
    rotate_left
    next =>
     rintro w' ⟨s0, s1⟩
     go_simp
     with_reducible rfl
    rotate_left
    next =>
     simp only [Act.put, List.setIfInBounds_toArray, List.set_cons_zero, List.set_cons_succ, i64_w, i32_w]
     rfl
    refine take_ (i := 1) (N := some 23) (v := ?_) (a' := ?_) #[true, true, false, false, false] rfl rfl (by kernel_rfl) (fun _ _ _ h => h) (Or.inl ⟨by rfl, ?_⟩) hHeld ?_ ?_
    rotate_left
    next =>
     rintro w' ⟨s0, s1⟩
     go_simp
     with_reducible rfl
    rotate_left
    next =>
     simp only [Act.put, List.setIfInBounds_toArray, List.set_cons_zero, List.set_cons_succ, i64_w, i32_w]
     rfl
    refine one_ (i := 2) (N := some 24) #[true, true, true, false, false] rfl rfl (by kernel_rfl) (by decide) (fun K hK => ?_)
    refine goes_ Try.func17 (by kernel_rfl) rfl #[.agg #[.slice A0_0 l0_0.length c0_0]] (by rfl) rfl rfl (by (try simp only [List.map_toArray, List.map_cons, List.map_nil]); first | done | rfl | (simp only [List.length_drop, List.length_take]; rfl)) ?_
    with_reducible refine (laws_toTriangulation.calls k _ _ l0_0 t112 _ ?side1 ?side2 A26.out).mono ?_
    (case side1 => repeat (first | exact (Kd.C_below HR0_0.out HB.out) | (with_reducible refine Kd.C_alloc ?_ _) | (with_reducible refine Kd.C_drewN ?_ _) | (with_reducible refine Kd.C_drew ?_)))
    (case side2 => exact HC0_0.out)
    rintro e w62 ⟨v113, rfl, ho0, hb⟩
    refine ⟨_, rfl, ?_⟩
    have n0_ := Aside0.mk (Kd.S_elder' (by (with_reducible repeat (first | apply Kd.S_alloc | apply Kd.S_drewN | apply Kd.S_drew)); exact HO105.out) (Kd.S_base ho0) hb)
    have n1_ := Aside0.mk (Kd.S_elder' (by (with_reducible repeat (first | apply Kd.S_alloc | apply Kd.S_drewN | apply Kd.S_drew)); exact HO109.out) (Kd.S_base ho0) hb)
    have n2_ := Aside0.mk (Kd.S_lower (Kd.S_new' (Kd.S_new' ho0 (Kd.S_lt (by (with_reducible repeat (first | apply Kd.S_alloc | apply Kd.S_drewN | apply Kd.S_drew)); exact HO105.out))) (Kd.S_lt (by (with_reducible repeat (first | apply Kd.S_alloc | apply Kd.S_drewN | apply Kd.S_drew)); exact HO109.out))) (below_size (by repeat (first | (with_reducible first | exact HB.out | apply below_alloc | apply pw_below_drewN | apply below_drew1 | refine below_set ?_ GE101.out | refine below_set ?_ GE110.out) | exact HB.out))))
    have n3_ := Aside0.mk (blk_below (g := gb101) (o := .cells #[.slice A0_0 l0_0.length c0_0] 24 (0, 0)) (by (with_reducible repeat (first | refine blk_drewN ?_ _ | refine blk_drew ?_ | refine blk_alloc ?_ _)); exact BK101.out) hb)
    have n4_ := Aside0.mk (blk_below (g := gb110) (o := .cells #[.slice Ao57 t107.length co57] 29 (0, 0)) (by (with_reducible repeat (first | refine blk_drewN ?_ _ | refine blk_drew ?_ | refine blk_alloc ?_ _)); exact BK110.out) hb)
    have n5_ := Aside0.mk (below_step (by repeat (first | (with_reducible first | exact HB.out | apply below_alloc | apply pw_below_drewN | apply below_drew1 | refine below_set ?_ GE101.out | refine below_set ?_ GE110.out) | exact HB.out)) hb)
    clear HO105
    clear HO109
    clear BK101
    clear BK110
    clear HB
    have HO105 := n0_
    have HO109 := n1_
    have HO114 := n2_
    have BK101 := n3_
    have BK110 := n4_
    have HB := n5_
    clear n0_ n1_ n2_ n3_ n4_ n5_
    (try clear hb)
    (try clear hb2)
    (try clear hk)
    (try clear hi)
    (try clear ho0)
    obtain ⟨Ao63, co63, eo63⟩ := Kd.S_slice HO114.out
    (first | subst eo63 | (injection eo63 with f1_ f2_ f3_; have f4_ := f1_.symm; have f5_ := f3_.symm; clear f1_ f2_ f3_; subst f4_; subst f5_))
    refine hK.out _ _ ⟨(blk_cell BK110.out 0).trans rfl, (blk_cell BK101.out 0).trans rfl⟩ (fun hHeld => ?_)
    clear hK K
    refine norm_ (a' := ?_) ?_ ?_
    rotate_left
    next =>
     show Act.put _ (some 24) _ = _
     simp only [Act.put, List.setIfInBounds_toArray, List.set_cons_zero, List.set_cons_succ, i64_w, i32_w]
     rfl
    refine one_ (i := 3) (N := some 25) #[true, true, true, true, false] rfl rfl (by kernel_rfl) (by decide) (fun K hK => ?_)
    refine goes_ Try.func19 (by kernel_rfl) rfl #[.agg #[.slice Ao57 t107.length co57], .agg #[.slice Ao63 t112.length co63]] (by rfl) rfl rfl (by (try simp only [List.map_toArray, List.map_cons, List.map_nil]); first | done | rfl | (simp only [List.length_drop, List.length_take]; rfl)) ?_
    with_reducible refine (laws_eqTriangulation.calls k _ _ t107 _ _ t112 false _ ?side1 ?side2 ?side3 ?side4 A27.out).mono ?_
    (case side1 => repeat (first | exact (Kd.S_reads' HO109.out).2.2 | (with_reducible refine Kd.C_alloc ?_ _) | (with_reducible refine Kd.C_drewN ?_ _) | (with_reducible refine Kd.C_drew ?_)))
    (case side2 => exact (Kd.S_reads' HO109.out).2.1)
    (case side3 => repeat (first | exact (Kd.S_reads' HO114.out).2.2 | (with_reducible refine Kd.C_alloc ?_ _) | (with_reducible refine Kd.C_drewN ?_ _) | (with_reducible refine Kd.C_drew ?_)))
    (case side4 => exact (Kd.S_reads' HO114.out).2.1)
    rintro e w64 ⟨rfl, hb⟩
    refine ⟨_, rfl, ?_⟩
    have n0_ := Aside0.mk (Kd.S_below (by (with_reducible repeat (first | apply Kd.S_alloc | apply Kd.S_drewN | apply Kd.S_drew)); exact HO105.out) hb)
    have n1_ := Aside0.mk (Kd.S_below (by (with_reducible repeat (first | apply Kd.S_alloc | apply Kd.S_drewN | apply Kd.S_drew)); exact HO109.out) hb)
    have n2_ := Aside0.mk (Kd.S_below (by (with_reducible repeat (first | apply Kd.S_alloc | apply Kd.S_drewN | apply Kd.S_drew)); exact HO114.out) hb)
    have n3_ := Aside0.mk (blk_below (g := gb101) (o := .cells #[.slice A0_0 l0_0.length c0_0] 24 (0, 0)) (by (with_reducible repeat (first | refine blk_drewN ?_ _ | refine blk_drew ?_ | refine blk_alloc ?_ _)); exact BK101.out) hb)
    have n4_ := Aside0.mk (blk_below (g := gb110) (o := .cells #[.slice Ao57 t107.length co57] 29 (0, 0)) (by (with_reducible repeat (first | refine blk_drewN ?_ _ | refine blk_drew ?_ | refine blk_alloc ?_ _)); exact BK110.out) hb)
    have n5_ := Aside0.mk (below_step (by repeat (first | (with_reducible first | exact HB.out | apply below_alloc | apply pw_below_drewN | apply below_drew1 | refine below_set ?_ GE101.out | refine below_set ?_ GE110.out) | exact HB.out)) hb)
    clear HO105
    clear HO109
    clear HO114
    clear BK101
    clear BK110
    clear HB
    have HO105 := n0_
    have HO109 := n1_
    have HO114 := n2_
    have BK101 := n3_
    have BK110 := n4_
    have HB := n5_
    clear n0_ n1_ n2_ n3_ n4_ n5_
    (try clear hb)
    (try clear hb2)
    (try clear hk)
    (try clear hi)
    refine hK.out _ _ ⟨(blk_cell BK110.out 0).trans rfl, (blk_cell BK101.out 0).trans rfl⟩ (fun hHeld => ?_)
    clear hK K
    refine norm_ (a' := ?_) ?_ ?_
    rotate_left
    next =>
     show Act.put _ (some 25) _ = _
     simp only [Act.put, List.setIfInBounds_toArray, List.set_cons_zero, List.set_cons_succ, i64_w, i32_w]
     rfl
    refine pure_ (i := 4) (N := some 26) (v := ?_) (a' := ?_) #[true, true, true, true, true] rfl rfl (by kernel_rfl) (fun _ _ _ h => h) (Or.inl ⟨by rfl, ?_⟩) ?_ ?_
    rotate_left
    next =>
     intro w'
     go_simp
     with_reducible rfl
    rotate_left
    next =>
     simp only [Act.put, List.setIfInBounds_toArray, List.set_cons_zero, List.set_cons_succ, i64_w, i32_w]
     rfl
    refine done_ (by kernel_rfl) ?_
    try go_wp2
    go_ret
    exact ⟨by first | rfl | (simp [errW_none, errW_some] <;> rfl) | (simp [*, errW_none, errW_some] <;> rfl), by repeat (first | (with_reducible first | exact HB.out | apply below_alloc | apply pw_below_drewN | apply below_drew1 | refine below_set ?_ GE101.out | refine below_set ?_ GE110.out) | exact HB.out)⟩
end Go.Proofs.Ytfaagdpopmnnpaa.P

/- Plain lemmas on loops that are counted by rounds, and on lists of whole numbers. -/
namespace Go.Proofs.Ytfaagdpopmnnpaa.Lib
set_option linter.unusedVariables false
open Go.RowKit Go.Proofs.YtfaagdpopmnnpaaW.PrintWords
/-- A loop comes to g of its first state: at each state it ends with g, or goes on at a smaller state of the same g. -/
theorem ev_loop {σ ρ : Type} (L : Nat → σ → Option ρ) (I : σ → Prop) (m : σ → Nat) (g : σ → ρ)
    (h : ∀ s, I s → (∃ K, ∀ k, K ≤ k → L (k + 1) s = some (g s)) ∨ (∃ s' K, I s' ∧ m s' < m s ∧ g s' = g s ∧ ∀ k, K ≤ k → L (k + 1) s = L k s')) :
    ∀ s, I s → Ev (fun k => L k s) (g s) := by
  have key : ∀ (n : Nat) (s : σ), m s < n → I s → Ev (fun k => L k s) (g s) := by
    intro n
    induction n with
    | zero => intro s hs; omega
    | succ n ih =>
      intro s hs hi
      rcases h s hi with ⟨K, hK⟩ | ⟨s', K, hi', hm, hg, hK⟩
      · refine ⟨K + 1, fun k hk => ?_⟩
        obtain ⟨j, rfl⟩ : ∃ j, k = j + 1 := ⟨k - 1, by omega⟩
        exact hK j (by omega)
      · obtain ⟨K', hK'⟩ := ih s' (by omega) hi'
        refine ⟨max K K' + 1, fun k hk => ?_⟩
        obtain ⟨j, rfl⟩ : ∃ j, k = j + 1 := ⟨k - 1, by omega⟩
        show L (j + 1) s = some (g s)
        rw [hK j (by omega), ← hg]
        exact hK' j (by omega)
  intro s hi
  exact key (m s + 1) s (by omega) hi
/-- The same, where a round asks for no number of rounds. -/
theorem ev_loop0 {σ ρ : Type} (L : Nat → σ → Option ρ) (I : σ → Prop) (m : σ → Nat) (g : σ → ρ)
    (h : ∀ s, I s → (∀ k, L (k + 1) s = some (g s)) ∨ (∃ s', I s' ∧ m s' < m s ∧ g s' = g s ∧ ∀ k, L (k + 1) s = L k s')) :
    ∀ s, I s → Ev (fun k => L k s) (g s) :=
  ev_loop L I m g fun s hi => by
    rcases h s hi with h1 | ⟨s', h1, h2, h3, h4⟩
    · exact .inl ⟨0, fun k _ => h1 k⟩
    · exact .inr ⟨s', 0, h1, h2, h3, fun k _ => h4 k⟩
theorem wrap_id {x : Int} (h0 : -9223372036854775808 ≤ x) (h1 : x ≤ 9223372036854775807) : wrap64 x = x := by
  unfold wrap64; omega
theorem wrap_succ {n : Nat} (h : n ≤ 4611686018427387904) : wrap64 ((n : Int) + 1) = ((n + 1 : Nat) : Int) := by
  rw [wrap_id (by omega) (by omega)]; rfl
theorem rd_lt (xs : List Int) (n : Nat) (h : n < xs.length) : rd xs (n : Int) = xs[n] := by simp [rd, h]
theorem ev_neg {α : Type} {c : Prop} [Decidable c] {f g : Nat → Option α} {r : α} (h : ¬ c) (k : Ev g r) : Ev (fun n => if c then f n else g n) r := Ev.congr (fun _ => if_neg h) k
theorem ev_pos {α : Type} {c : Prop} [Decidable c] {f g : Nat → Option α} {r : α} (h : c) (k : Ev f r) : Ev (fun n => if c then f n else g n) r := Ev.congr (fun _ => if_pos h) k
theorem ev_some {α : Type} {r r' : α} (h : r = r') : Ev (fun _ => some r) r' := h ▸ Ev.now r
theorem ev_const {α : Type} {o : Option α} {r : α} (h : o = some r) : Ev (fun _ => o) r := ⟨0, fun _ _ => h⟩
theorem ev_const' {α : Type} {g : Nat → Option α} {r : α} (h : ∀ k, g k = some r) : Ev g r := ⟨0, fun k _ => h k⟩
/-- A function whose first step takes one round. -/
theorem ev_step {α : Type} {g f : Nat → Option α} {r : α} (h : ∀ k, g (k + 1) = f k) (k : Ev f r) : Ev g r := Ev.step h k
theorem idxO_any {α : Type} {f : α → Option Bool} {p : α → Bool} : ∀ (i : Nat) (l : List α), (∀ x ∈ l, f x = some (p x)) → ∃ r, idxO f i l = some r ∧ decide (0 ≤ r) = l.any p
  | i, [], _ => ⟨-1, rfl, rfl⟩
  | i, x :: xs, h => by
    rw [idxO_cons, h x (List.mem_cons_self ..), Option.bind_some]
    cases hp : p x with
    | true => exact ⟨i, by rw [if_pos rfl], by simp [hp]⟩
    | false =>
      obtain ⟨r, h1, h2⟩ := idxO_any (i + 1) xs (fun y hy => h y (List.mem_cons_of_mem _ hy))
      exact ⟨r, by rw [if_neg (by simp)]; exact h1, by rw [h2]; simp [hp]⟩
theorem contO {α : Type} {f : α → Option Bool} {p : α → Bool} (l : List α) (h : ∀ x ∈ l, f x = some (p x)) : (idxO f 0 l).bind (fun i => some (decide (0 ≤ i))) = some (l.any p) := by
  obtain ⟨r, h1, h2⟩ := idxO_any 0 l h
  rw [h1, Option.bind_some, h2]
end Go.Proofs.Ytfaagdpopmnnpaa.Lib

/- Permutations of four vertices: what the reference's functions come to, in the words of the program's contracts. -/
namespace Go.Proofs.Ytfaagdpopmnnpaa.P
open Go.RowKit Go.Proofs.YtfaagdpopmnnpaaW.PrintWords Go.Proofs.Ytfaagdpopmnnpaa.Lib
set_option linter.unusedVariables false
theorem inRange_eq (a b c : Int) : impl_inRange.f a b c = some (decide (b ≤ a) && decide (a ≤ c)) := by
  unfold impl_inRange.f
  by_cases h : b ≤ a <;> simp [h]
theorem l07In_eq (a b c : Int) : spec_l07In.f a b c = some (decide (b ≤ a) && decide (a ≤ c)) := by
  unfold spec_l07In.f
  by_cases h : b ≤ a <;> simp [h]
theorem l06Valid_eq (a : Int) : spec_l06Valid.f a = some (decide (0 ≤ a) && decide (a ≤ 23)) := by
  unfold spec_l06Valid.f
  by_cases h : 0 ≤ a
  · rw [if_pos h]; simp [h]; omega
  · rw [if_neg h]; simp [h]
theorem isPerm_eq (a : Int) : impl_isPerm.f a = some (decide (0 ≤ a) && decide (a ≤ 23)) := by
  unfold impl_isPerm.f; rw [inRange_eq]; rfl
/-- A number that is the index of a permutation. -/
theorem fin_of {p : Int} (h0 : 0 ≤ p) (h1 : p ≤ 23) : ∃ m : Fin 24, p = (m.val : Int) := ⟨⟨p.toNat, by omega⟩, by simp; omega⟩
theorem l06Images_ev {p : Int} (h0 : 0 ≤ p) (h1 : p ≤ 23) : Ev (fun k => spec_l06Images.f k p) (permL p) := by
  obtain ⟨m, rfl⟩ := fin_of h0 h1
  have key : ∀ m : Fin 24, spec_l06Images.f 5 (m.val : Int) = some (permL (m.val : Int)) := by decide +kernel
  exact Ev.of (fun k => spec_l06Images.mono _ k) (key m)
theorem permL_len (p : Int) : (permL p).length = 4 := rfl
theorem permL_sm {p f : Int} (h0 : 0 ≤ p) (h1 : p ≤ 23) (hf0 : 0 ≤ f) (hf1 : f ≤ 3) : 0 ≤ rd (permL p) f ∧ rd (permL p) f ≤ 3 := by
  obtain ⟨a, b, c, d⟩ := permAt_sm p h0 h1
  exact rd_four_sm a b c d f hf0 hf1
theorem l06At_ev {p f : Int} (h0 : 0 ≤ p) (h1 : p ≤ 23) (hf0 : 0 ≤ f) (hf1 : f ≤ 3) : Ev (fun k => spec_l06At.f k p f) (rd (permL p) f) := by
  refine Ev.bind (l06Images_ev h0 h1) ?_
  exact ev_pos hf0 (ev_pos (by rw [permL_len]; omega) (Ev.now _))
theorem l06Back_ev {p : Int} (h0 : 0 ≤ p) (h1 : p ≤ 23) : Ev (fun k => spec_l06Back.f k p) (invP p) := by
  obtain ⟨m, rfl⟩ := fin_of h0 h1
  have key : ∀ m : Fin 24, spec_l06Back.f 40 (m.val : Int) = some (invP (m.val : Int)) := by decide +kernel
  exact Ev.of (fun k => spec_l06Back.mono _ k) (key m)
theorem target_eq {q p f : Int} (h0 : 0 ≤ p) (h1 : p ≤ 23) (hf0 : 0 ≤ f) (hf1 : f ≤ 3) : impl_Face_target.f q p f = some (rd (permL p) f) := if_pos ⟨h0, h1, hf0, hf1⟩
theorem partner_eq {q p a : Int} (h0 : 0 ≤ p) (h1 : p ≤ 23) : impl_Face_partner.f q p a = some (a, invP p) := by
  unfold impl_Face_partner.f impl_invert.f
  rw [if_pos ⟨h0, h1⟩]; rfl
end Go.Proofs.Ytfaagdpopmnnpaa.P

/- Valid triangulations: the laws' own functions on triangulations, and IsTriangulation of both sides. -/
namespace Go.Proofs.Ytfaagdpopmnnpaa.P
open Go.RowKit Go.Proofs.YtfaagdpopmnnpaaW.PrintWords Go.Proofs.Ytfaagdpopmnnpaa.Lib
set_option linter.unusedVariables false
abbrev Tri := List (List SFace)
/-- No list of t is longer than a million. -/
def Small (t : Tri) : Prop := t.length ≤ 1048576 ∧ ∀ r ∈ t, r.length ≤ 1048576
def SmallL (t : List (List SLawFace)) : Prop := t.length ≤ 1048576 ∧ ∀ r ∈ t, r.length ≤ 1048576
def Fits (t : List (List SLawFace)) : Prop := t.length ≤ 9223372036854775807 ∧ ∀ r ∈ t, r.length ≤ 9223372036854775807
theorem rd_LLawFace_lt (t : List (List SLawFace)) (n : Nat) (h : n < t.length) : rd_LLawFace t (n : Int) = t[n] := by simp [rd_LLawFace, h]
theorem rd_LFace_lt (t : Tri) (n : Nat) (h : n < t.length) : rd_LFace t (n : Int) = t[n] := by simp [rd_LFace, h]
theorem rd_LawFace_lt (t : List SLawFace) (n : Nat) (h : n < t.length) : rd_LawFace t (n : Int) = t[n] := by simp [rd_LawFace, h]
theorem rd_Face_lt (t : List SFace) (n : Nat) (h : n < t.length) : rd_Face t (n : Int) = t[n] := by simp [rd_Face, h]
theorem szFaceS_eq (r : List SLawFace) (a : Int) (h0 : 0 ≤ a) (h1 : a ≤ 1048576) (h : r.length ≤ 9223372036854775807) : laws_szFaceS.f r a = some (if a - r.length < 0 then -1 else a - r.length) := by
  unfold laws_szFaceS.f
  rw [wrap_id (by omega) (by omega)]
  split <;> rfl
theorem szFaceSS_ev (t : List (List SLawFace)) (h : Fits t) (hl : t.length ≤ 1048576) : ∃ r, Ev (fun k => laws_szFaceSS.l0 k t (1048576 - t.length) 0) r ∧ (0 ≤ r → ∀ x ∈ t, x.length ≤ 1048576) := by
  have key : ∀ d n : Nat, ∀ a : Int, n + d = t.length → 0 ≤ a → a ≤ 1048576 → ∃ r, Ev (fun k => laws_szFaceSS.l0 k t a (n : Int)) r ∧ (0 ≤ r → ∀ x ∈ t.drop n, x.length ≤ 1048576) := by
    intro d
    induction d with
    | zero =>
      intro n a hn h0 h1
      refine ⟨a, ev_step (f := fun _ => some a) (fun k => ?_) (Ev.now a), fun _ x hx => ?_⟩
      · simp only [laws_szFaceSS.l0]; rw [if_neg (by omega)]
      · rw [List.drop_eq_nil_of_le (by omega)] at hx; cases hx
    | succ d ih =>
      intro n a hn h0 h1
      have hlt : n < t.length := by omega
      have hf := h.2 t[n] (List.getElem_mem hlt)
      by_cases hc : a - t[n].length < 0
      · refine ⟨-1, ev_step (f := fun _ => some (-1)) (fun k => ?_) (Ev.now (-1)), fun h => by omega⟩
        simp only [laws_szFaceSS.l0]
        rw [if_pos (by omega), if_pos (by omega), rd_LLawFace_lt t n hlt, szFaceS_eq _ a h0 h1 hf, Option.bind_some, if_pos hc]
        rfl
      · obtain ⟨r, hr, hr2⟩ := ih (n + 1) (a - t[n].length) (by omega) (by omega) (by omega)
        refine ⟨r, ev_step (fun k => ?_) hr, fun h x hx => ?_⟩
        · simp only [laws_szFaceSS.l0]
          rw [if_pos (by omega), if_pos (by omega), rd_LLawFace_lt t n hlt, szFaceS_eq _ a h0 h1 hf, Option.bind_some, if_neg hc, if_neg (by omega), wrap_succ (by omega)]
        · rw [List.drop_eq_getElem_cons hlt] at hx
          rcases List.mem_cons.1 hx with rfl | hx
          · omega
          · exact hr2 h x hx
  obtain ⟨r, hr, hr2⟩ := key t.length 0 (1048576 - t.length) (by omega) (by omega) (by omega)
  exact ⟨r, hr, fun h => by have := hr2 h; rwa [List.drop_zero] at this⟩
theorem szTriangulation_ev (t : List (List SLawFace)) (h : Fits t) : ∃ r, Ev (fun k => laws_szTriangulation.f k t 1048576) r ∧ (¬ r < 0 → SmallL t) := by
  by_cases hl : (1048576 - (t.length : Int)) < 0
  · refine ⟨-1, ?_, fun h => by omega⟩
    refine Ev.bind (a := -1) (ev_const' (fun k => ?_)) (ev_pos (by omega) (Ev.now _))
    unfold laws_szFaceSS.f
    have := h.1
    rw [wrap_id (by omega) (by omega), if_pos hl]
  · obtain ⟨r, hr, hr2⟩ := szFaceSS_ev t h (by omega)
    have h2 : Ev (fun k => laws_szFaceSS.f k t 1048576) r := by
      refine Ev.congr (fun k => ?_) hr
      unfold laws_szFaceSS.f
      rw [wrap_id (by omega) (by omega), if_neg hl]
    by_cases hn : r < 0
    · exact ⟨-1, Ev.bind h2 (ev_pos hn (Ev.now _)), fun h => by omega⟩
    · exact ⟨r, Ev.bind h2 (ev_neg hn (Ev.now _)), fun _ => ⟨by omega, hr2 (by omega)⟩⟩
/-- The copies of the law's values. -/
def cvF (x : SLawFace) : SFace := ⟨x.f0, x.f1⟩
def cvR (r : List SLawFace) : List SFace := r.map cvF
def cvT (t : List (List SLawFace)) : Tri := t.map cvR
theorem cvT_small {t : List (List SLawFace)} (h : SmallL t) : Small (cvT t) := by
  refine ⟨by simp [cvT]; exact h.1, fun r hr => ?_⟩
  obtain ⟨s, hs, rfl⟩ := List.mem_map.1 hr
  simp [cvR]; exact h.2 s hs
theorem map_take_set {α β : Type} (f : α → β) (l : List α) (z : β) (n : Nat) (h : n < l.length) :
    ((l.take n).map f ++ List.replicate (l.length - n) z).set n (f l[n]) = (l.take (n + 1)).map f ++ List.replicate (l.length - (n + 1)) z := by
  have e : l.length - n = (l.length - (n + 1)) + 1 := by omega
  rw [e, List.replicate_succ, List.set_append_right _ _ (by simp; omega)]
  have : n - ((l.take n).map f).length = 0 := by simp; omega
  rw [this, List.set_cons_zero, List.take_succ_eq_append_getElem h, List.map_append, List.append_assoc]
  rfl
theorem toFaceS_ev (l : List SLawFace) (h : l.length ≤ 1048576) : Ev (fun k => laws_toFaceS.f k l) (cvR l) := by
  have hl : Ev (fun k => laws_toFaceS.l0 k l (List.replicate l.length zFace) 0) (cvR l) := by
    refine ev_loop0 (fun k (s : List SFace × Int) => laws_toFaceS.l0 k l s.1 s.2) (fun s => ∃ n : Nat, n ≤ l.length ∧ s.2 = n ∧ s.1 = (l.take n).map cvF ++ List.replicate (l.length - n) zFace) (fun s => l.length - s.2.toNat) (fun _ => cvR l) ?_ (List.replicate l.length zFace, 0) ⟨0, by omega, rfl, by simp⟩
    rintro ⟨a, i⟩ ⟨n, hn, rfl, rfl⟩
    dsimp only
    by_cases hlt : n < l.length
    · refine .inr ⟨((l.take (n + 1)).map cvF ++ List.replicate (l.length - (n + 1)) zFace, ((n + 1 : Nat) : Int)), ⟨n + 1, by omega, rfl, rfl⟩, by simp; omega, rfl, fun k => ?_⟩
      simp only [laws_toFaceS.l0, laws_toFace.f, Option.bind_some]
      rw [if_pos (by omega), if_pos (by omega), if_pos (by simp; omega), wrap_succ (by omega), Int.toNat_natCast, rd_LawFace_lt l n hlt]
      have := map_take_set cvF l zFace n hlt
      rw [← this]
      rfl
    · obtain rfl : n = l.length := by omega
      refine .inl fun k => ?_
      simp only [laws_toFaceS.l0]
      rw [if_neg (by omega)]
      simp [cvR]
  refine Ev.congr (fun k => ?_) hl
  unfold laws_toFaceS.f
  rw [if_pos (by omega), if_pos (by simp; omega), Int.toNat_natCast]
theorem toFaceSS_ev (l : List (List SLawFace)) (h : SmallL l) : Ev (fun k => laws_toFaceSS.f k l) (cvT l) := by
  have hl : Ev (fun k => laws_toFaceSS.l0 k l (List.replicate l.length []) 0) (cvT l) := by
    refine ev_loop (fun k (s : Tri × Int) => laws_toFaceSS.l0 k l s.1 s.2) (fun s => ∃ n : Nat, n ≤ l.length ∧ s.2 = n ∧ s.1 = (l.take n).map cvR ++ List.replicate (l.length - n) []) (fun s => l.length - s.2.toNat) (fun _ => cvT l) ?_ (List.replicate l.length [], 0) ⟨0, by omega, rfl, by simp⟩
    rintro ⟨a, i⟩ ⟨n, hn, rfl, rfl⟩
    dsimp only
    by_cases hlt : n < l.length
    · obtain ⟨K, hK⟩ := toFaceS_ev l[n] (h.2 _ (List.getElem_mem hlt))
      refine .inr ⟨((l.take (n + 1)).map cvR ++ List.replicate (l.length - (n + 1)) [], ((n + 1 : Nat) : Int)), K, ⟨n + 1, by omega, rfl, rfl⟩, by simp; omega, rfl, fun k hk => ?_⟩
      have e : laws_toFaceS.f k l[n] = some _ := hK k hk
      have h1 := h.1
      simp only [laws_toFaceSS.l0]
      rw [if_pos (by omega), if_pos (by omega), rd_LLawFace_lt l n hlt, e, Option.bind_some, if_pos (by simp; omega), wrap_succ (by omega), Int.toNat_natCast, map_take_set cvR l [] n hlt]
    · obtain rfl : n = l.length := by omega
      refine .inl ⟨0, fun k _ => ?_⟩
      simp only [laws_toFaceSS.l0]
      rw [if_neg (by omega)]
      simp [cvT]
  have h1 := h.1
  refine Ev.congr (fun k => ?_) hl
  unfold laws_toFaceSS.f
  rw [if_pos (by omega), if_pos (by simp; omega), Int.toNat_natCast]
theorem toTriangulation_ev (l : List (List SLawFace)) (h : SmallL l) : Ev (fun k => laws_toTriangulation.f k l) (cvT l) := Ev.bind (toFaceSS_ev l h) (Ev.now _)
theorem eqFaceS_ev (l : List SFace) (h : l.length ≤ 1048576) : Ev (fun k => laws_eqFaceS.f k l l) true := by
  have hl : Ev (fun k => laws_eqFaceS.l0 k l l 0) true := by
    refine ev_loop0 (fun k (s : Int) => laws_eqFaceS.l0 k l l s) (fun s => ∃ n : Nat, n ≤ l.length ∧ s = n) (fun s => l.length - s.toNat) (fun _ => true) ?_ 0 ⟨0, by omega, rfl⟩
    rintro i ⟨n, hn, rfl⟩
    by_cases hlt : n < l.length
    · refine .inr ⟨((n + 1 : Nat) : Int), ⟨n + 1, by omega, rfl⟩, by simp; omega, rfl, fun k => ?_⟩
      simp only [laws_eqFaceS.l0, laws_eqFace.f]
      rw [if_pos (by omega), if_pos (by omega), if_pos (by omega), if_pos trivial, if_pos trivial, Option.bind_some, if_pos rfl, wrap_succ (by omega)]
    · refine .inl fun k => ?_
      simp only [laws_eqFaceS.l0]
      rw [if_neg (by omega)]
  refine Ev.congr (fun k => ?_) hl
  unfold laws_eqFaceS.f
  rw [if_pos rfl]
theorem eqTriangulation_ev (l : Tri) (h : Small l) : Ev (fun k => laws_eqTriangulation.f k l l) true := by
  have hl : Ev (fun k => laws_eqFaceSS.l0 k l l 0) true := by
    refine ev_loop (fun k (s : Int) => laws_eqFaceSS.l0 k l l s) (fun s => ∃ n : Nat, n ≤ l.length ∧ s = n) (fun s => l.length - s.toNat) (fun _ => true) ?_ 0 ⟨0, by omega, rfl⟩
    rintro i ⟨n, hn, rfl⟩
    by_cases hlt : n < l.length
    · obtain ⟨K, hK⟩ := eqFaceS_ev l[n] (h.2 _ (List.getElem_mem hlt))
      refine .inr ⟨((n + 1 : Nat) : Int), K, ⟨n + 1, by omega, rfl⟩, by simp; omega, rfl, fun k hk => ?_⟩
      have e : laws_eqFaceS.f k l[n] l[n] = some _ := hK k hk
      have h1 := h.1
      simp only [laws_eqFaceSS.l0]
      rw [if_pos (by omega), if_pos (by omega), if_pos (by omega), rd_LFace_lt l n hlt, e, Option.bind_some, if_pos rfl, wrap_succ (by omega)]
    · refine .inl ⟨0, fun k _ => ?_⟩
      simp only [laws_eqFaceSS.l0]
      rw [if_neg (by omega)]
  have h2 : Ev (fun k => laws_eqFaceSS.f k l l) true := by
    refine Ev.congr (fun k => ?_) hl
    unfold laws_eqFaceSS.f
    rw [if_pos rfl]
  exact Ev.bind h2 (ev_pos rfl (Ev.now _))
end Go.Proofs.Ytfaagdpopmnnpaa.P

/- IsTriangulation of both sides comes to one plain test. -/
namespace Go.Proofs.Ytfaagdpopmnnpaa.P
open Go.RowKit Go.Proofs.YtfaagdpopmnnpaaW.PrintWords Go.Proofs.Ytfaagdpopmnnpaa.Lib
set_option linter.unusedVariables false
/-- The face f of the tetrahedron a. -/
abbrev fc (t : Tri) (a f : Int) : SFace := rd_Face (rd_LFace t a) f
/-- Is a face as in a valid triangulation? -/
def goodF (t : Tri) (a f : Int) : Bool :=
  if (fc t a f).f0 = -1 then (fc t a f).f1 == 0
  else if 0 ≤ (fc t a f).f0 ∧ (fc t a f).f0 < (t.length : Int) ∧ 0 ≤ (fc t a f).f1 ∧ (fc t a f).f1 ≤ 23 then
    ((fc t (fc t a f).f0 (rd (permL (fc t a f).f1) f)).f0 == a && (fc t (fc t a f).f0 (rd (permL (fc t a f).f1) f)).f1 == invP (fc t a f).f1) && !((fc t a f).f0 == a && rd (permL (fc t a f).f1) f == f)
  else false
/-- d faces of a from f on are good. -/
def goodFs (t : Tri) (a : Int) : Int → Nat → Bool
  | _, 0 => true
  | f, d + 1 => goodF t a f && goodFs t a (f + 1) d
/-- d tetrahedra from a on are good. -/
def goodTs (t : Tri) : Int → Nat → Bool
  | _, 0 => true
  | a, d + 1 => goodFs t a 0 4 && goodTs t (a + 1) d
/-- A valid triangulation. -/
def isTri (t : Tri) : Bool := decide (t.length ≤ 8) && (t.all (fun r => decide (r.length = 4)) && goodTs t 0 t.length)
section
variable {t : Tri}
theorem row4 (h4 : ∀ r ∈ t, r.length = 4) {a : Int} (h0 : 0 ≤ a) (h1 : a < t.length) : (rd_LFace t a).length = 4 := by
  obtain ⟨n, rfl⟩ := Int.eq_ofNat_of_zero_le h0
  rw [rd_LFace_lt t n (by omega)]
  exact h4 _ (List.getElem_mem _)
theorem impl_isGood_ev (h4 : ∀ r ∈ t, r.length = 4) (hn : t.length ≤ 8) {a f : Int} (h0 : 0 ≤ a) (h1 : a < t.length) (hf0 : 0 ≤ f) (hf1 : f ≤ 3) : Ev (fun k => impl_Triangulation_isGood.f k t a f) (goodF t a f) := by
  have hr := row4 h4 h0 h1
  refine Ev.congr (fun k => by unfold impl_Triangulation_isGood.f; rw [if_pos h0, if_pos h1, if_pos hf0, if_pos (by omega)]) ?_
  change Ev (fun k => if (fc t a f).f0 = -1 then some ((fc t a f).f1 == 0) else _) (goodF t a f)
  unfold goodF
  by_cases hb : (fc t a f).f0 = -1
  · rw [if_pos hb]; exact ev_pos hb (Ev.now _)
  · refine ev_neg hb ?_
    rw [if_neg hb]
    have hix : impl_hasIndex_Simpl_Face.f t (fc t a f).f0 = some (decide (0 ≤ (fc t a f).f0) && decide ((fc t a f).f0 ≤ (t.length : Int) - 1)) := by
      unfold impl_hasIndex_Simpl_Face.f impl_size_Simpl_Face.f
      rw [Option.bind_some, wrap_id (by omega) (by omega), inRange_eq]; rfl
    have hfalse : Ev (fun k => impl_Triangulation_isGood.j0 k a f true t (fc t a f).f0 (fc t a f).f1) false := ev_step (fun k => by rw [impl_Triangulation_isGood.j0, if_pos rfl]) (Ev.now false)
    refine Ev.bind (ev_const hix) ?_
    by_cases hi : 0 ≤ (fc t a f).f0 ∧ (fc t a f).f0 < (t.length : Int)
    · refine ev_pos (by simp; omega) ?_
      refine Ev.bind (ev_const (isPerm_eq _)) ?_
      by_cases hp : 0 ≤ (fc t a f).f1 ∧ (fc t a f).f1 ≤ 23
      · rw [if_pos ⟨hi.1, hi.2, hp.1, hp.2⟩]
        have e : (!(decide (0 ≤ (fc t a f).f1) && decide ((fc t a f).f1 ≤ 23))) = false := by simp [hp]
        rw [e]
        refine ev_step (fun k => by rw [impl_Triangulation_isGood.j0, if_neg (by simp), target_eq hp.1 hp.2 hf0 hf1, Option.bind_some]) ?_
        obtain ⟨hg0, hg1⟩ := permL_sm hp.1 hp.2 hf0 hf1
        have hr2 := row4 h4 hi.1 hi.2
        refine ev_pos hi.1 (ev_pos hi.2 (ev_pos hg0 (ev_pos (by rw [hr2]; omega) ?_)))
        refine Ev.bind (ev_const (partner_eq hp.1 hp.2)) ?_
        change Ev (fun k => if ((fc t (fc t a f).f0 (rd (permL (fc t a f).f1) f)).f0 == a && (fc t (fc t a f).f0 (rd (permL (fc t a f).f1) f)).f1 == invP (fc t a f).f1) = true then _ else _) _
        generalize ((fc t (fc t a f).f0 (rd (permL (fc t a f).f1) f)).f0 == a && (fc t (fc t a f).f0 (rd (permL (fc t a f).f1) f)).f1 == invP (fc t a f).f1) = b
        cases b with
        | false => refine ev_neg (by simp) ?_; rw [Bool.false_and]; exact Ev.now false
        | true =>
          refine ev_pos rfl ?_
          rw [Bool.true_and]
          by_cases ha : (fc t a f).f0 = a
          · refine ev_pos ha (ev_some ?_)
            rw [ha]; simp [bne]
          · refine ev_neg ha (ev_some ?_)
            simp [ha]
      · rw [if_neg (by omega)]
        have e : (!(decide (0 ≤ (fc t a f).f1) && decide ((fc t a f).f1 ≤ 23))) = true := by
          rw [Bool.not_eq_true', Bool.and_eq_false_iff, decide_eq_false_iff_not, decide_eq_false_iff_not]; omega
        rw [e]
        exact hfalse
    · rw [if_neg (by omega)]
      refine ev_neg ?_ hfalse
      rw [Bool.and_eq_true, decide_eq_true_eq, decide_eq_true_eq]; omega
theorem impl_l1_ev (h4 : ∀ r ∈ t, r.length = 4) (hn : t.length ≤ 8) {a : Int} (h0 : 0 ≤ a) (h1 : a < t.length) {R : Bool} (hR : Ev (fun k => impl_isTriangulation.l0 k (t.length : Int) (a + 1) t) R) :
    ∀ (d : Nat) (f : Int), 0 ≤ f → f + d = 4 → Ev (fun k => impl_isTriangulation.l1 k a (t.length : Int) a f t) (goodFs t a f d && R)
  | 0, f, hf, he => by
    refine ev_step (fun k => by rw [impl_isTriangulation.l1, if_neg (by omega), wrap_id (by omega) (by omega)]) ?_
    rw [goodFs, Bool.true_and]; exact hR
  | d + 1, f, hf, he => by
    refine ev_step (fun k => by rw [impl_isTriangulation.l1, if_pos (by omega)]) ?_
    refine Ev.bind (impl_isGood_ev h4 hn h0 h1 hf (by omega)) ?_
    rw [goodFs]
    cases hg : goodF t a f with
    | false => exact ev_neg (by simp) (by rw [Bool.false_and, Bool.false_and]; exact Ev.now false)
    | true =>
      refine ev_pos rfl ?_
      rw [Bool.true_and]
      exact Ev.congr (fun k => by rw [wrap_id (by omega) (by omega)]) (impl_l1_ev h4 hn h0 h1 hR d (f + 1) (by omega) (by omega))
theorem impl_l0_ev (h4 : ∀ r ∈ t, r.length = 4) (hn : t.length ≤ 8) : ∀ (d : Nat) (a : Int), 0 ≤ a → a + d = t.length → Ev (fun k => impl_isTriangulation.l0 k (t.length : Int) a t) (goodTs t a d)
  | 0, a, ha, he => by
    refine ev_step (fun k => by rw [impl_isTriangulation.l0, if_neg (by omega)]) ?_
    exact Ev.now true
  | d + 1, a, ha, he => by
    refine ev_step (fun k => by rw [impl_isTriangulation.l0, if_pos (by omega)]) ?_
    rw [goodTs]
    exact impl_l1_ev h4 hn ha (by omega) (impl_l0_ev h4 hn d (a + 1) (by omega) (by omega)) 4 0 (by omega) (by omega)
theorem all4_iff : t.all (fun r => decide (r.length = 4)) = true ↔ ∀ r ∈ t, r.length = 4 := by simp
theorem contains4 (h : Small t) : slices_ContainsFunc_SSimpl_Face_at_impl_isTriangulation_1.f t = some (!(t.all fun r => decide (r.length = 4))) := by
  unfold slices_ContainsFunc_SSimpl_Face_at_impl_isTriangulation_1.f slices_IndexFunc_SSimpl_Face_at_impl_isTriangulation_1.f
  rw [contO (p := fun r => !(decide (r.length = 4))) t (fun r _ => by
    show impl_isTriangulation_1.f r = _
    unfold impl_isTriangulation_1.f
    congr 1
    by_cases h : r.length = 4
    · simp [h]
    · have : ¬ ((r.length : Int) = 4) := by omega
      simp [h, this]), List.not_all_eq_any_not]
theorem impl_isTri_ev (h : Small t) : Ev (fun k => impl_isTriangulation.f k t) (isTri t) := by
  have hfalse : Ev (fun k => impl_isTriangulation.j0 k true t) false := ev_step (fun k => by rw [impl_isTriangulation.j0, if_pos rfl]) (Ev.now false)
  unfold isTri
  by_cases h8 : t.length ≤ 8
  · refine Ev.congr (fun k => by unfold impl_isTriangulation.f; rw [if_neg (by omega), contains4 h, Option.bind_some]) ?_
    rw [decide_eq_true h8, Bool.true_and]
    cases hall : t.all (fun r => decide (r.length = 4)) with
    | false => rw [Bool.false_and]; exact hfalse
    | true =>
      rw [Bool.true_and]
      refine ev_step (fun k => by rw [impl_isTriangulation.j0, if_neg (by simp)]) ?_
      exact impl_l0_ev (all4_iff.1 hall) h8 t.length 0 (by omega) (by omega)
  · refine Ev.congr (fun k => by unfold impl_isTriangulation.f; rw [if_pos (by omega)]) ?_
    rw [decide_eq_false h8, Bool.false_and]; exact hfalse
theorem spec_l2_ev (h4 : ∀ r ∈ t, r.length = 4) (hn : t.length ≤ 8) {a : Int} (h0 : 0 ≤ a) (h1 : a < t.length) {R : Bool} (hR : Ev (fun k => spec_IsTriangulation.l1 k (a + 1) t) R) :
    ∀ (d : Nat) (f : Int), 0 ≤ f → f + d = 4 → Ev (fun k => spec_IsTriangulation.l2 k a f t) (goodFs t a f d && R)
  | 0, f, hf, he => by
    refine ev_step (fun k => by rw [spec_IsTriangulation.l2, if_neg (by omega), wrap_id (by omega) (by omega)]) ?_
    rw [goodFs, Bool.true_and]; exact hR
  | d + 1, f, hf, he => by
    have hr := row4 h4 h0 h1
    have ih : Ev (fun k => spec_IsTriangulation.l2 k a (wrap64 (f + 1)) t) (goodFs t a (f + 1) d && R) := Ev.congr (fun k => by rw [wrap_id (by omega) (by omega)]) (spec_l2_ev h4 hn h0 h1 hR d (f + 1) (by omega) (by omega))
    refine ev_step (fun k => by rw [spec_IsTriangulation.l2, if_pos (by omega), if_pos h0, if_pos h1, if_pos hf, if_pos (by omega)]) ?_
    change Ev (fun k => if (fc t a f).f0 = -1 then spec_IsTriangulation.j3 k a f ((fc t a f).f1 == 0) t (fc t a f).f0 (fc t a f).f1 else spec_IsTriangulation.j3 k a f false t (fc t a f).f0 (fc t a f).f1) _
    rw [goodFs]
    have hstop : ∀ b, Ev (fun k => spec_IsTriangulation.j4 k a f true t (fc t a f).f0 (fc t a f).f1) (false && b) := fun b => by
      rw [Bool.false_and]; exact ev_step (fun k => by rw [spec_IsTriangulation.j4, if_pos rfl]) (Ev.now false)
    have hgo : Ev (fun k => spec_IsTriangulation.j3 k a f true t (fc t a f).f0 (fc t a f).f1) (goodFs t a (f + 1) d && R) := ev_step (fun k => by rw [spec_IsTriangulation.j3, if_pos rfl]) ih
    have hrest : (¬ ((fc t a f).f0 = -1 ∧ (fc t a f).f1 = 0)) → Ev (fun k => spec_IsTriangulation.j3 k a f false t (fc t a f).f0 (fc t a f).f1) (goodF t a f && goodFs t a (f + 1) d && R) := by
      intro hnb
      refine ev_step (fun k => by rw [spec_IsTriangulation.j3, spec_l07Tets.f, if_neg (by simp), Option.bind_some, l07In_eq, Option.bind_some, wrap_id (by omega) (by omega)]) ?_
      unfold goodF
      by_cases hi : 0 ≤ (fc t a f).f0 ∧ (fc t a f).f0 < (t.length : Int)
      · refine ev_pos (by simp; omega) ?_
        refine Ev.bind (ev_const (l06Valid_eq _)) ?_
        rw [if_neg (by omega)]
        by_cases hp : 0 ≤ (fc t a f).f1 ∧ (fc t a f).f1 ≤ 23
        · rw [if_pos ⟨hi.1, hi.2, hp.1, hp.2⟩]
          have e : (!(decide (0 ≤ (fc t a f).f1) && decide ((fc t a f).f1 ≤ 23))) = false := by simp [hp]
          rw [e]
          obtain ⟨hg0, hg1⟩ := permL_sm hp.1 hp.2 hf (by omega)
          have hr2 := row4 h4 hi.1 hi.2
          refine ev_step (fun k => by rw [spec_IsTriangulation.j4, if_neg (by simp)]) ?_
          refine Ev.bind (l06At_ev hp.1 hp.2 hf (by omega)) ?_
          refine Ev.bind (l06Back_ev hp.1 hp.2) ?_
          refine ev_pos hi.1 (ev_pos hi.2 (ev_pos hg0 (ev_pos (by rw [hr2]; omega) ?_)))
          change Ev (fun k => if (!((fc t (fc t a f).f0 (rd (permL (fc t a f).f1) f)).f0 == a) || !((fc t (fc t a f).f0 (rd (permL (fc t a f).f1) f)).f1 == invP (fc t a f).f1)) = true then _ else _) _
          generalize ((fc t (fc t a f).f0 (rd (permL (fc t a f).f1) f)).f0 == a) = b1
          generalize ((fc t (fc t a f).f0 (rd (permL (fc t a f).f1) f)).f1 == invP (fc t a f).f1) = b2
          cases b1 with
          | false => exact ev_pos rfl (by rw [Bool.false_and, Bool.false_and, Bool.false_and, Bool.false_and]; exact Ev.now false)
          | true =>
            cases b2 with
            | false => exact ev_pos rfl (by rw [Bool.true_and, Bool.false_and, Bool.false_and, Bool.false_and]; exact Ev.now false)
            | true =>
              refine ev_neg (by simp) ?_
              rw [Bool.true_and, Bool.true_and]
              by_cases ha : (fc t a f).f0 = a
              · refine ev_pos ha ?_
                by_cases hg : rd (permL (fc t a f).f1) f = f
                · refine ev_pos hg ?_
                  rw [ha, hg]
                  simp
                  exact Ev.now false
                · refine ev_neg hg ?_
                  have : (rd (permL (fc t a f).f1) f == f) = false := by simp [hg]
                  rw [this, Bool.and_false, Bool.not_false, Bool.true_and]
                  exact ih
              · refine ev_neg ha ?_
                have : ((fc t a f).f0 == a) = false := by simp [ha]
                rw [this, Bool.false_and, Bool.not_false, Bool.true_and]
                exact ih
        · rw [if_neg (by omega)]
          have e : (!(decide (0 ≤ (fc t a f).f1) && decide ((fc t a f).f1 ≤ 23))) = true := by
            rw [Bool.not_eq_true', Bool.and_eq_false_iff, decide_eq_false_iff_not, decide_eq_false_iff_not]; omega
          rw [e, Bool.false_and]
          exact hstop R
      · have hg : (if (fc t a f).f0 = -1 then ((fc t a f).f1 == 0) else if 0 ≤ (fc t a f).f0 ∧ (fc t a f).f0 < (t.length : Int) ∧ 0 ≤ (fc t a f).f1 ∧ (fc t a f).f1 ≤ 23 then
            ((fc t (fc t a f).f0 (rd (permL (fc t a f).f1) f)).f0 == a && (fc t (fc t a f).f0 (rd (permL (fc t a f).f1) f)).f1 == invP (fc t a f).f1) && !((fc t a f).f0 == a && rd (permL (fc t a f).f1) f == f) else false) = false := by
          by_cases hb : (fc t a f).f0 = -1
          · rw [if_pos hb]; simp; intro h; exact hnb ⟨hb, h⟩
          · rw [if_neg hb, if_neg (by omega)]
        rw [hg, Bool.false_and]
        refine ev_neg ?_ (hstop R)
        rw [Bool.and_eq_true, decide_eq_true_eq, decide_eq_true_eq]; omega
    by_cases hb : (fc t a f).f0 = -1
    · refine ev_pos hb ?_
      by_cases h0' : (fc t a f).f1 = 0
      · have e : goodF t a f = true := by unfold goodF; rw [if_pos hb]; simp [h0']
        rw [e, Bool.true_and]
        have e2 : ((fc t a f).f1 == 0) = true := by simp [h0']
        rw [e2]; exact hgo
      · have e2 : ((fc t a f).f1 == 0) = false := by simp [h0']
        rw [e2]; exact hrest (fun h => h0' h.2)
    · exact ev_neg hb (hrest (fun h => hb h.1))
theorem spec_l1_ev (h4 : ∀ r ∈ t, r.length = 4) (hn : t.length ≤ 8) : ∀ (d : Nat) (a : Int), 0 ≤ a → a + d = t.length → Ev (fun k => spec_IsTriangulation.l1 k a t) (goodTs t a d)
  | 0, a, ha, he => by
    refine ev_step (fun k => by rw [spec_IsTriangulation.l1, spec_l07Tets.f, Option.bind_some, if_neg (by omega)]) ?_
    exact Ev.now true
  | d + 1, a, ha, he => by
    refine ev_step (fun k => by rw [spec_IsTriangulation.l1, spec_l07Tets.f, Option.bind_some, if_pos (by omega)]) ?_
    rw [goodTs]
    exact spec_l2_ev h4 hn ha (by omega) (spec_l1_ev h4 hn d (a + 1) (by omega) (by omega)) 4 0 (by omega) (by omega)
theorem spec_l0_ev (h8 : t.length ≤ 8) (d : Nat) : ∀ n : Nat, n + d = t.length → (t.all (fun r => decide (r.length = 4)) = (t.drop n).all (fun r => decide (r.length = 4))) → Ev (fun k => spec_IsTriangulation.l0 k (n : Int) t) (t.all (fun r => decide (r.length = 4)) && goodTs t 0 t.length) := by
  induction d with
  | zero =>
    intro n hn ha
    refine ev_step (fun k => by rw [spec_IsTriangulation.l0, if_neg (by omega)]) ?_
    have hall : t.all (fun r => decide (r.length = 4)) = true := by rw [ha, List.drop_eq_nil_of_le (by omega)]; rfl
    rw [hall, Bool.true_and]
    exact spec_l1_ev (all4_iff.1 hall) h8 t.length 0 (by omega) (by omega)
  | succ d ih =>
    intro n hn ha
    have hlt : n < t.length := by omega
    refine ev_step (fun k => by rw [spec_IsTriangulation.l0, if_pos (by omega), if_pos (by omega), rd_LFace_lt t n hlt]) ?_
    rw [List.drop_eq_getElem_cons hlt, List.all_cons] at ha
    by_cases h : t[n].length = 4
    · refine ev_pos (by omega) ?_
      refine Ev.congr (fun k => by rw [wrap_succ (by omega)]) (ih (n + 1) (by omega) ?_)
      rw [ha, decide_eq_true h, Bool.true_and]
    · refine ev_neg (by omega) ?_
      rw [ha, decide_eq_false h, Bool.false_and, Bool.false_and]
      exact Ev.now false
theorem spec_isTri_ev (t : Tri) : Ev (fun k => spec_IsTriangulation.f k t) (isTri t) := by
  refine Ev.congr (fun k => by unfold spec_IsTriangulation.f spec_l07Tets.f; rw [Option.bind_some]) ?_
  unfold isTri
  by_cases h8 : t.length ≤ 8
  · refine ev_neg (by omega) ?_
    rw [decide_eq_true h8, Bool.true_and]
    exact spec_l0_ev h8 t.length 0 (by omega) (by rw [List.drop_zero])
  · refine ev_pos (by omega) ?_
    rw [decide_eq_false h8, Bool.false_and]
    exact Ev.now false
end
end Go.Proofs.Ytfaagdpopmnnpaa.P

-- Printed by a program of this session (drv.py), by means of the kit's print.py.
namespace Go.Proofs.Ytfaagdpopmnnpaa.P
open Go.RowKit Go.Proofs.YtfaagdpopmnnpaaW.PrintWords Go.Proofs.YtfaagdpopmnnpaaW.PrintLast Go.Proofs.YtfaagdpopmnnpaaW.PrintMore
attribute [local go_sem] max2_int min2_int max_two min_two max_three min_three max_four min_four   -- for this text's walks alone
set_option linter.unusedVariables false
set_option linter.unusedSimpArgs false
/-! ### spec_l07Boundary: function 137 -/
mutual
def spec_l07Boundary.l0 : Nat → List (List Int) → Int → List (List (SFace)) → Option ((List (List Int)))
  | 0, _, _, _ => none
  | k + 1, x3, x4, x102000 => if x4 < (x102000.length : Int) then (spec_l07Boundary.l1 k x3 x4 0 x102000) else (some x3)
def spec_l07Boundary.l1 : Nat → List (List Int) → Int → Int → List (List (SFace)) → Option ((List (List Int)))
  | 0, _, _, _, _ => none
  | k + 1, x3, x4, x5, x102000 => if x5 < 4 then (if 0 ≤ x4 then (if x4 < (x102000.length : Int) then (if 0 ≤ x5 then (if x5 < ((rd_LFace x102000 x4).length : Int) then (if ((rd_Face (rd_LFace x102000 x4) x5).f0) < 0 then (if x3.length < 5864062014805 then (spec_l07Boundary.l1 k (x3 ++ [(([x4, x5] : List Int))]) x4 (wrap64 (x5 + 1)) x102000) else (none)) else (spec_l07Boundary.l1 k x3 x4 (wrap64 (x5 + 1)) x102000)) else (none)) else (none)) else (none)) else (none)) else (spec_l07Boundary.l0 k x3 (wrap64 (x4 + 1)) x102000)
end
theorem spec_l07Boundary.mono_l : ∀ k, (∀ y0 y1 y2, LeO (spec_l07Boundary.l0 k y0 y1 y2) (spec_l07Boundary.l0 (k + 1) y0 y1 y2)) ∧ (∀ y0 y1 y2 y3, LeO (spec_l07Boundary.l1 k y0 y1 y2 y3) (spec_l07Boundary.l1 (k + 1) y0 y1 y2 y3))
  | 0 => ⟨fun _ _ _ r h => by simp [spec_l07Boundary.l0] at h, fun _ _ _ _ r h => by simp [spec_l07Boundary.l1] at h⟩
  | k + 1 => by
    obtain ⟨ih0, ih1⟩ := spec_l07Boundary.mono_l k
    refine ⟨?_, ?_⟩
    · intro y0 y1 y2
      unfold spec_l07Boundary.l0
      repeat' first
      | (with_reducible exact ih0 _ _ _)
      | (with_reducible exact ih1 _ _ _ _)
      | (with_reducible exact LeO.refl _)
      | (with_reducible exact LeO.none _)
      | (with_reducible refine LeO.ite ?_ ?_)
      | (with_reducible refine LeO.bind ?_ (fun _ => ?_))
      | exact ih0 _ _ _
      | exact ih1 _ _ _ _
      | exact LeO.none _
      | refine LeO.ite ?_ ?_
      | refine LeO.bind ?_ (fun _ => ?_)
    · intro y0 y1 y2 y3
      unfold spec_l07Boundary.l1
      repeat' first
      | (with_reducible exact ih0 _ _ _)
      | (with_reducible exact ih1 _ _ _ _)
      | (with_reducible exact LeO.refl _)
      | (with_reducible exact LeO.none _)
      | (with_reducible refine LeO.ite ?_ ?_)
      | (with_reducible refine LeO.bind ?_ (fun _ => ?_))
      | exact ih0 _ _ _
      | exact ih1 _ _ _ _
      | exact LeO.none _
      | refine LeO.ite ?_ ?_
      | refine LeO.bind ?_ (fun _ => ?_)
end Go.Proofs.Ytfaagdpopmnnpaa.P

-- Printed by a program of this session (drv.py), by means of the kit's print.py.
namespace Go.Proofs.Ytfaagdpopmnnpaa.P
open Go.RowKit Go.Proofs.YtfaagdpopmnnpaaW.PrintWords Go.Proofs.YtfaagdpopmnnpaaW.PrintLast Go.Proofs.YtfaagdpopmnnpaaW.PrintMore
attribute [local go_sem] max2_int min2_int max_two min_two max_three min_three max_four min_four   -- for this text's walks alone
set_option linter.unusedVariables false
set_option linter.unusedSimpArgs false
/-! ### impl_Triangulation_boundaryFaces: function 138 -/
mutual
def impl_Triangulation_boundaryFaces.l0 : Nat → List (List Int) → List (List (SFace)) → Int → Int → Option ((List (List Int)))
  | 0, _, _, _, _ => none
  | k + 1, x3, x9, x10, x11 => if x11 < x10 then (if 0 ≤ x11 then (if x11 < (x9.length : Int) then (impl_Triangulation_boundaryFaces.l1 k x3 x11 x9 x10 x11 (rd_LFace x9 x11) ((rd_LFace x9 x11).length : Int) 0) else (none)) else (none)) else (some x3)
def impl_Triangulation_boundaryFaces.l1 : Nat → List (List Int) → Int → List (List (SFace)) → Int → Int → List (SFace) → Int → Int → Option ((List (List Int)))
  | 0, _, _, _, _, _, _, _, _ => none
  | k + 1, x3, x4, x9, x10, x11, x16, x17, x18 => if x18 < x17 then (if 0 ≤ x18 then (if x18 < (x16.length : Int) then ((impl_Face_isBoundary.f ((rd_Face x16 x18).f0) ((rd_Face x16 x18).f1)).bind fun t105 => (if t105 = true then (if x3.length < 5864062014805 then (impl_Triangulation_boundaryFaces.l1 k (x3 ++ [(([x4, x18] : List Int))]) x4 x9 x10 x11 x16 x17 (wrap64 (x18 + 1))) else (none)) else (impl_Triangulation_boundaryFaces.l1 k x3 x4 x9 x10 x11 x16 x17 (wrap64 (x18 + 1))))) else (none)) else (none)) else (impl_Triangulation_boundaryFaces.l0 k x3 x9 x10 (wrap64 (x11 + 1)))
end
theorem impl_Triangulation_boundaryFaces.mono_l : ∀ k, (∀ y0 y1 y2 y3, LeO (impl_Triangulation_boundaryFaces.l0 k y0 y1 y2 y3) (impl_Triangulation_boundaryFaces.l0 (k + 1) y0 y1 y2 y3)) ∧ (∀ y0 y1 y2 y3 y4 y5 y6 y7, LeO (impl_Triangulation_boundaryFaces.l1 k y0 y1 y2 y3 y4 y5 y6 y7) (impl_Triangulation_boundaryFaces.l1 (k + 1) y0 y1 y2 y3 y4 y5 y6 y7))
  | 0 => ⟨fun _ _ _ _ r h => by simp [impl_Triangulation_boundaryFaces.l0] at h, fun _ _ _ _ _ _ _ _ r h => by simp [impl_Triangulation_boundaryFaces.l1] at h⟩
  | k + 1 => by
    obtain ⟨ih0, ih1⟩ := impl_Triangulation_boundaryFaces.mono_l k
    refine ⟨?_, ?_⟩
    · intro y0 y1 y2 y3
      unfold impl_Triangulation_boundaryFaces.l0
      repeat' first
      | (with_reducible exact ih0 _ _ _ _)
      | (with_reducible exact ih1 _ _ _ _ _ _ _ _)
      | (with_reducible exact LeO.refl _)
      | (with_reducible exact LeO.none _)
      | (with_reducible refine LeO.ite ?_ ?_)
      | (with_reducible refine LeO.bind ?_ (fun _ => ?_))
      | exact ih0 _ _ _ _
      | exact ih1 _ _ _ _ _ _ _ _
      | exact LeO.none _
      | refine LeO.ite ?_ ?_
      | refine LeO.bind ?_ (fun _ => ?_)
    · intro y0 y1 y2 y3 y4 y5 y6 y7
      unfold impl_Triangulation_boundaryFaces.l1
      repeat' first
      | (with_reducible exact ih0 _ _ _ _)
      | (with_reducible exact ih1 _ _ _ _ _ _ _ _)
      | (with_reducible exact LeO.refl _)
      | (with_reducible exact LeO.none _)
      | (with_reducible refine LeO.ite ?_ ?_)
      | (with_reducible refine LeO.bind ?_ (fun _ => ?_))
      | exact ih0 _ _ _ _
      | exact ih1 _ _ _ _ _ _ _ _
      | exact LeO.none _
      | refine LeO.ite ?_ ?_
      | refine LeO.bind ?_ (fun _ => ?_)
end Go.Proofs.Ytfaagdpopmnnpaa.P

/- Boundary faces and IsClosed of both sides. -/
namespace Go.Proofs.Ytfaagdpopmnnpaa.P
open Go.RowKit Go.Proofs.YtfaagdpopmnnpaaW.PrintWords Go.Proofs.Ytfaagdpopmnnpaa.Lib
set_option linter.unusedVariables false
theorem isTri_good {t : Tri} (h : isTri t = true) : t.length ≤ 8 ∧ (∀ r ∈ t, r.length = 4) ∧ goodTs t 0 t.length = true := by
  unfold isTri at h
  rw [Bool.and_eq_true, Bool.and_eq_true, decide_eq_true_eq] at h
  exact ⟨h.1, all4_iff.1 h.2.1, h.2.2⟩
section
variable {t : Tri}
end
end Go.Proofs.Ytfaagdpopmnnpaa.P

/- What holds of each face of a valid triangulation; copies of a triangulation. -/
namespace Go.Proofs.Ytfaagdpopmnnpaa.P
open Go.RowKit Go.Proofs.YtfaagdpopmnnpaaW.PrintWords Go.Proofs.Ytfaagdpopmnnpaa.Lib
set_option linter.unusedVariables false
theorem goodFs_at (t : Tri) (a : Int) (d : Nat) : ∀ f, goodFs t a f d = true → ∀ g, f ≤ g → g < f + d → goodF t a g = true := by
  induction d with
  | zero => intro f _ g h1 h2; omega
  | succ d ih =>
    intro f h g h1 h2
    rw [goodFs, Bool.and_eq_true] at h
    by_cases e : g = f
    · rw [e]; exact h.1
    · exact ih (f + 1) h.2 g (by omega) (by omega)
theorem goodTs_at (t : Tri) (d : Nat) : ∀ a, goodTs t a d = true → ∀ b, a ≤ b → b < a + d → ∀ g, 0 ≤ g → g ≤ 3 → goodF t b g = true := by
  induction d with
  | zero => intro a _ b h1 h2; omega
  | succ d ih =>
    intro a h b h1 h2 g hg0 hg1
    rw [goodTs, Bool.and_eq_true] at h
    by_cases e : b = a
    · rw [e]; exact goodFs_at t a 4 0 h.1 g hg0 (by omega)
    · exact ih (a + 1) h.2 b (by omega) (by omega) g hg0 hg1
/-- A face of a valid triangulation: the boundary, or glued to a face that is glued back. -/
theorem face_good {t : Tri} (h : isTri t = true) {a f : Int} (h0 : 0 ≤ a) (h1 : a < t.length) (hf0 : 0 ≤ f) (hf1 : f ≤ 3) :
    ((fc t a f).f0 = -1 ∧ (fc t a f).f1 = 0) ∨
    ((0 ≤ (fc t a f).f0 ∧ (fc t a f).f0 < (t.length : Int) ∧ 0 ≤ (fc t a f).f1 ∧ (fc t a f).f1 ≤ 23) ∧
      (fc t (fc t a f).f0 (rd (permL (fc t a f).f1) f)).f0 = a ∧ (fc t (fc t a f).f0 (rd (permL (fc t a f).f1) f)).f1 = invP (fc t a f).f1 ∧ ¬ ((fc t a f).f0 = a ∧ rd (permL (fc t a f).f1) f = f)) := by
  have hg := goodTs_at t t.length 0 (isTri_good h).2.2 a h0 (by omega) f hf0 hf1
  unfold goodF at hg
  by_cases hb : (fc t a f).f0 = -1
  · rw [if_pos hb] at hg
    exact .inl ⟨hb, by simpa using hg⟩
  · rw [if_neg hb] at hg
    by_cases hi : 0 ≤ (fc t a f).f0 ∧ (fc t a f).f0 < (t.length : Int) ∧ 0 ≤ (fc t a f).f1 ∧ (fc t a f).f1 ≤ 23
    · rw [if_pos hi, Bool.and_eq_true, Bool.and_eq_true, Bool.not_eq_true'] at hg
      refine .inr ⟨hi, eq_of_beq hg.1.1, eq_of_beq hg.1.2, fun hc => ?_⟩
      have := hg.2
      rw [Bool.and_eq_false_iff] at this
      rcases this with h2 | h2
      · exact absurd hc.1 (by simpa using h2)
      · exact absurd hc.2 (by simpa using h2)
    · rw [if_neg hi] at hg; cases hg
theorem rowlen {t : Tri} (h : isTri t = true) {a : Int} (h0 : 0 ≤ a) (h1 : a < t.length) : (rd_LFace t a).length = 4 := row4 (isTri_good h).2.1 h0 h1
end Go.Proofs.Ytfaagdpopmnnpaa.P

-- Printed by a program of this session (drv.py), by means of the kit's print.py.
namespace Go.Proofs.Ytfaagdpopmnnpaa.P
open Go.RowKit Go.Proofs.YtfaagdpopmnnpaaW.PrintWords Go.Proofs.YtfaagdpopmnnpaaW.PrintLast Go.Proofs.YtfaagdpopmnnpaaW.PrintMore
attribute [local go_sem] max2_int min2_int max_two min_two max_three min_three max_four min_four   -- for this text's walks alone
set_option linter.unusedVariables false
set_option linter.unusedSimpArgs false
/-! ### spec_l10Signs: function 64 -/
mutual
def spec_l10Signs.l0 : Nat → List Int → Int → List (List (SFace)) → Option (List Int × Bool)
  | 0, _, _, _ => none
  | k + 1, x4, x5, x102000 => (spec_l07Tets.f x102000).bind fun t105 => (if x5 < t105 then (if 0 ≤ x5 then (if x5 < (x4.length : Int) then (if (rd x4 x5) = 0 then (spec_l10Signs.l1 k (x4.set (x5 : Int).toNat 1) x5 (([x5] : List Int)) 0 x102000) else (spec_l10Signs.l0 k x4 (wrap64 (x5 + 1)) x102000)) else (none)) else (none)) else (some (x4, true)))
def spec_l10Signs.l1 : Nat → List Int → Int → List Int → Int → List (List (SFace)) → Option (List Int × Bool)
  | 0, _, _, _, _, _ => none
  | k + 1, x4, x5, x6, x7, x102000 => if x7 < (x6.length : Int) then (spec_l10Signs.l2 k x4 x5 x6 x7 0 x102000) else (spec_l10Signs.l0 k x4 (wrap64 (x5 + 1)) x102000)
def spec_l10Signs.l2 : Nat → List Int → Int → List Int → Int → Int → List (List (SFace)) → Option (List Int × Bool)
  | 0, _, _, _, _, _, _ => none
  | k + 1, x4, x5, x6, x7, x8, x102000 => if x8 < 4 then (if 0 ≤ x7 then (if x7 < (x6.length : Int) then (if 0 ≤ (rd x6 x7) then (if (rd x6 x7) < (x102000.length : Int) then (if 0 ≤ x8 then (if x8 < ((rd_LFace x102000 (rd x6 x7)).length : Int) then (if ((rd_Face (rd_LFace x102000 (rd x6 x7)) x8).f0) < 0 then (spec_l10Signs.l2 k x4 x5 x6 x7 (wrap64 (x8 + 1)) x102000) else (if (rd x6 x7) < (x4.length : Int) then ((spec_SignPerm4.f k ((rd_Face (rd_LFace x102000 (rd x6 x7)) x8).f1)).bind fun t117 => (if 0 ≤ ((rd_Face (rd_LFace x102000 (rd x6 x7)) x8).f0) then (if ((rd_Face (rd_LFace x102000 (rd x6 x7)) x8).f0) < (x4.length : Int) then (if (rd x4 ((rd_Face (rd_LFace x102000 (rd x6 x7)) x8).f0)) = 0 then ((some (x4.set (((rd_Face (rd_LFace x102000 (rd x6 x7)) x8).f0) : Int).toNat (wrap64 ((wrap64 (-(rd x4 (rd x6 x7)))) * t117)) : List Int)).bind fun y119 => (if x6.length < 17592186044416 then (if (rd y119 ((rd_Face (rd_LFace x102000 (rd x6 x7)) x8).f0)) = (wrap64 ((wrap64 (-(rd x4 (rd x6 x7)))) * t117)) then (spec_l10Signs.l2 k y119 x5 (x6 ++ [(rd_Face (rd_LFace x102000 (rd x6 x7)) x8).f0]) x7 (wrap64 (x8 + 1)) x102000) else (some (([] : List Int), false))) else (none))) else (if (rd x4 ((rd_Face (rd_LFace x102000 (rd x6 x7)) x8).f0)) = (wrap64 ((wrap64 (-(rd x4 (rd x6 x7)))) * t117)) then (spec_l10Signs.l2 k x4 x5 x6 x7 (wrap64 (x8 + 1)) x102000) else (some (([] : List Int), false)))) else (none)) else (none))) else (none))) else (none)) else (none)) else (none)) else (none)) else (none)) else (none)) else (spec_l10Signs.l1 k x4 x5 x6 (wrap64 (x7 + 1)) x102000)
end
def spec_l10Signs.f (k : Nat) (l0_0 : List (List (SFace))) : Option (List Int × Bool) := if 0 ≤ (l0_0.length : Int) then (if ((l0_0.length : Int) : Int).toNat ≤ 35184372088832 then (spec_l10Signs.l0 k (List.replicate ((l0_0.length : Int) : Int).toNat 0) 0 l0_0) else (none)) else (none)
theorem spec_l10Signs.mono_l : ∀ k, (∀ y0 y1 y2, LeO (spec_l10Signs.l0 k y0 y1 y2) (spec_l10Signs.l0 (k + 1) y0 y1 y2)) ∧ (∀ y0 y1 y2 y3 y4, LeO (spec_l10Signs.l1 k y0 y1 y2 y3 y4) (spec_l10Signs.l1 (k + 1) y0 y1 y2 y3 y4)) ∧ (∀ y0 y1 y2 y3 y4 y5, LeO (spec_l10Signs.l2 k y0 y1 y2 y3 y4 y5) (spec_l10Signs.l2 (k + 1) y0 y1 y2 y3 y4 y5))
  | 0 => ⟨fun _ _ _ r h => by simp [spec_l10Signs.l0] at h, fun _ _ _ _ _ r h => by simp [spec_l10Signs.l1] at h, fun _ _ _ _ _ _ r h => by simp [spec_l10Signs.l2] at h⟩
  | k + 1 => by
    obtain ⟨ih0, ih1, ih2⟩ := spec_l10Signs.mono_l k
    refine ⟨?_, ?_, ?_⟩
    · intro y0 y1 y2
      unfold spec_l10Signs.l0
      repeat' first
      | (with_reducible exact ih0 _ _ _)
      | (with_reducible exact ih1 _ _ _ _ _)
      | (with_reducible exact ih2 _ _ _ _ _ _)
      | (with_reducible exact spec_SignPerm4.mono _ _)
      | (with_reducible exact LeO.refl _)
      | (with_reducible exact LeO.none _)
      | (with_reducible refine LeO.ite ?_ ?_)
      | (with_reducible refine LeO.bind ?_ (fun _ => ?_))
      | exact ih0 _ _ _
      | exact ih1 _ _ _ _ _
      | exact ih2 _ _ _ _ _ _
      | exact spec_SignPerm4.mono _ _
      | exact LeO.none _
      | refine LeO.ite ?_ ?_
      | refine LeO.bind ?_ (fun _ => ?_)
    · intro y0 y1 y2 y3 y4
      unfold spec_l10Signs.l1
      repeat' first
      | (with_reducible exact ih0 _ _ _)
      | (with_reducible exact ih1 _ _ _ _ _)
      | (with_reducible exact ih2 _ _ _ _ _ _)
      | (with_reducible exact spec_SignPerm4.mono _ _)
      | (with_reducible exact LeO.refl _)
      | (with_reducible exact LeO.none _)
      | (with_reducible refine LeO.ite ?_ ?_)
      | (with_reducible refine LeO.bind ?_ (fun _ => ?_))
      | exact ih0 _ _ _
      | exact ih1 _ _ _ _ _
      | exact ih2 _ _ _ _ _ _
      | exact spec_SignPerm4.mono _ _
      | exact LeO.none _
      | refine LeO.ite ?_ ?_
      | refine LeO.bind ?_ (fun _ => ?_)
    · intro y0 y1 y2 y3 y4 y5
      unfold spec_l10Signs.l2
      repeat' first
      | (with_reducible exact ih0 _ _ _)
      | (with_reducible exact ih1 _ _ _ _ _)
      | (with_reducible exact ih2 _ _ _ _ _ _)
      | (with_reducible exact spec_SignPerm4.mono _ _)
      | (with_reducible exact LeO.refl _)
      | (with_reducible exact LeO.none _)
      | (with_reducible refine LeO.ite ?_ ?_)
      | (with_reducible refine LeO.bind ?_ (fun _ => ?_))
      | exact ih0 _ _ _
      | exact ih1 _ _ _ _ _
      | exact ih2 _ _ _ _ _ _
      | exact spec_SignPerm4.mono _ _
      | exact LeO.none _
      | refine LeO.ite ?_ ?_
      | refine LeO.bind ?_ (fun _ => ?_)
def spec_l10Signs.T16 : Bool × List (List Nat × List Nat) := (true, [([], []), ([], []), ([], []), ([1, 2], [1, 2]), ([3], [3]), ([0, 4], [0, 4]), ([5], [5]), ([6], [6]), ([], []), ([8], [8]), ([9], [9]), ([7, 10], [7, 10]), ([11, 10, 0, 1, 2, 3, 4, 5, 6, 7, 8, 9, 10, 11], [11])])
def spec_l10Signs.B16 : List Nat := [0, 0, 0, 6, 14, 31, 63, 127, 0, 256, 768, 2047, 4095]
theorem spec_l10Signs.tab16 : rtab .any (opsOf Try.f64 16) = spec_l10Signs.T16 := by kernel_rfl
theorem spec_l10Signs.bits16 : waitsOk spec_l10Signs.T16.2 spec_l10Signs.B16 = true := by kernel_rfl
end Go.Proofs.Ytfaagdpopmnnpaa.P

/- Orientations: the search of both sides comes to the same. -/
namespace Go.Proofs.Ytfaagdpopmnnpaa.P
open Go.RowKit Go.Proofs.YtfaagdpopmnnpaaW.PrintWords Go.Proofs.Ytfaagdpopmnnpaa.Lib
set_option linter.unusedVariables false
theorem sgnP_one {p : Int} (h0 : 0 ≤ p) (h1 : p ≤ 23) : sgnP p = 1 ∨ sgnP p = -1 := by
  obtain ⟨m, rfl⟩ := fin_of h0 h1
  have key : ∀ m : Fin 24, sgnP (m.val : Int) = 1 ∨ sgnP (m.val : Int) = -1 := by decide +kernel
  exact key m
theorem signPerm4_ev {p : Int} (h0 : 0 ≤ p) (h1 : p ≤ 23) : Ev (fun k => spec_SignPerm4.f k p) (sgnP p) := by
  obtain ⟨m, rfl⟩ := fin_of h0 h1
  have key : ∀ m : Fin 24, spec_SignPerm4.f 40 (m.val : Int) = some (sgnP (m.val : Int)) := by decide +kernel
  exact Ev.of (fun k => spec_SignPerm4.mono _ k) (key m)
/-- How many elements have no sign. -/
def zc : List Int → Nat
  | [] => 0
  | x :: xs => (if x = 0 then 1 else 0) + zc xs
theorem zc_le (l : List Int) : zc l ≤ l.length := by
  induction l with
  | nil => simp [zc]
  | cons x xs ih => simp only [zc, List.length_cons]; split <;> omega
theorem zc_set : ∀ (l : List Int) (n : Nat) (v : Int), n < l.length → l.getD n 0 = 0 → v ≠ 0 → zc (l.set n v) + 1 = zc l
  | [], n, v, h, _, _ => by simp at h
  | x :: xs, 0, v, _, hz, hv => by
    have hx : x = 0 := by simpa using hz
    simp [zc, hx, hv]; omega
  | x :: xs, n + 1, v, h, hz, hv => by
    have := zc_set xs n v (by simpa using h) (by simpa using hz) hv
    simp only [List.set_cons_succ, zc]; omega
abbrev pm (x : Int) : Prop := x = 1 ∨ x = -1
/-- Signs and a queue, in the course of a search over n elements. -/
structure Inv (n : Nat) (sg qu : List Int) : Prop where
  len : sg.length = n
  small : ∀ x : Int, 0 ≤ x → x < n → rd sg x = 0 ∨ pm (rd sg x)
  queue : ∀ x ∈ qu, 0 ≤ x ∧ x < n ∧ pm (rd sg x)
theorem rd_set {l : List Int} {a b v : Int} (ha0 : 0 ≤ a) (ha1 : a < l.length) (hb : 0 ≤ b) : rd (l.set a.toNat v) b = if b = a then v else rd l b := by
  unfold rd
  by_cases e : b = a
  · subst e
    rw [if_pos rfl]
    have : b.toNat < l.length := by omega
    simp [List.getD_eq_getElem?_getD, this]
  · rw [if_neg e]
    have : a.toNat ≠ b.toNat := by omega
    simp [List.getD_eq_getElem?_getD, List.getElem?_set_ne this]
theorem rd_mem {l : List Int} {i : Int} (h0 : 0 ≤ i) (h1 : i < l.length) : rd l i ∈ l := by
  obtain ⟨n, rfl⟩ := Int.eq_ofNat_of_zero_le h0
  rw [rd_lt l n (by omega)]
  exact List.getElem_mem _
theorem Inv.set {n : Nat} {sg qu : List Int} (h : Inv n sg qu) {k v : Int} (h0 : 0 ≤ k) (h1 : k < n) (hv : pm v) : Inv n (sg.set k.toNat v) (qu ++ [k]) := by
  have hl := h.len
  refine ⟨by rw [List.length_set]; exact hl, fun x hx0 hx1 => ?_, fun x hx => ?_⟩
  · rw [rd_set h0 (by omega) hx0]
    split
    · exact .inr hv
    · exact h.small x hx0 hx1
  · rcases List.mem_append.1 hx with hx | hx
    · obtain ⟨a, b, c⟩ := h.queue x hx
      refine ⟨a, b, ?_⟩
      rw [rd_set h0 (by omega) a]
      split
      · exact hv
      · exact c
    · rw [List.mem_singleton.1 hx]
      refine ⟨h0, h1, ?_⟩
      rw [rd_set h0 (by omega) h0, if_pos rfl]
      exact hv
theorem want_eq {s p : Int} (hs : pm s) (hp : pm p) : wrap64 (s * wrap64 (-p)) = wrap64 (wrap64 (-s) * p) ∧ pm (wrap64 (wrap64 (-s) * p)) := by
  rcases hs with rfl | rfl <;> rcases hp with rfl | rfl <;> decide +kernel
/-- One face: what impl comes to, and what the reference does. -/
theorem vis_step {n : Nat} {sg qu : List Int} (h : Inv n sg qu) (ok : Bool) {i k p : Int} (hi0 : 0 ≤ i) (hi1 : i < qu.length) (h0 : 0 ≤ k) (h1 : k < n) (hp : pm p) :
    ∃ (sg' qu' : List Int) (c : Bool), vis sg qu ok i k (wrap64 (-p)) = (sg', qu', ok && c) ∧ Inv n sg' qu' ∧ qu.length ≤ qu'.length ∧ rd qu' i = rd qu i ∧ zc sg' + qu'.length = zc sg + qu.length ∧
      (rd sg k = 0 → sg' = sg.set k.toNat (wrap64 (wrap64 (-(rd sg (rd qu i))) * p)) ∧ qu' = qu ++ [k] ∧ c = true) ∧
      (rd sg k ≠ 0 → sg' = sg ∧ qu' = qu ∧ (c = true ↔ rd sg k = wrap64 (wrap64 (-(rd sg (rd qu i))) * p))) := by
  obtain ⟨q0, q1, qs⟩ := h.queue _ (rd_mem hi0 hi1)
  obtain ⟨we, wp⟩ := want_eq qs hp
  unfold vis
  rw [we]
  generalize wrap64 (wrap64 (-(rd sg (rd qu i))) * p) = want at wp ⊢
  have hl := h.len
  by_cases hz : rd sg k = 0
  · rw [if_pos hz]
    refine ⟨sg.set k.toNat want, qu ++ [k], true, by simp, h.set h0 h1 wp, by simp, rd_app qu k i hi0 hi1, ?_, fun _ => ⟨rfl, rfl, rfl⟩, fun hn => absurd hz hn⟩
    have := zc_set sg k.toNat want (by omega) hz (by rcases wp with rfl | rfl <;> decide)
    simp; omega
  · rw [if_neg hz]
    have hs := (h.small k h0 h1).resolve_left hz
    by_cases hc : rd sg k = wrap64 (-want)
    · rw [if_pos hc]
      refine ⟨sg, qu, false, by simp, h, Nat.le_refl _, rfl, rfl, fun hn => absurd hn hz, fun _ => ⟨rfl, rfl, ?_⟩⟩
      constructor
      · intro hf; cases hf
      · intro he
        rw [he] at hc
        rcases wp with rfl | rfl <;> revert hc <;> decide +kernel
    · rw [if_neg hc]
      refine ⟨sg, qu, true, by simp, h, Nat.le_refl _, rfl, rfl, fun hn => absurd hn hz, fun _ => ⟨rfl, rfl, ?_⟩⟩
      refine ⟨fun _ => ?_, fun _ => rfl⟩
      rcases hs with e | e <;> rcases wp with rfl | rfl <;> rw [e] at hc ⊢ <;> first | rfl | (exact absurd rfl hc) | (revert hc; decide +kernel)
section
variable {t : Tri}
theorem row_face (h : isTri t = true) {a f : Int} (h0 : 0 ≤ a) (h1 : a < t.length) (hf0 : 0 ≤ f) (hf1 : f ≤ 3) (hb : ¬ (fc t a f).f0 < 0) : (0 ≤ (fc t a f).f0 ∧ (fc t a f).f0 < (t.length : Int)) ∧ (0 ≤ (fc t a f).f1 ∧ (fc t a f).f1 ≤ 23) := by
  rcases face_good h h0 h1 hf0 hf1 with ⟨e, _⟩ | ⟨e, _⟩
  · omega
  · exact ⟨⟨e.1, e.2.1⟩, e.2.2⟩
/-- The faces of one tetrahedron, from f on. -/
theorem row_sim (h : isTri t = true) (a i : Int) (hi0 : 0 ≤ i) : ∀ (d f : Nat) (sg qu : List Int) (ok : Bool), f + d = 4 → Inv t.length sg qu → i < qu.length → zc sg + qu.length ≤ 100 →
    ∃ (sg' qu' : List Int) (c : Bool), visAll i ((rd_LFace t (rd qu i)).drop f) (sg, qu, ok) = (sg', qu', ok && c) ∧ Inv t.length sg' qu' ∧ qu.length ≤ qu'.length ∧ rd qu' i = rd qu i ∧ zc sg' + qu'.length = zc sg + qu.length ∧
      (c = true → ∀ R, Ev (fun k => spec_l10Signs.l1 k sg' a qu' (wrap64 (i + 1)) t) R → Ev (fun k => spec_l10Signs.l2 k sg a qu i (f : Int) t) R) ∧ (c = false → Ev (fun k => spec_l10Signs.l2 k sg a qu i (f : Int) t) ([], false))
  | 0, f, sg, qu, ok, hf, hI, hi1, hM => by
    obtain rfl : f = 4 := by omega
    obtain ⟨q0, q1, qs⟩ := hI.queue _ (rd_mem hi0 hi1)
    have hr := rowlen h q0 q1
    refine ⟨sg, qu, true, by rw [List.drop_eq_nil_of_le (by omega)]; simp [visAll], hI, Nat.le_refl _, rfl, rfl, fun _ R hR => ?_, fun hc => by cases hc⟩
    exact ev_step (fun k => by rw [spec_l10Signs.l2, if_neg (by omega)]) hR
  | d + 1, f, sg, qu, ok, hf, hI, hi1, hM => by
    obtain ⟨q0, q1, qs⟩ := hI.queue _ (rd_mem hi0 hi1)
    have hr := rowlen h q0 q1
    have hl := hI.len
    have hlt : f < (rd_LFace t (rd qu i)).length := by omega
    have ex : (rd_LFace t (rd qu i))[f] = fc t (rd qu i) (f : Int) := (rd_Face_lt _ f hlt).symm
    rw [List.drop_eq_getElem_cons hlt, visAll, ex]
    have hstep : ∀ {R : List Int × Bool} {g : Nat → Option (List Int × Bool)}, (∀ k, spec_l10Signs.l2 (k + 1) sg a qu i (f : Int) t = g k) → Ev g R → Ev (fun k => spec_l10Signs.l2 k sg a qu i (f : Int) t) R := fun hg hR => ev_step hg hR
    have hw : wrap64 ((f : Int) + 1) = ((f + 1 : Nat) : Int) := wrap_succ (by omega)
    by_cases hb : (fc t (rd qu i) (f : Int)).f0 < 0
    · rw [if_pos hb]
      obtain ⟨sg', qu', c, e1, e2, e3, e4, e5, e6, e7⟩ := row_sim h a i hi0 d (f + 1) sg qu ok (by omega) hI hi1 hM
      have hs : ∀ k, spec_l10Signs.l2 (k + 1) sg a qu i (f : Int) t = spec_l10Signs.l2 k sg a qu i ((f + 1 : Nat) : Int) t := fun k => by
        rw [spec_l10Signs.l2, if_pos (by omega), if_pos hi0, if_pos (by omega), if_pos q0, if_pos q1, if_pos (by omega), if_pos (by omega), if_pos hb, hw]
      exact ⟨sg', qu', c, e1, e2, e3, e4, e5, fun hc R hR => hstep hs (e6 hc R hR), fun hc => hstep hs (e7 hc)⟩
    · rw [if_neg hb]
      obtain ⟨⟨g0, g1⟩, p0, p1⟩ := row_face h q0 q1 (by omega : (0 : Int) ≤ (f : Int)) (by omega) hb
      have hp := sgnP_one p0 p1
      obtain ⟨sg1, qu1, c1, v1, v2, v3, v4, v5, v6, v7⟩ := vis_step hI ok hi0 hi1 g0 g1 hp
      dsimp only
      rw [v1]
      have hqs := signPerm4_ev p0 p1
      obtain ⟨sg', qu', c, e1, e2, e3, e4, e5, e6, e7⟩ := row_sim h a i hi0 d (f + 1) sg1 qu1 (ok && c1) (by omega) v2 (by omega) (by omega)
      rw [v4] at e1
      -- what the reference does up to the test
      have hs : ∀ {R : List Int × Bool} {g : Nat → Option (List Int × Bool)}, (∀ k, (if rd sg (fc t (rd qu i) (f : Int)).f0 = 0 then ((some (sg.set ((fc t (rd qu i) (f : Int)).f0 : Int).toNat (wrap64 ((wrap64 (-(rd sg (rd qu i)))) * sgnP (fc t (rd qu i) (f : Int)).f1)) : List Int)).bind fun y119 => (if qu.length < 17592186044416 then (if (rd y119 ((fc t (rd qu i) (f : Int)).f0)) = (wrap64 ((wrap64 (-(rd sg (rd qu i)))) * sgnP (fc t (rd qu i) (f : Int)).f1)) then (spec_l10Signs.l2 k y119 a (qu ++ [(fc t (rd qu i) (f : Int)).f0]) i (wrap64 ((f : Int) + 1)) t) else (some (([] : List Int), false))) else (none))) else (if (rd sg ((fc t (rd qu i) (f : Int)).f0)) = (wrap64 ((wrap64 (-(rd sg (rd qu i)))) * sgnP (fc t (rd qu i) (f : Int)).f1)) then (spec_l10Signs.l2 k sg a qu i (wrap64 ((f : Int) + 1)) t) else (some (([] : List Int), false)))) = g k) → Ev g R → Ev (fun k => spec_l10Signs.l2 k sg a qu i (f : Int) t) R := by
        intro R g hg hR
        refine hstep (g := fun k => (spec_SignPerm4.f k ((fc t (rd qu i) (f : Int)).f1)).bind fun t117 => _) (fun k => by rw [spec_l10Signs.l2, if_pos (by omega), if_pos hi0, if_pos (by omega), if_pos q0, if_pos q1, if_pos (by omega), if_pos (by omega), if_neg hb, if_pos (by rw [hl]; exact q1)]) ?_
        refine Ev.bind hqs ?_
        refine ev_pos g0 (ev_pos (by rw [hl]; exact g1) ?_)
        exact Ev.congr hg hR
      have hqlen : qu.length < 17592186044416 := by omega
      by_cases hz : rd sg (fc t (rd qu i) (f : Int)).f0 = 0
      · obtain ⟨a1, a2, a3⟩ := v6 hz
        subst a1 a2 a3
        refine ⟨sg', qu', c, by simpa using e1, e2, by omega, by rw [e4, v4], by omega, fun hc R hR => ?_, fun hc => ?_⟩
        · exact hs (fun k => by rw [if_pos hz, Option.bind_some, if_pos hqlen, if_pos (by rw [rd_set g0 (by rw [hl]; exact g1) g0, if_pos rfl]), hw]) (e6 hc R hR)
        · exact hs (fun k => by rw [if_pos hz, Option.bind_some, if_pos hqlen, if_pos (by rw [rd_set g0 (by rw [hl]; exact g1) g0, if_pos rfl]), hw]) (e7 hc)
      · obtain ⟨a1, a2, a3⟩ := v7 hz
        have b1 := a1.symm
        have b2 := a2.symm
        clear a1 a2
        subst b1 b2
        cases c1 with
        | true =>
          have he := a3.1 rfl
          refine ⟨sg', qu', c, by simpa using e1, e2, by omega, e4, by omega, fun hc R hR => ?_, fun hc => ?_⟩
          · exact hs (fun k => by rw [if_neg hz, if_pos he, hw]) (e6 hc R hR)
          · exact hs (fun k => by rw [if_neg hz, if_pos he, hw]) (e7 hc)
        | false =>
          have he : ¬ rd sg (fc t (rd qu i) (f : Int)).f0 = wrap64 ((wrap64 (-(rd sg (rd qu i)))) * sgnP (fc t (rd qu i) (f : Int)).f1) := fun e => by have := a3.2 e; cases this
          refine ⟨sg', qu', false, by rw [e1]; simp, e2, by omega, e4, by omega, fun hc => (by cases hc), fun _ => ?_⟩
          exact hs (fun k => by rw [if_neg hz, if_neg he]) (Ev.now _)
/-- A queue, from i on. -/
theorem queue_sim (h : isTri t = true) (a : Int) : ∀ (m : Nat) (sg qu : List Int) (ok : Bool) (i : Int), Inv t.length sg qu → 0 ≤ i → zc sg + qu.length ≤ 100 → (zc sg + qu.length : Int) - i < m →
    ∃ (sg' : List Int) (c : Bool), Ev (fun k => inQ t k i (sg, qu, ok)) (sg', ok && c) ∧ Inv t.length sg' [] ∧
      (c = true → ∀ R, Ev (fun k => spec_l10Signs.l0 k sg' (wrap64 (a + 1)) t) R → Ev (fun k => spec_l10Signs.l1 k sg a qu i t) R) ∧ (c = false → Ev (fun k => spec_l10Signs.l1 k sg a qu i t) ([], false))
  | 0, sg, qu, ok, i, hI, hi0, hM, hm => by
    refine ⟨sg, true, ?_, ⟨hI.len, hI.small, fun x hx => by cases hx⟩, fun _ R hR => ?_, fun hc => by cases hc⟩
    · exact ev_step (g := fun k => inQ t k i (sg, qu, ok)) (f := fun _ => some (sg, ok && true)) (fun k => by rw [inQ, if_neg (by dsimp only; omega), Bool.and_true]) (Ev.now _)
    · exact ev_step (fun k => by rw [spec_l10Signs.l1, if_neg (by omega)]) hR
  | m + 1, sg, qu, ok, i, hI, hi0, hM, hm => by
    by_cases hi1 : i < (qu.length : Int)
    · obtain ⟨q0, q1, qs⟩ := hI.queue _ (rd_mem hi0 hi1)
      have hr := rowlen h q0 q1
      obtain ⟨sg1, qu1, c1, r1, r2, r3, r4, r5, r6, r7⟩ := row_sim h a i hi0 4 0 sg qu ok (by omega) hI hi1 hM
      rw [List.drop_zero] at r1
      obtain ⟨sg', c, e1, e2, e3, e4⟩ := queue_sim h a m sg1 qu1 (ok && c1) (i + 1) r2 (by omega) (by omega) (by omega)
      have hw : wrap64 (i + 1) = i + 1 := wrap_id (by omega) (by omega)
      rw [hw] at r6
      have hok : okRow t (rd qu i) qu.length := by
        refine ⟨⟨q0, q1⟩, by omega, fun y hy hb => ?_, by omega⟩
        obtain ⟨f, hf, rfl⟩ := List.mem_iff_getElem.1 hy
        have ex : (rd_LFace t (rd qu i))[f] = fc t (rd qu i) (f : Int) := (rd_Face_lt _ f hf).symm
        rw [ex] at hb ⊢
        obtain ⟨⟨x1, x2⟩, x3, x4⟩ := row_face h q0 q1 (by omega : (0 : Int) ≤ (f : Int)) (by omega) hb
        exact ⟨x1, x2, x3, x4⟩
      have hs : ∀ {R : List Int × Bool}, Ev (fun k => spec_l10Signs.l2 k sg a qu i 0 t) R → Ev (fun k => spec_l10Signs.l1 k sg a qu i t) R := fun hR => ev_step (fun k => by rw [spec_l10Signs.l1, if_pos hi1]) hR
      refine ⟨sg', c1 && c, ?_, e2, fun hc R hR => ?_, fun hc => ?_⟩
      · rw [← Bool.and_assoc]
        refine ev_step (g := fun k => inQ t k i (sg, qu, ok)) (fun k => ?_) e1
        rw [inQ]
        dsimp only
        rw [if_pos hi1, if_pos hok, r1]
      · rw [Bool.and_eq_true] at hc
        exact hs (r6 hc.1 R (e3 hc.2 R hR))
      · cases c1 with
        | false => exact hs (r7 rfl)
        | true => exact hs (r6 rfl _ (e4 (by simpa using hc)))
    · refine ⟨sg, true, ?_, ⟨hI.len, hI.small, fun x hx => by cases hx⟩, fun _ R hR => ?_, fun hc => by cases hc⟩
      · exact ev_step (g := fun k => inQ t k i (sg, qu, ok)) (f := fun _ => some (sg, ok && true)) (fun k => by rw [inQ, if_neg (by dsimp only; omega), Bool.and_true]) (Ev.now _)
      · exact ev_step (fun k => by rw [spec_l10Signs.l1, if_neg hi1]) hR
/-- All tetrahedra, from a on. -/
theorem all_sim (h : isTri t = true) : ∀ (d : Nat) (a : Int) (sg : List Int) (ok : Bool), Inv t.length sg [] → 0 ≤ a → a + d = t.length →
    ∃ (sg' : List Int) (c : Bool), Ev (fun k => outQ t k d a sg ok) (sg', ok && c) ∧ sg'.length = t.length ∧ (c = true → Ev (fun k => spec_l10Signs.l0 k sg a t) (sg', true)) ∧ (c = false → Ev (fun k => spec_l10Signs.l0 k sg a t) ([], false))
  | 0, a, sg, ok, hI, ha, hd => by
    refine ⟨sg, true, ?_, hI.len, fun _ => ?_, fun hc => by cases hc⟩
    · exact ev_const' fun k => by rw [outQ, Bool.and_true]
    · exact ev_step (f := fun _ => some (sg, true)) (fun k => by rw [spec_l10Signs.l0, spec_l07Tets.f, Option.bind_some, if_neg (by omega)]) (Ev.now _)
  | d + 1, a, sg, ok, hI, ha, hd => by
    have h8 := (isTri_good h).1
    have hl := hI.len
    have hw : wrap64 (a + 1) = a + 1 := wrap_id (by omega) (by omega)
    have hs : ∀ {R : List Int × Bool} {g : Nat → Option (List Int × Bool)}, (∀ k, (if (rd sg a) = 0 then (spec_l10Signs.l1 k (sg.set (a : Int).toNat 1) a (([a] : List Int)) 0 t) else (spec_l10Signs.l0 k sg (wrap64 (a + 1)) t)) = g k) → Ev g R → Ev (fun k => spec_l10Signs.l0 k sg a t) R := fun hg hR =>
      ev_step (fun k => by rw [spec_l10Signs.l0, spec_l07Tets.f, Option.bind_some, if_pos (by omega), if_pos ha, if_pos (by omega)]; exact hg k) hR
    by_cases hz : rd sg a = 0
    · have hI1 : Inv t.length (sg.set a.toNat 1) [a] := by simpa using hI.set (k := a) (v := 1) ha (by omega) (.inl rfl)
      have hzc := zc_set sg a.toNat 1 (by omega) hz (by decide)
      have hzl := zc_le sg
      obtain ⟨sg1, c1, e1, e2, e3, e4⟩ := queue_sim h a 200 (sg.set a.toNat 1) [a] ok 0 hI1 (by omega) (by simp; omega) (by simp; omega)
      obtain ⟨sg', c, f1, f2, f3, f4⟩ := all_sim h d (a + 1) sg1 (ok && c1) e2 (by omega) (by omega)
      rw [hw] at e3
      refine ⟨sg', c1 && c, ?_, f2, fun hc => ?_, fun hc => ?_⟩
      · rw [← Bool.and_assoc]
        refine Ev.congr (fun k => by rw [outQ, if_pos hz]) (Ev.bind e1 ?_)
        exact f1
      · rw [Bool.and_eq_true] at hc
        exact hs (fun k => if_pos hz) (e3 hc.1 _ (f3 hc.2))
      · cases c1 with
        | false => exact hs (fun k => if_pos hz) (e4 rfl)
        | true => exact hs (fun k => if_pos hz) (e3 rfl _ (f4 (by simpa using hc)))
    · obtain ⟨sg', c, f1, f2, f3, f4⟩ := all_sim h d (a + 1) sg ok hI (by omega) (by omega)
      refine ⟨sg', c, Ev.congr (fun k => by rw [outQ, if_neg hz]) f1, f2, fun hc => ?_, fun hc => ?_⟩
      · exact hs (fun k => by rw [if_neg hz, hw]) (f3 hc)
      · exact hs (fun k => by rw [if_neg hz, hw]) (f4 hc)
/-- Both searches. -/
theorem signs_sim (h : isTri t = true) : ∃ (sg : List Int) (c : Bool), Ev (fun k => impl_Triangulation_orientation.f k t) (sg, c) ∧ sg.length = t.length ∧ (c = true → Ev (fun k => spec_l10Signs.f k t) (sg, true)) ∧ (c = false → Ev (fun k => spec_l10Signs.f k t) ([], false)) := by
  have h8 := (isTri_good h).1
  have hrep : ∀ x : Int, rd (List.replicate t.length 0) x = 0 := fun x => by
    unfold rd
    by_cases hx : x.toNat < t.length
    · simp [List.getD_eq_getElem?_getD, hx]
    · simp [List.getD_eq_getElem?_getD, hx]
  have hI : Inv t.length (List.replicate t.length 0) [] := ⟨List.length_replicate, fun x _ _ => .inl (hrep x), fun x hx => by cases hx⟩
  obtain ⟨sg, c, e1, e2, e3, e4⟩ := all_sim h t.length 0 (List.replicate t.length 0) true hI (by omega) (by omega)
  rw [Bool.true_and] at e1
  have hf : ∀ k, spec_l10Signs.f k t = spec_l10Signs.l0 k (List.replicate t.length 0) 0 t := fun k => by
    unfold spec_l10Signs.f
    rw [if_pos (by omega), if_pos (by omega), Int.toNat_natCast]
  refine ⟨sg, c, Ev.congr (fun k => ?_) e1, e2, fun hc => Ev.congr hf (e3 hc), fun hc => Ev.congr hf (e4 hc)⟩
  unfold impl_Triangulation_orientation.f signO
  rw [if_pos (by omega)]
end
end Go.Proofs.Ytfaagdpopmnnpaa.P

/- IsOriented of both sides: all signs are 1 exactly if every gluing reverses orientation. -/
namespace Go.Proofs.Ytfaagdpopmnnpaa.P
open Go.RowKit Go.Proofs.YtfaagdpopmnnpaaW.PrintWords Go.Proofs.Ytfaagdpopmnnpaa.Lib
set_option linter.unusedVariables false
/-- The gluings of the faces of x from f on reverse orientation. -/
def FGf (t : Tri) (x f : Int) : Prop := ∀ g : Int, f ≤ g → g ≤ 3 → ¬ (fc t x g).f0 < 0 → sgnP (fc t x g).f1 = -1
def FG (t : Tri) (x : Int) : Prop := FGf t x 0
/-- No sign is -1. -/
def NoM (n : Nat) (sg : List Int) : Prop := ∀ x : Int, 0 ≤ x → x < n → rd sg x ≠ -1
theorem ev_unique {α : Type} {g : Nat → Option α} {r r' : α} (h : Ev g r) (h' : Ev g r') : r = r' := by
  obtain ⟨K, hK⟩ := h
  obtain ⟨K', hK'⟩ := h'
  have h1 := hK (max K K') (Nat.le_max_left ..)
  have h2 := hK' (max K K') (Nat.le_max_right ..)
  exact Option.some.inj (h1.symm.trans h2)
section
variable {t : Tri}
theorem row_P (h : isTri t = true) (i q : Int) (hi0 : 0 ≤ i) : ∀ (d f : Nat) (sg qu : List Int) (ok : Bool), f + d = 4 → Inv t.length sg qu → i < qu.length → rd qu i = q →
    ∃ (sg' e : List Int) (c : Bool), visAll i ((rd_LFace t q).drop f) (sg, qu, ok) = (sg', qu ++ e, ok && c) ∧ Inv t.length sg' (qu ++ e) ∧
      (∀ x : Int, 0 ≤ x → x < t.length → rd sg x ≠ 0 → rd sg' x = rd sg x) ∧ (∀ x : Int, 0 ≤ x → x < t.length → rd sg x = 0 → rd sg' x ≠ 0 → x ∈ e) ∧
      (c = true → NoM t.length sg' → FGf t q f) ∧ (NoM t.length sg → FGf t q f → c = true ∧ NoM t.length sg')
  | 0, f, sg, qu, ok, hf, hI, hi1, hq => by
    obtain ⟨q0, q1, qs⟩ := hI.queue _ (rd_mem hi0 hi1)
    have hr := rowlen h q0 q1
    rw [hq] at hr
    refine ⟨sg, [], true, by rw [List.drop_eq_nil_of_le (by omega)]; simp [visAll], by simpa using hI, fun _ _ _ _ => rfl, fun x _ _ a b => absurd a b, fun _ _ g h1 h2 => by omega, fun hn _ => ⟨rfl, hn⟩⟩
  | d + 1, f, sg, qu, ok, hf, hI, hi1, hq => by
    obtain ⟨q0, q1, qs⟩ := hI.queue _ (rd_mem hi0 hi1)
    have hr := rowlen h q0 q1
    rw [hq] at q0 q1 hr
    have hl := hI.len
    have hlt : f < (rd_LFace t q).length := by omega
    have ex : (rd_LFace t q)[f] = fc t q (f : Int) := (rd_Face_lt _ f hlt).symm
    rw [List.drop_eq_getElem_cons hlt, visAll, ex]
    have hsplit : ∀ g : Int, (f : Int) ≤ g → g = (f : Int) ∨ ((f + 1 : Nat) : Int) ≤ g := fun g hg => by omega
    by_cases hb : (fc t q (f : Int)).f0 < 0
    · rw [if_pos hb]
      obtain ⟨sg', e, c, e1, e2, e3, e4, e5, e6⟩ := row_P h i q hi0 d (f + 1) sg qu ok (by omega) hI hi1 hq
      refine ⟨sg', e, c, e1, e2, e3, e4, fun hc hn g h1 h2 hg => ?_, fun hn hF => e6 hn (fun g h1 h2 hg => hF g (by omega) h2 hg)⟩
      rcases hsplit g h1 with rfl | h3
      · exact absurd hb hg
      · exact e5 hc hn g h3 h2 hg
    · rw [if_neg hb]
      obtain ⟨⟨g0, g1⟩, p0, p1⟩ := row_face h q0 q1 (by omega : (0 : Int) ≤ (f : Int)) (by omega) hb
      have hp := sgnP_one p0 p1
      obtain ⟨sg1, qu1, c1, v1, v2, v3, v4, v5, v6, v7⟩ := vis_step hI ok hi0 hi1 g0 g1 hp
      rw [hq] at v4 v6 v7
      have hqs := hI.queue _ (rd_mem hi0 hi1)
      rw [hq] at hqs
      obtain ⟨we, wp⟩ := want_eq hqs.2.2 hp
      dsimp only
      rw [v1]
      obtain ⟨e0, rfl⟩ : ∃ e0, qu1 = qu ++ e0 := by
        by_cases hz : rd sg (fc t q (f : Int)).f0 = 0
        · exact ⟨_, (v6 hz).2.1⟩
        · exact ⟨[], by simpa using (v7 hz).2.1⟩
      obtain ⟨sg', e, c, e1, e2, e3, e4, e5, e6⟩ := row_P h i q hi0 d (f + 1) sg1 (qu ++ e0) (ok && c1) (by omega) v2 (by omega) v4
      have m1 : ∀ x : Int, 0 ≤ x → x < t.length → rd sg x ≠ 0 → rd sg1 x = rd sg x := fun x x0 x1 hx => by
        by_cases hz : rd sg (fc t q (f : Int)).f0 = 0
        · rw [(v6 hz).1, rd_set g0 (by omega) x0]
          split
          · rename_i e; rw [e] at hx; exact absurd hz hx
          · rfl
        · rw [(v7 hz).1]
      have hn1 : NoM t.length sg' → NoM t.length sg1 := fun hn x x0 x1 hx => hn x x0 x1 (by rw [e3 x x0 x1 (by rw [hx]; decide)]; exact hx)
      have hself : rd sg q = 1 → (sgnP (fc t q (f : Int)).f1 = -1 ↔ wrap64 (wrap64 (-(rd sg q)) * sgnP (fc t q (f : Int)).f1) = 1) := fun hs => by
        rw [hs]; rcases hp with e | e <;> rw [e] <;> decide +kernel
      refine ⟨sg', e0 ++ e, c1 && c, by rw [e1, List.append_assoc, Bool.and_assoc], by rw [← List.append_assoc]; exact e2, fun x x0 x1 hx => ?_, fun x x0 x1 hx hx2 => ?_, fun hc hn g h1 h2 hg => ?_, fun hn hF => ?_⟩
      · rw [e3 x x0 x1 (by rw [m1 x x0 x1 hx]; exact hx), m1 x x0 x1 hx]
      · by_cases hx1 : rd sg1 x = 0
        · exact List.mem_append_right _ (e4 x x0 x1 hx1 hx2)
        · refine List.mem_append_left _ ?_
          by_cases hz : rd sg (fc t q (f : Int)).f0 = 0
          · obtain ⟨a1, a2, _⟩ := v6 hz
            rw [a1, rd_set g0 (by omega) x0] at hx1
            have e9 : x = (fc t q (f : Int)).f0 := Classical.byContradiction fun hne => by rw [if_neg hne] at hx1; exact hx1 hx
            have a3 : e0 = [(fc t q (f : Int)).f0] := List.append_cancel_left a2
            rw [a3, e9]; exact List.mem_singleton_self _
          · rw [(v7 hz).1] at hx1; exact absurd hx hx1
      · rw [Bool.and_eq_true] at hc
        rcases hsplit g h1 with rfl | h3
        · have hN1 := hn1 hn
          have hsq : rd sg q = 1 := by
            rcases hqs.2.2 with e9 | e9
            · exact e9
            · exact absurd (by rw [m1 q q0 q1 (by rw [e9]; decide)]; exact e9) (hN1 q q0 q1)
          rw [hself hsq]
          by_cases hz : rd sg (fc t q (f : Int)).f0 = 0
          · have := hN1 _ g0 g1
            rw [(v6 hz).1, rd_set g0 (by omega) g0, if_pos rfl] at this
            exact wp.resolve_right this
          · have e9 := (v7 hz).2.2.1 hc.1
            rw [← e9]
            have := hN1 _ g0 g1
            rw [(v7 hz).1] at this
            exact ((hI.small _ g0 g1).resolve_left hz).resolve_right this
        · exact e5 hc.2 hn g h3 h2 hg
      · have hfg := hF (f : Int) (by omega) (by omega) hb
        have hsq : rd sg q = 1 := hqs.2.2.resolve_right (hn q q0 q1)
        have hw1 := (hself hsq).1 hfg
        have hc1 : c1 = true ∧ NoM t.length sg1 := by
          by_cases hz : rd sg (fc t q (f : Int)).f0 = 0
          · refine ⟨(v6 hz).2.2, fun x x0 x1 => ?_⟩
            rw [(v6 hz).1, rd_set g0 (by omega) x0, hw1]
            split
            · decide
            · exact hn x x0 x1
          · refine ⟨(v7 hz).2.2.2 ?_, by rw [(v7 hz).1]; exact hn⟩
            rw [hw1]
            exact ((hI.small _ g0 g1).resolve_left hz).resolve_right (hn _ g0 g1)
        obtain ⟨a1, a2⟩ := e6 hc1.2 (fun g h1 h2 hg => hF g (by omega) h2 hg)
        exact ⟨by rw [hc1.1, a1]; rfl, a2⟩
theorem queue_P (h : isTri t = true) : ∀ (m : Nat) (sg qu : List Int) (ok : Bool) (i : Int), Inv t.length sg qu → 0 ≤ i → zc sg + qu.length ≤ 100 → (zc sg + qu.length : Int) - i < m →
    ∃ (sg' : List Int) (c : Bool), Ev (fun k => inQ t k i (sg, qu, ok)) (sg', ok && c) ∧ Inv t.length sg' [] ∧ (∀ x : Int, 0 ≤ x → x < t.length → rd sg x ≠ 0 → rd sg' x = rd sg x) ∧
      (c = true → NoM t.length sg' → ∀ x : Int, 0 ≤ x → x < t.length → rd sg' x ≠ 0 → (rd sg x ≠ 0 ∧ x ∉ qu.drop i.toNat) ∨ FG t x) ∧ (NoM t.length sg → (∀ x : Int, 0 ≤ x → x < t.length → FG t x) → c = true ∧ NoM t.length sg')
  | m, sg, qu, ok, i, hI, hi0, hM, hm => by
    by_cases hi1 : i < (qu.length : Int)
    · obtain ⟨q0, q1, qs⟩ := hI.queue _ (rd_mem hi0 hi1)
      have hr := rowlen h q0 q1
      cases m with
      | zero => omega
      | succ m =>
        obtain ⟨sg1, e, c1, r1, r2, r3, r4, r5, r6⟩ := row_P h i (rd qu i) hi0 4 0 sg qu ok (by omega) hI hi1 rfl
        obtain ⟨sgx, qux, cx, s1, s2, s3, s4, s5, _, _⟩ := row_sim h 0 i hi0 4 0 sg qu ok (by omega) hI hi1 hM
        rw [r1] at s1
        obtain ⟨y1, y2⟩ := Prod.mk.inj s1
        obtain ⟨y2, y3⟩ := Prod.mk.inj y2
        subst y1 y2
        rw [List.drop_zero] at r1
        obtain ⟨sg', c, e1, e2, e3, e4, e5⟩ := queue_P h m sg1 (qu ++ e) (ok && c1) (i + 1) r2 (by omega) (by omega) (by omega)
        have hok : okRow t (rd qu i) qu.length := by
          refine ⟨⟨q0, q1⟩, by omega, fun y hy hb => ?_, by omega⟩
          obtain ⟨f, hf, rfl⟩ := List.mem_iff_getElem.1 hy
          have ex : (rd_LFace t (rd qu i))[f] = fc t (rd qu i) (f : Int) := (rd_Face_lt _ f hf).symm
          rw [ex] at hb ⊢
          obtain ⟨⟨x1, x2⟩, x3, x4⟩ := row_face h q0 q1 (by omega : (0 : Int) ≤ (f : Int)) (by omega) hb
          exact ⟨x1, x2, x3, x4⟩
        have hdrop : qu.drop i.toNat = rd qu i :: qu.drop (i + 1).toNat := by
          obtain ⟨n, rfl⟩ := Int.eq_ofNat_of_zero_le hi0
          rw [Int.toNat_natCast, List.drop_eq_getElem_cons (by omega), rd_lt qu n (by omega)]
          rfl
        have hsub : ∀ x, x ∈ qu.drop (i + 1).toNat ∨ x ∈ e → x ∈ (qu ++ e).drop (i + 1).toNat := fun x hx => by
          rw [List.drop_append_of_le_length (by omega)]
          exact List.mem_append.2 hx
        refine ⟨sg', c1 && c, ?_, e2, fun x x0 x1 hx => ?_, fun hc hn x x0 x1 hx => ?_, fun hn hF => ?_⟩
        · rw [← Bool.and_assoc]
          refine ev_step (g := fun k => inQ t k i (sg, qu, ok)) (fun k => ?_) e1
          rw [inQ]
          dsimp only
          rw [if_pos hi1, if_pos hok, r1]
        · rw [e3 x x0 x1 (by rw [r3 x x0 x1 hx]; exact hx), r3 x x0 x1 hx]
        · rw [Bool.and_eq_true] at hc
          have hN1 : NoM t.length sg1 := fun y y0 y1 hy => hn y y0 y1 (by rw [e3 y y0 y1 (by rw [hy]; decide)]; exact hy)
          rcases e4 hc.2 hn x x0 x1 hx with ⟨a1, a2⟩ | a1
          · by_cases hz : rd sg x = 0
            · exact absurd (hsub x (.inr (r4 x x0 x1 hz a1))) a2
            · by_cases hq : x = rd qu i
              · right; rw [hq]; exact r5 hc.1 hN1
              · refine .inl ⟨hz, fun hx2 => ?_⟩
                rw [hdrop] at hx2
                rcases List.mem_cons.1 hx2 with hx3 | hx3
                · exact hq hx3
                · exact a2 (hsub x (.inl hx3))
          · exact .inr a1
        · obtain ⟨a1, a2⟩ := r6 hn (hF _ q0 q1)
          obtain ⟨a3, a4⟩ := e5 a2 hF
          exact ⟨by rw [a1, a3]; rfl, a4⟩
    · refine ⟨sg, true, ?_, ⟨hI.len, hI.small, fun x hx => by cases hx⟩, fun _ _ _ _ => rfl, fun _ _ x x0 x1 hx => .inl ⟨hx, ?_⟩, fun hn _ => ⟨rfl, hn⟩⟩
      · exact ev_step (g := fun k => inQ t k i (sg, qu, ok)) (f := fun _ => some (sg, ok && true)) (fun k => by rw [inQ, if_neg (by dsimp only; omega), Bool.and_true]) (Ev.now _)
      · rw [List.drop_eq_nil_of_le (by omega)]; exact List.not_mem_nil
theorem all_P (h : isTri t = true) : ∀ (d : Nat) (a : Int) (sg : List Int) (ok : Bool), Inv t.length sg [] → 0 ≤ a → a + d = t.length →
    ∃ (sg' : List Int) (c : Bool), Ev (fun k => outQ t k d a sg ok) (sg', ok && c) ∧ (∀ x : Int, 0 ≤ x → x < t.length → rd sg x ≠ 0 → rd sg' x = rd sg x) ∧ (∀ x : Int, a ≤ x → x < t.length → rd sg' x ≠ 0) ∧
      (c = true → NoM t.length sg' → (∀ x : Int, 0 ≤ x → x < t.length → rd sg x ≠ 0 → FG t x) → ∀ x : Int, 0 ≤ x → x < t.length → rd sg' x ≠ 0 → FG t x) ∧ (NoM t.length sg → (∀ x : Int, 0 ≤ x → x < t.length → FG t x) → c = true ∧ NoM t.length sg')
  | 0, a, sg, ok, hI, ha, hd => ⟨sg, true, ev_const' fun k => by rw [outQ, Bool.and_true], fun _ _ _ _ => rfl, fun x h1 h2 => by omega, fun _ _ hF => hF, fun hn _ => ⟨rfl, hn⟩⟩
  | d + 1, a, sg, ok, hI, ha, hd => by
    have h8 := (isTri_good h).1
    have hl := hI.len
    by_cases hz : rd sg a = 0
    · have hI1 : Inv t.length (sg.set a.toNat 1) [a] := by simpa using hI.set (k := a) (v := 1) ha (by omega) (.inl rfl)
      have hzc := zc_set sg a.toNat 1 (by omega) hz (by decide)
      have hzl := zc_le sg
      obtain ⟨sg1, c1, e1, e2, e3, e4, e5⟩ := queue_P h 200 (sg.set a.toNat 1) [a] ok 0 hI1 (by omega) (by simp; omega) (by simp; omega)
      obtain ⟨sg', c, f1, f2, f3, f4, f5⟩ := all_P h d (a + 1) sg1 (ok && c1) e2 (by omega) (by omega)
      have hset : ∀ x : Int, 0 ≤ x → rd (sg.set a.toNat 1) x = if x = a then 1 else rd sg x := fun x x0 => rd_set ha (by omega) x0
      have ha1 : rd sg1 a = 1 := by
        have := e3 a ha (by omega) (by rw [hset a ha, if_pos rfl]; decide)
        rw [this, hset a ha, if_pos rfl]
      refine ⟨sg', c1 && c, ?_, fun x x0 x1 hx => ?_, fun x h1 h2 => ?_, fun hc hn hF => ?_, fun hn hF => ?_⟩
      · rw [← Bool.and_assoc]
        exact Ev.congr (fun k => by rw [outQ, if_pos hz]) (Ev.bind e1 f1)
      · have hne : x ≠ a := fun e => by rw [e] at hx; exact hx hz
        have h1 : rd (sg.set a.toNat 1) x = rd sg x := by rw [hset x x0, if_neg hne]
        have h2 := e3 x x0 x1 (by rw [h1]; exact hx)
        rw [f2 x x0 x1 (by rw [h2, h1]; exact hx), h2, h1]
      · by_cases e : x = a
        · rw [e, f2 a ha (by omega) (by rw [ha1]; decide), ha1]; decide
        · exact f3 x (by omega) h2
      · rw [Bool.and_eq_true] at hc
        refine f4 hc.2 hn fun x x0 x1 hx => ?_
        have hN1 : NoM t.length sg1 := fun y y0 y1 hy => hn y y0 y1 (by rw [f2 y y0 y1 (by rw [hy]; decide)]; exact hy)
        rcases e4 hc.1 hN1 x x0 x1 hx with ⟨a1, a2⟩ | a1
        · have hne : x ≠ a := fun e => a2 (by simp [e])
          rw [hset x x0, if_neg hne] at a1
          exact hF x x0 x1 a1
        · exact a1
      · have hn2 : NoM t.length (sg.set a.toNat 1) := by
          intro x x0 x1
          rw [hset x x0]
          split
          · decide
          · exact hn x x0 x1
        obtain ⟨a1, a2⟩ := e5 hn2 hF
        obtain ⟨a3, a4⟩ := f5 a2 hF
        exact ⟨by rw [a1, a3]; rfl, a4⟩
    · obtain ⟨sg', c, f1, f2, f3, f4, f5⟩ := all_P h d (a + 1) sg ok hI (by omega) (by omega)
      refine ⟨sg', c, Ev.congr (fun k => by rw [outQ, if_neg hz]) f1, f2, fun x h1 h2 => ?_, f4, f5⟩
      by_cases e : x = a
      · rw [e, f2 a ha (by omega) hz]; exact hz
      · exact f3 x (by omega) h2
/-- Every gluing reverses orientation. -/
theorem signs_P (h : isTri t = true) : ∃ (sg : List Int) (c : Bool), Ev (fun k => impl_Triangulation_orientation.f k t) (sg, c) ∧ sg.length = t.length ∧ ((c = true ∧ NoM t.length sg) ↔ ∀ x : Int, 0 ≤ x → x < t.length → FG t x) := by
  have h8 := (isTri_good h).1
  have hrep : ∀ x : Int, rd (List.replicate t.length 0) x = 0 := fun x => by
    unfold rd
    by_cases hx : x.toNat < t.length
    · simp [List.getD_eq_getElem?_getD, hx]
    · simp [List.getD_eq_getElem?_getD, hx]
  have hI : Inv t.length (List.replicate t.length 0) [] := ⟨List.length_replicate, fun x _ _ => .inl (hrep x), fun x hx => by cases hx⟩
  obtain ⟨sg, c, e1, e2, e3, e4, e5⟩ := all_P h t.length 0 (List.replicate t.length 0) true hI (by omega) (by omega)
  obtain ⟨sg2, c2, f1, f2, _, _⟩ := signs_sim h
  rw [Bool.true_and] at e1
  have he : Ev (fun k => impl_Triangulation_orientation.f k t) (sg, c) := Ev.congr (fun k => by unfold impl_Triangulation_orientation.f signO; rw [if_pos (by omega)]) e1
  have hu := ev_unique he f1
  refine ⟨sg, c, he, by rw [(Prod.mk.inj hu).1]; exact f2, ⟨fun ⟨hc, hn⟩ x x0 x1 => ?_, fun hF => e5 (fun x _ _ => by rw [hrep x]; decide) hF⟩⟩
  exact e4 hc hn (fun y _ _ hy => absurd (hrep y) hy) x x0 x1 (e3 x x0 x1)
theorem index_ev (l : List Int) (hl : l.length ≤ 1000000) (a : Int) : ∃ r, Ev (fun k => slices_Index_Sint64.f k l a) r ∧ (0 ≤ r ↔ a ∈ l) := by
  have key : ∀ (d n : Nat), n + d = l.length → ∃ r, Ev (fun k => slices_Index_Sint64.l0 k l a (l.length : Int) (n : Int)) r ∧ (0 ≤ r ↔ a ∈ l.drop n) := by
    intro d
    induction d with
    | zero =>
      intro n hn
      refine ⟨-1, ev_step (f := fun _ => some (-1)) (fun k => by rw [slices_Index_Sint64.l0, if_neg (by omega)]) (Ev.now _), ?_⟩
      rw [List.drop_eq_nil_of_le (by omega)]
      exact ⟨fun h => by omega, fun h => by cases h⟩
    | succ d ih =>
      intro n hn
      have hlt : n < l.length := by omega
      by_cases he : a = l[n]
      · refine ⟨(n : Int), ev_step (f := fun _ => some (n : Int)) (fun k => by rw [slices_Index_Sint64.l0, if_pos (by omega), if_pos (by omega), if_pos (by omega), rd_lt l n hlt, if_pos he]) (Ev.now _), ?_⟩
        rw [List.drop_eq_getElem_cons hlt, ← he]
        exact ⟨fun _ => List.mem_cons_self .., fun _ => by omega⟩
      · obtain ⟨r, h1, h2⟩ := ih (n + 1) (by omega)
        refine ⟨r, ev_step (fun k => by rw [slices_Index_Sint64.l0, if_pos (by omega), if_pos (by omega), if_pos (by omega), rd_lt l n hlt, if_neg he, wrap_succ (by omega)]) h1, ?_⟩
        rw [List.drop_eq_getElem_cons hlt, h2]
        exact ⟨fun h => List.mem_cons_of_mem _ h, fun h => by rcases List.mem_cons.1 h with h3 | h3; exact absurd h3 he; exact h3⟩
  obtain ⟨r, h1, h2⟩ := key l.length 0 (by omega)
  rw [List.drop_zero] at h2
  exact ⟨r, h1, h2⟩
theorem spec_oriented_row (h : isTri t = true) {a : Int} (h0 : 0 ≤ a) (h1 : a < t.length) {R : Bool} {p : Prop} (hR : Ev (fun k => spec_IsOriented.l0 k (wrap64 (a + 1)) t) R) (hp : R = true ↔ p) :
    ∀ (d : Nat) (f : Int), 0 ≤ f → f + d = 4 → ∃ b : Bool, Ev (fun k => spec_IsOriented.l1 k a f t) b ∧ (b = true ↔ FGf t a f ∧ p)
  | 0, f, hf, he => ⟨R, ev_step (fun k => by rw [spec_IsOriented.l1, if_neg (by omega)]) hR, hp.trans ⟨fun hh => ⟨fun g g1 g2 => by omega, hh⟩, fun hh => hh.2⟩⟩
  | d + 1, f, hf, he => by
    have hr := rowlen h h0 h1
    obtain ⟨b, b1, b2⟩ := spec_oriented_row h h0 h1 hR hp d (f + 1) (by omega) (by omega)
    have hw : wrap64 (f + 1) = f + 1 := wrap_id (by omega) (by omega)
    have hsplit : FGf t a f ↔ (¬ (fc t a f).f0 < 0 → sgnP (fc t a f).f1 = -1) ∧ FGf t a (f + 1) :=
      ⟨fun hh => ⟨hh f (by omega) (by omega), fun g g1 g2 => hh g (by omega) g2⟩, fun hh g g1 g2 => by
        by_cases e : g = f
        · rw [e]; exact hh.1
        · exact hh.2 g (by omega) g2⟩
    have hs : ∀ {R : Bool} {g : Nat → Option Bool}, (∀ k, (if ((fc t a f).f0) ≥ 0 then ((spec_SignPerm4.f k ((fc t a f).f1)).bind fun t107 => (if t107 = 1 then (some false) else (spec_IsOriented.l1 k a (wrap64 (f + 1)) t))) else (spec_IsOriented.l1 k a (wrap64 (f + 1)) t)) = g k) → Ev g R → Ev (fun k => spec_IsOriented.l1 k a f t) R := fun hg hR =>
      ev_step (fun k => by rw [spec_IsOriented.l1, if_pos (by omega), if_pos h0, if_pos h1, if_pos hf, if_pos (by omega)]; exact hg k) hR
    by_cases hb : (fc t a f).f0 < 0
    · exact ⟨b, hs (fun k => by rw [if_neg (by omega), hw]) b1, b2.trans (by rw [hsplit]; exact ⟨fun hh => ⟨⟨fun hn => absurd hb hn, hh.1⟩, hh.2⟩, fun hh => ⟨hh.1.2, hh.2⟩⟩)⟩
    · obtain ⟨_, p0, p1⟩ := row_face h h0 h1 hf (by omega) hb
      have hq := signPerm4_ev p0 p1
      by_cases h9 : sgnP (fc t a f).f1 = 1
      · refine ⟨false, hs (fun k => if_pos (by omega)) (Ev.bind hq (ev_pos h9 (Ev.now _))), ?_⟩
        rw [hsplit]
        exact ⟨fun hh => (by cases hh), fun hh => (by have := hh.1.1 hb; rw [h9] at this; cases this)⟩
      · have h8 := (sgnP_one p0 p1).resolve_left h9
        refine ⟨b, hs (fun k => if_pos (by omega)) (Ev.bind hq (ev_neg h9 (Ev.congr (fun k => by rw [hw]) b1))), b2.trans ?_⟩
        rw [hsplit]
        exact ⟨fun hh => ⟨⟨fun _ => h8, hh.1⟩, hh.2⟩, fun hh => ⟨hh.1.2, hh.2⟩⟩
theorem spec_oriented_all (h : isTri t = true) : ∀ (d : Nat) (a : Int), 0 ≤ a → a + d = t.length → ∃ b : Bool, Ev (fun k => spec_IsOriented.l0 k a t) b ∧ (b = true ↔ ∀ x : Int, a ≤ x → x < t.length → FG t x)
  | 0, a, ha, hd => ⟨true, ev_step (f := fun _ => some true) (fun k => by rw [spec_IsOriented.l0, if_neg (by omega)]) (Ev.now _), ⟨fun _ x h1 h2 => by omega, fun _ => rfl⟩⟩
  | d + 1, a, ha, hd => by
    have h8 := (isTri_good h).1
    obtain ⟨b, b1, b2⟩ := spec_oriented_all h d (a + 1) (by omega) (by omega)
    obtain ⟨c, c1, c2⟩ := spec_oriented_row h ha (by omega) (Ev.congr (fun k => by rw [wrap_id (by omega) (by omega)]) b1) b2 4 0 (by omega) (by omega)
    refine ⟨c, ev_step (fun k => by rw [spec_IsOriented.l0, if_pos (by omega)]) c1, c2.trans ⟨fun hh x h1 h2 => ?_, fun hh => ⟨hh a (by omega) (by omega), fun x h1 h2 => hh x (by omega) h2⟩⟩⟩
    by_cases e : x = a
    · rw [e]; exact hh.1
    · exact hh.2 x (by omega) h2
theorem noM_iff {n : Nat} {sg : List Int} (hl : sg.length = n) : NoM n sg ↔ ¬ (-1 : Int) ∈ sg := by
  constructor
  · intro hn hm
    obtain ⟨j, hj, e⟩ := List.mem_iff_getElem.1 hm
    exact hn (j : Int) (by omega) (by omega) (by rw [rd_lt sg j hj]; exact e)
  · intro hm x x0 x1 e
    exact hm (e ▸ rd_mem x0 (by omega))
theorem isOriented_ev {t : Tri} (hs : Small t) : ∃ b : Bool, Ev (fun k => spec_IsOriented.f k t) b ∧ Ev (fun k => impl_IsOriented.f k t) b := by
  have h1 := spec_isTri_ev t
  have h2 := impl_isTri_ev hs
  cases h : isTri t with
  | false =>
    rw [h] at h1 h2
    exact ⟨false, Ev.bind h1 (ev_neg (by simp) (Ev.now _)), Ev.bind (Ev.bind h2 (ev_neg (by simp) (Ev.now ([], 1)))) (ev_neg (by simp) (Ev.now _))⟩
  | true =>
    rw [h] at h1 h2
    obtain ⟨b, b1, b2⟩ := spec_oriented_all h t.length 0 (by omega) (by omega)
    obtain ⟨sg, c, e1, e2, e3⟩ := signs_P h
    have h8 := (isTri_good h).1
    refine ⟨b, Ev.bind h1 (ev_pos rfl b1), ?_⟩
    cases c with
    | false =>
      have hb : b = false := by
        cases b with
        | false => rfl
        | true => have := (e3.2 (b2.1 rfl)).1; cases this
      rw [hb]
      exact Ev.bind (Ev.bind h2 (ev_pos rfl (Ev.bind e1 (ev_neg (by simp) (Ev.now ([], 5)))))) (ev_neg (by simp) (Ev.now _))
    | true =>
      obtain ⟨r, r1, r2⟩ := index_ev sg (by omega) (-1)
      refine Ev.bind (Ev.bind h2 (ev_pos rfl (Ev.bind e1 (ev_pos rfl (Ev.now (sg, 0)))))) (ev_pos rfl (Ev.bind (Ev.bind r1 (Ev.now (decide (r ≥ 0)))) (ev_some ?_)))
      have hm := noM_iff e2
      by_cases hr : 0 ≤ r
      · have hmem := r2.1 hr
        have hb : b = false := by
          cases b with
          | false => rfl
          | true => exact absurd hmem (hm.1 (e3.2 (b2.1 rfl)).2)
        rw [hb]; simp; omega
      · have hno := hm.2 (fun hx => hr (r2.2 hx))
        have hb : b = true := b2.2 (e3.1 ⟨rfl, hno⟩)
        rw [hb]; simp; omega
end
end Go.Proofs.Ytfaagdpopmnnpaa.P

/- The pure statement of FnExactIsOriented. -/
namespace Go.Proofs.Ytfaagdpopmnnpaa.Pure
open Go.RowKit Go.Proofs.Ytfaagdpopmnnpaa.P Go.Proofs.Ytfaagdpopmnnpaa.Lib Go.Proofs.YtfaagdpopmnnpaaW.PrintWords
theorem FnExactIsOriented (l : List (List SLawFace)) (h : Fits l) : ∃ k, laws_FnExactIsOriented.f k l = some true := by
  refine Ev.rounds ?_
  obtain ⟨r, hr, hs⟩ := szTriangulation_ev l h
  refine Ev.bind hr ?_
  by_cases hn : r < 0
  · exact ev_pos hn (Ev.now true)
  · have hsm := hs hn
    have hto := toTriangulation_ev l hsm
    have hS := cvT_small hsm
    obtain ⟨o, o1, o2⟩ := isOriented_ev hS
    refine ev_neg hn ?_
    refine Ev.bind hto ?_
    refine Ev.bind o1 ?_
    refine Ev.bind hto ?_
    refine Ev.bind o2 ?_
    refine ev_neg (by simp) ?_
    refine Ev.bind hto ?_
    refine Ev.bind (eqTriangulation_ev _ hS) ?_
    exact ev_pos rfl (Ev.now true)
end Go.Proofs.Ytfaagdpopmnnpaa.Pure

/- How an argument that reads as data reads as a list: slices of slices of structs of whole numbers, and structs that hold one slice. -/
namespace Go.Proofs.Ytfaagdpopmnnpaa.Lib
open Go.RowKit Go.Proofs.YtfaagdpopmnnpaaW.PrintWords Go.Joins Go.Deep Go.WideShapes Go.ChangeShapes
set_option linter.unusedVariables false
/-- Whatever reads as data at type t reads as a value of the kind d. -/
def Opens (P : Program) (t : TypeId) {α : Type} (d : Kd α) : Prop := ∀ (H : Type) (enc : TypeId × Value → H) (w : World) (base : Nat) (spare : Nat → Bool) (held : Bool) (fuel : Nat) (cs : List Value) (x : DataW H × List MemPlace),
  DataW.trod enc P w base spare held fuel t cs = some x → ∃ y, d.K w y cs
theorem pick_list {α : Type} {R : Nat → α → Prop} : ∀ n, (∀ i, i < n → ∃ y, R i y) → ∃ ys : List α, ys.length = n ∧ ∀ j p, ys[j]? = some p → R j p
  | 0, _ => ⟨[], rfl, fun j p h => by simp at h⟩
  | n + 1, h => by
    obtain ⟨ys, hl, hr⟩ := pick_list n (fun i hi => h i (by omega))
    obtain ⟨y, hy⟩ := h n (by omega)
    refine ⟨ys ++ [y], by simp [hl], fun j p hj => ?_⟩
    by_cases hlt : j < n
    · rw [List.getElem?_append_left (by omega)] at hj
      exact hr j p hj
    · have hjn : j < (ys ++ [y]).length := (List.getElem?_eq_some_iff.1 hj).1
      have : j = n := by simp [hl] at hjn; omega
      subst this
      rw [List.getElem?_append_right (by omega), hl, Nat.sub_self] at hj
      injection hj with hj
      rw [← hj]
      exact hy
theorem opens_slice {P : Program} {t e : TypeId} {α : Type} {d : Kd α} (ht : P.underlying t = some (.slice e)) (hc : P.cellsOf e = d.sz) (h : Opens P e d) : Opens P t (Kd.slice e d) := by
  intro H enc w base spare held fuel cs x hx
  rcases open_slice ht hx with ⟨rfl, _⟩ | ⟨a, len, cap, m, n, D, Pl, rfl, hb, hl, hm, hmm, _, hi⟩
  · exact ⟨[], none, 0, rfl, Nat.le_refl _, Kd.C_nil d w⟩
  · have each : ∀ i, i < len → ∃ y, ∃ cs', w.cells? base (a.add (i * d.sz)) d.sz = some cs' ∧ d.K w y cs' := by
      intro i hil
      have him : i < m := by rw [hmm]; split <;> omega
      obtain ⟨cs', h1, h2⟩ := hi i him
      obtain ⟨y, hy⟩ := h H enc w base spare held n cs' _ h2
      rw [hc] at h1
      exact ⟨y, cs', h1, hy⟩
    obtain ⟨ys, hlen, hys⟩ := pick_list len each
    refine ⟨ys, some a, cap, by rw [hlen], by omega, rfl, ?_, fun _ => ⟨a, rfl, fun j p hj => ?_⟩⟩
    · unfold maxLen at hm; omega
    · obtain ⟨cs', h1, h2⟩ := hys j p hj
      obtain ⟨_, h3, h4⟩ := World.cells?_some h1
      refine ⟨cs', h3, h2, fun i u hu => ?_⟩
      have hil : i < d.sz := by rw [← h3]; exact (List.getElem?_eq_some_iff.1 hu).1
      rw [← hu, ← h4 i hil, Go.Deep.add_add]
theorem opens_struct2 {P : Program} {t : TypeId} {f0 f1 : Field} {α : Type} (hs : P.underlying t = some (.struct #[f0, f1])) (hone : oneCellFields P #[f0, f1] = true) (hC : P.cellsOf t = 2)
    (h0 : P.underlying f0.type = some (.int .i64)) (h1 : P.underlying f1.type = some (.int .i64)) (d : Kd α) (mk : Int → Int → α) (hK : ∀ w a b, d.K w (mk a b) [.int .i64 a, .int .i64 b]) : Opens P t d := by
  intro H enc w base spare held fuel cs x h
  obtain ⟨y0, y1, n, hx, hl, g0, g1⟩ := trod_struct2 hs h
  obtain ⟨o0, k0⟩ := hone_of hone 0 f0 rfl
  obtain ⟨o1, k1⟩ := hone_of hone 1 f1 rfl
  rw [hC] at hl
  match cs, hl with
  | [c0, c1], _ =>
    rw [o0, k0] at g0
    rw [o1, k1] at g1
    obtain ⟨a, e0, _, _⟩ := DataW.trod_int h0 g0
    obtain ⟨b, e1, _, _⟩ := DataW.trod_int h1 g1
    simp at e0 e1
    subst e0 e1
    exact ⟨mk a b, hK w a b⟩
section
variable {H : Type} {enc : TypeId × Value → H} {P : Program} {w : World} {base : Nat} {spare : Nat → Bool} {held : Bool}
theorem array1 {α : Type} {cs : Array α} (h : cs.size = 1) : ∃ c0, cs = #[c0] := by
  obtain ⟨l⟩ := cs
  match l, h with
  | [c0], _ => exact ⟨c0, rfl⟩
/-- A struct that holds one slice, by value. -/
theorem open_agg1 {r : Reach} {b0 : Nat} {t e : TypeId} {f0 : Field} {α : Type} {d : Kd α} {v : Value} {D : DataW H} {p : List MemPlace} (hs : P.underlying t = some (.struct #[f0])) (hone : oneCellFields P #[f0] = true) (hC : P.cellsOf t = 1)
    (ho : Opens P f0.type (Kd.slice e d)) (hv : Value.okWide P w r b0 t v) (h : DataW.Trod enc P w base spare held t v D p) :
    ∃ (A : Option Addr) (c : Nat) (l : List α), v = .agg #[.slice A l.length c] ∧ l.length ≤ c ∧ d.C w A l.length l := by
  obtain ⟨cs, rfl, hsz⟩ := okWide_struct hs hv
  obtain ⟨c0, rfl⟩ := array1 (hsz.trans hC)
  obtain ⟨fuel, hf⟩ := h
  obtain ⟨y0, n, hx, _, h0⟩ := trod_struct1 hs hf
  obtain ⟨o0, k0⟩ := hone_of hone 0 f0 rfl
  have h0' : DataW.trod enc P w base spare held n f0.type [c0] = some y0 := by simpa [Value.cells, o0, k0] using h0
  obtain ⟨l, A, c, e1, hl, hCC⟩ := ho H enc w base spare held n _ _ h0'
  simp at e1
  subst e1
  exact ⟨A, c, l, rfl, hl, hCC⟩
end
theorem fits_of_C {e : Nat} {α : Type} {d : Kd α} {w : World} {A : Option Addr} {l : List (List α)} (h : (Kd.slice e d).C w A l.length l) : l.length ≤ 9223372036854775807 ∧ ∀ r ∈ l, r.length ≤ 9223372036854775807 := by
  refine ⟨h.2.1, fun r hr => ?_⟩
  obtain ⟨j, hj, rfl⟩ := List.mem_iff_getElem.1 hr
  obtain ⟨ad, _, hc⟩ := h.2.2 (by omega)
  obtain ⟨c, _, hK, _⟩ := hc j _ (List.getElem?_eq_getElem hj)
  obtain ⟨A', c', _, _, hC⟩ := hK
  exact hC.2.1
end Go.Proofs.Ytfaagdpopmnnpaa.Lib

-- Printed by a program of this session (drv.py), by means of the kit's print.py.
namespace Go.Proofs.Ytfaagdpopmnnpaa.fnExactIsOriented
open Go.ChangeShapes Go.WideShapes Go.ChangeAt Go.RowKit Go.Proofs.Ytfaagdpopmnnpaa.Lib Go.Proofs.YtfaagdpopmnnpaaW.PrintWords Go.Proofs.Ytfaagdpopmnnpaa.P
open Go.ChangeMaps (open_string shut_string)
set_option linter.unusedVariables false
theorem own : ownKnob Try.prog.godebug = none := by kernel_rfl
theorem laidOut : laidOutB Try.prog = true := by kernel_rfl
set_option maxRecDepth 100000 in
theorem lifted (os : Os) (started : os.Started) (H : Type) (enc : TypeId × Value → H) :
    ReturnsInHanded {} Try.checked os 3 .any (Rows.fnExactIsOrientedSpec.pre6 enc Try.prog Try.f3 Rows.fnExactIsOrientedRow.domain false) (Rows.fnExactIsOrientedSpec.post enc Try.prog Try.f3 false true false false) := by
  refine returnsInHanded_of_change_sized (C := Try.checked) own started (by kernel_rfl) Try.func3
    (ChangeSpec.witness6 (enc := enc) (C := Try.checked) false ⟨#[], #[.agg #[.slice none 0 0]], []⟩ 8 (by kernel_rfl) (by kernel_rfl) (by kernel_rfl) (by kernel_rfl)) ?_
  intro W base args ds gs before hval0 hW hcnd hsz0 _
  have hval : ∀ (j : Nat) t v, Try.f3.params[j]? = some t → args[j]? = some v → Value.okWide Try.prog W .any base t v := hval0
  have hW' := hW
  obtain ⟨p, q, hA0, hV, rfl, hfz, hnd⟩ := hW
  have hA : DataW.TrodAll enc Try.prog W 0 (fun _ => true) true Try.f3.params.toList args.toList ds p := hA0
  rw [Try.params3] at hA hval
  obtain ⟨v0, vs0, d0, ds0, p0, q0, hargs, rfl, rfl, h0, r0⟩ := trodAll_cons hA
  obtain ⟨rfl, rfl, rfl⟩ := trodAll_nil r0
  obtain rfl : args = #[v0] := by cases args; simp_all
  obtain ⟨rfl, rfl⟩ := trodVars_none hV
  have k0 := h0
  have lt0 : ∀ x ∈ p0, x.block < W.heap.size := by obtain ⟨m, hm⟩ := k0; exact DataW.trod_lt m _ _ _ hm
  obtain ⟨A0, c0, l0, rfl, hl0, hC0⟩ := open_agg1 Try.underlying24 (by kernel_rfl) (by kernel_rfl) (opens_slice Try.underlying22 (by kernel_rfl) (opens_slice Try.underlying109 (by kernel_rfl) (opens_struct2 Try.underlying135 (by kernel_rfl) (by kernel_rfl) Try.underlying2 Try.underlying2 kLawFace (fun a b => (⟨a, b⟩ : SLawFace)) (fun w a b => kLawFace_mk w ⟨a, b⟩)))) (hval 0 24 v0 rfl rfl) h0
  obtain ⟨k, hk⟩ := Pure.FnExactIsOriented l0 (fits_of_C hC0)
  refine (laws_FnExactIsOriented.calls k _ _ l0 true W hC0 hl0 hk).mono fun e W' ⟨he, bel⟩ => ?_
  subst he
  exact ⟨_, rfl, _, _, _, [], _, [], hW', trodAll_mk1 (shut_bool Try.underlying4 _), (trodAll_cons_mk (Below.trod laidOut (by kernel_rfl) (of_decide_eq_true (by kernel_rfl)) k0 bel lt0) trodAll_mk0), rfl, bel.frame _, fun h => by cases h⟩
theorem over : Rows.fnExactIsOrientedRow.holds Try.pinned (OpenSpec.ofChange Rows.fnExactIsOrientedSpec) :=
  OpenClaim.holds_of_wide 3 Try.f3 rfl rfl rfl rfl rfl rfl rfl ⟨rfl, rfl, rfl, rfl, rfl⟩ rfl rfl rfl rfl rfl (by kernel_rfl) Try.func3 (by kernel_rfl)
    (of_decide_eq_true (by kernel_rfl)) (by unfold Func.isWrapper; first | (rw [if_pos (by decide +kernel)]; kernel_rfl) | (rw [if_neg (by decide +kernel)]; exact ⟨rfl, rfl⟩))
    (fun os started H enc _ => lifted os started H enc)
theorem proved : Rows.FnExactIsOrientedSaid := over
#print axioms proved
end Go.Proofs.Ytfaagdpopmnnpaa.fnExactIsOriented
namespace Go.Proofs.Ytfaagdpopmnnpaa
/-- The row, under a short name, for the claim. -/
theorem fnExactIsOriented_holds : Rows.FnExactIsOrientedSaid := fnExactIsOriented.proved
end Go.Proofs.Ytfaagdpopmnnpaa
