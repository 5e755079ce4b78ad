/- The statement FnGluingSaid, proved: part 3 of 8 (texts of this session and of the kit's print, put together and cut to what is used by a program of it). -/
import Derived.Test.YtebehapafpmgbaaMFnGluing2
import Derived.Shelf.Bits.Mul64
import Derived.Laws.CopyOwn
namespace Go.Proofs.Ytebehapafpmgbaa.P
open Go.RowKit Go.Proofs.YtebehapafpmgbaaW.PrintWords Go.Proofs.YtebehapafpmgbaaW.PrintLast Go.Proofs.YtebehapafpmgbaaW.PrintMore
attribute [local go_sem] max2_int min2_int max_two min_two max_three min_three max_four min_four   -- for this text's walks alone
set_option linter.unusedVariables false
set_option linter.unusedSimpArgs false
/-! ### impl_copyTriangulation: function 77 -/
def impl_copyTriangulation.l0 : Nat → List (List (SFace)) → Int → Int → List (List (SFace)) → Option ((List (List (SFace))))
 | 0, _, _, _, _ => none
 | k + 1, x7, x8, x9, x104000 => if x9 < x8 then (if 0 ≤ x9 then (if x9 < (x7.length : Int) then ((slices_Clone_Simpl_Face.f (rd_LFace x7 x9)).bind fun t105 => (if x104000.length < 5864062014805 then (impl_copyTriangulation.l0 k x7 x8 (wrap64 (x9 + 1)) (x104000 ++ [t105])) else (none))) else (none)) else (none)) else (some x104000)
def impl_copyTriangulation.f (k : Nat) (l0_0 : List (List (SFace))) : Option ((List (List (SFace)))) := impl_copyTriangulation.l0 k l0_0 (l0_0.length : Int) 0 ([] : List (List (SFace)))
def impl_copyTriangulation.T5 : Bool × List (List Nat × List Nat) := (true, [([], []), ([0], [0]), ([], []), ([2], [2]), ([3], [3]), ([1, 4, 3], [1, 4]), ([0, 1, 2, 3, 4, 5], []), ([6, 5, 5, 0, 1, 2, 3, 4, 5], [5, 6])])
def impl_copyTriangulation.B5 : List Nat := [0, 1, 0, 4, 12, 31, 63, 127]
theorem impl_copyTriangulation.tab5 : rtab .any (opsOf Try.f77 5) = impl_copyTriangulation.T5 := by kernel_rfl
theorem impl_copyTriangulation.bits5 : waitsOk impl_copyTriangulation.T5.2 impl_copyTriangulation.B5 = true := by kernel_rfl
set_option maxHeartbeats 8000000 in
set_option maxRecDepth 100000 in
theorem impl_copyTriangulation.calls (k : Nat) (A0_0 : Option Addr) (c0_0 : Nat) (l0_0 : List (List (SFace))) (r : List (List (SFace))) (w : World) (hr0_0 : Kd.C (Kd.slice 47 kFace) w A0_0 l0_0.length l0_0) (hc0_0 : l0_0.length ≤ c0_0) (h : impl_copyTriangulation.f k l0_0 = some r) :
 Calls Try.prog 77 #[.agg #[.slice A0_0 l0_0.length c0_0]] w fun e w' => ∃ v0_ : Value, e = .returned (.agg #[v0_]) ∧ Kd.S (Kd.slice 47 kFace) 48 w' w.heap.size (fun _ => True) v0_ r ∧ Below w.heap.size w w' := by
 have hu30 := Try.underlying30
 have HR0_0 := Aside0.mk hr0_0
 have HC0_0 := Aside0.mk hc0_0
 clear hr0_0 hc0_0
 have HB := Aside0.mk (Below.refl w.heap.size w)
 have H : (impl_copyTriangulation.l0 k l0_0 (l0_0.length : Int) 0 ([] : List (List (SFace)))) = some r := h
 clear h
 have H' := Aside0.mk H
 clear H
 go_enter Try.func77, Try.ntmps77
 go_wp2_with (first | ((with_reducible refine gate_dst (N := 1) rfl ?_); refine box_event ?hg (N := 1) ?hd (cs := #[.slice A0_0 l0_0.length c0_0]) (t := 30) ?hr ?_; (case hd => rfl); (case hg => rfl); (case hr => first | (go_simp; done) | (go_simp; rfl)); intro gb101 hg w2 hbox hb; have n0_ := Aside0.mk (below_step (by repeat (first | (with_reducible first | exact HB.out | apply below_alloc | apply pw_below_drewN | apply below_drew1) | exact HB.out)) hb); have n1_ := Aside0.mk (hbox); have n2_ := Aside0.mk ((by rw [hg]; exact (below_size (by repeat (first | (with_reducible first | exact HB.out | apply below_alloc | apply pw_below_drewN | apply below_drew1) | exact HB.out))) : w.heap.size ≤ gb101)); have n3_ := Aside0.mk ((by rw [hg]; exact (below_size (by repeat (first | (with_reducible first | exact HB.out | apply below_alloc | apply pw_below_drewN | apply below_drew1) | exact HB.out))) : w.heap.size ≤ gb101)); clear HB; have HB := n0_; have BK101 := n1_; have GW101 := n2_; have GE101 := n3_; clear n0_ n1_ n2_ n3_; clear hb hbox hg) | ((with_reducible refine gate_dst (N := 2) rfl ?_); refine box_event ?hg (N := 2) ?hd (cs := #[.slice none 0 0]) (t := 30) ?hr ?_; (case hd => rfl); (case hg => rfl); (case hr => first | (go_simp; done) | (go_simp; rfl)); intro gb102 hg w3 hbox hb; have n0_ := Aside0.mk (blk_below (g := gb101) (o := .cells #[.slice A0_0 l0_0.length c0_0] 30 (0, 0)) (by (with_reducible repeat (first | refine blk_drewN ?_ _ | refine blk_drew ?_ | refine blk_alloc ?_ _)); exact BK101.out) hb); have n1_ := Aside0.mk (below_step (by repeat (first | (with_reducible first | exact HB.out | apply below_alloc | apply pw_below_drewN | apply below_drew1 | refine below_set ?_ GE101.out) | exact HB.out)) hb); have n2_ := Aside0.mk (hbox); have n3_ := Aside0.mk ((by rw [hg]; exact (below_size (by repeat (first | (with_reducible first | exact HB.out | apply below_alloc | apply pw_below_drewN | apply below_drew1 | refine below_set ?_ GE101.out) | exact HB.out))) : w.heap.size ≤ gb102)); have n4_ := Aside0.mk ((by rw [hg]; exact (below_size (by repeat (first | (with_reducible first | exact HB.out | apply below_alloc | apply pw_below_drewN | apply below_drew1 | refine below_set ?_ GE101.out) | exact HB.out))) : w.heap.size ≤ gb102)); have n5_ := Aside0.mk ((by rw [hg]; exact Nat.ne_of_lt (blk_lt (g := gb101) (o := .cells #[.slice A0_0 l0_0.length c0_0] 30 (0, 0)) (by (with_reducible repeat (first | refine blk_drewN ?_ _ | refine blk_drew ?_ | refine blk_alloc ?_ _)); exact BK101.out)) : gb101 ≠ gb102)); have n6_ := Aside0.mk ((by rw [hg]; exact Nat.ne_of_gt (blk_lt (g := gb101) (o := .cells #[.slice A0_0 l0_0.length c0_0] 30 (0, 0)) (by (with_reducible repeat (first | refine blk_drewN ?_ _ | refine blk_drew ?_ | refine blk_alloc ?_ _)); exact BK101.out)) : gb102 ≠ gb101)); clear BK101; clear HB; have BK101 := n0_; have HB := n1_; have BK102 := n2_; have GW102 := n3_; have GE102 := n4_; have NB101_102 := n5_; have NB102_101 := n6_; clear n0_ n1_ n2_ n3_ n4_ n5_ n6_; clear hb hbox hg) | ((with_reducible refine gate_dst (N := 3) rfl ?_); refine box_event ?hg (N := 3) ?hd (cs := #[.slice none 0 0]) (t := 30) ?hr ?_; (case hd => rfl); (case hg => rfl); (case hr => first | (go_simp; done) | (go_simp; rfl)); intro gb103 hg w4 hbox hb; have n0_ := Aside0.mk (blk_below (g := gb101) (o := .cells #[.slice A0_0 l0_0.length c0_0] 30 (0, 0)) (by (with_reducible repeat (first | refine blk_drewN ?_ _ | refine blk_drew ?_ | refine blk_alloc ?_ _)); exact BK101.out) hb); have n1_ := Aside0.mk (blk_below (g := gb102) (o := .cells #[.slice none 0 0] 30 (0, 0)) (by (with_reducible repeat (first | refine blk_drewN ?_ _ | refine blk_drew ?_ | refine blk_alloc ?_ _)); exact BK102.out) hb); have n2_ := Aside0.mk (below_step (by repeat (first | (with_reducible first | exact HB.out | apply below_alloc | apply pw_below_drewN | apply below_drew1 | refine below_set ?_ GE101.out | refine below_set ?_ GE102.out) | exact HB.out)) hb); have n3_ := Aside0.mk (hbox); have n4_ := Aside0.mk ((by rw [hg]; exact (below_size (by repeat (first | (with_reducible first | exact HB.out | apply below_alloc | apply pw_below_drewN | apply below_drew1 | refine below_set ?_ GE101.out | refine below_set ?_ GE102.out) | exact HB.out))) : w.heap.size ≤ gb103)); have n5_ := Aside0.mk ((by rw [hg]; exact (below_size (by repeat (first | (with_reducible first | exact HB.out | apply below_alloc | apply pw_below_drewN | apply below_drew1 | refine below_set ?_ GE101.out | refine below_set ?_ GE102.out) | exact HB.out))) : w.heap.size ≤ gb103)); have n6_ := Aside0.mk ((by rw [hg]; exact Nat.ne_of_lt (blk_lt (g := gb101) (o := .cells #[.slice A0_0 l0_0.length c0_0] 30 (0, 0)) (by (with_reducible repeat (first | refine blk_drewN ?_ _ | refine blk_drew ?_ | refine blk_alloc ?_ _)); exact BK101.out)) : gb101 ≠ gb103)); have n7_ := Aside0.mk ((by rw [hg]; exact Nat.ne_of_gt (blk_lt (g := gb101) (o := .cells #[.slice A0_0 l0_0.length c0_0] 30 (0, 0)) (by (with_reducible repeat (first | refine blk_drewN ?_ _ | refine blk_drew ?_ | refine blk_alloc ?_ _)); exact BK101.out)) : gb103 ≠ gb101)); have n8_ := Aside0.mk ((by rw [hg]; exact Nat.ne_of_lt (blk_lt (g := gb102) (o := .cells #[.slice none 0 0] 30 (0, 0)) (by (with_reducible repeat (first | refine blk_drewN ?_ _ | refine blk_drew ?_ | refine blk_alloc ?_ _)); exact BK102.out)) : gb102 ≠ gb103)); have n9_ := Aside0.mk ((by rw [hg]; exact Nat.ne_of_gt (blk_lt (g := gb102) (o := .cells #[.slice none 0 0] 30 (0, 0)) (by (with_reducible repeat (first | refine blk_drewN ?_ _ | refine blk_drew ?_ | refine blk_alloc ?_ _)); exact BK102.out)) : gb103 ≠ gb102)); clear BK101; clear BK102; clear HB; have BK101 := n0_; have BK102 := n1_; have HB := n2_; have BK103 := n3_; have GW103 := n4_; have GE103 := n5_; have NB101_103 := n6_; have NB103_101 := n7_; have NB102_103 := n8_; have NB103_102 := n9_; clear n0_ n1_ n2_ n3_ n4_ n5_ n6_ n7_ n8_ n9_; clear hb hbox hg; have hnb5 := NB101_102.out; have hnc5 := NB102_101.out; have hnb6 := NB101_103.out; have hnc6 := NB103_101.out; have hcz7_0 : w4.cell? ⟨gb101, 0, none⟩ = some (.slice A0_0 l0_0.length c0_0) := (blk_cell BK101.out 0).trans rfl; have hfz7_0 := blk_frozen BK101.out 0))
 go_loopg [9] k (fun kq v9 w' => ∃ (x9_1 : Int) (x104000_1 : List (List (SFace))) (u104000 : Value), v9 = .int .i64 x9_1 ∧ Aside0 (impl_copyTriangulation.l0 kq l0_0 (l0_0.length : Int) x9_1 x104000_1 = some r) ∧ Aside0 (kq ≤ k) ∧ Aside0 (Kd.S (Kd.slice 47 kFace) 48 w' w.heap.size (fun _ => True) u104000 x104000_1) ∧ Aside0 (w'.heap[gb101]? = some (.cells #[(.slice A0_0 l0_0.length c0_0)] 30 (0, 0))) ∧ Aside0 (w'.heap[gb102]? = some (.cells #[(.slice none 0 0)] 30 (0, 0))) ∧ Aside0 (w'.heap[gb103]? = some (.cells #[u104000] 30 (0, 0))) ∧ Aside0 (Below w.heap.size w w'))
 case atStart => exact ⟨(0), (([] : List (List (SFace)))), (.slice none 0 0), (by first | rfl | (simp; done) | (simp [*]; done)), H', ⟨yoy _⟩, ⟨by first | exact Kd.S_nil _ _ _ _ _ | exact Kd.N_nil _ _ _ _ _ | exact Kd.V_nil _ _ _ _ _ | exact Kd.Q_nil _ _ _ _ _ | exact Kd.R_nil _ _ _ _ _⟩, ⟨by (with_reducible repeat (first | refine blk_drewN ?_ _ | refine blk_drew ?_ | refine blk_alloc ?_ _)); exact BK101.out⟩, ⟨by (with_reducible repeat (first | refine blk_drewN ?_ _ | refine blk_drew ?_ | refine blk_alloc ?_ _)); exact BK102.out⟩, ⟨by (with_reducible repeat (first | refine blk_drewN ?_ _ | refine blk_drew ?_ | refine blk_alloc ?_ _)); exact BK103.out⟩, ⟨by repeat (first | (with_reducible first | exact HB.out | apply below_alloc | apply pw_below_drewN | apply below_drew1 | refine below_set ?_ GE101.out | refine below_set ?_ GE102.out | refine below_set ?_ GE103.out) | exact HB.out)⟩⟩
 case round =>
  clear H'
  try clear p2
  try clear c5
  try clear c6
  try clear c7
  try clear hcz7_0
  try clear hfz7_0
  obtain ⟨x9_1, x104000_1, u104000, rfl, HA, HK1, HO_104000, BK101, BK102, BK103, HB⟩ := hrel
  cases gk with
  | zero => exact absurd HA.out (by simp [impl_copyTriangulation.l0])
  | succ k1 =>
   have H := HA.out
   clear HA
   simp only [impl_copyTriangulation.l0] at H
   by_cases c8 : x9_1 < (l0_0.length : Int)
   rotate_left
   next =>
    rw [if_neg c8] at H
    have c8b0 : decide (x9_1 < (l0_0.length : Int)) = false := yhy c8
    clear c8
    obtain rfl := yey H
    have hnb19 := NB103_101.out
    have hnc19 := NB101_103.out
    have hnb20 := NB103_102.out
    have hnc20 := NB102_103.out
    have hcz21_0 : wr.cell? ⟨gb103, 0, none⟩ = some (u104000) := (blk_cell BK103.out 0).trans rfl
    have hfz21_0 := blk_frozen BK103.out 0
    obtain ⟨Ao22, co22, eo22⟩ := Kd.S_slice HO_104000.out
    subst eo22
    have hnb23 := NB102_101.out
    have hnc23 := NB101_102.out
    have hcz24_0 : wr.cell? ⟨gb102, 0, none⟩ = some (.slice none 0 0) := (blk_cell BK102.out 0).trans rfl
    have hfz24_0 := blk_frozen BK102.out 0
    go_wp2
    refine bodyPost_ret (results_cell_row rfl _ _ gb102 30 #[.slice Ao22 x104000_1.length co22] (0, 0) _ rfl (by (with_reducible repeat (first | refine blk_drewN ?_ _ | refine blk_drew ?_ | refine blk_alloc ?_ _)); refine blk_put (cs := #[.slice none 0 0]) ?_ 0 _ rfl; (with_reducible repeat (first | refine blk_drewN ?_ _ | refine blk_drew ?_ | refine blk_alloc ?_ _)); exact BK102.out) Try.underlying30 rfl (by kernel_rfl)) rfl ?_
    exact ⟨_, by first | rfl | (simp [errW_none, errW_some] <;> rfl) | (simp [*, errW_none, errW_some] <;> rfl), by (with_reducible repeat (first | apply Kd.S_alloc | apply Kd.S_drewN | apply Kd.S_drew)); exact Kd.S_mono (Kd.S_far (p := ⟨gb102, 0, none⟩) (Kd.S_types HO_104000.out BK102.out (by decide)) (fun _ hk => hk.2) (.slice Ao22 x104000_1.length co22)) (fun _ hk => trivial), by repeat (first | (with_reducible first | exact HB.out | apply below_alloc | apply pw_below_drewN | apply below_drew1 | refine below_set ?_ GE101.out | refine below_set ?_ GE102.out | refine below_set ?_ GE103.out) | exact HB.out)⟩
   rw [if_pos c8] at H
   have c8b0 : decide (x9_1 < (l0_0.length : Int)) = true := ygy c8
   clear c8
   by_cases c9 : 0 ≤ x9_1
   rotate_left
   next =>
    rw [if_neg c9] at H
    exact absurd H (by simp)
   rw [if_pos c9] at H
   have c9b0 : decide (0 ≤ x9_1) = true := ygy c9
   clear c9
   by_cases c10 : x9_1 < (l0_0.length : Int)
   rotate_left
   next =>
    rw [if_neg c10] at H
    exact absurd H (by simp)
   rw [if_pos c10] at H
   have c10b0 : decide (x9_1 < (l0_0.length : Int)) = true := ygy c10
   clear c10
   replace H := ydy.mp H
   obtain ⟨t105, A110, H⟩ := H
   replace H : (if x104000_1.length < 5864062014805 then (impl_copyTriangulation.l0 k1 l0_0 (l0_0.length : Int) (wrap64 (x9_1 + 1)) (x104000_1 ++ [t105])) else (none)) = some r := H
   have A11 := Aside0.mk A110
   clear A110
   by_cases c12 : x104000_1.length < 5864062014805
   rotate_left
   next =>
    rw [if_neg c12] at H
    exact absurd H (by simp)
   rw [if_pos c12] at H
   have LMc12 := Aside0.mk c12
   clear c12
   obtain ⟨y108, hy108⟩ : ∃ y_ : List (List (SFace)), y_ = (x104000_1 ++ [t105]) := ⟨_, rfl⟩
   replace H : (impl_copyTriangulation.l0 k1 l0_0 (l0_0.length : Int) (wrap64 (x9_1 + 1)) y108) = some r := by first | (rw [hy108]; with_reducible exact H) | (have H2_ := (yfy _ _).symm.trans H; rw [hy108]; with_reducible exact H2_) | (have H2_ := (yfy _ _).symm.trans H; with_reducible exact H2_) | with_reducible exact H | (rw [hy108]; exact H) | exact H
   have Ny108 := Aside0.mk hy108
   clear hy108
   have H' := Aside0.mk H
   clear H
   have p104 : 0 ≤ (x9_1 : Int) := of_decide_eq_true (by first | (with_reducible assumption) | assumption)
   have q104 : x9_1 < (l0_0.length : Int) := of_decide_eq_true (by first | (with_reducible assumption) | assumption)
   obtain ⟨ad104, A104_0, c104_0, e104, hx104_0, hl104_0, hi104_0⟩ := at_LFace HR0_0.out x9_1 p104 q104
   cases e104
   replace hx104_0 := (HB.out.cell (yny w _ hx104_0)).trans hx104_0
   have HR104_0 := Aside0.mk hi104_0
   have HC104_0 := Aside0.mk hl104_0
   clear hi104_0 hl104_0
   replace p104 := eq_true p104
   replace q104 := eq_true q104
   try go_wp2
   have n0_ := Aside0.mk (Kd.S_drew HO_104000.out)
   have n1_ := Aside0.mk (blk_drew BK101.out)
   have n2_ := Aside0.mk (blk_drew BK102.out)
   have n3_ := Aside0.mk (blk_drew BK103.out)
   have n4_ := Aside0.mk (below_drew1 HB.out)
   clear HO_104000
   clear BK101
   clear BK102
   clear BK103
   clear HB
   have HO_104000 := n0_
   have BK101 := n1_
   have BK102 := n2_
   have BK103 := n3_
   have HB := n4_
   clear n0_ n1_ n2_ n3_ n4_
   refine start_ (n := 8) (S := fun w' => w'.cell? ⟨gb103, 0, none⟩ = some (u104000)) (ds := [7]) #[false, false, false, false, false, false, false, false] (by kernel_rfl) rfl rfl ((blk_cell BK103.out 0).trans rfl) (fun hHeld => ?_); refine with_tabW impl_copyTriangulation.tab5 impl_copyTriangulation.bits5 (fun HT_ HW_ => ?_)
   generalize wr.drew = w13 at HO_104000 BK101 BK102 BK103 HB hHeld ⊢
   refine pure_ (i := 0) (N := some 13) (v := ?_) (a' := ?_) #[true, false, false, false, false, false, false, false] rfl rfl (any_of HT_.out (by kernel_rfl)) (fun _ _ _ h => h) (Or.inl ⟨by rfl, ?_⟩) ?_ ?_
   rotate_left
   next =>
    intro w'
    go_simp
    with_reducible rfl
   rotate_left
   next =>
    simp only [Act.put, yay, yby, ycy, i64_w, i32_w]
    rfl
   refine pure_ (i := 2) (N := some 15) (v := ?_) (a' := ?_) #[true, false, true, false, false, false, false, false] rfl rfl (any_of HT_.out (by kernel_rfl)) (fun _ _ _ h => h) (Or.inl ⟨by rfl, ?_⟩) ?_ ?_
   rotate_left
   next =>
    intro w'
    go_simp
    with_reducible rfl
   rotate_left
   next =>
    simp only [Act.put, yay, yby, ycy, i64_w, i32_w]
    rfl
   refine take_ (i := 1) (N := some 14) (v := ?_) (a' := ?_) #[true, true, true, false, false, false, false, false] rfl rfl (take_ofW HT_.out HW_.out (by kernel_rfl)) (fun _ _ _ h => h) (Or.inl ⟨by rfl, ?_⟩) hHeld ?_ ?_
   rotate_left
   next =>
    intro w' s0
    go_simp
    with_reducible rfl
   rotate_left
   next =>
    simp only [Act.put, yay, yby, ycy, i64_w, i32_w]
    rfl
   refine one_ (i := 3) (N := some 16) #[true, true, true, true, false, false, false, false] rfl rfl (one_of HT_.out (by kernel_rfl)) (by decide) (fun K hK => ?_)
   refine goes_ Try.func85 (by kernel_rfl) rfl #[.slice A104_0 (rd_LFace l0_0 x9_1).length c104_0] (by rfl) rfl rfl (by (try simp only [yiy, yjy, yky]); first | done | rfl | (simp only [yly, ymy]; rfl)) ?_
   with_reducible refine (slices_Clone_Simpl_Face.calls _ _ (rd_LFace l0_0 x9_1) t105 _ ?side1 ?side2 A11.out).mono ?_
   (case side1 => repeat (first | exact (Kd.C_below HR104_0.out HB.out) | (with_reducible refine Kd.C_alloc ?_ _) | (with_reducible refine Kd.C_drewN ?_ _) | (with_reducible refine Kd.C_drew ?_)))
   (case side2 => exact HC104_0.out)
   rintro e w14 ⟨v106, rfl, ho0, hb⟩
   refine ⟨_, rfl, ?_⟩
   have n0_ := Aside0.mk (Kd.S_elder' (by (with_reducible repeat (first | apply Kd.S_alloc | apply Kd.S_drewN | apply Kd.S_drew)); exact HO_104000.out) (Kd.R_base ho0) hb)
   have n1_ := Aside0.mk (Kd.R_lower ho0 (below_size (by repeat (first | (with_reducible first | exact HB.out | apply below_alloc | apply pw_below_drewN | apply below_drew1 | refine below_set ?_ GE101.out | refine below_set ?_ GE102.out | refine below_set ?_ GE103.out) | exact HB.out))))
   have n2_ := Aside0.mk (blk_below (g := gb101) (o := .cells #[.slice (some ad104) l0_0.length c0_0] 30 (0, 0)) (by (with_reducible repeat (first | refine blk_drewN ?_ _ | refine blk_drew ?_ | refine blk_alloc ?_ _)); exact BK101.out) hb)
   have n3_ := Aside0.mk (blk_below (g := gb102) (o := .cells #[.slice none 0 0] 30 (0, 0)) (by (with_reducible repeat (first | refine blk_drewN ?_ _ | refine blk_drew ?_ | refine blk_alloc ?_ _)); exact BK102.out) hb)
   have n4_ := Aside0.mk (blk_below (g := gb103) (o := .cells #[u104000] 30 (0, 0)) (by (with_reducible repeat (first | refine blk_drewN ?_ _ | refine blk_drew ?_ | refine blk_alloc ?_ _)); exact BK103.out) hb)
   have n5_ := Aside0.mk (below_step (by repeat (first | (with_reducible first | exact HB.out | apply below_alloc | apply pw_below_drewN | apply below_drew1 | refine below_set ?_ GE101.out | refine below_set ?_ GE102.out | refine below_set ?_ GE103.out) | exact HB.out)) hb)
   clear HO_104000
   clear BK101
   clear BK102
   clear BK103
   clear HB
   have HO_104000 := n0_
   have HO107 := n1_
   have BK101 := n2_
   have BK102 := n3_
   have BK103 := n4_
   have HB := n5_
   clear n0_ n1_ n2_ n3_ n4_ n5_
   (try clear hb)
   (try clear hb2)
   (try clear hk)
   (try clear hi)
   (try clear ho0)
   obtain ⟨Ao16, co16, eo16⟩ := Kd.R_slice HO107.out
   (first | subst eo16 | (injection eo16 with f1_ f2_ f3_; have f4_ := f1_.symm; have f5_ := f3_.symm; clear f1_ f2_ f3_; subst f4_; subst f5_))
   refine hK.out _ _ ((blk_cell BK103.out 0).trans rfl) (fun hHeld => ?_)
   clear hK K
   refine norm_ (a' := ?_) ?_ ?_
   rotate_left
   next =>
    show Act.put _ (some 16) _ = _
    simp only [Act.put, yay, yby, ycy, i64_w, i32_w]
    rfl
   refine one_ (i := 4) (N := some 17) #[true, true, true, true, true, false, false, false] rfl rfl (one_of HT_.out (by kernel_rfl)) (by decide) (fun K hK => ?_)
   refine value_ (w1 := ?_) (v := ?_) (by rfl) rfl ?_ ?_
   rotate_left 2
   next =>
    go_simp
    constructor
    next =>
     rfl
    next =>
     rfl
   refine hK.out _ _ ((blk_cell (blk_alloc BK103.out _) 0).trans rfl) (fun hHeld => ?_)
   clear hK K
   refine norm_ (a' := ?_) ?_ ?_
   rotate_left
   next =>
    show Act.put _ (some 17) _ = _
    simp only [Act.put, yay, yby, ycy, i64_w, i32_w]
    rfl
   refine one_ (i := 5) (N := some 18) #[true, true, true, true, true, true, false, false] rfl rfl (one_of HT_.out (by kernel_rfl)) (by decide) (fun K hK => ?_)
   refine Kd.S_append_step (Kd.slice 47 kFace) (w0 := w) w.heap.size (by rfl) (.tmp 14) (.tmp 17) 28 48 (.slice none 0 0) 24 rfl Try.underlying28 info48 rfl (by decide) (by omega) u104000 x104000_1 t105 [.slice Ao16 t105.length co16] (fun _ => True) (fun k_ => some k_ = (.slice Ao16 t105.length co16 : Value).ownBlock) rfl rfl ?aP (fun k_ hk_ => ((Kd.R_mono (ok' := fun k_ => ((fun _ => True)) k_ ∧ some k_ ≠ (u104000 : Value).ownBlock) (Kd.R_apart' (HO107.out) (Kd.S_typed HO_104000.out) (by decide)) (fun k_ hk => ⟨trivial, hk.2⟩))).1 k_ hk_.symm) ?aF ?aO ?aB ?aS ?aL ?_
   (case aP => exact Kd.M_row (Kd.R_mono (Kd.R_tight rfl (Kd.R_mono (ok' := fun k_ => ((fun _ => True)) k_ ∧ some k_ ≠ (u104000 : Value).ownBlock) (Kd.R_apart' (HO107.out) (Kd.S_typed HO_104000.out) (by decide)) (fun k_ hk => ⟨trivial, hk.2⟩))) (fun _ h_ => h_)))
   (case aB => exact (by repeat (first | (with_reducible first | exact HB.out | apply below_alloc | apply pw_below_drewN | apply below_drew1 | refine below_set ?_ GE101.out | refine below_set ?_ GE102.out | refine below_set ?_ GE103.out) | exact HB.out)))
   (case aF => exact (fun _ _ => trivial))
   (case aO => exact (by (with_reducible repeat (first | apply Kd.S_alloc | apply Kd.S_drewN | apply Kd.S_drew)); exact Kd.S_mono HO_104000.out (fun k_ hk => ⟨trivial, fun e_ => hk.2 e_⟩)))
   (case aS => exact (below_size (by repeat (first | (with_reducible first | exact HB.out | apply below_alloc | apply pw_below_drewN | apply below_drew1 | refine below_set ?_ GE101.out | refine below_set ?_ GE102.out | refine below_set ?_ GE103.out) | exact HB.out))))
   (case aL => have := LMc12.out; omega)
   intro v109 w15 ho hb hg hat
   rw [← Ny108.out] at ho
   have n0_ := Aside0.mk (blk_grown (g := gb101) (o := .cells #[.slice (some ad104) l0_0.length c0_0] 30 (0, 0)) (by (with_reducible repeat (first | refine blk_drewN ?_ _ | refine blk_drew ?_ | refine blk_alloc ?_ _)); exact BK101.out) hg (Kd.S_ne HO_104000.out BK101.out (by decide)))
   have n1_ := Aside0.mk (blk_grown (g := gb102) (o := .cells #[.slice none 0 0] 30 (0, 0)) (by (with_reducible repeat (first | refine blk_drewN ?_ _ | refine blk_drew ?_ | refine blk_alloc ?_ _)); exact BK102.out) hg (Kd.S_ne HO_104000.out BK102.out (by decide)))
   have n2_ := Aside0.mk (blk_grown (g := gb103) (o := .cells #[u104000] 30 (0, 0)) (by (with_reducible repeat (first | refine blk_drewN ?_ _ | refine blk_drew ?_ | refine blk_alloc ?_ _)); exact BK103.out) hg (Kd.S_ne HO_104000.out BK103.out (by decide)))
   have n3_ := Aside0.mk (hb)
   have n4_ := Aside0.mk (ho)
   clear BK101
   clear BK102
   clear BK103
   clear HB
   clear HO_104000
   clear HO107
   have BK101 := n0_
   have BK102 := n1_
   have BK103 := n2_
   have HB := n3_
   have HO110 := n4_
   clear n0_ n1_ n2_ n3_ n4_
   clear ho hb hg hat
   obtain ⟨Ao17, co17, eo17⟩ := Kd.S_slice HO110.out
   (first | subst eo17 | (injection eo17 with f1_ f2_ f3_; have f4_ := f1_.symm; have f5_ := f3_.symm; clear f1_ f2_ f3_; subst f4_; subst f5_))
   refine hK.out _ _ ((blk_cell BK103.out 0).trans rfl) (fun hHeld => ?_)
   clear hK K
   refine norm_ (a' := ?_) ?_ ?_
   rotate_left
   next =>
    show Act.put _ (some 18) _ = _
    simp only [Act.put, yay, yby, ycy, i64_w, i32_w]
    rfl
   refine pure_ (i := 6) (N := some 19) (v := ?_) (a' := ?_) #[true, true, true, true, true, true, true, false] rfl rfl (any_of HT_.out (by kernel_rfl)) (fun _ _ _ h => h) (Or.inl ⟨by rfl, ?_⟩) ?_ ?_
   rotate_left
   next =>
    intro w'
    go_simp
    with_reducible rfl
   rotate_left
   next =>
    simp only [Act.put, yay, yby, ycy, i64_w, i32_w]
    rfl
   refine last_ (i := 7) (N := none) #[true, true, true, true, true, true, true, true] rfl rfl (one_of HT_.out (by kernel_rfl)) (by decide) (fun K hK => ?_)
   have hs18 : w15.cell? ⟨gb103, 0, none⟩ = some (u104000) := (blk_cell BK103.out 0).trans rfl
   have hfs18 := blk_frozen BK103.out 0
   have hns18_0 := NB101_103.out
   have hns18_1 := NB102_103.out
   have hms18_0 := NB103_101.out
   have hms18_1 := NB103_102.out
   refine skip_ (w1 := ?_) (by rfl) rfl ?_ ?_
   rotate_left
   next =>
    go_simp
    rfl
   refine hK.out _ _ ?_
   clear hK K
   refine done_ (done_of HT_.out (by kernel_rfl)) ?_
   try go_wp2
   go_roundg k1
   case measure => have := HK1.out; omega
   case rel => exact ⟨(wrap64 (x9_1 + 1)), (y108), (.slice Ao17 y108.length co17), (by first | rfl | (simp; done) | (simp [*]; done)), H', ⟨by have := HK1.out; omega⟩, ⟨by (with_reducible repeat (first | apply Kd.S_alloc | apply Kd.S_drewN | apply Kd.S_drew)); exact Kd.S_mono (Kd.S_far (p := ⟨gb103, 0, none⟩) (Kd.S_types HO110.out BK103.out (by decide)) (fun _ hk => hk.2) (.slice Ao17 y108.length co17)) (fun _ hk => trivial)⟩, ⟨by (with_reducible repeat (first | refine blk_drewN ?_ _ | refine blk_drew ?_ | refine blk_alloc ?_ _)); refine blk_far ?_ NB101_103.out _; (with_reducible repeat (first | refine blk_drewN ?_ _ | refine blk_drew ?_ | refine blk_alloc ?_ _)); exact BK101.out⟩, ⟨by (with_reducible repeat (first | refine blk_drewN ?_ _ | refine blk_drew ?_ | refine blk_alloc ?_ _)); refine blk_far ?_ NB102_103.out _; (with_reducible repeat (first | refine blk_drewN ?_ _ | refine blk_drew ?_ | refine blk_alloc ?_ _)); exact BK102.out⟩, ⟨by (with_reducible repeat (first | refine blk_drewN ?_ _ | refine blk_drew ?_ | refine blk_alloc ?_ _)); refine blk_put (cs := #[u104000]) ?_ 0 _ rfl; (with_reducible repeat (first | refine blk_drewN ?_ _ | refine blk_drew ?_ | refine blk_alloc ?_ _)); exact BK103.out⟩, ⟨by repeat (first | (with_reducible first | exact HB.out | apply below_alloc | apply pw_below_drewN | apply below_drew1 | refine below_set ?_ GE101.out | refine below_set ?_ GE102.out | refine below_set ?_ GE103.out) | exact HB.out)⟩⟩
/-! math/bits.Mul: the shelf's contract, laid here. -/
def lMul_ren : Go.Shelf.Ren := ⟨fun | 212 => 86 | 263 => 88 | 264 => 89 | n => n, fun | 46 => 95 | 51 => 98 | 53 => 101 | 146 => 99 | 148 => 102 | n => n, fun | n => n⟩
theorem lMul : Go.Proofs.Lays.n212 Try.prog lMul_ren := {
  mixed := by kernel_rfl
  f212 := Try.func86.trans (congrArg some (by kernel_rfl))
  f263 := Try.func88.trans (congrArg some (by kernel_rfl))
  f264 := Try.func89.trans (congrArg some (by kernel_rfl))
  t46 := Try.underlying95
  a46 := Try.isAgg95
  z46 := Try.sizeOf95
  v46 := Try.zeroValue95
  t51 := Try.underlying98
  a51 := Try.isAgg98
  z51 := Try.sizeOf98
  v51 := Try.zeroValue98
  t53 := Try.underlying101
  a53 := Try.isAgg101
  z53 := Try.sizeOf101
  v53 := Try.zeroValue101
  t146 := Try.underlying99
  a146 := Try.isAgg99
  z146 := Try.sizeOf99
  v146 := Try.zeroValue99
  t148 := Try.underlying102
  a148 := Try.isAgg102
  z148 := Try.sizeOf102
  v148 := Try.zeroValue102 }
theorem bits_Mul_one (m : Nat) (hm : m ≤ 1000000) (w : World) : Calls Try.prog 86 #[.int .u64 1, .int .u64 (m : Int)] w fun e w' => e = .returned (.tuple #[.int .u64 0, .int .u64 (m : Int)]) ∧ w' = w := by
  have h : Calls Try.prog 86 #[.int .u64 ((1 : Nat) : Int), .int .u64 (m : Int)] w fun e w' => e = .returned (.tuple #[.int .u64 ((1 * m / 18446744073709551616 : Nat) : Int), .int .u64 ((1 * m % 18446744073709551616 : Nat) : Int)]) ∧ w' = w := Go.Proofs.Any.bits_Mul lMul 1 m (by omega) (by omega) w
  rw [Nat.one_mul, Nat.div_eq_of_lt (by omega), Nat.mod_eq_of_lt (by omega)] at h
  exact h
/-! The builtin copy, at elements of any number of cells. -/
theorem run_copy_sz {P : Program} (w : World) (dT sT ty elem : TypeId) (g o dLen dCap : Nat) (a : Addr) (sLen sCap sz : Nat) (cur : Array Value) (t : TypeId) (cs : List Value)
    (hu : P.underlying dT = some (.slice elem)) (hs : (P.info? elem).map (·.size) = some sz)
    (hg : w.heap[g]? = some (.cells cur t (0, 0))) (hn : cs.length = Nat.min sLen dLen * sz)
    (hsrc : ∀ j v, cs[j]? = some v → w.cell? (a.add j) = some v) (hfit : o + cs.length ≤ cur.size) (h1 : ∀ v ∈ cs, v.oneCell' = true) :
    (Builtin.copy_ #[dT, sT] ty #[.slice (some ⟨g, o, none⟩) dLen dCap, .slice (some a) sLen sCap]).run P w =
      .ok (goInt (Nat.min sLen dLen)) (w.setRow g (cur.toList.take o ++ cs ++ cur.toList.drop (o + cs.length)).toArray) := by
  have hl := run_loadCells_list (P := P) w a cs hsrc
  have hst := run_storeCells_at P g o t cs 0 cur w hg (by simpa using hfit) h1
  cases hq : P.info? elem with
  | none => simp [hq] at hs
  | some i =>
    have hi : i.size = sz := by simpa [hq] using hs
    simp [Builtin.copy_, run_underlying hu, Builtin.lenOf, Builtin.firstCells, sizeOf, typeInfo, hq, hi, ← hn, hl, hst]
section
variable {P : Program} {ops : Array Oper} {rest : List Oper} {o : Oper} {a : Act} {Q : Exit → Act → World → Prop} {K : Act → World → Prop} {w w1 : World}
theorem run_copy_op (d s : Operand) (dT sT : TypeId) (ho : o.op = .call { callee := .builtin .copy, args := #[d, s], argTypes := #[dT, sT] }) (vd vs : Value) (hd : a.eval d = vd) (hs : a.eval s = vs) (n : Nat)
    (hrun : ∀ ty, (Builtin.copy_ #[dT, sT] ty #[vd, vs]).run P w = .ok (goInt n) w1) : (execOp a.eval o).run P w = .ok (.value (goInt n)) w1 := by
  simp [execOp, ho, resolve, invoke, builtin, hd, hs, hrun, Result.andThen]
theorem copy_event (hgd : o.guard = none) (d s : Operand) (dT sT : TypeId) (ho : o.op = .call { callee := .builtin .copy, args := #[d, s], argTypes := #[dT, sT] }) (vd vs : Value) (hd : a.eval d = vd) (hs : a.eval s = vs) (n : Nat)
    (hrun : ∀ ty, (Builtin.copy_ #[dT, sT] ty #[vd, vs]).run P w = .ok (goInt n) w1) (h : wpList P ops Q rest (a.put o.dst (goInt n)) w1) : wpList P ops Q (o :: rest) a w :=
  Kd.event_run hgd (run_copy_op d s dT sT ho vd vs hd hs n hrun) h
theorem copy_step (hw : Region.wanted o (yielded ops a.tmps) = true) (d s : Operand) (dT sT : TypeId) (ho : o.op = .call { callee := .builtin .copy, args := #[d, s], argTypes := #[dT, sT] }) (vd vs : Value) (hd : a.eval d = vd) (hs : a.eval s = vs) (n : Nat)
    (hrun : ∀ ty, (Builtin.copy_ #[dT, sT] ty #[vd, vs]).run P w = .ok (goInt n) w1) (h : K (a.put o.dst (goInt n)) w1) : if Region.wanted o (yielded ops a.tmps) = true then Oper.wp P o a w K Q else K (a.put o.dst undef) w :=
  event_step hw (run_copy_op d s dT sT ho vd vs hd hs n hrun) h
end
/-! slices.Repeat at []loop.example/g00870/impl.Face, handed a list of one element. -/
def slices_Repeat_Simpl_Face.f (l0 : List SFace) (a1 : Int) : Option (List SFace) := match l0 with
  | [e] => if 0 ≤ a1 ∧ a1 ≤ 1000000 then some (List.replicate a1.toNat e) else none
  | _ => none
/-- The cells of an element, and of n of them. -/
def cellsOf_impl_Face (e : SFace) : List Value := [.int .i64 e.f0, .int .i64 e.f1]
def cellsN_impl_Face (e : SFace) (n : Nat) : List Value := (List.replicate n (cellsOf_impl_Face e)).flatten
theorem cellsN_impl_Face_len (e : SFace) : ∀ n, (cellsN_impl_Face e n).length = n * 2
  | 0 => by simp [cellsN_impl_Face]
  | n + 1 => by
    have := cellsN_impl_Face_len e n
    unfold cellsN_impl_Face at this ⊢
    rw [List.replicate_succ, List.flatten_cons, List.length_append, this]
    simp [cellsOf_impl_Face]; omega
theorem cellsN_impl_Face_add (e : SFace) (a b : Nat) : cellsN_impl_Face e (a + b) = cellsN_impl_Face e a ++ cellsN_impl_Face e b := by
  unfold cellsN_impl_Face
  rw [← List.replicate_append_replicate, List.flatten_append]
theorem cellsN_impl_Face_one (e : SFace) (n : Nat) : ∀ v ∈ cellsN_impl_Face e n, v.oneCell' = true := by
  intro v hv
  unfold cellsN_impl_Face at hv
  obtain ⟨l, hl, hv⟩ := List.mem_flatten.1 hv
  obtain ⟨_, rfl⟩ := List.mem_replicate.1 hl
  simp only [cellsOf_impl_Face, List.mem_cons, List.not_mem_nil, or_false] at hv
  rcases hv with rfl | rfl <;> rfl
theorem cellsN_impl_Face_reps (w : World) (b : Nat) (ok : Nat → Prop) (e : SFace) : ∀ n, Reps (kFace.M w b ok) 2 (List.replicate n e) (cellsN_impl_Face e n)
  | 0 => Reps.none _ _
  | n + 1 => by
    have h := (cellsN_impl_Face_reps w b ok e n).snoc (p := e) (c := cellsOf_impl_Face e) (kFace_mkM _ _ _ e) rfl
    rw [cellsN_impl_Face_add, List.replicate_succ']
    have e1 : cellsN_impl_Face e 1 = cellsOf_impl_Face e := by simp [cellsN_impl_Face]
    rw [e1]; exact h
theorem cells_splice_impl_Face {cur : List Value} {e : SFace} {n k m : Nat} (hc : cur.take (n * 2) = cellsN_impl_Face e n) (hm : m * 2 ≤ cur.length) (hk : n + k ≤ m) :
    (cur.take (n * 2) ++ cellsN_impl_Face e k ++ cur.drop (n * 2 + (cellsN_impl_Face e k).length)).take ((n + k) * 2) = cellsN_impl_Face e (n + k) ∧
    (cur.take (n * 2) ++ cellsN_impl_Face e k ++ cur.drop (n * 2 + (cellsN_impl_Face e k).length)).length = cur.length := by
  have l1 := cellsN_impl_Face_len e n
  have l2 := cellsN_impl_Face_len e k
  rw [hc, ← cellsN_impl_Face_add]
  have l3 := cellsN_impl_Face_len e (n + k)
  refine ⟨?_, ?_⟩
  · rw [List.take_append_of_le_length (by omega), List.take_of_length_le (by omega)]
  · rw [List.length_append, yly, l3, l2]; omega
theorem cells_src_impl_Face {w : World} {g : Nat} {cur : List Value} {T : TypeId} {e : SFace} {n k : Nat} (hg : w.heap[g]? = some (.cells cur.toArray T (0, 0))) (hc : cur.take (n * 2) = cellsN_impl_Face e n) (hk : k ≤ n) :
    ∀ j v, (cellsN_impl_Face e k)[j]? = some v → w.cell? ((⟨g, 0, none⟩ : Addr).add j) = some v := by
  intro j v hj
  have hl : j < (cellsN_impl_Face e k).length := (List.getElem?_eq_some_iff.1 hj).1
  rw [cellsN_impl_Face_len] at hl
  rw [add_plain, blk_cell hg j]
  have h2 : (cellsN_impl_Face e n)[j]? = some v := by
    rw [show n = k + (n - k) by omega, cellsN_impl_Face_add, List.getElem?_append_left (by rw [cellsN_impl_Face_len]; exact hl)]
    exact hj
  rw [← hc, List.getElem?_take] at h2
  split at h2
  · simpa using h2
  · cases h2
set_option maxHeartbeats 8000000 in
set_option maxRecDepth 100000 in
theorem slices_Repeat_Simpl_Face.calls (A0 : Option Addr) (c0 : Nat) (l0 : List SFace) (a1 : Int) (r : List SFace) (w : World) (hr0 : Kd.C kFace w A0 l0.length l0) (hc0 : l0.length ≤ c0) (h : slices_Repeat_Simpl_Face.f l0 a1 = some r) :
    Calls Try.prog 78 #[.slice A0 l0.length c0, .int .i64 a1] w fun e w' => ∃ v0_ : Value, e = .returned (v0_) ∧ Kd.R kFace 47 w' w.heap.size (fun _ => True) v0_ r ∧ Below w.heap.size w w' := by
  match l0, h, hr0, hc0 with
  | [e], h, hr0, hc0 =>
  unfold slices_Repeat_Simpl_Face.f at h
  dsimp only at h
  show Calls Try.prog 78 #[.slice A0 1 c0, .int .i64 a1] w _
  by_cases hc : 0 ≤ a1 ∧ a1 ≤ 1000000
  case neg => rw [if_neg hc] at h; cases h
  rw [if_pos hc] at h
  obtain ⟨m, rfl⟩ := Int.eq_ofNat_of_zero_le hc.1
  rw [Int.toNat_natCast] at h
  have hr := yey h
  have hm9 : m ≤ 1000000 := by omega
  obtain ⟨ad, eA, hcl⟩ : ∃ ad, A0 = some ad ∧ ∀ j v, (cellsOf_impl_Face e)[j]? = some v → w.cell? (ad.add j) = some v := by
    have hx := at_Face hr0 0 (by decide) (by simp)
    obtain ⟨ad, e1, h1, h2⟩ := hx
    refine ⟨ad, e1, fun j v hj => ?_⟩
    have e0 : rd_Face [e] 0 = e := rfl
    rw [e0] at h1 h2
    match j, hj with
    | 0, hj => rw [← show _ = v from by simpa [cellsOf_impl_Face] using hj]; simpa using h1
    | 1, hj => rw [← show _ = v from by simpa [cellsOf_impl_Face] using hj]; simpa [Addr.add] using h2
    | j + 2, hj => simp [cellsOf_impl_Face] at hj
  subst eA
  clear h hc hr0 hc0
  have HR := Aside0.mk hr
  have HCL := Aside0.mk hcl
  have HMUL := Aside0.mk (bits_Mul_one m hm9)
  clear hr hcl
  have u1 : IntKind.u64.wrap 1 = 1 := by rw [IntKind.wrap_u64]; rfl
  have u2 : IntKind.u64.wrap (m : Int) = (m : Int) := by rw [IntKind.wrap_u64]; omega
  go_enter Try.func78, Try.ntmps78
  go_wp2_with (first
    | (go_at_call 86; refine (HMUL.out _).mono ?_; rintro e w' ⟨rfl, hw⟩; rw [hw]; clear HMUL hw)
    | ((with_reducible refine gate_dst (N := 30) rfl ?_); refine Kd.R_make kFace (w0 := w) w.heap.size 47 rfl (N := 30) rfl 48 _ _ rfl (m : Int) rfl rfl Try.underlying48 (.agg #[(.int .i64 0), (.int .i64 0)]) 16 info47 rfl (by decide) (by omega) zFace (ok := fun _ => True) (okp := fun _ => True) (kFace_mkM _ _ _ zFace) (fun _ hk => hk) trivial (by omega) (by omega) (Below.refl _ _) (yoy _) ?_; intro v1 w1 ho hb _ hnew; rw [Int.toNat_natCast] at ho; obtain ⟨gB, hbs, hge⟩ := hnew; obtain ⟨inner, hown⟩ := Kd.R_own ho; rw [List.length_replicate] at hown; rcases hown.2 with ⟨hv, _⟩ | ⟨g, cap, cur, rfl, hbase, hh, hle, hmax, hcs, _⟩; (case inl => (rw [hv] at hbs; simp [Value.ownBlock] at hbs)); have hszz : (kFace).sz = 2 := rfl; rw [hszz] at hcs; have HH := Aside0.mk (show w1.heap[g]? = some (.cells cur.toList.toArray 47 (0, 0)) by rw [Array.toArray_toList]; exact hh); have HCS := Aside0.mk (show m ≤ cap ∧ cur.toList.length = cap * 2 ∧ cap ≤ 9223372036854775807 from ⟨hle, by rw [Array.length_toList]; exact hcs, hmax⟩); have HB := Aside0.mk hb; have HG := Aside0.mk hbase; clear ho hb hbs hge hown hh hle hmax hcs hbase hszz; generalize cur.toList = cur at HH HCS; have HN0 := Aside0.mk (show Nat.min 1 m ≤ m ∧ Nat.min 1 m ≤ 1 ∧ (0 < m → Nat.min 1 m = 1) from ⟨Nat.min_le_right _ _, Nat.min_le_left _ _, fun h => Nat.min_eq_left h⟩); generalize hn0 : Nat.min 1 m = n0 at HN0; have HN1 := Aside0.mk hn0; clear hn0)
    | ((with_reducible refine gate_dst (N := 33) rfl ?_); refine copy_event rfl (.tmp 31) (.tmp 32) 48 48 rfl (.slice (some ⟨g, 0, none⟩) m cap) (.slice (some ad) 1 c0) rfl rfl n0 (w1 := w1.setRow g (cur.take 0 ++ cellsN_impl_Face e n0 ++ cur.drop (0 + (cellsN_impl_Face e n0).length)).toArray) ?hrun ?_; (case hrun => intro ty; have q := run_copy_sz (P := Try.prog) w1 48 48 ty 47 g 0 m cap ad 1 c0 2 cur.toArray 47 (cellsN_impl_Face e n0) Try.underlying48 (by kernel_rfl) HH.out (by rw [HN1.out, cellsN_impl_Face_len]) (by intro j v hj; have h1 := HN0.out.2.1; rcases (show n0 = 0 ∨ n0 = 1 by omega) with e0 | e0; (· rw [e0] at hj; simp [cellsN_impl_Face] at hj); (· rw [e0] at hj; exact pw_cell_below HB.out (HCL.out j v (by simpa [cellsN_impl_Face] using hj)))) (by rw [cellsN_impl_Face_len]; have := HN0.out.1; have := HCS.out; simp; omega) (cellsN_impl_Face_one e n0); rw [HN1.out] at q; exact q); have q1 := cells_splice_impl_Face (cur := cur) (e := e) (n := 0) (k := n0) (m := m) (by simp [cellsN_impl_Face]) (by have := HCS.out; omega) (by have := HN0.out.1; omega); rw [Nat.zero_mul, Nat.zero_add] at q1; have HH2 := Aside0.mk (setRow_heap w1 g cur.toArray (cur.take 0 ++ cellsN_impl_Face e n0 ++ cur.drop (0 + (cellsN_impl_Face e n0).length)).toArray 47 (0, 0) HH.out); have HB2 := Aside0.mk (below_setRow HB.out HG.out (cur.take 0 ++ cellsN_impl_Face e n0 ++ cur.drop (0 + (cellsN_impl_Face e n0).length)).toArray); have HT := Aside0.mk q1; clear q1 HH HB; generalize World.setRow w1 g _ = w2 at *; generalize (cur.take 0 ++ cellsN_impl_Face e n0 ++ cur.drop (0 + (cellsN_impl_Face e n0).length)) = cur2 at *))
  clear HCL HN1
  have hn1 := HN0.out.1
  have HT1 := Aside0.mk HT.out.1
  have HT2 := Aside0.mk (show cur2.length = cap * 2 by rw [HT.out.2]; exact HCS.out.2.1)
  have HPOS := Aside0.mk HN0.out.2.2
  clear HT HN0
  have hcap : m ≤ cap := HCS.out.1
  have hcap9 : cap ≤ 9223372036854775807 := HCS.out.2.2
  clear HCS
  go_loopg [8] m (fun gg v8 w' => ∃ (n : Nat) (cur : List Value), n ≤ m ∧ m - n ≤ gg ∧ Aside0 (0 < m → 0 < n) ∧ v8 = .int .i64 n ∧ Aside0 (w'.heap[g]? = some (.cells cur.toArray 47 (0, 0))) ∧ Aside0 (cur.take (n * 2) = cellsN_impl_Face e n) ∧ Aside0 (cur.length = cap * 2) ∧ Aside0 (Below w.heap.size w w'))
  case atStart => exact ⟨n0, cur2, hn1, by omega, ⟨fun h => by rw [HPOS.out h]; omega⟩, rfl, HH2, HT1, HT2, HB2⟩
  case round =>
    clear HH2 HT1 HT2 HB2 hn1 HPOS
    obtain ⟨n, cur, hnm, hgg, HP, rfl, HH, HT, HL, HB⟩ := hrel
    by_cases hlt : n < m
    · have hltz : (n : Int) < (m : Int) := by omega
      have hn0 : 0 < n := HP.out (by omega)
      have hne : cap ≠ n := by omega
      have hnc : n ≤ cap := by omega
      go_wp2
      refine start_ (n := 10) (S := fun _ => True) (ds := []) #[false, false, false, false, false, false, false, false, false, false] (by kernel_rfl) rfl rfl trivial (fun hHeld => ?_)
      refine pure_ (i := 0) (N := some 38) (v := ?_) (a' := ?_) #[true, false, false, false, false, false, false, false, false, false] rfl rfl (by kernel_rfl) (fun _ _ _ h => h) (Or.inl ⟨by rfl, ?_⟩) ?_ ?_
      rotate_left
      · intro w'
        go_simp
        with_reducible rfl
      rotate_left
      · simp only [Act.put, yay, yby, ycy, i64_w, i32_w]
        rfl
      refine pure_ (i := 1) (N := some 39) (v := ?_) (a' := ?_) #[true, true, false, false, false, false, false, false, false, false] rfl rfl (by kernel_rfl) (fun _ _ _ h => h) (Or.inl ⟨by rfl, ?_⟩) ?_ ?_
      rotate_left
      · intro w'
        go_simp
        with_reducible rfl
      rotate_left
      · simp only [Act.put, yay, yby, ycy, i64_w, i32_w]
        rfl
      refine pure_ (i := 2) (N := some 40) (v := ?_) (a' := ?_) #[true, true, true, false, false, false, false, false, false, false] rfl rfl (by kernel_rfl) (fun _ _ _ h => h) (Or.inl ⟨by rfl, ?_⟩) ?_ ?_
      rotate_left
      · intro w'
        go_simp
        with_reducible rfl
      rotate_left
      · simp only [Act.put, yay, yby, ycy, i64_w, i32_w]
        rfl
      refine pure_ (i := 3) (N := some 41) (v := ?_) (a' := ?_) #[true, true, true, true, false, false, false, false, false, false] rfl rfl (by kernel_rfl) (fun _ _ _ h => h) (Or.inl ⟨by rfl, ?_⟩) ?_ ?_
      rotate_left
      · intro w'
        go_simp
        with_reducible rfl
      rotate_left
      · simp only [Act.put, yay, yby, ycy, i64_w, i32_w]
        rfl
      refine pure_ (i := 4) (N := some 42) (v := ?_) (a' := ?_) #[true, true, true, true, true, false, false, false, false, false] rfl rfl (by kernel_rfl) (fun _ _ _ h => h) (Or.inl ⟨by rfl, ?_⟩) ?_ ?_
      rotate_left
      · intro w'
        go_simp
        with_reducible rfl
      rotate_left
      · simp only [Act.put, yay, yby, ycy, i64_w, i32_w]
        rfl
      refine pure_ (i := 5) (N := some 43) (v := ?_) (a' := ?_) #[true, true, true, true, true, true, false, false, false, false] rfl rfl (by kernel_rfl) (fun _ _ _ h => h) (Or.inl ⟨by rfl, ?_⟩) ?_ ?_
      rotate_left
      · intro w'
        go_simp
        with_reducible rfl
      rotate_left
      · simp only [Act.put, yay, yby, ycy, i64_w, i32_w]
        rfl
      refine pure_ (i := 6) (N := some 44) (v := ?_) (a' := ?_) #[true, true, true, true, true, true, true, false, false, false] rfl rfl (by kernel_rfl) (fun _ _ _ h => h) (Or.inl ⟨by rfl, ?_⟩) ?_ ?_
      rotate_left
      · intro w'
        go_simp
        with_reducible rfl
      rotate_left
      · simp only [Act.put, yay, yby, ycy, i64_w, i32_w]
        rfl
      obtain ⟨k, hk, hk1, hk2, hk3⟩ : ∃ k, Nat.min n (m - n) = k ∧ k ≤ n ∧ k ≤ m - n ∧ 0 < k := ⟨_, rfl, Nat.min_le_left _ _, Nat.min_le_right _ _, Nat.lt_min.2 ⟨hn0, by omega⟩⟩
      refine one_ (i := 7) (N := some 45) #[true, true, true, true, true, true, true, true, false, false] rfl rfl (by kernel_rfl) (by decide) (fun K hK => ?_)
      refine copy_step (by rfl) (.tmp 41) (.tmp 44) 48 48 rfl (.slice (some ⟨g, n * 2, none⟩) (m - n) (cap - n)) (.slice (some ⟨g, 0, none⟩) n cap) (by first | rfl | (rw [Nat.mul_one]; rfl)) (by rfl) k (w1 := wr.drew.setRow g (cur.take (n * 2) ++ cellsN_impl_Face e k ++ cur.drop (n * 2 + (cellsN_impl_Face e k).length)).toArray) ?hrun ?_
      case hrun =>
        intro ty
        have q := run_copy_sz (P := Try.prog) wr.drew 48 48 ty 47 g (n * 2) (m - n) (cap - n) ⟨g, 0, none⟩ n cap 2 cur.toArray 47 (cellsN_impl_Face e k) Try.underlying48 (by kernel_rfl) HH.out (by rw [hk]; exact cellsN_impl_Face_len _ _) (cells_src_impl_Face (w := wr.drew) HH.out HT.out hk1) (by rw [cellsN_impl_Face_len, List.size_toArray, HL.out]; omega) (cellsN_impl_Face_one e _)
        rw [hk] at q; exact q
      refine hK.out _ _ trivial (fun hHeld => ?_)
      clear hK K
      refine norm_ (a' := ?_) ?_ ?_
      rotate_left
      · show Act.put _ (some 45) _ = _
        simp only [Act.put, yay, yby, ycy, i64_w, i32_w]
        rfl
      have q1 := cells_splice_impl_Face (cur := cur) (e := e) (n := n) (k := k) (m := m) HT.out (by rw [HL.out]; omega) (by omega)
      have HH3 := Aside0.mk (setRow_heap wr.drew g cur.toArray (cur.take (n * 2) ++ cellsN_impl_Face e k ++ cur.drop (n * 2 + (cellsN_impl_Face e k).length)).toArray 47 (0, 0) HH.out)
      have HB3 := Aside0.mk (below_setRow HB.out.drew HG.out (cur.take (n * 2) ++ cellsN_impl_Face e k ++ cur.drop (n * 2 + (cellsN_impl_Face e k).length)).toArray)
      have HT3 := Aside0.mk q1.1
      have HL3 := Aside0.mk (q1.2.trans HL.out)
      clear q1 HH HB HT HL hk
      generalize World.setRow wr.drew g _ = w3 at *
      generalize (cur.take (n * 2) ++ cellsN_impl_Face e k ++ cur.drop (n * 2 + (cellsN_impl_Face e k).length)) = cur3 at *
      refine pure_ (i := 8) (N := some 46) (v := ?_) (a' := ?_) #[true, true, true, true, true, true, true, true, true, false] rfl rfl (by kernel_rfl) (fun _ _ _ h => h) (Or.inl ⟨by rfl, ?_⟩) ?_ ?_
      rotate_left
      · intro w'
        go_simp
        with_reducible rfl
      rotate_left
      · simp only [Act.put, yay, yby, ycy, i64_w, i32_w]
        rfl
      refine pure_ (i := 9) (N := some 8) (v := ?_) (a' := ?_) #[true, true, true, true, true, true, true, true, true, true] rfl rfl (by kernel_rfl) (fun _ _ _ h => h) (Or.inl ⟨by rfl, ?_⟩) ?_ ?_
      rotate_left
      · intro w'
        go_simp
        with_reducible rfl
      rotate_left
      · simp only [Act.put, yay, yby, ycy, i64_w, i32_w]
        rfl
      refine done_ (by kernel_rfl) ?_
      go_wp2
      go_roundg (m - (n + k))
      case measure => omega
      case rel => exact ⟨n + k, cur3, by omega, by omega, ⟨fun _ => by omega⟩, by (have hw : wrap64 ((n : Int) + (k : Int)) = ((n + k : Nat) : Int) := by unfold wrap64; omega); rw [hw], HH3, HT3, HL3, HB3⟩
    · obtain rfl : n = m := by omega
      have hltz : ¬ (n : Int) < (n : Int) := by omega
      have hR : Kd.R kFace 47 wr w.heap.size (fun _ => True) (.slice (some ⟨g, 0, none⟩) n cap) r := by
        rw [← HR.out]
        have hown : wr.ownsRow w.heap.size 47 (kFace).sz (.slice (some ⟨g, 0, none⟩) n cap) (List.replicate n e).length (cellsN_impl_Face e n) := by
          rw [List.length_replicate]
          exact ⟨by rw [cellsN_impl_Face_len]; rfl, .inr ⟨g, cap, cur.toArray, rfl, HG.out, HH.out, hcap, hcap9, by rw [List.size_toArray]; exact HL.out, by show cur.toArray.toList.take (n * 2) = _; exact HT.out⟩⟩
        exact ⟨fun _ _ => trivial, _, hown, cellsN_impl_Face_reps _ _ _ e n⟩
      have HRR := Aside0.mk hR
      clear hR
      go_wp2
      go_ret
      exact ⟨_, rfl, HRR.out, HB.out⟩
  | [], h, _, _ => simp [slices_Repeat_Simpl_Face.f] at h
  | _ :: _ :: _, h, _, _ => simp [slices_Repeat_Simpl_Face.f] at h
/-! ### impl_withTetrahedron: function 63 -/
def impl_withTetrahedron.f (k : Nat) (l0_0 : List (List (SFace))) : Option ((List (List (SFace)))) := (impl_copyTriangulation.f k l0_0).bind fun t103 => ((impl_boundary.f).bind fun bt107 => ((slices_Repeat_Simpl_Face.f (([(⟨bt107.1, bt107.2⟩ : SFace)] : List (SFace))) 4).bind fun t112 => (if t103.length < 5864062014805 then (some (t103 ++ [t112])) else (none))))
def impl_withTetrahedron.T2 : Bool × List (List Nat × List Nat) := (true, [([], []), ([0], [0]), ([], []), ([2], [2]), ([3, 2], [3]), ([4], [4]), ([1, 5, 4], [1, 5]), ([0, 1, 2, 3, 4, 5, 6], []), ([7, 6, 6, 0, 1, 2, 3, 4, 5, 6], [6, 7])])
def impl_withTetrahedron.B2 : List Nat := [0, 1, 0, 4, 12, 28, 63, 127, 255]
theorem impl_withTetrahedron.tab2 : rtab .any (opsOf Try.f63 2) = impl_withTetrahedron.T2 := by kernel_rfl
theorem impl_withTetrahedron.bits2 : waitsOk impl_withTetrahedron.T2.2 impl_withTetrahedron.B2 = true := by kernel_rfl
set_option maxHeartbeats 8000000 in
set_option maxRecDepth 100000 in
theorem impl_withTetrahedron.calls (k : Nat) (A0_0 : Option Addr) (c0_0 : Nat) (l0_0 : List (List (SFace))) (r : List (List (SFace))) (w : World) (hr0_0 : Kd.C (Kd.slice 47 kFace) w A0_0 l0_0.length l0_0) (hc0_0 : l0_0.length ≤ c0_0) (h : impl_withTetrahedron.f k l0_0 = some r) :
 Calls Try.prog 63 #[.agg #[.slice A0_0 l0_0.length c0_0]] w fun e w' => ∃ v0_ : Value, e = .returned (.agg #[v0_]) ∧ Kd.S (Kd.slice 47 kFace) 48 w' w.heap.size (fun _ => True) v0_ r ∧ Below w.heap.size w w' := by
 have hu30 := Try.underlying30
 have HR0_0 := Aside0.mk hr0_0
 have HC0_0 := Aside0.mk hc0_0
 clear hr0_0 hc0_0
 have HB := Aside0.mk (Below.refl w.heap.size w)
 have H : ((impl_copyTriangulation.f k l0_0).bind fun t103 => ((impl_boundary.f).bind fun bt107 => ((slices_Repeat_Simpl_Face.f (([(⟨bt107.1, bt107.2⟩ : SFace)] : List (SFace))) 4).bind fun t112 => (if t103.length < 5864062014805 then (some (t103 ++ [t112])) else (none))))) = some r := h
 clear h
 replace H := ydy.mp H
 obtain ⟨t103, A20, H⟩ := H
 replace H : ((impl_boundary.f).bind fun bt107 => ((slices_Repeat_Simpl_Face.f (([(⟨bt107.1, bt107.2⟩ : SFace)] : List (SFace))) 4).bind fun t112 => (if t103.length < 5864062014805 then (some (t103 ++ [t112])) else (none)))) = some r := H
 have A2 := Aside0.mk A20
 clear A20
 replace H := ydy.mp H
 obtain ⟨⟨t107, t108⟩, A30, H⟩ := H
 replace H : ((slices_Repeat_Simpl_Face.f (([(⟨t107, t108⟩ : SFace)] : List (SFace))) 4).bind fun t112 => (if t103.length < 5864062014805 then (some (t103 ++ [t112])) else (none))) = some r := H
 have A3 := Aside0.mk A30
 clear A30
 obtain ⟨y109, hy109⟩ : ∃ y_ : List (SFace), y_ = (([(⟨t107, t108⟩ : SFace)] : List (SFace))) := ⟨_, rfl⟩
 replace H : ((slices_Repeat_Simpl_Face.f y109 4).bind fun t112 => (if t103.length < 5864062014805 then (some (t103 ++ [t112])) else (none))) = some r := by first | (rw [hy109]; with_reducible exact H) | (have H2_ := (yfy _ _).symm.trans H; rw [hy109]; with_reducible exact H2_) | (have H2_ := (yfy _ _).symm.trans H; with_reducible exact H2_) | with_reducible exact H | (rw [hy109]; exact H) | exact H
 have Ny109 := Aside0.mk hy109
 clear hy109
 replace H := ydy.mp H
 obtain ⟨t112, A40, H⟩ := H
 replace H : (if t103.length < 5864062014805 then (some (t103 ++ [t112])) else (none)) = some r := H
 have A4 := Aside0.mk A40
 clear A40
 by_cases c5 : t103.length < 5864062014805
 rotate_left
 next =>
  rw [if_neg c5] at H
  exact absurd H (by simp)
 rw [if_pos c5] at H
 have LMc5 := Aside0.mk c5
 clear c5
 obtain ⟨y115, hy115⟩ : ∃ y_ : List (List (SFace)), y_ = (t103 ++ [t112]) := ⟨_, rfl⟩
 replace H : (some y115) = some r := by first | (rw [hy115]; with_reducible exact H) | (have H2_ := (yfy _ _).symm.trans H; rw [hy115]; with_reducible exact H2_) | (have H2_ := (yfy _ _).symm.trans H; with_reducible exact H2_) | with_reducible exact H | (rw [hy115]; exact H) | exact H
 have Ny115 := Aside0.mk hy115
 clear hy115
 obtain rfl := yey H
 go_enter Try.func63, Try.ntmps63
 try go_wp2_with (first | ((with_reducible refine gate_dst (N := 1) rfl ?_); refine box_event ?hg (N := 1) ?hd (cs := #[.slice A0_0 l0_0.length c0_0]) (t := 30) ?hr ?_; (case hd => rfl); (case hg => rfl); (case hr => first | (go_simp; done) | (go_simp; rfl)); intro gb101 hg w6 hbox hb; have n0_ := Aside0.mk (below_step (by repeat (first | (with_reducible first | exact HB.out | apply below_alloc | apply pw_below_drewN | apply below_drew1) | exact HB.out)) hb); have n1_ := Aside0.mk (hbox); have n2_ := Aside0.mk ((by rw [hg]; exact (below_size (by repeat (first | (with_reducible first | exact HB.out | apply below_alloc | apply pw_below_drewN | apply below_drew1) | exact HB.out))) : w.heap.size ≤ gb101)); have n3_ := Aside0.mk ((by rw [hg]; exact (below_size (by repeat (first | (with_reducible first | exact HB.out | apply below_alloc | apply pw_below_drewN | apply below_drew1) | exact HB.out))) : w.heap.size ≤ gb101)); clear HB; have HB := n0_; have BK101 := n1_; have GW101 := n2_; have GE101 := n3_; clear n0_ n1_ n2_ n3_; clear hb hbox hg) | ((with_reducible refine gate_dst (N := 2) rfl ?_); refine box_event ?hg (N := 2) ?hd (cs := #[.slice none 0 0]) (t := 30) ?hr ?_; (case hd => rfl); (case hg => rfl); (case hr => first | (go_simp; done) | (go_simp; rfl)); intro gb102 hg w7 hbox hb; have n0_ := Aside0.mk (blk_below (g := gb101) (o := .cells #[.slice A0_0 l0_0.length c0_0] 30 (0, 0)) (by (with_reducible repeat (first | refine blk_drewN ?_ _ | refine blk_drew ?_ | refine blk_alloc ?_ _)); exact BK101.out) hb); have n1_ := Aside0.mk (below_step (by repeat (first | (with_reducible first | exact HB.out | apply below_alloc | apply pw_below_drewN | apply below_drew1 | refine below_set ?_ GE101.out) | exact HB.out)) hb); have n2_ := Aside0.mk (hbox); have n3_ := Aside0.mk ((by rw [hg]; exact (below_size (by repeat (first | (with_reducible first | exact HB.out | apply below_alloc | apply pw_below_drewN | apply below_drew1 | refine below_set ?_ GE101.out) | exact HB.out))) : w.heap.size ≤ gb102)); have n4_ := Aside0.mk ((by rw [hg]; exact (below_size (by repeat (first | (with_reducible first | exact HB.out | apply below_alloc | apply pw_below_drewN | apply below_drew1 | refine below_set ?_ GE101.out) | exact HB.out))) : w.heap.size ≤ gb102)); have n5_ := Aside0.mk ((by rw [hg]; exact Nat.ne_of_lt (blk_lt (g := gb101) (o := .cells #[.slice A0_0 l0_0.length c0_0] 30 (0, 0)) (by (with_reducible repeat (first | refine blk_drewN ?_ _ | refine blk_drew ?_ | refine blk_alloc ?_ _)); exact BK101.out)) : gb101 ≠ gb102)); have n6_ := Aside0.mk ((by rw [hg]; exact Nat.ne_of_gt (blk_lt (g := gb101) (o := .cells #[.slice A0_0 l0_0.length c0_0] 30 (0, 0)) (by (with_reducible repeat (first | refine blk_drewN ?_ _ | refine blk_drew ?_ | refine blk_alloc ?_ _)); exact BK101.out)) : gb102 ≠ gb101)); clear BK101; clear HB; have BK101 := n0_; have HB := n1_; have BK102 := n2_; have GW102 := n3_; have GE102 := n4_; have NB101_102 := n5_; have NB102_101 := n6_; clear n0_ n1_ n2_ n3_ n4_ n5_ n6_; clear hb hbox hg; have hnb8 := NB101_102.out; have hnc8 := NB102_101.out; have hcz9_0 : w7.cell? ⟨gb101, 0, none⟩ = some (.slice A0_0 l0_0.length c0_0) := (blk_cell BK101.out 0).trans rfl; have hfz9_0 := blk_frozen BK101.out 0) | ((with_reducible refine gate_callee (f := 77) rfl ?_); refine goesL_ (some 5) rfl rfl Try.func77 (by kernel_rfl) rfl #[.agg #[.slice A0_0 l0_0.length c0_0]] rfl (by (try simp only [yiy, yjy, yky]); first | done | rfl | (simp only [yly, ymy]; rfl)) ?_; (with_reducible refine (impl_copyTriangulation.calls k _ _ l0_0 t103 _ ?side1 ?side2 A2.out).mono ?_); (case side1 => repeat (first | exact (Kd.C_below HR0_0.out HB.out) | (with_reducible refine Kd.C_alloc ?_ _) | (with_reducible refine Kd.C_drewN ?_ _) | (with_reducible refine Kd.C_drew ?_))); (case side2 => exact HC0_0.out); rintro e w10 ⟨v104, rfl, ho0, hb⟩; refine ⟨_, rfl, ?_⟩; have n0_ := Aside0.mk (Kd.S_lower ho0 (below_size (by repeat (first | (with_reducible first | exact HB.out | apply below_alloc | apply pw_below_drewN | apply below_drew1 | refine below_set ?_ GE101.out | refine below_set ?_ GE102.out) | exact HB.out)))); have n1_ := Aside0.mk (blk_below (g := gb101) (o := .cells #[.slice A0_0 l0_0.length c0_0] 30 (0, 0)) (by (with_reducible repeat (first | refine blk_drewN ?_ _ | refine blk_drew ?_ | refine blk_alloc ?_ _)); exact BK101.out) hb); have n2_ := Aside0.mk (blk_below (g := gb102) (o := .cells #[.slice none 0 0] 30 (0, 0)) (by (with_reducible repeat (first | refine blk_drewN ?_ _ | refine blk_drew ?_ | refine blk_alloc ?_ _)); exact BK102.out) hb); have n3_ := Aside0.mk (below_step (by repeat (first | (with_reducible first | exact HB.out | apply below_alloc | apply pw_below_drewN | apply below_drew1 | refine below_set ?_ GE101.out | refine below_set ?_ GE102.out) | exact HB.out)) hb); clear BK101; clear BK102; clear HB; have HO105 := n0_; have BK101 := n1_; have BK102 := n2_; have HB := n3_; clear n0_ n1_ n2_ n3_; (try clear hb); (try clear hb2); (try clear hk); (try clear hi); (try clear ho0)) | ((with_reducible refine gate_dst (N := 3) rfl ?_); refine box_event ?hg (N := 3) ?hd (cs := #[.slice none 0 0]) (t := 30) ?hr ?_; (case hd => rfl); (case hg => rfl); (case hr => first | (go_simp; done) | (go_simp; rfl)); intro gb106 hg w11 hbox hb; have n0_ := Aside0.mk (Kd.S_below (by (with_reducible repeat (first | apply Kd.S_alloc | apply Kd.S_drewN | apply Kd.S_drew)); exact HO105.out) hb); have n1_ := Aside0.mk (blk_below (g := gb101) (o := .cells #[.slice A0_0 l0_0.length c0_0] 30 (0, 0)) (by (with_reducible repeat (first | refine blk_drewN ?_ _ | refine blk_drew ?_ | refine blk_alloc ?_ _)); exact BK101.out) hb); have n2_ := Aside0.mk (blk_below (g := gb102) (o := .cells #[.slice none 0 0] 30 (0, 0)) (by (with_reducible repeat (first | refine blk_drewN ?_ _ | refine blk_drew ?_ | refine blk_alloc ?_ _)); exact BK102.out) hb); have n3_ := Aside0.mk (below_step (by repeat (first | (with_reducible first | exact HB.out | apply below_alloc | apply pw_below_drewN | apply below_drew1 | refine below_set ?_ GE101.out | refine below_set ?_ GE102.out) | exact HB.out)) hb); have n4_ := Aside0.mk (hbox); have n5_ := Aside0.mk ((by rw [hg]; exact (below_size (by repeat (first | (with_reducible first | exact HB.out | apply below_alloc | apply pw_below_drewN | apply below_drew1 | refine below_set ?_ GE101.out | refine below_set ?_ GE102.out) | exact HB.out))) : w.heap.size ≤ gb106)); have n6_ := Aside0.mk ((by rw [hg]; exact (below_size (by repeat (first | (with_reducible first | exact HB.out | apply below_alloc | apply pw_below_drewN | apply below_drew1 | refine below_set ?_ GE101.out | refine below_set ?_ GE102.out) | exact HB.out))) : w.heap.size ≤ gb106)); have n7_ := Aside0.mk ((by rw [hg]; exact Nat.ne_of_lt (blk_lt (g := gb101) (o := .cells #[.slice A0_0 l0_0.length c0_0] 30 (0, 0)) (by (with_reducible repeat (first | refine blk_drewN ?_ _ | refine blk_drew ?_ | refine blk_alloc ?_ _)); exact BK101.out)) : gb101 ≠ gb106)); have n8_ := Aside0.mk ((by rw [hg]; exact Nat.ne_of_gt (blk_lt (g := gb101) (o := .cells #[.slice A0_0 l0_0.length c0_0] 30 (0, 0)) (by (with_reducible repeat (first | refine blk_drewN ?_ _ | refine blk_drew ?_ | refine blk_alloc ?_ _)); exact BK101.out)) : gb106 ≠ gb101)); have n9_ := Aside0.mk ((by rw [hg]; exact Nat.ne_of_lt (blk_lt (g := gb102) (o := .cells #[.slice none 0 0] 30 (0, 0)) (by (with_reducible repeat (first | refine blk_drewN ?_ _ | refine blk_drew ?_ | refine blk_alloc ?_ _)); exact BK102.out)) : gb102 ≠ gb106)); have n10_ := Aside0.mk ((by rw [hg]; exact Nat.ne_of_gt (blk_lt (g := gb102) (o := .cells #[.slice none 0 0] 30 (0, 0)) (by (with_reducible repeat (first | refine blk_drewN ?_ _ | refine blk_drew ?_ | refine blk_alloc ?_ _)); exact BK102.out)) : gb106 ≠ gb102)); clear HO105; clear BK101; clear BK102; clear HB; have HO105 := n0_; have BK101 := n1_; have BK102 := n2_; have HB := n3_; have BK106 := n4_; have GW106 := n5_; have GE106 := n6_; have NB101_106 := n7_; have NB106_101 := n8_; have NB102_106 := n9_; have NB106_102 := n10_; clear n0_ n1_ n2_ n3_ n4_ n5_ n6_ n7_ n8_ n9_ n10_; clear hb hbox hg; obtain ⟨Ao12, co12, eo12⟩ := Kd.S_slice HO105.out; subst eo12; have hnb13 := NB106_101.out; have hnc13 := NB101_106.out; have hnb14 := NB106_102.out; have hnc14 := NB102_106.out; have hcz15_0 : w11.cell? ⟨gb106, 0, none⟩ = some (.slice none 0 0) := (blk_cell BK106.out 0).trans rfl; have hfz15_0 := blk_frozen BK106.out 0))
 have n0_ : Aside0 (Kd.S (Kd.slice 47 kFace) 48 (w11.setCell ⟨gb106, 0, none⟩ (.slice Ao12 t103.length co12)) w.heap.size (fun _ => True) (.slice Ao12 t103.length co12) t103) := ⟨by (with_reducible repeat (first | apply Kd.S_alloc | apply Kd.S_drewN | apply Kd.S_drew)); exact Kd.S_mono (Kd.S_far (p := ⟨gb106, 0, none⟩) (Kd.S_types HO105.out BK106.out (by decide)) (fun _ hk => hk.2) (.slice Ao12 t103.length co12)) (fun _ hk => trivial)⟩
 have n1_ : Aside0 ((w11.setCell ⟨gb106, 0, none⟩ (.slice Ao12 t103.length co12)).heap[gb101]? = some (.cells #[.slice A0_0 l0_0.length c0_0] 30 (0, 0))) := ⟨by (with_reducible repeat (first | refine blk_drewN ?_ _ | refine blk_drew ?_ | refine blk_alloc ?_ _)); refine blk_far ?_ NB101_106.out _; (with_reducible repeat (first | refine blk_drewN ?_ _ | refine blk_drew ?_ | refine blk_alloc ?_ _)); exact BK101.out⟩
 have n2_ : Aside0 ((w11.setCell ⟨gb106, 0, none⟩ (.slice Ao12 t103.length co12)).heap[gb102]? = some (.cells #[.slice none 0 0] 30 (0, 0))) := ⟨by (with_reducible repeat (first | refine blk_drewN ?_ _ | refine blk_drew ?_ | refine blk_alloc ?_ _)); refine blk_far ?_ NB102_106.out _; (with_reducible repeat (first | refine blk_drewN ?_ _ | refine blk_drew ?_ | refine blk_alloc ?_ _)); exact BK102.out⟩
 have n3_ : Aside0 ((w11.setCell ⟨gb106, 0, none⟩ (.slice Ao12 t103.length co12)).heap[gb106]? = some (.cells #[.slice Ao12 t103.length co12] 30 (0, 0))) := ⟨by (with_reducible repeat (first | refine blk_drewN ?_ _ | refine blk_drew ?_ | refine blk_alloc ?_ _)); refine blk_put (cs := #[.slice none 0 0]) ?_ 0 _ rfl; (with_reducible repeat (first | refine blk_drewN ?_ _ | refine blk_drew ?_ | refine blk_alloc ?_ _)); exact BK106.out⟩
 have n4_ : Aside0 (Below w.heap.size w (w11.setCell ⟨gb106, 0, none⟩ (.slice Ao12 t103.length co12))) := ⟨by repeat (first | (with_reducible first | exact HB.out | apply below_alloc | apply pw_below_drewN | apply below_drew1 | refine below_set ?_ GE101.out | refine below_set ?_ GE102.out | refine below_set ?_ GE106.out) | exact HB.out)⟩
 (try clear HO105)
 (try clear BK101)
 (try clear BK102)
 (try clear BK106)
 (try clear HB)
 generalize (w11.setCell ⟨gb106, 0, none⟩ (.slice Ao12 t103.length co12)) = w16 at n0_ n1_ n2_ n3_ n4_ ⊢
 have HO105 := n0_
 have BK101 := n1_
 have BK102 := n2_
 have BK106 := n3_
 have HB := n4_
 clear n0_ n1_ n2_ n3_ n4_
 have n0_ := Aside0.mk (Kd.S_drew HO105.out)
 have n1_ := Aside0.mk (blk_drew BK101.out)
 have n2_ := Aside0.mk (blk_drew BK102.out)
 have n3_ := Aside0.mk (blk_drew BK106.out)
 have n4_ := Aside0.mk (below_drew1 HB.out)
 clear HO105
 clear BK101
 clear BK102
 clear BK106
 clear HB
 have HO105 := n0_
 have BK101 := n1_
 have BK102 := n2_
 have BK106 := n3_
 have HB := n4_
 clear n0_ n1_ n2_ n3_ n4_
 refine start_ (n := 9) (S := fun w' => w'.cell? ⟨gb106, 0, none⟩ = some (.slice Ao12 t103.length co12)) (ds := [8]) #[false, false, false, false, false, false, false, false, false] (by kernel_rfl) rfl rfl ((blk_cell BK106.out 0).trans rfl) (fun hHeld => ?_); refine with_tabW impl_withTetrahedron.tab2 impl_withTetrahedron.bits2 (fun HT_ HW_ => ?_)
 generalize w16.drew = w17 at HO105 BK101 BK102 BK106 HB hHeld ⊢
 refine pure_ (i := 0) (N := some 6) (v := ?_) (a' := ?_) #[true, false, false, false, false, false, false, false, false] rfl rfl (any_of HT_.out (by kernel_rfl)) (fun _ _ _ h => h) (Or.inl ⟨by rfl, ?_⟩) ?_ ?_
 rotate_left
 next =>
  intro w'
  go_simp
  with_reducible rfl
 rotate_left
 next =>
  simp only [Act.put, yay, yby, ycy, i64_w, i32_w]
  rfl
 refine take_ (i := 1) (N := some 7) (v := ?_) (a' := ?_) #[true, true, false, false, false, false, false, false, false] rfl rfl (take_ofW HT_.out HW_.out (by kernel_rfl)) (fun _ _ _ h => h) (Or.inl ⟨by rfl, ?_⟩) hHeld ?_ ?_
 rotate_left
 next =>
  intro w' s0
  go_simp
  with_reducible rfl
 rotate_left
 next =>
  simp only [Act.put, yay, yby, ycy, i64_w, i32_w]
  rfl
 refine one_ (i := 2) (N := some 8) #[true, true, true, false, false, false, false, false, false] rfl rfl (one_of HT_.out (by kernel_rfl)) (by decide) (fun K hK => ?_)
 refine goes_ Try.func79 (by kernel_rfl) rfl #[] (by rfl) rfl rfl (by (try simp only [yiy, yjy, yky]); first | done | rfl | (simp only [yly, ymy]; rfl)) ?_
 with_reducible refine (impl_boundary.calls  t107 t108 _ A3.out).mono ?_
 rintro e w18 ⟨rfl, hb⟩
 refine ⟨_, rfl, ?_⟩
 have n0_ := Aside0.mk (Kd.S_below (by (with_reducible repeat (first | apply Kd.S_alloc | apply Kd.S_drewN | apply Kd.S_drew)); exact HO105.out) hb)
 have n1_ := Aside0.mk (blk_below (g := gb101) (o := .cells #[.slice A0_0 l0_0.length c0_0] 30 (0, 0)) (by (with_reducible repeat (first | refine blk_drewN ?_ _ | refine blk_drew ?_ | refine blk_alloc ?_ _)); exact BK101.out) hb)
 have n2_ := Aside0.mk (blk_below (g := gb102) (o := .cells #[.slice none 0 0] 30 (0, 0)) (by (with_reducible repeat (first | refine blk_drewN ?_ _ | refine blk_drew ?_ | refine blk_alloc ?_ _)); exact BK102.out) hb)
 have n3_ := Aside0.mk (blk_below (g := gb106) (o := .cells #[.slice Ao12 t103.length co12] 30 (0, 0)) (by (with_reducible repeat (first | refine blk_drewN ?_ _ | refine blk_drew ?_ | refine blk_alloc ?_ _)); exact BK106.out) hb)
 have n4_ := Aside0.mk (below_step (by repeat (first | (with_reducible first | exact HB.out | apply below_alloc | apply pw_below_drewN | apply below_drew1 | refine below_set ?_ GE101.out | refine below_set ?_ GE102.out | refine below_set ?_ GE106.out) | exact HB.out)) hb)
 clear HO105
 clear BK101
 clear BK102
 clear BK106
 clear HB
 have HO105 := n0_
 have BK101 := n1_
 have BK102 := n2_
 have BK106 := n3_
 have HB := n4_
 clear n0_ n1_ n2_ n3_ n4_
 (try clear hb)
 (try clear hb2)
 (try clear hk)
 (try clear hi)
 refine hK.out _ _ ((blk_cell BK106.out 0).trans rfl) (fun hHeld => ?_)
 clear hK K
 refine norm_ (a' := ?_) ?_ ?_
 rotate_left
 next =>
  show Act.put _ (some 8) _ = _
  simp only [Act.put, yay, yby, ycy, i64_w, i32_w]
  rfl
 refine one_ (i := 3) (N := some 9) #[true, true, true, true, false, false, false, false, false] rfl rfl (one_of HT_.out (by kernel_rfl)) (by decide) (fun K hK => ?_)
 refine Kd.R_lit_step kFace _ 47 ?hg (N := 9) ?hd (xs := ([(⟨t107, t108⟩ : SFace)] : List (SFace))) (inner := [.int .i64 t107, .int .i64 t108]) (ok := fun _ => True) (okp := fun _ => True) ?hr ?hp (fun _ hk => hk) trivial (Below.refl _ _) (yoy _) (by simp) ?_; (case hd => rfl); (case hg => rfl); (case hr => first | (go_simp; done) | (go_simp; rfl)); (case hp => exact (Reps.c2 (show Kd.M kFace _ _ _ (⟨t107, t108⟩ : SFace) [.int .i64 t107, .int .i64 t108] from (kFace_mkM _ _ _ (⟨t107, t108⟩ : SFace) )) (Reps.none _ _)))
 intro v110 w19 ho20 hb hg_ hnew_
 clear hg_ hnew_
 (first | rw [← Ny109.out] at ho20 | (simp only [Int.reduceToNat] at ho20; rw [← Ny109.out] at ho20))
 have n0_ := Aside0.mk (Kd.S_elder' (by (with_reducible repeat (first | apply Kd.S_alloc | apply Kd.S_drewN | apply Kd.S_drew)); exact HO105.out) (Kd.R_base ho20) hb)
 have n1_ := Aside0.mk (Kd.R_lower ho20 (below_size (by repeat (first | (with_reducible first | exact HB.out | apply below_alloc | apply pw_below_drewN | apply below_drew1 | refine below_set ?_ GE101.out | refine below_set ?_ GE102.out | refine below_set ?_ GE106.out) | exact HB.out))))
 have n2_ := Aside0.mk (blk_below (g := gb101) (o := .cells #[.slice A0_0 l0_0.length c0_0] 30 (0, 0)) (by (with_reducible repeat (first | refine blk_drewN ?_ _ | refine blk_drew ?_ | refine blk_alloc ?_ _)); exact BK101.out) hb)
 have n3_ := Aside0.mk (blk_below (g := gb102) (o := .cells #[.slice none 0 0] 30 (0, 0)) (by (with_reducible repeat (first | refine blk_drewN ?_ _ | refine blk_drew ?_ | refine blk_alloc ?_ _)); exact BK102.out) hb)
 have n4_ := Aside0.mk (blk_below (g := gb106) (o := .cells #[.slice Ao12 t103.length co12] 30 (0, 0)) (by (with_reducible repeat (first | refine blk_drewN ?_ _ | refine blk_drew ?_ | refine blk_alloc ?_ _)); exact BK106.out) hb)
 have n5_ := Aside0.mk (below_step (by repeat (first | (with_reducible first | exact HB.out | apply below_alloc | apply pw_below_drewN | apply below_drew1 | refine below_set ?_ GE101.out | refine below_set ?_ GE102.out | refine below_set ?_ GE106.out) | exact HB.out)) hb)
 clear HO105
 clear BK101
 clear BK102
 clear BK106
 clear HB
 have HO105 := n0_
 have HO111 := n1_
 have BK101 := n2_
 have BK102 := n3_
 have BK106 := n4_
 have HB := n5_
 clear n0_ n1_ n2_ n3_ n4_ n5_
 clear hb ho20
 obtain ⟨Ao21, co21, eo21⟩ := Kd.R_slice HO111.out
 (first | subst eo21 | (injection eo21 with f1_ f2_ f3_; have f4_ := f1_.symm; have f5_ := f3_.symm; clear f1_ f2_ f3_; subst f4_; subst f5_))
 refine hK.out _ _ ((blk_cell BK106.out 0).trans rfl) (fun hHeld => ?_)
 clear hK K
 refine norm_ (a' := ?_) ?_ ?_
 rotate_left
 next =>
  show Act.put _ (some 9) _ = _
  simp only [Act.put, yay, yby, ycy, i64_w, i32_w]
  rfl
 refine one_ (i := 4) (N := some 10) #[true, true, true, true, true, false, false, false, false] rfl rfl (one_of HT_.out (by kernel_rfl)) (by decide) (fun K hK => ?_)
 refine goes_ Try.func78 (by kernel_rfl) rfl #[.slice Ao21 y109.length co21, .int .i64 4] (by rfl) rfl rfl (by (try simp only [yiy, yjy, yky]); first | done | rfl | (simp only [yly, ymy]; rfl)) ?_
 with_reducible refine (slices_Repeat_Simpl_Face.calls _ _ y109 4 t112 _ ?side1 ?side2 A4.out).mono ?_
 (case side1 => repeat (first | exact (Kd.R_reads' HO111.out).2.2 | (with_reducible refine Kd.C_alloc ?_ _) | (with_reducible refine Kd.C_drewN ?_ _) | (with_reducible refine Kd.C_drew ?_)))
 (case side2 => exact (Kd.R_reads' HO111.out).2.1)
 rintro e w22 ⟨v113, rfl, ho0, hb⟩
 refine ⟨_, rfl, ?_⟩
 have n0_ := Aside0.mk (Kd.S_elder' (by (with_reducible repeat (first | apply Kd.S_alloc | apply Kd.S_drewN | apply Kd.S_drew)); exact HO105.out) (Kd.R_base ho0) hb)
 have n1_ := Aside0.mk (Kd.R_elder' (by (with_reducible repeat (first | apply Kd.R_alloc | apply Kd.R_drewN | apply Kd.R_drew)); exact HO111.out) (Kd.R_base ho0) hb)
 have n2_ := Aside0.mk (Kd.R_lower (Kd.R_new' ho0 (Kd.R_lt (by (with_reducible repeat (first | apply Kd.R_alloc | apply Kd.R_drewN | apply Kd.R_drew)); exact HO111.out))) (below_size (by repeat (first | (with_reducible first | exact HB.out | apply below_alloc | apply pw_below_drewN | apply below_drew1 | refine below_set ?_ GE101.out | refine below_set ?_ GE102.out | refine below_set ?_ GE106.out) | exact HB.out))))
 have n3_ := Aside0.mk (blk_below (g := gb101) (o := .cells #[.slice A0_0 l0_0.length c0_0] 30 (0, 0)) (by (with_reducible repeat (first | refine blk_drewN ?_ _ | refine blk_drew ?_ | refine blk_alloc ?_ _)); exact BK101.out) hb)
 have n4_ := Aside0.mk (blk_below (g := gb102) (o := .cells #[.slice none 0 0] 30 (0, 0)) (by (with_reducible repeat (first | refine blk_drewN ?_ _ | refine blk_drew ?_ | refine blk_alloc ?_ _)); exact BK102.out) hb)
 have n5_ := Aside0.mk (blk_below (g := gb106) (o := .cells #[.slice Ao12 t103.length co12] 30 (0, 0)) (by (with_reducible repeat (first | refine blk_drewN ?_ _ | refine blk_drew ?_ | refine blk_alloc ?_ _)); exact BK106.out) hb)
 have n6_ := Aside0.mk (below_step (by repeat (first | (with_reducible first | exact HB.out | apply below_alloc | apply pw_below_drewN | apply below_drew1 | refine below_set ?_ GE101.out | refine below_set ?_ GE102.out | refine below_set ?_ GE106.out) | exact HB.out)) hb)
 clear HO105
 clear HO111
 clear BK101
 clear BK102
 clear BK106
 clear HB
 have HO105 := n0_
 have HO111 := n1_
 have HO114 := n2_
 have BK101 := n3_
 have BK102 := n4_
 have BK106 := n5_
 have HB := n6_
 clear n0_ n1_ n2_ n3_ n4_ n5_ n6_
 (try clear hb)
 (try clear hb2)
 (try clear hk)
 (try clear hi)
 (try clear ho0)
 obtain ⟨Ao24, co24, eo24⟩ := Kd.R_slice HO114.out
 (first | subst eo24 | (injection eo24 with f1_ f2_ f3_; have f4_ := f1_.symm; have f5_ := f3_.symm; clear f1_ f2_ f3_; subst f4_; subst f5_))
 refine hK.out _ _ ((blk_cell BK106.out 0).trans rfl) (fun hHeld => ?_)
 clear hK K
 refine norm_ (a' := ?_) ?_ ?_
 rotate_left
 next =>
  show Act.put _ (some 10) _ = _
  simp only [Act.put, yay, yby, ycy, i64_w, i32_w]
  rfl
 refine one_ (i := 5) (N := some 11) #[true, true, true, true, true, true, false, false, false] rfl rfl (one_of HT_.out (by kernel_rfl)) (by decide) (fun K hK => ?_)
 refine value_ (w1 := ?_) (v := ?_) (by rfl) rfl ?_ ?_
 rotate_left 2
 next =>
  go_simp
  constructor
  next =>
   rfl
  next =>
   rfl
 refine hK.out _ _ ((blk_cell (blk_alloc BK106.out _) 0).trans rfl) (fun hHeld => ?_)
 clear hK K
 refine norm_ (a' := ?_) ?_ ?_
 rotate_left
 next =>
  show Act.put _ (some 11) _ = _
  simp only [Act.put, yay, yby, ycy, i64_w, i32_w]
  rfl
 refine one_ (i := 6) (N := some 12) #[true, true, true, true, true, true, true, false, false] rfl rfl (one_of HT_.out (by kernel_rfl)) (by decide) (fun K hK => ?_)
 refine Kd.S_append_step (Kd.slice 47 kFace) (w0 := w) w.heap.size (by rfl) (.tmp 7) (.tmp 11) 28 48 (.slice none 0 0) 24 rfl Try.underlying28 info48 rfl (by decide) (by omega) (.slice Ao12 t103.length co12) t103 t112 [.slice Ao24 t112.length co24] (fun k_ => some k_ ≠ (.slice Ao21 y109.length co21 : Value).ownBlock) (fun k_ => some k_ = (.slice Ao24 t112.length co24 : Value).ownBlock) rfl rfl ?aP (fun k_ hk_ => ((Kd.R_mono (ok' := fun k_ => ((fun k_ => some k_ ≠ (.slice Ao21 y109.length co21 : Value).ownBlock)) k_ ∧ some k_ ≠ (.slice Ao12 t103.length co12 : Value).ownBlock) (Kd.R_apart' (HO114.out) (Kd.S_typed HO105.out) (by decide)) (fun k_ hk => ⟨hk.1.2, hk.2⟩))).1 k_ hk_.symm) ?aF ?aO ?aB ?aS ?aL ?_
 (case aP => exact Kd.M_row (Kd.R_mono (Kd.R_tight rfl (Kd.R_mono (ok' := fun k_ => ((fun k_ => some k_ ≠ (.slice Ao21 y109.length co21 : Value).ownBlock)) k_ ∧ some k_ ≠ (.slice Ao12 t103.length co12 : Value).ownBlock) (Kd.R_apart' (HO114.out) (Kd.S_typed HO105.out) (by decide)) (fun k_ hk => ⟨hk.1.2, hk.2⟩))) (fun _ h_ => h_)))
 (case aB => exact (by repeat (first | (with_reducible first | exact HB.out | apply below_alloc | apply pw_below_drewN | apply below_drew1 | refine below_set ?_ GE101.out | refine below_set ?_ GE102.out | refine below_set ?_ GE106.out) | exact HB.out)))
 (case aF => exact (fun k_ hk => Kd.fresh' (Kd.R_lt (by (with_reducible repeat (first | apply Kd.R_alloc | apply Kd.R_drewN | apply Kd.R_drew)); exact HO111.out)) k_ hk))
 (case aO => exact (by (with_reducible repeat (first | apply Kd.S_alloc | apply Kd.S_drewN | apply Kd.S_drew)); exact Kd.S_mono HO105.out (fun k_ hk => ⟨hk.1.2, fun e_ => hk.2 e_⟩)))
 (case aS => exact (below_size (by repeat (first | (with_reducible first | exact HB.out | apply below_alloc | apply pw_below_drewN | apply below_drew1 | refine below_set ?_ GE101.out | refine below_set ?_ GE102.out | refine below_set ?_ GE106.out) | exact HB.out))))
 (case aL => have := LMc5.out; omega)
 intro v116 w23 ho hb hg hat
 rw [← Ny115.out] at ho
 have n0_ := Aside0.mk (blk_grown (g := gb101) (o := .cells #[.slice A0_0 l0_0.length c0_0] 30 (0, 0)) (by (with_reducible repeat (first | refine blk_drewN ?_ _ | refine blk_drew ?_ | refine blk_alloc ?_ _)); exact BK101.out) hg (Kd.S_ne HO105.out BK101.out (by decide)))
 have n1_ := Aside0.mk (blk_grown (g := gb102) (o := .cells #[.slice none 0 0] 30 (0, 0)) (by (with_reducible repeat (first | refine blk_drewN ?_ _ | refine blk_drew ?_ | refine blk_alloc ?_ _)); exact BK102.out) hg (Kd.S_ne HO105.out BK102.out (by decide)))
 have n2_ := Aside0.mk (blk_grown (g := gb106) (o := .cells #[.slice Ao12 t103.length co12] 30 (0, 0)) (by (with_reducible repeat (first | refine blk_drewN ?_ _ | refine blk_drew ?_ | refine blk_alloc ?_ _)); exact BK106.out) hg (Kd.S_ne HO105.out BK106.out (by decide)))
 have n3_ := Aside0.mk (Kd.R_over' (by (with_reducible repeat (first | apply Kd.R_alloc | apply Kd.R_drewN | apply Kd.R_drew)); exact HO111.out) (Kd.S_typed (by (with_reducible repeat (first | apply Kd.S_alloc | apply Kd.S_drewN | apply Kd.S_drew)); exact HO105.out)) (by decide) hg)
 have n4_ := Aside0.mk (hb)
 have n5_ := Aside0.mk (ho)
 clear BK101
 clear BK102
 clear BK106
 clear HO111
 clear HB
 clear HO105
 clear HO114
 have BK101 := n0_
 have BK102 := n1_
 have BK106 := n2_
 have HO111 := n3_
 have HB := n4_
 have HO117 := n5_
 clear n0_ n1_ n2_ n3_ n4_ n5_
 clear ho hb hg hat
 obtain ⟨Ao25, co25, eo25⟩ := Kd.S_slice HO117.out
 (first | subst eo25 | (injection eo25 with f1_ f2_ f3_; have f4_ := f1_.symm; have f5_ := f3_.symm; clear f1_ f2_ f3_; subst f4_; subst f5_))
 refine hK.out _ _ ((blk_cell BK106.out 0).trans rfl) (fun hHeld => ?_)
 clear hK K
 refine norm_ (a' := ?_) ?_ ?_
 rotate_left
 next =>
  show Act.put _ (some 12) _ = _
  simp only [Act.put, yay, yby, ycy, i64_w, i32_w]
  rfl
 refine pure_ (i := 7) (N := some 13) (v := ?_) (a' := ?_) #[true, true, true, true, true, true, true, true, false] rfl rfl (any_of HT_.out (by kernel_rfl)) (fun _ _ _ h => h) (Or.inl ⟨by rfl, ?_⟩) ?_ ?_
 rotate_left
 next =>
  intro w'
  go_simp
  with_reducible rfl
 rotate_left
 next =>
  simp only [Act.put, yay, yby, ycy, i64_w, i32_w]
  rfl
 refine last_ (i := 8) (N := none) #[true, true, true, true, true, true, true, true, true] rfl rfl (one_of HT_.out (by kernel_rfl)) (by decide) (fun K hK => ?_)
 have hs26 : w23.cell? ⟨gb106, 0, none⟩ = some (.slice Ao12 t103.length co12) := (blk_cell BK106.out 0).trans rfl
 have hfs26 := blk_frozen BK106.out 0
 have hns26_0 := NB101_106.out
 have hns26_1 := NB102_106.out
 have hms26_0 := NB106_101.out
 have hms26_1 := NB106_102.out
 refine skip_ (w1 := ?_) (by rfl) rfl ?_ ?_
 rotate_left
 next =>
  go_simp
  rfl
 refine hK.out _ _ ?_
 clear hK K
 refine done_ (done_of HT_.out (by kernel_rfl)) ?_
 have hcz27_0 : w23.cell? ⟨gb106, 0, none⟩ = some (.slice Ao12 t103.length co12) := (blk_cell BK106.out 0).trans rfl
 have hfz27_0 := blk_frozen BK106.out 0
 have hcz28_0 : w23.cell? ⟨gb102, 0, none⟩ = some (.slice none 0 0) := (blk_cell BK102.out 0).trans rfl
 have hfz28_0 := blk_frozen BK102.out 0
 try go_wp2
 refine bodyPost_ret (results_cell_row rfl _ _ gb102 30 #[.slice Ao25 y115.length co25] (0, 0) _ rfl (by (with_reducible repeat (first | refine blk_drewN ?_ _ | refine blk_drew ?_ | refine blk_alloc ?_ _)); refine blk_put (cs := #[.slice none 0 0]) ?_ 0 _ rfl; (with_reducible repeat (first | refine blk_drewN ?_ _ | refine blk_drew ?_ | refine blk_alloc ?_ _)); refine blk_far ?_ NB102_106.out _; (with_reducible repeat (first | refine blk_drewN ?_ _ | refine blk_drew ?_ | refine blk_alloc ?_ _)); exact BK102.out) Try.underlying30 rfl (by kernel_rfl)) rfl ?_
 exact ⟨_, by first | rfl | (simp [errW_none, errW_some] <;> rfl) | (simp [*, errW_none, errW_some] <;> rfl), by (with_reducible repeat (first | apply Kd.S_alloc | apply Kd.S_drewN | apply Kd.S_drew)); exact Kd.S_mono (Kd.S_far (p := ⟨gb102, 0, none⟩) (Kd.S_far (p := ⟨gb106, 0, none⟩) (Kd.S_types (Kd.S_types HO117.out BK106.out (by decide)) BK102.out (by decide)) (fun _ hk => hk.1.2) (.slice Ao25 y115.length co25)) (fun _ hk => hk.2) (.slice Ao25 y115.length co25)) (fun _ hk => trivial), by repeat (first | (with_reducible first | exact HB.out | apply below_alloc | apply pw_below_drewN | apply below_drew1 | refine below_set ?_ GE101.out | refine below_set ?_ GE102.out | refine below_set ?_ GE106.out) | exact HB.out)⟩
/-! ### impl_gluingAt: function 39 -/
mutual
def impl_gluingAt.l0 : Nat → Int → Int → Int → Int → List (List (SFace)) → Option ((List (List (SFace))))
 | 0, _, _, _, _, _ => none
 | k + 1, x0, x1, x9, x10, x103000 => if x10 < x9 then ((impl_withTetrahedron.f k x103000).bind fun t103 => (impl_gluingAt.l0 k x0 x1 x9 (wrap64 (x10 + 1)) t103)) else ((impl_gluings.f k x0).bind fun t106 => (if t106 = 0 then (none) else ((impl_matchingAt.f k (wrap64 (4 * x0)) (wrap64 (Int.tdiv x1 t106))).bind fun t107 => (impl_gluingAt.l1 k x1 t106 t107 (t107.length : Int) 0 x103000))))
def impl_gluingAt.l1 : Nat → Int → Int → List Int → Int → Int → List (List (SFace)) → Option ((List (List (SFace))))
 | 0, _, _, _, _, _, _ => none
 | k + 1, x1, x6, x22, x23, x24, x103000 => if x24 < x23 then (if 0 ≤ x24 then (if x24 < (x22.length : Int) then (if x24 < (rd x22 x24) then (if x6 = 0 then (none) else ((impl_mapping.f (Int.tmod x24 4) (Int.tmod (rd x22 x24) 4)).bind fun t111 => (if (wrap64 (Int.tdiv x6 6)) = 0 then (none) else (if 0 ≤ (wrap64 (Int.tdiv (Int.tmod x1 x6) (wrap64 (Int.tdiv x6 6)))) then (if (wrap64 (Int.tdiv (Int.tmod x1 x6) (wrap64 (Int.tdiv x6 6)))) < (t111.length : Int) then ((impl_Triangulation_glue.f x103000 (wrap64 (Int.tdiv x24 4)) (Int.tmod x24 4) (wrap64 (Int.tdiv (rd x22 x24) 4)) (rd t111 (wrap64 (Int.tdiv (Int.tmod x1 x6) (wrap64 (Int.tdiv x6 6)))))).bind fun t115 => (impl_gluingAt.l1 k (Int.tmod x1 x6) (wrap64 (Int.tdiv x6 6)) x22 x23 (wrap64 (x24 + 1)) t115)) else (none)) else (none))))) else (impl_gluingAt.l1 k x1 x6 x22 x23 (wrap64 (x24 + 1)) x103000)) else (none)) else (none)) else (some x103000)
end
def impl_gluingAt.f (k : Nat) (a0 : Int) (a1 : Int) : Option ((List (List (SFace)))) := impl_gluingAt.l0 k a0 a1 a0 0 ([] : List (List (SFace)))
def impl_gluingAt.T13 : Bool × List (List Nat × List Nat) := (true, [([], []), ([], []), ([1], [1]), ([], []), ([3], [3]), ([], []), ([5], [5]), ([], []), ([7], [7]), ([], []), ([9], [9]), ([8, 10], [8, 10]), ([], []), ([], []), ([12, 13], [12, 13]), ([11, 14], [11, 14]), ([15], [15]), ([0, 2, 4, 6, 16, 11], [0, 2, 4, 6, 16])])
def impl_gluingAt.B13 : List Nat := [0, 0, 2, 0, 8, 0, 32, 0, 128, 0, 512, 1920, 0, 0, 12288, 32640, 65408, 131071]
theorem impl_gluingAt.tab13 : rtab .any (opsOf Try.f39 13) = impl_gluingAt.T13 := by kernel_rfl
theorem impl_gluingAt.bits13 : waitsOk impl_gluingAt.T13.2 impl_gluingAt.B13 = true := by kernel_rfl
theorem impl_gluingAt.look_ {P : Program} {ops : Array Oper} {Q : Exit → Act → World → Prop} {oi : Oper} {N : Option Tmp} {a : Act} {w : World} {v : Value} {K : Act → World → Prop} (hw : Region.wanted oi (yielded ops a.tmps) = true) (hN : oi.dst = N) (hrun : (execOp a.eval oi).run P w = .ok (.value v) w)
 (h : K (a.put N v) w) : if Region.wanted oi (yielded ops a.tmps) = true then Oper.wp P oi a w K Q else K (a.put N undef) w := by
 rw [if_pos hw]
 unfold Oper.wp
 rw [hrun]
 show K (a.put oi.dst v) w
 rw [hN]
 exact h
theorem impl_gluingAt.int_kept {w w' : World} {S : Nat → Prop} {e base : Nat} {ok ok' : Nat → Prop} {v : Value} {xs : List Int} (h : Kd.R (Kd.int .i64) e w base ok v xs) (hk : Kept w w' S) (hS : ∀ k, S k → ∃ q, q ≠ e ∧ ∃ cells, w.heap[k]? = some (.cells cells q (0, 0))) (hok : ∀ k, v.ownBlock = some k → ok' k) :
 Kd.R (Kd.int .i64) e w' base ok' v xs := by
 have h1 : Kd.R (Kd.int .i64) e w base (fun k => v.ownBlock = some k) v xs := Kd.R_of_own (h1 := fun _ => rfl) (Kd.own_of_R h) (fun k hk => hk)
 have h2 := Kd.R_kept h1 hk (fun k hk hs => by
  obtain ⟨q, hq, c, hc⟩ := hS k hs
  obtain ⟨c2, hc2⟩ := own_typed (Kd.own_of_R h) k hk
  rw [hc] at hc2
  injection hc2 with hc2
  injection hc2 with _ hc2
  exact hq hc2)
 exact Kd.R_of_own (h1 := fun _ => rfl) (Kd.own_of_R h2) hok
set_option maxHeartbeats 8000000 in
set_option maxRecDepth 100000 in
theorem impl_gluingAt.calls (k : Nat) (a0 : Int) (a1 : Int) (r : List (List (SFace))) (w : World) (h : impl_gluingAt.f k a0 a1 = some r) :
 Calls Try.prog 39 #[.int .i64 a0, .int .i64 a1] w fun e w' => ∃ v0_ : Value, e = .returned (.agg #[v0_]) ∧ Kd.S (Kd.slice 47 kFace) 48 w' w.heap.size (fun _ => True) v0_ r ∧ Below w.heap.size w w' := by
 have hu30 := Try.underlying30
 have HB := Aside0.mk (Below.refl w.heap.size w)
 have H : (impl_gluingAt.l0 k a0 a1 a0 0 ([] : List (List (SFace)))) = some r := h
 clear h
 have H' := Aside0.mk H
 clear H
 go_enter Try.func39, Try.ntmps39
 go_wp2_with (first | ((with_reducible refine gate_dst (N := 4) rfl ?_); refine box_event ?hg (N := 4) ?hd (cs := #[.slice none 0 0]) (t := 30) ?hr ?_; (case hd => rfl); (case hg => rfl); (case hr => first | (go_simp; done) | (go_simp; rfl)); intro gb101 hg w3 hbox hb; have n0_ := Aside0.mk (below_step (by repeat (first | (with_reducible first | exact HB.out | apply below_alloc | apply pw_below_drewN | apply below_drew1) | exact HB.out)) hb); have n1_ := Aside0.mk (hbox); have n2_ := Aside0.mk ((by rw [hg]; exact (below_size (by repeat (first | (with_reducible first | exact HB.out | apply below_alloc | apply pw_below_drewN | apply below_drew1) | exact HB.out))) : w.heap.size ≤ gb101)); have n3_ := Aside0.mk ((by rw [hg]; exact (below_size (by repeat (first | (with_reducible first | exact HB.out | apply below_alloc | apply pw_below_drewN | apply below_drew1) | exact HB.out))) : w.heap.size ≤ gb101)); clear HB; have HB := n0_; have BK101 := n1_; have GW101 := n2_; have GE101 := n3_; clear n0_ n1_ n2_ n3_; clear hb hbox hg) | ((with_reducible refine gate_dst (N := 5) rfl ?_); refine box_event ?hg (N := 5) ?hd (cs := #[.slice none 0 0]) (t := 30) ?hr ?_; (case hd => rfl); (case hg => rfl); (case hr => first | (go_simp; done) | (go_simp; rfl)); intro gb102 hg w4 hbox hb; have n0_ := Aside0.mk (blk_below (g := gb101) (o := .cells #[.slice none 0 0] 30 (0, 0)) (by (with_reducible repeat (first | refine blk_drewN ?_ _ | refine blk_drew ?_ | refine blk_alloc ?_ _)); exact BK101.out) hb); have n1_ := Aside0.mk (below_step (by repeat (first | (with_reducible first | exact HB.out | apply below_alloc | apply pw_below_drewN | apply below_drew1 | refine below_set ?_ GE101.out) | exact HB.out)) hb); have n2_ := Aside0.mk (hbox); have n3_ := Aside0.mk ((by rw [hg]; exact (below_size (by repeat (first | (with_reducible first | exact HB.out | apply below_alloc | apply pw_below_drewN | apply below_drew1 | refine below_set ?_ GE101.out) | exact HB.out))) : w.heap.size ≤ gb102)); have n4_ := Aside0.mk ((by rw [hg]; exact (below_size (by repeat (first | (with_reducible first | exact HB.out | apply below_alloc | apply pw_below_drewN | apply below_drew1 | refine below_set ?_ GE101.out) | exact HB.out))) : w.heap.size ≤ gb102)); have n5_ := Aside0.mk ((by rw [hg]; exact Nat.ne_of_lt (blk_lt (g := gb101) (o := .cells #[.slice none 0 0] 30 (0, 0)) (by (with_reducible repeat (first | refine blk_drewN ?_ _ | refine blk_drew ?_ | refine blk_alloc ?_ _)); exact BK101.out)) : gb101 ≠ gb102)); have n6_ := Aside0.mk ((by rw [hg]; exact Nat.ne_of_gt (blk_lt (g := gb101) (o := .cells #[.slice none 0 0] 30 (0, 0)) (by (with_reducible repeat (first | refine blk_drewN ?_ _ | refine blk_drew ?_ | refine blk_alloc ?_ _)); exact BK101.out)) : gb102 ≠ gb101)); clear BK101; clear HB; have BK101 := n0_; have HB := n1_; have BK102 := n2_; have GW102 := n3_; have GE102 := n4_; have NB101_102 := n5_; have NB102_101 := n6_; clear n0_ n1_ n2_ n3_ n4_ n5_ n6_; clear hb hbox hg))
 go_loopg [10] k (fun kq v10 w' => ∃ (x10_1 : Int) (x103000_1 : List (List (SFace))) (u103000 : Value), v10 = .int .i64 x10_1 ∧ Aside0 (impl_gluingAt.l0 kq a0 a1 a0 x10_1 x103000_1 = some r) ∧ Aside0 (kq ≤ k) ∧ Aside0 (Kd.S (Kd.slice 47 kFace) 48 w' w.heap.size (fun _ => True) u103000 x103000_1) ∧ Aside0 (w'.heap[gb101]? = some (.cells #[(.slice none 0 0)] 30 (0, 0))) ∧ Aside0 (w'.heap[gb102]? = some (.cells #[u103000] 30 (0, 0))) ∧ Aside0 (Below w.heap.size w w'))
 case atStart => exact ⟨(0), (([] : List (List (SFace)))), (.slice none 0 0), (by first | rfl | (simp; done) | (simp [*]; done)), H', ⟨yoy _⟩, ⟨by first | exact Kd.S_nil _ _ _ _ _ | exact Kd.N_nil _ _ _ _ _ | exact Kd.V_nil _ _ _ _ _ | exact Kd.Q_nil _ _ _ _ _ | exact Kd.R_nil _ _ _ _ _⟩, ⟨by (with_reducible repeat (first | refine blk_drewN ?_ _ | refine blk_drew ?_ | refine blk_alloc ?_ _)); exact BK101.out⟩, ⟨by (with_reducible repeat (first | refine blk_drewN ?_ _ | refine blk_drew ?_ | refine blk_alloc ?_ _)); exact BK102.out⟩, ⟨by repeat (first | (with_reducible first | exact HB.out | apply below_alloc | apply pw_below_drewN | apply below_drew1 | refine below_set ?_ GE101.out | refine below_set ?_ GE102.out) | exact HB.out)⟩⟩
 case round =>
  clear H'
  try clear p2
  try clear c3
  obtain ⟨x10_1, x103000_1, u103000, rfl, HA, HK1, HO_103000, BK101, BK102, HB⟩ := hrel
  cases gk with
  | zero => exact absurd HA.out (by simp [impl_gluingAt.l0])
  | succ k1 =>
   have H := HA.out
   clear HA
   simp only [impl_gluingAt.l0] at H
   by_cases c5 : x10_1 < a0
   next =>
    rw [if_pos c5] at H
    have c5b0 : decide (x10_1 < a0) = true := ygy c5
    clear c5
    replace H := ydy.mp H
    obtain ⟨t103, A60, H⟩ := H
    replace H : (impl_gluingAt.l0 k1 a0 a1 a0 (wrap64 (x10_1 + 1)) t103) = some r := H
    have A6 := Aside0.mk A60
    clear A60
    have H' := Aside0.mk H
    clear H
    have hnb7 := NB102_101.out
    have hnc7 := NB101_102.out
    have hcz8_0 : wr.cell? ⟨gb102, 0, none⟩ = some (u103000) := (blk_cell BK102.out 0).trans rfl
    have hfz8_0 := blk_frozen BK102.out 0
    obtain ⟨Ao9, co9, eo9⟩ := Kd.S_slice HO_103000.out
    subst eo9
    go_wp2_with (first | ((with_reducible refine gate_callee (f := 63) rfl ?_); refine goesL_ (some 13) rfl rfl Try.func63 (by kernel_rfl) rfl #[.agg #[.slice Ao9 x103000_1.length co9]] rfl (by (try simp only [yiy, yjy, yky]); first | done | rfl | (simp only [yly, ymy]; rfl)) ?_; (with_reducible refine (impl_withTetrahedron.calls k1 _ _ x103000_1 t103 _ ?side1 ?side2 A6.out).mono ?_); (case side1 => repeat (first | exact (Kd.S_reads' HO_103000.out).2.2 | (with_reducible refine Kd.C_alloc ?_ _) | (with_reducible refine Kd.C_drewN ?_ _) | (with_reducible refine Kd.C_drew ?_))); (case side2 => exact (Kd.S_reads' HO_103000.out).2.1); rintro e w10 ⟨v104, rfl, ho0, hb⟩; refine ⟨_, rfl, ?_⟩; have n0_ := Aside0.mk (Kd.S_elder' (by (with_reducible repeat (first | apply Kd.S_alloc | apply Kd.S_drewN | apply Kd.S_drew)); exact HO_103000.out) (Kd.S_base ho0) hb); have n1_ := Aside0.mk (Kd.S_lower (Kd.S_new' ho0 (Kd.S_lt (by (with_reducible repeat (first | apply Kd.S_alloc | apply Kd.S_drewN | apply Kd.S_drew)); exact HO_103000.out))) (below_size (by repeat (first | (with_reducible first | exact HB.out | apply below_alloc | apply pw_below_drewN | apply below_drew1 | refine below_set ?_ GE101.out | refine below_set ?_ GE102.out) | exact HB.out)))); have n2_ := Aside0.mk (blk_below (g := gb101) (o := .cells #[.slice none 0 0] 30 (0, 0)) (by (with_reducible repeat (first | refine blk_drewN ?_ _ | refine blk_drew ?_ | refine blk_alloc ?_ _)); exact BK101.out) hb); have n3_ := Aside0.mk (blk_below (g := gb102) (o := .cells #[.slice Ao9 x103000_1.length co9] 30 (0, 0)) (by (with_reducible repeat (first | refine blk_drewN ?_ _ | refine blk_drew ?_ | refine blk_alloc ?_ _)); exact BK102.out) hb); have n4_ := Aside0.mk (below_step (by repeat (first | (with_reducible first | exact HB.out | apply below_alloc | apply pw_below_drewN | apply below_drew1 | refine below_set ?_ GE101.out | refine below_set ?_ GE102.out) | exact HB.out)) hb); clear HO_103000; clear BK101; clear BK102; clear HB; have HO_103000 := n0_; have HO105 := n1_; have BK101 := n2_; have BK102 := n3_; have HB := n4_; clear n0_ n1_ n2_ n3_ n4_; (try clear hb); (try clear hb2); (try clear hk); (try clear hi); (try clear ho0); obtain ⟨Ao11, co11, eo11⟩ := Kd.S_slice HO105.out; subst eo11; have hcz12_0 : w10.cell? ⟨gb102, 0, none⟩ = some (.slice Ao9 x103000_1.length co9) := (blk_cell BK102.out 0).trans rfl; have hfz12_0 := blk_frozen BK102.out 0))
    go_roundg k1
    case measure => have := HK1.out; omega
    case rel => exact ⟨(wrap64 (x10_1 + 1)), (t103), (.slice Ao11 t103.length co11), (by first | rfl | (simp; done) | (simp [*]; done)), H', ⟨by have := HK1.out; omega⟩, ⟨by (with_reducible repeat (first | apply Kd.S_alloc | apply Kd.S_drewN | apply Kd.S_drew)); exact Kd.S_mono (Kd.S_far (p := ⟨gb102, 0, none⟩) (Kd.S_types HO105.out BK102.out (by decide)) (fun _ hk => hk.2) (.slice Ao11 t103.length co11)) (fun _ hk => trivial)⟩, ⟨by (with_reducible repeat (first | refine blk_drewN ?_ _ | refine blk_drew ?_ | refine blk_alloc ?_ _)); refine blk_far ?_ NB101_102.out _; (with_reducible repeat (first | refine blk_drewN ?_ _ | refine blk_drew ?_ | refine blk_alloc ?_ _)); exact BK101.out⟩, ⟨by (with_reducible repeat (first | refine blk_drewN ?_ _ | refine blk_drew ?_ | refine blk_alloc ?_ _)); refine blk_put (cs := #[.slice Ao9 x103000_1.length co9]) ?_ 0 _ rfl; (with_reducible repeat (first | refine blk_drewN ?_ _ | refine blk_drew ?_ | refine blk_alloc ?_ _)); exact BK102.out⟩, ⟨by repeat (first | (with_reducible first | exact HB.out | apply below_alloc | apply pw_below_drewN | apply below_drew1 | refine below_set ?_ GE101.out | refine below_set ?_ GE102.out) | exact HB.out)⟩⟩
   next =>
    rw [if_neg c5] at H
    have c5b0 : decide (x10_1 < a0) = false := yhy c5
    clear c5
    replace H := ydy.mp H
    obtain ⟨t106, A130, H⟩ := H
    replace H : (if t106 = 0 then (none) else ((impl_matchingAt.f k1 (wrap64 (4 * a0)) (wrap64 (Int.tdiv a1 t106))).bind fun t107 => (impl_gluingAt.l1 k1 a1 t106 t107 (t107.length : Int) 0 x103000_1))) = some r := H
    have A13 := Aside0.mk A130
    clear A130
    by_cases c14 : t106 = 0
    next =>
     rw [if_pos c14] at H
     exact absurd H (by simp)
    next =>
     rw [if_neg c14] at H
     have c14b0 : (t106 == 0) = false := beq_eq_false_iff_ne.mpr c14
     have c14b1 : (t106 != 0) = true := bne_iff_ne.mpr c14
     replace H := ydy.mp H
     obtain ⟨t107, A150, H⟩ := H
     replace H : (impl_gluingAt.l1 k1 a1 t106 t107 (t107.length : Int) 0 x103000_1) = some r := H
     have A15 := Aside0.mk A150
     clear A150
     have H' := Aside0.mk H
     clear H
     go_wp2_with (first | ((with_reducible refine gate_callee (f := 31) rfl ?_); refine goesL_ (some 16) rfl rfl Try.func31 (by kernel_rfl) rfl #[.int .i64 a0] rfl (by (try simp only [yiy, yjy, yky]); first | done | rfl | (simp only [yly, ymy]; rfl)) ?_; (with_reducible refine (impl_gluings.calls k1 a0 t106 _ A13.out).mono ?_); rintro e w' ⟨rfl, ⟨nd, rfl⟩⟩; refine ⟨_, rfl, ?_⟩) | ((with_reducible refine gate_callee (f := 64) rfl ?_); refine goesL_ (some 22) rfl rfl Try.func64 (by kernel_rfl) rfl #[.int .i64 (wrap64 (4 * a0)), .int .i64 (wrap64 (Int.tdiv a1 t106))] rfl (by (try simp only [yiy, yjy, yky]); first | done | rfl | (simp only [yly, ymy]; rfl)) ?_; (with_reducible refine (impl_matchingAt.calls k1 (wrap64 (4 * a0)) (wrap64 (Int.tdiv a1 t106)) t107 _ A15.out).mono ?_); rintro e w16 ⟨v108, rfl, ho0, hb⟩; refine ⟨_, rfl, ?_⟩; have n0_ := Aside0.mk (Kd.S_below (by (with_reducible repeat (first | apply Kd.S_alloc | apply Kd.S_drewN | apply Kd.S_drew)); exact HO_103000.out) hb); have n1_ := Aside0.mk (Kd.R_lower ho0 (below_size (by repeat (first | (with_reducible first | exact HB.out | apply below_alloc | apply pw_below_drewN | apply below_drew1 | refine below_set ?_ GE101.out | refine below_set ?_ GE102.out) | exact HB.out)))); have n2_ := Aside0.mk (blk_below (g := gb101) (o := .cells #[.slice none 0 0] 30 (0, 0)) (by (with_reducible repeat (first | refine blk_drewN ?_ _ | refine blk_drew ?_ | refine blk_alloc ?_ _)); exact BK101.out) hb); have n3_ := Aside0.mk (blk_below (g := gb102) (o := .cells #[u103000] 30 (0, 0)) (by (with_reducible repeat (first | refine blk_drewN ?_ _ | refine blk_drew ?_ | refine blk_alloc ?_ _)); exact BK102.out) hb); have n4_ := Aside0.mk (below_step (by repeat (first | (with_reducible first | exact HB.out | apply below_alloc | apply pw_below_drewN | apply below_drew1 | refine below_set ?_ GE101.out | refine below_set ?_ GE102.out) | exact HB.out)) hb); clear HO_103000; clear BK101; clear BK102; clear HB; have HO_103000 := n0_; have HO109 := n1_; have BK101 := n2_; have BK102 := n3_; have HB := n4_; clear n0_ n1_ n2_ n3_ n4_; (try clear hb); (try clear hb2); (try clear hk); (try clear hi); (try clear ho0); obtain ⟨Ao17, co17, eo17⟩ := Kd.R_slice HO109.out; subst eo17))
     go_loopg [1, 6, 24] k1 (fun kq v1 v6 v24 w' => ∃ (x1_2 : Int) (x6_2 : Int) (x24_2 : Int) (x103000_2 : List (List (SFace))) (u103000 : Value), v1 = .int .i64 x1_2 ∧ v6 = .int .i64 x6_2 ∧ v24 = .int .i64 x24_2 ∧ Aside0 (impl_gluingAt.l1 kq x1_2 x6_2 t107 (t107.length : Int) x24_2 x103000_2 = some r) ∧ Aside0 (kq ≤ k1) ∧ Aside0 (Kd.R (Kd.int .i64) 2 w' w.heap.size (fun _ => True) (.slice Ao17 t107.length co17) t107) ∧ Aside0 (Kd.S (Kd.slice 47 kFace) 48 w' w.heap.size (fun _ => True) u103000 x103000_2) ∧ Aside0 (w'.heap[gb101]? = some (.cells #[(.slice none 0 0)] 30 (0, 0))) ∧ Aside0 (w'.heap[gb102]? = some (.cells #[u103000] 30 (0, 0))) ∧ Aside0 (Below w.heap.size w w'))
     case atStart => exact ⟨(a1), (t106), (0), (x103000_1), (u103000), (by first | rfl | (simp; done) | (simp [*]; done)), (by first | rfl | (simp; done) | (simp [*]; done)), (by first | rfl | (simp; done) | (simp [*]; done)), H', ⟨yoy _⟩, ⟨by (with_reducible repeat (first | apply Kd.R_alloc | apply Kd.R_drewN | apply Kd.R_drew)); exact HO109.out⟩, ⟨by (with_reducible repeat (first | apply Kd.S_alloc | apply Kd.S_drewN | apply Kd.S_drew)); exact HO_103000.out⟩, ⟨by (with_reducible repeat (first | refine blk_drewN ?_ _ | refine blk_drew ?_ | refine blk_alloc ?_ _)); exact BK101.out⟩, ⟨by (with_reducible repeat (first | refine blk_drewN ?_ _ | refine blk_drew ?_ | refine blk_alloc ?_ _)); exact BK102.out⟩, ⟨by repeat (first | (with_reducible first | exact HB.out | apply below_alloc | apply pw_below_drewN | apply below_drew1 | refine below_set ?_ GE101.out | refine below_set ?_ GE102.out) | exact HB.out)⟩⟩
     case round =>
      clear H'
      try clear c1
      try clear p2
      try clear c3
      try clear c5
      try clear c5b0
      try clear c6
      try clear p6
      try clear c7
      try clear c14
      try clear c14b0
      try clear c14b1
      try clear hcz12_0
      try clear hcz8_0
      try clear hfz12_0
      try clear hfz8_0
      try clear p2
      obtain ⟨x1_2, x6_2, x24_2, x103000_2, u103000, rfl, rfl, rfl, HA, HK2, HO_22, HO_103000, BK101, BK102, HB⟩ := hrel
      cases gk with
      | zero => exact absurd HA.out (by simp [impl_gluingAt.l1])
      | succ k2 =>
       have H := HA.out
       clear HA
       simp only [impl_gluingAt.l1] at H
       by_cases c18 : x24_2 < (t107.length : Int)
       rotate_left
       next =>
        rw [if_neg c18] at H
        have c18b0 : decide (x24_2 < (t107.length : Int)) = false := yhy c18
        clear c18
        obtain rfl := yey H
        have hnb34 := NB102_101.out
        have hnc34 := NB101_102.out
        have hcz35_0 : wr.cell? ⟨gb102, 0, none⟩ = some (u103000) := (blk_cell BK102.out 0).trans rfl
        have hfz35_0 := blk_frozen BK102.out 0
        obtain ⟨Ao36, co36, eo36⟩ := Kd.S_slice HO_103000.out
        subst eo36
        have hcz37_0 : wr.cell? ⟨gb101, 0, none⟩ = some (.slice none 0 0) := (blk_cell BK101.out 0).trans rfl
        have hfz37_0 := blk_frozen BK101.out 0
        go_wp2
        refine bodyPost_ret (results_cell_row rfl _ _ gb101 30 #[.slice Ao36 x103000_2.length co36] (0, 0) _ rfl (by (with_reducible repeat (first | refine blk_drewN ?_ _ | refine blk_drew ?_ | refine blk_alloc ?_ _)); refine blk_put (cs := #[.slice none 0 0]) ?_ 0 _ rfl; (with_reducible repeat (first | refine blk_drewN ?_ _ | refine blk_drew ?_ | refine blk_alloc ?_ _)); exact BK101.out) Try.underlying30 rfl (by kernel_rfl)) rfl ?_
        exact ⟨_, by first | rfl | (simp [errW_none, errW_some] <;> rfl) | (simp [*, errW_none, errW_some] <;> rfl), by (with_reducible repeat (first | apply Kd.S_alloc | apply Kd.S_drewN | apply Kd.S_drew)); exact Kd.S_mono (Kd.S_far (p := ⟨gb101, 0, none⟩) (Kd.S_types HO_103000.out BK101.out (by decide)) (fun _ hk => hk.2) (.slice Ao36 x103000_2.length co36)) (fun _ hk => trivial), by repeat (first | (with_reducible first | exact HB.out | apply below_alloc | apply pw_below_drewN | apply below_drew1 | refine below_set ?_ GE101.out | refine below_set ?_ GE102.out) | exact HB.out)⟩
       rw [if_pos c18] at H
       have c18b0 : decide (x24_2 < (t107.length : Int)) = true := ygy c18
       clear c18
       by_cases c19 : 0 ≤ x24_2
       rotate_left
       next =>
        rw [if_neg c19] at H
        exact absurd H (by simp)
       rw [if_pos c19] at H
       have c19b0 : decide (0 ≤ x24_2) = true := ygy c19
       clear c19
       by_cases c20 : x24_2 < (t107.length : Int)
       rotate_left
       next =>
        rw [if_neg c20] at H
        exact absurd H (by simp)
       rw [if_pos c20] at H
       have c20b0 : decide (x24_2 < (t107.length : Int)) = true := ygy c20
       clear c20
       by_cases c21 : x24_2 < (rd t107 x24_2)
       rotate_left
       next =>
        rw [if_neg c21] at H
        have c21b0 : decide (x24_2 < (rd t107 x24_2)) = false := yhy c21
        clear c21
        have H' := Aside0.mk H
        clear H
        have p110 : 0 ≤ (x24_2 : Int) := of_decide_eq_true (by first | (with_reducible assumption) | assumption)
        have q110 : x24_2 < (t107.length : Int) := of_decide_eq_true (by first | (with_reducible assumption) | assumption)
        obtain ⟨ad110, e110, hx110_0⟩ := Kd.at_int (Kd.R_reads' HO_22.out).2.2 x24_2 p110 q110
        cases e110
        replace p110 := eq_true p110
        replace q110 := eq_true q110
        go_wp2
        go_roundg k2
        case measure => have := HK1.out; have := HK2.out; omega
        case rel => exact ⟨(x1_2), (x6_2), (wrap64 (x24_2 + 1)), (x103000_2), (u103000), (by first | rfl | (simp; done) | (simp [*]; done)), (by first | rfl | (simp; done) | (simp [*]; done)), (by first | rfl | (simp; done) | (simp [*]; done)), H', ⟨by have := HK1.out; have := HK2.out; omega⟩, ⟨by (with_reducible repeat (first | apply Kd.R_alloc | apply Kd.R_drewN | apply Kd.R_drew)); exact HO_22.out⟩, ⟨by (with_reducible repeat (first | apply Kd.S_alloc | apply Kd.S_drewN | apply Kd.S_drew)); exact HO_103000.out⟩, ⟨by (with_reducible repeat (first | refine blk_drewN ?_ _ | refine blk_drew ?_ | refine blk_alloc ?_ _)); exact BK101.out⟩, ⟨by (with_reducible repeat (first | refine blk_drewN ?_ _ | refine blk_drew ?_ | refine blk_alloc ?_ _)); exact BK102.out⟩, ⟨by repeat (first | (with_reducible first | exact HB.out | apply below_alloc | apply pw_below_drewN | apply below_drew1 | refine below_set ?_ GE101.out | refine below_set ?_ GE102.out) | exact HB.out)⟩⟩
       rw [if_pos c21] at H
       have c21b0 : decide (x24_2 < (rd t107 x24_2)) = true := ygy c21
       clear c21
       by_cases c22 : x6_2 = 0
       next =>
        rw [if_pos c22] at H
        exact absurd H (by simp)
       next =>
        rw [if_neg c22] at H
        have c22b0 : (x6_2 == 0) = false := beq_eq_false_iff_ne.mpr c22
        have c22b1 : (x6_2 != 0) = true := bne_iff_ne.mpr c22
        replace H := ydy.mp H
        obtain ⟨t111, A230, H⟩ := H
        replace H : (if (wrap64 (Int.tdiv x6_2 6)) = 0 then (none) else (if 0 ≤ (wrap64 (Int.tdiv (Int.tmod x1_2 x6_2) (wrap64 (Int.tdiv x6_2 6)))) then (if (wrap64 (Int.tdiv (Int.tmod x1_2 x6_2) (wrap64 (Int.tdiv x6_2 6)))) < (t111.length : Int) then ((impl_Triangulation_glue.f x103000_2 (wrap64 (Int.tdiv x24_2 4)) (Int.tmod x24_2 4) (wrap64 (Int.tdiv (rd t107 x24_2) 4)) (rd t111 (wrap64 (Int.tdiv (Int.tmod x1_2 x6_2) (wrap64 (Int.tdiv x6_2 6)))))).bind fun t115 => (impl_gluingAt.l1 k2 (Int.tmod x1_2 x6_2) (wrap64 (Int.tdiv x6_2 6)) t107 (t107.length : Int) (wrap64 (x24_2 + 1)) t115)) else (none)) else (none))) = some r := H
        have A23 := Aside0.mk A230
        clear A230
        by_cases c24 : (wrap64 (Int.tdiv x6_2 6)) = 0
        next =>
         rw [if_pos c24] at H
         exact absurd H (by simp)
        next =>
         rw [if_neg c24] at H
         have c24b0 : ((wrap64 (Int.tdiv x6_2 6)) == 0) = false := beq_eq_false_iff_ne.mpr c24
         have c24b1 : ((wrap64 (Int.tdiv x6_2 6)) != 0) = true := bne_iff_ne.mpr c24
         obtain ⟨ji25, hji25⟩ : ∃ j_ : Int, (wrap64 (Int.tdiv (Int.tmod x1_2 x6_2) (wrap64 (Int.tdiv x6_2 6)))) = j_ := ⟨_, rfl⟩
         replace H : (if 0 ≤ (ji25) then (if (ji25) < (t111.length : Int) then ((impl_Triangulation_glue.f x103000_2 (wrap64 (Int.tdiv x24_2 4)) (Int.tmod x24_2 4) (wrap64 (Int.tdiv (rd t107 x24_2) 4)) (rd t111 (ji25))).bind fun t115 => (impl_gluingAt.l1 k2 (Int.tmod x1_2 x6_2) (wrap64 (Int.tdiv x6_2 6)) t107 (t107.length : Int) (wrap64 (x24_2 + 1)) t115)) else (none)) else (none)) = some r := by first | (rw [hji25] at H; exact H) | (simp only [hji25] at H ⊢; exact H)
         (try rw [hji25] at A23)
         have hji25w : (IntKind.i64.wrap (Int.tdiv (Int.tmod x1_2 x6_2) (wrap64 (Int.tdiv x6_2 6)))) = ji25 := (i64_w _).trans hji25
         by_cases c26 : 0 ≤ (ji25)
         rotate_left
         next =>
          rw [if_neg c26] at H
          exact absurd H (by simp)
         rw [if_pos c26] at H
         have c26b0 : decide (0 ≤ (ji25)) = true := ygy c26
         clear c26
         by_cases c27 : (ji25) < (t111.length : Int)
         rotate_left
         next =>
          rw [if_neg c27] at H
          exact absurd H (by simp)
         rw [if_pos c27] at H
         have c27b0 : decide ((ji25) < (t111.length : Int)) = true := ygy c27
         clear c27
         replace H := ydy.mp H
         obtain ⟨t115, A280, H⟩ := H
         replace H : (impl_gluingAt.l1 k2 (Int.tmod x1_2 x6_2) (wrap64 (Int.tdiv x6_2 6)) t107 (t107.length : Int) (wrap64 (x24_2 + 1)) t115) = some r := H
         have A28 := Aside0.mk A280
         clear A280
         have H' := Aside0.mk H
         clear H
         have p110 : 0 ≤ (x24_2 : Int) := of_decide_eq_true (by first | (with_reducible assumption) | assumption)
         have q110 : x24_2 < (t107.length : Int) := of_decide_eq_true (by first | (with_reducible assumption) | assumption)
         obtain ⟨ad110, e110, hx110_0⟩ := Kd.at_int (Kd.R_reads' HO_22.out).2.2 x24_2 p110 q110
         cases e110
         replace p110 := eq_true p110
         replace q110 := eq_true q110
         try go_wp2
         have n0_ := Aside0.mk (Kd.R_drew HO_22.out)
         have n1_ := Aside0.mk (Kd.S_drew HO_103000.out)
         have n2_ := Aside0.mk (blk_drew BK101.out)
         have n3_ := Aside0.mk (blk_drew BK102.out)
         have n4_ := Aside0.mk (below_drew1 HB.out)
         clear HO_22
         clear HO_103000
         clear BK101
         clear BK102
         clear HB
         have HO_22 := n0_
         have HO_103000 := n1_
         have BK101 := n2_
         have BK102 := n3_
         have HB := n4_
         clear n0_ n1_ n2_ n3_ n4_
         refine start_ (n := 18) (S := fun w' => w'.cell? ⟨gb102, 0, none⟩ = some (u103000)) (ds := []) #[false, false, false, false, false, false, false, false, false, false, false, false, false, false, false, false, false, false] (by kernel_rfl) rfl rfl ((blk_cell BK102.out 0).trans rfl) (fun hHeld => ?_); refine with_tabW impl_gluingAt.tab13 impl_gluingAt.bits13 (fun HT_ HW_ => ?_)
         generalize wr.drew = w29 at HO_22 HO_103000 BK101 BK102 HB hHeld ⊢
         refine pure_ (i := 1) (N := some 38) (v := ?_) (a' := ?_) #[false, true, false, false, false, false, false, false, false, false, false, false, false, false, false, false, false, false] rfl rfl (any_of HT_.out (by kernel_rfl)) (fun _ _ _ h => h) (Or.inl ⟨by rfl, ?_⟩) ?_ ?_
         rotate_left
         next =>
          intro w'
          go_simp
          with_reducible rfl
         rotate_left
         next =>
          simp only [Act.put, yay, yby, ycy, i64_w, i32_w]
          rfl
         refine pure_ (i := 2) (N := some 39) (v := ?_) (a' := ?_) #[false, true, true, false, false, false, false, false, false, false, false, false, false, false, false, false, false, false] rfl rfl (any_of HT_.out (by kernel_rfl)) (fun _ _ _ h => h) (Or.inl ⟨by rfl, ?_⟩) ?_ ?_
         rotate_left
         next =>
          intro w'
          go_simp
          with_reducible rfl
         rotate_left
         next =>
          simp only [Act.put, yay, yby, ycy, i64_w, i32_w]
          rfl
         refine pure_ (i := 3) (N := some 40) (v := ?_) (a' := ?_) #[false, true, true, true, false, false, false, false, false, false, false, false, false, false, false, false, false, false] rfl rfl (any_of HT_.out (by kernel_rfl)) (fun _ _ _ h => h) (Or.inl ⟨by rfl, ?_⟩) ?_ ?_
         rotate_left
         next =>
          intro w'
          go_simp
          with_reducible rfl
         rotate_left
         next =>
          simp only [Act.put, yay, yby, ycy, i64_w, i32_w]
          rfl
         refine pure_ (i := 4) (N := some 41) (v := ?_) (a' := ?_) #[false, true, true, true, true, false, false, false, false, false, false, false, false, false, false, false, false, false] rfl rfl (any_of HT_.out (by kernel_rfl)) (fun _ _ _ h => h) (Or.inl ⟨by rfl, ?_⟩) ?_ ?_
         rotate_left
         next =>
          intro w'
          go_simp
          with_reducible rfl
         rotate_left
         next =>
          simp only [Act.put, yay, yby, ycy, i64_w, i32_w]
          rfl
         refine pure_ (i := 5) (N := some 42) (v := ?_) (a' := ?_) #[false, true, true, true, true, true, false, false, false, false, false, false, false, false, false, false, false, false] rfl rfl (any_of HT_.out (by kernel_rfl)) (fun _ _ _ h => h) (Or.inl ⟨by rfl, ?_⟩) ?_ ?_
         rotate_left
         next =>
          intro w'
          go_simp
          with_reducible rfl
         rotate_left
         next =>
          simp only [Act.put, yay, yby, ycy, i64_w, i32_w]
          rfl
         refine pure_ (i := 6) (N := some 43) (v := ?_) (a' := ?_) #[false, true, true, true, true, true, true, false, false, false, false, false, false, false, false, false, false, false] rfl rfl (any_of HT_.out (by kernel_rfl)) (fun _ _ _ h => h) (Or.inl ⟨by rfl, ?_⟩) ?_ ?_
         rotate_left
         next =>
          intro w'
          go_simp
          with_reducible rfl
         rotate_left
         next =>
          simp only [Act.put, yay, yby, ycy, i64_w, i32_w]
          rfl
         refine pure_ (i := 7) (N := some 44) (v := ?_) (a' := ?_) #[false, true, true, true, true, true, true, true, false, false, false, false, false, false, false, false, false, false] rfl rfl (any_of HT_.out (by kernel_rfl)) (fun _ _ _ h => h) (Or.inl ⟨by rfl, ?_⟩) ?_ ?_
         rotate_left
         next =>
          intro w'
          go_simp
          with_reducible rfl
         rotate_left
         next =>
          simp only [Act.put, yay, yby, ycy, i64_w, i32_w]
          rfl
         refine pure_ (i := 8) (N := some 45) (v := ?_) (a' := ?_) #[false, true, true, true, true, true, true, true, true, false, false, false, false, false, false, false, false, false] rfl rfl (any_of HT_.out (by kernel_rfl)) (fun _ _ _ h => h) (Or.inl ⟨by rfl, ?_⟩) ?_ ?_
         rotate_left
         next =>
          intro w'
          go_simp
          with_reducible rfl
         rotate_left
         next =>
          simp only [Act.put, yay, yby, ycy, i64_w, i32_w]
          rfl
         refine pure_ (i := 9) (N := some 46) (v := ?_) (a' := ?_) #[false, true, true, true, true, true, true, true, true, true, false, false, false, false, false, false, false, false] rfl rfl (any_of HT_.out (by kernel_rfl)) (fun _ _ _ h => h) (Or.inl ⟨by rfl, ?_⟩) ?_ ?_
         rotate_left
         next =>
          intro w'
          go_simp
          with_reducible rfl
         rotate_left
         next =>
          simp only [Act.put, yay, yby, ycy, i64_w, i32_w]
          rfl
         refine pure_ (i := 10) (N := some 47) (v := ?_) (a' := ?_) #[false, true, true, true, true, true, true, true, true, true, true, false, false, false, false, false, false, false] rfl rfl (any_of HT_.out (by kernel_rfl)) (fun _ _ _ h => h) (Or.inl ⟨by rfl, ?_⟩) ?_ ?_
         rotate_left
         next =>
          intro w'
          go_simp
          with_reducible rfl
         rotate_left
         next =>
          simp only [Act.put, yay, yby, ycy, i64_w, i32_w]
          rfl
         refine pure_ (i := 12) (N := some 49) (v := ?_) (a' := ?_) #[false, true, true, true, true, true, true, true, true, true, true, false, true, false, false, false, false, false] rfl rfl (any_of HT_.out (by kernel_rfl)) (fun _ _ _ h => h) (Or.inl ⟨by rfl, ?_⟩) ?_ ?_
         rotate_left
         next =>
          intro w'
          go_simp
          with_reducible rfl
         rotate_left
         next =>
          simp only [Act.put, yay, yby, ycy, i64_w, i32_w]
          rfl
         refine pure_ (i := 13) (N := some 50) (v := ?_) (a' := ?_) #[false, true, true, true, true, true, true, true, true, true, true, false, true, true, false, false, false, false] rfl rfl (any_of HT_.out (by kernel_rfl)) (fun _ _ _ h => h) (Or.inl ⟨by rfl, ?_⟩) ?_ ?_
         rotate_left
         next =>
          intro w'
          go_simp
          with_reducible rfl
         rotate_left
         next =>
          simp only [Act.put, yay, yby, ycy, i64_w, i32_w]
          rfl
         refine pure_ (i := 14) (N := some 51) (v := ?_) (a' := ?_) #[false, true, true, true, true, true, true, true, true, true, true, false, true, true, true, false, false, false] rfl rfl (any_of HT_.out (by kernel_rfl)) (fun _ _ _ h => h) (Or.inl ⟨by rfl, ?_⟩) ?_ ?_
         rotate_left
         next =>
          intro w'
          go_simp
          with_reducible rfl
         rotate_left
         next =>
          simp only [Act.put, yay, yby, ycy, i64_w, i32_w]
          rfl
         refine take_ (i := 0) (N := some 37) (v := ?_) (a' := ?_) #[true, true, true, true, true, true, true, true, true, true, true, false, true, true, true, false, false, false] rfl rfl (take_ofW HT_.out HW_.out (by kernel_rfl)) (fun _ _ _ h => h) (Or.inl ⟨by rfl, ?_⟩) hHeld ?_ ?_
         rotate_left
         next =>
          intro w' s0
          go_simp
          with_reducible rfl
         rotate_left
         next =>
          simp only [Act.put, yay, yby, ycy, i64_w, i32_w]
          rfl
         refine one_ (i := 11) (N := some 48) #[true, true, true, true, true, true, true, true, true, true, true, true, true, true, true, false, false, false] rfl rfl (one_of HT_.out (by kernel_rfl)) (by decide) (fun K hK => ?_)
         refine goes_ Try.func29 (by kernel_rfl) rfl #[.int .i64 (Int.tmod x24_2 4), .int .i64 (Int.tmod (rd t107 x24_2) 4)] (by rfl) rfl rfl (by (try simp only [yiy, yjy, yky]); first | done | rfl | (simp only [yly, ymy]; rfl)) ?_
         with_reducible refine (impl_mapping.calls (Int.tmod x24_2 4) (Int.tmod (rd t107 x24_2) 4) t111 _ A23.out).mono ?_
         rintro e w30 ⟨v112, rfl, ho0, hb⟩
         refine ⟨_, rfl, ?_⟩
         have n0_ := Aside0.mk (Kd.R_elder' (by (with_reducible repeat (first | apply Kd.R_alloc | apply Kd.R_drewN | apply Kd.R_drew)); exact HO_22.out) (Kd.R_base ho0) hb)
         have n1_ := Aside0.mk (Kd.S_below (by (with_reducible repeat (first | apply Kd.S_alloc | apply Kd.S_drewN | apply Kd.S_drew)); exact HO_103000.out) hb)
         have n2_ := Aside0.mk (Kd.R_lower (Kd.R_new' ho0 (Kd.R_lt (by (with_reducible repeat (first | apply Kd.R_alloc | apply Kd.R_drewN | apply Kd.R_drew)); exact HO_22.out))) (below_size (by repeat (first | (with_reducible first | exact HB.out | apply below_alloc | apply pw_below_drewN | apply below_drew1 | refine below_set ?_ GE101.out | refine below_set ?_ GE102.out) | exact HB.out))))
         have n3_ := Aside0.mk (blk_below (g := gb101) (o := .cells #[.slice none 0 0] 30 (0, 0)) (by (with_reducible repeat (first | refine blk_drewN ?_ _ | refine blk_drew ?_ | refine blk_alloc ?_ _)); exact BK101.out) hb)
         have n4_ := Aside0.mk (blk_below (g := gb102) (o := .cells #[u103000] 30 (0, 0)) (by (with_reducible repeat (first | refine blk_drewN ?_ _ | refine blk_drew ?_ | refine blk_alloc ?_ _)); exact BK102.out) hb)
         have n5_ := Aside0.mk (below_step (by repeat (first | (with_reducible first | exact HB.out | apply below_alloc | apply pw_below_drewN | apply below_drew1 | refine below_set ?_ GE101.out | refine below_set ?_ GE102.out) | exact HB.out)) hb)
         clear HO_22
         clear HO_103000
         clear BK101
         clear BK102
         clear HB
         have HO_22 := n0_
         have HO_103000 := n1_
         have HO113 := n2_
         have BK101 := n3_
         have BK102 := n4_
         have HB := n5_
         clear n0_ n1_ n2_ n3_ n4_ n5_
         (try clear hb)
         (try clear hb2)
         (try clear hk)
         (try clear hi)
         (try clear ho0)
         obtain ⟨Ao31, co31, eo31⟩ := Kd.R_slice HO113.out
         (first | subst eo31 | (injection eo31 with f1_ f2_ f3_; have f4_ := f1_.symm; have f5_ := f3_.symm; clear f1_ f2_ f3_; subst f4_; subst f5_))
         have p114 : 0 ≤ ((ji25) : Int) := of_decide_eq_true (by first | (with_reducible assumption) | assumption)
         have q114 : (ji25) < (t111.length : Int) := of_decide_eq_true (by first | (with_reducible assumption) | assumption)
         obtain ⟨ad114, e114, hx114_0⟩ := Kd.at_int (Kd.R_reads' HO113.out).2.2 (ji25) p114 q114
         cases e114
         replace p114 := eq_true p114
         replace q114 := eq_true q114
         obtain ⟨Ao32, co32, eo32⟩ := Kd.S_slice HO_103000.out
         (first | subst eo32 | (injection eo32 with f1_ f2_ f3_; have f4_ := f1_.symm; have f5_ := f3_.symm; clear f1_ f2_ f3_; subst f4_; subst f5_))
         refine hK.out _ _ ((blk_cell BK102.out 0).trans rfl) (fun hHeld => ?_)
         clear hK K
         refine norm_ (a' := ?_) ?_ ?_
         rotate_left
         next =>
          show Act.put _ (some 48) _ = _
          simp only [Act.put, yay, yby, ycy, i64_w, i32_w]
          rfl
         refine pure_ (i := 15) (N := some 52) (v := ?_) (a' := ?_) #[true, true, true, true, true, true, true, true, true, true, true, true, true, true, true, true, false, false] rfl rfl (any_of HT_.out (by kernel_rfl)) (fun _ _ _ h => h) (Or.inl ⟨by rfl, ?_⟩) ?_ ?_
         rotate_left
         next =>
          intro w'
          go_simp
          with_reducible rfl
         rotate_left
         next =>
          simp only [Act.put, yay, yby, ycy, i64_w, i32_w]
          rfl
         refine one_ (i := 16) (N := some 53) #[true, true, true, true, true, true, true, true, true, true, true, true, true, true, true, true, true, false] rfl rfl (one_of HT_.out (by kernel_rfl)) (by decide) (fun K hK => ?_)
         refine impl_gluingAt.look_ (v := ?_) (by rfl) rfl ?_ ?_
         rotate_left
         next =>
          go_simp
          rfl
         refine hK.out _ _ hHeld (fun hHeld => ?_)
         clear hK K
         refine norm_ (a' := ?_) ?_ ?_
         rotate_left
         next =>
          show Act.put _ (some 53) _ = _
          simp only [Act.put, yay, yby, ycy, i64_w, i32_w]
          rfl
         refine one_ (i := 17) (N := some 54) #[true, true, true, true, true, true, true, true, true, true, true, true, true, true, true, true, true, true] rfl rfl (one_of HT_.out (by kernel_rfl)) (by decide) (fun K hK => ?_)
         refine goes_ Try.func65 (by kernel_rfl) rfl #[.agg #[.slice Ao32 x103000_2.length co32], .int .i64 (wrap64 (Int.tdiv x24_2 4)), .int .i64 (Int.tmod x24_2 4), .int .i64 (wrap64 (Int.tdiv (rd t107 x24_2) 4)), .int .i64 (rd t111 (ji25))] (by rfl) rfl rfl (by (try simp only [yiy, yjy, yky]); first | done | (simp only [hji25]; rfl) | rfl | (simp only [yly, ymy]; rfl)) ?_
         with_reducible refine (impl_Triangulation_glue.calls _ (.slice Ao32 x103000_2.length co32) x103000_2 (wrap64 (Int.tdiv x24_2 4)) (Int.tmod x24_2 4) (wrap64 (Int.tdiv (rd t107 x24_2) 4)) (rd t111 (ji25)) t115 w _ ?side1 (Kd.S_mono (Kd.S_bound (HO_103000.out)) (fun _ h_ => h_.2.2.2)) A28.out).mono ?_
         (case side1 => repeat (first | (with_reducible first | exact HB.out | apply below_alloc | apply pw_below_drewN | apply below_drew1 | refine below_set ?_ GE101.out | refine below_set ?_ GE102.out) | exact HB.out))
         rintro e w33 ⟨rfl, hy0, hb, hkp⟩
         refine ⟨_, rfl, ?_⟩
         have n0_ := Aside0.mk (impl_gluingAt.int_kept (ok' := fun k_ => some k_ ≠ (.slice (some ad114) t111.length co31 : Value).ownBlock) HO_22.out hkp (fun k_ hk_ => by obtain ⟨q_, hq_, c_, hc_⟩ := hk_; exact ⟨q_, fun e_ => by subst e_; revert hq_; decide, c_, hc_⟩) (fun k_ hk_ => (HO_22.out.1 k_ hk_).2))
         have n1_ := Aside0.mk (Kd.S_mono hy0 (fun _ _ => trivial))
         have n2_ := Aside0.mk (blk_kept (by (with_reducible repeat (first | refine blk_drewN ?_ _ | refine blk_drew ?_ | refine blk_alloc ?_ _)); exact BK101.out) hkp (fun hs_ => (fun e_ => by obtain ⟨q_, hq_, c_, hc_⟩ := e_; have h2_ := (BK101.out).symm.trans hc_; injection h2_ with h2_; injection h2_ with _ h2_; subst h2_; revert hq_; decide) hs_))
         have n3_ := Aside0.mk (blk_kept (by (with_reducible repeat (first | refine blk_drewN ?_ _ | refine blk_drew ?_ | refine blk_alloc ?_ _)); exact BK102.out) hkp (fun hs_ => (fun e_ => by obtain ⟨q_, hq_, c_, hc_⟩ := e_; have h2_ := (BK102.out).symm.trans hc_; injection h2_ with h2_; injection h2_ with _ h2_; subst h2_; revert hq_; decide) hs_))
         have n4_ := Aside0.mk (impl_gluingAt.int_kept (ok' := fun k_ => some k_ ≠ (.slice (some ad110) t107.length co17 : Value).ownBlock) HO113.out hkp (fun k_ hk_ => by obtain ⟨q_, hq_, c_, hc_⟩ := hk_; exact ⟨q_, fun e_ => by subst e_; revert hq_; decide, c_, hc_⟩) (fun k_ hk_ => (HO113.out.1 k_ hk_).2))
         have n5_ := Aside0.mk (hb)
         clear HO_22
         clear HO_103000
         clear BK101
         clear BK102
         clear HO113
         clear HB
         have HO_22 := n0_
         have HO_103000 := n1_
         have BK101 := n2_
         have BK102 := n3_
         have HO113 := n4_
         have HB := n5_
         clear n0_ n1_ n2_ n3_ n4_ n5_
         (try clear hb)
         (try clear hkp)
         (try clear hy0)
         refine hK.out _ _ ((blk_cell BK102.out 0).trans rfl) (fun hHeld => ?_)
         clear hK K
         refine norm_ (a' := ?_) ?_ ?_
         rotate_left
         next =>
          show Act.put _ (some 54) _ = _
          simp only [Act.put, yay, yby, ycy, i64_w, i32_w]
          rfl
         refine done_ (done_of HT_.out (by kernel_rfl)) ?_
         try go_wp2
         go_roundg k2
         case measure => have := HK1.out; have := HK2.out; omega
         case rel => exact ⟨(Int.tmod x1_2 x6_2), (wrap64 (Int.tdiv x6_2 6)), (wrap64 (x24_2 + 1)), (t115), (.slice Ao32 x103000_2.length co32), (by first | rfl | (simp; done) | (simp [*]; done)), (by first | rfl | (simp; done) | (simp [*]; done)), (by first | rfl | (simp; done) | (simp [*]; done)), H', ⟨by have := HK1.out; have := HK2.out; omega⟩, ⟨by (with_reducible repeat (first | apply Kd.R_alloc | apply Kd.R_drewN | apply Kd.R_drew)); exact Kd.R_mono HO_22.out (fun _ hk => trivial)⟩, ⟨by (with_reducible repeat (first | apply Kd.S_alloc | apply Kd.S_drewN | apply Kd.S_drew)); exact HO_103000.out⟩, ⟨by (with_reducible repeat (first | refine blk_drewN ?_ _ | refine blk_drew ?_ | refine blk_alloc ?_ _)); exact BK101.out⟩, ⟨by (with_reducible repeat (first | refine blk_drewN ?_ _ | refine blk_drew ?_ | refine blk_alloc ?_ _)); exact BK102.out⟩, ⟨by repeat (first | (with_reducible first | exact HB.out | apply below_alloc | apply pw_below_drewN | apply below_drew1 | refine below_set ?_ GE101.out | refine below_set ?_ GE102.out) | exact HB.out)⟩⟩
/-! ### impl_GluingAt: function 12 -/
def impl_GluingAt.f (k : Nat) (a0 : Int) (a1 : Int) : Option ((List (List (SFace))) × Int) := (impl_inRange.f a0 1 4).bind fun t102 => (if t102 = true then ((impl_GluingCount.f k a0).bind fun t103 => ((impl_inRange.f a1 0 (wrap64 (t103 - 1))).bind fun t104 => (if t104 = true then ((impl_gluingAt.f k a0 a1).bind fun t105 => (some (t105, 0))) else (some (([] : List (List (SFace))), 4))))) else (some (([] : List (List (SFace))), 2)))
set_option maxHeartbeats 8000000 in
set_option maxRecDepth 100000 in
theorem impl_GluingAt.calls (k : Nat) (a0 : Int) (a1 : Int) (r1 : List (List (SFace))) (r2 : Int) (w : World) (h : impl_GluingAt.f k a0 a1 = some (r1, r2)) :
    Calls Try.prog 12 #[.int .i64 a0, .int .i64 a1] w fun e w' => ∃ v0_ : Value, e = .returned (.tuple #[.agg #[v0_], .int .i64 r2]) ∧ Kd.S (Kd.slice 47 kFace) 48 w' w.heap.size (fun _ => True) v0_ r1 ∧ Below w.heap.size w w' := by
  have hu30 := Try.underlying30
  have HB := Aside0.mk (Below.refl w.heap.size w)
  have H : ((impl_inRange.f a0 1 4).bind fun t102 => (if t102 = true then ((impl_GluingCount.f k a0).bind fun t103 => ((impl_inRange.f a1 0 (wrap64 (t103 - 1))).bind fun t104 => (if t104 = true then ((impl_gluingAt.f k a0 a1).bind fun t105 => (some (t105, 0))) else (some (([] : List (List (SFace))), 4))))) else (some (([] : List (List (SFace))), 2)))) = some (r1, r2) := h
  clear h
  replace H := ydy.mp H
  obtain ⟨t102, A30, H⟩ := H
  replace H : (if t102 = true then ((impl_GluingCount.f k a0).bind fun t103 => ((impl_inRange.f a1 0 (wrap64 (t103 - 1))).bind fun t104 => (if t104 = true then ((impl_gluingAt.f k a0 a1).bind fun t105 => (some (t105, 0))) else (some (([] : List (List (SFace))), 4))))) else (some (([] : List (List (SFace))), 2))) = some (r1, r2) := H
  have A3 := Aside0.mk A30
  clear A30
  by_cases c4 : t102 = true
  · subst c4
    have H1 : ((impl_GluingCount.f k a0).bind fun t103 => ((impl_inRange.f a1 0 (wrap64 (t103 - 1))).bind fun t104 => (if t104 = true then ((impl_gluingAt.f k a0 a1).bind fun t105 => (some (t105, 0))) else (some (([] : List (List (SFace))), 4))))) = some (r1, r2) := by rw [if_pos rfl] at H; exact H
    clear H
    have H := H1
    clear H1
    replace H := ydy.mp H
    obtain ⟨t103, A50, H⟩ := H
    replace H : ((impl_inRange.f a1 0 (wrap64 (t103 - 1))).bind fun t104 => (if t104 = true then ((impl_gluingAt.f k a0 a1).bind fun t105 => (some (t105, 0))) else (some (([] : List (List (SFace))), 4)))) = some (r1, r2) := H
    have A5 := Aside0.mk A50
    clear A50
    replace H := ydy.mp H
    obtain ⟨t104, A60, H⟩ := H
    replace H : (if t104 = true then ((impl_gluingAt.f k a0 a1).bind fun t105 => (some (t105, 0))) else (some (([] : List (List (SFace))), 4))) = some (r1, r2) := H
    have A6 := Aside0.mk A60
    clear A60
    by_cases c7 : t104 = true
    · subst c7
      have H1 : ((impl_gluingAt.f k a0 a1).bind fun t105 => (some (t105, 0))) = some (r1, r2) := by rw [if_pos rfl] at H; exact H
      clear H
      have H := H1
      clear H1
      replace H := ydy.mp H
      obtain ⟨t105, A80, H⟩ := H
      replace H : (some (t105, 0)) = some (r1, r2) := H
      have A8 := Aside0.mk A80
      clear A80
      simp only [Option.some.injEq, Prod.mk.injEq] at H
      obtain ⟨rfl, rfl⟩ := H
      go_enter Try.func12, Try.ntmps12
      go_wp2_with (first | ((with_reducible refine gate_dst (N := 4) rfl ?_); refine box_event ?hg (N := 4) ?hd (cs := #[.slice none 0 0]) (t := 30) ?hr ?_; (case hd => rfl); (case hg => rfl); (case hr => first | (go_simp; done) | (go_simp; rfl)); intro gb101 hg w9 hbox hb; have n0_ := Aside0.mk (below_step (by repeat (first | (with_reducible first | exact HB.out | apply below_alloc | apply pw_below_drewN | apply below_drew1) | exact HB.out)) hb); have n1_ := Aside0.mk (hbox); have n2_ := Aside0.mk ((by rw [hg]; exact (below_size (by repeat (first | (with_reducible first | exact HB.out | apply below_alloc | apply pw_below_drewN | apply below_drew1) | exact HB.out))) : w.heap.size ≤ gb101)); have n3_ := Aside0.mk ((by rw [hg]; exact (below_size (by repeat (first | (with_reducible first | exact HB.out | apply below_alloc | apply pw_below_drewN | apply below_drew1) | exact HB.out))) : w.heap.size ≤ gb101)); clear HB; have HB := n0_; have BK101 := n1_; have GW101 := n2_; have GE101 := n3_; clear n0_ n1_ n2_ n3_; clear hb hbox hg) | ((with_reducible refine gate_callee (f := 37) rfl ?_); refine goesL_ (some 8) rfl rfl Try.func37 (by kernel_rfl) rfl #[.int .i64 a0, .int .i64 1, .int .i64 4] rfl (by (try simp only [yiy, yjy, yky]); first | done | rfl | (simp only [yly, ymy]; rfl)) ?_; (with_reducible refine (impl_inRange.calls a0 1 4 true _ A3.out).mono ?_); rintro e w' ⟨rfl, ⟨nd, rfl⟩⟩; refine ⟨_, rfl, ?_⟩; (try (rw [drewN_self w9]; generalize hq_ : World.drewN w9 _ = w9; have n0_ : Aside0 (w9.heap[gb101]? = some (.cells #[.slice none 0 0] 30 (0, 0))) := ⟨by rw [← hq_]; exact (by (with_reducible repeat (first | refine blk_drewN ?_ _ | refine blk_drew ?_ | refine blk_alloc ?_ _)); exact BK101.out)⟩; have n1_ : Aside0 (Below w.heap.size w w9) := ⟨by rw [← hq_]; exact (by repeat (first | (with_reducible first | exact HB.out | apply below_alloc | apply pw_below_drewN | apply below_drew1 | refine below_set ?_ GE101.out) | exact HB.out))⟩; clear BK101 HB hq_; have BK101 := n0_; have HB := n1_; clear n0_ n1_))) | ((with_reducible refine gate_callee (f := 38) rfl ?_); refine goesL_ (some 14) rfl rfl Try.func38 (by kernel_rfl) rfl #[.int .i64 a0] rfl (by (try simp only [yiy, yjy, yky]); first | done | rfl | (simp only [yly, ymy]; rfl)) ?_; (with_reducible refine (impl_GluingCount.calls k a0 t103 _ A5.out).mono ?_); rintro e w' ⟨rfl, ⟨nd, rfl⟩⟩; refine ⟨_, rfl, ?_⟩; (try (rw [drewN_self w9]; generalize hq_ : World.drewN w9 _ = w9; have n0_ : Aside0 (w9.heap[gb101]? = some (.cells #[.slice none 0 0] 30 (0, 0))) := ⟨by rw [← hq_]; exact (by (with_reducible repeat (first | refine blk_drewN ?_ _ | refine blk_drew ?_ | refine blk_alloc ?_ _)); exact BK101.out)⟩; have n1_ : Aside0 (Below w.heap.size w w9) := ⟨by rw [← hq_]; exact (by repeat (first | (with_reducible first | exact HB.out | apply below_alloc | apply pw_below_drewN | apply below_drew1 | refine below_set ?_ GE101.out) | exact HB.out))⟩; clear BK101 HB hq_; have BK101 := n0_; have HB := n1_; clear n0_ n1_))) | ((with_reducible refine gate_callee (f := 37) rfl ?_); refine goesL_ (some 16) rfl rfl Try.func37 (by kernel_rfl) rfl #[.int .i64 a1, .int .i64 0, .int .i64 (wrap64 (t103 - 1))] rfl (by (try simp only [yiy, yjy, yky]); first | done | rfl | (simp only [yly, ymy]; rfl)) ?_; (with_reducible refine (impl_inRange.calls a1 0 (wrap64 (t103 - 1)) true _ A6.out).mono ?_); rintro e w' ⟨rfl, ⟨nd, rfl⟩⟩; refine ⟨_, rfl, ?_⟩; (try (rw [drewN_self w9]; generalize hq_ : World.drewN w9 _ = w9; have n0_ : Aside0 (w9.heap[gb101]? = some (.cells #[.slice none 0 0] 30 (0, 0))) := ⟨by rw [← hq_]; exact (by (with_reducible repeat (first | refine blk_drewN ?_ _ | refine blk_drew ?_ | refine blk_alloc ?_ _)); exact BK101.out)⟩; have n1_ : Aside0 (Below w.heap.size w w9) := ⟨by rw [← hq_]; exact (by repeat (first | (with_reducible first | exact HB.out | apply below_alloc | apply pw_below_drewN | apply below_drew1 | refine below_set ?_ GE101.out) | exact HB.out))⟩; clear BK101 HB hq_; have BK101 := n0_; have HB := n1_; clear n0_ n1_))) | ((with_reducible refine gate_callee (f := 39) rfl ?_); refine goesL_ (some 21) rfl rfl Try.func39 (by kernel_rfl) rfl #[.int .i64 a0, .int .i64 a1] rfl (by (try simp only [yiy, yjy, yky]); first | done | rfl | (simp only [yly, ymy]; rfl)) ?_; (with_reducible refine (impl_gluingAt.calls k a0 a1 t105 _ A8.out).mono ?_); rintro e w10 ⟨v106, rfl, ho0, hb⟩; refine ⟨_, rfl, ?_⟩; have n0_ := Aside0.mk (Kd.S_lower ho0 (below_size (by repeat (first | (with_reducible first | exact HB.out | apply below_alloc | apply pw_below_drewN | apply below_drew1 | refine below_set ?_ GE101.out) | exact HB.out)))); have n1_ := Aside0.mk (blk_below (g := gb101) (o := .cells #[.slice none 0 0] 30 (0, 0)) (by (with_reducible repeat (first | refine blk_drewN ?_ _ | refine blk_drew ?_ | refine blk_alloc ?_ _)); exact BK101.out) hb); have n2_ := Aside0.mk (below_step (by repeat (first | (with_reducible first | exact HB.out | apply below_alloc | apply pw_below_drewN | apply below_drew1 | refine below_set ?_ GE101.out) | exact HB.out)) hb); clear BK101; clear HB; have HO107 := n0_; have BK101 := n1_; have HB := n2_; clear n0_ n1_ n2_; (try clear hb); (try clear hb2); (try clear hk); (try clear hi); (try clear ho0); obtain ⟨Ao11, co11, eo11⟩ := Kd.S_slice HO107.out; subst eo11; have hcz12_0 : w10.cell? ⟨gb101, 0, none⟩ = some (.slice none 0 0) := (blk_cell BK101.out 0).trans rfl; have hfz12_0 := blk_frozen BK101.out 0))
      refine bodyPost_ret (results_ct rfl _ _ gb101 30 #[.slice Ao11 t105.length co11] (0, 0) _ rfl (by (with_reducible repeat (first | refine blk_drewN ?_ _ | refine blk_drew ?_ | refine blk_alloc ?_ _)); refine blk_put (cs := #[.slice none 0 0]) ?_ 0 _ rfl; (with_reducible repeat (first | refine blk_drewN ?_ _ | refine blk_drew ?_ | refine blk_alloc ?_ _)); exact BK101.out) Try.underlying30 rfl (by kernel_rfl)) rfl ?_
      exact ⟨_, by first | rfl | (simp [errW_none, errW_some] <;> rfl) | (simp [*, errW_none, errW_some] <;> rfl), by (with_reducible repeat (first | apply Kd.S_alloc | apply Kd.S_drewN | apply Kd.S_drew)); exact Kd.S_mono (Kd.S_far (p := ⟨gb101, 0, none⟩) (Kd.S_types HO107.out BK101.out (by decide)) (fun _ hk => hk.2) (.slice Ao11 t105.length co11)) (fun _ hk => trivial), by repeat (first | (with_reducible first | exact HB.out | apply below_alloc | apply pw_below_drewN | apply below_drew1 | refine below_set ?_ GE101.out) | exact HB.out)⟩
    · replace c7 := Bool.eq_false_iff.mpr c7
      subst c7
      have H1 : (some (([] : List (List (SFace))), 4)) = some (r1, r2) := by rw [if_neg (show ¬ (false = true) by decide)] at H; exact H
      clear H
      have H := H1
      clear H1
      simp only [Option.some.injEq, Prod.mk.injEq] at H
      obtain ⟨rfl, rfl⟩ := H
      go_enter Try.func12, Try.ntmps12
      go_wp2_with (first | ((with_reducible refine gate_dst (N := 4) rfl ?_); refine box_event ?hg (N := 4) ?hd (cs := #[.slice none 0 0]) (t := 30) ?hr ?_; (case hd => rfl); (case hg => rfl); (case hr => first | (go_simp; done) | (go_simp; rfl)); intro gb101 hg w13 hbox hb; have n0_ := Aside0.mk (below_step (by repeat (first | (with_reducible first | exact HB.out | apply below_alloc | apply pw_below_drewN | apply below_drew1) | exact HB.out)) hb); have n1_ := Aside0.mk (hbox); have n2_ := Aside0.mk ((by rw [hg]; exact (below_size (by repeat (first | (with_reducible first | exact HB.out | apply below_alloc | apply pw_below_drewN | apply below_drew1) | exact HB.out))) : w.heap.size ≤ gb101)); have n3_ := Aside0.mk ((by rw [hg]; exact (below_size (by repeat (first | (with_reducible first | exact HB.out | apply below_alloc | apply pw_below_drewN | apply below_drew1) | exact HB.out))) : w.heap.size ≤ gb101)); clear HB; have HB := n0_; have BK101 := n1_; have GW101 := n2_; have GE101 := n3_; clear n0_ n1_ n2_ n3_; clear hb hbox hg) | ((with_reducible refine gate_callee (f := 37) rfl ?_); refine goesL_ (some 8) rfl rfl Try.func37 (by kernel_rfl) rfl #[.int .i64 a0, .int .i64 1, .int .i64 4] rfl (by (try simp only [yiy, yjy, yky]); first | done | rfl | (simp only [yly, ymy]; rfl)) ?_; (with_reducible refine (impl_inRange.calls a0 1 4 true _ A3.out).mono ?_); rintro e w' ⟨rfl, ⟨nd, rfl⟩⟩; refine ⟨_, rfl, ?_⟩; (try (rw [drewN_self w13]; generalize hq_ : World.drewN w13 _ = w13; have n0_ : Aside0 (w13.heap[gb101]? = some (.cells #[.slice none 0 0] 30 (0, 0))) := ⟨by rw [← hq_]; exact (by (with_reducible repeat (first | refine blk_drewN ?_ _ | refine blk_drew ?_ | refine blk_alloc ?_ _)); exact BK101.out)⟩; have n1_ : Aside0 (Below w.heap.size w w13) := ⟨by rw [← hq_]; exact (by repeat (first | (with_reducible first | exact HB.out | apply below_alloc | apply pw_below_drewN | apply below_drew1 | refine below_set ?_ GE101.out) | exact HB.out))⟩; clear BK101 HB hq_; have BK101 := n0_; have HB := n1_; clear n0_ n1_))) | ((with_reducible refine gate_callee (f := 38) rfl ?_); refine goesL_ (some 14) rfl rfl Try.func38 (by kernel_rfl) rfl #[.int .i64 a0] rfl (by (try simp only [yiy, yjy, yky]); first | done | rfl | (simp only [yly, ymy]; rfl)) ?_; (with_reducible refine (impl_GluingCount.calls k a0 t103 _ A5.out).mono ?_); rintro e w' ⟨rfl, ⟨nd, rfl⟩⟩; refine ⟨_, rfl, ?_⟩; (try (rw [drewN_self w13]; generalize hq_ : World.drewN w13 _ = w13; have n0_ : Aside0 (w13.heap[gb101]? = some (.cells #[.slice none 0 0] 30 (0, 0))) := ⟨by rw [← hq_]; exact (by (with_reducible repeat (first | refine blk_drewN ?_ _ | refine blk_drew ?_ | refine blk_alloc ?_ _)); exact BK101.out)⟩; have n1_ : Aside0 (Below w.heap.size w w13) := ⟨by rw [← hq_]; exact (by repeat (first | (with_reducible first | exact HB.out | apply below_alloc | apply pw_below_drewN | apply below_drew1 | refine below_set ?_ GE101.out) | exact HB.out))⟩; clear BK101 HB hq_; have BK101 := n0_; have HB := n1_; clear n0_ n1_))) | ((with_reducible refine gate_callee (f := 37) rfl ?_); refine goesL_ (some 16) rfl rfl Try.func37 (by kernel_rfl) rfl #[.int .i64 a1, .int .i64 0, .int .i64 (wrap64 (t103 - 1))] rfl (by (try simp only [yiy, yjy, yky]); first | done | rfl | (simp only [yly, ymy]; rfl)) ?_; (with_reducible refine (impl_inRange.calls a1 0 (wrap64 (t103 - 1)) false _ A6.out).mono ?_); rintro e w' ⟨rfl, ⟨nd, rfl⟩⟩; refine ⟨_, rfl, ?_⟩; (try (rw [drewN_self w13]; generalize hq_ : World.drewN w13 _ = w13; have n0_ : Aside0 (w13.heap[gb101]? = some (.cells #[.slice none 0 0] 30 (0, 0))) := ⟨by rw [← hq_]; exact (by (with_reducible repeat (first | refine blk_drewN ?_ _ | refine blk_drew ?_ | refine blk_alloc ?_ _)); exact BK101.out)⟩; have n1_ : Aside0 (Below w.heap.size w w13) := ⟨by rw [← hq_]; exact (by repeat (first | (with_reducible first | exact HB.out | apply below_alloc | apply pw_below_drewN | apply below_drew1 | refine below_set ?_ GE101.out) | exact HB.out))⟩; clear BK101 HB hq_; have BK101 := n0_; have HB := n1_; clear n0_ n1_)); have hcz14_0 : w13.cell? ⟨gb101, 0, none⟩ = some (.slice none 0 0) := (blk_cell BK101.out 0).trans rfl; have hfz14_0 := blk_frozen BK101.out 0))
      refine bodyPost_ret (results_ct rfl _ _ gb101 30 #[.slice none 0 0] (0, 0) _ rfl (by (with_reducible repeat (first | refine blk_drewN ?_ _ | refine blk_drew ?_ | refine blk_alloc ?_ _)); refine blk_put (cs := #[.slice none 0 0]) ?_ 0 _ rfl; (with_reducible repeat (first | refine blk_drewN ?_ _ | refine blk_drew ?_ | refine blk_alloc ?_ _)); exact BK101.out) Try.underlying30 rfl (by kernel_rfl)) rfl ?_
      exact ⟨_, by first | rfl | (simp [errW_none, errW_some] <;> rfl) | (simp [*, errW_none, errW_some] <;> rfl), by first | exact Kd.S_nil _ _ _ _ _ | exact Kd.N_nil _ _ _ _ _ | exact Kd.V_nil _ _ _ _ _ | exact Kd.Q_nil _ _ _ _ _ | exact Kd.R_nil _ _ _ _ _, by repeat (first | (with_reducible first | exact HB.out | apply below_alloc | apply pw_below_drewN | apply below_drew1 | refine below_set ?_ GE101.out) | exact HB.out)⟩
  · replace c4 := Bool.eq_false_iff.mpr c4
    subst c4
    have H1 : (some (([] : List (List (SFace))), 2)) = some (r1, r2) := by rw [if_neg (show ¬ (false = true) by decide)] at H; exact H
    clear H
    have H := H1
    clear H1
    simp only [Option.some.injEq, Prod.mk.injEq] at H
    obtain ⟨rfl, rfl⟩ := H
    go_enter Try.func12, Try.ntmps12
    go_wp2_with (first | ((with_reducible refine gate_dst (N := 4) rfl ?_); refine box_event ?hg (N := 4) ?hd (cs := #[.slice none 0 0]) (t := 30) ?hr ?_; (case hd => rfl); (case hg => rfl); (case hr => first | (go_simp; done) | (go_simp; rfl)); intro gb101 hg w15 hbox hb; have n0_ := Aside0.mk (below_step (by repeat (first | (with_reducible first | exact HB.out | apply below_alloc | apply pw_below_drewN | apply below_drew1) | exact HB.out)) hb); have n1_ := Aside0.mk (hbox); have n2_ := Aside0.mk ((by rw [hg]; exact (below_size (by repeat (first | (with_reducible first | exact HB.out | apply below_alloc | apply pw_below_drewN | apply below_drew1) | exact HB.out))) : w.heap.size ≤ gb101)); have n3_ := Aside0.mk ((by rw [hg]; exact (below_size (by repeat (first | (with_reducible first | exact HB.out | apply below_alloc | apply pw_below_drewN | apply below_drew1) | exact HB.out))) : w.heap.size ≤ gb101)); clear HB; have HB := n0_; have BK101 := n1_; have GW101 := n2_; have GE101 := n3_; clear n0_ n1_ n2_ n3_; clear hb hbox hg) | ((with_reducible refine gate_callee (f := 37) rfl ?_); refine goesL_ (some 8) rfl rfl Try.func37 (by kernel_rfl) rfl #[.int .i64 a0, .int .i64 1, .int .i64 4] rfl (by (try simp only [yiy, yjy, yky]); first | done | rfl | (simp only [yly, ymy]; rfl)) ?_; (with_reducible refine (impl_inRange.calls a0 1 4 false _ A3.out).mono ?_); rintro e w' ⟨rfl, ⟨nd, rfl⟩⟩; refine ⟨_, rfl, ?_⟩; (try (rw [drewN_self w15]; generalize hq_ : World.drewN w15 _ = w15; have n0_ : Aside0 (w15.heap[gb101]? = some (.cells #[.slice none 0 0] 30 (0, 0))) := ⟨by rw [← hq_]; exact (by (with_reducible repeat (first | refine blk_drewN ?_ _ | refine blk_drew ?_ | refine blk_alloc ?_ _)); exact BK101.out)⟩; have n1_ : Aside0 (Below w.heap.size w w15) := ⟨by rw [← hq_]; exact (by repeat (first | (with_reducible first | exact HB.out | apply below_alloc | apply pw_below_drewN | apply below_drew1 | refine below_set ?_ GE101.out) | exact HB.out))⟩; clear BK101 HB hq_; have BK101 := n0_; have HB := n1_; clear n0_ n1_)); have hcz16_0 : w15.cell? ⟨gb101, 0, none⟩ = some (.slice none 0 0) := (blk_cell BK101.out 0).trans rfl; have hfz16_0 := blk_frozen BK101.out 0))
    refine bodyPost_ret (results_ct rfl _ _ gb101 30 #[.slice none 0 0] (0, 0) _ rfl (by (with_reducible repeat (first | refine blk_drewN ?_ _ | refine blk_drew ?_ | refine blk_alloc ?_ _)); refine blk_put (cs := #[.slice none 0 0]) ?_ 0 _ rfl; (with_reducible repeat (first | refine blk_drewN ?_ _ | refine blk_drew ?_ | refine blk_alloc ?_ _)); exact BK101.out) Try.underlying30 rfl (by kernel_rfl)) rfl ?_
    exact ⟨_, by first | rfl | (simp [errW_none, errW_some] <;> rfl) | (simp [*, errW_none, errW_some] <;> rfl), by first | exact Kd.S_nil _ _ _ _ _ | exact Kd.N_nil _ _ _ _ _ | exact Kd.V_nil _ _ _ _ _ | exact Kd.Q_nil _ _ _ _ _ | exact Kd.R_nil _ _ _ _ _, by repeat (first | (with_reducible first | exact HB.out | apply below_alloc | apply pw_below_drewN | apply below_drew1 | refine below_set ?_ GE101.out) | exact HB.out)⟩
/-! ### impl_Face_isBoundary: function 74 -/
def impl_Face_isBoundary.f (a0_0 : Int) (a0_1 : Int) : Option (Bool) := some (decide (a0_0 < 0))
set_option maxHeartbeats 8000000 in
set_option maxRecDepth 100000 in
theorem impl_Face_isBoundary.calls (a0_0 : Int) (a0_1 : Int) (r : Bool) (w : World) (h : impl_Face_isBoundary.f a0_0 a0_1 = some r) :
    Calls Try.prog 74 #[.agg #[.int .i64 a0_0, .int .i64 a0_1]] w fun e w' => e = .returned (.bool r) ∧ Below w.heap.size w w' := by
  have hu47 := Try.underlying47
  have HB := Aside0.mk (Below.refl w.heap.size w)
  have H : (some (decide (a0_0 < 0))) = some r := h
  clear h
  obtain rfl := yey H
  go_enter Try.func74, Try.ntmps74
  go_wp2_with (first | ((with_reducible refine gate_dst (N := 1) rfl ?_); refine box_event ?hg (N := 1) ?hd (cs := #[.int .i64 a0_0, .int .i64 a0_1]) (t := 47) ?hr ?_; (case hd => rfl); (case hg => rfl); (case hr => first | (go_simp; done) | (go_simp; rfl)); intro gb101 hg w2 hbox hb; have n0_ := Aside0.mk (below_step (by repeat (first | (with_reducible first | exact HB.out | apply below_alloc | apply pw_below_drewN | apply below_drew1) | exact HB.out)) hb); have n1_ := Aside0.mk (hbox); have n2_ := Aside0.mk ((by rw [hg]; exact (below_size (by repeat (first | (with_reducible first | exact HB.out | apply below_alloc | apply pw_below_drewN | apply below_drew1) | exact HB.out))) : w.heap.size ≤ gb101)); have n3_ := Aside0.mk ((by rw [hg]; exact (below_size (by repeat (first | (with_reducible first | exact HB.out | apply below_alloc | apply pw_below_drewN | apply below_drew1) | exact HB.out))) : w.heap.size ≤ gb101)); clear HB; have HB := n0_; have BK101 := n1_; have GW101 := n2_; have GE101 := n3_; clear n0_ n1_ n2_ n3_; clear hb hbox hg; have hcz3_0 : w2.cell? ⟨gb101, 0, none⟩ = some (.int .i64 a0_0) := (blk_cell BK101.out 0).trans rfl; have hcz3_1 : w2.cell? ⟨gb101, 1, none⟩ = some (.int .i64 a0_1) := (blk_cell BK101.out 1).trans rfl; have hfz3_0 := blk_frozen BK101.out 0; have hfz3_1 := blk_frozen BK101.out 1))
  go_ret
  exact ⟨by first | rfl | (simp [errW_none, errW_some] <;> rfl) | (simp [*, errW_none, errW_some] <;> rfl), by repeat (first | (with_reducible first | exact HB.out | apply below_alloc | apply pw_below_drewN | apply below_drew1 | refine below_set ?_ GE101.out) | exact HB.out)⟩
/-! ### impl_Triangulation_boundaryFaces: function 51 -/
mutual
def impl_Triangulation_boundaryFaces.l0 : Nat → List (List Int) → List (List (SFace)) → Int → Int → Option ((List (List Int)))
 | 0, _, _, _, _ => none
 | k + 1, x3, x9, x10, x11 => if x11 < x10 then (if 0 ≤ x11 then (if x11 < (x9.length : Int) then (impl_Triangulation_boundaryFaces.l1 k x3 x11 x9 x10 x11 (rd_LFace x9 x11) ((rd_LFace x9 x11).length : Int) 0) else (none)) else (none)) else (some x3)
def impl_Triangulation_boundaryFaces.l1 : Nat → List (List Int) → Int → List (List (SFace)) → Int → Int → List (SFace) → Int → Int → Option ((List (List Int)))
 | 0, _, _, _, _, _, _, _, _ => none
 | k + 1, x3, x4, x9, x10, x11, x16, x17, x18 => if x18 < x17 then (if 0 ≤ x18 then (if x18 < (x16.length : Int) then ((impl_Face_isBoundary.f ((rd_Face x16 x18).f0) ((rd_Face x16 x18).f1)).bind fun t105 => (if t105 = true then (if x3.length < 5864062014805 then (impl_Triangulation_boundaryFaces.l1 k (x3 ++ [(([x4, x18] : List Int))]) x4 x9 x10 x11 x16 x17 (wrap64 (x18 + 1))) else (none)) else (impl_Triangulation_boundaryFaces.l1 k x3 x4 x9 x10 x11 x16 x17 (wrap64 (x18 + 1))))) else (none)) else (none)) else (impl_Triangulation_boundaryFaces.l0 k x3 x9 x10 (wrap64 (x11 + 1)))
end
def impl_Triangulation_boundaryFaces.f (k : Nat) (l0_0 : List (List (SFace))) : Option ((List (List Int))) := impl_Triangulation_boundaryFaces.l0 k ([] : List (List Int)) l0_0 (l0_0.length : Int) 0
set_option maxHeartbeats 8000000 in
set_option maxRecDepth 100000 in
theorem impl_Triangulation_boundaryFaces.calls (k : Nat) (A0_0 : Option Addr) (c0_0 : Nat) (l0_0 : List (List (SFace))) (r : List (List Int)) (w : World) (hr0_0 : Kd.C (Kd.slice 47 kFace) w A0_0 l0_0.length l0_0) (hc0_0 : l0_0.length ≤ c0_0) (h : impl_Triangulation_boundaryFaces.f k l0_0 = some r) :
 Calls Try.prog 51 #[.agg #[.slice A0_0 l0_0.length c0_0]] w fun e w' => ∃ v0_ : Value, e = .returned (v0_) ∧ Kd.S (Kd.slice 2 (Kd.int .i64)) 44 w' w.heap.size (fun _ => True) v0_ r ∧ Below w.heap.size w w' := by
 have hu30 := Try.underlying30
 have hu47 := Try.underlying47
 have HR0_0 := Aside0.mk hr0_0
 have HC0_0 := Aside0.mk hc0_0
 clear hr0_0 hc0_0
 have HB := Aside0.mk (Below.refl w.heap.size w)
 have H : (impl_Triangulation_boundaryFaces.l0 k ([] : List (List Int)) l0_0 (l0_0.length : Int) 0) = some r := h
 clear h
 have H' := Aside0.mk H
 clear H
 go_enter Try.func51, Try.ntmps51
 go_wp2_with (first | ((with_reducible refine gate_dst (N := 1) rfl ?_); refine box_event ?hg (N := 1) ?hd (cs := #[.slice A0_0 l0_0.length c0_0]) (t := 30) ?hr ?_; (case hd => rfl); (case hg => rfl); (case hr => first | (go_simp; done) | (go_simp; rfl)); intro gb101 hg w2 hbox hb; have n0_ := Aside0.mk (below_step (by repeat (first | (with_reducible first | exact HB.out | apply below_alloc | apply pw_below_drewN | apply below_drew1) | exact HB.out)) hb); have n1_ := Aside0.mk (hbox); have n2_ := Aside0.mk ((by rw [hg]; exact (below_size (by repeat (first | (with_reducible first | exact HB.out | apply below_alloc | apply pw_below_drewN | apply below_drew1) | exact HB.out))) : w.heap.size ≤ gb101)); have n3_ := Aside0.mk ((by rw [hg]; exact (below_size (by repeat (first | (with_reducible first | exact HB.out | apply below_alloc | apply pw_below_drewN | apply below_drew1) | exact HB.out))) : w.heap.size ≤ gb101)); clear HB; have HB := n0_; have BK101 := n1_; have GW101 := n2_; have GE101 := n3_; clear n0_ n1_ n2_ n3_; clear hb hbox hg; have hcz3_0 : w2.cell? ⟨gb101, 0, none⟩ = some (.slice A0_0 l0_0.length c0_0) := (blk_cell BK101.out 0).trans rfl; have hfz3_0 := blk_frozen BK101.out 0))
 go_loopg [3, 11] k (fun kq v3 v11 w' => ∃ (x3_1 : List (List Int)) (x11_1 : Int), v11 = .int .i64 x11_1 ∧ Aside0 (impl_Triangulation_boundaryFaces.l0 kq x3_1 l0_0 (l0_0.length : Int) x11_1 = some r) ∧ Aside0 (kq ≤ k) ∧ Aside0 (Kd.S (Kd.slice 2 (Kd.int .i64)) 44 w' w.heap.size (fun _ => True) v3 x3_1) ∧ Aside0 (w'.heap[gb101]? = some (.cells #[(.slice A0_0 l0_0.length c0_0)] 30 (0, 0))) ∧ Aside0 (Below w.heap.size w w'))
 case atStart => exact ⟨(([] : List (List Int))), (0), (by first | rfl | (simp; done) | (simp [*]; done)), H', ⟨yoy _⟩, ⟨by first | exact Kd.S_nil _ _ _ _ _ | exact Kd.N_nil _ _ _ _ _ | exact Kd.V_nil _ _ _ _ _ | exact Kd.Q_nil _ _ _ _ _ | exact Kd.R_nil _ _ _ _ _⟩, ⟨by (with_reducible repeat (first | refine blk_drewN ?_ _ | refine blk_drew ?_ | refine blk_alloc ?_ _)); exact BK101.out⟩, ⟨by repeat (first | (with_reducible first | exact HB.out | apply below_alloc | apply pw_below_drewN | apply below_drew1 | refine below_set ?_ GE101.out) | exact HB.out)⟩⟩
 case round =>
  clear H'
  try clear p2
  try clear hcz3_0
  try clear hfz3_0
  obtain ⟨x3_1, x11_1, rfl, HA, HK1, HO_3, BK101, HB⟩ := hrel
  cases gk with
  | zero => exact absurd HA.out (by simp [impl_Triangulation_boundaryFaces.l0])
  | succ k1 =>
   have H := HA.out
   clear HA
   simp only [impl_Triangulation_boundaryFaces.l0] at H
   by_cases c4 : x11_1 < (l0_0.length : Int)
   rotate_left
   next =>
    rw [if_neg c4] at H
    have c4b0 : decide (x11_1 < (l0_0.length : Int)) = false := yhy c4
    clear c4
    obtain rfl := yey H
    go_wp2
    go_ret
    exact ⟨_, by first | rfl | (simp [errW_none, errW_some] <;> rfl) | (simp [*, errW_none, errW_some] <;> rfl), by (with_reducible repeat (first | apply Kd.S_alloc | apply Kd.S_drewN | apply Kd.S_drew)); exact HO_3.out, by repeat (first | (with_reducible first | exact HB.out | apply below_alloc | apply pw_below_drewN | apply below_drew1 | refine below_set ?_ GE101.out) | exact HB.out)⟩
   rw [if_pos c4] at H
   have c4b0 : decide (x11_1 < (l0_0.length : Int)) = true := ygy c4
   clear c4
   by_cases c5 : 0 ≤ x11_1
   rotate_left
   next =>
    rw [if_neg c5] at H
    exact absurd H (by simp)
   rw [if_pos c5] at H
   have c5b0 : decide (0 ≤ x11_1) = true := ygy c5
   clear c5
   by_cases c6 : x11_1 < (l0_0.length : Int)
   rotate_left
   next =>
    rw [if_neg c6] at H
    exact absurd H (by simp)
   rw [if_pos c6] at H
   have c6b0 : decide (x11_1 < (l0_0.length : Int)) = true := ygy c6
   clear c6
   have H' := Aside0.mk H
   clear H
   have p102 : 0 ≤ (x11_1 : Int) := of_decide_eq_true (by first | (with_reducible assumption) | assumption)
   have q102 : x11_1 < (l0_0.length : Int) := of_decide_eq_true (by first | (with_reducible assumption) | assumption)
   obtain ⟨ad102, A102_0, c102_0, e102, hx102_0, hl102_0, hi102_0⟩ := at_LFace HR0_0.out x11_1 p102 q102
   cases e102
   replace hx102_0 := (HB.out.cell (yny w _ hx102_0)).trans hx102_0
   have HR102_0 := Aside0.mk hi102_0
   have HC102_0 := Aside0.mk hl102_0
   clear hi102_0 hl102_0
   replace p102 := eq_true p102
   replace q102 := eq_true q102
   go_wp2
   go_loopg [3, 18] k1 (fun kq v3 v18 w' => ∃ (x3_2 : List (List Int)) (x18_2 : Int), v18 = .int .i64 x18_2 ∧ Aside0 (impl_Triangulation_boundaryFaces.l1 kq x3_2 x11_1 l0_0 (l0_0.length : Int) x11_1 (rd_LFace l0_0 x11_1) ((rd_LFace l0_0 x11_1).length : Int) x18_2 = some r) ∧ Aside0 (kq ≤ k1) ∧ Aside0 (Kd.S (Kd.slice 2 (Kd.int .i64)) 44 w' w.heap.size (fun _ => True) v3 x3_2) ∧ Aside0 (w'.heap[gb101]? = some (.cells #[(.slice (some ad102) l0_0.length c0_0)] 30 (0, 0))) ∧ Aside0 (Below w.heap.size w w'))
   case atStart => exact ⟨(x3_1), (0), (by first | rfl | (simp; done) | (simp [*]; done)), H', ⟨yoy _⟩, ⟨by (with_reducible repeat (first | apply Kd.S_alloc | apply Kd.S_drewN | apply Kd.S_drew)); exact HO_3.out⟩, ⟨by (with_reducible repeat (first | refine blk_drewN ?_ _ | refine blk_drew ?_ | refine blk_alloc ?_ _)); exact BK101.out⟩, ⟨by repeat (first | (with_reducible first | exact HB.out | apply below_alloc | apply pw_below_drewN | apply below_drew1 | refine below_set ?_ GE101.out) | exact HB.out)⟩⟩
   case round =>
    clear H'
    try clear c1
    try clear p1
    try clear q1
    try clear hx1
    try clear p2
    try clear c4
    try clear c4b0
    try clear c5
    try clear c5b0
    try clear c6
    try clear c6b0
    try clear hcz3_0
    try clear hfz3_0
    try clear hx102_0
    try clear p102
    try clear p2
    try clear q102
    obtain ⟨x3_2, x18_2, rfl, HA, HK2, HO_3, BK101, HB⟩ := hrel
    cases gk with
    | zero => exact absurd HA.out (by simp [impl_Triangulation_boundaryFaces.l1])
    | succ k2 =>
     have H := HA.out
     clear HA
     simp only [impl_Triangulation_boundaryFaces.l1] at H
     by_cases c7 : x18_2 < ((rd_LFace l0_0 x11_1).length : Int)
     rotate_left
     next =>
      rw [if_neg c7] at H
      have c7b0 : decide (x18_2 < ((rd_LFace l0_0 x11_1).length : Int)) = false := yhy c7
      clear c7
      have H' := Aside0.mk H
      clear H
      go_wp2
      go_roundg k2
      case measure => have := HK1.out; have := HK2.out; omega
      case rel => exact ⟨(x3_2), (wrap64 (x11_1 + 1)), (by first | rfl | (simp; done) | (simp [*]; done)), H', ⟨by have := HK1.out; have := HK2.out; omega⟩, ⟨by (with_reducible repeat (first | apply Kd.S_alloc | apply Kd.S_drewN | apply Kd.S_drew)); exact HO_3.out⟩, ⟨by (with_reducible repeat (first | refine blk_drewN ?_ _ | refine blk_drew ?_ | refine blk_alloc ?_ _)); exact BK101.out⟩, ⟨by repeat (first | (with_reducible first | exact HB.out | apply below_alloc | apply pw_below_drewN | apply below_drew1 | refine below_set ?_ GE101.out) | exact HB.out)⟩⟩
     rw [if_pos c7] at H
     have c7b0 : decide (x18_2 < ((rd_LFace l0_0 x11_1).length : Int)) = true := ygy c7
     clear c7
     by_cases c8 : 0 ≤ x18_2
     rotate_left
     next =>
      rw [if_neg c8] at H
      exact absurd H (by simp)
     rw [if_pos c8] at H
     have c8b0 : decide (0 ≤ x18_2) = true := ygy c8
     clear c8
     by_cases c9 : x18_2 < ((rd_LFace l0_0 x11_1).length : Int)
     rotate_left
     next =>
      rw [if_neg c9] at H
      exact absurd H (by simp)
     rw [if_pos c9] at H
     have c9b0 : decide (x18_2 < ((rd_LFace l0_0 x11_1).length : Int)) = true := ygy c9
     clear c9
     replace H := ydy.mp H
     obtain ⟨t105, A100, H⟩ := H
     replace H : (if t105 = true then (if x3_2.length < 5864062014805 then (impl_Triangulation_boundaryFaces.l1 k2 (x3_2 ++ [(([x11_1, x18_2] : List Int))]) x11_1 l0_0 (l0_0.length : Int) x11_1 (rd_LFace l0_0 x11_1) ((rd_LFace l0_0 x11_1).length : Int) (wrap64 (x18_2 + 1))) else (none)) else (impl_Triangulation_boundaryFaces.l1 k2 x3_2 x11_1 l0_0 (l0_0.length : Int) x11_1 (rd_LFace l0_0 x11_1) ((rd_LFace l0_0 x11_1).length : Int) (wrap64 (x18_2 + 1)))) = some r := H
     have A10 := Aside0.mk A100
     clear A100
     by_cases c11 : t105 = true
     rotate_left
     next =>
      replace c11 := Bool.eq_false_iff.mpr c11
      subst c11
      have H1 : (impl_Triangulation_boundaryFaces.l1 k2 x3_2 x11_1 l0_0 (l0_0.length : Int) x11_1 (rd_LFace l0_0 x11_1) ((rd_LFace l0_0 x11_1).length : Int) (wrap64 (x18_2 + 1))) = some r := by rw [if_neg (show ¬ (false = true) by decide)] at H; exact H
      clear H
      have H := H1
      clear H1
      have H' := Aside0.mk H
      clear H
      have p103 : 0 ≤ (x18_2 : Int) := of_decide_eq_true (by first | (with_reducible assumption) | assumption)
      have q103 : x18_2 < ((rd_LFace l0_0 x11_1).length : Int) := of_decide_eq_true (by first | (with_reducible assumption) | assumption)
      obtain ⟨ad103, e103, hx103_0, hx103_1⟩ := at_Face HR102_0.out x18_2 p103 q103
      cases e103
      replace hx103_0 := (HB.out.cell (yny w _ hx103_0)).trans hx103_0
      replace hx103_1 := (HB.out.cell (yny w _ hx103_1)).trans hx103_1
      replace p103 := eq_true p103
      replace q103 := eq_true q103
      go_wp2_with (first | ((with_reducible refine gate_dst (N := 7) rfl ?_); refine box_event ?hg (N := 7) ?hd (cs := #[.int .i64 0, .int .i64 0]) (t := 47) ?hr ?_; (case hd => rfl); (case hg => rfl); (case hr => first | (go_simp; done) | (go_simp; rfl)); intro gb104 hg w21 hbox hb; have n0_ := Aside0.mk (Kd.S_below (by (with_reducible repeat (first | apply Kd.S_alloc | apply Kd.S_drewN | apply Kd.S_drew)); exact HO_3.out) hb); have n1_ := Aside0.mk (blk_below (g := gb101) (o := .cells #[.slice (some ad102) l0_0.length c0_0] 30 (0, 0)) (by (with_reducible repeat (first | refine blk_drewN ?_ _ | refine blk_drew ?_ | refine blk_alloc ?_ _)); exact BK101.out) hb); have n2_ := Aside0.mk (below_step (by repeat (first | (with_reducible first | exact HB.out | apply below_alloc | apply pw_below_drewN | apply below_drew1 | refine below_set ?_ GE101.out) | exact HB.out)) hb); have n3_ := Aside0.mk (hbox); have n4_ := Aside0.mk ((by rw [hg]; exact (below_size (by repeat (first | (with_reducible first | exact HB.out | apply below_alloc | apply pw_below_drewN | apply below_drew1 | refine below_set ?_ GE101.out) | exact HB.out))) : w.heap.size ≤ gb104)); have n5_ := Aside0.mk ((by rw [hg]; exact (below_size (by repeat (first | (with_reducible first | exact HB.out | apply below_alloc | apply pw_below_drewN | apply below_drew1 | refine below_set ?_ GE101.out) | exact HB.out))) : w.heap.size ≤ gb104)); have n6_ := Aside0.mk ((by rw [hg]; exact Nat.ne_of_lt (blk_lt (g := gb101) (o := .cells #[.slice (some ad102) l0_0.length c0_0] 30 (0, 0)) (by (with_reducible repeat (first | refine blk_drewN ?_ _ | refine blk_drew ?_ | refine blk_alloc ?_ _)); exact BK101.out)) : gb101 ≠ gb104)); have n7_ := Aside0.mk ((by rw [hg]; exact Nat.ne_of_gt (blk_lt (g := gb101) (o := .cells #[.slice (some ad102) l0_0.length c0_0] 30 (0, 0)) (by (with_reducible repeat (first | refine blk_drewN ?_ _ | refine blk_drew ?_ | refine blk_alloc ?_ _)); exact BK101.out)) : gb104 ≠ gb101)); clear HO_3; clear BK101; clear HB; have HO_3 := n0_; have BK101 := n1_; have HB := n2_; have BK104 := n3_; have GW104 := n4_; have GE104 := n5_; have NB101_104 := n6_; have NB104_101 := n7_; clear n0_ n1_ n2_ n3_ n4_ n5_ n6_ n7_; clear hb hbox hg; have hnb22 := NB104_101.out; have hnc22 := NB101_104.out; have hcz23_0 : w21.cell? ⟨gb104, 0, none⟩ = some (.int .i64 0) := (blk_cell BK104.out 0).trans rfl; have hcz23_1 : w21.cell? ⟨gb104, 1, none⟩ = some (.int .i64 0) := (blk_cell BK104.out 1).trans rfl; have hfz23_0 := blk_frozen BK104.out 0; have hfz23_1 := blk_frozen BK104.out 1) | ((with_reducible refine gate_callee (f := 74) rfl ?_); refine goesL_ (some 24) rfl rfl Try.func74 (by kernel_rfl) rfl #[.agg #[.int .i64 ((rd_Face (rd_LFace l0_0 x11_1) x18_2).f0), .int .i64 ((rd_Face (rd_LFace l0_0 x11_1) x18_2).f1)]] rfl (by (try simp only [yiy, yjy, yky]); first | done | rfl | (simp only [yly, ymy]; rfl)) ?_; (with_reducible refine (impl_Face_isBoundary.calls ((rd_Face (rd_LFace l0_0 x11_1) x18_2).f0) ((rd_Face (rd_LFace l0_0 x11_1) x18_2).f1) false _ A10.out).mono ?_); rintro e w24 ⟨rfl, hb⟩; refine ⟨_, rfl, ?_⟩; have n0_ := Aside0.mk (Kd.S_below (by (with_reducible repeat (first | apply Kd.S_alloc | apply Kd.S_drewN | apply Kd.S_drew)); exact (Kd.S_mono (Kd.S_far (p := ⟨gb104, 1, none⟩) (Kd.S_far (p := ⟨gb104, 0, none⟩) (Kd.S_types HO_3.out BK104.out (by decide)) (fun _ hk => hk.2) (.int .i64 ((rd_Face (rd_LFace l0_0 x11_1) x18_2).f0))) (fun _ hk => hk.2) (.int .i64 ((rd_Face (rd_LFace l0_0 x11_1) x18_2).f1))) (fun _ h_ => h_.1))) hb); have n1_ := Aside0.mk (blk_below (g := gb101) (o := .cells #[.slice (some ad102) l0_0.length c0_0] 30 (0, 0)) (by (with_reducible repeat (first | refine blk_drewN ?_ _ | refine blk_drew ?_ | refine blk_alloc ?_ _)); refine blk_far ?_ NB101_104.out _; (with_reducible repeat (first | refine blk_drewN ?_ _ | refine blk_drew ?_ | refine blk_alloc ?_ _)); refine blk_far ?_ NB101_104.out _; (with_reducible repeat (first | refine blk_drewN ?_ _ | refine blk_drew ?_ | refine blk_alloc ?_ _)); exact BK101.out) hb); have n2_ := Aside0.mk (blk_below (g := gb104) (o := .cells #[.int .i64 ((rd_Face (rd_LFace l0_0 x11_1) x18_2).f0), .int .i64 ((rd_Face (rd_LFace l0_0 x11_1) x18_2).f1)] 47 (0, 0)) (by (with_reducible repeat (first | refine blk_drewN ?_ _ | refine blk_drew ?_ | refine blk_alloc ?_ _)); refine blk_put (cs := #[.int .i64 ((rd_Face (rd_LFace l0_0 x11_1) x18_2).f0), .int .i64 0]) ?_ 1 _ rfl; (with_reducible repeat (first | refine blk_drewN ?_ _ | refine blk_drew ?_ | refine blk_alloc ?_ _)); refine blk_put (cs := #[.int .i64 0, .int .i64 0]) ?_ 0 _ rfl; (with_reducible repeat (first | refine blk_drewN ?_ _ | refine blk_drew ?_ | refine blk_alloc ?_ _)); exact BK104.out) hb); have n3_ := Aside0.mk (below_step (by repeat (first | (with_reducible first | exact HB.out | apply below_alloc | apply pw_below_drewN | apply below_drew1 | refine below_set ?_ GE101.out | refine below_set ?_ GE104.out) | exact HB.out)) hb); clear HO_3; clear BK101; clear BK104; clear HB; have HO_3 := n0_; have BK101 := n1_; have BK104 := n2_; have HB := n3_; clear n0_ n1_ n2_ n3_; (try clear hb); (try clear hb2); (try clear hk); (try clear hi)))
      go_roundg k2
      case measure => have := HK1.out; have := HK2.out; omega
      case rel => exact ⟨(x3_2), (wrap64 (x18_2 + 1)), (by first | rfl | (simp; done) | (simp [*]; done)), H', ⟨by have := HK1.out; have := HK2.out; omega⟩, ⟨by (with_reducible repeat (first | apply Kd.S_alloc | apply Kd.S_drewN | apply Kd.S_drew)); exact HO_3.out⟩, ⟨by (with_reducible repeat (first | refine blk_drewN ?_ _ | refine blk_drew ?_ | refine blk_alloc ?_ _)); exact BK101.out⟩, ⟨by repeat (first | (with_reducible first | exact HB.out | apply below_alloc | apply pw_below_drewN | apply below_drew1 | refine below_set ?_ GE101.out | refine below_set ?_ GE104.out) | exact HB.out)⟩⟩
     subst c11
     have H1 : (if x3_2.length < 5864062014805 then (impl_Triangulation_boundaryFaces.l1 k2 (x3_2 ++ [(([x11_1, x18_2] : List Int))]) x11_1 l0_0 (l0_0.length : Int) x11_1 (rd_LFace l0_0 x11_1) ((rd_LFace l0_0 x11_1).length : Int) (wrap64 (x18_2 + 1))) else (none)) = some r := by rw [if_pos rfl] at H; exact H
     clear H
     have H := H1
     clear H1
     obtain ⟨y106, hy106⟩ : ∃ y_ : List Int, y_ = (([x11_1, x18_2] : List Int)) := ⟨_, rfl⟩
     replace H : (if x3_2.length < 5864062014805 then (impl_Triangulation_boundaryFaces.l1 k2 (x3_2 ++ [y106]) x11_1 l0_0 (l0_0.length : Int) x11_1 (rd_LFace l0_0 x11_1) ((rd_LFace l0_0 x11_1).length : Int) (wrap64 (x18_2 + 1))) else (none)) = some r := by first | (rw [hy106]; with_reducible exact H) | (have H2_ := (yfy _ _).symm.trans H; rw [hy106]; with_reducible exact H2_) | (have H2_ := (yfy _ _).symm.trans H; with_reducible exact H2_) | with_reducible exact H | (rw [hy106]; exact H) | exact H
     have Ny106 := Aside0.mk hy106
     clear hy106
     by_cases c12 : x3_2.length < 5864062014805
     rotate_left
     next =>
      rw [if_neg c12] at H
      exact absurd H (by simp)
     rw [if_pos c12] at H
     have LMc12 := Aside0.mk c12
     clear c12
     obtain ⟨y109, hy109⟩ : ∃ y_ : List (List Int), y_ = (x3_2 ++ [y106]) := ⟨_, rfl⟩
     replace H : (impl_Triangulation_boundaryFaces.l1 k2 y109 x11_1 l0_0 (l0_0.length : Int) x11_1 (rd_LFace l0_0 x11_1) ((rd_LFace l0_0 x11_1).length : Int) (wrap64 (x18_2 + 1))) = some r := by first | (rw [hy109]; with_reducible exact H) | (have H2_ := (yfy _ _).symm.trans H; rw [hy109]; with_reducible exact H2_) | (have H2_ := (yfy _ _).symm.trans H; with_reducible exact H2_) | with_reducible exact H | (rw [hy109]; exact H) | exact H
     have Ny109 := Aside0.mk hy109
     clear hy109
     have H' := Aside0.mk H
     clear H
     have p103 : 0 ≤ (x18_2 : Int) := of_decide_eq_true (by first | (with_reducible assumption) | assumption)
     have q103 : x18_2 < ((rd_LFace l0_0 x11_1).length : Int) := of_decide_eq_true (by first | (with_reducible assumption) | assumption)
     obtain ⟨ad103, e103, hx103_0, hx103_1⟩ := at_Face HR102_0.out x18_2 p103 q103
     cases e103
     replace hx103_0 := (HB.out.cell (yny w _ hx103_0)).trans hx103_0
     replace hx103_1 := (HB.out.cell (yny w _ hx103_1)).trans hx103_1
     replace p103 := eq_true p103
     replace q103 := eq_true q103
     go_wp2_with (first | ((with_reducible refine gate_dst (N := 7) rfl ?_); refine box_event ?hg (N := 7) ?hd (cs := #[.int .i64 0, .int .i64 0]) (t := 47) ?hr ?_; (case hd => rfl); (case hg => rfl); (case hr => first | (go_simp; done) | (go_simp; rfl)); intro gb104 hg w13 hbox hb; have n0_ := Aside0.mk (Kd.S_below (by (with_reducible repeat (first | apply Kd.S_alloc | apply Kd.S_drewN | apply Kd.S_drew)); exact HO_3.out) hb); have n1_ := Aside0.mk (blk_below (g := gb101) (o := .cells #[.slice (some ad102) l0_0.length c0_0] 30 (0, 0)) (by (with_reducible repeat (first | refine blk_drewN ?_ _ | refine blk_drew ?_ | refine blk_alloc ?_ _)); exact BK101.out) hb); have n2_ := Aside0.mk (below_step (by repeat (first | (with_reducible first | exact HB.out | apply below_alloc | apply pw_below_drewN | apply below_drew1 | refine below_set ?_ GE101.out) | exact HB.out)) hb); have n3_ := Aside0.mk (hbox); have n4_ := Aside0.mk ((by rw [hg]; exact (below_size (by repeat (first | (with_reducible first | exact HB.out | apply below_alloc | apply pw_below_drewN | apply below_drew1 | refine below_set ?_ GE101.out) | exact HB.out))) : w.heap.size ≤ gb104)); have n5_ := Aside0.mk ((by rw [hg]; exact (below_size (by repeat (first | (with_reducible first | exact HB.out | apply below_alloc | apply pw_below_drewN | apply below_drew1 | refine below_set ?_ GE101.out) | exact HB.out))) : w.heap.size ≤ gb104)); have n6_ := Aside0.mk ((by rw [hg]; exact Nat.ne_of_lt (blk_lt (g := gb101) (o := .cells #[.slice (some ad102) l0_0.length c0_0] 30 (0, 0)) (by (with_reducible repeat (first | refine blk_drewN ?_ _ | refine blk_drew ?_ | refine blk_alloc ?_ _)); exact BK101.out)) : gb101 ≠ gb104)); have n7_ := Aside0.mk ((by rw [hg]; exact Nat.ne_of_gt (blk_lt (g := gb101) (o := .cells #[.slice (some ad102) l0_0.length c0_0] 30 (0, 0)) (by (with_reducible repeat (first | refine blk_drewN ?_ _ | refine blk_drew ?_ | refine blk_alloc ?_ _)); exact BK101.out)) : gb104 ≠ gb101)); clear HO_3; clear BK101; clear HB; have HO_3 := n0_; have BK101 := n1_; have HB := n2_; have BK104 := n3_; have GW104 := n4_; have GE104 := n5_; have NB101_104 := n6_; have NB104_101 := n7_; clear n0_ n1_ n2_ n3_ n4_ n5_ n6_ n7_; clear hb hbox hg; have hnb14 := NB104_101.out; have hnc14 := NB101_104.out; have hcz15_0 : w13.cell? ⟨gb104, 0, none⟩ = some (.int .i64 0) := (blk_cell BK104.out 0).trans rfl; have hcz15_1 : w13.cell? ⟨gb104, 1, none⟩ = some (.int .i64 0) := (blk_cell BK104.out 1).trans rfl; have hfz15_0 := blk_frozen BK104.out 0; have hfz15_1 := blk_frozen BK104.out 1) | ((with_reducible refine gate_callee (f := 74) rfl ?_); refine goesL_ (some 24) rfl rfl Try.func74 (by kernel_rfl) rfl #[.agg #[.int .i64 ((rd_Face (rd_LFace l0_0 x11_1) x18_2).f0), .int .i64 ((rd_Face (rd_LFace l0_0 x11_1) x18_2).f1)]] rfl (by (try simp only [yiy, yjy, yky]); first | done | rfl | (simp only [yly, ymy]; rfl)) ?_; (with_reducible refine (impl_Face_isBoundary.calls ((rd_Face (rd_LFace l0_0 x11_1) x18_2).f0) ((rd_Face (rd_LFace l0_0 x11_1) x18_2).f1) true _ A10.out).mono ?_); rintro e w16 ⟨rfl, hb⟩; refine ⟨_, rfl, ?_⟩; have n0_ := Aside0.mk (Kd.S_below (by (with_reducible repeat (first | apply Kd.S_alloc | apply Kd.S_drewN | apply Kd.S_drew)); exact (Kd.S_mono (Kd.S_far (p := ⟨gb104, 1, none⟩) (Kd.S_far (p := ⟨gb104, 0, none⟩) (Kd.S_types HO_3.out BK104.out (by decide)) (fun _ hk => hk.2) (.int .i64 ((rd_Face (rd_LFace l0_0 x11_1) x18_2).f0))) (fun _ hk => hk.2) (.int .i64 ((rd_Face (rd_LFace l0_0 x11_1) x18_2).f1))) (fun _ h_ => h_.1))) hb); have n1_ := Aside0.mk (blk_below (g := gb101) (o := .cells #[.slice (some ad102) l0_0.length c0_0] 30 (0, 0)) (by (with_reducible repeat (first | refine blk_drewN ?_ _ | refine blk_drew ?_ | refine blk_alloc ?_ _)); refine blk_far ?_ NB101_104.out _; (with_reducible repeat (first | refine blk_drewN ?_ _ | refine blk_drew ?_ | refine blk_alloc ?_ _)); refine blk_far ?_ NB101_104.out _; (with_reducible repeat (first | refine blk_drewN ?_ _ | refine blk_drew ?_ | refine blk_alloc ?_ _)); exact BK101.out) hb); have n2_ := Aside0.mk (blk_below (g := gb104) (o := .cells #[.int .i64 ((rd_Face (rd_LFace l0_0 x11_1) x18_2).f0), .int .i64 ((rd_Face (rd_LFace l0_0 x11_1) x18_2).f1)] 47 (0, 0)) (by (with_reducible repeat (first | refine blk_drewN ?_ _ | refine blk_drew ?_ | refine blk_alloc ?_ _)); refine blk_put (cs := #[.int .i64 ((rd_Face (rd_LFace l0_0 x11_1) x18_2).f0), .int .i64 0]) ?_ 1 _ rfl; (with_reducible repeat (first | refine blk_drewN ?_ _ | refine blk_drew ?_ | refine blk_alloc ?_ _)); refine blk_put (cs := #[.int .i64 0, .int .i64 0]) ?_ 0 _ rfl; (with_reducible repeat (first | refine blk_drewN ?_ _ | refine blk_drew ?_ | refine blk_alloc ?_ _)); exact BK104.out) hb); have n3_ := Aside0.mk (below_step (by repeat (first | (with_reducible first | exact HB.out | apply below_alloc | apply pw_below_drewN | apply below_drew1 | refine below_set ?_ GE101.out | refine below_set ?_ GE104.out) | exact HB.out)) hb); clear HO_3; clear BK101; clear BK104; clear HB; have HO_3 := n0_; have BK101 := n1_; have BK104 := n2_; have HB := n3_; clear n0_ n1_ n2_ n3_; (try clear hb); (try clear hb2); (try clear hk); (try clear hi)) | ((with_reducible refine gate_dst (N := 28) rfl ?_); refine Kd.R_lit (Kd.int .i64) _ 2 ?hg (N := 28) ?hd (xs := ([x11_1, x18_2] : List Int)) (inner := [.int .i64 x11_1, .int .i64 x18_2]) (ok := fun _ => True) (okp := fun _ => True) ?hr ?hp (fun _ hk => hk) trivial (Below.refl _ _) (yoy _) (by simp) ?_; (case hd => rfl); (case hg => rfl); (case hr => first | (go_simp; done) | (go_simp; rfl)); (case hp => exact (Reps.one (show Kd.M (Kd.int .i64) _ _ _ x11_1 [.int .i64 x11_1] from rfl) (Reps.one (show Kd.M (Kd.int .i64) _ _ _ x18_2 [.int .i64 x18_2] from rfl) (Reps.none _ _)))); intro v107 w17 ho18 hb hg_ hnew_; clear hg_ hnew_; (first | rw [← Ny106.out] at ho18 | (simp only [Int.reduceToNat] at ho18; rw [← Ny106.out] at ho18)); have n0_ := Aside0.mk (Kd.S_elder' (by (with_reducible repeat (first | apply Kd.S_alloc | apply Kd.S_drewN | apply Kd.S_drew)); exact HO_3.out) (Kd.R_base ho18) hb); have n1_ := Aside0.mk (Kd.R_lower ho18 (below_size (by repeat (first | (with_reducible first | exact HB.out | apply below_alloc | apply pw_below_drewN | apply below_drew1 | refine below_set ?_ GE101.out | refine below_set ?_ GE104.out) | exact HB.out)))); have n2_ := Aside0.mk (blk_below (g := gb101) (o := .cells #[.slice (some ad102) l0_0.length c0_0] 30 (0, 0)) (by (with_reducible repeat (first | refine blk_drewN ?_ _ | refine blk_drew ?_ | refine blk_alloc ?_ _)); exact BK101.out) hb); have n3_ := Aside0.mk (blk_below (g := gb104) (o := .cells #[.int .i64 ((rd_Face (rd_LFace l0_0 x11_1) x18_2).f0), .int .i64 ((rd_Face (rd_LFace l0_0 x11_1) x18_2).f1)] 47 (0, 0)) (by (with_reducible repeat (first | refine blk_drewN ?_ _ | refine blk_drew ?_ | refine blk_alloc ?_ _)); exact BK104.out) hb); have n4_ := Aside0.mk (below_step (by repeat (first | (with_reducible first | exact HB.out | apply below_alloc | apply pw_below_drewN | apply below_drew1 | refine below_set ?_ GE101.out | refine below_set ?_ GE104.out) | exact HB.out)) hb); clear HO_3; clear BK101; clear BK104; clear HB; have HO_3 := n0_; have HO108 := n1_; have BK101 := n2_; have BK104 := n3_; have HB := n4_; clear n0_ n1_ n2_ n3_ n4_; clear hb ho18; obtain ⟨Ao20, co20, eo20⟩ := Kd.R_slice HO108.out; subst eo20) | ((with_reducible refine gate_builtin (b := .append) (xs := #[.tmp 25, .tmp 29]) rfl ?_); at_builtin; refine Kd.S_append (Kd.slice 2 (Kd.int .i64)) (w0 := w) w.heap.size rfl (.tmp 25) (.tmp 29) 65 44 (.slice none 0 0) 24 rfl Try.underlying65 info44 rfl (by decide) (by omega) u3 x3_2 y106 [.slice Ao20 y106.length co20] (fun _ => True) (fun k_ => some k_ = (.slice Ao20 y106.length co20 : Value).ownBlock) rfl rfl ?aP (fun k_ hk_ => ((Kd.R_mono (ok' := fun k_ => ((fun _ => True)) k_ ∧ some k_ ≠ (u3 : Value).ownBlock) (Kd.R_apart' (HO108.out) (Kd.S_typed HO_3.out) (by decide)) (fun k_ hk => ⟨trivial, hk.2⟩))).1 k_ hk_.symm) ?aF ?aO ?aB ?aS ?aL ?_; (case aP => exact Kd.M_row (Kd.R_mono (Kd.R_tight rfl (Kd.R_mono (ok' := fun k_ => ((fun _ => True)) k_ ∧ some k_ ≠ (u3 : Value).ownBlock) (Kd.R_apart' (HO108.out) (Kd.S_typed HO_3.out) (by decide)) (fun k_ hk => ⟨trivial, hk.2⟩))) (fun _ h_ => h_))); (case aB => exact (by repeat (first | (with_reducible first | exact HB.out | apply below_alloc | apply pw_below_drewN | apply below_drew1 | refine below_set ?_ GE101.out | refine below_set ?_ GE104.out) | exact HB.out))); (case aF => exact (fun _ _ => trivial)); (case aO => exact (by (with_reducible repeat (first | apply Kd.S_alloc | apply Kd.S_drewN | apply Kd.S_drew)); exact Kd.S_mono HO_3.out (fun k_ hk => ⟨trivial, fun e_ => hk.2 e_⟩))); (case aS => exact (below_size (by repeat (first | (with_reducible first | exact HB.out | apply below_alloc | apply pw_below_drewN | apply below_drew1 | refine below_set ?_ GE101.out | refine below_set ?_ GE104.out) | exact HB.out)))); (case aL => have := LMc12.out; omega); intro v110 w19 ho hb hg hat; rw [← Ny109.out] at ho; have n0_ := Aside0.mk (blk_grown (g := gb101) (o := .cells #[.slice (some ad102) l0_0.length c0_0] 30 (0, 0)) (by (with_reducible repeat (first | refine blk_drewN ?_ _ | refine blk_drew ?_ | refine blk_alloc ?_ _)); exact BK101.out) hg (Kd.S_ne HO_3.out BK101.out (by decide))); have n1_ := Aside0.mk (blk_grown (g := gb104) (o := .cells #[.int .i64 ((rd_Face (rd_LFace l0_0 x11_1) x18_2).f0), .int .i64 ((rd_Face (rd_LFace l0_0 x11_1) x18_2).f1)] 47 (0, 0)) (by (with_reducible repeat (first | refine blk_drewN ?_ _ | refine blk_drew ?_ | refine blk_alloc ?_ _)); exact BK104.out) hg (Kd.S_ne HO_3.out BK104.out (by decide))); have n2_ := Aside0.mk (hb); have n3_ := Aside0.mk (ho); clear BK101; clear BK104; clear HB; clear HO_3; clear HO108; have BK101 := n0_; have BK104 := n1_; have HB := n2_; have HO111 := n3_; clear n0_ n1_ n2_ n3_; clear ho hb hg hat))
     go_roundg k2
     case measure => have := HK1.out; have := HK2.out; omega
     case rel => exact ⟨(y109), (wrap64 (x18_2 + 1)), (by first | rfl | (simp; done) | (simp [*]; done)), H', ⟨by have := HK1.out; have := HK2.out; omega⟩, ⟨by (with_reducible repeat (first | apply Kd.S_alloc | apply Kd.S_drewN | apply Kd.S_drew)); exact HO111.out⟩, ⟨by (with_reducible repeat (first | refine blk_drewN ?_ _ | refine blk_drew ?_ | refine blk_alloc ?_ _)); exact BK101.out⟩, ⟨by repeat (first | (with_reducible first | exact HB.out | apply below_alloc | apply pw_below_drewN | apply below_drew1 | refine below_set ?_ GE101.out | refine below_set ?_ GE104.out) | exact HB.out)⟩⟩
theorem eqA47 (d : Nat) (w : World) (x0 y0 : Int) (x1 y1 : Int) :
    (Op.equalIn (d + 2) 47 (.agg #[.int .i64 x0, .int .i64 x1]) (.agg #[.int .i64 y0, .int .i64 y1])).run Try.prog w = .ok (x0 == y0 && (x1 == y1)) w := by
  refine eqA_of Try.underlying47 (by kernel_rfl) ?_
  refine eqf_cons (by rfl) (by go_simp; rfl) (by go_simp; rfl) (by go_simp) ?_
  exact eqf_last (by rfl) (by go_simp; rfl) (by go_simp; rfl) (by go_simp)
/-! ### impl_size_Simpl_Face: function 32 -/
def impl_size_Simpl_Face.f (l0 : List (List (SFace))) : Option (Int) := some (l0.length : Int)
set_option maxHeartbeats 8000000 in
set_option maxRecDepth 100000 in
theorem impl_size_Simpl_Face.calls (A0 : Option Addr) (c0 : Nat) (l0 : List (List (SFace))) (r : Int) (w : World) (hr0 : Kd.C (Kd.slice 47 kFace) w A0 l0.length l0) (hc0 : l0.length ≤ c0) (h : impl_size_Simpl_Face.f l0 = some r) :
    Calls Try.prog 32 #[.slice A0 l0.length c0] w fun e w' => e = .returned (.int .i64 r) ∧ Drawn0 w w' := by
  have HR0 := Aside0.mk hr0
  have HC0 := Aside0.mk hc0
  clear hr0 hc0
  have H : (some (l0.length : Int)) = some r := h
  clear h
  obtain rfl := yey H
  go_enter Try.func32, Try.ntmps32
  go_wp2
  go_ret
  exact ⟨by first | rfl | (simp; done) | (simp [*]; done), by repeat (first | exact Drawn0.refl _ | apply Drawn0.step)⟩
/-! ### impl_hasIndex_Simpl_Face: function 83 -/
def impl_hasIndex_Simpl_Face.f (l0 : List (List (SFace))) (a1 : Int) : Option (Bool) := (impl_size_Simpl_Face.f l0).bind fun t101 => ((impl_inRange.f a1 0 (wrap64 (t101 - 1))).bind fun t102 => (some t102))
set_option maxHeartbeats 8000000 in
set_option maxRecDepth 100000 in
theorem impl_hasIndex_Simpl_Face.calls (A0 : Option Addr) (c0 : Nat) (l0 : List (List (SFace))) (a1 : Int) (r : Bool) (w : World) (hr0 : Kd.C (Kd.slice 47 kFace) w A0 l0.length l0) (hc0 : l0.length ≤ c0) (h : impl_hasIndex_Simpl_Face.f l0 a1 = some r) :
    Calls Try.prog 83 #[.slice A0 l0.length c0, .int .i64 a1] w fun e w' => e = .returned (.bool r) ∧ Drawn0 w w' := by
  have HR0 := Aside0.mk hr0
  have HC0 := Aside0.mk hc0
  clear hr0 hc0
  have H : ((impl_size_Simpl_Face.f l0).bind fun t101 => ((impl_inRange.f a1 0 (wrap64 (t101 - 1))).bind fun t102 => (some t102))) = some r := h
  clear h
  replace H := ydy.mp H
  obtain ⟨t101, A30, H⟩ := H
  replace H : ((impl_inRange.f a1 0 (wrap64 (t101 - 1))).bind fun t102 => (some t102)) = some r := H
  have A3 := Aside0.mk A30
  clear A30
  replace H := ydy.mp H
  obtain ⟨t102, A40, H⟩ := H
  replace H : (some t102) = some r := H
  have A4 := Aside0.mk A40
  clear A40
  obtain rfl := yey H
  go_enter Try.func83, Try.ntmps83
  go_wp2_with (first | ((with_reducible refine gate_callee (f := 32) rfl ?_); refine goesL_ (some 7) rfl rfl Try.func32 (by kernel_rfl) rfl #[.slice A0 l0.length c0] rfl (by (try simp only [yiy, yjy, yky]); first | done | rfl | (simp only [yly, ymy]; rfl)) ?_; (with_reducible refine (impl_size_Simpl_Face.calls _ _ l0 t101 _ ?side1 ?side2 A3.out).mono ?_); (case side1 => repeat (first | exact HR0.out | (with_reducible refine Kd.C_alloc ?_ _) | (with_reducible refine Kd.C_drewN ?_ _) | (with_reducible refine Kd.C_drew ?_))); (case side2 => exact HC0.out); rintro e w' ⟨rfl, ⟨nd, rfl⟩⟩; refine ⟨_, rfl, ?_⟩) | ((with_reducible refine gate_callee (f := 37) rfl ?_); refine goesL_ (some 9) rfl rfl Try.func37 (by kernel_rfl) rfl #[.int .i64 a1, .int .i64 0, .int .i64 (wrap64 (t101 - 1))] rfl (by (try simp only [yiy, yjy, yky]); first | done | rfl | (simp only [yly, ymy]; rfl)) ?_; (with_reducible refine (impl_inRange.calls a1 0 (wrap64 (t101 - 1)) t102 _ A4.out).mono ?_); rintro e w' ⟨rfl, ⟨nd, rfl⟩⟩; refine ⟨_, rfl, ?_⟩))
  go_ret
  exact ⟨by first | rfl | (simp; done) | (simp [*]; done), by repeat (first | exact Drawn0.refl _ | apply Drawn0.step)⟩
/-! ### impl_isPerm: function 84 -/
def impl_isPerm.f (a0 : Int) : Option (Bool) := (impl_inRange.f a0 0 23).bind fun t101 => (some t101)
set_option maxHeartbeats 8000000 in
set_option maxRecDepth 100000 in
theorem impl_isPerm.calls (a0 : Int) (r : Bool) (w : World) (h : impl_isPerm.f a0 = some r) :
    Calls Try.prog 84 #[.int .i64 a0] w fun e w' => e = .returned (.bool r) ∧ Drawn0 w w' := by
  have H : ((impl_inRange.f a0 0 23).bind fun t101 => (some t101)) = some r := h
  clear h
  replace H := ydy.mp H
  obtain ⟨t101, A20, H⟩ := H
  replace H : (some t101) = some r := H
  have A2 := Aside0.mk A20
  clear A20
  obtain rfl := yey H
  go_enter Try.func84, Try.ntmps84
  go_wp2_with (first | ((with_reducible refine gate_callee (f := 37) rfl ?_); refine goesL_ (some 4) rfl rfl Try.func37 (by kernel_rfl) rfl #[.int .i64 a0, .int .i64 0, .int .i64 23] rfl (by (try simp only [yiy, yjy, yky]); first | done | rfl | (simp only [yly, ymy]; rfl)) ?_; (with_reducible refine (impl_inRange.calls a0 0 23 t101 _ A2.out).mono ?_); rintro e w' ⟨rfl, ⟨nd, rfl⟩⟩; refine ⟨_, rfl, ?_⟩))
  go_ret
  exact ⟨by first | rfl | (simp; done) | (simp [*]; done), by repeat (first | exact Drawn0.refl _ | apply Drawn0.step)⟩
section
attribute [local go_sem high] eqA47
/-! ### impl_Triangulation_isGood: function 73 -/
def impl_Triangulation_isGood.j0 : Nat → Int → Int → Bool → List (List (SFace)) → Int → Int → Option (Bool)
 | 0, _, _, _, _, _, _ => none
 | k + 1, x1, x2, x34, x102000, x105000, x105001 => if x34 = true then (some false) else ((impl_Face_target.f x105000 x105001 x2).bind fun t107 => (if 0 ≤ x105000 then (if x105000 < (x102000.length : Int) then (if 0 ≤ t107 then (if t107 < ((rd_LFace x102000 x105000).length : Int) then ((impl_Face_partner.f x105000 x105001 x1).bind fun bt110 => (if (((rd_Face (rd_LFace x102000 x105000) t107).f0) == bt110.1 && (((rd_Face (rd_LFace x102000 x105000) t107).f1) == bt110.2)) = true then (if x105000 = x1 then (some (t107 != x2)) else (some true)) else (some false))) else (none)) else (none)) else (none)) else (none)))
def impl_Triangulation_isGood.f (k : Nat) (l0_0 : List (List (SFace))) (a1 : Int) (a2 : Int) : Option (Bool) := if 0 ≤ a1 then (if a1 < (l0_0.length : Int) then (if 0 ≤ a2 then (if a2 < ((rd_LFace l0_0 a1).length : Int) then (if ((rd_Face (rd_LFace l0_0 a1) a2).f0) = (-1) then (some (((rd_Face (rd_LFace l0_0 a1) a2).f1) == 0)) else ((impl_hasIndex_Simpl_Face.f l0_0 ((rd_Face (rd_LFace l0_0 a1) a2).f0)).bind fun t105 => (if t105 = true then ((impl_isPerm.f ((rd_Face (rd_LFace l0_0 a1) a2).f1)).bind fun t106 => (impl_Triangulation_isGood.j0 k a1 a2 (!t106) l0_0 ((rd_Face (rd_LFace l0_0 a1) a2).f0) ((rd_Face (rd_LFace l0_0 a1) a2).f1))) else (impl_Triangulation_isGood.j0 k a1 a2 true l0_0 ((rd_Face (rd_LFace l0_0 a1) a2).f0) ((rd_Face (rd_LFace l0_0 a1) a2).f1))))) else (none)) else (none)) else (none)) else (none)
def impl_Triangulation_isGood.T7 : Bool × List (List Nat × List Nat) := (true, [([], []), ([0], [0]), ([], []), ([2], [2]), ([1, 3], [1, 3]), ([4], [4]), ([], []), ([5, 6], [5, 6]), ([7], [7]), ([], []), ([], []), ([9, 10], [9, 10]), ([8, 11], [8, 11]), ([12, 11], [12]), ([13], [13]), ([14, 13], [13, 14]), ([13], [13]), ([15, 16, 13], [13, 15, 16]), ([17, 13, 13], [13, 17]), ([18], [18]), ([18], [18]), ([19, 20, 18], [18, 19, 20]), ([18, 21, 13], [13, 18, 21]), ([13, 22], [13, 22]), ([23, 18, 0, 1, 2, 3, 4, 5, 6, 7, 8, 9, 10, 11, 12, 13, 14, 15, 16, 17, 18, 19, 20, 21, 22, 23], [23])])
def impl_Triangulation_isGood.B7 : List Nat := [0, 1, 0, 4, 15, 31, 0, 127, 255, 0, 0, 1536, 4095, 8191, 16383, 32767, 16383, 131071, 262143, 524287, 524287, 2097151, 4194303, 8388607, 16777215]
theorem impl_Triangulation_isGood.tab7 : rtab .any (opsOf Try.f73 7) = impl_Triangulation_isGood.T7 := by kernel_rfl
theorem impl_Triangulation_isGood.bits7 : waitsOk impl_Triangulation_isGood.T7.2 impl_Triangulation_isGood.B7 = true := by kernel_rfl
set_option maxHeartbeats 8000000 in
set_option maxRecDepth 100000 in
theorem impl_Triangulation_isGood.calls (k : Nat) (A0_0 : Option Addr) (c0_0 : Nat) (l0_0 : List (List (SFace))) (a1 : Int) (a2 : Int) (r : Bool) (w : World) (hr0_0 : Kd.C (Kd.slice 47 kFace) w A0_0 l0_0.length l0_0) (hc0_0 : l0_0.length ≤ c0_0) (h : impl_Triangulation_isGood.f k l0_0 a1 a2 = some r) :
 Calls Try.prog 73 #[.agg #[.slice A0_0 l0_0.length c0_0], .int .i64 a1, .int .i64 a2] w fun e w' => e = .returned (.bool r) ∧ Below w.heap.size w w' := by
 have hu30 := Try.underlying30
 have hu47 := Try.underlying47
 have HR0_0 := Aside0.mk hr0_0
 have HC0_0 := Aside0.mk hc0_0
 clear hr0_0 hc0_0
 have HB := Aside0.mk (Below.refl w.heap.size w)
 have H : (if 0 ≤ a1 then (if a1 < (l0_0.length : Int) then (if 0 ≤ a2 then (if a2 < ((rd_LFace l0_0 a1).length : Int) then (if ((rd_Face (rd_LFace l0_0 a1) a2).f0) = (-1) then (some (((rd_Face (rd_LFace l0_0 a1) a2).f1) == 0)) else ((impl_hasIndex_Simpl_Face.f l0_0 ((rd_Face (rd_LFace l0_0 a1) a2).f0)).bind fun t105 => (if t105 = true then ((impl_isPerm.f ((rd_Face (rd_LFace l0_0 a1) a2).f1)).bind fun t106 => (impl_Triangulation_isGood.j0 k a1 a2 (!t106) l0_0 ((rd_Face (rd_LFace l0_0 a1) a2).f0) ((rd_Face (rd_LFace l0_0 a1) a2).f1))) else (impl_Triangulation_isGood.j0 k a1 a2 true l0_0 ((rd_Face (rd_LFace l0_0 a1) a2).f0) ((rd_Face (rd_LFace l0_0 a1) a2).f1))))) else (none)) else (none)) else (none)) else (none)) = some r := h
 clear h
 by_cases c4 : 0 ≤ a1
 rotate_left
 next =>
  rw [if_neg c4] at H
  exact absurd H (by simp)
 rw [if_pos c4] at H
 have c4b0 : decide (0 ≤ a1) = true := ygy c4
 clear c4
 by_cases c5 : a1 < (l0_0.length : Int)
 rotate_left
 next =>
  rw [if_neg c5] at H
  exact absurd H (by simp)
 rw [if_pos c5] at H
 have c5b0 : decide (a1 < (l0_0.length : Int)) = true := ygy c5
 clear c5
 by_cases c6 : 0 ≤ a2
 rotate_left
 next =>
  rw [if_neg c6] at H
  exact absurd H (by simp)
 rw [if_pos c6] at H
 have c6b0 : decide (0 ≤ a2) = true := ygy c6
 clear c6
 by_cases c7 : a2 < ((rd_LFace l0_0 a1).length : Int)
 rotate_left
 next =>
  rw [if_neg c7] at H
  exact absurd H (by simp)
 rw [if_pos c7] at H
 have c7b0 : decide (a2 < ((rd_LFace l0_0 a1).length : Int)) = true := ygy c7
 clear c7
 by_cases c8 : ((rd_Face (rd_LFace l0_0 a1) a2).f0) = (-1)
 next =>
  rw [if_pos c8] at H
  have c8b0 : (((rd_Face (rd_LFace l0_0 a1) a2).f0) == (-1)) = true := beq_iff_eq.mpr c8
  have c8b1 : (((rd_Face (rd_LFace l0_0 a1) a2).f0) != (-1)) = false := bne_eq_false_iff_eq.mpr c8
  clear c8
  obtain rfl := yey H
  go_enter Try.func73, Try.ntmps73
  go_wp2_with (first | ((with_reducible refine gate_dst (N := 3) rfl ?_); refine box_event ?hg (N := 3) ?hd (cs := #[.slice A0_0 l0_0.length c0_0]) (t := 30) ?hr ?_; (case hd => rfl); (case hg => rfl); (case hr => first | (go_simp; done) | (go_simp; rfl)); intro gb101 hg w9 hbox hb; have n0_ := Aside0.mk (below_step (by repeat (first | (with_reducible first | exact HB.out | apply below_alloc | apply pw_below_drewN | apply below_drew1) | exact HB.out)) hb); have n1_ := Aside0.mk (hbox); have n2_ := Aside0.mk ((by rw [hg]; exact (below_size (by repeat (first | (with_reducible first | exact HB.out | apply below_alloc | apply pw_below_drewN | apply below_drew1) | exact HB.out))) : w.heap.size ≤ gb101)); have n3_ := Aside0.mk ((by rw [hg]; exact (below_size (by repeat (first | (with_reducible first | exact HB.out | apply below_alloc | apply pw_below_drewN | apply below_drew1) | exact HB.out))) : w.heap.size ≤ gb101)); clear HB; have HB := n0_; have BK101 := n1_; have GW101 := n2_; have GE101 := n3_; clear n0_ n1_ n2_ n3_; clear hb hbox hg; have hcz10_0 : w9.cell? ⟨gb101, 0, none⟩ = some (.slice A0_0 l0_0.length c0_0) := (blk_cell BK101.out 0).trans rfl; have hfz10_0 := blk_frozen BK101.out 0; have p102 : 0 ≤ (a1 : Int) := of_decide_eq_true (by first | (with_reducible assumption) | assumption); have q102 : a1 < (l0_0.length : Int) := of_decide_eq_true (by first | (with_reducible assumption) | assumption); obtain ⟨ad102, A102_0, c102_0, e102, hx102_0, hl102_0, hi102_0⟩ := at_LFace HR0_0.out a1 p102 q102; cases e102; replace hx102_0 := (HB.out.cell (yny w _ hx102_0)).trans hx102_0; have HR102_0 := Aside0.mk hi102_0; have HC102_0 := Aside0.mk hl102_0; clear hi102_0 hl102_0; replace p102 := eq_true p102; replace q102 := eq_true q102; have p103 : 0 ≤ (a2 : Int) := of_decide_eq_true (by first | (with_reducible assumption) | assumption); have q103 : a2 < ((rd_LFace l0_0 a1).length : Int) := of_decide_eq_true (by first | (with_reducible assumption) | assumption); obtain ⟨ad103, e103, hx103_0, hx103_1⟩ := at_Face HR102_0.out a2 p103 q103; cases e103; replace hx103_0 := (HB.out.cell (yny w _ hx103_0)).trans hx103_0; replace hx103_1 := (HB.out.cell (yny w _ hx103_1)).trans hx103_1; replace p103 := eq_true p103; replace q103 := eq_true q103) | ((with_reducible refine gate_dst (N := 7) rfl ?_); refine box_event ?hg (N := 7) ?hd (cs := #[.int .i64 0, .int .i64 0]) (t := 47) ?hr ?_; (case hd => rfl); (case hg => rfl); (case hr => first | (go_simp; done) | (go_simp; rfl)); intro gb104 hg w11 hbox hb; have n0_ := Aside0.mk (blk_below (g := gb101) (o := .cells #[.slice (some ad102) l0_0.length c0_0] 30 (0, 0)) (by (with_reducible repeat (first | refine blk_drewN ?_ _ | refine blk_drew ?_ | refine blk_alloc ?_ _)); exact BK101.out) hb); have n1_ := Aside0.mk (below_step (by repeat (first | (with_reducible first | exact HB.out | apply below_alloc | apply pw_below_drewN | apply below_drew1 | refine below_set ?_ GE101.out) | exact HB.out)) hb); have n2_ := Aside0.mk (hbox); have n3_ := Aside0.mk ((by rw [hg]; exact (below_size (by repeat (first | (with_reducible first | exact HB.out | apply below_alloc | apply pw_below_drewN | apply below_drew1 | refine below_set ?_ GE101.out) | exact HB.out))) : w.heap.size ≤ gb104)); have n4_ := Aside0.mk ((by rw [hg]; exact (below_size (by repeat (first | (with_reducible first | exact HB.out | apply below_alloc | apply pw_below_drewN | apply below_drew1 | refine below_set ?_ GE101.out) | exact HB.out))) : w.heap.size ≤ gb104)); have n5_ := Aside0.mk ((by rw [hg]; exact Nat.ne_of_lt (blk_lt (g := gb101) (o := .cells #[.slice (some ad102) l0_0.length c0_0] 30 (0, 0)) (by (with_reducible repeat (first | refine blk_drewN ?_ _ | refine blk_drew ?_ | refine blk_alloc ?_ _)); exact BK101.out)) : gb101 ≠ gb104)); have n6_ := Aside0.mk ((by rw [hg]; exact Nat.ne_of_gt (blk_lt (g := gb101) (o := .cells #[.slice (some ad102) l0_0.length c0_0] 30 (0, 0)) (by (with_reducible repeat (first | refine blk_drewN ?_ _ | refine blk_drew ?_ | refine blk_alloc ?_ _)); exact BK101.out)) : gb104 ≠ gb101)); clear BK101; clear HB; have BK101 := n0_; have HB := n1_; have BK104 := n2_; have GW104 := n3_; have GE104 := n4_; have NB101_104 := n5_; have NB104_101 := n6_; clear n0_ n1_ n2_ n3_ n4_ n5_ n6_; clear hb hbox hg; have hnb12 := NB104_101.out; have hnc12 := NB101_104.out; have hcz13_0 : w11.cell? ⟨gb104, 0, none⟩ = some (.int .i64 0) := (blk_cell BK104.out 0).trans rfl; have hcz13_1 : w11.cell? ⟨gb104, 1, none⟩ = some (.int .i64 0) := (blk_cell BK104.out 1).trans rfl; have hfz13_0 := blk_frozen BK104.out 0; have hfz13_1 := blk_frozen BK104.out 1))
  go_ret
  exact ⟨by first | rfl | (simp [errW_none, errW_some] <;> rfl) | (simp [*, errW_none, errW_some] <;> rfl), by repeat (first | (with_reducible first | exact HB.out | apply below_alloc | apply pw_below_drewN | apply below_drew1 | refine below_set ?_ GE101.out | refine below_set ?_ GE104.out) | exact HB.out)⟩
 next =>
  rw [if_neg c8] at H
  have c8b0 : (((rd_Face (rd_LFace l0_0 a1) a2).f0) == (-1)) = false := beq_eq_false_iff_ne.mpr c8
  have c8b1 : (((rd_Face (rd_LFace l0_0 a1) a2).f0) != (-1)) = true := bne_iff_ne.mpr c8
  have HC14 := Aside0.mk H
  clear H
  go_enter Try.func73, Try.ntmps73
  go_upto_region 4 with (first | ((with_reducible refine gate_dst (N := 3) rfl ?_); refine box_event ?hg (N := 3) ?hd (cs := #[.slice A0_0 l0_0.length c0_0]) (t := 30) ?hr ?_; (case hd => rfl); (case hg => rfl); (case hr => first | (go_simp; done) | (go_simp; rfl)); intro gb101 hg w15 hbox hb; have n0_ := Aside0.mk (below_step (by repeat (first | (with_reducible first | exact HB.out | apply below_alloc | apply pw_below_drewN | apply below_drew1) | exact HB.out)) hb); have n1_ := Aside0.mk (hbox); have n2_ := Aside0.mk ((by rw [hg]; exact (below_size (by repeat (first | (with_reducible first | exact HB.out | apply below_alloc | apply pw_below_drewN | apply below_drew1) | exact HB.out))) : w.heap.size ≤ gb101)); have n3_ := Aside0.mk ((by rw [hg]; exact (below_size (by repeat (first | (with_reducible first | exact HB.out | apply below_alloc | apply pw_below_drewN | apply below_drew1) | exact HB.out))) : w.heap.size ≤ gb101)); clear HB; have HB := n0_; have BK101 := n1_; have GW101 := n2_; have GE101 := n3_; clear n0_ n1_ n2_ n3_; clear hb hbox hg; have hcz16_0 : w15.cell? ⟨gb101, 0, none⟩ = some (.slice A0_0 l0_0.length c0_0) := (blk_cell BK101.out 0).trans rfl; have hfz16_0 := blk_frozen BK101.out 0; have p102 : 0 ≤ (a1 : Int) := of_decide_eq_true (by first | (with_reducible assumption) | assumption); have q102 : a1 < (l0_0.length : Int) := of_decide_eq_true (by first | (with_reducible assumption) | assumption); obtain ⟨ad102, A102_0, c102_0, e102, hx102_0, hl102_0, hi102_0⟩ := at_LFace HR0_0.out a1 p102 q102; cases e102; replace hx102_0 := (HB.out.cell (yny w _ hx102_0)).trans hx102_0; have HR102_0 := Aside0.mk hi102_0; have HC102_0 := Aside0.mk hl102_0; clear hi102_0 hl102_0; replace p102 := eq_true p102; replace q102 := eq_true q102; have p103 : 0 ≤ (a2 : Int) := of_decide_eq_true (by first | (with_reducible assumption) | assumption); have q103 : a2 < ((rd_LFace l0_0 a1).length : Int) := of_decide_eq_true (by first | (with_reducible assumption) | assumption); obtain ⟨ad103, e103, hx103_0, hx103_1⟩ := at_Face HR102_0.out a2 p103 q103; cases e103; replace hx103_0 := (HB.out.cell (yny w _ hx103_0)).trans hx103_0; replace hx103_1 := (HB.out.cell (yny w _ hx103_1)).trans hx103_1; replace p103 := eq_true p103; replace q103 := eq_true q103) | ((with_reducible refine gate_dst (N := 7) rfl ?_); refine box_event ?hg (N := 7) ?hd (cs := #[.int .i64 0, .int .i64 0]) (t := 47) ?hr ?_; (case hd => rfl); (case hg => rfl); (case hr => first | (go_simp; done) | (go_simp; rfl)); intro gb104 hg w17 hbox hb; have n0_ := Aside0.mk (blk_below (g := gb101) (o := .cells #[.slice (some ad102) l0_0.length c0_0] 30 (0, 0)) (by (with_reducible repeat (first | refine blk_drewN ?_ _ | refine blk_drew ?_ | refine blk_alloc ?_ _)); exact BK101.out) hb); have n1_ := Aside0.mk (below_step (by repeat (first | (with_reducible first | exact HB.out | apply below_alloc | apply pw_below_drewN | apply below_drew1 | refine below_set ?_ GE101.out) | exact HB.out)) hb); have n2_ := Aside0.mk (hbox); have n3_ := Aside0.mk ((by rw [hg]; exact (below_size (by repeat (first | (with_reducible first | exact HB.out | apply below_alloc | apply pw_below_drewN | apply below_drew1 | refine below_set ?_ GE101.out) | exact HB.out))) : w.heap.size ≤ gb104)); have n4_ := Aside0.mk ((by rw [hg]; exact (below_size (by repeat (first | (with_reducible first | exact HB.out | apply below_alloc | apply pw_below_drewN | apply below_drew1 | refine below_set ?_ GE101.out) | exact HB.out))) : w.heap.size ≤ gb104)); have n5_ := Aside0.mk ((by rw [hg]; exact Nat.ne_of_lt (blk_lt (g := gb101) (o := .cells #[.slice (some ad102) l0_0.length c0_0] 30 (0, 0)) (by (with_reducible repeat (first | refine blk_drewN ?_ _ | refine blk_drew ?_ | refine blk_alloc ?_ _)); exact BK101.out)) : gb101 ≠ gb104)); have n6_ := Aside0.mk ((by rw [hg]; exact Nat.ne_of_gt (blk_lt (g := gb101) (o := .cells #[.slice (some ad102) l0_0.length c0_0] 30 (0, 0)) (by (with_reducible repeat (first | refine blk_drewN ?_ _ | refine blk_drew ?_ | refine blk_alloc ?_ _)); exact BK101.out)) : gb104 ≠ gb101)); clear BK101; clear HB; have BK101 := n0_; have HB := n1_; have BK104 := n2_; have GW104 := n3_; have GE104 := n4_; have NB101_104 := n5_; have NB104_101 := n6_; clear n0_ n1_ n2_ n3_ n4_ n5_ n6_; clear hb hbox hg; have hnb18 := NB104_101.out; have hnc18 := NB101_104.out; have hcz19_0 : w17.cell? ⟨gb104, 0, none⟩ = some (.int .i64 0) := (blk_cell BK104.out 0).trans rfl; have hcz19_1 : w17.cell? ⟨gb104, 1, none⟩ = some (.int .i64 0) := (blk_cell BK104.out 1).trans rfl; have hfz19_0 := blk_frozen BK104.out 0; have hfz19_1 := blk_frozen BK104.out 1))
  (try simp only [Act.put, yay, yby, ycy])
  go_cut [34] (fun v34 wc => ∃ (kq : Nat) (x34_13 : Bool), v34 = .bool x34_13 ∧ Aside0 (impl_Triangulation_isGood.j0 kq a1 a2 x34_13 l0_0 ((rd_Face (rd_LFace l0_0 a1) a2).f0) ((rd_Face (rd_LFace l0_0 a1) a2).f1) = some r) ∧ Aside0 (kq ≤ k) ∧ Aside0 (wc.heap[gb101]? = some (.cells #[(.slice (some ad102) l0_0.length c0_0)] 30 (0, 0))) ∧ Aside0 (wc.heap[gb104]? = some (.cells #[.int .i64 ((rd_Face (rd_LFace l0_0 a1) a2).f0), .int .i64 ((rd_Face (rd_LFace l0_0 a1) a2).f1)] 47 (0, 0))) ∧ Aside0 (Below w.heap.size w wc))
  case first =>
   have H := HC14.out
   clear HC14
   replace H := ydy.mp H
   obtain ⟨t105, A200, H⟩ := H
   replace H : (if t105 = true then ((impl_isPerm.f ((rd_Face (rd_LFace l0_0 a1) a2).f1)).bind fun t106 => (impl_Triangulation_isGood.j0 k a1 a2 (!t106) l0_0 ((rd_Face (rd_LFace l0_0 a1) a2).f0) ((rd_Face (rd_LFace l0_0 a1) a2).f1))) else (impl_Triangulation_isGood.j0 k a1 a2 true l0_0 ((rd_Face (rd_LFace l0_0 a1) a2).f0) ((rd_Face (rd_LFace l0_0 a1) a2).f1))) = some r := H
   have A20 := Aside0.mk A200
   clear A200
   by_cases c21 : t105 = true
   rotate_left
   next =>
    replace c21 := Bool.eq_false_iff.mpr c21
    subst c21
    have H1 : (impl_Triangulation_isGood.j0 k a1 a2 true l0_0 ((rd_Face (rd_LFace l0_0 a1) a2).f0) ((rd_Face (rd_LFace l0_0 a1) a2).f1)) = some r := by rw [if_neg (show ¬ (false = true) by decide)] at H; exact H
    clear H
    have H := H1
    clear H1
    have H' := Aside0.mk H
    clear H
    have hnb26 := NB101_104.out
    have hnc26 := NB104_101.out
    have hcz27_0 : w17.cell? ⟨gb101, 0, none⟩ = some (.slice (some ad102) l0_0.length c0_0) := (blk_cell BK101.out 0).trans rfl
    have hfz27_0 := blk_frozen BK101.out 0
    have hcz28_0 : w17.cell? ⟨gb104, 0, none⟩ = some (.int .i64 0) := (blk_cell BK104.out 0).trans rfl
    have hcz28_1 : w17.cell? ⟨gb104, 1, none⟩ = some (.int .i64 0) := (blk_cell BK104.out 1).trans rfl
    have hfz28_0 := blk_frozen BK104.out 0
    have hfz28_1 := blk_frozen BK104.out 1
    go_wp2_with (first | ((with_reducible refine gate_callee (f := 83) rfl ?_); refine goesL_ (some 27) rfl rfl Try.func83 (by kernel_rfl) rfl #[.slice (some ad102) l0_0.length c0_0, .int .i64 ((rd_Face (rd_LFace l0_0 a1) a2).f0)] rfl (by (try simp only [yiy, yjy, yky]); first | done | rfl | (simp only [yly, ymy]; rfl)) ?_; (with_reducible refine (impl_hasIndex_Simpl_Face.calls _ _ l0_0 ((rd_Face (rd_LFace l0_0 a1) a2).f0) false _ ?side1 ?side2 A20.out).mono ?_); (case side1 => exact Kd.C_below HR0_0.out (by repeat (first | (with_reducible first | exact HB.out | apply below_alloc | apply pw_below_drewN | apply below_drew1 | refine below_set ?_ GE101.out | refine below_set ?_ GE104.out) | exact HB.out))); (case side2 => exact HC0_0.out); rintro e w' ⟨rfl, ⟨nd, rfl⟩⟩; refine ⟨_, rfl, ?_⟩))
    go_meet
    case rel => exact ⟨_, (true), (by first | rfl | (simp; done) | (simp [*]; done)), H', ⟨by first | omega | exact yoy _⟩, ⟨by (with_reducible repeat (first | refine blk_drewN ?_ _ | refine blk_drew ?_ | refine blk_alloc ?_ _)); refine blk_far ?_ NB101_104.out _; (with_reducible repeat (first | refine blk_drewN ?_ _ | refine blk_drew ?_ | refine blk_alloc ?_ _)); refine blk_far ?_ NB101_104.out _; (with_reducible repeat (first | refine blk_drewN ?_ _ | refine blk_drew ?_ | refine blk_alloc ?_ _)); exact BK101.out⟩, ⟨by (with_reducible repeat (first | refine blk_drewN ?_ _ | refine blk_drew ?_ | refine blk_alloc ?_ _)); refine blk_put (cs := #[.int .i64 ((rd_Face (rd_LFace l0_0 a1) a2).f0), .int .i64 0]) ?_ 1 _ rfl; (with_reducible repeat (first | refine blk_drewN ?_ _ | refine blk_drew ?_ | refine blk_alloc ?_ _)); refine blk_put (cs := #[.int .i64 0, .int .i64 0]) ?_ 0 _ rfl; (with_reducible repeat (first | refine blk_drewN ?_ _ | refine blk_drew ?_ | refine blk_alloc ?_ _)); exact BK104.out⟩, ⟨by repeat (first | (with_reducible first | exact HB.out | apply below_alloc | apply pw_below_drewN | apply below_drew1 | refine below_set ?_ GE101.out | refine below_set ?_ GE104.out) | exact HB.out)⟩⟩
   subst c21
   have H1 : ((impl_isPerm.f ((rd_Face (rd_LFace l0_0 a1) a2).f1)).bind fun t106 => (impl_Triangulation_isGood.j0 k a1 a2 (!t106) l0_0 ((rd_Face (rd_LFace l0_0 a1) a2).f0) ((rd_Face (rd_LFace l0_0 a1) a2).f1))) = some r := by rw [if_pos rfl] at H; exact H
   clear H
   have H := H1
   clear H1
   replace H := ydy.mp H
   obtain ⟨t106, A220, H⟩ := H
   replace H : (impl_Triangulation_isGood.j0 k a1 a2 (!t106) l0_0 ((rd_Face (rd_LFace l0_0 a1) a2).f0) ((rd_Face (rd_LFace l0_0 a1) a2).f1)) = some r := H
   have A22 := Aside0.mk A220
   clear A220
   have H' := Aside0.mk H
   clear H
   have hnb23 := NB101_104.out
   have hnc23 := NB104_101.out
   have hcz24_0 : w17.cell? ⟨gb101, 0, none⟩ = some (.slice (some ad102) l0_0.length c0_0) := (blk_cell BK101.out 0).trans rfl
   have hfz24_0 := blk_frozen BK101.out 0
   have hcz25_0 : w17.cell? ⟨gb104, 0, none⟩ = some (.int .i64 0) := (blk_cell BK104.out 0).trans rfl
   have hcz25_1 : w17.cell? ⟨gb104, 1, none⟩ = some (.int .i64 0) := (blk_cell BK104.out 1).trans rfl
   have hfz25_0 := blk_frozen BK104.out 0
   have hfz25_1 := blk_frozen BK104.out 1
   go_wp2_with (first | ((with_reducible refine gate_callee (f := 83) rfl ?_); refine goesL_ (some 27) rfl rfl Try.func83 (by kernel_rfl) rfl #[.slice (some ad102) l0_0.length c0_0, .int .i64 ((rd_Face (rd_LFace l0_0 a1) a2).f0)] rfl (by (try simp only [yiy, yjy, yky]); first | done | rfl | (simp only [yly, ymy]; rfl)) ?_; (with_reducible refine (impl_hasIndex_Simpl_Face.calls _ _ l0_0 ((rd_Face (rd_LFace l0_0 a1) a2).f0) true _ ?side1 ?side2 A20.out).mono ?_); (case side1 => exact Kd.C_below HR0_0.out (by repeat (first | (with_reducible first | exact HB.out | apply below_alloc | apply pw_below_drewN | apply below_drew1 | refine below_set ?_ GE101.out | refine below_set ?_ GE104.out) | exact HB.out))); (case side2 => exact HC0_0.out); rintro e w' ⟨rfl, ⟨nd, rfl⟩⟩; refine ⟨_, rfl, ?_⟩) | (go_at_call 84; (with_reducible refine (impl_isPerm.calls ((rd_Face (rd_LFace l0_0 a1) a2).f1) t106 _ A22.out).mono ?_); rintro e w' ⟨rfl, ⟨nd, rfl⟩⟩))
   go_meet
   case rel => exact ⟨_, (!t106), (by first | rfl | (simp; done) | (simp [*]; done)), H', ⟨by first | omega | exact yoy _⟩, ⟨by (with_reducible repeat (first | refine blk_drewN ?_ _ | refine blk_drew ?_ | refine blk_alloc ?_ _)); refine blk_far ?_ NB101_104.out _; (with_reducible repeat (first | refine blk_drewN ?_ _ | refine blk_drew ?_ | refine blk_alloc ?_ _)); refine blk_far ?_ NB101_104.out _; (with_reducible repeat (first | refine blk_drewN ?_ _ | refine blk_drew ?_ | refine blk_alloc ?_ _)); exact BK101.out⟩, ⟨by (with_reducible repeat (first | refine blk_drewN ?_ _ | refine blk_drew ?_ | refine blk_alloc ?_ _)); refine blk_put (cs := #[.int .i64 ((rd_Face (rd_LFace l0_0 a1) a2).f0), .int .i64 0]) ?_ 1 _ rfl; (with_reducible repeat (first | refine blk_drewN ?_ _ | refine blk_drew ?_ | refine blk_alloc ?_ _)); refine blk_put (cs := #[.int .i64 0, .int .i64 0]) ?_ 0 _ rfl; (with_reducible repeat (first | refine blk_drewN ?_ _ | refine blk_drew ?_ | refine blk_alloc ?_ _)); exact BK104.out⟩, ⟨by repeat (first | (with_reducible first | exact HB.out | apply below_alloc | apply pw_below_drewN | apply below_drew1 | refine below_set ?_ GE101.out | refine below_set ?_ GE104.out) | exact HB.out)⟩⟩
  case rest =>
   clear HC14
   try clear c1
   try clear p1
   try clear q1
   try clear hx1
   try clear c2
   try clear p2
   try clear c4
   try clear c4b0
   try clear c5
   try clear c5b0
   try clear c6
   try clear c6b0
   try clear c7
   try clear c7b0
   try clear c8
   try clear c8b0
   try clear c8b1
   try clear c10
   try clear p10
   try clear q10
   try clear hx10
   try clear c12
   try clear c18
   try clear c21
   try clear c23
   try clear c26
   try clear hcz10_0
   try clear hcz13_0
   try clear hcz13_1
   try clear hcz16_0
   try clear hcz19_0
   try clear hcz19_1
   try clear hcz24_0
   try clear hcz25_0
   try clear hcz25_1
   try clear hcz27_0
   try clear hcz28_0
   try clear hcz28_1
   try clear hfz10_0
   try clear hfz13_0
   try clear hfz13_1
   try clear hfz16_0
   try clear hfz19_0
   try clear hfz19_1
   try clear hfz24_0
   try clear hfz25_0
   try clear hfz25_1
   try clear hfz27_0
   try clear hfz28_0
   try clear hfz28_1
   try clear hx102_0
   try clear hx103_0
   try clear hx103_1
   try clear p102
   try clear p103
   try clear q102
   try clear q103
   obtain ⟨kq, x34_13, rfl, HA, HJ13, BK101, BK104, HB⟩ := hcut
   cases kq with
   | zero => exact absurd HA.out (by simp [impl_Triangulation_isGood.j0])
   | succ kj13 =>
    have H := HA.out
    clear HA
    simp only [impl_Triangulation_isGood.j0] at H
    by_cases c29 : x34_13 = true
    next =>
     subst c29
     have H1 : (some false) = some r := by rw [if_pos rfl] at H; exact H
     clear H
     have H := H1
     clear H1
     obtain rfl := yey H
     go_wp2
     go_ret
     exact ⟨by first | rfl | (simp [errW_none, errW_some] <;> rfl) | (simp [*, errW_none, errW_some] <;> rfl), by repeat (first | (with_reducible first | exact HB.out | apply below_alloc | apply pw_below_drewN | apply below_drew1 | refine below_set ?_ GE101.out | refine below_set ?_ GE104.out) | exact HB.out)⟩
    next =>
     replace c29 := Bool.eq_false_iff.mpr c29
     subst c29
     have H1 : ((impl_Face_target.f ((rd_Face (rd_LFace l0_0 a1) a2).f0) ((rd_Face (rd_LFace l0_0 a1) a2).f1) a2).bind fun t107 => (if 0 ≤ ((rd_Face (rd_LFace l0_0 a1) a2).f0) then (if ((rd_Face (rd_LFace l0_0 a1) a2).f0) < (l0_0.length : Int) then (if 0 ≤ t107 then (if t107 < ((rd_LFace l0_0 ((rd_Face (rd_LFace l0_0 a1) a2).f0)).length : Int) then ((impl_Face_partner.f ((rd_Face (rd_LFace l0_0 a1) a2).f0) ((rd_Face (rd_LFace l0_0 a1) a2).f1) a1).bind fun bt110 => (if (((rd_Face (rd_LFace l0_0 ((rd_Face (rd_LFace l0_0 a1) a2).f0)) t107).f0) == bt110.1 && (((rd_Face (rd_LFace l0_0 ((rd_Face (rd_LFace l0_0 a1) a2).f0)) t107).f1) == bt110.2)) = true then (if ((rd_Face (rd_LFace l0_0 a1) a2).f0) = a1 then (some (t107 != a2)) else (some true)) else (some false))) else (none)) else (none)) else (none)) else (none))) = some r := by rw [if_neg (show ¬ (false = true) by decide)] at H; exact H
     clear H
     have H := H1
     clear H1
     replace H := ydy.mp H
     obtain ⟨t107, A300, H⟩ := H
     replace H : (if 0 ≤ ((rd_Face (rd_LFace l0_0 a1) a2).f0) then (if ((rd_Face (rd_LFace l0_0 a1) a2).f0) < (l0_0.length : Int) then (if 0 ≤ t107 then (if t107 < ((rd_LFace l0_0 ((rd_Face (rd_LFace l0_0 a1) a2).f0)).length : Int) then ((impl_Face_partner.f ((rd_Face (rd_LFace l0_0 a1) a2).f0) ((rd_Face (rd_LFace l0_0 a1) a2).f1) a1).bind fun bt110 => (if (((rd_Face (rd_LFace l0_0 ((rd_Face (rd_LFace l0_0 a1) a2).f0)) t107).f0) == bt110.1 && (((rd_Face (rd_LFace l0_0 ((rd_Face (rd_LFace l0_0 a1) a2).f0)) t107).f1) == bt110.2)) = true then (if ((rd_Face (rd_LFace l0_0 a1) a2).f0) = a1 then (some (t107 != a2)) else (some true)) else (some false))) else (none)) else (none)) else (none)) else (none)) = some r := H
     have A30 := Aside0.mk A300
     clear A300
     by_cases c31 : 0 ≤ ((rd_Face (rd_LFace l0_0 a1) a2).f0)
     rotate_left
     next =>
      rw [if_neg c31] at H
      exact absurd H (by simp)
     rw [if_pos c31] at H
     have c31b0 : decide (0 ≤ ((rd_Face (rd_LFace l0_0 a1) a2).f0)) = true := ygy c31
     clear c31
     by_cases c32 : ((rd_Face (rd_LFace l0_0 a1) a2).f0) < (l0_0.length : Int)
     rotate_left
     next =>
      rw [if_neg c32] at H
      exact absurd H (by simp)
     rw [if_pos c32] at H
     have c32b0 : decide (((rd_Face (rd_LFace l0_0 a1) a2).f0) < (l0_0.length : Int)) = true := ygy c32
     clear c32
     by_cases c33 : 0 ≤ t107
     rotate_left
     next =>
      rw [if_neg c33] at H
      exact absurd H (by simp)
     rw [if_pos c33] at H
     have c33b0 : decide (0 ≤ t107) = true := ygy c33
     clear c33
     by_cases c34 : t107 < ((rd_LFace l0_0 ((rd_Face (rd_LFace l0_0 a1) a2).f0)).length : Int)
     rotate_left
     next =>
      rw [if_neg c34] at H
      exact absurd H (by simp)
     rw [if_pos c34] at H
     have c34b0 : decide (t107 < ((rd_LFace l0_0 ((rd_Face (rd_LFace l0_0 a1) a2).f0)).length : Int)) = true := ygy c34
     clear c34
     replace H := ydy.mp H
     obtain ⟨⟨t110, t111⟩, A350, H⟩ := H
     replace H : (if (((rd_Face (rd_LFace l0_0 ((rd_Face (rd_LFace l0_0 a1) a2).f0)) t107).f0) == t110 && (((rd_Face (rd_LFace l0_0 ((rd_Face (rd_LFace l0_0 a1) a2).f0)) t107).f1) == t111)) = true then (if ((rd_Face (rd_LFace l0_0 a1) a2).f0) = a1 then (some (t107 != a2)) else (some true)) else (some false)) = some r := H
     have A35 := Aside0.mk A350
     clear A350
     by_cases c36 : (((rd_Face (rd_LFace l0_0 ((rd_Face (rd_LFace l0_0 a1) a2).f0)) t107).f0) == t110 && (((rd_Face (rd_LFace l0_0 ((rd_Face (rd_LFace l0_0 a1) a2).f0)) t107).f1) == t111)) = true
     rotate_left
     next =>
      rw [if_neg c36] at H
      have c36b0 : (((rd_Face (rd_LFace l0_0 ((rd_Face (rd_LFace l0_0 a1) a2).f0)) t107).f0) == t110 && (((rd_Face (rd_LFace l0_0 ((rd_Face (rd_LFace l0_0 a1) a2).f0)) t107).f1) == t111)) = false := by simpa using c36
      (try (have c36b1 : decide (((rd_Face (rd_LFace l0_0 ((rd_Face (rd_LFace l0_0 a1) a2).f0)) t107).f0) = t110 && (((rd_Face (rd_LFace l0_0 ((rd_Face (rd_LFace l0_0 a1) a2).f0)) t107).f1) == t111)) = false := by simpa using c36))
      (try (have c36b2 : (((rd_Face (rd_LFace l0_0 ((rd_Face (rd_LFace l0_0 a1) a2).f0)) t107).f0) == t110 && (((rd_Face (rd_LFace l0_0 ((rd_Face (rd_LFace l0_0 a1) a2).f0)) t107).f1) == t111)) = false := by simpa using c36))
      (try (have c36b3 : ¬ (((rd_Face (rd_LFace l0_0 ((rd_Face (rd_LFace l0_0 a1) a2).f0)) t107).f0) = t110 && (((rd_Face (rd_LFace l0_0 ((rd_Face (rd_LFace l0_0 a1) a2).f0)) t107).f1) == t111)) := by simpa using c36))
      clear c36
      obtain rfl := yey H
      have hnb48 := NB104_101.out
      have hnc48 := NB101_104.out
      have hcz49_0 : wc.cell? ⟨gb104, 0, none⟩ = some (.int .i64 ((rd_Face (rd_LFace l0_0 a1) a2).f0)) := (blk_cell BK104.out 0).trans rfl
      have hcz49_1 : wc.cell? ⟨gb104, 1, none⟩ = some (.int .i64 ((rd_Face (rd_LFace l0_0 a1) a2).f1)) := (blk_cell BK104.out 1).trans rfl
      have hfz49_0 := blk_frozen BK104.out 0
      have hfz49_1 := blk_frozen BK104.out 1
      try go_wp2_with (first | ((with_reducible refine gate_callee (f := 27) rfl ?_); refine goesL_ (some 37) rfl rfl Try.func27 (by kernel_rfl) rfl #[.agg #[.int .i64 ((rd_Face (rd_LFace l0_0 a1) a2).f0), .int .i64 ((rd_Face (rd_LFace l0_0 a1) a2).f1)], .int .i64 a2] rfl (by (try simp only [yiy, yjy, yky]); first | done | rfl | (simp only [yly, ymy]; rfl)) ?_; (with_reducible refine (impl_Face_target.calls ((rd_Face (rd_LFace l0_0 a1) a2).f0) ((rd_Face (rd_LFace l0_0 a1) a2).f1) a2 t107 _ A30.out).mono ?_); rintro e w50 ⟨rfl, hb⟩; refine ⟨_, rfl, ?_⟩; have n0_ := Aside0.mk (blk_below (g := gb101) (o := .cells #[.slice (some ad102) l0_0.length c0_0] 30 (0, 0)) (by (with_reducible repeat (first | refine blk_drewN ?_ _ | refine blk_drew ?_ | refine blk_alloc ?_ _)); exact BK101.out) hb); have n1_ := Aside0.mk (blk_below (g := gb104) (o := .cells #[.int .i64 ((rd_Face (rd_LFace l0_0 a1) a2).f0), .int .i64 ((rd_Face (rd_LFace l0_0 a1) a2).f1)] 47 (0, 0)) (by (with_reducible repeat (first | refine blk_drewN ?_ _ | refine blk_drew ?_ | refine blk_alloc ?_ _)); exact BK104.out) hb); have n2_ := Aside0.mk (below_step (by repeat (first | (with_reducible first | exact HB.out | apply below_alloc | apply pw_below_drewN | apply below_drew1 | refine below_set ?_ GE101.out | refine below_set ?_ GE104.out) | exact HB.out)) hb); clear BK101; clear BK104; clear HB; have BK101 := n0_; have BK104 := n1_; have HB := n2_; clear n0_ n1_ n2_; (try clear hb); (try clear hb2); (try clear hk); (try clear hi)))
      have n0_ := Aside0.mk (blk_drew BK101.out)
      have n1_ := Aside0.mk (blk_drew BK104.out)
      have n2_ := Aside0.mk (below_drew1 HB.out)
      clear BK101
      clear BK104
      clear HB
      have BK101 := n0_
      have BK104 := n1_
      have HB := n2_
      clear n0_ n1_ n2_
      have p108 : 0 ≤ (((rd_Face (rd_LFace l0_0 a1) a2).f0) : Int) := of_decide_eq_true (by first | (with_reducible assumption) | assumption)
      have q108 : ((rd_Face (rd_LFace l0_0 a1) a2).f0) < (l0_0.length : Int) := of_decide_eq_true (by first | (with_reducible assumption) | assumption)
      obtain ⟨ad108, A108_0, c108_0, e108, hx108_0, hl108_0, hi108_0⟩ := at_LFace HR0_0.out ((rd_Face (rd_LFace l0_0 a1) a2).f0) p108 q108
      have hw108_0 := hx108_0
      obtain rfl : ad102 = ad108 := (by injection e108)
      replace hx108_0 := (HB.out.cell (yny w _ hx108_0)).trans hx108_0
      have HR108_0 := Aside0.mk hi108_0
      have HC108_0 := Aside0.mk hl108_0
      clear hi108_0 hl108_0
      replace p108 := eq_true p108
      replace q108 := eq_true q108
      have p109 : 0 ≤ (t107 : Int) := of_decide_eq_true (by first | (with_reducible assumption) | assumption)
      have q109 : t107 < ((rd_LFace l0_0 ((rd_Face (rd_LFace l0_0 a1) a2).f0)).length : Int) := of_decide_eq_true (by first | (with_reducible assumption) | assumption)
      obtain ⟨ad109, e109, hx109_0, hx109_1⟩ := at_Face HR108_0.out t107 p109 q109
      have hw109_1 := hx109_1
      have hw109_0 := hx109_0
      cases e109
      replace hx109_0 := (HB.out.cell (yny w _ hx109_0)).trans hx109_0
      replace hx109_1 := (HB.out.cell (yny w _ hx109_1)).trans hx109_1
      replace p109 := eq_true p109
      replace q109 := eq_true q109
      refine start_ (n := 25) (S := fun w' => w'.cell? ⟨gb101, 0, none⟩ = some (.slice (some ad102) l0_0.length c0_0) ∧ w'.cell? ⟨gb104, 0, none⟩ = some (.int .i64 ((rd_Face (rd_LFace l0_0 a1) a2).f0)) ∧ w'.cell? ⟨gb104, 1, none⟩ = some (.int .i64 ((rd_Face (rd_LFace l0_0 a1) a2).f1)) ∧ w'.cell? (ad102.add (((rd_Face (rd_LFace l0_0 a1) a2).f0)).toNat) = some (.slice (some ad109) (rd_LFace l0_0 ((rd_Face (rd_LFace l0_0 a1) a2).f0)).length c108_0) ∧ w'.cell? (ad109.add ((t107).toNat * 2)) = some (.int .i64 ((rd_Face (rd_LFace l0_0 ((rd_Face (rd_LFace l0_0 a1) a2).f0)) t107).f0)) ∧ w'.cell? ⟨(ad109.add ((t107).toNat * 2)).block, (ad109.add ((t107).toNat * 2)).off + 1, none⟩ = some (.int .i64 ((rd_Face (rd_LFace l0_0 ((rd_Face (rd_LFace l0_0 a1) a2).f0)) t107).f1))) (ds := []) #[false, false, false, false, false, false, false, false, false, false, false, false, false, false, false, false, false, false, false, false, false, false, false, false, false] (by kernel_rfl) rfl rfl ⟨(blk_cell BK101.out 0).trans rfl, (blk_cell BK104.out 0).trans rfl, (blk_cell BK104.out 1).trans rfl, ((HB.out.cell (yny w _ hw108_0)).trans hw108_0), ((HB.out.cell (yny w _ hw109_0)).trans hw109_0), ((HB.out.cell (yny w _ hw109_1)).trans hw109_1)⟩ (fun hHeld => ?_); refine with_tabW impl_Triangulation_isGood.tab7 impl_Triangulation_isGood.bits7 (fun HT_ HW_ => ?_)
      generalize w50.drew = w51 at BK101 BK104 HB HR108_0 hx108_0 hx109_0 hx109_1 hHeld ⊢
      refine pure_ (i := 0) (N := some 38) (v := ?_) (a' := ?_) #[true, false, false, false, false, false, false, false, false, false, false, false, false, false, false, false, false, false, false, false, false, false, false, false, false] rfl rfl (any_of HT_.out (by kernel_rfl)) (fun _ _ _ h => h) (Or.inl ⟨by rfl, ?_⟩) ?_ ?_
      rotate_left
      next =>
       intro w'
       go_simp
       with_reducible rfl
      rotate_left
      next =>
       simp only [Act.put, yay, yby, ycy, i64_w, i32_w]
       rfl
      refine pure_ (i := 2) (N := some 40) (v := ?_) (a' := ?_) #[true, false, true, false, false, false, false, false, false, false, false, false, false, false, false, false, false, false, false, false, false, false, false, false, false] rfl rfl (any_of HT_.out (by kernel_rfl)) (fun _ _ _ h => h) (Or.inl ⟨by rfl, ?_⟩) ?_ ?_
      rotate_left
      next =>
       intro w'
       go_simp
       with_reducible rfl
      rotate_left
      next =>
       simp only [Act.put, yay, yby, ycy, i64_w, i32_w]
       rfl
      refine pure_ (i := 6) (N := some 44) (v := ?_) (a' := ?_) #[true, false, true, false, false, false, true, false, false, false, false, false, false, false, false, false, false, false, false, false, false, false, false, false, false] rfl rfl (any_of HT_.out (by kernel_rfl)) (fun _ _ _ h => h) (Or.inl ⟨by rfl, ?_⟩) ?_ ?_
      rotate_left
      next =>
       intro w'
       go_simp
       with_reducible rfl
      rotate_left
      next =>
       simp only [Act.put, yay, yby, ycy, i64_w, i32_w]
       rfl
      refine pure_ (i := 10) (N := some 48) (v := ?_) (a' := ?_) #[true, false, true, false, false, false, true, false, false, false, true, false, false, false, false, false, false, false, false, false, false, false, false, false, false] rfl rfl (any_of HT_.out (by kernel_rfl)) (fun _ _ _ h => h) (Or.inl ⟨by rfl, ?_⟩) ?_ ?_
      rotate_left
      next =>
       intro w'
       go_simp
       with_reducible rfl
      rotate_left
      next =>
       simp only [Act.put, yay, yby, ycy, i64_w, i32_w]
       rfl
      refine take_ (i := 1) (N := some 39) (v := ?_) (a' := ?_) #[true, true, true, false, false, false, true, false, false, false, true, false, false, false, false, false, false, false, false, false, false, false, false, false, false] rfl rfl (take_ofW HT_.out HW_.out (by kernel_rfl)) (fun _ _ _ h => h) (Or.inl ⟨by rfl, ?_⟩) hHeld ?_ ?_
      rotate_left
      next =>
       rintro w' ⟨s0, s1, s2, s3, s4, s5⟩
       go_simp
       with_reducible rfl
      rotate_left
      next =>
       simp only [Act.put, yay, yby, ycy, i64_w, i32_w]
       rfl
      refine take_ (i := 3) (N := some 41) (v := ?_) (a' := ?_) #[true, true, true, true, false, false, true, false, false, false, true, false, false, false, false, false, false, false, false, false, false, false, false, false, false] rfl rfl (take_ofW HT_.out HW_.out (by kernel_rfl)) (fun _ _ _ h => h) (Or.inl ⟨by rfl, ?_⟩) hHeld ?_ ?_
      rotate_left
      next =>
       rintro w' ⟨s0, s1, s2, s3, s4, s5⟩
       go_simp
       with_reducible rfl
      rotate_left
      next =>
       simp only [Act.put, yay, yby, ycy, i64_w, i32_w]
       rfl
      refine pure_ (i := 4) (N := some 42) (v := ?_) (a' := ?_) #[true, true, true, true, true, false, true, false, false, false, true, false, false, false, false, false, false, false, false, false, false, false, false, false, false] rfl rfl (any_of HT_.out (by kernel_rfl)) (fun _ _ _ h => h) (Or.inl ⟨by rfl, ?_⟩) ?_ ?_
      rotate_left
      next =>
       intro w'
       go_simp
       with_reducible rfl
      rotate_left
      next =>
       simp only [Act.put, yay, yby, ycy, i64_w, i32_w]
       rfl
      refine take_ (i := 5) (N := some 43) (v := ?_) (a' := ?_) #[true, true, true, true, true, true, true, false, false, false, true, false, false, false, false, false, false, false, false, false, false, false, false, false, false] rfl rfl (take_ofW HT_.out HW_.out (by kernel_rfl)) (fun _ _ _ h => h) (Or.inl ⟨by rfl, ?_⟩) hHeld ?_ ?_
      rotate_left
      next =>
       rintro w' ⟨s0, s1, s2, s3, s4, s5⟩
       go_simp
       with_reducible rfl
      rotate_left
      next =>
       simp only [Act.put, yay, yby, ycy, i64_w, i32_w]
       rfl
      refine pure_ (i := 7) (N := some 45) (v := ?_) (a' := ?_) #[true, true, true, true, true, true, true, true, false, false, true, false, false, false, false, false, false, false, false, false, false, false, false, false, false] rfl rfl (any_of HT_.out (by kernel_rfl)) (fun _ _ _ h => h) (Or.inl ⟨by rfl, ?_⟩) ?_ ?_
      rotate_left
      next =>
       intro w'
       go_simp
       with_reducible rfl
      rotate_left
      next =>
       simp only [Act.put, yay, yby, ycy, i64_w, i32_w]
       rfl
      refine take_ (i := 8) (N := some 46) (v := ?_) (a' := ?_) #[true, true, true, true, true, true, true, true, true, false, true, false, false, false, false, false, false, false, false, false, false, false, false, false, false] rfl rfl (take_ofW HT_.out HW_.out (by kernel_rfl)) (fun _ _ _ h => h) (Or.inl ⟨by rfl, ?_⟩) hHeld ?_ ?_
      rotate_left
      next =>
       rintro w' ⟨s0, s1, s2, s3, s4, s5⟩
       go_simp
       with_reducible rfl
      rotate_left
      next =>
       simp only [Act.put, yay, yby, ycy, i64_w, i32_w]
       rfl
      refine take_ (i := 9) (N := some 47) (v := ?_) (a' := ?_) #[true, true, true, true, true, true, true, true, true, true, true, false, false, false, false, false, false, false, false, false, false, false, false, false, false] rfl rfl (take_ofW HT_.out HW_.out (by kernel_rfl)) (fun _ _ _ h => h) (Or.inl ⟨by rfl, ?_⟩) hHeld ?_ ?_
      rotate_left
      next =>
       rintro w' ⟨s0, s1, s2, s3, s4, s5⟩
       go_simp
       with_reducible rfl
      rotate_left
      next =>
       simp only [Act.put, yay, yby, ycy, i64_w, i32_w]
       rfl
      refine one_ (i := 11) (N := some 49) #[true, true, true, true, true, true, true, true, true, true, true, true, false, false, false, false, false, false, false, false, false, false, false, false, false] rfl rfl (one_of HT_.out (by kernel_rfl)) (by decide) (fun K hK => ?_)
      refine goes_ Try.func80 (by kernel_rfl) rfl #[.agg #[.int .i64 ((rd_Face (rd_LFace l0_0 a1) a2).f0), .int .i64 ((rd_Face (rd_LFace l0_0 a1) a2).f1)], .int .i64 a1] (by rfl) rfl rfl (by (try simp only [yiy, yjy, yky]); first | done | rfl | (simp only [yly, ymy]; rfl)) ?_
      with_reducible refine (impl_Face_partner.calls ((rd_Face (rd_LFace l0_0 a1) a2).f0) ((rd_Face (rd_LFace l0_0 a1) a2).f1) a1 t110 t111 _ A35.out).mono ?_
      rintro e w52 ⟨rfl, hb⟩
      refine ⟨_, rfl, ?_⟩
      have n0_ := Aside0.mk (blk_below (g := gb101) (o := .cells #[.slice (some ad102) l0_0.length c0_0] 30 (0, 0)) (by (with_reducible repeat (first | refine blk_drewN ?_ _ | refine blk_drew ?_ | refine blk_alloc ?_ _)); exact BK101.out) hb)
      have n1_ := Aside0.mk (blk_below (g := gb104) (o := .cells #[.int .i64 ((rd_Face (rd_LFace l0_0 a1) a2).f0), .int .i64 ((rd_Face (rd_LFace l0_0 a1) a2).f1)] 47 (0, 0)) (by (with_reducible repeat (first | refine blk_drewN ?_ _ | refine blk_drew ?_ | refine blk_alloc ?_ _)); exact BK104.out) hb)
      have n2_ := Aside0.mk (below_step (by repeat (first | (with_reducible first | exact HB.out | apply below_alloc | apply pw_below_drewN | apply below_drew1 | refine below_set ?_ GE101.out | refine below_set ?_ GE104.out) | exact HB.out)) hb)
      clear BK101
      clear BK104
      clear HB
      have BK101 := n0_
      have BK104 := n1_
      have HB := n2_
      clear n0_ n1_ n2_
      (try clear hb)
      (try clear hb2)
      (try clear hk)
      (try clear hi)
      refine hK.out _ _ ⟨(blk_cell BK101.out 0).trans rfl, (blk_cell BK104.out 0).trans rfl, (blk_cell BK104.out 1).trans rfl, ((HB.out.cell (yny w _ hw108_0)).trans hw108_0), ((HB.out.cell (yny w _ hw109_0)).trans hw109_0), ((HB.out.cell (yny w _ hw109_1)).trans hw109_1)⟩ (fun hHeld => ?_)
      clear hK K
      refine norm_ (a' := ?_) ?_ ?_
      rotate_left
      next =>
       show Act.put _ (some 49) _ = _
       simp only [Act.put, yay, yby, ycy, i64_w, i32_w]
       rfl
      refine pure_ (i := 12) (N := some 50) (v := ?_) (a' := ?_) #[true, true, true, true, true, true, true, true, true, true, true, true, true, false, false, false, false, false, false, false, false, false, false, false, false] rfl rfl (any_of HT_.out (by kernel_rfl)) (fun _ _ _ h => h) (Or.inl ⟨by rfl, ?_⟩) ?_ ?_
      rotate_left
      next =>
       intro w'
       go_simp
       with_reducible rfl
      rotate_left
      next =>
       simp only [Act.put, yay, yby, ycy, i64_w, i32_w]
       rfl
      refine pure_ (i := 13) (N := some 51) (v := ?_) (a' := ?_) #[true, true, true, true, true, true, true, true, true, true, true, true, true, true, false, false, false, false, false, false, false, false, false, false, false] rfl rfl (any_of HT_.out (by kernel_rfl)) (fun _ _ _ h => h) (Or.inl ⟨by rfl, ?_⟩) ?_ ?_
      rotate_left
      next =>
       intro w'
       go_simp
       with_reducible rfl
      rotate_left
      next =>
       simp only [Act.put, yay, yby, ycy, i64_w, i32_w]
       rfl
      refine pure_ (i := 14) (N := some 52) (v := undef) (a' := ?_) #[true, true, true, true, true, true, true, true, true, true, true, true, true, true, true, false, false, false, false, false, false, false, false, false, false] rfl rfl (any_of HT_.out (by kernel_rfl)) (fun _ _ _ h => h) (Or.inr ⟨by rfl, rfl⟩) ?_ ?_
      rotate_left
      next =>
       simp only [Act.put, yay, yby, ycy, i64_w, i32_w]
       rfl
      refine pure_ (i := 15) (N := some 53) (v := undef) (a' := ?_) #[true, true, true, true, true, true, true, true, true, true, true, true, true, true, true, true, false, false, false, false, false, false, false, false, false] rfl rfl (any_of HT_.out (by kernel_rfl)) (fun _ _ _ h => h) (Or.inr ⟨by rfl, rfl⟩) ?_ ?_
      rotate_left
      next =>
       simp only [Act.put, yay, yby, ycy, i64_w, i32_w]
       rfl
      refine pure_ (i := 16) (N := some 54) (v := undef) (a' := ?_) #[true, true, true, true, true, true, true, true, true, true, true, true, true, true, true, true, true, false, false, false, false, false, false, false, false] rfl rfl (any_of HT_.out (by kernel_rfl)) (fun _ _ _ h => h) (Or.inr ⟨by rfl, rfl⟩) ?_ ?_
      rotate_left
      next =>
       simp only [Act.put, yay, yby, ycy, i64_w, i32_w]
       rfl
      refine pure_ (i := 17) (N := some 55) (v := undef) (a' := ?_) #[true, true, true, true, true, true, true, true, true, true, true, true, true, true, true, true, true, true, false, false, false, false, false, false, false] rfl rfl (any_of HT_.out (by kernel_rfl)) (fun _ _ _ h => h) (Or.inr ⟨by rfl, rfl⟩) ?_ ?_
      rotate_left
      next =>
       simp only [Act.put, yay, yby, ycy, i64_w, i32_w]
       rfl
      refine pure_ (i := 18) (N := some 56) (v := undef) (a' := ?_) #[true, true, true, true, true, true, true, true, true, true, true, true, true, true, true, true, true, true, true, false, false, false, false, false, false] rfl rfl (any_of HT_.out (by kernel_rfl)) (fun _ _ _ h => h) (Or.inr ⟨by rfl, rfl⟩) ?_ ?_
      rotate_left
      next =>
       simp only [Act.put, yay, yby, ycy, i64_w, i32_w]
       rfl
      refine pure_ (i := 19) (N := some 57) (v := undef) (a' := ?_) #[true, true, true, true, true, true, true, true, true, true, true, true, true, true, true, true, true, true, true, true, false, false, false, false, false] rfl rfl (any_of HT_.out (by kernel_rfl)) (fun _ _ _ h => h) (Or.inr ⟨by rfl, rfl⟩) ?_ ?_
      rotate_left
      next =>
       simp only [Act.put, yay, yby, ycy, i64_w, i32_w]
       rfl
      refine pure_ (i := 20) (N := some 58) (v := undef) (a' := ?_) #[true, true, true, true, true, true, true, true, true, true, true, true, true, true, true, true, true, true, true, true, true, false, false, false, false] rfl rfl (any_of HT_.out (by kernel_rfl)) (fun _ _ _ h => h) (Or.inr ⟨by rfl, rfl⟩) ?_ ?_
      rotate_left
      next =>
       simp only [Act.put, yay, yby, ycy, i64_w, i32_w]
       rfl
      refine pure_ (i := 21) (N := some 59) (v := undef) (a' := ?_) #[true, true, true, true, true, true, true, true, true, true, true, true, true, true, true, true, true, true, true, true, true, true, false, false, false] rfl rfl (any_of HT_.out (by kernel_rfl)) (fun _ _ _ h => h) (Or.inr ⟨by rfl, rfl⟩) ?_ ?_
      rotate_left
      next =>
       simp only [Act.put, yay, yby, ycy, i64_w, i32_w]
       rfl
      refine pure_ (i := 22) (N := some 60) (v := undef) (a' := ?_) #[true, true, true, true, true, true, true, true, true, true, true, true, true, true, true, true, true, true, true, true, true, true, true, false, false] rfl rfl (any_of HT_.out (by kernel_rfl)) (fun _ _ _ h => h) (Or.inr ⟨by rfl, rfl⟩) ?_ ?_
      rotate_left
      next =>
       simp only [Act.put, yay, yby, ycy, i64_w, i32_w]
       rfl
      refine pure_ (i := 23) (N := some 61) (v := ?_) (a' := ?_) #[true, true, true, true, true, true, true, true, true, true, true, true, true, true, true, true, true, true, true, true, true, true, true, true, false] rfl rfl (any_of HT_.out (by kernel_rfl)) (fun _ _ _ h => h) (Or.inl ⟨by rfl, ?_⟩) ?_ ?_
      rotate_left
      next =>
       intro w'
       go_simp
       with_reducible rfl
      rotate_left
      next =>
       simp only [Act.put, yay, yby, ycy, i64_w, i32_w]
       rfl
      refine pure_ (i := 24) (N := some 6) (v := ?_) (a' := ?_) #[true, true, true, true, true, true, true, true, true, true, true, true, true, true, true, true, true, true, true, true, true, true, true, true, true] rfl rfl (any_of HT_.out (by kernel_rfl)) (fun _ _ _ h => h) (Or.inl ⟨by rfl, ?_⟩) ?_ ?_
      rotate_left
      next =>
       intro w'
       go_simp
       with_reducible rfl
      rotate_left
      next =>
       simp only [Act.put, yay, yby, ycy, i64_w, i32_w]
       rfl
      refine done_ (done_of HT_.out (by kernel_rfl)) ?_
      try go_wp2
      go_ret
      exact ⟨by first | rfl | (simp [errW_none, errW_some] <;> rfl) | (simp [*, errW_none, errW_some] <;> rfl), by repeat (first | (with_reducible first | exact HB.out | apply below_alloc | apply pw_below_drewN | apply below_drew1 | refine below_set ?_ GE101.out | refine below_set ?_ GE104.out) | exact HB.out)⟩
     rw [if_pos c36] at H
     have c36b0 : (((rd_Face (rd_LFace l0_0 ((rd_Face (rd_LFace l0_0 a1) a2).f0)) t107).f0) == t110 && (((rd_Face (rd_LFace l0_0 ((rd_Face (rd_LFace l0_0 a1) a2).f0)) t107).f1) == t111)) = true := c36
     (try (have c36b1 : decide (((rd_Face (rd_LFace l0_0 ((rd_Face (rd_LFace l0_0 a1) a2).f0)) t107).f0) = t110 && (((rd_Face (rd_LFace l0_0 ((rd_Face (rd_LFace l0_0 a1) a2).f0)) t107).f1) == t111)) = true := by simpa using c36))
     (try (have c36b2 : (((rd_Face (rd_LFace l0_0 ((rd_Face (rd_LFace l0_0 a1) a2).f0)) t107).f0) == t110 && (((rd_Face (rd_LFace l0_0 ((rd_Face (rd_LFace l0_0 a1) a2).f0)) t107).f1) == t111)) = true := by simpa using c36))
     clear c36
     by_cases c37 : ((rd_Face (rd_LFace l0_0 a1) a2).f0) = a1
     rotate_left
     next =>
      rw [if_neg c37] at H
      have c37b0 : (((rd_Face (rd_LFace l0_0 a1) a2).f0) == a1) = false := beq_eq_false_iff_ne.mpr c37
      have c37b1 : (((rd_Face (rd_LFace l0_0 a1) a2).f0) != a1) = true := bne_iff_ne.mpr c37
      obtain rfl := yey H
      have hnb43 := NB104_101.out
      have hnc43 := NB101_104.out
      have hcz44_0 : wc.cell? ⟨gb104, 0, none⟩ = some (.int .i64 ((rd_Face (rd_LFace l0_0 a1) a2).f0)) := (blk_cell BK104.out 0).trans rfl
      have hcz44_1 : wc.cell? ⟨gb104, 1, none⟩ = some (.int .i64 ((rd_Face (rd_LFace l0_0 a1) a2).f1)) := (blk_cell BK104.out 1).trans rfl
      have hfz44_0 := blk_frozen BK104.out 0
      have hfz44_1 := blk_frozen BK104.out 1
      try go_wp2_with (first | ((with_reducible refine gate_callee (f := 27) rfl ?_); refine goesL_ (some 37) rfl rfl Try.func27 (by kernel_rfl) rfl #[.agg #[.int .i64 ((rd_Face (rd_LFace l0_0 a1) a2).f0), .int .i64 ((rd_Face (rd_LFace l0_0 a1) a2).f1)], .int .i64 a2] rfl (by (try simp only [yiy, yjy, yky]); first | done | rfl | (simp only [yly, ymy]; rfl)) ?_; (with_reducible refine (impl_Face_target.calls ((rd_Face (rd_LFace l0_0 a1) a2).f0) ((rd_Face (rd_LFace l0_0 a1) a2).f1) a2 t107 _ A30.out).mono ?_); rintro e w45 ⟨rfl, hb⟩; refine ⟨_, rfl, ?_⟩; have n0_ := Aside0.mk (blk_below (g := gb101) (o := .cells #[.slice (some ad102) l0_0.length c0_0] 30 (0, 0)) (by (with_reducible repeat (first | refine blk_drewN ?_ _ | refine blk_drew ?_ | refine blk_alloc ?_ _)); exact BK101.out) hb); have n1_ := Aside0.mk (blk_below (g := gb104) (o := .cells #[.int .i64 ((rd_Face (rd_LFace l0_0 a1) a2).f0), .int .i64 ((rd_Face (rd_LFace l0_0 a1) a2).f1)] 47 (0, 0)) (by (with_reducible repeat (first | refine blk_drewN ?_ _ | refine blk_drew ?_ | refine blk_alloc ?_ _)); exact BK104.out) hb); have n2_ := Aside0.mk (below_step (by repeat (first | (with_reducible first | exact HB.out | apply below_alloc | apply pw_below_drewN | apply below_drew1 | refine below_set ?_ GE101.out | refine below_set ?_ GE104.out) | exact HB.out)) hb); clear BK101; clear BK104; clear HB; have BK101 := n0_; have BK104 := n1_; have HB := n2_; clear n0_ n1_ n2_; (try clear hb); (try clear hb2); (try clear hk); (try clear hi)))
      have n0_ := Aside0.mk (blk_drew BK101.out)
      have n1_ := Aside0.mk (blk_drew BK104.out)
      have n2_ := Aside0.mk (below_drew1 HB.out)
      clear BK101
      clear BK104
      clear HB
      have BK101 := n0_
      have BK104 := n1_
      have HB := n2_
      clear n0_ n1_ n2_
      have p108 : 0 ≤ (((rd_Face (rd_LFace l0_0 a1) a2).f0) : Int) := of_decide_eq_true (by first | (with_reducible assumption) | assumption)
      have q108 : ((rd_Face (rd_LFace l0_0 a1) a2).f0) < (l0_0.length : Int) := of_decide_eq_true (by first | (with_reducible assumption) | assumption)
      obtain ⟨ad108, A108_0, c108_0, e108, hx108_0, hl108_0, hi108_0⟩ := at_LFace HR0_0.out ((rd_Face (rd_LFace l0_0 a1) a2).f0) p108 q108
      have hw108_0 := hx108_0
      obtain rfl : ad102 = ad108 := (by injection e108)
      replace hx108_0 := (HB.out.cell (yny w _ hx108_0)).trans hx108_0
      have HR108_0 := Aside0.mk hi108_0
      have HC108_0 := Aside0.mk hl108_0
      clear hi108_0 hl108_0
      replace p108 := eq_true p108
      replace q108 := eq_true q108
      have p109 : 0 ≤ (t107 : Int) := of_decide_eq_true (by first | (with_reducible assumption) | assumption)
      have q109 : t107 < ((rd_LFace l0_0 ((rd_Face (rd_LFace l0_0 a1) a2).f0)).length : Int) := of_decide_eq_true (by first | (with_reducible assumption) | assumption)
      obtain ⟨ad109, e109, hx109_0, hx109_1⟩ := at_Face HR108_0.out t107 p109 q109
      have hw109_1 := hx109_1
      have hw109_0 := hx109_0
      cases e109
      replace hx109_0 := (HB.out.cell (yny w _ hx109_0)).trans hx109_0
      replace hx109_1 := (HB.out.cell (yny w _ hx109_1)).trans hx109_1
      replace p109 := eq_true p109
      replace q109 := eq_true q109
      refine start_ (n := 25) (S := fun w' => w'.cell? ⟨gb101, 0, none⟩ = some (.slice (some ad102) l0_0.length c0_0) ∧ w'.cell? ⟨gb104, 0, none⟩ = some (.int .i64 ((rd_Face (rd_LFace l0_0 a1) a2).f0)) ∧ w'.cell? ⟨gb104, 1, none⟩ = some (.int .i64 ((rd_Face (rd_LFace l0_0 a1) a2).f1)) ∧ w'.cell? (ad102.add (((rd_Face (rd_LFace l0_0 a1) a2).f0)).toNat) = some (.slice (some ad109) (rd_LFace l0_0 ((rd_Face (rd_LFace l0_0 a1) a2).f0)).length c108_0) ∧ w'.cell? (ad109.add ((t107).toNat * 2)) = some (.int .i64 ((rd_Face (rd_LFace l0_0 ((rd_Face (rd_LFace l0_0 a1) a2).f0)) t107).f0)) ∧ w'.cell? ⟨(ad109.add ((t107).toNat * 2)).block, (ad109.add ((t107).toNat * 2)).off + 1, none⟩ = some (.int .i64 ((rd_Face (rd_LFace l0_0 ((rd_Face (rd_LFace l0_0 a1) a2).f0)) t107).f1))) (ds := []) #[false, false, false, false, false, false, false, false, false, false, false, false, false, false, false, false, false, false, false, false, false, false, false, false, false] (by kernel_rfl) rfl rfl ⟨(blk_cell BK101.out 0).trans rfl, (blk_cell BK104.out 0).trans rfl, (blk_cell BK104.out 1).trans rfl, ((HB.out.cell (yny w _ hw108_0)).trans hw108_0), ((HB.out.cell (yny w _ hw109_0)).trans hw109_0), ((HB.out.cell (yny w _ hw109_1)).trans hw109_1)⟩ (fun hHeld => ?_); refine with_tabW impl_Triangulation_isGood.tab7 impl_Triangulation_isGood.bits7 (fun HT_ HW_ => ?_)
      generalize w45.drew = w46 at BK101 BK104 HB HR108_0 hx108_0 hx109_0 hx109_1 hHeld ⊢
      refine pure_ (i := 0) (N := some 38) (v := ?_) (a' := ?_) #[true, false, false, false, false, false, false, false, false, false, false, false, false, false, false, false, false, false, false, false, false, false, false, false, false] rfl rfl (any_of HT_.out (by kernel_rfl)) (fun _ _ _ h => h) (Or.inl ⟨by rfl, ?_⟩) ?_ ?_
      rotate_left
      next =>
       intro w'
       go_simp
       with_reducible rfl
      rotate_left
      next =>
       simp only [Act.put, yay, yby, ycy, i64_w, i32_w]
       rfl
      refine pure_ (i := 2) (N := some 40) (v := ?_) (a' := ?_) #[true, false, true, false, false, false, false, false, false, false, false, false, false, false, false, false, false, false, false, false, false, false, false, false, false] rfl rfl (any_of HT_.out (by kernel_rfl)) (fun _ _ _ h => h) (Or.inl ⟨by rfl, ?_⟩) ?_ ?_
      rotate_left
      next =>
       intro w'
       go_simp
       with_reducible rfl
      rotate_left
      next =>
       simp only [Act.put, yay, yby, ycy, i64_w, i32_w]
       rfl
      refine pure_ (i := 6) (N := some 44) (v := ?_) (a' := ?_) #[true, false, true, false, false, false, true, false, false, false, false, false, false, false, false, false, false, false, false, false, false, false, false, false, false] rfl rfl (any_of HT_.out (by kernel_rfl)) (fun _ _ _ h => h) (Or.inl ⟨by rfl, ?_⟩) ?_ ?_
      rotate_left
      next =>
       intro w'
       go_simp
       with_reducible rfl
      rotate_left
      next =>
       simp only [Act.put, yay, yby, ycy, i64_w, i32_w]
       rfl
      refine pure_ (i := 10) (N := some 48) (v := ?_) (a' := ?_) #[true, false, true, false, false, false, true, false, false, false, true, false, false, false, false, false, false, false, false, false, false, false, false, false, false] rfl rfl (any_of HT_.out (by kernel_rfl)) (fun _ _ _ h => h) (Or.inl ⟨by rfl, ?_⟩) ?_ ?_
      rotate_left
      next =>
       intro w'
       go_simp
       with_reducible rfl
      rotate_left
      next =>
       simp only [Act.put, yay, yby, ycy, i64_w, i32_w]
       rfl
      refine take_ (i := 1) (N := some 39) (v := ?_) (a' := ?_) #[true, true, true, false, false, false, true, false, false, false, true, false, false, false, false, false, false, false, false, false, false, false, false, false, false] rfl rfl (take_ofW HT_.out HW_.out (by kernel_rfl)) (fun _ _ _ h => h) (Or.inl ⟨by rfl, ?_⟩) hHeld ?_ ?_
      rotate_left
      next =>
       rintro w' ⟨s0, s1, s2, s3, s4, s5⟩
       go_simp
       with_reducible rfl
      rotate_left
      next =>
       simp only [Act.put, yay, yby, ycy, i64_w, i32_w]
       rfl
      refine take_ (i := 3) (N := some 41) (v := ?_) (a' := ?_) #[true, true, true, true, false, false, true, false, false, false, true, false, false, false, false, false, false, false, false, false, false, false, false, false, false] rfl rfl (take_ofW HT_.out HW_.out (by kernel_rfl)) (fun _ _ _ h => h) (Or.inl ⟨by rfl, ?_⟩) hHeld ?_ ?_
      rotate_left
      next =>
       rintro w' ⟨s0, s1, s2, s3, s4, s5⟩
       go_simp
       with_reducible rfl
      rotate_left
      next =>
       simp only [Act.put, yay, yby, ycy, i64_w, i32_w]
       rfl
      refine pure_ (i := 4) (N := some 42) (v := ?_) (a' := ?_) #[true, true, true, true, true, false, true, false, false, false, true, false, false, false, false, false, false, false, false, false, false, false, false, false, false] rfl rfl (any_of HT_.out (by kernel_rfl)) (fun _ _ _ h => h) (Or.inl ⟨by rfl, ?_⟩) ?_ ?_
      rotate_left
      next =>
       intro w'
       go_simp
       with_reducible rfl
      rotate_left
      next =>
       simp only [Act.put, yay, yby, ycy, i64_w, i32_w]
       rfl
      refine take_ (i := 5) (N := some 43) (v := ?_) (a' := ?_) #[true, true, true, true, true, true, true, false, false, false, true, false, false, false, false, false, false, false, false, false, false, false, false, false, false] rfl rfl (take_ofW HT_.out HW_.out (by kernel_rfl)) (fun _ _ _ h => h) (Or.inl ⟨by rfl, ?_⟩) hHeld ?_ ?_
      rotate_left
      next =>
       rintro w' ⟨s0, s1, s2, s3, s4, s5⟩
       go_simp
       with_reducible rfl
      rotate_left
      next =>
       simp only [Act.put, yay, yby, ycy, i64_w, i32_w]
       rfl
      refine pure_ (i := 7) (N := some 45) (v := ?_) (a' := ?_) #[true, true, true, true, true, true, true, true, false, false, true, false, false, false, false, false, false, false, false, false, false, false, false, false, false] rfl rfl (any_of HT_.out (by kernel_rfl)) (fun _ _ _ h => h) (Or.inl ⟨by rfl, ?_⟩) ?_ ?_
      rotate_left
      next =>
       intro w'
       go_simp
       with_reducible rfl
      rotate_left
      next =>
       simp only [Act.put, yay, yby, ycy, i64_w, i32_w]
       rfl
      refine take_ (i := 8) (N := some 46) (v := ?_) (a' := ?_) #[true, true, true, true, true, true, true, true, true, false, true, false, false, false, false, false, false, false, false, false, false, false, false, false, false] rfl rfl (take_ofW HT_.out HW_.out (by kernel_rfl)) (fun _ _ _ h => h) (Or.inl ⟨by rfl, ?_⟩) hHeld ?_ ?_
      rotate_left
      next =>
       rintro w' ⟨s0, s1, s2, s3, s4, s5⟩
       go_simp
       with_reducible rfl
      rotate_left
      next =>
       simp only [Act.put, yay, yby, ycy, i64_w, i32_w]
       rfl
      refine take_ (i := 9) (N := some 47) (v := ?_) (a' := ?_) #[true, true, true, true, true, true, true, true, true, true, true, false, false, false, false, false, false, false, false, false, false, false, false, false, false] rfl rfl (take_ofW HT_.out HW_.out (by kernel_rfl)) (fun _ _ _ h => h) (Or.inl ⟨by rfl, ?_⟩) hHeld ?_ ?_
      rotate_left
      next =>
       rintro w' ⟨s0, s1, s2, s3, s4, s5⟩
       go_simp
       with_reducible rfl
      rotate_left
      next =>
       simp only [Act.put, yay, yby, ycy, i64_w, i32_w]
       rfl
      refine one_ (i := 11) (N := some 49) #[true, true, true, true, true, true, true, true, true, true, true, true, false, false, false, false, false, false, false, false, false, false, false, false, false] rfl rfl (one_of HT_.out (by kernel_rfl)) (by decide) (fun K hK => ?_)
      refine goes_ Try.func80 (by kernel_rfl) rfl #[.agg #[.int .i64 ((rd_Face (rd_LFace l0_0 a1) a2).f0), .int .i64 ((rd_Face (rd_LFace l0_0 a1) a2).f1)], .int .i64 a1] (by rfl) rfl rfl (by (try simp only [yiy, yjy, yky]); first | done | rfl | (simp only [yly, ymy]; rfl)) ?_
      with_reducible refine (impl_Face_partner.calls ((rd_Face (rd_LFace l0_0 a1) a2).f0) ((rd_Face (rd_LFace l0_0 a1) a2).f1) a1 t110 t111 _ A35.out).mono ?_
      rintro e w47 ⟨rfl, hb⟩
      refine ⟨_, rfl, ?_⟩
      have n0_ := Aside0.mk (blk_below (g := gb101) (o := .cells #[.slice (some ad102) l0_0.length c0_0] 30 (0, 0)) (by (with_reducible repeat (first | refine blk_drewN ?_ _ | refine blk_drew ?_ | refine blk_alloc ?_ _)); exact BK101.out) hb)
      have n1_ := Aside0.mk (blk_below (g := gb104) (o := .cells #[.int .i64 ((rd_Face (rd_LFace l0_0 a1) a2).f0), .int .i64 ((rd_Face (rd_LFace l0_0 a1) a2).f1)] 47 (0, 0)) (by (with_reducible repeat (first | refine blk_drewN ?_ _ | refine blk_drew ?_ | refine blk_alloc ?_ _)); exact BK104.out) hb)
      have n2_ := Aside0.mk (below_step (by repeat (first | (with_reducible first | exact HB.out | apply below_alloc | apply pw_below_drewN | apply below_drew1 | refine below_set ?_ GE101.out | refine below_set ?_ GE104.out) | exact HB.out)) hb)
      clear BK101
      clear BK104
      clear HB
      have BK101 := n0_
      have BK104 := n1_
      have HB := n2_
      clear n0_ n1_ n2_
      (try clear hb)
      (try clear hb2)
      (try clear hk)
      (try clear hi)
      refine hK.out _ _ ⟨(blk_cell BK101.out 0).trans rfl, (blk_cell BK104.out 0).trans rfl, (blk_cell BK104.out 1).trans rfl, ((HB.out.cell (yny w _ hw108_0)).trans hw108_0), ((HB.out.cell (yny w _ hw109_0)).trans hw109_0), ((HB.out.cell (yny w _ hw109_1)).trans hw109_1)⟩ (fun hHeld => ?_)
      clear hK K
      refine norm_ (a' := ?_) ?_ ?_
      rotate_left
      next =>
       show Act.put _ (some 49) _ = _
       simp only [Act.put, yay, yby, ycy, i64_w, i32_w]
       rfl
      refine pure_ (i := 12) (N := some 50) (v := ?_) (a' := ?_) #[true, true, true, true, true, true, true, true, true, true, true, true, true, false, false, false, false, false, false, false, false, false, false, false, false] rfl rfl (any_of HT_.out (by kernel_rfl)) (fun _ _ _ h => h) (Or.inl ⟨by rfl, ?_⟩) ?_ ?_
      rotate_left
      next =>
       intro w'
       go_simp
       with_reducible rfl
      rotate_left
      next =>
       simp only [Act.put, yay, yby, ycy, i64_w, i32_w]
       rfl
      refine pure_ (i := 13) (N := some 51) (v := ?_) (a' := ?_) #[true, true, true, true, true, true, true, true, true, true, true, true, true, true, false, false, false, false, false, false, false, false, false, false, false] rfl rfl (any_of HT_.out (by kernel_rfl)) (fun _ _ _ h => h) (Or.inl ⟨by rfl, ?_⟩) ?_ ?_
      rotate_left
      next =>
       intro w'
       go_simp
       with_reducible rfl
      rotate_left
      next =>
       simp only [Act.put, yay, yby, ycy, i64_w, i32_w]
       rfl
      refine pure_ (i := 14) (N := some 52) (v := ?_) (a' := ?_) #[true, true, true, true, true, true, true, true, true, true, true, true, true, true, true, false, false, false, false, false, false, false, false, false, false] rfl rfl (any_of HT_.out (by kernel_rfl)) (fun _ _ _ h => h) (Or.inl ⟨by rfl, ?_⟩) ?_ ?_
      rotate_left
      next =>
       intro w'
       go_simp
       with_reducible rfl
      rotate_left
      next =>
       simp only [Act.put, yay, yby, ycy, i64_w, i32_w]
       rfl
      refine pure_ (i := 16) (N := some 54) (v := ?_) (a' := ?_) #[true, true, true, true, true, true, true, true, true, true, true, true, true, true, true, false, true, false, false, false, false, false, false, false, false] rfl rfl (any_of HT_.out (by kernel_rfl)) (fun _ _ _ h => h) (Or.inl ⟨by rfl, ?_⟩) ?_ ?_
      rotate_left
      next =>
       intro w'
       go_simp
       with_reducible rfl
      rotate_left
      next =>
       simp only [Act.put, yay, yby, ycy, i64_w, i32_w]
       rfl
      refine take_ (i := 15) (N := some 53) (v := ?_) (a' := ?_) #[true, true, true, true, true, true, true, true, true, true, true, true, true, true, true, true, true, false, false, false, false, false, false, false, false] rfl rfl (take_ofW HT_.out HW_.out (by kernel_rfl)) (fun _ _ _ h => h) (Or.inl ⟨by rfl, ?_⟩) hHeld ?_ ?_
      rotate_left
      next =>
       rintro w' ⟨s0, s1, s2, s3, s4, s5⟩
       go_simp
       with_reducible rfl
      rotate_left
      next =>
       simp only [Act.put, yay, yby, ycy, i64_w, i32_w]
       rfl
      refine pure_ (i := 17) (N := some 55) (v := ?_) (a' := ?_) #[true, true, true, true, true, true, true, true, true, true, true, true, true, true, true, true, true, true, false, false, false, false, false, false, false] rfl rfl (any_of HT_.out (by kernel_rfl)) (fun _ _ _ h => h) (Or.inl ⟨by rfl, ?_⟩) ?_ ?_
      rotate_left
      next =>
       intro w'
       go_simp
       with_reducible rfl
      rotate_left
      next =>
       simp only [Act.put, yay, yby, ycy, i64_w, i32_w]
       rfl
      refine pure_ (i := 18) (N := some 56) (v := ?_) (a' := ?_) #[true, true, true, true, true, true, true, true, true, true, true, true, true, true, true, true, true, true, true, false, false, false, false, false, false] rfl rfl (any_of HT_.out (by kernel_rfl)) (fun _ _ _ h => h) (Or.inl ⟨by rfl, ?_⟩) ?_ ?_
      rotate_left
      next =>
       intro w'
       go_simp
       with_reducible rfl
      rotate_left
      next =>
       simp only [Act.put, yay, yby, ycy, i64_w, i32_w]
       rfl
      refine pure_ (i := 19) (N := some 57) (v := undef) (a' := ?_) #[true, true, true, true, true, true, true, true, true, true, true, true, true, true, true, true, true, true, true, true, false, false, false, false, false] rfl rfl (any_of HT_.out (by kernel_rfl)) (fun _ _ _ h => h) (Or.inr ⟨by rfl, rfl⟩) ?_ ?_
      rotate_left
      next =>
       simp only [Act.put, yay, yby, ycy, i64_w, i32_w]
       rfl
      refine pure_ (i := 20) (N := some 58) (v := undef) (a' := ?_) #[true, true, true, true, true, true, true, true, true, true, true, true, true, true, true, true, true, true, true, true, true, false, false, false, false] rfl rfl (any_of HT_.out (by kernel_rfl)) (fun _ _ _ h => h) (Or.inr ⟨by rfl, rfl⟩) ?_ ?_
      rotate_left
      next =>
       simp only [Act.put, yay, yby, ycy, i64_w, i32_w]
       rfl
      refine pure_ (i := 21) (N := some 59) (v := undef) (a' := ?_) #[true, true, true, true, true, true, true, true, true, true, true, true, true, true, true, true, true, true, true, true, true, true, false, false, false] rfl rfl (any_of HT_.out (by kernel_rfl)) (fun _ _ _ h => h) (Or.inr ⟨by rfl, rfl⟩) ?_ ?_
      rotate_left
      next =>
       simp only [Act.put, yay, yby, ycy, i64_w, i32_w]
       rfl
      refine pure_ (i := 22) (N := some 60) (v := ?_) (a' := ?_) #[true, true, true, true, true, true, true, true, true, true, true, true, true, true, true, true, true, true, true, true, true, true, true, false, false] rfl rfl (any_of HT_.out (by kernel_rfl)) (fun _ _ _ h => h) (Or.inl ⟨by rfl, ?_⟩) ?_ ?_
      rotate_left
      next =>
       intro w'
       go_simp
       with_reducible rfl
      rotate_left
      next =>
       simp only [Act.put, yay, yby, ycy, i64_w, i32_w]
       rfl
      refine pure_ (i := 23) (N := some 61) (v := ?_) (a' := ?_) #[true, true, true, true, true, true, true, true, true, true, true, true, true, true, true, true, true, true, true, true, true, true, true, true, false] rfl rfl (any_of HT_.out (by kernel_rfl)) (fun _ _ _ h => h) (Or.inl ⟨by rfl, ?_⟩) ?_ ?_
      rotate_left
      next =>
       intro w'
       go_simp
       with_reducible rfl
      rotate_left
      next =>
       simp only [Act.put, yay, yby, ycy, i64_w, i32_w]
       rfl
      refine pure_ (i := 24) (N := some 6) (v := ?_) (a' := ?_) #[true, true, true, true, true, true, true, true, true, true, true, true, true, true, true, true, true, true, true, true, true, true, true, true, true] rfl rfl (any_of HT_.out (by kernel_rfl)) (fun _ _ _ h => h) (Or.inl ⟨by rfl, ?_⟩) ?_ ?_
      rotate_left
      next =>
       intro w'
       go_simp
       with_reducible rfl
      rotate_left
      next =>
       simp only [Act.put, yay, yby, ycy, i64_w, i32_w]
       rfl
      refine done_ (done_of HT_.out (by kernel_rfl)) ?_
      try go_wp2
      go_ret
      exact ⟨by first | rfl | (simp [errW_none, errW_some] <;> rfl) | (simp [*, errW_none, errW_some] <;> rfl), by repeat (first | (with_reducible first | exact HB.out | apply below_alloc | apply pw_below_drewN | apply below_drew1 | refine below_set ?_ GE101.out | refine below_set ?_ GE104.out) | exact HB.out)⟩
     rw [if_pos c37] at H
     have c37b0 : (((rd_Face (rd_LFace l0_0 a1) a2).f0) == a1) = true := beq_iff_eq.mpr c37
     have c37b1 : (((rd_Face (rd_LFace l0_0 a1) a2).f0) != a1) = false := bne_eq_false_iff_eq.mpr c37
     clear c37
     obtain rfl := yey H
     have hnb38 := NB104_101.out
     have hnc38 := NB101_104.out
     have hcz39_0 : wc.cell? ⟨gb104, 0, none⟩ = some (.int .i64 ((rd_Face (rd_LFace l0_0 a1) a2).f0)) := (blk_cell BK104.out 0).trans rfl
     have hcz39_1 : wc.cell? ⟨gb104, 1, none⟩ = some (.int .i64 ((rd_Face (rd_LFace l0_0 a1) a2).f1)) := (blk_cell BK104.out 1).trans rfl
     have hfz39_0 := blk_frozen BK104.out 0
     have hfz39_1 := blk_frozen BK104.out 1
     try go_wp2_with (first | ((with_reducible refine gate_callee (f := 27) rfl ?_); refine goesL_ (some 37) rfl rfl Try.func27 (by kernel_rfl) rfl #[.agg #[.int .i64 ((rd_Face (rd_LFace l0_0 a1) a2).f0), .int .i64 ((rd_Face (rd_LFace l0_0 a1) a2).f1)], .int .i64 a2] rfl (by (try simp only [yiy, yjy, yky]); first | done | rfl | (simp only [yly, ymy]; rfl)) ?_; (with_reducible refine (impl_Face_target.calls ((rd_Face (rd_LFace l0_0 a1) a2).f0) ((rd_Face (rd_LFace l0_0 a1) a2).f1) a2 t107 _ A30.out).mono ?_); rintro e w40 ⟨rfl, hb⟩; refine ⟨_, rfl, ?_⟩; have n0_ := Aside0.mk (blk_below (g := gb101) (o := .cells #[.slice (some ad102) l0_0.length c0_0] 30 (0, 0)) (by (with_reducible repeat (first | refine blk_drewN ?_ _ | refine blk_drew ?_ | refine blk_alloc ?_ _)); exact BK101.out) hb); have n1_ := Aside0.mk (blk_below (g := gb104) (o := .cells #[.int .i64 ((rd_Face (rd_LFace l0_0 a1) a2).f0), .int .i64 ((rd_Face (rd_LFace l0_0 a1) a2).f1)] 47 (0, 0)) (by (with_reducible repeat (first | refine blk_drewN ?_ _ | refine blk_drew ?_ | refine blk_alloc ?_ _)); exact BK104.out) hb); have n2_ := Aside0.mk (below_step (by repeat (first | (with_reducible first | exact HB.out | apply below_alloc | apply pw_below_drewN | apply below_drew1 | refine below_set ?_ GE101.out | refine below_set ?_ GE104.out) | exact HB.out)) hb); clear BK101; clear BK104; clear HB; have BK101 := n0_; have BK104 := n1_; have HB := n2_; clear n0_ n1_ n2_; (try clear hb); (try clear hb2); (try clear hk); (try clear hi)))
     have n0_ := Aside0.mk (blk_drew BK101.out)
     have n1_ := Aside0.mk (blk_drew BK104.out)
     have n2_ := Aside0.mk (below_drew1 HB.out)
     clear BK101
     clear BK104
     clear HB
     have BK101 := n0_
     have BK104 := n1_
     have HB := n2_
     clear n0_ n1_ n2_
     have p108 : 0 ≤ (((rd_Face (rd_LFace l0_0 a1) a2).f0) : Int) := of_decide_eq_true (by first | (with_reducible assumption) | assumption)
     have q108 : ((rd_Face (rd_LFace l0_0 a1) a2).f0) < (l0_0.length : Int) := of_decide_eq_true (by first | (with_reducible assumption) | assumption)
     obtain ⟨ad108, A108_0, c108_0, e108, hx108_0, hl108_0, hi108_0⟩ := at_LFace HR0_0.out ((rd_Face (rd_LFace l0_0 a1) a2).f0) p108 q108
     have hw108_0 := hx108_0
     obtain rfl : ad102 = ad108 := (by injection e108)
     replace hx108_0 := (HB.out.cell (yny w _ hx108_0)).trans hx108_0
     have HR108_0 := Aside0.mk hi108_0
     have HC108_0 := Aside0.mk hl108_0
     clear hi108_0 hl108_0
     replace p108 := eq_true p108
     replace q108 := eq_true q108
     have p109 : 0 ≤ (t107 : Int) := of_decide_eq_true (by first | (with_reducible assumption) | assumption)
     have q109 : t107 < ((rd_LFace l0_0 ((rd_Face (rd_LFace l0_0 a1) a2).f0)).length : Int) := of_decide_eq_true (by first | (with_reducible assumption) | assumption)
     obtain ⟨ad109, e109, hx109_0, hx109_1⟩ := at_Face HR108_0.out t107 p109 q109
     have hw109_1 := hx109_1
     have hw109_0 := hx109_0
     cases e109
     replace hx109_0 := (HB.out.cell (yny w _ hx109_0)).trans hx109_0
     replace hx109_1 := (HB.out.cell (yny w _ hx109_1)).trans hx109_1
     replace p109 := eq_true p109
     replace q109 := eq_true q109
     refine start_ (n := 25) (S := fun w' => w'.cell? ⟨gb101, 0, none⟩ = some (.slice (some ad102) l0_0.length c0_0) ∧ w'.cell? ⟨gb104, 0, none⟩ = some (.int .i64 ((rd_Face (rd_LFace l0_0 a1) a2).f0)) ∧ w'.cell? ⟨gb104, 1, none⟩ = some (.int .i64 ((rd_Face (rd_LFace l0_0 a1) a2).f1)) ∧ w'.cell? (ad102.add (((rd_Face (rd_LFace l0_0 a1) a2).f0)).toNat) = some (.slice (some ad109) (rd_LFace l0_0 ((rd_Face (rd_LFace l0_0 a1) a2).f0)).length c108_0) ∧ w'.cell? (ad109.add ((t107).toNat * 2)) = some (.int .i64 ((rd_Face (rd_LFace l0_0 ((rd_Face (rd_LFace l0_0 a1) a2).f0)) t107).f0)) ∧ w'.cell? ⟨(ad109.add ((t107).toNat * 2)).block, (ad109.add ((t107).toNat * 2)).off + 1, none⟩ = some (.int .i64 ((rd_Face (rd_LFace l0_0 ((rd_Face (rd_LFace l0_0 a1) a2).f0)) t107).f1))) (ds := []) #[false, false, false, false, false, false, false, false, false, false, false, false, false, false, false, false, false, false, false, false, false, false, false, false, false] (by kernel_rfl) rfl rfl ⟨(blk_cell BK101.out 0).trans rfl, (blk_cell BK104.out 0).trans rfl, (blk_cell BK104.out 1).trans rfl, ((HB.out.cell (yny w _ hw108_0)).trans hw108_0), ((HB.out.cell (yny w _ hw109_0)).trans hw109_0), ((HB.out.cell (yny w _ hw109_1)).trans hw109_1)⟩ (fun hHeld => ?_); refine with_tabW impl_Triangulation_isGood.tab7 impl_Triangulation_isGood.bits7 (fun HT_ HW_ => ?_)
     generalize w40.drew = w41 at BK101 BK104 HB HR108_0 hx108_0 hx109_0 hx109_1 hHeld ⊢
     refine pure_ (i := 0) (N := some 38) (v := ?_) (a' := ?_) #[true, false, false, false, false, false, false, false, false, false, false, false, false, false, false, false, false, false, false, false, false, false, false, false, false] rfl rfl (any_of HT_.out (by kernel_rfl)) (fun _ _ _ h => h) (Or.inl ⟨by rfl, ?_⟩) ?_ ?_
     rotate_left
     next =>
      intro w'
      go_simp
      with_reducible rfl
     rotate_left
     next =>
      simp only [Act.put, yay, yby, ycy, i64_w, i32_w]
      rfl
     refine pure_ (i := 2) (N := some 40) (v := ?_) (a' := ?_) #[true, false, true, false, false, false, false, false, false, false, false, false, false, false, false, false, false, false, false, false, false, false, false, false, false] rfl rfl (any_of HT_.out (by kernel_rfl)) (fun _ _ _ h => h) (Or.inl ⟨by rfl, ?_⟩) ?_ ?_
     rotate_left
     next =>
      intro w'
      go_simp
      with_reducible rfl
     rotate_left
     next =>
      simp only [Act.put, yay, yby, ycy, i64_w, i32_w]
      rfl
     refine pure_ (i := 6) (N := some 44) (v := ?_) (a' := ?_) #[true, false, true, false, false, false, true, false, false, false, false, false, false, false, false, false, false, false, false, false, false, false, false, false, false] rfl rfl (any_of HT_.out (by kernel_rfl)) (fun _ _ _ h => h) (Or.inl ⟨by rfl, ?_⟩) ?_ ?_
     rotate_left
     next =>
      intro w'
      go_simp
      with_reducible rfl
     rotate_left
     next =>
      simp only [Act.put, yay, yby, ycy, i64_w, i32_w]
      rfl
     refine pure_ (i := 10) (N := some 48) (v := ?_) (a' := ?_) #[true, false, true, false, false, false, true, false, false, false, true, false, false, false, false, false, false, false, false, false, false, false, false, false, false] rfl rfl (any_of HT_.out (by kernel_rfl)) (fun _ _ _ h => h) (Or.inl ⟨by rfl, ?_⟩) ?_ ?_
     rotate_left
     next =>
      intro w'
      go_simp
      with_reducible rfl
     rotate_left
     next =>
      simp only [Act.put, yay, yby, ycy, i64_w, i32_w]
      rfl
     refine take_ (i := 1) (N := some 39) (v := ?_) (a' := ?_) #[true, true, true, false, false, false, true, false, false, false, true, false, false, false, false, false, false, false, false, false, false, false, false, false, false] rfl rfl (take_ofW HT_.out HW_.out (by kernel_rfl)) (fun _ _ _ h => h) (Or.inl ⟨by rfl, ?_⟩) hHeld ?_ ?_
     rotate_left
     next =>
      rintro w' ⟨s0, s1, s2, s3, s4, s5⟩
      go_simp
      with_reducible rfl
     rotate_left
     next =>
      simp only [Act.put, yay, yby, ycy, i64_w, i32_w]
      rfl
     refine take_ (i := 3) (N := some 41) (v := ?_) (a' := ?_) #[true, true, true, true, false, false, true, false, false, false, true, false, false, false, false, false, false, false, false, false, false, false, false, false, false] rfl rfl (take_ofW HT_.out HW_.out (by kernel_rfl)) (fun _ _ _ h => h) (Or.inl ⟨by rfl, ?_⟩) hHeld ?_ ?_
     rotate_left
     next =>
      rintro w' ⟨s0, s1, s2, s3, s4, s5⟩
      go_simp
      with_reducible rfl
     rotate_left
     next =>
      simp only [Act.put, yay, yby, ycy, i64_w, i32_w]
      rfl
     refine pure_ (i := 4) (N := some 42) (v := ?_) (a' := ?_) #[true, true, true, true, true, false, true, false, false, false, true, false, false, false, false, false, false, false, false, false, false, false, false, false, false] rfl rfl (any_of HT_.out (by kernel_rfl)) (fun _ _ _ h => h) (Or.inl ⟨by rfl, ?_⟩) ?_ ?_
     rotate_left
     next =>
      intro w'
      go_simp
      with_reducible rfl
     rotate_left
     next =>
      simp only [Act.put, yay, yby, ycy, i64_w, i32_w]
      rfl
     refine take_ (i := 5) (N := some 43) (v := ?_) (a' := ?_) #[true, true, true, true, true, true, true, false, false, false, true, false, false, false, false, false, false, false, false, false, false, false, false, false, false] rfl rfl (take_ofW HT_.out HW_.out (by kernel_rfl)) (fun _ _ _ h => h) (Or.inl ⟨by rfl, ?_⟩) hHeld ?_ ?_
     rotate_left
     next =>
      rintro w' ⟨s0, s1, s2, s3, s4, s5⟩
      go_simp
      with_reducible rfl
     rotate_left
     next =>
      simp only [Act.put, yay, yby, ycy, i64_w, i32_w]
      rfl
     refine pure_ (i := 7) (N := some 45) (v := ?_) (a' := ?_) #[true, true, true, true, true, true, true, true, false, false, true, false, false, false, false, false, false, false, false, false, false, false, false, false, false] rfl rfl (any_of HT_.out (by kernel_rfl)) (fun _ _ _ h => h) (Or.inl ⟨by rfl, ?_⟩) ?_ ?_
     rotate_left
     next =>
      intro w'
      go_simp
      with_reducible rfl
     rotate_left
     next =>
      simp only [Act.put, yay, yby, ycy, i64_w, i32_w]
      rfl
     refine take_ (i := 8) (N := some 46) (v := ?_) (a' := ?_) #[true, true, true, true, true, true, true, true, true, false, true, false, false, false, false, false, false, false, false, false, false, false, false, false, false] rfl rfl (take_ofW HT_.out HW_.out (by kernel_rfl)) (fun _ _ _ h => h) (Or.inl ⟨by rfl, ?_⟩) hHeld ?_ ?_
     rotate_left
     next =>
      rintro w' ⟨s0, s1, s2, s3, s4, s5⟩
      go_simp
      with_reducible rfl
     rotate_left
     next =>
      simp only [Act.put, yay, yby, ycy, i64_w, i32_w]
      rfl
     refine take_ (i := 9) (N := some 47) (v := ?_) (a' := ?_) #[true, true, true, true, true, true, true, true, true, true, true, false, false, false, false, false, false, false, false, false, false, false, false, false, false] rfl rfl (take_ofW HT_.out HW_.out (by kernel_rfl)) (fun _ _ _ h => h) (Or.inl ⟨by rfl, ?_⟩) hHeld ?_ ?_
     rotate_left
     next =>
      rintro w' ⟨s0, s1, s2, s3, s4, s5⟩
      go_simp
      with_reducible rfl
     rotate_left
     next =>
      simp only [Act.put, yay, yby, ycy, i64_w, i32_w]
      rfl
     refine one_ (i := 11) (N := some 49) #[true, true, true, true, true, true, true, true, true, true, true, true, false, false, false, false, false, false, false, false, false, false, false, false, false] rfl rfl (one_of HT_.out (by kernel_rfl)) (by decide) (fun K hK => ?_)
     refine goes_ Try.func80 (by kernel_rfl) rfl #[.agg #[.int .i64 ((rd_Face (rd_LFace l0_0 a1) a2).f0), .int .i64 ((rd_Face (rd_LFace l0_0 a1) a2).f1)], .int .i64 a1] (by rfl) rfl rfl (by (try simp only [yiy, yjy, yky]); first | done | rfl | (simp only [yly, ymy]; rfl)) ?_
     with_reducible refine (impl_Face_partner.calls ((rd_Face (rd_LFace l0_0 a1) a2).f0) ((rd_Face (rd_LFace l0_0 a1) a2).f1) a1 t110 t111 _ A35.out).mono ?_
     rintro e w42 ⟨rfl, hb⟩
     refine ⟨_, rfl, ?_⟩
     have n0_ := Aside0.mk (blk_below (g := gb101) (o := .cells #[.slice (some ad102) l0_0.length c0_0] 30 (0, 0)) (by (with_reducible repeat (first | refine blk_drewN ?_ _ | refine blk_drew ?_ | refine blk_alloc ?_ _)); exact BK101.out) hb)
     have n1_ := Aside0.mk (blk_below (g := gb104) (o := .cells #[.int .i64 ((rd_Face (rd_LFace l0_0 a1) a2).f0), .int .i64 ((rd_Face (rd_LFace l0_0 a1) a2).f1)] 47 (0, 0)) (by (with_reducible repeat (first | refine blk_drewN ?_ _ | refine blk_drew ?_ | refine blk_alloc ?_ _)); exact BK104.out) hb)
     have n2_ := Aside0.mk (below_step (by repeat (first | (with_reducible first | exact HB.out | apply below_alloc | apply pw_below_drewN | apply below_drew1 | refine below_set ?_ GE101.out | refine below_set ?_ GE104.out) | exact HB.out)) hb)
     clear BK101
     clear BK104
     clear HB
     have BK101 := n0_
     have BK104 := n1_
     have HB := n2_
     clear n0_ n1_ n2_
     (try clear hb)
     (try clear hb2)
     (try clear hk)
     (try clear hi)
     refine hK.out _ _ ⟨(blk_cell BK101.out 0).trans rfl, (blk_cell BK104.out 0).trans rfl, (blk_cell BK104.out 1).trans rfl, ((HB.out.cell (yny w _ hw108_0)).trans hw108_0), ((HB.out.cell (yny w _ hw109_0)).trans hw109_0), ((HB.out.cell (yny w _ hw109_1)).trans hw109_1)⟩ (fun hHeld => ?_)
     clear hK K
     refine norm_ (a' := ?_) ?_ ?_
     rotate_left
     next =>
      show Act.put _ (some 49) _ = _
      simp only [Act.put, yay, yby, ycy, i64_w, i32_w]
      rfl
     refine pure_ (i := 12) (N := some 50) (v := ?_) (a' := ?_) #[true, true, true, true, true, true, true, true, true, true, true, true, true, false, false, false, false, false, false, false, false, false, false, false, false] rfl rfl (any_of HT_.out (by kernel_rfl)) (fun _ _ _ h => h) (Or.inl ⟨by rfl, ?_⟩) ?_ ?_
     rotate_left
     next =>
      intro w'
      go_simp
      with_reducible rfl
     rotate_left
     next =>
      simp only [Act.put, yay, yby, ycy, i64_w, i32_w]
      rfl
     refine pure_ (i := 13) (N := some 51) (v := ?_) (a' := ?_) #[true, true, true, true, true, true, true, true, true, true, true, true, true, true, false, false, false, false, false, false, false, false, false, false, false] rfl rfl (any_of HT_.out (by kernel_rfl)) (fun _ _ _ h => h) (Or.inl ⟨by rfl, ?_⟩) ?_ ?_
     rotate_left
     next =>
      intro w'
      go_simp
      with_reducible rfl
     rotate_left
     next =>
      simp only [Act.put, yay, yby, ycy, i64_w, i32_w]
      rfl
     refine pure_ (i := 14) (N := some 52) (v := ?_) (a' := ?_) #[true, true, true, true, true, true, true, true, true, true, true, true, true, true, true, false, false, false, false, false, false, false, false, false, false] rfl rfl (any_of HT_.out (by kernel_rfl)) (fun _ _ _ h => h) (Or.inl ⟨by rfl, ?_⟩) ?_ ?_
     rotate_left
     next =>
      intro w'
      go_simp
      with_reducible rfl
     rotate_left
     next =>
      simp only [Act.put, yay, yby, ycy, i64_w, i32_w]
      rfl
     refine pure_ (i := 16) (N := some 54) (v := ?_) (a' := ?_) #[true, true, true, true, true, true, true, true, true, true, true, true, true, true, true, false, true, false, false, false, false, false, false, false, false] rfl rfl (any_of HT_.out (by kernel_rfl)) (fun _ _ _ h => h) (Or.inl ⟨by rfl, ?_⟩) ?_ ?_
     rotate_left
     next =>
      intro w'
      go_simp
      with_reducible rfl
     rotate_left
     next =>
      simp only [Act.put, yay, yby, ycy, i64_w, i32_w]
      rfl
     refine take_ (i := 15) (N := some 53) (v := ?_) (a' := ?_) #[true, true, true, true, true, true, true, true, true, true, true, true, true, true, true, true, true, false, false, false, false, false, false, false, false] rfl rfl (take_ofW HT_.out HW_.out (by kernel_rfl)) (fun _ _ _ h => h) (Or.inl ⟨by rfl, ?_⟩) hHeld ?_ ?_
     rotate_left
     next =>
      rintro w' ⟨s0, s1, s2, s3, s4, s5⟩
      go_simp
      with_reducible rfl
     rotate_left
     next =>
      simp only [Act.put, yay, yby, ycy, i64_w, i32_w]
      rfl
     refine pure_ (i := 17) (N := some 55) (v := ?_) (a' := ?_) #[true, true, true, true, true, true, true, true, true, true, true, true, true, true, true, true, true, true, false, false, false, false, false, false, false] rfl rfl (any_of HT_.out (by kernel_rfl)) (fun _ _ _ h => h) (Or.inl ⟨by rfl, ?_⟩) ?_ ?_
     rotate_left
     next =>
      intro w'
      go_simp
      with_reducible rfl
     rotate_left
     next =>
      simp only [Act.put, yay, yby, ycy, i64_w, i32_w]
      rfl
     refine pure_ (i := 18) (N := some 56) (v := ?_) (a' := ?_) #[true, true, true, true, true, true, true, true, true, true, true, true, true, true, true, true, true, true, true, false, false, false, false, false, false] rfl rfl (any_of HT_.out (by kernel_rfl)) (fun _ _ _ h => h) (Or.inl ⟨by rfl, ?_⟩) ?_ ?_
     rotate_left
     next =>
      intro w'
      go_simp
      with_reducible rfl
     rotate_left
     next =>
      simp only [Act.put, yay, yby, ycy, i64_w, i32_w]
      rfl
     refine pure_ (i := 19) (N := some 57) (v := ?_) (a' := ?_) #[true, true, true, true, true, true, true, true, true, true, true, true, true, true, true, true, true, true, true, true, false, false, false, false, false] rfl rfl (any_of HT_.out (by kernel_rfl)) (fun _ _ _ h => h) (Or.inl ⟨by rfl, ?_⟩) ?_ ?_
     rotate_left
     next =>
      intro w'
      go_simp
      with_reducible rfl
     rotate_left
     next =>
      simp only [Act.put, yay, yby, ycy, i64_w, i32_w]
      rfl
     refine pure_ (i := 20) (N := some 58) (v := ?_) (a' := ?_) #[true, true, true, true, true, true, true, true, true, true, true, true, true, true, true, true, true, true, true, true, true, false, false, false, false] rfl rfl (any_of HT_.out (by kernel_rfl)) (fun _ _ _ h => h) (Or.inl ⟨by rfl, ?_⟩) ?_ ?_
     rotate_left
     next =>
      intro w'
      go_simp
      with_reducible rfl
     rotate_left
     next =>
      simp only [Act.put, yay, yby, ycy, i64_w, i32_w]
      rfl
     refine pure_ (i := 21) (N := some 59) (v := ?_) (a' := ?_) #[true, true, true, true, true, true, true, true, true, true, true, true, true, true, true, true, true, true, true, true, true, true, false, false, false] rfl rfl (any_of HT_.out (by kernel_rfl)) (fun _ _ _ h => h) (Or.inl ⟨by rfl, ?_⟩) ?_ ?_
     rotate_left
     next =>
      intro w'
      go_simp
      with_reducible rfl
     rotate_left
     next =>
      simp only [Act.put, yay, yby, ycy, i64_w, i32_w]
      rfl
     refine pure_ (i := 22) (N := some 60) (v := ?_) (a' := ?_) #[true, true, true, true, true, true, true, true, true, true, true, true, true, true, true, true, true, true, true, true, true, true, true, false, false] rfl rfl (any_of HT_.out (by kernel_rfl)) (fun _ _ _ h => h) (Or.inl ⟨by rfl, ?_⟩) ?_ ?_
     rotate_left
     next =>
      intro w'
      go_simp
      with_reducible rfl
     rotate_left
     next =>
      simp only [Act.put, yay, yby, ycy, i64_w, i32_w]
      rfl
     refine pure_ (i := 23) (N := some 61) (v := ?_) (a' := ?_) #[true, true, true, true, true, true, true, true, true, true, true, true, true, true, true, true, true, true, true, true, true, true, true, true, false] rfl rfl (any_of HT_.out (by kernel_rfl)) (fun _ _ _ h => h) (Or.inl ⟨by rfl, ?_⟩) ?_ ?_
     rotate_left
     next =>
      intro w'
      go_simp
      with_reducible rfl
     rotate_left
     next =>
      simp only [Act.put, yay, yby, ycy, i64_w, i32_w]
      rfl
     refine pure_ (i := 24) (N := some 6) (v := ?_) (a' := ?_) #[true, true, true, true, true, true, true, true, true, true, true, true, true, true, true, true, true, true, true, true, true, true, true, true, true] rfl rfl (any_of HT_.out (by kernel_rfl)) (fun _ _ _ h => h) (Or.inl ⟨by rfl, ?_⟩) ?_ ?_
     rotate_left
     next =>
      intro w'
      go_simp
      with_reducible rfl
     rotate_left
     next =>
      simp only [Act.put, yay, yby, ycy, i64_w, i32_w]
      rfl
     refine done_ (done_of HT_.out (by kernel_rfl)) ?_
     try go_wp2
     go_ret
     exact ⟨by first | rfl | (simp [errW_none, errW_some] <;> rfl) | (simp [*, errW_none, errW_some] <;> rfl), by repeat (first | (with_reducible first | exact HB.out | apply below_alloc | apply pw_below_drewN | apply below_drew1 | refine below_set ?_ GE101.out | refine below_set ?_ GE104.out) | exact HB.out)⟩
end
/-! ### impl_isTriangulation_1: function 72 -/
def impl_isTriangulation_1.f (l0 : List (SFace)) : Option (Bool) := some ((l0.length : Int) != 4)
set_option maxHeartbeats 8000000 in
set_option maxRecDepth 100000 in
theorem impl_isTriangulation_1.calls (A0 : Option Addr) (c0 : Nat) (l0 : List (SFace)) (r : Bool) (w : World) (hr0 : Kd.C kFace w A0 l0.length l0) (hc0 : l0.length ≤ c0) (h : impl_isTriangulation_1.f l0 = some r) :
    Calls Try.prog 72 #[.slice A0 l0.length c0] w fun e w' => e = .returned (.bool r) ∧ Drawn0 w w' := by
  have HR0 := Aside0.mk hr0
  have HC0 := Aside0.mk hc0
  clear hr0 hc0
  have H : (some ((l0.length : Int) != 4)) = some r := h
  clear h
  obtain rfl := yey H
  go_enter Try.func72, Try.ntmps72
  go_wp2
  go_ret
  exact ⟨by first | rfl | (simp; done) | (simp [*]; done), by repeat (first | exact Drawn0.refl _ | apply Drawn0.step)⟩
end Go.Proofs.Ytebehapafpmgbaa.P
namespace Go.Proofs.Ytebehapafpmgbaa.Lib
open Go.RowKit Go.Proofs.YtebehapafpmgbaaW.PrintWords
/-- The place of the first element that f tells true, or -1. -/
def idxO {α : Type} (f : α → Option Bool) : Nat → List α → Option Int
  | _, [] => some (-1)
  | i, x :: xs => (f x).bind fun b => if b = true then some (i : Int) else idxO f (i + 1) xs
theorem idxO_cons {α : Type} (f : α → Option Bool) (i : Nat) (x : α) (xs : List α) : idxO f i (x :: xs) = (f x).bind fun b => if b = true then some (i : Int) else idxO f (i + 1) xs := rfl
end Go.Proofs.Ytebehapafpmgbaa.Lib
