/- The statement FnGluingSaid, proved: part 4 of 8 (texts of this session and of the kit's print, put together and cut to what is used by a program of it). -/
import Derived.Test.YtebehapafpmgbaaMFnGluing3
namespace Go.Proofs.Ytebehapafpmgbaa.P
open Go.RowKit Go.Proofs.YtebehapafpmgbaaW.PrintWords Go.Proofs.YtebehapafpmgbaaW.PrintLast Go.Proofs.YtebehapafpmgbaaW.PrintMore
attribute [local go_sem] max2_int min2_int max_two min_two max_three min_three max_four min_four   -- for this text's walks alone
set_option linter.unusedVariables false
set_option linter.unusedSimpArgs false
open Go.Proofs.Ytebehapafpmgbaa.Lib
/-! ### slices_IndexFunc_SSimpl_Face_at_impl_isTriangulation_1: function 82 at the literal 72 -/
def slices_IndexFunc_SSimpl_Face_at_impl_isTriangulation_1.f (l0 : List (List (SFace))) : Option Int := idxO (fun x => impl_isTriangulation_1.f x) 0 l0
set_option maxHeartbeats 8000000 in
set_option maxRecDepth 100000 in
theorem slices_IndexFunc_SSimpl_Face_at_impl_isTriangulation_1.calls (A0 : Option Addr) (c0 : Nat) (l0 : List (List (SFace))) (r : Int) (w : World) (hr0 : Kd.C (Kd.slice 47 kFace) w A0 l0.length l0) (hc0 : l0.length ≤ c0) (h : slices_IndexFunc_SSimpl_Face_at_impl_isTriangulation_1.f l0 = some r) :
    Calls Try.prog 82 #[.slice A0 l0.length c0, .func (.func 72) #[] #[]] w fun e w' => e = .returned (.int .i64 r) ∧ Below w.heap.size w w' := by
  have HR0 := Aside0.mk hr0
  clear hr0 hc0
  have hbig : l0.length ≤ 9223372036854775807 := HR0.out.2.1
  have HB := Aside0.mk (Below.refl w.heap.size w)
  have H' := Aside0.mk (show idxO (fun x => impl_isTriangulation_1.f x) 0 l0 = some r from h)
  clear h
  go_enter Try.func82, Try.ntmps82
  go_wp2
  go_loopg [5, 8] l0.length (fun gg v5 v8 w' => ∃ kk : Nat, kk ≤ l0.length ∧ l0.length - kk ≤ gg ∧ v8 = .int .i64 kk ∧ Aside0 (idxO (fun x => impl_isTriangulation_1.f x) kk (l0.drop kk) = some r) ∧ Aside0 (Below w.heap.size w w'))
  case atStart => exact ⟨0, Nat.zero_le _, by omega, rfl, H', HB⟩
  case round =>
    clear H' HB
    obtain ⟨kk, hkk, hg, rfl, HA, HB⟩ := hrel
    by_cases hlt : kk < l0.length
    · have hltz : (kk : Int) < (l0.length : Int) := by omega
      have H := HA.out
      clear HA
      rw [List.drop_eq_getElem_cons hlt, idxO_cons] at H
      replace H := ydy.mp H
      obtain ⟨b, hb, H⟩ := H
      obtain ⟨ad, A1, c1, e104, hx, hl1, hi1⟩ := at_LFace HR0.out (kk : Int) (by omega) (by omega)
      have ex : rd_LFace l0 (kk : Int) = l0[kk] := by simp [rd_LFace, hlt]
      rw [ex] at hx hl1 hi1
      rw [Int.toNat_natCast] at hx
      replace hx := (HB.out.cell (yny w _ hx)).trans hx
      replace hi1 := Kd.C_below hi1 HB.out
      generalize l0[kk] = y at hx hl1 hi1 hb
      have HI1 := Aside0.mk hi1
      have HL1 := Aside0.mk hl1
      clear ex hi1 hl1
      cases e104
      have HC := Aside0.mk hb
      clear hb
      cases b with
      | true =>
        have H2 := Aside0.mk H
        clear H
        go_wp2_with fail
        refine (impl_isTriangulation_1.calls _ _ _ _ _ HI1.out HL1.out HC.out).mono ?_
        rintro e w' ⟨rfl, hd⟩
        have HB2 := Aside0.mk (below_step HB.out hd.below)
        clear hd HB
        go_wp2
        go_ret
        exact ⟨by rw [yey H2.out]; rfl, HB2.out⟩
      | false =>
        have H2 := Aside0.mk H
        clear H
        go_wp2_with fail
        refine (impl_isTriangulation_1.calls _ _ _ _ _ HI1.out HL1.out HC.out).mono ?_
        rintro e w' ⟨rfl, hd⟩
        have HB2 := Aside0.mk (below_step HB.out hd.below)
        clear hd HB
        go_wp2
        go_roundg (l0.length - (kk + 1))
        case measure => omega
        case rel => exact ⟨kk + 1, by omega, by omega, by go_num, H2, HB2⟩
    · have hltz : ¬ (kk : Int) < (l0.length : Int) := by omega
      have e : kk = l0.length := by omega
      subst e
      have H2 := Aside0.mk (yey (by simpa [idxO] using HA.out))
      clear HA
      go_wp2
      go_ret
      exact ⟨by rw [← H2.out]; rfl, HB.out⟩
/-! ### slices_ContainsFunc_SSimpl_Face_at_impl_isTriangulation_1: function 71 at the literal 72 -/
def slices_ContainsFunc_SSimpl_Face_at_impl_isTriangulation_1.f (l0 : List (List (SFace))) : Option Bool := (slices_IndexFunc_SSimpl_Face_at_impl_isTriangulation_1.f l0).bind fun i => some (decide (0 ≤ i))
set_option maxHeartbeats 8000000 in
set_option maxRecDepth 100000 in
theorem slices_ContainsFunc_SSimpl_Face_at_impl_isTriangulation_1.calls (A0 : Option Addr) (c0 : Nat) (l0 : List (List (SFace))) (r : Bool) (w : World) (hr0 : Kd.C (Kd.slice 47 kFace) w A0 l0.length l0) (hc0 : l0.length ≤ c0) (h : slices_ContainsFunc_SSimpl_Face_at_impl_isTriangulation_1.f l0 = some r) :
    Calls Try.prog 71 #[.slice A0 l0.length c0, .func (.func 72) #[] #[]] w fun e w' => e = .returned (.bool r) ∧ Below w.heap.size w w' := by
  obtain ⟨i, hi, h⟩ := ydy.mp h
  have H := Aside0.mk (yey h)
  clear h
  have HI := Aside0.mk hi
  clear hi
  have HR0 := Aside0.mk hr0
  have HC0 := Aside0.mk hc0
  clear hr0 hc0
  go_enter Try.func71, Try.ntmps71
  go_wp2_with fail
  refine (slices_IndexFunc_SSimpl_Face_at_impl_isTriangulation_1.calls _ _ _ _ _ HR0.out HC0.out HI.out).mono ?_
  rintro e w' ⟨rfl, hd⟩
  have HB := Aside0.mk hd
  clear hd
  go_wp2
  go_ret
  exact ⟨by rw [← H.out]; rfl, HB.out⟩
end Go.Proofs.Ytebehapafpmgbaa.P
namespace Go.Proofs.Ytebehapafpmgbaa.P
open Go.RowKit Go.Proofs.YtebehapafpmgbaaW.PrintWords Go.Proofs.YtebehapafpmgbaaW.PrintLast Go.Proofs.YtebehapafpmgbaaW.PrintMore
attribute [local go_sem] max2_int min2_int max_two min_two max_three min_three max_four min_four   -- for this text's walks alone
set_option linter.unusedVariables false
set_option linter.unusedSimpArgs false
/-! ### impl_isTriangulation: function 50 -/
mutual
def impl_isTriangulation.j0 : Nat → Bool → List (List (SFace)) → Option (Bool)
  | 0, _, _ => none
  | k + 1, x13, x102000 => if x13 = true then (some false) else ((impl_size_Simpl_Face.f x102000).bind fun t103 => (impl_isTriangulation.l0 k t103 0 x102000))
def impl_isTriangulation.l0 : Nat → Int → Int → List (List (SFace)) → Option (Bool)
  | 0, _, _, _ => none
  | k + 1, x16, x17, x102000 => if x17 < x16 then (impl_isTriangulation.l1 k x17 x16 x17 0 x102000) else (some true)
def impl_isTriangulation.l1 : Nat → Int → Int → Int → Int → List (List (SFace)) → Option (Bool)
  | 0, _, _, _, _, _ => none
  | k + 1, x3, x16, x17, x20, x102000 => if x20 < 4 then ((impl_Triangulation_isGood.f k x102000 x3 x20).bind fun t104 => (if t104 = true then (impl_isTriangulation.l1 k x3 x16 x17 (wrap64 (x20 + 1)) x102000) else (some false))) else (impl_isTriangulation.l0 k x16 (wrap64 (x17 + 1)) x102000)
end
def impl_isTriangulation.f (k : Nat) (l0_0 : List (List (SFace))) : Option (Bool) := if (l0_0.length : Int) > 8 then (impl_isTriangulation.j0 k true l0_0) else ((slices_ContainsFunc_SSimpl_Face_at_impl_isTriangulation_1.f l0_0).bind fun t102 => (impl_isTriangulation.j0 k t102 l0_0))
set_option maxHeartbeats 8000000 in
set_option maxRecDepth 100000 in
theorem impl_isTriangulation.calls (k : Nat) (A0_0 : Option Addr) (c0_0 : Nat) (l0_0 : List (List (SFace))) (r : Bool) (w : World) (hr0_0 : Kd.C (Kd.slice 47 kFace) w A0_0 l0_0.length l0_0) (hc0_0 : l0_0.length ≤ c0_0) (h : impl_isTriangulation.f k l0_0 = some r) :
    Calls Try.prog 50 #[.agg #[.slice A0_0 l0_0.length c0_0]] w fun e w' => e = .returned (.bool r) ∧ Below w.heap.size w w' := by
  have hu30 := Try.underlying30
  have HR0_0 := Aside0.mk hr0_0
  have HC0_0 := Aside0.mk hc0_0
  clear hr0_0 hc0_0
  have HB := Aside0.mk (Below.refl w.heap.size w)
  have H : (if (l0_0.length : Int) > 8 then (impl_isTriangulation.j0 k true l0_0) else ((slices_ContainsFunc_SSimpl_Face_at_impl_isTriangulation_1.f l0_0).bind fun t102 => (impl_isTriangulation.j0 k t102 l0_0))) = some r := h
  clear h
  have HC2 := Aside0.mk H
  clear H
  go_enter Try.func50, Try.ntmps50
  go_upto_region 1 with (first | ((with_reducible refine gate_dst (N := 1) rfl ?_); refine box_event ?hg (N := 1) ?hd (cs := #[.slice A0_0 l0_0.length c0_0]) (t := 30) ?hr ?_; (case hd => rfl); (case hg => rfl); (case hr => first | (go_simp; done) | (go_simp; rfl)); intro gb101 hg w3 hbox hb; have n0_ := Aside0.mk (below_step (by repeat (first | (with_reducible first | exact HB.out | apply below_alloc | apply pw_below_drewN | apply below_drew1) | exact HB.out)) hb); have n1_ := Aside0.mk (hbox); have n2_ := Aside0.mk ((by rw [hg]; exact (below_size (by repeat (first | (with_reducible first | exact HB.out | apply below_alloc | apply pw_below_drewN | apply below_drew1) | exact HB.out))) : w.heap.size ≤ gb101)); have n3_ := Aside0.mk ((by rw [hg]; exact (below_size (by repeat (first | (with_reducible first | exact HB.out | apply below_alloc | apply pw_below_drewN | apply below_drew1) | exact HB.out))) : w.heap.size ≤ gb101)); clear HB; have HB := n0_; have BK101 := n1_; have GW101 := n2_; have GE101 := n3_; clear n0_ n1_ n2_ n3_; clear hb hbox hg))
  (try simp only [Act.put, yay, yby, ycy])
  go_cut [13] (fun v13 wc => ∃ (kq : Nat) (x13_1 : Bool), v13 = .bool x13_1 ∧ Aside0 (impl_isTriangulation.j0 kq x13_1 l0_0 = some r) ∧ Aside0 (kq ≤ k) ∧ Aside0 (wc.heap[gb101]? = some (.cells #[(.slice A0_0 l0_0.length c0_0)] 30 (0, 0))) ∧ Aside0 (Below w.heap.size w wc))
  case first =>
    have H := HC2.out
    clear HC2
    by_cases c4 : (l0_0.length : Int) > 8
    · rw [if_pos c4] at H
      have c4b0 : decide (8 < (l0_0.length : Int)) = true := ygy c4
      have c4b1 : decide (8 < l0_0.length) = true := ygy (by omega)
      clear c4
      (first | rw [c4b0] | (simp only [i64_w, i32_w]; rw [c4b0]) | skip)
      have H' := Aside0.mk H
      clear H
      have hcz5_0 : w3.cell? ⟨gb101, 0, none⟩ = some (.slice A0_0 l0_0.length c0_0) := (blk_cell BK101.out 0).trans rfl
      have hfz5_0 := blk_frozen BK101.out 0
      go_wp2
      go_meet
      case rel => exact ⟨_, (true), (by first | rfl | (simp; done) | (simp [*]; done)), H', ⟨by first | omega | exact yoy _⟩, ⟨by (with_reducible repeat (first | refine blk_drewN ?_ _ | refine blk_drew ?_ | refine blk_alloc ?_ _)); exact BK101.out⟩, ⟨by repeat (first | (with_reducible first | exact HB.out | apply below_alloc | apply pw_below_drewN | apply below_drew1 | refine below_set ?_ GE101.out) | exact HB.out)⟩⟩
    · rw [if_neg c4] at H
      have c4b0 : decide (8 < (l0_0.length : Int)) = false := yhy c4
      have c4b1 : decide (8 < l0_0.length) = false := yhy (by omega)
      clear c4
      (first | rw [c4b0] | (simp only [i64_w, i32_w]; rw [c4b0]) | skip)
      replace H := ydy.mp H
      obtain ⟨t102, A60, H⟩ := H
      replace H : (impl_isTriangulation.j0 k t102 l0_0) = some r := H
      have A6 := Aside0.mk A60
      clear A60
      have H' := Aside0.mk H
      clear H
      have hcz7_0 : w3.cell? ⟨gb101, 0, none⟩ = some (.slice A0_0 l0_0.length c0_0) := (blk_cell BK101.out 0).trans rfl
      have hfz7_0 := blk_frozen BK101.out 0
      go_wp2_with (first | (go_at_call 71; (with_reducible refine (slices_ContainsFunc_SSimpl_Face_at_impl_isTriangulation_1.calls _ _ l0_0 t102 _ ?side1 ?side2 A6.out).mono ?_); (case side1 => repeat (first | exact (Kd.C_below HR0_0.out HB.out) | (with_reducible refine Kd.C_alloc ?_ _) | (with_reducible refine Kd.C_drewN ?_ _) | (with_reducible refine Kd.C_drew ?_))); (case side2 => exact HC0_0.out); rintro e w8 ⟨rfl, hb⟩; have n0_ := Aside0.mk (blk_below (g := gb101) (o := .cells #[.slice A0_0 l0_0.length c0_0] 30 (0, 0)) (by (with_reducible repeat (first | refine blk_drewN ?_ _ | refine blk_drew ?_ | refine blk_alloc ?_ _)); exact BK101.out) hb); have n1_ := Aside0.mk (below_step (by repeat (first | (with_reducible first | exact HB.out | apply below_alloc | apply pw_below_drewN | apply below_drew1 | refine below_set ?_ GE101.out) | exact HB.out)) hb); clear BK101; clear HB; have BK101 := n0_; have HB := n1_; clear n0_ n1_; (try clear hb); (try clear hb2); (try clear hk); (try clear hi)))
      go_meet
      case rel => exact ⟨_, (t102), (by first | rfl | (simp; done) | (simp [*]; done)), H', ⟨by first | omega | exact yoy _⟩, ⟨by (with_reducible repeat (first | refine blk_drewN ?_ _ | refine blk_drew ?_ | refine blk_alloc ?_ _)); exact BK101.out⟩, ⟨by repeat (first | (with_reducible first | exact HB.out | apply below_alloc | apply pw_below_drewN | apply below_drew1 | refine below_set ?_ GE101.out) | exact HB.out)⟩⟩
  case rest =>
    clear HC2
    try clear p2
    try clear c4
    try clear c4b0
    try clear c4b1
    try clear c5
    try clear hcz5_0
    try clear hcz7_0
    try clear hfz5_0
    try clear hfz7_0
    obtain ⟨kq, x13_1, rfl, HA, HJ1, BK101, HB⟩ := hcut
    cases kq with
    | zero => exact absurd HA.out (by simp [impl_isTriangulation.j0])
    | succ kj1 =>
      have H := HA.out
      clear HA
      simp only [impl_isTriangulation.j0] at H
      by_cases c9 : x13_1 = true
      · subst c9
        have H1 : (some false) = some r := by rw [if_pos rfl] at H; exact H
        clear H
        have H := H1
        clear H1
        obtain rfl := yey H
        go_wp2
        go_ret
        exact ⟨by first | rfl | (simp [errW_none, errW_some] <;> rfl) | (simp [*, errW_none, errW_some] <;> rfl), by repeat (first | (with_reducible first | exact HB.out | apply below_alloc | apply pw_below_drewN | apply below_drew1 | refine below_set ?_ GE101.out) | exact HB.out)⟩
      · replace c9 := Bool.eq_false_iff.mpr c9
        subst c9
        have H1 : ((impl_size_Simpl_Face.f l0_0).bind fun t103 => (impl_isTriangulation.l0 kj1 t103 0 l0_0)) = some r := by rw [if_neg (show ¬ (false = true) by decide)] at H; exact H
        clear H
        have H := H1
        clear H1
        replace H := ydy.mp H
        obtain ⟨t103, A100, H⟩ := H
        replace H : (impl_isTriangulation.l0 kj1 t103 0 l0_0) = some r := H
        have A10 := Aside0.mk A100
        clear A100
        have H' := Aside0.mk H
        clear H
        have hcz11_0 : wc.cell? ⟨gb101, 0, none⟩ = some (.slice A0_0 l0_0.length c0_0) := (blk_cell BK101.out 0).trans rfl
        have hfz11_0 := blk_frozen BK101.out 0
        go_wp2_with (first | ((with_reducible refine gate_callee (f := 32) rfl ?_); refine goesL_ (some 16) rfl rfl Try.func32 (by kernel_rfl) rfl #[.slice A0_0 l0_0.length c0_0] rfl (by (try simp only [yiy, yjy, yky]); first | done | rfl | (simp only [yly, ymy]; rfl)) ?_; (with_reducible refine (impl_size_Simpl_Face.calls _ _ l0_0 t103 _ ?side1 ?side2 A10.out).mono ?_); (case side1 => repeat (first | exact (Kd.C_below HR0_0.out HB.out) | (with_reducible refine Kd.C_alloc ?_ _) | (with_reducible refine Kd.C_drewN ?_ _) | (with_reducible refine Kd.C_drew ?_))); (case side2 => exact HC0_0.out); rintro e w' ⟨rfl, ⟨nd, rfl⟩⟩; refine ⟨_, rfl, ?_⟩))
        go_loopg [17] kj1 (fun kq v17 w' => ∃ (x17_2 : Int), v17 = .int .i64 x17_2 ∧ Aside0 (impl_isTriangulation.l0 kq t103 x17_2 l0_0 = some r) ∧ Aside0 (kq ≤ kj1) ∧ Aside0 (w'.heap[gb101]? = some (.cells #[(.slice A0_0 l0_0.length c0_0)] 30 (0, 0))) ∧ Aside0 (Below w.heap.size w w'))
        case atStart => exact ⟨(0), (by first | rfl | (simp; done) | (simp [*]; done)), H', ⟨yoy _⟩, ⟨by (with_reducible repeat (first | refine blk_drewN ?_ _ | refine blk_drew ?_ | refine blk_alloc ?_ _)); exact BK101.out⟩, ⟨by repeat (first | (with_reducible first | exact HB.out | apply below_alloc | apply pw_below_drewN | apply below_drew1 | refine below_set ?_ GE101.out) | exact HB.out)⟩⟩
        case round =>
          clear H'
          try clear p2
          try clear c3
          try clear c4
          try clear c4b0
          try clear c4b1
          try clear c5
          try clear c9
          try clear hcz11_0
          try clear hcz5_0
          try clear hcz7_0
          try clear hfz11_0
          try clear hfz5_0
          try clear hfz7_0
          try clear p2
          obtain ⟨x17_2, rfl, HA, HK2, BK101, HB⟩ := hrel
          cases gk with
          | zero => exact absurd HA.out (by simp [impl_isTriangulation.l0])
          | succ k2 =>
            have H := HA.out
            clear HA
            simp only [impl_isTriangulation.l0] at H
            by_cases c12 : x17_2 < t103
            · rw [if_pos c12] at H
              have c12b0 : decide (x17_2 < t103) = true := ygy c12
              clear c12
              have H' := Aside0.mk H
              clear H
              go_wp2
              go_loopg [20] k2 (fun kq v20 w' => ∃ (x20_3 : Int), v20 = .int .i64 x20_3 ∧ Aside0 (impl_isTriangulation.l1 kq x17_2 t103 x17_2 x20_3 l0_0 = some r) ∧ Aside0 (kq ≤ k2) ∧ Aside0 (w'.heap[gb101]? = some (.cells #[(.slice A0_0 l0_0.length c0_0)] 30 (0, 0))) ∧ Aside0 (Below w.heap.size w w'))
              case atStart => exact ⟨(0), (by first | rfl | (simp; done) | (simp [*]; done)), H', ⟨yoy _⟩, ⟨by (with_reducible repeat (first | refine blk_drewN ?_ _ | refine blk_drew ?_ | refine blk_alloc ?_ _)); exact BK101.out⟩, ⟨by repeat (first | (with_reducible first | exact HB.out | apply below_alloc | apply pw_below_drewN | apply below_drew1 | refine below_set ?_ GE101.out) | exact HB.out)⟩⟩
              case round =>
                clear H'
                try clear c1
                try clear p2
                try clear c3
                try clear c4
                try clear c4b0
                try clear c4b1
                try clear c5
                try clear c9
                try clear c12
                try clear c12b0
                try clear hcz11_0
                try clear hcz5_0
                try clear hcz7_0
                try clear hfz11_0
                try clear hfz5_0
                try clear hfz7_0
                try clear p2
                obtain ⟨x20_3, rfl, HA, HK3, BK101, HB⟩ := hrel
                cases gk with
                | zero => exact absurd HA.out (by simp [impl_isTriangulation.l1])
                | succ k3 =>
                  have H := HA.out
                  clear HA
                  simp only [impl_isTriangulation.l1] at H
                  by_cases c13 : x20_3 < 4
                  · rw [if_pos c13] at H
                    have c13b0 : decide (x20_3 < 4) = true := ygy c13
                    clear c13
                    replace H := ydy.mp H
                    obtain ⟨t104, A140, H⟩ := H
                    replace H : (if t104 = true then (impl_isTriangulation.l1 k3 x17_2 t103 x17_2 (wrap64 (x20_3 + 1)) l0_0) else (some false)) = some r := H
                    have A14 := Aside0.mk A140
                    clear A140
                    by_cases c15 : t104 = true
                    · subst c15
                      have H1 : (impl_isTriangulation.l1 k3 x17_2 t103 x17_2 (wrap64 (x20_3 + 1)) l0_0) = some r := by rw [if_pos rfl] at H; exact H
                      clear H
                      have H := H1
                      clear H1
                      have H' := Aside0.mk H
                      clear H
                      have hcz16_0 : wr.cell? ⟨gb101, 0, none⟩ = some (.slice A0_0 l0_0.length c0_0) := (blk_cell BK101.out 0).trans rfl
                      have hfz16_0 := blk_frozen BK101.out 0
                      go_wp2_with (first | ((with_reducible refine gate_callee (f := 73) rfl ?_); refine goesL_ (some 26) rfl rfl Try.func73 (by kernel_rfl) rfl #[.agg #[.slice A0_0 l0_0.length c0_0], .int .i64 x17_2, .int .i64 x20_3] rfl (by (try simp only [yiy, yjy, yky]); first | done | rfl | (simp only [yly, ymy]; rfl)) ?_; (with_reducible refine (impl_Triangulation_isGood.calls k3 _ _ l0_0 x17_2 x20_3 true _ ?side1 ?side2 A14.out).mono ?_); (case side1 => repeat (first | exact (Kd.C_below HR0_0.out HB.out) | (with_reducible refine Kd.C_alloc ?_ _) | (with_reducible refine Kd.C_drewN ?_ _) | (with_reducible refine Kd.C_drew ?_))); (case side2 => exact HC0_0.out); rintro e w17 ⟨rfl, hb⟩; refine ⟨_, rfl, ?_⟩; have n0_ := Aside0.mk (blk_below (g := gb101) (o := .cells #[.slice A0_0 l0_0.length c0_0] 30 (0, 0)) (by (with_reducible repeat (first | refine blk_drewN ?_ _ | refine blk_drew ?_ | refine blk_alloc ?_ _)); exact BK101.out) hb); have n1_ := Aside0.mk (below_step (by repeat (first | (with_reducible first | exact HB.out | apply below_alloc | apply pw_below_drewN | apply below_drew1 | refine below_set ?_ GE101.out) | exact HB.out)) hb); clear BK101; clear HB; have BK101 := n0_; have HB := n1_; clear n0_ n1_; (try clear hb); (try clear hb2); (try clear hk); (try clear hi)))
                      go_roundg k3
                      case measure => have := HJ1.out; have := HK2.out; have := HK3.out; omega
                      case rel => exact ⟨(wrap64 (x20_3 + 1)), (by first | rfl | (simp; done) | (simp [*]; done)), H', ⟨by have := HJ1.out; have := HK2.out; have := HK3.out; omega⟩, ⟨by (with_reducible repeat (first | refine blk_drewN ?_ _ | refine blk_drew ?_ | refine blk_alloc ?_ _)); exact BK101.out⟩, ⟨by repeat (first | (with_reducible first | exact HB.out | apply below_alloc | apply pw_below_drewN | apply below_drew1 | refine below_set ?_ GE101.out) | exact HB.out)⟩⟩
                    · replace c15 := Bool.eq_false_iff.mpr c15
                      subst c15
                      have H1 : (some false) = some r := by rw [if_neg (show ¬ (false = true) by decide)] at H; exact H
                      clear H
                      have H := H1
                      clear H1
                      obtain rfl := yey H
                      have hcz18_0 : wr.cell? ⟨gb101, 0, none⟩ = some (.slice A0_0 l0_0.length c0_0) := (blk_cell BK101.out 0).trans rfl
                      have hfz18_0 := blk_frozen BK101.out 0
                      go_wp2_with (first | ((with_reducible refine gate_callee (f := 73) rfl ?_); refine goesL_ (some 26) rfl rfl Try.func73 (by kernel_rfl) rfl #[.agg #[.slice A0_0 l0_0.length c0_0], .int .i64 x17_2, .int .i64 x20_3] rfl (by (try simp only [yiy, yjy, yky]); first | done | rfl | (simp only [yly, ymy]; rfl)) ?_; (with_reducible refine (impl_Triangulation_isGood.calls k3 _ _ l0_0 x17_2 x20_3 false _ ?side1 ?side2 A14.out).mono ?_); (case side1 => repeat (first | exact (Kd.C_below HR0_0.out HB.out) | (with_reducible refine Kd.C_alloc ?_ _) | (with_reducible refine Kd.C_drewN ?_ _) | (with_reducible refine Kd.C_drew ?_))); (case side2 => exact HC0_0.out); rintro e w19 ⟨rfl, hb⟩; refine ⟨_, rfl, ?_⟩; have n0_ := Aside0.mk (blk_below (g := gb101) (o := .cells #[.slice A0_0 l0_0.length c0_0] 30 (0, 0)) (by (with_reducible repeat (first | refine blk_drewN ?_ _ | refine blk_drew ?_ | refine blk_alloc ?_ _)); exact BK101.out) hb); have n1_ := Aside0.mk (below_step (by repeat (first | (with_reducible first | exact HB.out | apply below_alloc | apply pw_below_drewN | apply below_drew1 | refine below_set ?_ GE101.out) | exact HB.out)) hb); clear BK101; clear HB; have BK101 := n0_; have HB := n1_; clear n0_ n1_; (try clear hb); (try clear hb2); (try clear hk); (try clear hi)))
                      go_ret
                      exact ⟨by first | rfl | (simp [errW_none, errW_some] <;> rfl) | (simp [*, errW_none, errW_some] <;> rfl), by repeat (first | (with_reducible first | exact HB.out | apply below_alloc | apply pw_below_drewN | apply below_drew1 | refine below_set ?_ GE101.out) | exact HB.out)⟩
                  · rw [if_neg c13] at H
                    have c13b0 : decide (x20_3 < 4) = false := yhy c13
                    clear c13
                    have H' := Aside0.mk H
                    clear H
                    go_wp2
                    go_roundg k3
                    case measure => have := HJ1.out; have := HK2.out; have := HK3.out; omega
                    case rel => exact ⟨(wrap64 (x17_2 + 1)), (by first | rfl | (simp; done) | (simp [*]; done)), H', ⟨by have := HJ1.out; have := HK2.out; have := HK3.out; omega⟩, ⟨by (with_reducible repeat (first | refine blk_drewN ?_ _ | refine blk_drew ?_ | refine blk_alloc ?_ _)); exact BK101.out⟩, ⟨by repeat (first | (with_reducible first | exact HB.out | apply below_alloc | apply pw_below_drewN | apply below_drew1 | refine below_set ?_ GE101.out) | exact HB.out)⟩⟩
            · rw [if_neg c12] at H
              have c12b0 : decide (x17_2 < t103) = false := yhy c12
              clear c12
              obtain rfl := yey H
              go_wp2
              go_ret
              exact ⟨by first | rfl | (simp [errW_none, errW_some] <;> rfl) | (simp [*, errW_none, errW_some] <;> rfl), by repeat (first | (with_reducible first | exact HB.out | apply below_alloc | apply pw_below_drewN | apply below_drew1 | refine below_set ?_ GE101.out) | exact HB.out)⟩
/-! ### impl_isClosed: function 26 -/
def impl_isClosed.f (k : Nat) (l0_0 : List (List (SFace))) : Option (Bool) := (impl_isTriangulation.f k l0_0).bind fun t102 => (if t102 = true then (if (l0_0.length : Int) > 0 then ((impl_Triangulation_boundaryFaces.f k l0_0).bind fun t103 => (some ((t103.length : Int) == 0))) else (some false)) else (some false))
set_option maxHeartbeats 8000000 in
set_option maxRecDepth 100000 in
theorem impl_isClosed.calls (k : Nat) (A0_0 : Option Addr) (c0_0 : Nat) (l0_0 : List (List (SFace))) (r : Bool) (w : World) (hr0_0 : Kd.C (Kd.slice 47 kFace) w A0_0 l0_0.length l0_0) (hc0_0 : l0_0.length ≤ c0_0) (h : impl_isClosed.f k l0_0 = some r) :
    Calls Try.prog 26 #[.agg #[.slice A0_0 l0_0.length c0_0]] w fun e w' => e = .returned (.bool r) ∧ Below w.heap.size w w' := by
  have hu30 := Try.underlying30
  have HR0_0 := Aside0.mk hr0_0
  have HC0_0 := Aside0.mk hc0_0
  clear hr0_0 hc0_0
  have HB := Aside0.mk (Below.refl w.heap.size w)
  have H : ((impl_isTriangulation.f k l0_0).bind fun t102 => (if t102 = true then (if (l0_0.length : Int) > 0 then ((impl_Triangulation_boundaryFaces.f k l0_0).bind fun t103 => (some ((t103.length : Int) == 0))) else (some false)) else (some false))) = some r := h
  clear h
  replace H := ydy.mp H
  obtain ⟨t102, A20, H⟩ := H
  replace H : (if t102 = true then (if (l0_0.length : Int) > 0 then ((impl_Triangulation_boundaryFaces.f k l0_0).bind fun t103 => (some ((t103.length : Int) == 0))) else (some false)) else (some false)) = some r := H
  have A2 := Aside0.mk A20
  clear A20
  by_cases c3 : t102 = true
  · subst c3
    have H1 : (if (l0_0.length : Int) > 0 then ((impl_Triangulation_boundaryFaces.f k l0_0).bind fun t103 => (some ((t103.length : Int) == 0))) else (some false)) = some r := by rw [if_pos rfl] at H; exact H
    clear H
    have H := H1
    clear H1
    by_cases c4 : (l0_0.length : Int) > 0
    · rw [if_pos c4] at H
      have c4b0 : decide (0 < (l0_0.length : Int)) = true := ygy c4
      have c4b1 : decide (0 < l0_0.length) = true := ygy (by omega)
      clear c4
      replace H := ydy.mp H
      obtain ⟨t103, A50, H⟩ := H
      replace H : (some ((t103.length : Int) == 0)) = some r := H
      have A5 := Aside0.mk A50
      clear A50
      obtain rfl := yey H
      go_enter Try.func26, Try.ntmps26
      go_wp2_with (first | ((with_reducible refine gate_dst (N := 1) rfl ?_); (try (refine gate_guard (by rfl) ?_; dsimp only)); refine box_event ?hg (N := 1) ?hd (cs := #[.slice A0_0 l0_0.length c0_0]) (t := 30) ?hr ?_; (case hd => rfl); (case hg => rfl); (case hr => first | (go_simp; done) | (go_simp; rfl)); intro gb101 hg w6 hbox hb; have n0_ := Aside0.mk (below_step (by repeat (first | (with_reducible first | exact HB.out | apply below_alloc | apply pw_below_drewN | apply below_drew1) | exact HB.out)) hb); have n1_ := Aside0.mk (hbox); have n2_ := Aside0.mk ((by rw [hg]; exact (below_size (by repeat (first | (with_reducible first | exact HB.out | apply below_alloc | apply pw_below_drewN | apply below_drew1) | exact HB.out))) : w.heap.size ≤ gb101)); have n3_ := Aside0.mk ((by rw [hg]; exact (below_size (by repeat (first | (with_reducible first | exact HB.out | apply below_alloc | apply pw_below_drewN | apply below_drew1) | exact HB.out))) : w.heap.size ≤ gb101)); clear HB; have HB := n0_; have BK101 := n1_; have GW101 := n2_; have GE101 := n3_; clear n0_ n1_ n2_ n3_; clear hb hbox hg; have hcz7_0 : w6.cell? ⟨gb101, 0, none⟩ = some (.slice A0_0 l0_0.length c0_0) := (blk_cell BK101.out 0).trans rfl; have hfz7_0 := blk_frozen BK101.out 0) | ((with_reducible refine gate_callee (f := 50) rfl ?_); refine goesL_ (some 4) rfl rfl Try.func50 (by kernel_rfl) rfl #[.agg #[.slice A0_0 l0_0.length c0_0]] rfl (by (try simp only [yiy, yjy, yky]); first | done | rfl | (simp only [yly, ymy]; rfl)) ?_; (with_reducible refine (impl_isTriangulation.calls k _ _ l0_0 true _ ?side1 ?side2 A2.out).mono ?_); (case side1 => repeat (first | exact (Kd.C_below HR0_0.out HB.out) | (with_reducible refine Kd.C_alloc ?_ _) | (with_reducible refine Kd.C_drewN ?_ _) | (with_reducible refine Kd.C_drew ?_))); (case side2 => exact HC0_0.out); rintro e w8 ⟨rfl, hb⟩; refine ⟨_, rfl, ?_⟩; have n0_ := Aside0.mk (blk_below (g := gb101) (o := .cells #[.slice A0_0 l0_0.length c0_0] 30 (0, 0)) (by (with_reducible repeat (first | refine blk_drewN ?_ _ | refine blk_drew ?_ | refine blk_alloc ?_ _)); exact BK101.out) hb); have n1_ := Aside0.mk (below_step (by repeat (first | (with_reducible first | exact HB.out | apply below_alloc | apply pw_below_drewN | apply below_drew1 | refine below_set ?_ GE101.out) | exact HB.out)) hb); clear BK101; clear HB; have BK101 := n0_; have HB := n1_; clear n0_ n1_; (try clear hb); (try clear hb2); (try clear hk); (try clear hi); have hcz9_0 : w8.cell? ⟨gb101, 0, none⟩ = some (.slice A0_0 l0_0.length c0_0) := (blk_cell BK101.out 0).trans rfl; have hfz9_0 := blk_frozen BK101.out 0) | (go_at_call 51; (with_reducible refine (impl_Triangulation_boundaryFaces.calls k _ _ l0_0 t103 _ ?side1 ?side2 A5.out).mono ?_); (case side1 => repeat (first | exact (Kd.C_below HR0_0.out HB.out) | (with_reducible refine Kd.C_alloc ?_ _) | (with_reducible refine Kd.C_drewN ?_ _) | (with_reducible refine Kd.C_drew ?_))); (case side2 => exact HC0_0.out); rintro e w10 ⟨v104, rfl, ho0, hb⟩; have n0_ := Aside0.mk (Kd.S_lower ho0 (below_size (by repeat (first | (with_reducible first | exact HB.out | apply below_alloc | apply pw_below_drewN | apply below_drew1 | refine below_set ?_ GE101.out) | exact HB.out)))); have n1_ := Aside0.mk (blk_below (g := gb101) (o := .cells #[.slice A0_0 l0_0.length c0_0] 30 (0, 0)) (by (with_reducible repeat (first | refine blk_drewN ?_ _ | refine blk_drew ?_ | refine blk_alloc ?_ _)); exact BK101.out) hb); have n2_ := Aside0.mk (below_step (by repeat (first | (with_reducible first | exact HB.out | apply below_alloc | apply pw_below_drewN | apply below_drew1 | refine below_set ?_ GE101.out) | exact HB.out)) hb); clear BK101; clear HB; have HO105 := n0_; have BK101 := n1_; have HB := n2_; clear n0_ n1_ n2_; (try clear hb); (try clear hb2); (try clear hk); (try clear hi); (try clear ho0); obtain ⟨Ao11, co11, eo11⟩ := Kd.S_slice HO105.out; subst eo11))
      go_ret
      exact ⟨by first | rfl | (simp [errW_none, errW_some] <;> rfl) | (simp [*, errW_none, errW_some] <;> rfl), by repeat (first | (with_reducible first | exact HB.out | apply below_alloc | apply pw_below_drewN | apply below_drew1 | refine below_set ?_ GE101.out) | exact HB.out)⟩
    · rw [if_neg c4] at H
      have c4b0 : decide (0 < (l0_0.length : Int)) = false := yhy c4
      have c4b1 : decide (0 < l0_0.length) = false := yhy (by omega)
      clear c4
      obtain rfl := yey H
      go_enter Try.func26, Try.ntmps26
      go_wp2_with (first | ((with_reducible refine gate_dst (N := 1) rfl ?_); (try (refine gate_guard (by rfl) ?_; dsimp only)); refine box_event ?hg (N := 1) ?hd (cs := #[.slice A0_0 l0_0.length c0_0]) (t := 30) ?hr ?_; (case hd => rfl); (case hg => rfl); (case hr => first | (go_simp; done) | (go_simp; rfl)); intro gb101 hg w12 hbox hb; have n0_ := Aside0.mk (below_step (by repeat (first | (with_reducible first | exact HB.out | apply below_alloc | apply pw_below_drewN | apply below_drew1) | exact HB.out)) hb); have n1_ := Aside0.mk (hbox); have n2_ := Aside0.mk ((by rw [hg]; exact (below_size (by repeat (first | (with_reducible first | exact HB.out | apply below_alloc | apply pw_below_drewN | apply below_drew1) | exact HB.out))) : w.heap.size ≤ gb101)); have n3_ := Aside0.mk ((by rw [hg]; exact (below_size (by repeat (first | (with_reducible first | exact HB.out | apply below_alloc | apply pw_below_drewN | apply below_drew1) | exact HB.out))) : w.heap.size ≤ gb101)); clear HB; have HB := n0_; have BK101 := n1_; have GW101 := n2_; have GE101 := n3_; clear n0_ n1_ n2_ n3_; clear hb hbox hg; have hcz13_0 : w12.cell? ⟨gb101, 0, none⟩ = some (.slice A0_0 l0_0.length c0_0) := (blk_cell BK101.out 0).trans rfl; have hfz13_0 := blk_frozen BK101.out 0) | ((with_reducible refine gate_callee (f := 50) rfl ?_); refine goesL_ (some 4) rfl rfl Try.func50 (by kernel_rfl) rfl #[.agg #[.slice A0_0 l0_0.length c0_0]] rfl (by (try simp only [yiy, yjy, yky]); first | done | rfl | (simp only [yly, ymy]; rfl)) ?_; (with_reducible refine (impl_isTriangulation.calls k _ _ l0_0 true _ ?side1 ?side2 A2.out).mono ?_); (case side1 => repeat (first | exact (Kd.C_below HR0_0.out HB.out) | (with_reducible refine Kd.C_alloc ?_ _) | (with_reducible refine Kd.C_drewN ?_ _) | (with_reducible refine Kd.C_drew ?_))); (case side2 => exact HC0_0.out); rintro e w14 ⟨rfl, hb⟩; refine ⟨_, rfl, ?_⟩; have n0_ := Aside0.mk (blk_below (g := gb101) (o := .cells #[.slice A0_0 l0_0.length c0_0] 30 (0, 0)) (by (with_reducible repeat (first | refine blk_drewN ?_ _ | refine blk_drew ?_ | refine blk_alloc ?_ _)); exact BK101.out) hb); have n1_ := Aside0.mk (below_step (by repeat (first | (with_reducible first | exact HB.out | apply below_alloc | apply pw_below_drewN | apply below_drew1 | refine below_set ?_ GE101.out) | exact HB.out)) hb); clear BK101; clear HB; have BK101 := n0_; have HB := n1_; clear n0_ n1_; (try clear hb); (try clear hb2); (try clear hk); (try clear hi); have hcz15_0 : w14.cell? ⟨gb101, 0, none⟩ = some (.slice A0_0 l0_0.length c0_0) := (blk_cell BK101.out 0).trans rfl; have hfz15_0 := blk_frozen BK101.out 0))
      go_ret
      exact ⟨by first | rfl | (simp [errW_none, errW_some] <;> rfl) | (simp [*, errW_none, errW_some] <;> rfl), by repeat (first | (with_reducible first | exact HB.out | apply below_alloc | apply pw_below_drewN | apply below_drew1 | refine below_set ?_ GE101.out) | exact HB.out)⟩
  · replace c3 := Bool.eq_false_iff.mpr c3
    subst c3
    have H1 : (some false) = some r := by rw [if_neg (show ¬ (false = true) by decide)] at H; exact H
    clear H
    have H := H1
    clear H1
    obtain rfl := yey H
    go_enter Try.func26, Try.ntmps26
    go_wp2_with (first | ((with_reducible refine gate_dst (N := 1) rfl ?_); (try (refine gate_guard (by rfl) ?_; dsimp only)); refine box_event ?hg (N := 1) ?hd (cs := #[.slice A0_0 l0_0.length c0_0]) (t := 30) ?hr ?_; (case hd => rfl); (case hg => rfl); (case hr => first | (go_simp; done) | (go_simp; rfl)); intro gb101 hg w16 hbox hb; have n0_ := Aside0.mk (below_step (by repeat (first | (with_reducible first | exact HB.out | apply below_alloc | apply pw_below_drewN | apply below_drew1) | exact HB.out)) hb); have n1_ := Aside0.mk (hbox); have n2_ := Aside0.mk ((by rw [hg]; exact (below_size (by repeat (first | (with_reducible first | exact HB.out | apply below_alloc | apply pw_below_drewN | apply below_drew1) | exact HB.out))) : w.heap.size ≤ gb101)); have n3_ := Aside0.mk ((by rw [hg]; exact (below_size (by repeat (first | (with_reducible first | exact HB.out | apply below_alloc | apply pw_below_drewN | apply below_drew1) | exact HB.out))) : w.heap.size ≤ gb101)); clear HB; have HB := n0_; have BK101 := n1_; have GW101 := n2_; have GE101 := n3_; clear n0_ n1_ n2_ n3_; clear hb hbox hg; have hcz17_0 : w16.cell? ⟨gb101, 0, none⟩ = some (.slice A0_0 l0_0.length c0_0) := (blk_cell BK101.out 0).trans rfl; have hfz17_0 := blk_frozen BK101.out 0) | ((with_reducible refine gate_callee (f := 50) rfl ?_); refine goesL_ (some 4) rfl rfl Try.func50 (by kernel_rfl) rfl #[.agg #[.slice A0_0 l0_0.length c0_0]] rfl (by (try simp only [yiy, yjy, yky]); first | done | rfl | (simp only [yly, ymy]; rfl)) ?_; (with_reducible refine (impl_isTriangulation.calls k _ _ l0_0 false _ ?side1 ?side2 A2.out).mono ?_); (case side1 => repeat (first | exact (Kd.C_below HR0_0.out HB.out) | (with_reducible refine Kd.C_alloc ?_ _) | (with_reducible refine Kd.C_drewN ?_ _) | (with_reducible refine Kd.C_drew ?_))); (case side2 => exact HC0_0.out); rintro e w18 ⟨rfl, hb⟩; refine ⟨_, rfl, ?_⟩; have n0_ := Aside0.mk (blk_below (g := gb101) (o := .cells #[.slice A0_0 l0_0.length c0_0] 30 (0, 0)) (by (with_reducible repeat (first | refine blk_drewN ?_ _ | refine blk_drew ?_ | refine blk_alloc ?_ _)); exact BK101.out) hb); have n1_ := Aside0.mk (below_step (by repeat (first | (with_reducible first | exact HB.out | apply below_alloc | apply pw_below_drewN | apply below_drew1 | refine below_set ?_ GE101.out) | exact HB.out)) hb); clear BK101; clear HB; have BK101 := n0_; have HB := n1_; clear n0_ n1_; (try clear hb); (try clear hb2); (try clear hk); (try clear hi)))
    go_ret
    exact ⟨by first | rfl | (simp [errW_none, errW_some] <;> rfl) | (simp [*, errW_none, errW_some] <;> rfl), by repeat (first | (with_reducible first | exact HB.out | apply below_alloc | apply pw_below_drewN | apply below_drew1 | refine below_set ?_ GE101.out) | exact HB.out)⟩
/-! ### slices_Index_Sint64: function 28 -/
def slices_Index_Sint64.l0 : Nat → List Int → Int → Int → Int → Option (Int)
  | 0, _, _, _, _ => none
  | k + 1, x0, x1, x7, x8 => if x8 < x7 then (if 0 ≤ x8 then (if x8 < (x0.length : Int) then (if x1 = (rd x0 x8) then (some x8) else (slices_Index_Sint64.l0 k x0 x1 x7 (wrap64 (x8 + 1)))) else (none)) else (none)) else (some (-1))
def slices_Index_Sint64.f (k : Nat) (l0 : List Int) (a1 : Int) : Option (Int) := slices_Index_Sint64.l0 k l0 a1 (l0.length : Int) 0
set_option maxHeartbeats 8000000 in
set_option maxRecDepth 100000 in
theorem slices_Index_Sint64.calls (k : Nat) (A0 : Option Addr) (c0 : Nat) (l0 : List Int) (a1 : Int) (r : Int) (w : World) (hr0 : Kd.C (Kd.int .i64) w A0 l0.length l0) (hc0 : l0.length ≤ c0) (h : slices_Index_Sint64.f k l0 a1 = some r) :
    Calls Try.prog 28 #[.slice A0 l0.length c0, .int .i64 a1] w fun e w' => e = .returned (.int .i64 r) ∧ Drawn0 w w' := by
  have HR0 := Aside0.mk hr0
  have HC0 := Aside0.mk hc0
  clear hr0 hc0
  have H : (slices_Index_Sint64.l0 k l0 a1 (l0.length : Int) 0) = some r := h
  clear h
  have H' := Aside0.mk H
  clear H
  go_enter Try.func28, Try.ntmps28
  go_wp2
  go_loopg [8] k (fun kq v8 w' => ∃ (x8_1 : Int), v8 = .int .i64 x8_1 ∧ Aside0 (slices_Index_Sint64.l0 kq l0 a1 (l0.length : Int) x8_1 = some r) ∧ Aside0 (kq ≤ k) ∧ Drawn0 w w')
  case atStart => exact ⟨(0), (by first | rfl | (simp; done) | (simp [*]; done)), H', ⟨yoy _⟩, by repeat (first | exact Drawn0.refl _ | apply Drawn0.step)⟩
  case round =>
    clear H'
    try clear c2
    try clear p2
    obtain ⟨x8_1, rfl, HA, HK1, ⟨m1, rfl⟩⟩ := hrel
    cases gk with
    | zero => exact absurd HA.out (by simp [slices_Index_Sint64.l0])
    | succ k1 =>
      have H := HA.out
      clear HA
      simp only [slices_Index_Sint64.l0] at H
      by_cases c3 : x8_1 < (l0.length : Int)
      · rw [if_pos c3] at H
        have c3b0 : decide (x8_1 < (l0.length : Int)) = true := ygy c3
        clear c3
        by_cases c4 : 0 ≤ x8_1
        · rw [if_pos c4] at H
          have c4b0 : decide (0 ≤ x8_1) = true := ygy c4
          clear c4
          by_cases c5 : x8_1 < (l0.length : Int)
          · rw [if_pos c5] at H
            have c5b0 : decide (x8_1 < (l0.length : Int)) = true := ygy c5
            clear c5
            by_cases c6 : a1 = (rd l0 x8_1)
            · rw [if_pos c6] at H
              have c6b0 : (a1 == (rd l0 x8_1)) = true := beq_iff_eq.mpr c6
              have c6b1 : (a1 != (rd l0 x8_1)) = false := bne_eq_false_iff_eq.mpr c6
              clear c6
              obtain rfl := yey H
              have p101 : 0 ≤ (x8_1 : Int) := of_decide_eq_true (by first | (with_reducible assumption) | assumption)
              have q101 : x8_1 < (l0.length : Int) := of_decide_eq_true (by first | (with_reducible assumption) | assumption)
              obtain ⟨ad101, e101, hx101_0⟩ := Kd.at_int HR0.out x8_1 p101 q101
              cases e101
              replace p101 := eq_true p101
              replace q101 := eq_true q101
              go_wp2
              go_ret
              exact ⟨by first | rfl | (simp; done) | (simp [*]; done), by repeat (first | exact Drawn0.refl _ | apply Drawn0.step)⟩
            · rw [if_neg c6] at H
              have c6b0 : (a1 == (rd l0 x8_1)) = false := beq_eq_false_iff_ne.mpr c6
              have c6b1 : (a1 != (rd l0 x8_1)) = true := bne_iff_ne.mpr c6
              have H' := Aside0.mk H
              clear H
              have p101 : 0 ≤ (x8_1 : Int) := of_decide_eq_true (by first | (with_reducible assumption) | assumption)
              have q101 : x8_1 < (l0.length : Int) := of_decide_eq_true (by first | (with_reducible assumption) | assumption)
              obtain ⟨ad101, e101, hx101_0⟩ := Kd.at_int HR0.out x8_1 p101 q101
              cases e101
              replace p101 := eq_true p101
              replace q101 := eq_true q101
              go_wp2
              go_roundg k1
              case measure => have := HK1.out; omega
              case rel => exact ⟨(wrap64 (x8_1 + 1)), (by first | rfl | (simp; done) | (simp [*]; done)), H', ⟨by have := HK1.out; omega⟩, by repeat (first | exact Drawn0.refl _ | apply Drawn0.step)⟩
          · rw [if_neg c5] at H
            exact absurd H (by simp)
        · rw [if_neg c4] at H
          exact absurd H (by simp)
      · rw [if_neg c3] at H
        have c3b0 : decide (x8_1 < (l0.length : Int)) = false := yhy c3
        clear c3
        obtain rfl := yey H
        go_wp2
        go_ret
        exact ⟨by first | rfl | (simp; done) | (simp [*]; done), by repeat (first | exact Drawn0.refl _ | apply Drawn0.step)⟩
/-! matchingNumber: the number of a matching. -/
/-- One round: what is left is not empty, its first element's partner stands at i. -/
def mnI (k : Nat) (ps left : List Int) : Option Int := if 0 ≤ rd left 0 ∧ rd left 0 < (ps.length : Int) then slices_Index_Sint64.f k left (rd ps (rd left 0)) else none
def mnQ (ps : List Int) : Nat → Int → List Int → Option Int
  | 0, _, _ => none
  | k + 1, out, left => if left.length = 0 then some out else (mnI k ps left).bind fun i => if 0 ≤ i ∧ i < (left.length : Int) ∧ 2 ≤ left.length then
      (impl_matchings.f k (wrap64 ((left.length : Int) - 2))).bind fun m => mnQ ps k (wrap64 (out + wrap64 (wrap64 (i - 1) * m))) ((left.eraseIdx i.toNat).drop 1) else none
def impl_matchingNumber.f (k : Nat) (ps : List Int) : Option Int := (impl_counting.f k (ps.length : Int)).bind fun l => mnQ ps k 0 l
set_option maxHeartbeats 8000000 in
set_option maxRecDepth 100000 in
theorem impl_matchingNumber.calls (k : Nat) (A0 : Option Addr) (c0 : Nat) (l0 : List Int) (r : Int) (w : World) (hr0 : Kd.C (Kd.int .i64) w A0 l0.length l0) (hc0 : l0.length ≤ c0) (h : impl_matchingNumber.f k l0 = some r) :
    Calls Try.prog 30 #[.slice A0 l0.length c0] w fun e w' => e = .returned (.int .i64 r) ∧ Below w.heap.size w w' := by
  unfold impl_matchingNumber.f at h
  obtain ⟨cl, hcl, h⟩ := ydy.mp h
  have HR := Aside0.mk hr0
  have HC := Aside0.mk hc0
  have HCL := Aside0.mk hcl
  have H' := Aside0.mk h
  have HB := Aside0.mk (Below.refl w.heap.size w)
  clear hr0 hc0 hcl h
  go_enter Try.func30, Try.ntmps30
  go_wp2_with fail
  refine (impl_size_int64.calls A0 c0 l0 (l0.length : Int) _ (Kd.C_below HR.out HB.out) HC.out rfl).mono ?_
  rintro e w1 ⟨rfl, hd⟩
  have HB1 := Aside0.mk (below_step HB.out (Drawn0.below hd))
  clear hd HB
  go_wp2_with fail
  refine (impl_counting.calls k (l0.length : Int) cl _ HCL.out).mono ?_
  rintro e w2 ⟨v4, rfl, ho, hb⟩
  have HB := Aside0.mk (below_step HB1.out hb)
  have HL := Aside0.mk (rowAt_of_R (Kd.R_lower ho (below_size HB1.out)))
  clear ho hb HB1 HCL
  go_wp2
  go_loopg [3, 4] k (fun kq v3 v4 w' => ∃ (out : Int) (left : List Int), v3 = .int .i64 out ∧ Aside0 (kq ≤ k) ∧ Aside0 (mnQ l0 kq out left = some r) ∧ Aside0 (RowAt w.heap.size w' v4 left) ∧ Aside0 (Below w.heap.size w w'))
  case atStart => exact ⟨0, cl, rfl, ⟨yoy _⟩, H', HL, HB⟩
  case round =>
    clear H' HL HB
    obtain ⟨out, left, rfl, HK, HQ, HL, HB⟩ := hrel
    obtain ⟨A, cap, hv, hlc, hcm, hrow⟩ := HL.out.ex
    subst hv
    cases gk with
    | zero => exact absurd HQ.out (by simp [mnQ])
    | succ gk =>
      have HQ2 := HQ.out
      rw [mnQ] at HQ2
      clear HQ
      by_cases hz : left.length = 0
      · rw [if_pos hz] at HQ2
        have e_ := yey HQ2
        subst e_
        clear HQ2
        have hz0 : ¬ (0 : Int) < (left.length : Int) := by omega
        go_wp2
        go_ret
        exact ⟨rfl, HB.out⟩
      · rw [if_neg hz] at HQ2
        obtain ⟨i, hi, HQ2⟩ := ydy.mp HQ2
        by_cases hc : 0 ≤ i ∧ i < (left.length : Int) ∧ 2 ≤ left.length
        case neg => rw [if_neg hc] at HQ2; cases HQ2
        rw [if_pos hc] at HQ2
        obtain ⟨m, hm, HQ2⟩ := ydy.mp HQ2
        obtain ⟨hi0, hi1, hl2⟩ := hc
        rw [show wrap64 ((left.length : Int) - 2) = (left.length : Int) - 2 by unfold wrap64; omega] at hm
        unfold mnI at hi
        by_cases hp : 0 ≤ rd left 0 ∧ rd left 0 < (l0.length : Int)
        case neg => rw [if_neg hp] at hi; cases hi
        rw [if_pos hp] at hi
        obtain ⟨hp0, hp1⟩ := hp
        obtain ⟨g, o, rfl, hg, hH⟩ := hrow (by omega)
        obtain ⟨adp, ep, hxp⟩ := Kd.at_int HR.out (rd left 0) hp0 hp1
        subst ep
        replace hxp := (HB.out.cell (yny w _ hxp)).trans hxp
        have hx0 : wr.cell? ⟨g, o, none⟩ = some (.int .i64 (rd left 0)) := by
          have h2 := (hH 0 (by simp; omega)).1
          rw [Nat.add_zero] at h2
          rw [h2]
          cases left with
          | nil => exact absurd rfl hz
          | cons x xs => simp [rd]
        have HCV := Aside0.mk (holds_reads hH (by omega))
        have HH := Aside0.mk hH
        have HG := Aside0.mk hg
        have HQ := Aside0.mk HQ2
        have HI := Aside0.mk hi
        have HM := Aside0.mk hm
        have hzp : (0 : Int) < (left.length : Int) := by omega
        have HLC := Aside0.mk (And.intro hlc hcm)
        clear HQ2 hi hm hH hg hrow HL hlc hcm
        generalize rd left 0 = x at hp0 hp1 hxp hx0 HI
        generalize rd l0 x = y at hxp HI
        go_wp2_with fail
        obtain ⟨n, rfl⟩ := Int.eq_ofNat_of_zero_le hi0
        refine (slices_Index_Sint64.calls gk _ cap left y (n : Int) _ HCV.out HLC.out.1 HI.out).mono ?_
        rintro e w1 ⟨rfl, hd⟩
        have hb := Drawn0.below hd
        have HB1 := Aside0.mk (below_step HB.out hb)
        have HH1 := Aside0.mk (holds_below HH.out hb)
        have HCV1 := Aside0.mk (Kd.C_below HCV.out hb)
        clear hd hb HB HH HCV hxp hx0 HI
        have hl9 : left.length ≤ 9223372036854775807 := by have := HLC.out; omega
        have hnw : wrap64 ((n : Int) - 1) = (n : Int) - 1 := (by unfold wrap64; omega)
        go_wp2_with fail
        refine (impl_size_int64.calls _ cap left (left.length : Int) _ HCV1.out HLC.out.1 rfl).mono ?_
        rintro e w2 ⟨rfl, hd⟩
        have hb := Drawn0.below hd
        have HB2 := Aside0.mk (below_step HB1.out hb)
        have HH2 := Aside0.mk (holds_below HH1.out hb)
        clear hd hb HB1 HH1 HCV1
        go_wp2_with fail
        refine (impl_matchings.calls gk _ m _ HM.out).mono ?_
        rintro e w3 ⟨rfl, hd⟩
        have hb := Drawn0.below hd
        have HB3 := Aside0.mk (below_step HB2.out hb)
        have HH3 := Aside0.mk (holds_below HH2.out hb)
        clear hd hb HB2 HH2 HM
        have hnw1 : wrap64 ((n : Int) + 1) = (n : Int) + 1 := (by unfold wrap64; omega)
        have hne : n < left.length := by omega
        obtain ⟨n1, hn1⟩ : ∃ n1, left.length - 1 = n1 := ⟨_, rfl⟩
        have hln : (left.eraseIdx n).length = n1 := by rw [List.length_eraseIdx, if_pos hne]; exact hn1
        have hs1 : (1 : Int) ≤ (n1 : Int) := by omega
        obtain ⟨iz, hiz, _, hsz, _⟩ := info_parts info2
        have hcut := cut_from (P := Try.prog) 44 2 .i64 Try.underlying44 hiz 1 hsz (some ⟨g, o, none⟩) n1 cap 1 (by omega) hs1
        obtain ⟨A5, hA5⟩ : ∃ A1, A1 = (if cap = (1 : Int).toNat then (some ⟨g, o, none⟩) else (some ⟨g, o, none⟩ : Option Addr).map (·.add ((1 : Int).toNat * 1))) := ⟨_, rfl⟩
        obtain ⟨c5, hc5⟩ : ∃ c1, c1 = cap - (1 : Int).toNat := ⟨_, rfl⟩
        rw [← hA5, ← hc5] at hcut
        have HA5 := Aside0.mk (And.intro hA5 hc5)
        clear hA5 hc5
        go_wp2_with fail
        refine (slices_Delete_at g o cap n left _ HH3.out HLC.out.1 HLC.out.2 hne).mono ?_
        rintro e w4 ⟨rfl, hH4, hgr⟩
        have HB4 := Aside0.mk (pw_below_grown HB3.out (some g) (below_size HB3.out) hgr (fun k hk => by cases hk; exact HG.out))
        rw [hn1]
        have HQ3 := Aside0.mk (show mnQ l0 gk (wrap64 (out + wrap64 (((n : Int) - 1) * m))) ((left.eraseIdx n).drop 1) = some r by have h9 := HQ.out; rw [hnw, Int.toNat_natCast] at h9; exact h9)
        have HL5 : Aside0 (RowAt w.heap.size w4 (.slice A5 (n1 - (1 : Int).toNat) c5) ((left.eraseIdx n).drop 1)) := ⟨by
          obtain ⟨e5, e6⟩ := HA5.out
          subst e5 e6
          have h1 : (1 : Int).toNat = 1 := rfl
          rw [h1]
          have hlen : ((left.eraseIdx n).drop 1).length = n1 - 1 := by rw [yly, hln]
          have hlc := HLC.out
          refine ⟨_, _, by rw [hlen], by rw [hlen]; omega, by omega, fun hpos => ⟨g, o + 1, ?_, HG.out, ?_⟩⟩
          · rw [if_neg (by omega)]
            show some ((⟨g, o, none⟩ : Addr).add (1 * 1)) = _
            congr 1
          · cases hle : left.eraseIdx n with
            | nil => rw [hle] at hlen; rw [hle] at hpos; simp at hpos
            | cons y ys => rw [hle] at hH4; exact holds_tail hH4⟩
        clear hgr HB3 HH3 hH4 HQ
        go_wp2
        go_roundg gk
        case measure => omega
        case rel => exact ⟨_, _, rfl, ⟨by have := HK.out; omega⟩, HQ3, HL5, HB4⟩
/-! ### impl_GluingNumber: function 9 -/
mutual
def impl_GluingNumber.l0 : Nat → List Int → Int → List (List (SFace)) → Int → Int → List (List (SFace)) → Option (Int × Int)
 | 0, _, _, _, _, _, _ => none
 | k + 1, x4, x5, x22, x23, x24, x102000 => if x24 < x23 then (if 0 ≤ x24 then (if x24 < (x22.length : Int) then (impl_GluingNumber.l1 k x4 x5 x24 x22 x23 x24 (rd_LFace x22 x24) ((rd_LFace x22 x24).length : Int) 0 x102000) else (none)) else (none)) else ((impl_matchingNumber.f k x4).bind fun t103 => ((impl_size_Simpl_Face.f x102000).bind fun t104 => ((impl_gluings.f k t104).bind fun t105 => (some (wrap64 ((wrap64 (t103 * t105)) + x5), 0)))))
def impl_GluingNumber.l1 : Nat → List Int → Int → Int → List (List (SFace)) → Int → Int → List (SFace) → Int → Int → List (List (SFace)) → Option (Int × Int)
 | 0, _, _, _, _, _, _, _, _, _, _ => none
 | k + 1, x4, x5, x6, x22, x23, x24, x29, x30, x31, x102000 => if x31 < x30 then (if 0 ≤ x31 then (if x31 < (x29.length : Int) then ((impl_Face_target.f ((rd_Face x29 x31).f0) ((rd_Face x29 x31).f1) x31).bind fun t109 => (if x4.length < 17592186044416 then ((some (x4 ++ [wrap64 ((wrap64 (4 * ((rd_Face x29 x31).f0))) + t109)] : List Int)).bind fun y110 => (if (wrap64 ((wrap64 (4 * x6)) + x31)) < (wrap64 ((wrap64 (4 * ((rd_Face x29 x31).f0))) + t109)) then ((impl_mapping.f (Int.tmod (wrap64 ((wrap64 (4 * x6)) + x31)) 4) (Int.tmod (wrap64 ((wrap64 (4 * ((rd_Face x29 x31).f0))) + t109)) 4)).bind fun t113 => ((slices_Index_Sint64.f k t113 ((rd_Face x29 x31).f1)).bind fun t116 => (impl_GluingNumber.l1 k y110 (wrap64 ((wrap64 (6 * x5)) + t116)) x6 x22 x23 x24 x29 x30 (wrap64 (x31 + 1)) x102000))) else (impl_GluingNumber.l1 k y110 x5 x6 x22 x23 x24 x29 x30 (wrap64 (x31 + 1)) x102000))) else (none))) else (none)) else (none)) else (impl_GluingNumber.l0 k x4 x5 x22 x23 (wrap64 (x24 + 1)) x102000)
end
def impl_GluingNumber.f (k : Nat) (l0_0 : List (List (SFace))) : Option (Int × Int) := (impl_isClosed.f k l0_0).bind fun t102 => (if t102 = true then (if (l0_0.length : Int) > 4 then (some (0, 2)) else (impl_GluingNumber.l0 k ([] : List Int) 0 l0_0 (l0_0.length : Int) 0 l0_0)) else (some (0, 1)))
def impl_GluingNumber.T13 : Bool × List (List Nat × List Nat) := (true, [([], []), ([0], [0]), ([], []), ([1, 2], [1, 2]), ([], []), ([4], [4]), ([5], [5]), ([], []), ([], []), ([7, 8], [7, 8]), ([6, 9], [6, 9]), ([3, 9, 0, 1, 2, 3], [3]), ([10, 11, 0, 1, 2, 3, 4, 5, 6, 7, 8, 9, 10, 11], [10])])
def impl_GluingNumber.B13 : List Nat := [0, 1, 0, 7, 0, 16, 48, 0, 0, 384, 1008, 911, 4095]
theorem impl_GluingNumber.tab13 : rtab .any (opsOf Try.f9 13) = impl_GluingNumber.T13 := by kernel_rfl
theorem impl_GluingNumber.bits13 : waitsOk impl_GluingNumber.T13.2 impl_GluingNumber.B13 = true := by kernel_rfl
def impl_GluingNumber.T16 : Bool × List (List Nat × List Nat) := (true, [([], []), ([0], [0]), ([], []), ([2], [2]), ([], []), ([4], [4]), ([3, 5], [3, 5]), ([], []), ([7], [7]), ([6, 8, 6], [6, 8]), ([1, 9], [1, 9]), ([10, 9, 0, 1, 2, 3, 4, 5, 6, 7, 8, 9, 10], [0, 10])])
def impl_GluingNumber.B16 : List Nat := [0, 1, 0, 4, 0, 16, 60, 0, 128, 508, 1023, 2047]
theorem impl_GluingNumber.tab16 : rtab .any (opsOf Try.f9 16) = impl_GluingNumber.T16 := by kernel_rfl
theorem impl_GluingNumber.bits16 : waitsOk impl_GluingNumber.T16.2 impl_GluingNumber.B16 = true := by kernel_rfl
def impl_GluingNumber.T19 : Bool × List (List Nat × List Nat) := (true, [([], []), ([0], [0]), ([], []), ([2], [2]), ([3, 1], [3]), ([4, 4], [4]), ([1, 5], [1, 5]), ([], []), ([6, 7], [6, 7]), ([8, 5, 0, 1, 2, 3, 4, 5, 6, 7, 8], [8]), ([9, 0, 1, 2, 3, 4, 5, 6, 7, 8, 9], [])])
def impl_GluingNumber.B19 : List Nat := [0, 1, 0, 4, 15, 31, 63, 0, 255, 511, 1023]
theorem impl_GluingNumber.tab19 : rtab .any (opsOf Try.f9 19) = impl_GluingNumber.T19 := by kernel_rfl
theorem impl_GluingNumber.bits19 : waitsOk impl_GluingNumber.T19.2 impl_GluingNumber.B19 = true := by kernel_rfl
set_option maxHeartbeats 8000000 in
set_option maxRecDepth 100000 in
theorem impl_GluingNumber.calls (k : Nat) (A0_0 : Option Addr) (c0_0 : Nat) (l0_0 : List (List (SFace))) (r1 : Int) (r2 : Int) (w : World) (hr0_0 : Kd.C (Kd.slice 47 kFace) w A0_0 l0_0.length l0_0) (hc0_0 : l0_0.length ≤ c0_0) (h : impl_GluingNumber.f k l0_0 = some (r1, r2)) :
 Calls Try.prog 9 #[.agg #[.slice A0_0 l0_0.length c0_0]] w fun e w' => e = .returned (.tuple #[.int .i64 r1, .int .i64 r2]) ∧ Below w.heap.size w w' := by
 have hu30 := Try.underlying30
 have hu47 := Try.underlying47
 have HR0_0 := Aside0.mk hr0_0
 have HC0_0 := Aside0.mk hc0_0
 clear hr0_0 hc0_0
 have HB := Aside0.mk (Below.refl w.heap.size w)
 have H : ((impl_isClosed.f k l0_0).bind fun t102 => (if t102 = true then (if (l0_0.length : Int) > 4 then (some (0, 2)) else (impl_GluingNumber.l0 k ([] : List Int) 0 l0_0 (l0_0.length : Int) 0 l0_0)) else (some (0, 1)))) = some (r1, r2) := h
 clear h
 replace H := ydy.mp H
 obtain ⟨t102, A20, H⟩ := H
 replace H : (if t102 = true then (if (l0_0.length : Int) > 4 then (some (0, 2)) else (impl_GluingNumber.l0 k ([] : List Int) 0 l0_0 (l0_0.length : Int) 0 l0_0)) else (some (0, 1))) = some (r1, r2) := H
 have A2 := Aside0.mk A20
 clear A20
 by_cases c3 : t102 = true
 rotate_left
 next =>
  replace c3 := Bool.eq_false_iff.mpr c3
  subst c3
  have H1 : (some (0, 1)) = some (r1, r2) := by rw [if_neg (show ¬ (false = true) by decide)] at H; exact H
  clear H
  have H := H1
  clear H1
  simp only [Option.some.injEq, Prod.mk.injEq] at H
  obtain ⟨rfl, rfl⟩ := H
  go_enter Try.func9, Try.ntmps9
  go_wp2_with (first | ((with_reducible refine gate_dst (N := 1) rfl ?_); refine box_event ?hg (N := 1) ?hd (cs := #[.slice A0_0 l0_0.length c0_0]) (t := 30) ?hr ?_; (case hd => rfl); (case hg => rfl); (case hr => first | (go_simp; done) | (go_simp; rfl)); intro gb101 hg w47 hbox hb; have n0_ := Aside0.mk (below_step (by repeat (first | (with_reducible first | exact HB.out | apply below_alloc | apply pw_below_drewN | apply below_drew1) | exact HB.out)) hb); have n1_ := Aside0.mk (hbox); have n2_ := Aside0.mk ((by rw [hg]; exact (below_size (by repeat (first | (with_reducible first | exact HB.out | apply below_alloc | apply pw_below_drewN | apply below_drew1) | exact HB.out))) : w.heap.size ≤ gb101)); have n3_ := Aside0.mk ((by rw [hg]; exact (below_size (by repeat (first | (with_reducible first | exact HB.out | apply below_alloc | apply pw_below_drewN | apply below_drew1) | exact HB.out))) : w.heap.size ≤ gb101)); clear HB; have HB := n0_; have BK101 := n1_; have GW101 := n2_; have GE101 := n3_; clear n0_ n1_ n2_ n3_; clear hb hbox hg; have hcz48_0 : w47.cell? ⟨gb101, 0, none⟩ = some (.slice A0_0 l0_0.length c0_0) := (blk_cell BK101.out 0).trans rfl; have hfz48_0 := blk_frozen BK101.out 0) | ((with_reducible refine gate_callee (f := 26) rfl ?_); refine goesL_ (some 14) rfl rfl Try.func26 (by kernel_rfl) rfl #[.agg #[.slice A0_0 l0_0.length c0_0]] rfl (by (try simp only [yiy, yjy, yky]); first | done | rfl | (simp only [yly, ymy]; rfl)) ?_; (with_reducible refine (impl_isClosed.calls k _ _ l0_0 false _ ?side1 ?side2 A2.out).mono ?_); (case side1 => repeat (first | exact (Kd.C_below HR0_0.out HB.out) | (with_reducible refine Kd.C_alloc ?_ _) | (with_reducible refine Kd.C_drewN ?_ _) | (with_reducible refine Kd.C_drew ?_))); (case side2 => exact HC0_0.out); rintro e w49 ⟨rfl, hb⟩; refine ⟨_, rfl, ?_⟩; have n0_ := Aside0.mk (blk_below (g := gb101) (o := .cells #[.slice A0_0 l0_0.length c0_0] 30 (0, 0)) (by (with_reducible repeat (first | refine blk_drewN ?_ _ | refine blk_drew ?_ | refine blk_alloc ?_ _)); exact BK101.out) hb); have n1_ := Aside0.mk (below_step (by repeat (first | (with_reducible first | exact HB.out | apply below_alloc | apply pw_below_drewN | apply below_drew1 | refine below_set ?_ GE101.out) | exact HB.out)) hb); clear BK101; clear HB; have BK101 := n0_; have HB := n1_; clear n0_ n1_; (try clear hb); (try clear hb2); (try clear hk); (try clear hi)))
  go_ret2
  exact ⟨by first | rfl | (simp [errW_none, errW_some] <;> rfl) | (simp [*, errW_none, errW_some] <;> rfl), by repeat (first | (with_reducible first | exact HB.out | apply below_alloc | apply pw_below_drewN | apply below_drew1 | refine below_set ?_ GE101.out) | exact HB.out)⟩
 subst c3
 have H1 : (if (l0_0.length : Int) > 4 then (some (0, 2)) else (impl_GluingNumber.l0 k ([] : List Int) 0 l0_0 (l0_0.length : Int) 0 l0_0)) = some (r1, r2) := by rw [if_pos rfl] at H; exact H
 clear H
 have H := H1
 clear H1
 by_cases c4 : (l0_0.length : Int) > 4
 next =>
  rw [if_pos c4] at H
  have c4b0 : decide (4 < (l0_0.length : Int)) = true := ygy c4
  have c4b1 : decide (4 < l0_0.length) = true := ygy (by omega)
  clear c4
  simp only [Option.some.injEq, Prod.mk.injEq] at H
  obtain ⟨rfl, rfl⟩ := H
  go_enter Try.func9, Try.ntmps9
  go_wp2_with (first | ((with_reducible refine gate_dst (N := 1) rfl ?_); refine box_event ?hg (N := 1) ?hd (cs := #[.slice A0_0 l0_0.length c0_0]) (t := 30) ?hr ?_; (case hd => rfl); (case hg => rfl); (case hr => first | (go_simp; done) | (go_simp; rfl)); intro gb101 hg w5 hbox hb; have n0_ := Aside0.mk (below_step (by repeat (first | (with_reducible first | exact HB.out | apply below_alloc | apply pw_below_drewN | apply below_drew1) | exact HB.out)) hb); have n1_ := Aside0.mk (hbox); have n2_ := Aside0.mk ((by rw [hg]; exact (below_size (by repeat (first | (with_reducible first | exact HB.out | apply below_alloc | apply pw_below_drewN | apply below_drew1) | exact HB.out))) : w.heap.size ≤ gb101)); have n3_ := Aside0.mk ((by rw [hg]; exact (below_size (by repeat (first | (with_reducible first | exact HB.out | apply below_alloc | apply pw_below_drewN | apply below_drew1) | exact HB.out))) : w.heap.size ≤ gb101)); clear HB; have HB := n0_; have BK101 := n1_; have GW101 := n2_; have GE101 := n3_; clear n0_ n1_ n2_ n3_; clear hb hbox hg; have hcz6_0 : w5.cell? ⟨gb101, 0, none⟩ = some (.slice A0_0 l0_0.length c0_0) := (blk_cell BK101.out 0).trans rfl; have hfz6_0 := blk_frozen BK101.out 0) | ((with_reducible refine gate_callee (f := 26) rfl ?_); refine goesL_ (some 14) rfl rfl Try.func26 (by kernel_rfl) rfl #[.agg #[.slice A0_0 l0_0.length c0_0]] rfl (by (try simp only [yiy, yjy, yky]); first | done | rfl | (simp only [yly, ymy]; rfl)) ?_; (with_reducible refine (impl_isClosed.calls k _ _ l0_0 true _ ?side1 ?side2 A2.out).mono ?_); (case side1 => repeat (first | exact (Kd.C_below HR0_0.out HB.out) | (with_reducible refine Kd.C_alloc ?_ _) | (with_reducible refine Kd.C_drewN ?_ _) | (with_reducible refine Kd.C_drew ?_))); (case side2 => exact HC0_0.out); rintro e w7 ⟨rfl, hb⟩; refine ⟨_, rfl, ?_⟩; have n0_ := Aside0.mk (blk_below (g := gb101) (o := .cells #[.slice A0_0 l0_0.length c0_0] 30 (0, 0)) (by (with_reducible repeat (first | refine blk_drewN ?_ _ | refine blk_drew ?_ | refine blk_alloc ?_ _)); exact BK101.out) hb); have n1_ := Aside0.mk (below_step (by repeat (first | (with_reducible first | exact HB.out | apply below_alloc | apply pw_below_drewN | apply below_drew1 | refine below_set ?_ GE101.out) | exact HB.out)) hb); clear BK101; clear HB; have BK101 := n0_; have HB := n1_; clear n0_ n1_; (try clear hb); (try clear hb2); (try clear hk); (try clear hi); have hcz8_0 : w7.cell? ⟨gb101, 0, none⟩ = some (.slice A0_0 l0_0.length c0_0) := (blk_cell BK101.out 0).trans rfl; have hfz8_0 := blk_frozen BK101.out 0))
  go_ret2
  exact ⟨by first | rfl | (simp [errW_none, errW_some] <;> rfl) | (simp [*, errW_none, errW_some] <;> rfl), by repeat (first | (with_reducible first | exact HB.out | apply below_alloc | apply pw_below_drewN | apply below_drew1 | refine below_set ?_ GE101.out) | exact HB.out)⟩
 next =>
  rw [if_neg c4] at H
  have c4b0 : decide (4 < (l0_0.length : Int)) = false := yhy c4
  have c4b1 : decide (4 < l0_0.length) = false := yhy (by omega)
  clear c4
  have H' := Aside0.mk H
  clear H
  go_enter Try.func9, Try.ntmps9
  go_wp2_with (first | ((with_reducible refine gate_dst (N := 1) rfl ?_); refine box_event ?hg (N := 1) ?hd (cs := #[.slice A0_0 l0_0.length c0_0]) (t := 30) ?hr ?_; (case hd => rfl); (case hg => rfl); (case hr => first | (go_simp; done) | (go_simp; rfl)); intro gb101 hg w9 hbox hb; have n0_ := Aside0.mk (below_step (by repeat (first | (with_reducible first | exact HB.out | apply below_alloc | apply pw_below_drewN | apply below_drew1) | exact HB.out)) hb); have n1_ := Aside0.mk (hbox); have n2_ := Aside0.mk ((by rw [hg]; exact (below_size (by repeat (first | (with_reducible first | exact HB.out | apply below_alloc | apply pw_below_drewN | apply below_drew1) | exact HB.out))) : w.heap.size ≤ gb101)); have n3_ := Aside0.mk ((by rw [hg]; exact (below_size (by repeat (first | (with_reducible first | exact HB.out | apply below_alloc | apply pw_below_drewN | apply below_drew1) | exact HB.out))) : w.heap.size ≤ gb101)); clear HB; have HB := n0_; have BK101 := n1_; have GW101 := n2_; have GE101 := n3_; clear n0_ n1_ n2_ n3_; clear hb hbox hg; have hcz10_0 : w9.cell? ⟨gb101, 0, none⟩ = some (.slice A0_0 l0_0.length c0_0) := (blk_cell BK101.out 0).trans rfl; have hfz10_0 := blk_frozen BK101.out 0) | ((with_reducible refine gate_callee (f := 26) rfl ?_); refine goesL_ (some 14) rfl rfl Try.func26 (by kernel_rfl) rfl #[.agg #[.slice A0_0 l0_0.length c0_0]] rfl (by (try simp only [yiy, yjy, yky]); first | done | rfl | (simp only [yly, ymy]; rfl)) ?_; (with_reducible refine (impl_isClosed.calls k _ _ l0_0 true _ ?side1 ?side2 A2.out).mono ?_); (case side1 => repeat (first | exact (Kd.C_below HR0_0.out HB.out) | (with_reducible refine Kd.C_alloc ?_ _) | (with_reducible refine Kd.C_drewN ?_ _) | (with_reducible refine Kd.C_drew ?_))); (case side2 => exact HC0_0.out); rintro e w11 ⟨rfl, hb⟩; refine ⟨_, rfl, ?_⟩; have n0_ := Aside0.mk (blk_below (g := gb101) (o := .cells #[.slice A0_0 l0_0.length c0_0] 30 (0, 0)) (by (with_reducible repeat (first | refine blk_drewN ?_ _ | refine blk_drew ?_ | refine blk_alloc ?_ _)); exact BK101.out) hb); have n1_ := Aside0.mk (below_step (by repeat (first | (with_reducible first | exact HB.out | apply below_alloc | apply pw_below_drewN | apply below_drew1 | refine below_set ?_ GE101.out) | exact HB.out)) hb); clear BK101; clear HB; have BK101 := n0_; have HB := n1_; clear n0_ n1_; (try clear hb); (try clear hb2); (try clear hk); (try clear hi); have hcz12_0 : w11.cell? ⟨gb101, 0, none⟩ = some (.slice A0_0 l0_0.length c0_0) := (blk_cell BK101.out 0).trans rfl; have hfz12_0 := blk_frozen BK101.out 0))
  go_loopg [4, 5, 24] k (fun kq v4 v5 v24 w' => ∃ (x4_1 : List Int) (x5_1 : Int) (x24_1 : Int), v5 = .int .i64 x5_1 ∧ v24 = .int .i64 x24_1 ∧ Aside0 (impl_GluingNumber.l0 kq x4_1 x5_1 l0_0 (l0_0.length : Int) x24_1 l0_0 = some (r1, r2)) ∧ Aside0 (kq ≤ k) ∧ Aside0 (Kd.R (Kd.int .i64) 2 w' w.heap.size (fun _ => True) v4 x4_1) ∧ Aside0 (w'.heap[gb101]? = some (.cells #[(.slice A0_0 l0_0.length c0_0)] 30 (0, 0))) ∧ Aside0 (Below w.heap.size w w'))
  case atStart => exact ⟨(([] : List Int)), (0), (0), (by first | rfl | (simp; done) | (simp [*]; done)), (by first | rfl | (simp; done) | (simp [*]; done)), H', ⟨yoy _⟩, ⟨by first | exact Kd.R_nil _ _ _ _ _ | exact Kd.N_nil _ _ _ _ _ | exact Kd.V_nil _ _ _ _ _ | exact Kd.Q_nil _ _ _ _ _ | exact Kd.S_nil _ _ _ _ _⟩, ⟨by (with_reducible repeat (first | refine blk_drewN ?_ _ | refine blk_drew ?_ | refine blk_alloc ?_ _)); exact BK101.out⟩, ⟨by repeat (first | (with_reducible first | exact HB.out | apply below_alloc | apply pw_below_drewN | apply below_drew1 | refine below_set ?_ GE101.out) | exact HB.out)⟩⟩
  case round =>
   clear H'
   try clear c2
   try clear p2
   try clear c3
   try clear c4
   try clear c4b0
   try clear c4b1
   try clear c9
   try clear hcz10_0
   try clear hcz12_0
   try clear hcz6_0
   try clear hcz8_0
   try clear hfz10_0
   try clear hfz12_0
   try clear hfz6_0
   try clear hfz8_0
   obtain ⟨x4_1, x5_1, x24_1, rfl, rfl, HA, HK1, HO_4, BK101, HB⟩ := hrel
   cases gk with
   | zero => exact absurd HA.out (by simp [impl_GluingNumber.l0])
   | succ k1 =>
    have H := HA.out
    clear HA
    simp only [impl_GluingNumber.l0] at H
    by_cases c13 : x24_1 < (l0_0.length : Int)
    rotate_left
    next =>
     rw [if_neg c13] at H
     have c13b0 : decide (x24_1 < (l0_0.length : Int)) = false := yhy c13
     clear c13
     replace H := ydy.mp H
     obtain ⟨t103, A410, H⟩ := H
     replace H : ((impl_size_Simpl_Face.f l0_0).bind fun t104 => ((impl_gluings.f k1 t104).bind fun t105 => (some (wrap64 ((wrap64 (t103 * t105)) + x5_1), 0)))) = some (r1, r2) := H
     have A41 := Aside0.mk A410
     clear A410
     replace H := ydy.mp H
     obtain ⟨t104, A420, H⟩ := H
     replace H : ((impl_gluings.f k1 t104).bind fun t105 => (some (wrap64 ((wrap64 (t103 * t105)) + x5_1), 0))) = some (r1, r2) := H
     have A42 := Aside0.mk A420
     clear A420
     replace H := ydy.mp H
     obtain ⟨t105, A430, H⟩ := H
     replace H : (some (wrap64 ((wrap64 (t103 * t105)) + x5_1), 0)) = some (r1, r2) := H
     have A43 := Aside0.mk A430
     clear A430
     simp only [Option.some.injEq, Prod.mk.injEq] at H
     obtain ⟨rfl, rfl⟩ := H
     try go_wp2
     have n0_ := Aside0.mk (Kd.R_drew HO_4.out)
     have n1_ := Aside0.mk (blk_drew BK101.out)
     have n2_ := Aside0.mk (below_drew1 HB.out)
     clear HO_4
     clear BK101
     clear HB
     have HO_4 := n0_
     have BK101 := n1_
     have HB := n2_
     clear n0_ n1_ n2_
     obtain ⟨Ao45, co45, eo45⟩ := Kd.R_slice HO_4.out
     (first | subst eo45 | (injection eo45 with f1_ f2_ f3_; have f4_ := f1_.symm; have f5_ := f3_.symm; clear f1_ f2_ f3_; subst f4_; subst f5_))
     refine start_ (n := 11) (S := fun w' => w'.cell? ⟨gb101, 0, none⟩ = some (.slice A0_0 l0_0.length c0_0)) (ds := []) #[false, false, false, false, false, false, false, false, false, false, false] (by kernel_rfl) rfl rfl ((blk_cell BK101.out 0).trans rfl) (fun hHeld => ?_); refine with_tabW impl_GluingNumber.tab19 impl_GluingNumber.bits19 (fun HT_ HW_ => ?_)
     generalize wr.drew = w44 at HO_4 BK101 HB hHeld ⊢
     refine pure_ (i := 0) (N := some 67) (v := ?_) (a' := ?_) #[true, false, false, false, false, false, false, false, false, false, false] rfl rfl (any_of HT_.out (by kernel_rfl)) (fun _ _ _ h => h) (Or.inl ⟨by rfl, ?_⟩) ?_ ?_
     rotate_left
     next =>
      intro w'
      go_simp
      with_reducible rfl
     rotate_left
     next =>
      simp only [Act.put, yay, yby, ycy, i64_w, i32_w]
      rfl
     refine pure_ (i := 2) (N := some 69) (v := ?_) (a' := ?_) #[true, false, true, false, false, false, false, false, false, false, false] rfl rfl (any_of HT_.out (by kernel_rfl)) (fun _ _ _ h => h) (Or.inl ⟨by rfl, ?_⟩) ?_ ?_
     rotate_left
     next =>
      intro w'
      go_simp
      with_reducible rfl
     rotate_left
     next =>
      simp only [Act.put, yay, yby, ycy, i64_w, i32_w]
      rfl
     refine pure_ (i := 7) (N := some 74) (v := ?_) (a' := ?_) #[true, false, true, false, false, false, false, true, false, false, false] rfl rfl (any_of HT_.out (by kernel_rfl)) (fun _ _ _ h => h) (Or.inl ⟨by rfl, ?_⟩) ?_ ?_
     rotate_left
     next =>
      intro w'
      go_simp
      with_reducible rfl
     rotate_left
     next =>
      simp only [Act.put, yay, yby, ycy, i64_w, i32_w]
      rfl
     refine take_ (i := 3) (N := some 70) (v := ?_) (a' := ?_) #[true, false, true, true, false, false, false, true, false, false, false] rfl rfl (take_ofW HT_.out HW_.out (by kernel_rfl)) (fun _ _ _ h => h) (Or.inl ⟨by rfl, ?_⟩) hHeld ?_ ?_
     rotate_left
     next =>
      intro w' s0
      go_simp
      with_reducible rfl
     rotate_left
     next =>
      simp only [Act.put, yay, yby, ycy, i64_w, i32_w]
      rfl
     refine one_ (i := 1) (N := some 68) #[true, true, true, true, false, false, false, true, false, false, false] rfl rfl (one_of HT_.out (by kernel_rfl)) (by decide) (fun K hK => ?_)
     refine goes_ Try.func30 (by kernel_rfl) rfl #[.slice Ao45 x4_1.length co45] (by rfl) rfl rfl (by (try simp only [yiy, yjy, yky]); first | done | rfl | (simp only [yly, ymy]; rfl)) ?_
     with_reducible refine (impl_matchingNumber.calls k1 _ _ x4_1 t103 _ ?side1 ?side2 A41.out).mono ?_
     (case side1 => repeat (first | exact (Kd.R_reads' HO_4.out).2.2 | (with_reducible refine Kd.C_alloc ?_ _) | (with_reducible refine Kd.C_drewN ?_ _) | (with_reducible refine Kd.C_drew ?_)))
     (case side2 => exact (Kd.R_reads' HO_4.out).2.1)
     rintro e w46 ⟨rfl, hb⟩
     refine ⟨_, rfl, ?_⟩
     have n0_ := Aside0.mk (Kd.R_below (by (with_reducible repeat (first | apply Kd.R_alloc | apply Kd.R_drewN | apply Kd.R_drew)); exact HO_4.out) hb)
     have n1_ := Aside0.mk (blk_below (g := gb101) (o := .cells #[.slice A0_0 l0_0.length c0_0] 30 (0, 0)) (by (with_reducible repeat (first | refine blk_drewN ?_ _ | refine blk_drew ?_ | refine blk_alloc ?_ _)); exact BK101.out) hb)
     have n2_ := Aside0.mk (below_step (by repeat (first | (with_reducible first | exact HB.out | apply below_alloc | apply pw_below_drewN | apply below_drew1 | refine below_set ?_ GE101.out) | exact HB.out)) hb)
     clear HO_4
     clear BK101
     clear HB
     have HO_4 := n0_
     have BK101 := n1_
     have HB := n2_
     clear n0_ n1_ n2_
     (try clear hb)
     (try clear hb2)
     (try clear hk)
     (try clear hi)
     refine hK.out _ _ ((blk_cell BK101.out 0).trans rfl) (fun hHeld => ?_)
     clear hK K
     refine norm_ (a' := ?_) ?_ ?_
     rotate_left
     next =>
      show Act.put _ (some 68) _ = _
      simp only [Act.put, yay, yby, ycy, i64_w, i32_w]
      rfl
     refine one_ (i := 4) (N := some 71) #[true, true, true, true, true, false, false, true, false, false, false] rfl rfl (one_of HT_.out (by kernel_rfl)) (by decide) (fun K hK => ?_)
     refine goes_ Try.func32 (by kernel_rfl) rfl #[.slice A0_0 l0_0.length c0_0] (by rfl) rfl rfl (by (try simp only [yiy, yjy, yky]); first | done | rfl | (simp only [yly, ymy]; rfl)) ?_
     with_reducible refine (impl_size_Simpl_Face.calls _ _ l0_0 t104 _ ?side1 ?side2 A42.out).mono ?_
     (case side1 => repeat (first | exact (Kd.C_below HR0_0.out HB.out) | (with_reducible refine Kd.C_alloc ?_ _) | (with_reducible refine Kd.C_drewN ?_ _) | (with_reducible refine Kd.C_drew ?_)))
     (case side2 => exact HC0_0.out)
     rintro e w' ⟨rfl, ⟨nd, rfl⟩⟩
     refine ⟨_, rfl, ?_⟩
     refine hK.out _ _ ((blk_cell BK101.out 0).trans rfl) (fun hHeld => ?_)
     clear hK K
     refine norm_ (a' := ?_) ?_ ?_
     rotate_left
     next =>
      show Act.put _ (some 71) _ = _
      simp only [Act.put, yay, yby, ycy, i64_w, i32_w]
      rfl
     refine one_ (i := 5) (N := some 72) #[true, true, true, true, true, true, false, true, false, false, false] rfl rfl (one_of HT_.out (by kernel_rfl)) (by decide) (fun K hK => ?_)
     refine goes_ Try.func31 (by kernel_rfl) rfl #[.int .i64 t104] (by rfl) rfl rfl (by (try simp only [yiy, yjy, yky]); first | done | rfl | (simp only [yly, ymy]; rfl)) ?_
     with_reducible refine (impl_gluings.calls k1 t104 t105 _ A43.out).mono ?_
     rintro e w' ⟨rfl, ⟨nd, rfl⟩⟩
     refine ⟨_, rfl, ?_⟩
     refine hK.out _ _ ((blk_cell BK101.out 0).trans rfl) (fun hHeld => ?_)
     clear hK K
     refine norm_ (a' := ?_) ?_ ?_
     rotate_left
     next =>
      show Act.put _ (some 72) _ = _
      simp only [Act.put, yay, yby, ycy, i64_w, i32_w]
      rfl
     refine pure_ (i := 6) (N := some 73) (v := ?_) (a' := ?_) #[true, true, true, true, true, true, true, true, false, false, false] rfl rfl (any_of HT_.out (by kernel_rfl)) (fun _ _ _ h => h) (Or.inl ⟨by rfl, ?_⟩) ?_ ?_
     rotate_left
     next =>
      intro w'
      go_simp
      with_reducible rfl
     rotate_left
     next =>
      simp only [Act.put, yay, yby, ycy, i64_w, i32_w]
      rfl
     refine pure_ (i := 8) (N := some 75) (v := ?_) (a' := ?_) #[true, true, true, true, true, true, true, true, true, false, false] rfl rfl (any_of HT_.out (by kernel_rfl)) (fun _ _ _ h => h) (Or.inl ⟨by rfl, ?_⟩) ?_ ?_
     rotate_left
     next =>
      intro w'
      go_simp
      with_reducible rfl
     rotate_left
     next =>
      simp only [Act.put, yay, yby, ycy, i64_w, i32_w]
      rfl
     refine pure_ (i := 9) (N := some 2) (v := ?_) (a' := ?_) #[true, true, true, true, true, true, true, true, true, true, false] rfl rfl (any_of HT_.out (by kernel_rfl)) (fun _ _ _ h => h) (Or.inl ⟨by rfl, ?_⟩) ?_ ?_
     rotate_left
     next =>
      intro w'
      go_simp
      with_reducible rfl
     rotate_left
     next =>
      simp only [Act.put, yay, yby, ycy, i64_w, i32_w]
      rfl
     refine pure_ (i := 10) (N := some 3) (v := ?_) (a' := ?_) #[true, true, true, true, true, true, true, true, true, true, true] rfl rfl (any_of HT_.out (by kernel_rfl)) (fun _ _ _ h => h) (Or.inl ⟨by rfl, ?_⟩) ?_ ?_
     rotate_left
     next =>
      intro w'
      go_simp
      with_reducible rfl
     rotate_left
     next =>
      simp only [Act.put, yay, yby, ycy, i64_w, i32_w]
      rfl
     refine done_ (done_of HT_.out (by kernel_rfl)) ?_
     try go_wp2
     go_ret2
     exact ⟨by first | rfl | (simp [errW_none, errW_some] <;> rfl) | (simp [*, errW_none, errW_some] <;> rfl), by repeat (first | (with_reducible first | exact HB.out | apply below_alloc | apply pw_below_drewN | apply below_drew1 | refine below_set ?_ GE101.out) | exact HB.out)⟩
    rw [if_pos c13] at H
    have c13b0 : decide (x24_1 < (l0_0.length : Int)) = true := ygy c13
    clear c13
    by_cases c14 : 0 ≤ x24_1
    rotate_left
    next =>
     rw [if_neg c14] at H
     exact absurd H (by simp)
    rw [if_pos c14] at H
    have c14b0 : decide (0 ≤ x24_1) = true := ygy c14
    clear c14
    by_cases c15 : x24_1 < (l0_0.length : Int)
    rotate_left
    next =>
     rw [if_neg c15] at H
     exact absurd H (by simp)
    rw [if_pos c15] at H
    have c15b0 : decide (x24_1 < (l0_0.length : Int)) = true := ygy c15
    clear c15
    have H' := Aside0.mk H
    clear H
    have p106 : 0 ≤ (x24_1 : Int) := of_decide_eq_true (by first | (with_reducible assumption) | assumption)
    have q106 : x24_1 < (l0_0.length : Int) := of_decide_eq_true (by first | (with_reducible assumption) | assumption)
    obtain ⟨ad106, A106_0, c106_0, e106, hx106_0, hl106_0, hi106_0⟩ := at_LFace HR0_0.out x24_1 p106 q106
    cases e106
    replace hx106_0 := (HB.out.cell (yny w _ hx106_0)).trans hx106_0
    have HR106_0 := Aside0.mk hi106_0
    have HC106_0 := Aside0.mk hl106_0
    clear hi106_0 hl106_0
    replace p106 := eq_true p106
    replace q106 := eq_true q106
    go_wp2
    go_loopg [4, 5, 31] k1 (fun kq v4 v5 v31 w' => ∃ (x4_2 : List Int) (x5_2 : Int) (x31_2 : Int), v5 = .int .i64 x5_2 ∧ v31 = .int .i64 x31_2 ∧ Aside0 (impl_GluingNumber.l1 kq x4_2 x5_2 x24_1 l0_0 (l0_0.length : Int) x24_1 (rd_LFace l0_0 x24_1) ((rd_LFace l0_0 x24_1).length : Int) x31_2 l0_0 = some (r1, r2)) ∧ Aside0 (kq ≤ k1) ∧ Aside0 (Kd.R (Kd.int .i64) 2 w' w.heap.size (fun _ => True) v4 x4_2) ∧ Aside0 (w'.heap[gb101]? = some (.cells #[(.slice (some ad106) l0_0.length c0_0)] 30 (0, 0))) ∧ Aside0 (Below w.heap.size w w'))
    case atStart => exact ⟨(x4_1), (x5_1), (0), (by first | rfl | (simp; done) | (simp [*]; done)), (by first | rfl | (simp; done) | (simp [*]; done)), H', ⟨yoy _⟩, ⟨by (with_reducible repeat (first | apply Kd.R_alloc | apply Kd.R_drewN | apply Kd.R_drew)); exact HO_4.out⟩, ⟨by (with_reducible repeat (first | refine blk_drewN ?_ _ | refine blk_drew ?_ | refine blk_alloc ?_ _)); exact BK101.out⟩, ⟨by repeat (first | (with_reducible first | exact HB.out | apply below_alloc | apply pw_below_drewN | apply below_drew1 | refine below_set ?_ GE101.out) | exact HB.out)⟩⟩
    case round =>
     clear H'
     try clear c1
     try clear p1
     try clear q1
     try clear hx1
     try clear c2
     try clear p2
     try clear c3
     try clear c4
     try clear c4b0
     try clear c4b1
     try clear c9
     try clear c10
     try clear p10
     try clear q10
     try clear hx10
     try clear c13
     try clear c13b0
     try clear c14
     try clear c14b0
     try clear c15
     try clear c15b0
     try clear hcz10_0
     try clear hcz12_0
     try clear hcz6_0
     try clear hcz8_0
     try clear hfz10_0
     try clear hfz12_0
     try clear hfz6_0
     try clear hfz8_0
     try clear hx106_0
     try clear p106
     try clear p2
     try clear q106
     obtain ⟨x4_2, x5_2, x31_2, rfl, rfl, HA, HK2, HO_4, BK101, HB⟩ := hrel
     cases gk with
     | zero => exact absurd HA.out (by simp [impl_GluingNumber.l1])
     | succ k2 =>
      have H := HA.out
      clear HA
      simp only [impl_GluingNumber.l1] at H
      by_cases c16 : x31_2 < ((rd_LFace l0_0 x24_1).length : Int)
      rotate_left
      next =>
       rw [if_neg c16] at H
       have c16b0 : decide (x31_2 < ((rd_LFace l0_0 x24_1).length : Int)) = false := yhy c16
       clear c16
       have H' := Aside0.mk H
       clear H
       go_wp2
       go_roundg k2
       case measure => have := HK1.out; have := HK2.out; omega
       case rel => exact ⟨(x4_2), (x5_2), (wrap64 (x24_1 + 1)), (by first | rfl | (simp; done) | (simp [*]; done)), (by first | rfl | (simp; done) | (simp [*]; done)), H', ⟨by have := HK1.out; have := HK2.out; omega⟩, ⟨by (with_reducible repeat (first | apply Kd.R_alloc | apply Kd.R_drewN | apply Kd.R_drew)); exact HO_4.out⟩, ⟨by (with_reducible repeat (first | refine blk_drewN ?_ _ | refine blk_drew ?_ | refine blk_alloc ?_ _)); exact BK101.out⟩, ⟨by repeat (first | (with_reducible first | exact HB.out | apply below_alloc | apply pw_below_drewN | apply below_drew1 | refine below_set ?_ GE101.out) | exact HB.out)⟩⟩
      rw [if_pos c16] at H
      have c16b0 : decide (x31_2 < ((rd_LFace l0_0 x24_1).length : Int)) = true := ygy c16
      clear c16
      by_cases c17 : 0 ≤ x31_2
      rotate_left
      next =>
       rw [if_neg c17] at H
       exact absurd H (by simp)
      rw [if_pos c17] at H
      have c17b0 : decide (0 ≤ x31_2) = true := ygy c17
      clear c17
      by_cases c18 : x31_2 < ((rd_LFace l0_0 x24_1).length : Int)
      rotate_left
      next =>
       rw [if_neg c18] at H
       exact absurd H (by simp)
      rw [if_pos c18] at H
      have c18b0 : decide (x31_2 < ((rd_LFace l0_0 x24_1).length : Int)) = true := ygy c18
      clear c18
      replace H := ydy.mp H
      obtain ⟨t109, A190, H⟩ := H
      replace H : (if x4_2.length < 17592186044416 then ((some (x4_2 ++ [wrap64 ((wrap64 (4 * ((rd_Face (rd_LFace l0_0 x24_1) x31_2).f0))) + t109)] : List Int)).bind fun y110 => (if (wrap64 ((wrap64 (4 * x24_1)) + x31_2)) < (wrap64 ((wrap64 (4 * ((rd_Face (rd_LFace l0_0 x24_1) x31_2).f0))) + t109)) then ((impl_mapping.f (Int.tmod (wrap64 ((wrap64 (4 * x24_1)) + x31_2)) 4) (Int.tmod (wrap64 ((wrap64 (4 * ((rd_Face (rd_LFace l0_0 x24_1) x31_2).f0))) + t109)) 4)).bind fun t113 => ((slices_Index_Sint64.f k2 t113 ((rd_Face (rd_LFace l0_0 x24_1) x31_2).f1)).bind fun t116 => (impl_GluingNumber.l1 k2 y110 (wrap64 ((wrap64 (6 * x5_2)) + t116)) x24_1 l0_0 (l0_0.length : Int) x24_1 (rd_LFace l0_0 x24_1) ((rd_LFace l0_0 x24_1).length : Int) (wrap64 (x31_2 + 1)) l0_0))) else (impl_GluingNumber.l1 k2 y110 x5_2 x24_1 l0_0 (l0_0.length : Int) x24_1 (rd_LFace l0_0 x24_1) ((rd_LFace l0_0 x24_1).length : Int) (wrap64 (x31_2 + 1)) l0_0))) else (none)) = some (r1, r2) := H
      have A19 := Aside0.mk A190
      clear A190
      by_cases c20 : x4_2.length < 17592186044416
      rotate_left
      next =>
       rw [if_neg c20] at H
       exact absurd H (by simp)
      rw [if_pos c20] at H
      have LMc20 := Aside0.mk c20
      clear c20
      obtain ⟨y110, hy110⟩ : ∃ y_ : List Int, y_ = (x4_2 ++ [wrap64 ((wrap64 (4 * ((rd_Face (rd_LFace l0_0 x24_1) x31_2).f0))) + t109)]) := ⟨_, rfl⟩
      replace H : (if (wrap64 ((wrap64 (4 * x24_1)) + x31_2)) < (wrap64 ((wrap64 (4 * ((rd_Face (rd_LFace l0_0 x24_1) x31_2).f0))) + t109)) then ((impl_mapping.f (Int.tmod (wrap64 ((wrap64 (4 * x24_1)) + x31_2)) 4) (Int.tmod (wrap64 ((wrap64 (4 * ((rd_Face (rd_LFace l0_0 x24_1) x31_2).f0))) + t109)) 4)).bind fun t113 => ((slices_Index_Sint64.f k2 t113 ((rd_Face (rd_LFace l0_0 x24_1) x31_2).f1)).bind fun t116 => (impl_GluingNumber.l1 k2 y110 (wrap64 ((wrap64 (6 * x5_2)) + t116)) x24_1 l0_0 (l0_0.length : Int) x24_1 (rd_LFace l0_0 x24_1) ((rd_LFace l0_0 x24_1).length : Int) (wrap64 (x31_2 + 1)) l0_0))) else (impl_GluingNumber.l1 k2 y110 x5_2 x24_1 l0_0 (l0_0.length : Int) x24_1 (rd_LFace l0_0 x24_1) ((rd_LFace l0_0 x24_1).length : Int) (wrap64 (x31_2 + 1)) l0_0)) = some (r1, r2) := by first | (rw [hy110]; with_reducible exact H) | (have H2_ := (yfy _ _).symm.trans H; rw [hy110]; with_reducible exact H2_) | (have H2_ := (yfy _ _).symm.trans H; with_reducible exact H2_) | with_reducible exact H | (rw [hy110]; exact H) | exact H
      have Ny110 := Aside0.mk hy110
      clear hy110
      by_cases c21 : (wrap64 ((wrap64 (4 * x24_1)) + x31_2)) < (wrap64 ((wrap64 (4 * ((rd_Face (rd_LFace l0_0 x24_1) x31_2).f0))) + t109))
      rotate_left
      next =>
       rw [if_neg c21] at H
       have c21b0 : decide ((wrap64 ((wrap64 (4 * x24_1)) + x31_2)) < (wrap64 ((wrap64 (4 * ((rd_Face (rd_LFace l0_0 x24_1) x31_2).f0))) + t109))) = false := yhy c21
       clear c21
       have H' := Aside0.mk H
       clear H
       have p107 : 0 ≤ (x31_2 : Int) := of_decide_eq_true (by first | (with_reducible assumption) | assumption)
       have q107 : x31_2 < ((rd_LFace l0_0 x24_1).length : Int) := of_decide_eq_true (by first | (with_reducible assumption) | assumption)
       obtain ⟨ad107, e107, hx107_0, hx107_1⟩ := at_Face HR106_0.out x31_2 p107 q107
       cases e107
       replace hx107_0 := (HB.out.cell (yny w _ hx107_0)).trans hx107_0
       replace hx107_1 := (HB.out.cell (yny w _ hx107_1)).trans hx107_1
       replace p107 := eq_true p107
       replace q107 := eq_true q107
       try go_wp2_with (first | ((with_reducible refine gate_dst (N := 9) rfl ?_); refine box_event ?hg (N := 9) ?hd (cs := #[.int .i64 0, .int .i64 0]) (t := 47) ?hr ?_; (case hd => rfl); (case hg => rfl); (case hr => first | (go_simp; done) | (go_simp; rfl)); intro gb108 hg w34 hbox hb; have n0_ := Aside0.mk (Kd.R_below (by (with_reducible repeat (first | apply Kd.R_alloc | apply Kd.R_drewN | apply Kd.R_drew)); exact HO_4.out) hb); have n1_ := Aside0.mk (blk_below (g := gb101) (o := .cells #[.slice (some ad106) l0_0.length c0_0] 30 (0, 0)) (by (with_reducible repeat (first | refine blk_drewN ?_ _ | refine blk_drew ?_ | refine blk_alloc ?_ _)); exact BK101.out) hb); have n2_ := Aside0.mk (below_step (by repeat (first | (with_reducible first | exact HB.out | apply below_alloc | apply pw_below_drewN | apply below_drew1 | refine below_set ?_ GE101.out) | exact HB.out)) hb); have n3_ := Aside0.mk (hbox); have n4_ := Aside0.mk ((by rw [hg]; exact (below_size (by repeat (first | (with_reducible first | exact HB.out | apply below_alloc | apply pw_below_drewN | apply below_drew1 | refine below_set ?_ GE101.out) | exact HB.out))) : w.heap.size ≤ gb108)); have n5_ := Aside0.mk ((by rw [hg]; exact (below_size (by repeat (first | (with_reducible first | exact HB.out | apply below_alloc | apply pw_below_drewN | apply below_drew1 | refine below_set ?_ GE101.out) | exact HB.out))) : w.heap.size ≤ gb108)); have n6_ := Aside0.mk ((by rw [hg]; exact Nat.ne_of_lt (blk_lt (g := gb101) (o := .cells #[.slice (some ad106) l0_0.length c0_0] 30 (0, 0)) (by (with_reducible repeat (first | refine blk_drewN ?_ _ | refine blk_drew ?_ | refine blk_alloc ?_ _)); exact BK101.out)) : gb101 ≠ gb108)); have n7_ := Aside0.mk ((by rw [hg]; exact Nat.ne_of_gt (blk_lt (g := gb101) (o := .cells #[.slice (some ad106) l0_0.length c0_0] 30 (0, 0)) (by (with_reducible repeat (first | refine blk_drewN ?_ _ | refine blk_drew ?_ | refine blk_alloc ?_ _)); exact BK101.out)) : gb108 ≠ gb101)); clear HO_4; clear BK101; clear HB; have HO_4 := n0_; have BK101 := n1_; have HB := n2_; have BK108 := n3_; have GW108 := n4_; have GE108 := n5_; have NB101_108 := n6_; have NB108_101 := n7_; clear n0_ n1_ n2_ n3_ n4_ n5_ n6_ n7_; clear hb hbox hg; have hnb35 := NB108_101.out; have hnc35 := NB101_108.out; have hcz36_0 : w34.cell? ⟨gb108, 0, none⟩ = some (.int .i64 0) := (blk_cell BK108.out 0).trans rfl; have hcz36_1 : w34.cell? ⟨gb108, 1, none⟩ = some (.int .i64 0) := (blk_cell BK108.out 1).trans rfl; have hfz36_0 := blk_frozen BK108.out 0; have hfz36_1 := blk_frozen BK108.out 1))
       have n0_ : Aside0 (Kd.R (Kd.int .i64) 2 ((w34.setCell ⟨gb108, 0, none⟩ (.int .i64 ((rd_Face (rd_LFace l0_0 x24_1) x31_2).f0))).setCell ⟨gb108, 1, none⟩ (.int .i64 ((rd_Face (rd_LFace l0_0 x24_1) x31_2).f1))) w.heap.size (fun _ => True) u4 x4_2) := ⟨by (with_reducible repeat (first | apply Kd.R_alloc | apply Kd.R_drewN | apply Kd.R_drew)); exact Kd.R_mono (Kd.R_far (p := ⟨gb108, 1, none⟩) (Kd.R_far (p := ⟨gb108, 0, none⟩) (Kd.R_types HO_4.out BK108.out (by decide)) (fun _ hk => hk.2) (.int .i64 ((rd_Face (rd_LFace l0_0 x24_1) x31_2).f0))) (fun _ hk => hk.2) (.int .i64 ((rd_Face (rd_LFace l0_0 x24_1) x31_2).f1))) (fun _ hk => trivial)⟩
       have n1_ : Aside0 (((w34.setCell ⟨gb108, 0, none⟩ (.int .i64 ((rd_Face (rd_LFace l0_0 x24_1) x31_2).f0))).setCell ⟨gb108, 1, none⟩ (.int .i64 ((rd_Face (rd_LFace l0_0 x24_1) x31_2).f1))).heap[gb101]? = some (.cells #[.slice (some ad106) l0_0.length c0_0] 30 (0, 0))) := ⟨by (with_reducible repeat (first | refine blk_drewN ?_ _ | refine blk_drew ?_ | refine blk_alloc ?_ _)); refine blk_far ?_ NB101_108.out _; (with_reducible repeat (first | refine blk_drewN ?_ _ | refine blk_drew ?_ | refine blk_alloc ?_ _)); refine blk_far ?_ NB101_108.out _; (with_reducible repeat (first | refine blk_drewN ?_ _ | refine blk_drew ?_ | refine blk_alloc ?_ _)); exact BK101.out⟩
       have n2_ : Aside0 (((w34.setCell ⟨gb108, 0, none⟩ (.int .i64 ((rd_Face (rd_LFace l0_0 x24_1) x31_2).f0))).setCell ⟨gb108, 1, none⟩ (.int .i64 ((rd_Face (rd_LFace l0_0 x24_1) x31_2).f1))).heap[gb108]? = some (.cells #[.int .i64 ((rd_Face (rd_LFace l0_0 x24_1) x31_2).f0), .int .i64 ((rd_Face (rd_LFace l0_0 x24_1) x31_2).f1)] 47 (0, 0))) := ⟨by (with_reducible repeat (first | refine blk_drewN ?_ _ | refine blk_drew ?_ | refine blk_alloc ?_ _)); refine blk_put (cs := #[.int .i64 ((rd_Face (rd_LFace l0_0 x24_1) x31_2).f0), .int .i64 0]) ?_ 1 _ rfl; (with_reducible repeat (first | refine blk_drewN ?_ _ | refine blk_drew ?_ | refine blk_alloc ?_ _)); refine blk_put (cs := #[.int .i64 0, .int .i64 0]) ?_ 0 _ rfl; (with_reducible repeat (first | refine blk_drewN ?_ _ | refine blk_drew ?_ | refine blk_alloc ?_ _)); exact BK108.out⟩
       have n3_ : Aside0 (Below w.heap.size w ((w34.setCell ⟨gb108, 0, none⟩ (.int .i64 ((rd_Face (rd_LFace l0_0 x24_1) x31_2).f0))).setCell ⟨gb108, 1, none⟩ (.int .i64 ((rd_Face (rd_LFace l0_0 x24_1) x31_2).f1)))) := ⟨by repeat (first | (with_reducible first | exact HB.out | apply below_alloc | apply pw_below_drewN | apply below_drew1 | refine below_set ?_ GE101.out | refine below_set ?_ GE108.out) | exact HB.out)⟩
       (try clear HO_4)
       (try clear BK101)
       (try clear BK108)
       (try clear HB)
       generalize ((w34.setCell ⟨gb108, 0, none⟩ (.int .i64 ((rd_Face (rd_LFace l0_0 x24_1) x31_2).f0))).setCell ⟨gb108, 1, none⟩ (.int .i64 ((rd_Face (rd_LFace l0_0 x24_1) x31_2).f1))) = w37 at n0_ n1_ n2_ n3_ ⊢
       have HO_4 := n0_
       have BK101 := n1_
       have BK108 := n2_
       have HB := n3_
       clear n0_ n1_ n2_ n3_
       have n0_ := Aside0.mk (Kd.R_drew HO_4.out)
       have n1_ := Aside0.mk (blk_drew BK101.out)
       have n2_ := Aside0.mk (blk_drew BK108.out)
       have n3_ := Aside0.mk (below_drew1 HB.out)
       clear HO_4
       clear BK101
       clear BK108
       clear HB
       have HO_4 := n0_
       have BK101 := n1_
       have BK108 := n2_
       have HB := n3_
       clear n0_ n1_ n2_ n3_
       refine start_ (n := 13) (S := fun w' => w'.cell? ⟨gb108, 0, none⟩ = some (.int .i64 ((rd_Face (rd_LFace l0_0 x24_1) x31_2).f0)) ∧ w'.cell? ⟨gb108, 1, none⟩ = some (.int .i64 ((rd_Face (rd_LFace l0_0 x24_1) x31_2).f1))) (ds := []) #[false, false, false, false, false, false, false, false, false, false, false, false, false] (by kernel_rfl) rfl rfl ⟨(blk_cell BK108.out 0).trans rfl, (blk_cell BK108.out 1).trans rfl⟩ (fun hHeld => ?_); refine with_tabW impl_GluingNumber.tab13 impl_GluingNumber.bits13 (fun HT_ HW_ => ?_)
       generalize w37.drew = w38 at HO_4 BK101 BK108 HB hHeld ⊢
       refine pure_ (i := 0) (N := some 36) (v := ?_) (a' := ?_) #[true, false, false, false, false, false, false, false, false, false, false, false, false] rfl rfl (any_of HT_.out (by kernel_rfl)) (fun _ _ _ h => h) (Or.inl ⟨by rfl, ?_⟩) ?_ ?_
       rotate_left
       next =>
        intro w'
        go_simp
        with_reducible rfl
       rotate_left
       next =>
        simp only [Act.put, yay, yby, ycy, i64_w, i32_w]
        rfl
       refine pure_ (i := 1) (N := some 37) (v := ?_) (a' := ?_) #[true, true, false, false, false, false, false, false, false, false, false, false, false] rfl rfl (any_of HT_.out (by kernel_rfl)) (fun _ _ _ h => h) (Or.inl ⟨by rfl, ?_⟩) ?_ ?_
       rotate_left
       next =>
        intro w'
        go_simp
        with_reducible rfl
       rotate_left
       next =>
        simp only [Act.put, yay, yby, ycy, i64_w, i32_w]
        rfl
       refine pure_ (i := 2) (N := some 38) (v := ?_) (a' := ?_) #[true, true, true, false, false, false, false, false, false, false, false, false, false] rfl rfl (any_of HT_.out (by kernel_rfl)) (fun _ _ _ h => h) (Or.inl ⟨by rfl, ?_⟩) ?_ ?_
       rotate_left
       next =>
        intro w'
        go_simp
        with_reducible rfl
       rotate_left
       next =>
        simp only [Act.put, yay, yby, ycy, i64_w, i32_w]
        rfl
       refine pure_ (i := 3) (N := some 39) (v := ?_) (a' := ?_) #[true, true, true, true, false, false, false, false, false, false, false, false, false] rfl rfl (any_of HT_.out (by kernel_rfl)) (fun _ _ _ h => h) (Or.inl ⟨by rfl, ?_⟩) ?_ ?_
       rotate_left
       next =>
        intro w'
        go_simp
        with_reducible rfl
       rotate_left
       next =>
        simp only [Act.put, yay, yby, ycy, i64_w, i32_w]
        rfl
       refine pure_ (i := 4) (N := some 40) (v := ?_) (a' := ?_) #[true, true, true, true, true, false, false, false, false, false, false, false, false] rfl rfl (any_of HT_.out (by kernel_rfl)) (fun _ _ _ h => h) (Or.inl ⟨by rfl, ?_⟩) ?_ ?_
       rotate_left
       next =>
        intro w'
        go_simp
        with_reducible rfl
       rotate_left
       next =>
        simp only [Act.put, yay, yby, ycy, i64_w, i32_w]
        rfl
       refine pure_ (i := 8) (N := some 44) (v := ?_) (a' := ?_) #[true, true, true, true, true, false, false, false, true, false, false, false, false] rfl rfl (any_of HT_.out (by kernel_rfl)) (fun _ _ _ h => h) (Or.inl ⟨by rfl, ?_⟩) ?_ ?_
       rotate_left
       next =>
        intro w'
        go_simp
        with_reducible rfl
       rotate_left
       next =>
        simp only [Act.put, yay, yby, ycy, i64_w, i32_w]
        rfl
       refine take_ (i := 5) (N := some 41) (v := ?_) (a' := ?_) #[true, true, true, true, true, true, false, false, true, false, false, false, false] rfl rfl (take_ofW HT_.out HW_.out (by kernel_rfl)) (fun _ _ _ h => h) (Or.inl ⟨by rfl, ?_⟩) hHeld ?_ ?_
       rotate_left
       next =>
        rintro w' ⟨s0, s1⟩
        go_simp
        with_reducible rfl
       rotate_left
       next =>
        simp only [Act.put, yay, yby, ycy, i64_w, i32_w]
        rfl
       refine pure_ (i := 6) (N := some 42) (v := ?_) (a' := ?_) #[true, true, true, true, true, true, true, false, true, false, false, false, false] rfl rfl (any_of HT_.out (by kernel_rfl)) (fun _ _ _ h => h) (Or.inl ⟨by rfl, ?_⟩) ?_ ?_
       rotate_left
       next =>
        intro w'
        go_simp
        with_reducible rfl
       rotate_left
       next =>
        simp only [Act.put, yay, yby, ycy, i64_w, i32_w]
        rfl
       refine take_ (i := 7) (N := some 43) (v := ?_) (a' := ?_) #[true, true, true, true, true, true, true, true, true, false, false, false, false] rfl rfl (take_ofW HT_.out HW_.out (by kernel_rfl)) (fun _ _ _ h => h) (Or.inl ⟨by rfl, ?_⟩) hHeld ?_ ?_
       rotate_left
       next =>
        rintro w' ⟨s0, s1⟩
        go_simp
        with_reducible rfl
       rotate_left
       next =>
        simp only [Act.put, yay, yby, ycy, i64_w, i32_w]
        rfl
       refine one_ (i := 9) (N := some 45) #[true, true, true, true, true, true, true, true, true, true, false, false, false] rfl rfl (one_of HT_.out (by kernel_rfl)) (by decide) (fun K hK => ?_)
       refine goes_ Try.func27 (by kernel_rfl) rfl #[.agg #[.int .i64 ((rd_Face (rd_LFace l0_0 x24_1) x31_2).f0), .int .i64 ((rd_Face (rd_LFace l0_0 x24_1) x31_2).f1)], .int .i64 x31_2] (by rfl) rfl rfl (by (try simp only [yiy, yjy, yky]); first | done | rfl | (simp only [yly, ymy]; rfl)) ?_
       with_reducible refine (impl_Face_target.calls ((rd_Face (rd_LFace l0_0 x24_1) x31_2).f0) ((rd_Face (rd_LFace l0_0 x24_1) x31_2).f1) x31_2 t109 _ A19.out).mono ?_
       rintro e w39 ⟨rfl, hb⟩
       refine ⟨_, rfl, ?_⟩
       have n0_ := Aside0.mk (Kd.R_below (by (with_reducible repeat (first | apply Kd.R_alloc | apply Kd.R_drewN | apply Kd.R_drew)); exact HO_4.out) hb)
       have n1_ := Aside0.mk (blk_below (g := gb101) (o := .cells #[.slice (some ad106) l0_0.length c0_0] 30 (0, 0)) (by (with_reducible repeat (first | refine blk_drewN ?_ _ | refine blk_drew ?_ | refine blk_alloc ?_ _)); exact BK101.out) hb)
       have n2_ := Aside0.mk (blk_below (g := gb108) (o := .cells #[.int .i64 ((rd_Face (rd_LFace l0_0 x24_1) x31_2).f0), .int .i64 ((rd_Face (rd_LFace l0_0 x24_1) x31_2).f1)] 47 (0, 0)) (by (with_reducible repeat (first | refine blk_drewN ?_ _ | refine blk_drew ?_ | refine blk_alloc ?_ _)); exact BK108.out) hb)
       have n3_ := Aside0.mk (below_step (by repeat (first | (with_reducible first | exact HB.out | apply below_alloc | apply pw_below_drewN | apply below_drew1 | refine below_set ?_ GE101.out | refine below_set ?_ GE108.out) | exact HB.out)) hb)
       clear HO_4
       clear BK101
       clear BK108
       clear HB
       have HO_4 := n0_
       have BK101 := n1_
       have BK108 := n2_
       have HB := n3_
       clear n0_ n1_ n2_ n3_
       (try clear hb)
       (try clear hb2)
       (try clear hk)
       (try clear hi)
       refine hK.out _ _ ⟨(blk_cell BK108.out 0).trans rfl, (blk_cell BK108.out 1).trans rfl⟩ (fun hHeld => ?_)
       clear hK K
       refine norm_ (a' := ?_) ?_ ?_
       rotate_left
       next =>
        show Act.put _ (some 45) _ = _
        simp only [Act.put, yay, yby, ycy, i64_w, i32_w]
        rfl
       refine pure_ (i := 10) (N := some 46) (v := ?_) (a' := ?_) #[true, true, true, true, true, true, true, true, true, true, true, false, false] rfl rfl (any_of HT_.out (by kernel_rfl)) (fun _ _ _ h => h) (Or.inl ⟨by rfl, ?_⟩) ?_ ?_
       rotate_left
       next =>
        intro w'
        go_simp
        with_reducible rfl
       rotate_left
       next =>
        simp only [Act.put, yay, yby, ycy, i64_w, i32_w]
        rfl
       refine pure_ (i := 11) (N := some 10) (v := ?_) (a' := ?_) #[true, true, true, true, true, true, true, true, true, true, true, true, false] rfl rfl (any_of HT_.out (by kernel_rfl)) (fun _ _ _ h => h) (Or.inl ⟨by rfl, ?_⟩) ?_ ?_
       rotate_left
       next =>
        intro w'
        go_simp
        with_reducible rfl
       rotate_left
       next =>
        simp only [Act.put, yay, yby, ycy, i64_w, i32_w]
        rfl
       refine pure_ (i := 12) (N := some 11) (v := ?_) (a' := ?_) #[true, true, true, true, true, true, true, true, true, true, true, true, true] rfl rfl (any_of HT_.out (by kernel_rfl)) (fun _ _ _ h => h) (Or.inl ⟨by rfl, ?_⟩) ?_ ?_
       rotate_left
       next =>
        intro w'
        go_simp
        with_reducible rfl
       rotate_left
       next =>
        simp only [Act.put, yay, yby, ycy, i64_w, i32_w]
        rfl
       refine done_ (done_of HT_.out (by kernel_rfl)) ?_
       try go_wp2_with (first | ((with_reducible refine gate_builtin (b := .append) (xs := #[.tmp 47, .tmp 49]) rfl ?_); at_builtin; refine Kd.R_append (Kd.int .i64) (w0 := w) w.heap.size rfl (.tmp 47) (.tmp 49) 44 2 (.int .i64 0) 8 rfl Try.underlying44 info2 rfl (by decide) (by omega) u4 x4_2 (wrap64 ((wrap64 (4 * ((rd_Face (rd_LFace l0_0 x24_1) x31_2).f0))) + t109)) [.int .i64 (wrap64 ((wrap64 (4 * ((rd_Face (rd_LFace l0_0 x24_1) x31_2).f0))) + t109))] (fun _ => True) (fun _ => False) rfl rfl ?aP (fun _ hk => hk.elim) ?aF ?aO ?aB ?aS ?aL ?_; (case aP => exact rfl); (case aB => exact (by repeat (first | (with_reducible first | exact HB.out | apply below_alloc | apply pw_below_drewN | apply below_drew1 | refine below_set ?_ GE101.out | refine below_set ?_ GE108.out) | exact HB.out))); (case aF => exact (fun _ _ => trivial)); (case aO => exact (by (with_reducible repeat (first | apply Kd.R_alloc | apply Kd.R_drewN | apply Kd.R_drew)); exact HO_4.out)); (case aS => exact (below_size (by repeat (first | (with_reducible first | exact HB.out | apply below_alloc | apply pw_below_drewN | apply below_drew1 | refine below_set ?_ GE101.out | refine below_set ?_ GE108.out) | exact HB.out)))); (case aL => have := LMc20.out; omega); intro v111 w40 ho hb hg hat; rw [← Ny110.out] at ho; have n0_ := Aside0.mk (blk_grown (g := gb101) (o := .cells #[.slice (some ad106) l0_0.length c0_0] 30 (0, 0)) (by (with_reducible repeat (first | refine blk_drewN ?_ _ | refine blk_drew ?_ | refine blk_alloc ?_ _)); exact BK101.out) hg (Kd.R_ne HO_4.out BK101.out (by decide))); have n1_ := Aside0.mk (blk_grown (g := gb108) (o := .cells #[.int .i64 ((rd_Face (rd_LFace l0_0 x24_1) x31_2).f0), .int .i64 ((rd_Face (rd_LFace l0_0 x24_1) x31_2).f1)] 47 (0, 0)) (by (with_reducible repeat (first | refine blk_drewN ?_ _ | refine blk_drew ?_ | refine blk_alloc ?_ _)); exact BK108.out) hg (Kd.R_ne HO_4.out BK108.out (by decide))); have n2_ := Aside0.mk (hb); have n3_ := Aside0.mk (ho); clear BK101; clear BK108; clear HB; clear HO_4; have BK101 := n0_; have BK108 := n1_; have HB := n2_; have HO112 := n3_; clear n0_ n1_ n2_ n3_; clear ho hb hg hat))
       go_roundg k2
       case measure => have := HK1.out; have := HK2.out; omega
       case rel => exact ⟨(y110), (x5_2), (wrap64 (x31_2 + 1)), (by first | rfl | (simp; done) | (simp [*]; done)), (by first | rfl | (simp; done) | (simp [*]; done)), H', ⟨by have := HK1.out; have := HK2.out; omega⟩, ⟨by (with_reducible repeat (first | apply Kd.R_alloc | apply Kd.R_drewN | apply Kd.R_drew)); exact HO112.out⟩, ⟨by (with_reducible repeat (first | refine blk_drewN ?_ _ | refine blk_drew ?_ | refine blk_alloc ?_ _)); exact BK101.out⟩, ⟨by repeat (first | (with_reducible first | exact HB.out | apply below_alloc | apply pw_below_drewN | apply below_drew1 | refine below_set ?_ GE101.out | refine below_set ?_ GE108.out) | exact HB.out)⟩⟩
      rw [if_pos c21] at H
      have c21b0 : decide ((wrap64 ((wrap64 (4 * x24_1)) + x31_2)) < (wrap64 ((wrap64 (4 * ((rd_Face (rd_LFace l0_0 x24_1) x31_2).f0))) + t109))) = true := ygy c21
      clear c21
      replace H := ydy.mp H
      obtain ⟨t113, A220, H⟩ := H
      replace H : ((slices_Index_Sint64.f k2 t113 ((rd_Face (rd_LFace l0_0 x24_1) x31_2).f1)).bind fun t116 => (impl_GluingNumber.l1 k2 y110 (wrap64 ((wrap64 (6 * x5_2)) + t116)) x24_1 l0_0 (l0_0.length : Int) x24_1 (rd_LFace l0_0 x24_1) ((rd_LFace l0_0 x24_1).length : Int) (wrap64 (x31_2 + 1)) l0_0)) = some (r1, r2) := H
      have A22 := Aside0.mk A220
      clear A220
      replace H := ydy.mp H
      obtain ⟨t116, A230, H⟩ := H
      replace H : (impl_GluingNumber.l1 k2 y110 (wrap64 ((wrap64 (6 * x5_2)) + t116)) x24_1 l0_0 (l0_0.length : Int) x24_1 (rd_LFace l0_0 x24_1) ((rd_LFace l0_0 x24_1).length : Int) (wrap64 (x31_2 + 1)) l0_0) = some (r1, r2) := H
      have A23 := Aside0.mk A230
      clear A230
      have H' := Aside0.mk H
      clear H
      have p107 : 0 ≤ (x31_2 : Int) := of_decide_eq_true (by first | (with_reducible assumption) | assumption)
      have q107 : x31_2 < ((rd_LFace l0_0 x24_1).length : Int) := of_decide_eq_true (by first | (with_reducible assumption) | assumption)
      obtain ⟨ad107, e107, hx107_0, hx107_1⟩ := at_Face HR106_0.out x31_2 p107 q107
      cases e107
      replace hx107_0 := (HB.out.cell (yny w _ hx107_0)).trans hx107_0
      replace hx107_1 := (HB.out.cell (yny w _ hx107_1)).trans hx107_1
      replace p107 := eq_true p107
      replace q107 := eq_true q107
      try go_wp2_with (first | ((with_reducible refine gate_dst (N := 9) rfl ?_); refine box_event ?hg (N := 9) ?hd (cs := #[.int .i64 0, .int .i64 0]) (t := 47) ?hr ?_; (case hd => rfl); (case hg => rfl); (case hr => first | (go_simp; done) | (go_simp; rfl)); intro gb108 hg w24 hbox hb; have n0_ := Aside0.mk (Kd.R_below (by (with_reducible repeat (first | apply Kd.R_alloc | apply Kd.R_drewN | apply Kd.R_drew)); exact HO_4.out) hb); have n1_ := Aside0.mk (blk_below (g := gb101) (o := .cells #[.slice (some ad106) l0_0.length c0_0] 30 (0, 0)) (by (with_reducible repeat (first | refine blk_drewN ?_ _ | refine blk_drew ?_ | refine blk_alloc ?_ _)); exact BK101.out) hb); have n2_ := Aside0.mk (below_step (by repeat (first | (with_reducible first | exact HB.out | apply below_alloc | apply pw_below_drewN | apply below_drew1 | refine below_set ?_ GE101.out) | exact HB.out)) hb); have n3_ := Aside0.mk (hbox); have n4_ := Aside0.mk ((by rw [hg]; exact (below_size (by repeat (first | (with_reducible first | exact HB.out | apply below_alloc | apply pw_below_drewN | apply below_drew1 | refine below_set ?_ GE101.out) | exact HB.out))) : w.heap.size ≤ gb108)); have n5_ := Aside0.mk ((by rw [hg]; exact (below_size (by repeat (first | (with_reducible first | exact HB.out | apply below_alloc | apply pw_below_drewN | apply below_drew1 | refine below_set ?_ GE101.out) | exact HB.out))) : w.heap.size ≤ gb108)); have n6_ := Aside0.mk ((by rw [hg]; exact Nat.ne_of_lt (blk_lt (g := gb101) (o := .cells #[.slice (some ad106) l0_0.length c0_0] 30 (0, 0)) (by (with_reducible repeat (first | refine blk_drewN ?_ _ | refine blk_drew ?_ | refine blk_alloc ?_ _)); exact BK101.out)) : gb101 ≠ gb108)); have n7_ := Aside0.mk ((by rw [hg]; exact Nat.ne_of_gt (blk_lt (g := gb101) (o := .cells #[.slice (some ad106) l0_0.length c0_0] 30 (0, 0)) (by (with_reducible repeat (first | refine blk_drewN ?_ _ | refine blk_drew ?_ | refine blk_alloc ?_ _)); exact BK101.out)) : gb108 ≠ gb101)); clear HO_4; clear BK101; clear HB; have HO_4 := n0_; have BK101 := n1_; have HB := n2_; have BK108 := n3_; have GW108 := n4_; have GE108 := n5_; have NB101_108 := n6_; have NB108_101 := n7_; clear n0_ n1_ n2_ n3_ n4_ n5_ n6_ n7_; clear hb hbox hg; have hnb25 := NB108_101.out; have hnc25 := NB101_108.out; have hcz26_0 : w24.cell? ⟨gb108, 0, none⟩ = some (.int .i64 0) := (blk_cell BK108.out 0).trans rfl; have hcz26_1 : w24.cell? ⟨gb108, 1, none⟩ = some (.int .i64 0) := (blk_cell BK108.out 1).trans rfl; have hfz26_0 := blk_frozen BK108.out 0; have hfz26_1 := blk_frozen BK108.out 1))
      have n0_ : Aside0 (Kd.R (Kd.int .i64) 2 ((w24.setCell ⟨gb108, 0, none⟩ (.int .i64 ((rd_Face (rd_LFace l0_0 x24_1) x31_2).f0))).setCell ⟨gb108, 1, none⟩ (.int .i64 ((rd_Face (rd_LFace l0_0 x24_1) x31_2).f1))) w.heap.size (fun _ => True) u4 x4_2) := ⟨by (with_reducible repeat (first | apply Kd.R_alloc | apply Kd.R_drewN | apply Kd.R_drew)); exact Kd.R_mono (Kd.R_far (p := ⟨gb108, 1, none⟩) (Kd.R_far (p := ⟨gb108, 0, none⟩) (Kd.R_types HO_4.out BK108.out (by decide)) (fun _ hk => hk.2) (.int .i64 ((rd_Face (rd_LFace l0_0 x24_1) x31_2).f0))) (fun _ hk => hk.2) (.int .i64 ((rd_Face (rd_LFace l0_0 x24_1) x31_2).f1))) (fun _ hk => trivial)⟩
      have n1_ : Aside0 (((w24.setCell ⟨gb108, 0, none⟩ (.int .i64 ((rd_Face (rd_LFace l0_0 x24_1) x31_2).f0))).setCell ⟨gb108, 1, none⟩ (.int .i64 ((rd_Face (rd_LFace l0_0 x24_1) x31_2).f1))).heap[gb101]? = some (.cells #[.slice (some ad106) l0_0.length c0_0] 30 (0, 0))) := ⟨by (with_reducible repeat (first | refine blk_drewN ?_ _ | refine blk_drew ?_ | refine blk_alloc ?_ _)); refine blk_far ?_ NB101_108.out _; (with_reducible repeat (first | refine blk_drewN ?_ _ | refine blk_drew ?_ | refine blk_alloc ?_ _)); refine blk_far ?_ NB101_108.out _; (with_reducible repeat (first | refine blk_drewN ?_ _ | refine blk_drew ?_ | refine blk_alloc ?_ _)); exact BK101.out⟩
      have n2_ : Aside0 (((w24.setCell ⟨gb108, 0, none⟩ (.int .i64 ((rd_Face (rd_LFace l0_0 x24_1) x31_2).f0))).setCell ⟨gb108, 1, none⟩ (.int .i64 ((rd_Face (rd_LFace l0_0 x24_1) x31_2).f1))).heap[gb108]? = some (.cells #[.int .i64 ((rd_Face (rd_LFace l0_0 x24_1) x31_2).f0), .int .i64 ((rd_Face (rd_LFace l0_0 x24_1) x31_2).f1)] 47 (0, 0))) := ⟨by (with_reducible repeat (first | refine blk_drewN ?_ _ | refine blk_drew ?_ | refine blk_alloc ?_ _)); refine blk_put (cs := #[.int .i64 ((rd_Face (rd_LFace l0_0 x24_1) x31_2).f0), .int .i64 0]) ?_ 1 _ rfl; (with_reducible repeat (first | refine blk_drewN ?_ _ | refine blk_drew ?_ | refine blk_alloc ?_ _)); refine blk_put (cs := #[.int .i64 0, .int .i64 0]) ?_ 0 _ rfl; (with_reducible repeat (first | refine blk_drewN ?_ _ | refine blk_drew ?_ | refine blk_alloc ?_ _)); exact BK108.out⟩
      have n3_ : Aside0 (Below w.heap.size w ((w24.setCell ⟨gb108, 0, none⟩ (.int .i64 ((rd_Face (rd_LFace l0_0 x24_1) x31_2).f0))).setCell ⟨gb108, 1, none⟩ (.int .i64 ((rd_Face (rd_LFace l0_0 x24_1) x31_2).f1)))) := ⟨by repeat (first | (with_reducible first | exact HB.out | apply below_alloc | apply pw_below_drewN | apply below_drew1 | refine below_set ?_ GE101.out | refine below_set ?_ GE108.out) | exact HB.out)⟩
      (try clear HO_4)
      (try clear BK101)
      (try clear BK108)
      (try clear HB)
      generalize ((w24.setCell ⟨gb108, 0, none⟩ (.int .i64 ((rd_Face (rd_LFace l0_0 x24_1) x31_2).f0))).setCell ⟨gb108, 1, none⟩ (.int .i64 ((rd_Face (rd_LFace l0_0 x24_1) x31_2).f1))) = w27 at n0_ n1_ n2_ n3_ ⊢
      have HO_4 := n0_
      have BK101 := n1_
      have BK108 := n2_
      have HB := n3_
      clear n0_ n1_ n2_ n3_
      have n0_ := Aside0.mk (Kd.R_drew HO_4.out)
      have n1_ := Aside0.mk (blk_drew BK101.out)
      have n2_ := Aside0.mk (blk_drew BK108.out)
      have n3_ := Aside0.mk (below_drew1 HB.out)
      clear HO_4
      clear BK101
      clear BK108
      clear HB
      have HO_4 := n0_
      have BK101 := n1_
      have BK108 := n2_
      have HB := n3_
      clear n0_ n1_ n2_ n3_
      refine start_ (n := 13) (S := fun w' => w'.cell? ⟨gb108, 0, none⟩ = some (.int .i64 ((rd_Face (rd_LFace l0_0 x24_1) x31_2).f0)) ∧ w'.cell? ⟨gb108, 1, none⟩ = some (.int .i64 ((rd_Face (rd_LFace l0_0 x24_1) x31_2).f1))) (ds := []) #[false, false, false, false, false, false, false, false, false, false, false, false, false] (by kernel_rfl) rfl rfl ⟨(blk_cell BK108.out 0).trans rfl, (blk_cell BK108.out 1).trans rfl⟩ (fun hHeld => ?_); refine with_tabW impl_GluingNumber.tab13 impl_GluingNumber.bits13 (fun HT_ HW_ => ?_)
      generalize w27.drew = w28 at HO_4 BK101 BK108 HB hHeld ⊢
      refine pure_ (i := 0) (N := some 36) (v := ?_) (a' := ?_) #[true, false, false, false, false, false, false, false, false, false, false, false, false] rfl rfl (any_of HT_.out (by kernel_rfl)) (fun _ _ _ h => h) (Or.inl ⟨by rfl, ?_⟩) ?_ ?_
      rotate_left
      next =>
       intro w'
       go_simp
       with_reducible rfl
      rotate_left
      next =>
       simp only [Act.put, yay, yby, ycy, i64_w, i32_w]
       rfl
      refine pure_ (i := 1) (N := some 37) (v := ?_) (a' := ?_) #[true, true, false, false, false, false, false, false, false, false, false, false, false] rfl rfl (any_of HT_.out (by kernel_rfl)) (fun _ _ _ h => h) (Or.inl ⟨by rfl, ?_⟩) ?_ ?_
      rotate_left
      next =>
       intro w'
       go_simp
       with_reducible rfl
      rotate_left
      next =>
       simp only [Act.put, yay, yby, ycy, i64_w, i32_w]
       rfl
      refine pure_ (i := 2) (N := some 38) (v := ?_) (a' := ?_) #[true, true, true, false, false, false, false, false, false, false, false, false, false] rfl rfl (any_of HT_.out (by kernel_rfl)) (fun _ _ _ h => h) (Or.inl ⟨by rfl, ?_⟩) ?_ ?_
      rotate_left
      next =>
       intro w'
       go_simp
       with_reducible rfl
      rotate_left
      next =>
       simp only [Act.put, yay, yby, ycy, i64_w, i32_w]
       rfl
      refine pure_ (i := 3) (N := some 39) (v := ?_) (a' := ?_) #[true, true, true, true, false, false, false, false, false, false, false, false, false] rfl rfl (any_of HT_.out (by kernel_rfl)) (fun _ _ _ h => h) (Or.inl ⟨by rfl, ?_⟩) ?_ ?_
      rotate_left
      next =>
       intro w'
       go_simp
       with_reducible rfl
      rotate_left
      next =>
       simp only [Act.put, yay, yby, ycy, i64_w, i32_w]
       rfl
      refine pure_ (i := 4) (N := some 40) (v := ?_) (a' := ?_) #[true, true, true, true, true, false, false, false, false, false, false, false, false] rfl rfl (any_of HT_.out (by kernel_rfl)) (fun _ _ _ h => h) (Or.inl ⟨by rfl, ?_⟩) ?_ ?_
      rotate_left
      next =>
       intro w'
       go_simp
       with_reducible rfl
      rotate_left
      next =>
       simp only [Act.put, yay, yby, ycy, i64_w, i32_w]
       rfl
      refine pure_ (i := 8) (N := some 44) (v := ?_) (a' := ?_) #[true, true, true, true, true, false, false, false, true, false, false, false, false] rfl rfl (any_of HT_.out (by kernel_rfl)) (fun _ _ _ h => h) (Or.inl ⟨by rfl, ?_⟩) ?_ ?_
      rotate_left
      next =>
       intro w'
       go_simp
       with_reducible rfl
      rotate_left
      next =>
       simp only [Act.put, yay, yby, ycy, i64_w, i32_w]
       rfl
      refine take_ (i := 5) (N := some 41) (v := ?_) (a' := ?_) #[true, true, true, true, true, true, false, false, true, false, false, false, false] rfl rfl (take_ofW HT_.out HW_.out (by kernel_rfl)) (fun _ _ _ h => h) (Or.inl ⟨by rfl, ?_⟩) hHeld ?_ ?_
      rotate_left
      next =>
       rintro w' ⟨s0, s1⟩
       go_simp
       with_reducible rfl
      rotate_left
      next =>
       simp only [Act.put, yay, yby, ycy, i64_w, i32_w]
       rfl
      refine pure_ (i := 6) (N := some 42) (v := ?_) (a' := ?_) #[true, true, true, true, true, true, true, false, true, false, false, false, false] rfl rfl (any_of HT_.out (by kernel_rfl)) (fun _ _ _ h => h) (Or.inl ⟨by rfl, ?_⟩) ?_ ?_
      rotate_left
      next =>
       intro w'
       go_simp
       with_reducible rfl
      rotate_left
      next =>
       simp only [Act.put, yay, yby, ycy, i64_w, i32_w]
       rfl
      refine take_ (i := 7) (N := some 43) (v := ?_) (a' := ?_) #[true, true, true, true, true, true, true, true, true, false, false, false, false] rfl rfl (take_ofW HT_.out HW_.out (by kernel_rfl)) (fun _ _ _ h => h) (Or.inl ⟨by rfl, ?_⟩) hHeld ?_ ?_
      rotate_left
      next =>
       rintro w' ⟨s0, s1⟩
       go_simp
       with_reducible rfl
      rotate_left
      next =>
       simp only [Act.put, yay, yby, ycy, i64_w, i32_w]
       rfl
      refine one_ (i := 9) (N := some 45) #[true, true, true, true, true, true, true, true, true, true, false, false, false] rfl rfl (one_of HT_.out (by kernel_rfl)) (by decide) (fun K hK => ?_)
      refine goes_ Try.func27 (by kernel_rfl) rfl #[.agg #[.int .i64 ((rd_Face (rd_LFace l0_0 x24_1) x31_2).f0), .int .i64 ((rd_Face (rd_LFace l0_0 x24_1) x31_2).f1)], .int .i64 x31_2] (by rfl) rfl rfl (by (try simp only [yiy, yjy, yky]); first | done | rfl | (simp only [yly, ymy]; rfl)) ?_
      with_reducible refine (impl_Face_target.calls ((rd_Face (rd_LFace l0_0 x24_1) x31_2).f0) ((rd_Face (rd_LFace l0_0 x24_1) x31_2).f1) x31_2 t109 _ A19.out).mono ?_
      rintro e w29 ⟨rfl, hb⟩
      refine ⟨_, rfl, ?_⟩
      have n0_ := Aside0.mk (Kd.R_below (by (with_reducible repeat (first | apply Kd.R_alloc | apply Kd.R_drewN | apply Kd.R_drew)); exact HO_4.out) hb)
      have n1_ := Aside0.mk (blk_below (g := gb101) (o := .cells #[.slice (some ad106) l0_0.length c0_0] 30 (0, 0)) (by (with_reducible repeat (first | refine blk_drewN ?_ _ | refine blk_drew ?_ | refine blk_alloc ?_ _)); exact BK101.out) hb)
      have n2_ := Aside0.mk (blk_below (g := gb108) (o := .cells #[.int .i64 ((rd_Face (rd_LFace l0_0 x24_1) x31_2).f0), .int .i64 ((rd_Face (rd_LFace l0_0 x24_1) x31_2).f1)] 47 (0, 0)) (by (with_reducible repeat (first | refine blk_drewN ?_ _ | refine blk_drew ?_ | refine blk_alloc ?_ _)); exact BK108.out) hb)
      have n3_ := Aside0.mk (below_step (by repeat (first | (with_reducible first | exact HB.out | apply below_alloc | apply pw_below_drewN | apply below_drew1 | refine below_set ?_ GE101.out | refine below_set ?_ GE108.out) | exact HB.out)) hb)
      clear HO_4
      clear BK101
      clear BK108
      clear HB
      have HO_4 := n0_
      have BK101 := n1_
      have BK108 := n2_
      have HB := n3_
      clear n0_ n1_ n2_ n3_
      (try clear hb)
      (try clear hb2)
      (try clear hk)
      (try clear hi)
      refine hK.out _ _ ⟨(blk_cell BK108.out 0).trans rfl, (blk_cell BK108.out 1).trans rfl⟩ (fun hHeld => ?_)
      clear hK K
      refine norm_ (a' := ?_) ?_ ?_
      rotate_left
      next =>
       show Act.put _ (some 45) _ = _
       simp only [Act.put, yay, yby, ycy, i64_w, i32_w]
       rfl
      refine pure_ (i := 10) (N := some 46) (v := ?_) (a' := ?_) #[true, true, true, true, true, true, true, true, true, true, true, false, false] rfl rfl (any_of HT_.out (by kernel_rfl)) (fun _ _ _ h => h) (Or.inl ⟨by rfl, ?_⟩) ?_ ?_
      rotate_left
      next =>
       intro w'
       go_simp
       with_reducible rfl
      rotate_left
      next =>
       simp only [Act.put, yay, yby, ycy, i64_w, i32_w]
       rfl
      refine pure_ (i := 11) (N := some 10) (v := ?_) (a' := ?_) #[true, true, true, true, true, true, true, true, true, true, true, true, false] rfl rfl (any_of HT_.out (by kernel_rfl)) (fun _ _ _ h => h) (Or.inl ⟨by rfl, ?_⟩) ?_ ?_
      rotate_left
      next =>
       intro w'
       go_simp
       with_reducible rfl
      rotate_left
      next =>
       simp only [Act.put, yay, yby, ycy, i64_w, i32_w]
       rfl
      refine pure_ (i := 12) (N := some 11) (v := ?_) (a' := ?_) #[true, true, true, true, true, true, true, true, true, true, true, true, true] rfl rfl (any_of HT_.out (by kernel_rfl)) (fun _ _ _ h => h) (Or.inl ⟨by rfl, ?_⟩) ?_ ?_
      rotate_left
      next =>
       intro w'
       go_simp
       with_reducible rfl
      rotate_left
      next =>
       simp only [Act.put, yay, yby, ycy, i64_w, i32_w]
       rfl
      refine done_ (done_of HT_.out (by kernel_rfl)) ?_
      try go_wp2_with (first | ((with_reducible refine gate_builtin (b := .append) (xs := #[.tmp 47, .tmp 49]) rfl ?_); at_builtin; refine Kd.R_append (Kd.int .i64) (w0 := w) w.heap.size rfl (.tmp 47) (.tmp 49) 44 2 (.int .i64 0) 8 rfl Try.underlying44 info2 rfl (by decide) (by omega) u4 x4_2 (wrap64 ((wrap64 (4 * ((rd_Face (rd_LFace l0_0 x24_1) x31_2).f0))) + t109)) [.int .i64 (wrap64 ((wrap64 (4 * ((rd_Face (rd_LFace l0_0 x24_1) x31_2).f0))) + t109))] (fun _ => True) (fun _ => False) rfl rfl ?aP (fun _ hk => hk.elim) ?aF ?aO ?aB ?aS ?aL ?_; (case aP => exact rfl); (case aB => exact (by repeat (first | (with_reducible first | exact HB.out | apply below_alloc | apply pw_below_drewN | apply below_drew1 | refine below_set ?_ GE101.out | refine below_set ?_ GE108.out) | exact HB.out))); (case aF => exact (fun _ _ => trivial)); (case aO => exact (by (with_reducible repeat (first | apply Kd.R_alloc | apply Kd.R_drewN | apply Kd.R_drew)); exact HO_4.out)); (case aS => exact (below_size (by repeat (first | (with_reducible first | exact HB.out | apply below_alloc | apply pw_below_drewN | apply below_drew1 | refine below_set ?_ GE101.out | refine below_set ?_ GE108.out) | exact HB.out)))); (case aL => have := LMc20.out; omega); intro v111 w30 ho hb hg hat; rw [← Ny110.out] at ho; have n0_ := Aside0.mk (blk_grown (g := gb101) (o := .cells #[.slice (some ad106) l0_0.length c0_0] 30 (0, 0)) (by (with_reducible repeat (first | refine blk_drewN ?_ _ | refine blk_drew ?_ | refine blk_alloc ?_ _)); exact BK101.out) hg (Kd.R_ne HO_4.out BK101.out (by decide))); have n1_ := Aside0.mk (blk_grown (g := gb108) (o := .cells #[.int .i64 ((rd_Face (rd_LFace l0_0 x24_1) x31_2).f0), .int .i64 ((rd_Face (rd_LFace l0_0 x24_1) x31_2).f1)] 47 (0, 0)) (by (with_reducible repeat (first | refine blk_drewN ?_ _ | refine blk_drew ?_ | refine blk_alloc ?_ _)); exact BK108.out) hg (Kd.R_ne HO_4.out BK108.out (by decide))); have n2_ := Aside0.mk (hb); have n3_ := Aside0.mk (ho); clear BK101; clear BK108; clear HB; clear HO_4; have BK101 := n0_; have BK108 := n1_; have HB := n2_; have HO112 := n3_; clear n0_ n1_ n2_ n3_; clear ho hb hg hat))
      have n0_ := Aside0.mk (Kd.R_drew HO112.out)
      have n1_ := Aside0.mk (blk_drew BK101.out)
      have n2_ := Aside0.mk (blk_drew BK108.out)
      have n3_ := Aside0.mk (below_drew1 HB.out)
      clear HO112
      clear BK101
      clear BK108
      clear HB
      have HO112 := n0_
      have BK101 := n1_
      have BK108 := n2_
      have HB := n3_
      clear n0_ n1_ n2_ n3_
      refine start_ (n := 12) (S := fun w' => w'.cell? ⟨gb108, 0, none⟩ = some (.int .i64 ((rd_Face (rd_LFace l0_0 x24_1) x31_2).f0)) ∧ w'.cell? ⟨gb108, 1, none⟩ = some (.int .i64 ((rd_Face (rd_LFace l0_0 x24_1) x31_2).f1))) (ds := []) #[false, false, false, false, false, false, false, false, false, false, false, false] (by kernel_rfl) rfl rfl ⟨(blk_cell BK108.out 0).trans rfl, (blk_cell BK108.out 1).trans rfl⟩ (fun hHeld => ?_); refine with_tabW impl_GluingNumber.tab16 impl_GluingNumber.bits16 (fun HT_ HW_ => ?_)
      generalize w30.drew = w31 at HO112 BK101 BK108 HB hHeld ⊢
      refine pure_ (i := 0) (N := some 54) (v := ?_) (a' := ?_) #[true, false, false, false, false, false, false, false, false, false, false, false] rfl rfl (any_of HT_.out (by kernel_rfl)) (fun _ _ _ h => h) (Or.inl ⟨by rfl, ?_⟩) ?_ ?_
      rotate_left
      next =>
       intro w'
       go_simp
       with_reducible rfl
      rotate_left
      next =>
       simp only [Act.put, yay, yby, ycy, i64_w, i32_w]
       rfl
      refine pure_ (i := 1) (N := some 55) (v := ?_) (a' := ?_) #[true, true, false, false, false, false, false, false, false, false, false, false] rfl rfl (any_of HT_.out (by kernel_rfl)) (fun _ _ _ h => h) (Or.inl ⟨by rfl, ?_⟩) ?_ ?_
      rotate_left
      next =>
       intro w'
       go_simp
       with_reducible rfl
      rotate_left
      next =>
       simp only [Act.put, yay, yby, ycy, i64_w, i32_w]
       rfl
      refine pure_ (i := 2) (N := some 56) (v := ?_) (a' := ?_) #[true, true, true, false, false, false, false, false, false, false, false, false] rfl rfl (any_of HT_.out (by kernel_rfl)) (fun _ _ _ h => h) (Or.inl ⟨by rfl, ?_⟩) ?_ ?_
      rotate_left
      next =>
       intro w'
       go_simp
       with_reducible rfl
      rotate_left
      next =>
       simp only [Act.put, yay, yby, ycy, i64_w, i32_w]
       rfl
      refine pure_ (i := 3) (N := some 57) (v := ?_) (a' := ?_) #[true, true, true, true, false, false, false, false, false, false, false, false] rfl rfl (any_of HT_.out (by kernel_rfl)) (fun _ _ _ h => h) (Or.inl ⟨by rfl, ?_⟩) ?_ ?_
      rotate_left
      next =>
       intro w'
       go_simp
       with_reducible rfl
      rotate_left
      next =>
       simp only [Act.put, yay, yby, ycy, i64_w, i32_w]
       rfl
      refine pure_ (i := 4) (N := some 58) (v := ?_) (a' := ?_) #[true, true, true, true, true, false, false, false, false, false, false, false] rfl rfl (any_of HT_.out (by kernel_rfl)) (fun _ _ _ h => h) (Or.inl ⟨by rfl, ?_⟩) ?_ ?_
      rotate_left
      next =>
       intro w'
       go_simp
       with_reducible rfl
      rotate_left
      next =>
       simp only [Act.put, yay, yby, ycy, i64_w, i32_w]
       rfl
      refine pure_ (i := 5) (N := some 59) (v := ?_) (a' := ?_) #[true, true, true, true, true, true, false, false, false, false, false, false] rfl rfl (any_of HT_.out (by kernel_rfl)) (fun _ _ _ h => h) (Or.inl ⟨by rfl, ?_⟩) ?_ ?_
      rotate_left
      next =>
       intro w'
       go_simp
       with_reducible rfl
      rotate_left
      next =>
       simp only [Act.put, yay, yby, ycy, i64_w, i32_w]
       rfl
      refine pure_ (i := 7) (N := some 61) (v := ?_) (a' := ?_) #[true, true, true, true, true, true, false, true, false, false, false, false] rfl rfl (any_of HT_.out (by kernel_rfl)) (fun _ _ _ h => h) (Or.inl ⟨by rfl, ?_⟩) ?_ ?_
      rotate_left
      next =>
       intro w'
       go_simp
       with_reducible rfl
      rotate_left
      next =>
       simp only [Act.put, yay, yby, ycy, i64_w, i32_w]
       rfl
      refine take_ (i := 8) (N := some 62) (v := ?_) (a' := ?_) #[true, true, true, true, true, true, false, true, true, false, false, false] rfl rfl (take_ofW HT_.out HW_.out (by kernel_rfl)) (fun _ _ _ h => h) (Or.inl ⟨by rfl, ?_⟩) hHeld ?_ ?_
      rotate_left
      next =>
       rintro w' ⟨s0, s1⟩
       go_simp
       with_reducible rfl
      rotate_left
      next =>
       simp only [Act.put, yay, yby, ycy, i64_w, i32_w]
       rfl
      refine one_ (i := 6) (N := some 60) #[true, true, true, true, true, true, true, true, true, false, false, false] rfl rfl (one_of HT_.out (by kernel_rfl)) (by decide) (fun K hK => ?_)
      refine goes_ Try.func29 (by kernel_rfl) rfl #[.int .i64 (Int.tmod (wrap64 ((wrap64 (4 * x24_1)) + x31_2)) 4), .int .i64 (Int.tmod (wrap64 ((wrap64 (4 * ((rd_Face (rd_LFace l0_0 x24_1) x31_2).f0))) + t109)) 4)] (by rfl) rfl rfl (by (try simp only [yiy, yjy, yky]); first | done | rfl | (simp only [yly, ymy]; rfl)) ?_
      with_reducible refine (impl_mapping.calls (Int.tmod (wrap64 ((wrap64 (4 * x24_1)) + x31_2)) 4) (Int.tmod (wrap64 ((wrap64 (4 * ((rd_Face (rd_LFace l0_0 x24_1) x31_2).f0))) + t109)) 4) t113 _ A22.out).mono ?_
      rintro e w32 ⟨v114, rfl, ho0, hb⟩
      refine ⟨_, rfl, ?_⟩
      have n0_ := Aside0.mk (Kd.R_elder' (by (with_reducible repeat (first | apply Kd.R_alloc | apply Kd.R_drewN | apply Kd.R_drew)); exact HO112.out) (Kd.R_base ho0) hb)
      have n1_ := Aside0.mk (Kd.R_lower (Kd.R_new' ho0 (Kd.R_lt (by (with_reducible repeat (first | apply Kd.R_alloc | apply Kd.R_drewN | apply Kd.R_drew)); exact HO112.out))) (below_size (by repeat (first | (with_reducible first | exact HB.out | apply below_alloc | apply pw_below_drewN | apply below_drew1 | refine below_set ?_ GE101.out | refine below_set ?_ GE108.out) | exact HB.out))))
      have n2_ := Aside0.mk (blk_below (g := gb101) (o := .cells #[.slice (some ad106) l0_0.length c0_0] 30 (0, 0)) (by (with_reducible repeat (first | refine blk_drewN ?_ _ | refine blk_drew ?_ | refine blk_alloc ?_ _)); exact BK101.out) hb)
      have n3_ := Aside0.mk (blk_below (g := gb108) (o := .cells #[.int .i64 ((rd_Face (rd_LFace l0_0 x24_1) x31_2).f0), .int .i64 ((rd_Face (rd_LFace l0_0 x24_1) x31_2).f1)] 47 (0, 0)) (by (with_reducible repeat (first | refine blk_drewN ?_ _ | refine blk_drew ?_ | refine blk_alloc ?_ _)); exact BK108.out) hb)
      have n4_ := Aside0.mk (below_step (by repeat (first | (with_reducible first | exact HB.out | apply below_alloc | apply pw_below_drewN | apply below_drew1 | refine below_set ?_ GE101.out | refine below_set ?_ GE108.out) | exact HB.out)) hb)
      clear HO112
      clear BK101
      clear BK108
      clear HB
      have HO112 := n0_
      have HO115 := n1_
      have BK101 := n2_
      have BK108 := n3_
      have HB := n4_
      clear n0_ n1_ n2_ n3_ n4_
      (try clear hb)
      (try clear hb2)
      (try clear hk)
      (try clear hi)
      (try clear ho0)
      obtain ⟨Ao33, co33, eo33⟩ := Kd.R_slice HO115.out
      (first | subst eo33 | (injection eo33 with f1_ f2_ f3_; have f4_ := f1_.symm; have f5_ := f3_.symm; clear f1_ f2_ f3_; subst f4_; subst f5_))
      refine hK.out _ _ ⟨(blk_cell BK108.out 0).trans rfl, (blk_cell BK108.out 1).trans rfl⟩ (fun hHeld => ?_)
      clear hK K
      refine norm_ (a' := ?_) ?_ ?_
      rotate_left
      next =>
       show Act.put _ (some 60) _ = _
       simp only [Act.put, yay, yby, ycy, i64_w, i32_w]
       rfl
      refine one_ (i := 9) (N := some 63) #[true, true, true, true, true, true, true, true, true, true, false, false] rfl rfl (one_of HT_.out (by kernel_rfl)) (by decide) (fun K hK => ?_)
      refine goes_ Try.func28 (by kernel_rfl) rfl #[.slice Ao33 t113.length co33, .int .i64 ((rd_Face (rd_LFace l0_0 x24_1) x31_2).f1)] (by rfl) rfl rfl (by (try simp only [yiy, yjy, yky]); first | done | rfl | (simp only [yly, ymy]; rfl)) ?_
      with_reducible refine (slices_Index_Sint64.calls k2 _ _ t113 ((rd_Face (rd_LFace l0_0 x24_1) x31_2).f1) t116 _ ?side1 ?side2 A23.out).mono ?_
      (case side1 => repeat (first | exact (Kd.R_reads' HO115.out).2.2 | (with_reducible refine Kd.C_alloc ?_ _) | (with_reducible refine Kd.C_drewN ?_ _) | (with_reducible refine Kd.C_drew ?_)))
      (case side2 => exact (Kd.R_reads' HO115.out).2.1)
      rintro e w' ⟨rfl, ⟨nd, rfl⟩⟩
      refine ⟨_, rfl, ?_⟩
      refine hK.out _ _ ⟨(blk_cell BK108.out 0).trans rfl, (blk_cell BK108.out 1).trans rfl⟩ (fun hHeld => ?_)
      clear hK K
      refine norm_ (a' := ?_) ?_ ?_
      rotate_left
      next =>
       show Act.put _ (some 63) _ = _
       simp only [Act.put, yay, yby, ycy, i64_w, i32_w]
       rfl
      refine pure_ (i := 10) (N := some 64) (v := ?_) (a' := ?_) #[true, true, true, true, true, true, true, true, true, true, true, false] rfl rfl (any_of HT_.out (by kernel_rfl)) (fun _ _ _ h => h) (Or.inl ⟨by rfl, ?_⟩) ?_ ?_
      rotate_left
      next =>
       intro w'
       go_simp
       with_reducible rfl
      rotate_left
      next =>
       simp only [Act.put, yay, yby, ycy, i64_w, i32_w]
       rfl
      refine pure_ (i := 11) (N := some 5) (v := ?_) (a' := ?_) #[true, true, true, true, true, true, true, true, true, true, true, true] rfl rfl (any_of HT_.out (by kernel_rfl)) (fun _ _ _ h => h) (Or.inl ⟨by rfl, ?_⟩) ?_ ?_
      rotate_left
      next =>
       intro w'
       go_simp
       with_reducible rfl
      rotate_left
      next =>
       simp only [Act.put, yay, yby, ycy, i64_w, i32_w]
       rfl
      refine done_ (done_of HT_.out (by kernel_rfl)) ?_
      try go_wp2
      go_roundg k2
      case measure => have := HK1.out; have := HK2.out; omega
      case rel => exact ⟨(y110), (wrap64 ((wrap64 (6 * x5_2)) + t116)), (wrap64 (x31_2 + 1)), (by first | rfl | (simp; done) | (simp [*]; done)), (by first | rfl | (simp; done) | (simp [*]; done)), H', ⟨by have := HK1.out; have := HK2.out; omega⟩, ⟨by (with_reducible repeat (first | apply Kd.R_alloc | apply Kd.R_drewN | apply Kd.R_drew)); exact Kd.R_mono HO112.out (fun _ hk => trivial)⟩, ⟨by (with_reducible repeat (first | refine blk_drewN ?_ _ | refine blk_drew ?_ | refine blk_alloc ?_ _)); exact BK101.out⟩, ⟨by repeat (first | (with_reducible first | exact HB.out | apply below_alloc | apply pw_below_drewN | apply below_drew1 | refine below_set ?_ GE101.out | refine below_set ?_ GE108.out) | exact HB.out)⟩⟩
/-! ### impl_IsClosed: function 17 -/
def impl_IsClosed.f (k : Nat) (l0_0 : List (List (SFace))) : Option (Bool) := (impl_isClosed.f k l0_0).bind fun t102 => (some t102)
set_option maxHeartbeats 8000000 in
set_option maxRecDepth 100000 in
theorem impl_IsClosed.calls (k : Nat) (A0_0 : Option Addr) (c0_0 : Nat) (l0_0 : List (List (SFace))) (r : Bool) (w : World) (hr0_0 : Kd.C (Kd.slice 47 kFace) w A0_0 l0_0.length l0_0) (hc0_0 : l0_0.length ≤ c0_0) (h : impl_IsClosed.f k l0_0 = some r) :
    Calls Try.prog 17 #[.agg #[.slice A0_0 l0_0.length c0_0]] w fun e w' => e = .returned (.bool r) ∧ Below w.heap.size w w' := by
  have hu30 := Try.underlying30
  have HR0_0 := Aside0.mk hr0_0
  have HC0_0 := Aside0.mk hc0_0
  clear hr0_0 hc0_0
  have HB := Aside0.mk (Below.refl w.heap.size w)
  have H : ((impl_isClosed.f k l0_0).bind fun t102 => (some t102)) = some r := h
  clear h
  replace H := ydy.mp H
  obtain ⟨t102, A20, H⟩ := H
  replace H : (some t102) = some r := H
  have A2 := Aside0.mk A20
  clear A20
  obtain rfl := yey H
  go_enter Try.func17, Try.ntmps17
  go_wp2_with (first | ((with_reducible refine gate_dst (N := 1) rfl ?_); refine box_event ?hg (N := 1) ?hd (cs := #[.slice A0_0 l0_0.length c0_0]) (t := 30) ?hr ?_; (case hd => rfl); (case hg => rfl); (case hr => first | (go_simp; done) | (go_simp; rfl)); intro gb101 hg w3 hbox hb; have n0_ := Aside0.mk (below_step (by repeat (first | (with_reducible first | exact HB.out | apply below_alloc | apply pw_below_drewN | apply below_drew1) | exact HB.out)) hb); have n1_ := Aside0.mk (hbox); have n2_ := Aside0.mk ((by rw [hg]; exact (below_size (by repeat (first | (with_reducible first | exact HB.out | apply below_alloc | apply pw_below_drewN | apply below_drew1) | exact HB.out))) : w.heap.size ≤ gb101)); have n3_ := Aside0.mk ((by rw [hg]; exact (below_size (by repeat (first | (with_reducible first | exact HB.out | apply below_alloc | apply pw_below_drewN | apply below_drew1) | exact HB.out))) : w.heap.size ≤ gb101)); clear HB; have HB := n0_; have BK101 := n1_; have GW101 := n2_; have GE101 := n3_; clear n0_ n1_ n2_ n3_; clear hb hbox hg; have hcz4_0 : w3.cell? ⟨gb101, 0, none⟩ = some (.slice A0_0 l0_0.length c0_0) := (blk_cell BK101.out 0).trans rfl; have hfz4_0 := blk_frozen BK101.out 0) | ((with_reducible refine gate_callee (f := 26) rfl ?_); refine goesL_ (some 4) rfl rfl Try.func26 (by kernel_rfl) rfl #[.agg #[.slice A0_0 l0_0.length c0_0]] rfl (by (try simp only [yiy, yjy, yky]); first | done | rfl | (simp only [yly, ymy]; rfl)) ?_; (with_reducible refine (impl_isClosed.calls k _ _ l0_0 t102 _ ?side1 ?side2 A2.out).mono ?_); (case side1 => repeat (first | exact (Kd.C_below HR0_0.out HB.out) | (with_reducible refine Kd.C_alloc ?_ _) | (with_reducible refine Kd.C_drewN ?_ _) | (with_reducible refine Kd.C_drew ?_))); (case side2 => exact HC0_0.out); rintro e w5 ⟨rfl, hb⟩; refine ⟨_, rfl, ?_⟩; have n0_ := Aside0.mk (blk_below (g := gb101) (o := .cells #[.slice A0_0 l0_0.length c0_0] 30 (0, 0)) (by (with_reducible repeat (first | refine blk_drewN ?_ _ | refine blk_drew ?_ | refine blk_alloc ?_ _)); exact BK101.out) hb); have n1_ := Aside0.mk (below_step (by repeat (first | (with_reducible first | exact HB.out | apply below_alloc | apply pw_below_drewN | apply below_drew1 | refine below_set ?_ GE101.out) | exact HB.out)) hb); clear BK101; clear HB; have BK101 := n0_; have HB := n1_; clear n0_ n1_; (try clear hb); (try clear hb2); (try clear hk); (try clear hi)))
  go_ret
  exact ⟨by first | rfl | (simp [errW_none, errW_some] <;> rfl) | (simp [*, errW_none, errW_some] <;> rfl), by repeat (first | (with_reducible first | exact HB.out | apply below_alloc | apply pw_below_drewN | apply below_drew1 | refine below_set ?_ GE101.out) | exact HB.out)⟩
/-! ### laws_big: function 15 -/
def laws_big.f (l0 : List Int) : Option (Bool) := some (decide ((l0.length : Int) > 4096))
set_option maxHeartbeats 8000000 in
set_option maxRecDepth 100000 in
theorem laws_big.calls (A0 : Option Addr) (c0 : Nat) (l0 : List Int) (r : Bool) (w : World) (hr0 : Kd.C (Kd.int .u8) w A0 l0.length l0) (hc0 : l0.length ≤ c0) (h : laws_big.f l0 = some r) :
    Calls Try.prog 15 #[.slice A0 l0.length c0] w fun e w' => e = .returned (.bool r) ∧ Drawn0 w w' := by
  have HR0 := Aside0.mk hr0
  have HC0 := Aside0.mk hc0
  clear hr0 hc0
  have H : (some (decide ((l0.length : Int) > 4096))) = some r := h
  clear h
  obtain rfl := yey H
  go_enter Try.func15, Try.ntmps15
  go_wp2
  go_ret
  exact ⟨by first | rfl | (simp; done) | (simp [*]; done), by repeat (first | exact Drawn0.refl _ | apply Drawn0.step)⟩
/-! ### spec_l07In: function 34 -/
def spec_l07In.f (a0 : Int) (a1 : Int) (a2 : Int) : Option (Bool) := if a0 ≥ a1 then (some (decide (a0 ≤ a2))) else (some false)
set_option maxHeartbeats 8000000 in
set_option maxRecDepth 100000 in
theorem spec_l07In.calls (a0 : Int) (a1 : Int) (a2 : Int) (r : Bool) (w : World) (h : spec_l07In.f a0 a1 a2 = some r) :
    Calls Try.prog 34 #[.int .i64 a0, .int .i64 a1, .int .i64 a2] w fun e w' => e = .returned (.bool r) ∧ Drawn0 w w' := by
  have H : (if a0 ≥ a1 then (some (decide (a0 ≤ a2))) else (some false)) = some r := h
  clear h
  by_cases c4 : a0 ≥ a1
  · rw [if_pos c4] at H
    have c4b0 : decide (a1 ≤ a0) = true := ygy c4
    clear c4
    obtain rfl := yey H
    go_enter Try.func34, Try.ntmps34
    go_wp2
    go_ret
    exact ⟨by first | rfl | (simp; done) | (simp [*]; done), by repeat (first | exact Drawn0.refl _ | apply Drawn0.step)⟩
  · rw [if_neg c4] at H
    have c4b0 : decide (a1 ≤ a0) = false := yhy c4
    clear c4
    obtain rfl := yey H
    go_enter Try.func34, Try.ntmps34
    go_wp2
    go_ret
    exact ⟨by first | rfl | (simp; done) | (simp [*]; done), by repeat (first | exact Drawn0.refl _ | apply Drawn0.step)⟩
/-! ### spec_l16Matchings: function 23 -/
def spec_l16Matchings.l0 : Nat → Int → Int → Option (Int)
  | 0, _, _ => none
  | k + 1, x3, x4 => if x4 > 1 then (spec_l16Matchings.l0 k (wrap64 (x3 * x4)) (wrap64 (x4 - 2))) else (some x3)
def spec_l16Matchings.f (k : Nat) (a0 : Int) : Option (Int) := spec_l16Matchings.l0 k 1 (wrap64 (a0 - 1))
theorem spec_l16Matchings.mono_l : ∀ k, (∀ y0 y1, LeO (spec_l16Matchings.l0 k y0 y1) (spec_l16Matchings.l0 (k + 1) y0 y1))
  | 0 => fun _ _ r h => by simp [spec_l16Matchings.l0] at h
  | k + 1 => by
    have ih0 := spec_l16Matchings.mono_l k
    · intro y0 y1
      unfold spec_l16Matchings.l0
      repeat' first
      | (with_reducible exact ih0 _ _)
      | (with_reducible exact LeO.refl _)
      | (with_reducible exact LeO.none _)
      | (with_reducible refine LeO.ite ?_ ?_)
      | (with_reducible refine LeO.bind ?_ (fun _ => ?_))
      | exact ih0 _ _
      | exact LeO.none _
      | refine LeO.ite ?_ ?_
      | refine LeO.bind ?_ (fun _ => ?_)
theorem spec_l16Matchings.mono : ∀ a0 k, LeO (spec_l16Matchings.f k a0) (spec_l16Matchings.f (k + 1) a0) := by
  intro a0 k
  have ih0 := spec_l16Matchings.mono_l k
  unfold spec_l16Matchings.f
  repeat' first
      | (with_reducible exact ih0 _ _)
      | (with_reducible exact LeO.refl _)
      | (with_reducible exact LeO.none _)
      | (with_reducible refine LeO.ite ?_ ?_)
      | (with_reducible refine LeO.bind ?_ (fun _ => ?_))
      | exact ih0 _ _
      | exact LeO.none _
      | refine LeO.ite ?_ ?_
      | refine LeO.bind ?_ (fun _ => ?_)
set_option maxHeartbeats 8000000 in
set_option maxRecDepth 100000 in
theorem spec_l16Matchings.calls (k : Nat) (a0 : Int) (r : Int) (w : World) (h : spec_l16Matchings.f k a0 = some r) :
    Calls Try.prog 23 #[.int .i64 a0] w fun e w' => e = .returned (.int .i64 r) ∧ Drawn0 w w' := by
  have H : (spec_l16Matchings.l0 k 1 (wrap64 (a0 - 1))) = some r := h
  clear h
  have H' := Aside0.mk H
  clear H
  go_enter Try.func23, Try.ntmps23
  go_wp2
  go_loopg [3, 4] k (fun kq v3 v4 w' => ∃ (x3_1 : Int) (x4_1 : Int), v3 = .int .i64 x3_1 ∧ v4 = .int .i64 x4_1 ∧ Aside0 (spec_l16Matchings.l0 kq x3_1 x4_1 = some r) ∧ Aside0 (kq ≤ k) ∧ Drawn0 w w')
  case atStart => exact ⟨(1), (wrap64 (a0 - 1)), (by first | rfl | (simp; done) | (simp [*]; done)), (by first | rfl | (simp; done) | (simp [*]; done)), H', ⟨yoy _⟩, by repeat (first | exact Drawn0.refl _ | apply Drawn0.step)⟩
  case round =>
    clear H'
    obtain ⟨x3_1, x4_1, rfl, rfl, HA, HK1, ⟨m1, rfl⟩⟩ := hrel
    cases gk with
    | zero => exact absurd HA.out (by simp [spec_l16Matchings.l0])
    | succ k1 =>
      have H := HA.out
      clear HA
      simp only [spec_l16Matchings.l0] at H
      by_cases c2 : x4_1 > 1
      · rw [if_pos c2] at H
        have c2b0 : decide (1 < x4_1) = true := ygy c2
        clear c2
        have H' := Aside0.mk H
        clear H
        go_wp2
        go_roundg k1
        case measure => have := HK1.out; omega
        case rel => exact ⟨(wrap64 (x3_1 * x4_1)), (wrap64 (x4_1 - 2)), (by first | rfl | (simp; done) | (simp [*]; done)), (by first | rfl | (simp; done) | (simp [*]; done)), H', ⟨by have := HK1.out; omega⟩, by repeat (first | exact Drawn0.refl _ | apply Drawn0.step)⟩
      · rw [if_neg c2] at H
        have c2b0 : decide (1 < x4_1) = false := yhy c2
        clear c2
        obtain rfl := yey H
        go_wp2
        go_ret
        exact ⟨by first | rfl | (simp; done) | (simp [*]; done), by repeat (first | exact Drawn0.refl _ | apply Drawn0.step)⟩
/-! ### spec_l16Size: function 35 -/
def spec_l16Size.l0 : Nat → Int → Int → Int → Option (Int)
  | 0, _, _, _ => none
  | k + 1, x0, x3, x4 => if x4 < (wrap64 (2 * x0)) then (spec_l16Size.l0 k x0 (wrap64 (x3 * 6)) (wrap64 (x4 + 1))) else (some x3)
def spec_l16Size.f (k : Nat) (a0 : Int) : Option (Int) := (spec_l16Matchings.f k (wrap64 (4 * a0))).bind fun t101 => (spec_l16Size.l0 k a0 t101 0)
theorem spec_l16Size.mono_l : ∀ k, (∀ y0 y1 y2, LeO (spec_l16Size.l0 k y0 y1 y2) (spec_l16Size.l0 (k + 1) y0 y1 y2))
  | 0 => fun _ _ _ r h => by simp [spec_l16Size.l0] at h
  | k + 1 => by
    have ih0 := spec_l16Size.mono_l k
    · intro y0 y1 y2
      unfold spec_l16Size.l0
      repeat' first
      | (with_reducible exact ih0 _ _ _)
      | (with_reducible exact spec_l16Matchings.mono _ _)
      | (with_reducible exact LeO.refl _)
      | (with_reducible exact LeO.none _)
      | (with_reducible refine LeO.ite ?_ ?_)
      | (with_reducible refine LeO.bind ?_ (fun _ => ?_))
      | exact ih0 _ _ _
      | exact spec_l16Matchings.mono _ _
      | exact LeO.none _
      | refine LeO.ite ?_ ?_
      | refine LeO.bind ?_ (fun _ => ?_)
theorem spec_l16Size.mono : ∀ a0 k, LeO (spec_l16Size.f k a0) (spec_l16Size.f (k + 1) a0) := by
  intro a0 k
  have ih0 := spec_l16Size.mono_l k
  unfold spec_l16Size.f
  repeat' first
      | (with_reducible exact ih0 _ _ _)
      | (with_reducible exact spec_l16Matchings.mono _ _)
      | (with_reducible exact LeO.refl _)
      | (with_reducible exact LeO.none _)
      | (with_reducible refine LeO.ite ?_ ?_)
      | (with_reducible refine LeO.bind ?_ (fun _ => ?_))
      | exact ih0 _ _ _
      | exact spec_l16Matchings.mono _ _
      | exact LeO.none _
      | refine LeO.ite ?_ ?_
      | refine LeO.bind ?_ (fun _ => ?_)
set_option maxHeartbeats 8000000 in
set_option maxRecDepth 100000 in
theorem spec_l16Size.calls (k : Nat) (a0 : Int) (r : Int) (w : World) (h : spec_l16Size.f k a0 = some r) :
    Calls Try.prog 35 #[.int .i64 a0] w fun e w' => e = .returned (.int .i64 r) ∧ Drawn0 w w' := by
  have H : ((spec_l16Matchings.f k (wrap64 (4 * a0))).bind fun t101 => (spec_l16Size.l0 k a0 t101 0)) = some r := h
  clear h
  replace H := ydy.mp H
  obtain ⟨t101, A20, H⟩ := H
  replace H : (spec_l16Size.l0 k a0 t101 0) = some r := H
  have A2 := Aside0.mk A20
  clear A20
  have H' := Aside0.mk H
  clear H
  go_enter Try.func35, Try.ntmps35
  go_wp2_with (first | ((with_reducible refine gate_callee (f := 23) rfl ?_); refine goesL_ (some 7) rfl rfl Try.func23 (by kernel_rfl) rfl #[.int .i64 (wrap64 (4 * a0))] rfl (by (try simp only [yiy, yjy, yky]); first | done | rfl | (simp only [yly, ymy]; rfl)) ?_; (with_reducible refine (spec_l16Matchings.calls k (wrap64 (4 * a0)) t101 _ A2.out).mono ?_); rintro e w' ⟨rfl, ⟨nd, rfl⟩⟩; refine ⟨_, rfl, ?_⟩))
  go_loopg [3, 4] k (fun kq v3 v4 w' => ∃ (x3_1 : Int) (x4_1 : Int), v3 = .int .i64 x3_1 ∧ v4 = .int .i64 x4_1 ∧ Aside0 (spec_l16Size.l0 kq a0 x3_1 x4_1 = some r) ∧ Aside0 (kq ≤ k) ∧ Drawn0 w w')
  case atStart => exact ⟨(t101), (0), (by first | rfl | (simp; done) | (simp [*]; done)), (by first | rfl | (simp; done) | (simp [*]; done)), H', ⟨yoy _⟩, by repeat (first | exact Drawn0.refl _ | apply Drawn0.step)⟩
  case round =>
    clear H'
    try clear c2
    try clear p2
    obtain ⟨x3_1, x4_1, rfl, rfl, HA, HK1, ⟨m1, rfl⟩⟩ := hrel
    cases gk with
    | zero => exact absurd HA.out (by simp [spec_l16Size.l0])
    | succ k1 =>
      have H := HA.out
      clear HA
      simp only [spec_l16Size.l0] at H
      by_cases c3 : x4_1 < (wrap64 (2 * a0))
      · rw [if_pos c3] at H
        have c3b0 : decide (x4_1 < (wrap64 (2 * a0))) = true := ygy c3
        clear c3
        have H' := Aside0.mk H
        clear H
        go_wp2
        go_roundg k1
        case measure => have := HK1.out; omega
        case rel => exact ⟨(wrap64 (x3_1 * 6)), (wrap64 (x4_1 + 1)), (by first | rfl | (simp; done) | (simp [*]; done)), (by first | rfl | (simp; done) | (simp [*]; done)), H', ⟨by have := HK1.out; omega⟩, by repeat (first | exact Drawn0.refl _ | apply Drawn0.step)⟩
      · rw [if_neg c3] at H
        have c3b0 : decide (x4_1 < (wrap64 (2 * a0))) = false := yhy c3
        clear c3
        obtain rfl := yey H
        go_wp2
        go_ret
        exact ⟨by first | rfl | (simp; done) | (simp [*]; done), by repeat (first | exact Drawn0.refl _ | apply Drawn0.step)⟩
/-! ### spec_GluingCount: function 44 -/
def spec_GluingCount.f (k : Nat) (a0 : Int) : Option (Int) := (spec_l07In.f a0 1 4).bind fun t101 => (if t101 = true then ((spec_l16Size.f k a0).bind fun t102 => (some t102)) else (some (-1)))
set_option maxHeartbeats 8000000 in
set_option maxRecDepth 100000 in
theorem spec_GluingCount.calls (k : Nat) (a0 : Int) (r : Int) (w : World) (h : spec_GluingCount.f k a0 = some r) :
    Calls Try.prog 44 #[.int .i64 a0] w fun e w' => e = .returned (.int .i64 r) ∧ Drawn0 w w' := by
  have H : ((spec_l07In.f a0 1 4).bind fun t101 => (if t101 = true then ((spec_l16Size.f k a0).bind fun t102 => (some t102)) else (some (-1)))) = some r := h
  clear h
  replace H := ydy.mp H
  obtain ⟨t101, A20, H⟩ := H
  replace H : (if t101 = true then ((spec_l16Size.f k a0).bind fun t102 => (some t102)) else (some (-1))) = some r := H
  have A2 := Aside0.mk A20
  clear A20
  by_cases c3 : t101 = true
  · subst c3
    have H1 : ((spec_l16Size.f k a0).bind fun t102 => (some t102)) = some r := by rw [if_pos rfl] at H; exact H
    clear H
    have H := H1
    clear H1
    replace H := ydy.mp H
    obtain ⟨t102, A40, H⟩ := H
    replace H : (some t102) = some r := H
    have A4 := Aside0.mk A40
    clear A40
    obtain rfl := yey H
    go_enter Try.func44, Try.ntmps44
    go_wp2_with (first | ((with_reducible refine gate_callee (f := 34) rfl ?_); refine goesL_ (some 4) rfl rfl Try.func34 (by kernel_rfl) rfl #[.int .i64 a0, .int .i64 1, .int .i64 4] rfl (by (try simp only [yiy, yjy, yky]); first | done | rfl | (simp only [yly, ymy]; rfl)) ?_; (with_reducible refine (spec_l07In.calls a0 1 4 true _ A2.out).mono ?_); rintro e w' ⟨rfl, ⟨nd, rfl⟩⟩; refine ⟨_, rfl, ?_⟩) | ((with_reducible refine gate_callee (f := 35) rfl ?_); refine goesL_ (some 7) rfl rfl Try.func35 (by kernel_rfl) rfl #[.int .i64 a0] rfl (by (try simp only [yiy, yjy, yky]); first | done | rfl | (simp only [yly, ymy]; rfl)) ?_; (with_reducible refine (spec_l16Size.calls k a0 t102 _ A4.out).mono ?_); rintro e w' ⟨rfl, ⟨nd, rfl⟩⟩; refine ⟨_, rfl, ?_⟩))
    go_ret
    exact ⟨by first | rfl | (simp; done) | (simp [*]; done), by repeat (first | exact Drawn0.refl _ | apply Drawn0.step)⟩
  · replace c3 := Bool.eq_false_iff.mpr c3
    subst c3
    have H1 : (some (-1)) = some r := by rw [if_neg (show ¬ (false = true) by decide)] at H; exact H
    clear H
    have H := H1
    clear H1
    obtain rfl := yey H
    go_enter Try.func44, Try.ntmps44
    go_wp2_with (first | ((with_reducible refine gate_callee (f := 34) rfl ?_); refine goesL_ (some 4) rfl rfl Try.func34 (by kernel_rfl) rfl #[.int .i64 a0, .int .i64 1, .int .i64 4] rfl (by (try simp only [yiy, yjy, yky]); first | done | rfl | (simp only [yly, ymy]; rfl)) ?_; (with_reducible refine (spec_l07In.calls a0 1 4 false _ A2.out).mono ?_); rintro e w' ⟨rfl, ⟨nd, rfl⟩⟩; refine ⟨_, rfl, ?_⟩))
    go_ret
    exact ⟨by first | rfl | (simp; done) | (simp [*]; done), by repeat (first | exact Drawn0.refl _ | apply Drawn0.step)⟩
/-- A state of type 81 at block g of W; what its slices lead to came in by w0. -/
def IsS81 (w0 W : World) (g : Nat) (f0 : List Int) (f1 : Int) (f2 : Int) : Prop := ∃ A0 c0, W.heap[g]? = some (.cells #[.slice A0 f0.length c0, .int .i64 f1, .int .i64 f2] 81 (0, 0)) ∧ w0.heap.size ≤ g ∧ Kd.C (Kd.int .u8) w0 A0 f0.length f0
theorem IsS81.grown {w0 W : World} {g : Nat} {f0 : List Int} {f1 : Int} {f2 : Int} {W1 : World} {row : Option Nat} (h : IsS81 w0 W g f0 f1 f2) (hw : W.grownBy W1 row) (hne : some g ≠ row) : IsS81 w0 W1 g f0 f1 f2 := by
 obtain ⟨A0, c0, hb, hg, hr0⟩ := h
 exact ⟨A0, c0, blk_grown hb hw hne, hg, hr0⟩
theorem IsS81.below {w0 W : World} {g : Nat} {f0 : List Int} {f1 : Int} {f2 : Int} {W1 : World} (h : IsS81 w0 W g f0 f1 f2) (hw : Below W.heap.size W W1) : IsS81 w0 W1 g f0 f1 f2 := h.grown (grown_of_below hw none) (by simp)
theorem IsS81.alloc {w0 W : World} {g : Nat} {f0 : List Int} {f1 : Int} {f2 : Int} (h : IsS81 w0 W g f0 f1 f2) (o : Obj) : IsS81 w0 (W.alloc o) g f0 f1 f2 := h.below (below_alloc (Below.refl _ _) o)
theorem IsS81.drewN {w0 W : World} {g : Nat} {f0 : List Int} {f1 : Int} {f2 : Int} (h : IsS81 w0 W g f0 f1 f2) (m : Nat) : IsS81 w0 (W.drewN m) g f0 f1 f2 := h
theorem IsS81.drew {w0 W : World} {g : Nat} {f0 : List Int} {f1 : Int} {f2 : Int} (h : IsS81 w0 W g f0 f1 f2) : IsS81 w0 W.drew g f0 f1 f2 := h
theorem IsS81.apart {w0 W : World} {g : Nat} {f0 : List Int} {f1 : Int} {f2 : Int} {α : Type} {d : Kd α} {e : Nat} {base : Nat} {ok : Nat → Prop} {v : Value} {xs : List α} (h : IsS81 w0 W g f0 f1 f2) (ho : d.R e W base ok v xs) (ht : ∀ q, q ∈ e :: d.E → q ≠ 81) : d.R e W base (fun k => ok k ∧ k ≠ g) v xs := by
 obtain ⟨A0, c0, hb, hg, hr0⟩ := h
 exact Kd.R_types ho hb ht
theorem IsS81.ge {w0 W : World} {g : Nat} {f0 : List Int} {f1 : Int} {f2 : Int} (h : IsS81 w0 W g f0 f1 f2) : w0.heap.size ≤ g := by
 obtain ⟨A0, c0, hb, hg, hr0⟩ := h
 exact hg
theorem cellS81_0 {W : World} {g : Nat} {A0 : Option Addr} {c0 : Nat} {f0 : List Int} {f1 : Int} {f2 : Int} (h : W.heap[g]? = some (.cells #[.slice A0 f0.length c0, .int .i64 f1, .int .i64 f2] 81 (0, 0))) : W.cell? ⟨g, 0, none⟩ = some (.slice A0 f0.length c0) := (blk_cell h 0).trans rfl
theorem cellS81_1 {W : World} {g : Nat} {A0 : Option Addr} {c0 : Nat} {f0 : List Int} {f1 : Int} {f2 : Int} (h : W.heap[g]? = some (.cells #[.slice A0 f0.length c0, .int .i64 f1, .int .i64 f2] 81 (0, 0))) : W.cell? ⟨g, 1, none⟩ = some (.int .i64 f1) := (blk_cell h 1).trans rfl
theorem IsS81.set_1 {w0 W : World} {g : Nat} {f0 : List Int} {f1 : Int} {f2 : Int} (h : IsS81 w0 W g f0 f1 f2) (x : Int) : IsS81 w0 (W.setCell ⟨g, 1, none⟩ (.int .i64 x)) g f0 x f2 := by
 obtain ⟨A0, c0, hb, hg, hr0⟩ := h
 exact ⟨A0, c0, by simpa using blk_set hb 1 (.int .i64 x), hg, hr0⟩
theorem cellS81_2 {W : World} {g : Nat} {A0 : Option Addr} {c0 : Nat} {f0 : List Int} {f1 : Int} {f2 : Int} (h : W.heap[g]? = some (.cells #[.slice A0 f0.length c0, .int .i64 f1, .int .i64 f2] 81 (0, 0))) : W.cell? ⟨g, 2, none⟩ = some (.int .i64 f2) := (blk_cell h 2).trans rfl
theorem IsS81.set_2 {w0 W : World} {g : Nat} {f0 : List Int} {f1 : Int} {f2 : Int} (h : IsS81 w0 W g f0 f1 f2) (x : Int) : IsS81 w0 (W.setCell ⟨g, 2, none⟩ (.int .i64 x)) g f0 f1 x := by
 obtain ⟨A0, c0, hb, hg, hr0⟩ := h
 exact ⟨A0, c0, by simpa using blk_set hb 2 (.int .i64 x), hg, hr0⟩
/-! ### spec_l01From: function 42 -/
def spec_l01From.l0 : Nat → List Int → Int → List Int → Int → Int → Option (List Int × Int × Int)
 | 0, _, _, _, _, _ => none
 | k + 1, x0, x4, x102000, x102001, x102002 => if x4 < (x0.length : Int) then (if x4 < 64 then (if 0 ≤ x4 then (spec_l01From.l0 k x0 (wrap64 (x4 + 1)) x102000 x102001 (Int.tmod (wrap64 ((wrap64 (x102002 * 37)) + (wrap64 (rd x0 x4)))) 2147483647)) else (none)) else (some (x102000, x102001, x102002))) else (some (x102000, x102001, x102002))
def spec_l01From.f (k : Nat) (l0 : List Int) : Option (List Int × Int × Int) := spec_l01From.l0 k l0 0 l0 0 97531
def spec_l01From.T5 : Bool × List (List Nat × List Nat) := (true, [([], []), ([], []), ([1], [1]), ([2], [2]), ([3], [3]), ([4], [4]), ([], []), ([], []), ([6, 7], [6, 7]), ([8], [8]), ([9], [9]), ([5, 10], [5, 10]), ([11], [11]), ([0, 0, 1, 2, 3, 4, 5, 6, 7, 8, 9, 10, 11, 12], [0]), ([13, 0, 1, 2, 3, 4, 5, 6, 7, 8, 9, 10, 11, 12], [13]), ([14, 12, 0, 1, 2, 3, 4, 5, 6, 7, 8, 9, 10, 11, 12], [12, 14])])
def spec_l01From.B5 : List Nat := [0, 0, 2, 6, 14, 30, 0, 0, 192, 448, 960, 2046, 4094, 8191, 16383, 32767]
theorem spec_l01From.tab5 : rtab .any (opsOf Try.f42 5) = spec_l01From.T5 := by kernel_rfl
theorem spec_l01From.bits5 : waitsOk spec_l01From.T5.2 spec_l01From.B5 = true := by kernel_rfl
set_option maxHeartbeats 8000000 in
set_option maxRecDepth 100000 in
theorem spec_l01From.calls (k : Nat) (A0 : Option Addr) (c0 : Nat) (l0 : List Int) (r1 : List Int) (r2 : Int) (r3 : Int) (w0 w : World) (hB : Below w0.heap.size w0 w) (hr0 : Kd.C (Kd.int .u8) w0 A0 l0.length l0) (hc0 : l0.length ≤ c0) (h : spec_l01From.f k l0 = some (r1, r2, r3)) :
 Calls Try.prog 42 #[.slice A0 l0.length c0] w fun e w' => ∃ g_ : Nat, e = .returned (.pointer (some ⟨g_, 0, none⟩)) ∧ IsS81 w0 w' g_ r1 r2 r3 ∧ Below w0.heap.size w0 w' ∧ Below w.heap.size w w' := by
 have hu81 := Try.underlying81
 have HR0 := Aside0.mk hr0
 have HC0 := Aside0.mk hc0
 clear hr0 hc0
 have HBW := Aside0.mk (Below.refl w.heap.size w)
 have HW0 := Aside0.mk hB.size
 have HB := Aside0.mk hB
 clear hB
 have H : (spec_l01From.l0 k l0 0 l0 0 97531) = some (r1, r2, r3) := h
 clear h
 have H' := Aside0.mk H
 clear H
 go_enter Try.func42, Try.ntmps42
 go_wp2_with (first | ((with_reducible refine gate_dst (N := 7) rfl ?_); refine box_event ?hg (N := 7) ?hd (cs := #[.slice A0 l0.length c0, .int .i64 0, .int .i64 97531]) (t := 81) ?hr ?_; (case hd => rfl); (case hg => rfl); (case hr => first | (go_simp; done) | (go_simp; rfl)); intro gb101 hg w2 hbox hb; have n0_ := Aside0.mk (below_step HBW.out hb); have n1_ := Aside0.mk (below_step (by repeat (first | (with_reducible first | exact HB.out | apply below_alloc | apply pw_below_drewN | apply below_drew1) | exact HB.out)) hb); have n2_ := Aside0.mk (hbox); have n3_ := Aside0.mk ((by rw [hg]; exact (below_size (by repeat (first | (with_reducible first | exact HBW.out | apply below_alloc | apply pw_below_drewN | apply below_drew1) | exact HBW.out))) : w.heap.size ≤ gb101)); have n4_ := Aside0.mk ((Nat.le_trans HW0.out (by rw [hg]; exact (below_size (by repeat (first | (with_reducible first | exact HBW.out | apply below_alloc | apply pw_below_drewN | apply below_drew1) | exact HBW.out))) : w.heap.size ≤ gb101) : w0.heap.size ≤ gb101)); clear HBW; clear HB; have HBW := n0_; have HB := n1_; have BK101 := n2_; have GW101 := n3_; have GE101 := n4_; clear n0_ n1_ n2_ n3_ n4_; clear hb hbox hg))
 go_loopg [4] k (fun kq v4 w' => ∃ (x4_1 : Int) (x102002_1 : Int), v4 = .int .i64 x4_1 ∧ Aside0 (spec_l01From.l0 kq l0 x4_1 l0 0 x102002_1 = some (r1, r2, r3)) ∧ Aside0 (kq ≤ k) ∧ Aside0 (w'.heap[gb101]? = some (.cells #[(.slice A0 l0.length c0), .int .i64 0, .int .i64 x102002_1] 81 (0, 0))) ∧ Aside0 (Below w0.heap.size w0 w') ∧ Aside0 (Below w.heap.size w w'))
 case atStart => exact ⟨(0), (97531), (by first | rfl | (simp; done) | (simp [*]; done)), H', ⟨yoy _⟩, ⟨by (with_reducible repeat (first | refine blk_drewN ?_ _ | refine blk_drew ?_ | refine blk_alloc ?_ _)); exact BK101.out⟩, ⟨by repeat (first | (with_reducible first | exact HB.out | apply below_alloc | apply pw_below_drewN | apply below_drew1 | refine below_set ?_ GE101.out) | exact HB.out)⟩, ⟨by repeat (first | (with_reducible first | exact HBW.out | apply below_alloc | apply pw_below_drewN | apply below_drew1 | refine below_set ?_ GW101.out) | exact HBW.out)⟩⟩
 case round =>
  clear H'
  try clear p2
  clear HBW; obtain ⟨x4_1, x102002_1, rfl, HA, HK1, BK101, HB, HBW⟩ := hrel
  cases gk with
  | zero => exact absurd HA.out (by simp [spec_l01From.l0])
  | succ k1 =>
   have H := HA.out
   clear HA
   simp only [spec_l01From.l0] at H
   by_cases c3 : x4_1 < (l0.length : Int)
   rotate_left
   next =>
    rw [if_neg c3] at H
    have c3b0 : decide (x4_1 < (l0.length : Int)) = false := yhy c3
    clear c3
    simp only [Option.some.injEq, Prod.mk.injEq] at H
    obtain ⟨rfl, rfl, rfl⟩ := H
    go_wp2
    go_ret
    exact ⟨_, rfl, (show IsS81 w0 _ gb101 l0 0 x102002_1 from ⟨_, _, by (with_reducible repeat (first | refine blk_drewN ?_ _ | refine blk_drew ?_ | refine blk_alloc ?_ _)); exact BK101.out, GE101.out, HR0.out⟩), by repeat (first | (with_reducible first | exact HB.out | apply below_alloc | apply pw_below_drewN | apply below_drew1 | refine below_set ?_ GE101.out) | exact HB.out), by repeat (first | (with_reducible first | exact HBW.out | apply below_alloc | apply pw_below_drewN | apply below_drew1 | refine below_set ?_ GW101.out) | exact HBW.out)⟩
   rw [if_pos c3] at H
   have c3b0 : decide (x4_1 < (l0.length : Int)) = true := ygy c3
   clear c3
   by_cases c4 : x4_1 < 64
   rotate_left
   next =>
    rw [if_neg c4] at H
    have c4b0 : decide (x4_1 < 64) = false := yhy c4
    clear c4
    simp only [Option.some.injEq, Prod.mk.injEq] at H
    obtain ⟨rfl, rfl, rfl⟩ := H
    go_wp2
    go_ret
    exact ⟨_, rfl, (show IsS81 w0 _ gb101 l0 0 x102002_1 from ⟨_, _, by (with_reducible repeat (first | refine blk_drewN ?_ _ | refine blk_drew ?_ | refine blk_alloc ?_ _)); exact BK101.out, GE101.out, HR0.out⟩), by repeat (first | (with_reducible first | exact HB.out | apply below_alloc | apply pw_below_drewN | apply below_drew1 | refine below_set ?_ GE101.out) | exact HB.out), by repeat (first | (with_reducible first | exact HBW.out | apply below_alloc | apply pw_below_drewN | apply below_drew1 | refine below_set ?_ GW101.out) | exact HBW.out)⟩
   rw [if_pos c4] at H
   have c4b0 : decide (x4_1 < 64) = true := ygy c4
   clear c4
   by_cases c5 : 0 ≤ x4_1
   rotate_left
   next =>
    rw [if_neg c5] at H
    exact absurd H (by simp)
   rw [if_pos c5] at H
   have c5b0 : decide (0 ≤ x4_1) = true := ygy c5
   clear c5
   have H' := Aside0.mk H
   clear H
   try go_wp2
   have n0_ := Aside0.mk (blk_drew BK101.out)
   have n1_ := Aside0.mk (below_drew1 HB.out)
   replace HBW := Aside0.mk (below_drew1 HBW.out)
   clear BK101
   clear HB
   have BK101 := n0_
   have HB := n1_
   clear n0_ n1_
   have p102 : 0 ≤ (x4_1 : Int) := of_decide_eq_true (by first | (with_reducible assumption) | assumption)
   have q102 : x4_1 < (l0.length : Int) := of_decide_eq_true (by first | (with_reducible assumption) | assumption)
   obtain ⟨ad102, e102, hx102_0⟩ := Kd.at_int HR0.out x4_1 p102 q102
   have hw102_0 := hx102_0
   cases e102
   replace hx102_0 := pw_cell_below HB.out hx102_0
   replace p102 := eq_true p102
   replace q102 := eq_true q102
   refine start_ (n := 16) (S := fun w' => w'.cell? ⟨gb101, 0, none⟩ = some (.slice (some ad102) l0.length c0) ∧ w'.cell? ⟨gb101, 1, none⟩ = some (.int .i64 0) ∧ w'.cell? ⟨gb101, 2, none⟩ = some (.int .i64 x102002_1) ∧ w'.cell? (ad102.add (x4_1).toNat) = some (.int .u8 (rd l0 x4_1))) (ds := [15]) #[false, false, false, false, false, false, false, false, false, false, false, false, false, false, false, false] (by kernel_rfl) rfl rfl ⟨(blk_cell BK101.out 0).trans rfl, (blk_cell BK101.out 1).trans rfl, (blk_cell BK101.out 2).trans rfl, ((HB.out.cell (yny w0 _ hw102_0)).trans hw102_0)⟩ (fun hHeld => ?_); refine with_tabW spec_l01From.tab5 spec_l01From.bits5 (fun HT_ HW_ => ?_)
   generalize wr.drew = w6 at BK101 HB HBW hx102_0 hHeld ⊢
   refine pure_ (i := 0) (N := some 18) (v := ?_) (a' := ?_) #[true, false, false, false, false, false, false, false, false, false, false, false, false, false, false, false] rfl rfl (any_of HT_.out (by kernel_rfl)) (fun _ _ _ h => h) (Or.inl ⟨by rfl, ?_⟩) ?_ ?_
   rotate_left
   next =>
    intro w'
    go_simp
    with_reducible rfl
   rotate_left
   next =>
    simp only [Act.put, yay, yby, ycy, i64_w, i32_w]
    rfl
   refine pure_ (i := 1) (N := some 19) (v := ?_) (a' := ?_) #[true, true, false, false, false, false, false, false, false, false, false, false, false, false, false, false] rfl rfl (any_of HT_.out (by kernel_rfl)) (fun _ _ _ h => h) (Or.inl ⟨by rfl, ?_⟩) ?_ ?_
   rotate_left
   next =>
    intro w'
    go_simp
    with_reducible rfl
   rotate_left
   next =>
    simp only [Act.put, yay, yby, ycy, i64_w, i32_w]
    rfl
   refine pure_ (i := 2) (N := some 20) (v := ?_) (a' := ?_) #[true, true, true, false, false, false, false, false, false, false, false, false, false, false, false, false] rfl rfl (any_of HT_.out (by kernel_rfl)) (fun _ _ _ h => h) (Or.inl ⟨by rfl, ?_⟩) ?_ ?_
   rotate_left
   next =>
    intro w'
    go_simp
    with_reducible rfl
   rotate_left
   next =>
    simp only [Act.put, yay, yby, ycy, i64_w, i32_w]
    rfl
   refine pure_ (i := 3) (N := some 21) (v := ?_) (a' := ?_) #[true, true, true, true, false, false, false, false, false, false, false, false, false, false, false, false] rfl rfl (any_of HT_.out (by kernel_rfl)) (fun _ _ _ h => h) (Or.inl ⟨by rfl, ?_⟩) ?_ ?_
   rotate_left
   next =>
    intro w'
    go_simp
    with_reducible rfl
   rotate_left
   next =>
    simp only [Act.put, yay, yby, ycy, i64_w, i32_w]
    rfl
   refine pure_ (i := 6) (N := some 24) (v := ?_) (a' := ?_) #[true, true, true, true, false, false, true, false, false, false, false, false, false, false, false, false] rfl rfl (any_of HT_.out (by kernel_rfl)) (fun _ _ _ h => h) (Or.inl ⟨by rfl, ?_⟩) ?_ ?_
   rotate_left
   next =>
    intro w'
    go_simp
    with_reducible rfl
   rotate_left
   next =>
    simp only [Act.put, yay, yby, ycy, i64_w, i32_w]
    rfl
   refine pure_ (i := 7) (N := some 25) (v := ?_) (a' := ?_) #[true, true, true, true, false, false, true, true, false, false, false, false, false, false, false, false] rfl rfl (any_of HT_.out (by kernel_rfl)) (fun _ _ _ h => h) (Or.inl ⟨by rfl, ?_⟩) ?_ ?_
   rotate_left
   next =>
    intro w'
    go_simp
    with_reducible rfl
   rotate_left
   next =>
    simp only [Act.put, yay, yby, ycy, i64_w, i32_w]
    rfl
   refine pure_ (i := 8) (N := some 26) (v := ?_) (a' := ?_) #[true, true, true, true, false, false, true, true, true, false, false, false, false, false, false, false] rfl rfl (any_of HT_.out (by kernel_rfl)) (fun _ _ _ h => h) (Or.inl ⟨by rfl, ?_⟩) ?_ ?_
   rotate_left
   next =>
    intro w'
    go_simp
    with_reducible rfl
   rotate_left
   next =>
    simp only [Act.put, yay, yby, ycy, i64_w, i32_w]
    rfl
   refine take_ (i := 4) (N := some 22) (v := ?_) (a' := ?_) #[true, true, true, true, true, false, true, true, true, false, false, false, false, false, false, false] rfl rfl (take_ofW HT_.out HW_.out (by kernel_rfl)) (fun _ _ _ h => h) (Or.inl ⟨by rfl, ?_⟩) hHeld ?_ ?_
   rotate_left
   next =>
    rintro w' ⟨s0, s1, s2, s3⟩
    go_simp
    with_reducible rfl
   rotate_left
   next =>
    simp only [Act.put, yay, yby, ycy, i64_w, i32_w]
    rfl
   refine pure_ (i := 5) (N := some 23) (v := ?_) (a' := ?_) #[true, true, true, true, true, true, true, true, true, false, false, false, false, false, false, false] rfl rfl (any_of HT_.out (by kernel_rfl)) (fun _ _ _ h => h) (Or.inl ⟨by rfl, ?_⟩) ?_ ?_
   rotate_left
   next =>
    intro w'
    go_simp
    with_reducible rfl
   rotate_left
   next =>
    simp only [Act.put, yay, yby, ycy, i64_w, i32_w]
    rfl
   refine take_ (i := 9) (N := some 27) (v := ?_) (a' := ?_) #[true, true, true, true, true, true, true, true, true, true, false, false, false, false, false, false] rfl rfl (take_ofW HT_.out HW_.out (by kernel_rfl)) (fun _ _ _ h => h) (Or.inl ⟨by rfl, ?_⟩) hHeld ?_ ?_
   rotate_left
   next =>
    rintro w' ⟨s0, s1, s2, s3⟩
    go_simp
    with_reducible rfl
   rotate_left
   next =>
    simp only [Act.put, yay, yby, ycy, i64_w, i32_w]
    rfl
   refine pure_ (i := 10) (N := some 28) (v := ?_) (a' := ?_) #[true, true, true, true, true, true, true, true, true, true, true, false, false, false, false, false] rfl rfl (any_of HT_.out (by kernel_rfl)) (fun _ _ _ h => h) (Or.inl ⟨by rfl, ?_⟩) ?_ ?_
   rotate_left
   next =>
    intro w'
    go_simp
    with_reducible rfl
   rotate_left
   next =>
    simp only [Act.put, yay, yby, ycy, i64_w, i32_w]
    rfl
   refine pure_ (i := 11) (N := some 29) (v := ?_) (a' := ?_) #[true, true, true, true, true, true, true, true, true, true, true, true, false, false, false, false] rfl rfl (any_of HT_.out (by kernel_rfl)) (fun _ _ _ h => h) (Or.inl ⟨by rfl, ?_⟩) ?_ ?_
   rotate_left
   next =>
    intro w'
    go_simp
    with_reducible rfl
   rotate_left
   next =>
    simp only [Act.put, yay, yby, ycy, i64_w, i32_w]
    rfl
   refine pure_ (i := 12) (N := some 30) (v := ?_) (a' := ?_) #[true, true, true, true, true, true, true, true, true, true, true, true, true, false, false, false] rfl rfl (any_of HT_.out (by kernel_rfl)) (fun _ _ _ h => h) (Or.inl ⟨by rfl, ?_⟩) ?_ ?_
   rotate_left
   next =>
    intro w'
    go_simp
    with_reducible rfl
   rotate_left
   next =>
    simp only [Act.put, yay, yby, ycy, i64_w, i32_w]
    rfl
   refine pure_ (i := 13) (N := some 31) (v := ?_) (a' := ?_) #[true, true, true, true, true, true, true, true, true, true, true, true, true, true, false, false] rfl rfl (any_of HT_.out (by kernel_rfl)) (fun _ _ _ h => h) (Or.inl ⟨by rfl, ?_⟩) ?_ ?_
   rotate_left
   next =>
    intro w'
    go_simp
    with_reducible rfl
   rotate_left
   next =>
    simp only [Act.put, yay, yby, ycy, i64_w, i32_w]
    rfl
   refine pure_ (i := 14) (N := some 32) (v := ?_) (a' := ?_) #[true, true, true, true, true, true, true, true, true, true, true, true, true, true, true, false] rfl rfl (any_of HT_.out (by kernel_rfl)) (fun _ _ _ h => h) (Or.inl ⟨by rfl, ?_⟩) ?_ ?_
   rotate_left
   next =>
    intro w'
    go_simp
    with_reducible rfl
   rotate_left
   next =>
    simp only [Act.put, yay, yby, ycy, i64_w, i32_w]
    rfl
   refine last_ (i := 15) (N := none) #[true, true, true, true, true, true, true, true, true, true, true, true, true, true, true, true] rfl rfl (one_of HT_.out (by kernel_rfl)) (by decide) (fun K hK => ?_)
   have hs7 : w6.cell? ⟨gb101, 2, none⟩ = some (.int .i64 x102002_1) := (blk_cell BK101.out 2).trans rfl
   have hfs7 := blk_frozen BK101.out 2
   refine skip_ (w1 := ?_) (by rfl) rfl ?_ ?_
   rotate_left
   next =>
    go_simp
    rfl
   refine hK.out _ _ ?_
   clear hK K
   refine done_ (done_of HT_.out (by kernel_rfl)) ?_
   try go_wp2
   go_roundg k1
   case measure => have := HK1.out; omega
   case rel => exact ⟨(wrap64 (x4_1 + 1)), (Int.tmod (wrap64 ((wrap64 (x102002_1 * 37)) + (wrap64 (rd l0 x4_1)))) 2147483647), (by first | rfl | (simp; done) | (simp [*]; done)), H', ⟨by have := HK1.out; omega⟩, ⟨by (with_reducible repeat (first | refine blk_drewN ?_ _ | refine blk_drew ?_ | refine blk_alloc ?_ _)); refine blk_put (cs := #[.slice (some ad102) l0.length c0, .int .i64 0, .int .i64 x102002_1]) ?_ 2 _ rfl; (with_reducible repeat (first | refine blk_drewN ?_ _ | refine blk_drew ?_ | refine blk_alloc ?_ _)); exact BK101.out⟩, ⟨by repeat (first | (with_reducible first | exact HB.out | apply below_alloc | apply pw_below_drewN | apply below_drew1 | refine below_set ?_ GE101.out) | exact HB.out)⟩, ⟨by repeat (first | (with_reducible first | exact HBW.out | apply below_alloc | apply pw_below_drewN | apply below_drew1 | refine below_set ?_ GW101.out) | exact HBW.out)⟩⟩
/-! ### spec_l01Next: function 43 -/
def spec_l01Next.f (s0_0 : List Int) (s0_1 : Int) (s0_2 : Int) (a1 : Int) : Option (Int × Int × Int) := if a1 ≤ 1 then (some (0, s0_1, s0_2)) else (if s0_1 < (s0_0.length : Int) then (if 0 ≤ s0_1 then (if a1 ≤ 256 then (if (Int.tmod (wrap64 (s0_1 + 1)) 2) = 0 then (if 0 ≤ (wrap64 ((wrap64 (s0_1 + 1)) - 1)) then (if (wrap64 ((wrap64 (s0_1 + 1)) - 1)) < (s0_0.length : Int) then (if a1 = 0 then (none) else (some (Int.tmod (wrap64 (rd s0_0 (wrap64 ((wrap64 (s0_1 + 1)) - 1)))) a1, wrap64 (s0_1 + 1), Int.tmod (wrap64 ((wrap64 (s0_2 * 48271)) + 11)) 2147483647))) else (none)) else (none)) else (if a1 = 0 then (none) else (some (Int.tmod (wrap64 ((wrap64 (Int.tdiv (Int.tmod (wrap64 ((wrap64 (s0_2 * 48271)) + 11)) 2147483647) 11)) + (wrap64 (rd s0_0 s0_1)))) a1, wrap64 (s0_1 + 1), Int.tmod (wrap64 ((wrap64 (s0_2 * 48271)) + 11)) 2147483647)))) else (if a1 = 0 then (none) else (some (Int.tmod (wrap64 ((wrap64 (Int.tdiv (Int.tmod (wrap64 ((wrap64 (s0_2 * 48271)) + 11)) 2147483647) 11)) + (wrap64 (rd s0_0 s0_1)))) a1, wrap64 (s0_1 + 1), Int.tmod (wrap64 ((wrap64 (s0_2 * 48271)) + 11)) 2147483647)))) else (none)) else (if a1 = 0 then (none) else (some (Int.tmod (wrap64 (Int.tdiv (Int.tmod (wrap64 ((wrap64 (s0_2 * 48271)) + 11)) 2147483647) 11)) a1, s0_1, Int.tmod (wrap64 ((wrap64 (s0_2 * 48271)) + 11)) 2147483647))))
set_option maxHeartbeats 8000000 in
set_option maxRecDepth 100000 in
theorem spec_l01Next.calls (g : Nat) (s0_0 : List Int) (s0_1 : Int) (s0_2 : Int) (a1 : Int) (r1 : Int) (r2 : Int) (r3 : Int) (w0 w : World) (hI : IsS81 w0 w g s0_0 s0_1 s0_2) (hB : Below w0.heap.size w0 w) (h : spec_l01Next.f s0_0 s0_1 s0_2 a1 = some (r1, r2, r3)) :
    Calls Try.prog 43 #[.pointer (some ⟨g, 0, none⟩), .int .i64 a1] w fun e w' => e = .returned (.int .i64 r1) ∧ IsS81 w0 w' g s0_0 r2 r3 ∧ Below w0.heap.size w0 w' ∧ KeepBut w w' g none := by
  have HI0 := Aside0.mk hI
  have HK := Aside0.mk (KeepBut.refl w g none)
  have HL := Aside0.mk hB.size
  clear hI
  have HW0 := Aside0.mk hB.size
  have HB := Aside0.mk hB
  clear hB
  have H : (if a1 ≤ 1 then (some (0, s0_1, s0_2)) else (if s0_1 < (s0_0.length : Int) then (if 0 ≤ s0_1 then (if a1 ≤ 256 then (if (Int.tmod (wrap64 (s0_1 + 1)) 2) = 0 then (if 0 ≤ (wrap64 ((wrap64 (s0_1 + 1)) - 1)) then (if (wrap64 ((wrap64 (s0_1 + 1)) - 1)) < (s0_0.length : Int) then (if a1 = 0 then (none) else (some (Int.tmod (wrap64 (rd s0_0 (wrap64 ((wrap64 (s0_1 + 1)) - 1)))) a1, wrap64 (s0_1 + 1), Int.tmod (wrap64 ((wrap64 (s0_2 * 48271)) + 11)) 2147483647))) else (none)) else (none)) else (if a1 = 0 then (none) else (some (Int.tmod (wrap64 ((wrap64 (Int.tdiv (Int.tmod (wrap64 ((wrap64 (s0_2 * 48271)) + 11)) 2147483647) 11)) + (wrap64 (rd s0_0 s0_1)))) a1, wrap64 (s0_1 + 1), Int.tmod (wrap64 ((wrap64 (s0_2 * 48271)) + 11)) 2147483647)))) else (if a1 = 0 then (none) else (some (Int.tmod (wrap64 ((wrap64 (Int.tdiv (Int.tmod (wrap64 ((wrap64 (s0_2 * 48271)) + 11)) 2147483647) 11)) + (wrap64 (rd s0_0 s0_1)))) a1, wrap64 (s0_1 + 1), Int.tmod (wrap64 ((wrap64 (s0_2 * 48271)) + 11)) 2147483647)))) else (none)) else (if a1 = 0 then (none) else (some (Int.tmod (wrap64 (Int.tdiv (Int.tmod (wrap64 ((wrap64 (s0_2 * 48271)) + 11)) 2147483647) 11)) a1, s0_1, Int.tmod (wrap64 ((wrap64 (s0_2 * 48271)) + 11)) 2147483647))))) = some (r1, r2, r3) := h
  clear h
  by_cases c3 : a1 ≤ 1
  · rw [if_pos c3] at H
    have c3b0 : decide (a1 ≤ 1) = true := ygy c3
    clear c3
    simp only [Option.some.injEq, Prod.mk.injEq] at H
    obtain ⟨rfl, rfl, rfl⟩ := H
    go_enter Try.func43, Try.ntmps43
    go_wp2
    repeat (go_quiet (fail); try go_wp2)
    go_ret
    exact ⟨by first | rfl | (simp [errW_none, errW_some] <;> rfl) | (simp [*, errW_none, errW_some] <;> rfl), by repeat (first | (with_reducible first | exact HI0.out | apply IsS81.alloc | apply IsS81.drewN | apply IsS81.drew | apply IsS81.set_1 | apply IsS81.set_2) | exact HI0.out), by repeat (first | (with_reducible first | exact HB.out | apply below_alloc | apply pw_below_drewN | apply below_drew1 | refine below_set ?_ (IsS81.ge HI0.out)) | exact HB.out), by repeat (first | (with_reducible first | exact HK.out | apply KeepBut.set_ | apply keep_drewN | apply keep_drew | apply keep_alloc) | exact HK.out)⟩
  · rw [if_neg c3] at H
    have c3b0 : decide (a1 ≤ 1) = false := yhy c3
    clear c3
    by_cases c4 : s0_1 < (s0_0.length : Int)
    · rw [if_pos c4] at H
      have c4b0 : decide (s0_1 < (s0_0.length : Int)) = true := ygy c4
      clear c4
      by_cases c5 : 0 ≤ s0_1
      · rw [if_pos c5] at H
        have c5b0 : decide (0 ≤ s0_1) = true := ygy c5
        clear c5
        by_cases c6 : a1 ≤ 256
        · rw [if_pos c6] at H
          have c6b0 : decide (a1 ≤ 256) = true := ygy c6
          clear c6
          by_cases c7 : (Int.tmod (wrap64 (s0_1 + 1)) 2) = 0
          · rw [if_pos c7] at H
            have c7b0 : ((Int.tmod (wrap64 (s0_1 + 1)) 2) == 0) = true := beq_iff_eq.mpr c7
            have c7b1 : ((Int.tmod (wrap64 (s0_1 + 1)) 2) != 0) = false := bne_eq_false_iff_eq.mpr c7
            clear c7
            obtain ⟨ji8, hji8⟩ : ∃ j_ : Int, (wrap64 ((wrap64 (s0_1 + 1)) - 1)) = j_ := ⟨_, rfl⟩
            replace H : (if 0 ≤ (ji8) then (if (ji8) < (s0_0.length : Int) then (if a1 = 0 then (none) else (some (Int.tmod (wrap64 (rd s0_0 (ji8))) a1, wrap64 (s0_1 + 1), Int.tmod (wrap64 ((wrap64 (s0_2 * 48271)) + 11)) 2147483647))) else (none)) else (none)) = some (r1, r2, r3) := by first | (rw [hji8] at H; exact H) | (simp only [hji8] at H ⊢; exact H)
            have hji8w : (IntKind.i64.wrap ((wrap64 (s0_1 + 1)) - 1)) = ji8 := (i64_w _).trans hji8
            by_cases c9 : 0 ≤ (ji8)
            · rw [if_pos c9] at H
              have c9b0 : decide (0 ≤ (ji8)) = true := ygy c9
              clear c9
              by_cases c10 : (ji8) < (s0_0.length : Int)
              · rw [if_pos c10] at H
                have c10b0 : decide ((ji8) < (s0_0.length : Int)) = true := ygy c10
                clear c10
                by_cases c11 : a1 = 0
                · rw [if_pos c11] at H
                  exact absurd H (by simp)
                · rw [if_neg c11] at H
                  have c11b0 : (a1 == 0) = false := beq_eq_false_iff_ne.mpr c11
                  have c11b1 : (a1 != 0) = true := bne_iff_ne.mpr c11
                  simp only [Option.some.injEq, Prod.mk.injEq] at H
                  obtain ⟨rfl, rfl, rfl⟩ := H
                  obtain ⟨ASz12_0, cSz12_0, HGz12, hgz12, HSz12_0⟩ := HI0.out
                  have hcz12_0 := cellS81_0 HGz12
                  have hcz12_1 := cellS81_1 HGz12
                  have hcz12_2 := cellS81_2 HGz12
                  have hfz12_1 := blk_frozen HGz12 1
                  have hfz12_2 := blk_frozen HGz12 2
                  clear HGz12 hgz12
                  have p101 : 0 ≤ (s0_1 : Int) := of_decide_eq_true (by first | (with_reducible assumption) | assumption)
                  have q101 : s0_1 < (s0_0.length : Int) := of_decide_eq_true (by first | (with_reducible assumption) | assumption)
                  obtain ⟨ad101, e101, hx101_0⟩ := Kd.at_int HSz12_0 s0_1 p101 q101
                  cases e101
                  have hn101_0 : ad101.block ≠ g := Nat.ne_of_lt (Nat.lt_of_lt_of_le (by have := yny _ _ hx101_0; first | rwa [add_block] at this | exact this) (IsS81.ge HI0.out))
                  replace hx101_0 := pw_cell_below HB.out hx101_0
                  replace hx101_0 := (cell_far (p := ⟨g, 2, none⟩) (by first | (rw [add_block]; exact hn101_0) | (show (Addr.add _ _).block ≠ _; rw [add_block]; exact hn101_0) | exact hn101_0) (.int .i64 (Int.tmod (wrap64 ((wrap64 (s0_2 * 48271)) + 11)) 2147483647))).trans hx101_0
                  (try have hy101_0 := fun (n_ : Nat) => (show (((w.drewN n_).setCell ⟨g, 2, none⟩ (.int .i64 (Int.tmod (wrap64 ((wrap64 (s0_2 * 48271)) + 11)) 2147483647)))).cell? _ = some _ from hx101_0))
                  clear hn101_0
                  replace p101 := eq_true p101
                  replace q101 := eq_true q101
                  have p102 : 0 ≤ ((ji8) : Int) := of_decide_eq_true (by first | (with_reducible assumption) | assumption)
                  have q102 : (ji8) < (s0_0.length : Int) := of_decide_eq_true (by first | (with_reducible assumption) | assumption)
                  obtain ⟨ad102, e102, hx102_0⟩ := Kd.at_int HSz12_0 (ji8) p102 q102
                  obtain rfl : ad101 = ad102 := (by injection e102)
                  have hn102_0 : ad101.block ≠ g := Nat.ne_of_lt (Nat.lt_of_lt_of_le (by have := yny _ _ hx102_0; first | rwa [add_block] at this | exact this) (IsS81.ge HI0.out))
                  have hn102_1 : ad101.block ≠ g := Nat.ne_of_lt (Nat.lt_of_lt_of_le (by have := yny _ _ hx102_0; first | rwa [add_block] at this | exact this) (IsS81.ge HI0.out))
                  replace hx102_0 := pw_cell_below HB.out hx102_0
                  replace hx102_0 := (cell_far (p := ⟨g, 2, none⟩) (by first | (rw [add_block]; exact hn102_0) | (show (Addr.add _ _).block ≠ _; rw [add_block]; exact hn102_0) | exact hn102_0) (.int .i64 (Int.tmod (wrap64 ((wrap64 (s0_2 * 48271)) + 11)) 2147483647))).trans hx102_0
                  replace hx102_0 := (cell_far (p := ⟨g, 1, none⟩) (by first | (rw [add_block]; exact hn102_1) | (show (Addr.add _ _).block ≠ _; rw [add_block]; exact hn102_1) | exact hn102_1) (.int .i64 (wrap64 (s0_1 + 1)))).trans hx102_0
                  (try have hy102_0 := fun (n_ : Nat) => (show ((((w.setCell ⟨g, 2, none⟩ (.int .i64 (Int.tmod (wrap64 ((wrap64 (s0_2 * 48271)) + 11)) 2147483647))).drewN n_).setCell ⟨g, 1, none⟩ (.int .i64 (wrap64 (s0_1 + 1))))).cell? _ = some _ from hx102_0))
                  clear hn102_0
                  clear hn102_1
                  replace p102 := eq_true p102
                  replace q102 := eq_true q102
                  go_enter Try.func43, Try.ntmps43
                  go_wp2
                  repeat (go_quiet (fail); try go_wp2)
                  go_ret
                  exact ⟨by first | rfl | (simp [errW_none, errW_some] <;> rfl) | (simp only [← hji8]; first | rfl | (simp [errW_none, errW_some] <;> rfl)) | (simp [*, errW_none, errW_some] <;> rfl), by repeat (first | (with_reducible first | exact HI0.out | apply IsS81.alloc | apply IsS81.drewN | apply IsS81.drew | apply IsS81.set_1 | apply IsS81.set_2) | exact HI0.out), by repeat (first | (with_reducible first | exact HB.out | apply below_alloc | apply pw_below_drewN | apply below_drew1 | refine below_set ?_ (IsS81.ge HI0.out)) | exact HB.out), by repeat (first | (with_reducible first | exact HK.out | apply KeepBut.set_ | apply keep_drewN | apply keep_drew | apply keep_alloc) | exact HK.out)⟩
              · rw [if_neg c10] at H
                exact absurd H (by simp)
            · rw [if_neg c9] at H
              exact absurd H (by simp)
          · rw [if_neg c7] at H
            have c7b0 : ((Int.tmod (wrap64 (s0_1 + 1)) 2) == 0) = false := beq_eq_false_iff_ne.mpr c7
            have c7b1 : ((Int.tmod (wrap64 (s0_1 + 1)) 2) != 0) = true := bne_iff_ne.mpr c7
            by_cases c13 : a1 = 0
            · rw [if_pos c13] at H
              exact absurd H (by simp)
            · rw [if_neg c13] at H
              have c13b0 : (a1 == 0) = false := beq_eq_false_iff_ne.mpr c13
              have c13b1 : (a1 != 0) = true := bne_iff_ne.mpr c13
              simp only [Option.some.injEq, Prod.mk.injEq] at H
              obtain ⟨rfl, rfl, rfl⟩ := H
              obtain ⟨ASz14_0, cSz14_0, HGz14, hgz14, HSz14_0⟩ := HI0.out
              have hcz14_0 := cellS81_0 HGz14
              have hcz14_1 := cellS81_1 HGz14
              have hcz14_2 := cellS81_2 HGz14
              have hfz14_1 := blk_frozen HGz14 1
              have hfz14_2 := blk_frozen HGz14 2
              clear HGz14 hgz14
              have p101 : 0 ≤ (s0_1 : Int) := of_decide_eq_true (by first | (with_reducible assumption) | assumption)
              have q101 : s0_1 < (s0_0.length : Int) := of_decide_eq_true (by first | (with_reducible assumption) | assumption)
              obtain ⟨ad101, e101, hx101_0⟩ := Kd.at_int HSz14_0 s0_1 p101 q101
              cases e101
              have hn101_0 : ad101.block ≠ g := Nat.ne_of_lt (Nat.lt_of_lt_of_le (by have := yny _ _ hx101_0; first | rwa [add_block] at this | exact this) (IsS81.ge HI0.out))
              replace hx101_0 := pw_cell_below HB.out hx101_0
              replace hx101_0 := (cell_far (p := ⟨g, 2, none⟩) (by first | (rw [add_block]; exact hn101_0) | (show (Addr.add _ _).block ≠ _; rw [add_block]; exact hn101_0) | exact hn101_0) (.int .i64 (Int.tmod (wrap64 ((wrap64 (s0_2 * 48271)) + 11)) 2147483647))).trans hx101_0
              (try have hy101_0 := fun (n_ : Nat) => (show (((w.drewN n_).setCell ⟨g, 2, none⟩ (.int .i64 (Int.tmod (wrap64 ((wrap64 (s0_2 * 48271)) + 11)) 2147483647)))).cell? _ = some _ from hx101_0))
              clear hn101_0
              replace p101 := eq_true p101
              replace q101 := eq_true q101
              go_enter Try.func43, Try.ntmps43
              go_wp2
              repeat (go_quiet (fail); try go_wp2)
              go_ret
              exact ⟨by first | rfl | (simp [errW_none, errW_some] <;> rfl) | (simp [*, errW_none, errW_some] <;> rfl), by repeat (first | (with_reducible first | exact HI0.out | apply IsS81.alloc | apply IsS81.drewN | apply IsS81.drew | apply IsS81.set_1 | apply IsS81.set_2) | exact HI0.out), by repeat (first | (with_reducible first | exact HB.out | apply below_alloc | apply pw_below_drewN | apply below_drew1 | refine below_set ?_ (IsS81.ge HI0.out)) | exact HB.out), by repeat (first | (with_reducible first | exact HK.out | apply KeepBut.set_ | apply keep_drewN | apply keep_drew | apply keep_alloc) | exact HK.out)⟩
        · rw [if_neg c6] at H
          have c6b0 : decide (a1 ≤ 256) = false := yhy c6
          clear c6
          by_cases c15 : a1 = 0
          · rw [if_pos c15] at H
            exact absurd H (by simp)
          · rw [if_neg c15] at H
            have c15b0 : (a1 == 0) = false := beq_eq_false_iff_ne.mpr c15
            have c15b1 : (a1 != 0) = true := bne_iff_ne.mpr c15
            simp only [Option.some.injEq, Prod.mk.injEq] at H
            obtain ⟨rfl, rfl, rfl⟩ := H
            obtain ⟨ASz16_0, cSz16_0, HGz16, hgz16, HSz16_0⟩ := HI0.out
            have hcz16_0 := cellS81_0 HGz16
            have hcz16_1 := cellS81_1 HGz16
            have hcz16_2 := cellS81_2 HGz16
            have hfz16_1 := blk_frozen HGz16 1
            have hfz16_2 := blk_frozen HGz16 2
            clear HGz16 hgz16
            have p101 : 0 ≤ (s0_1 : Int) := of_decide_eq_true (by first | (with_reducible assumption) | assumption)
            have q101 : s0_1 < (s0_0.length : Int) := of_decide_eq_true (by first | (with_reducible assumption) | assumption)
            obtain ⟨ad101, e101, hx101_0⟩ := Kd.at_int HSz16_0 s0_1 p101 q101
            cases e101
            have hn101_0 : ad101.block ≠ g := Nat.ne_of_lt (Nat.lt_of_lt_of_le (by have := yny _ _ hx101_0; first | rwa [add_block] at this | exact this) (IsS81.ge HI0.out))
            replace hx101_0 := pw_cell_below HB.out hx101_0
            replace hx101_0 := (cell_far (p := ⟨g, 2, none⟩) (by first | (rw [add_block]; exact hn101_0) | (show (Addr.add _ _).block ≠ _; rw [add_block]; exact hn101_0) | exact hn101_0) (.int .i64 (Int.tmod (wrap64 ((wrap64 (s0_2 * 48271)) + 11)) 2147483647))).trans hx101_0
            (try have hy101_0 := fun (n_ : Nat) => (show (((w.drewN n_).setCell ⟨g, 2, none⟩ (.int .i64 (Int.tmod (wrap64 ((wrap64 (s0_2 * 48271)) + 11)) 2147483647)))).cell? _ = some _ from hx101_0))
            clear hn101_0
            replace p101 := eq_true p101
            replace q101 := eq_true q101
            go_enter Try.func43, Try.ntmps43
            go_wp2
            repeat (go_quiet (fail); try go_wp2)
            go_ret
            exact ⟨by first | rfl | (simp [errW_none, errW_some] <;> rfl) | (simp [*, errW_none, errW_some] <;> rfl), by repeat (first | (with_reducible first | exact HI0.out | apply IsS81.alloc | apply IsS81.drewN | apply IsS81.drew | apply IsS81.set_1 | apply IsS81.set_2) | exact HI0.out), by repeat (first | (with_reducible first | exact HB.out | apply below_alloc | apply pw_below_drewN | apply below_drew1 | refine below_set ?_ (IsS81.ge HI0.out)) | exact HB.out), by repeat (first | (with_reducible first | exact HK.out | apply KeepBut.set_ | apply keep_drewN | apply keep_drew | apply keep_alloc) | exact HK.out)⟩
      · rw [if_neg c5] at H
        exact absurd H (by simp)
    · rw [if_neg c4] at H
      have c4b0 : decide (s0_1 < (s0_0.length : Int)) = false := yhy c4
      clear c4
      by_cases c17 : a1 = 0
      · rw [if_pos c17] at H
        exact absurd H (by simp)
      · rw [if_neg c17] at H
        have c17b0 : (a1 == 0) = false := beq_eq_false_iff_ne.mpr c17
        have c17b1 : (a1 != 0) = true := bne_iff_ne.mpr c17
        simp only [Option.some.injEq, Prod.mk.injEq] at H
        obtain ⟨rfl, rfl, rfl⟩ := H
        obtain ⟨ASz18_0, cSz18_0, HGz18, hgz18, HSz18_0⟩ := HI0.out
        have hcz18_0 := cellS81_0 HGz18
        have hcz18_1 := cellS81_1 HGz18
        have hcz18_2 := cellS81_2 HGz18
        have hfz18_1 := blk_frozen HGz18 1
        have hfz18_2 := blk_frozen HGz18 2
        clear HGz18 hgz18
        go_enter Try.func43, Try.ntmps43
        go_wp2
        repeat (go_quiet (fail); try go_wp2)
        go_ret
        exact ⟨by first | rfl | (simp [errW_none, errW_some] <;> rfl) | (simp [*, errW_none, errW_some] <;> rfl), by repeat (first | (with_reducible first | exact HI0.out | apply IsS81.alloc | apply IsS81.drewN | apply IsS81.drew | apply IsS81.set_1 | apply IsS81.set_2) | exact HI0.out), by repeat (first | (with_reducible first | exact HB.out | apply below_alloc | apply pw_below_drewN | apply below_drew1 | refine below_set ?_ (IsS81.ge HI0.out)) | exact HB.out), by repeat (first | (with_reducible first | exact HK.out | apply KeepBut.set_ | apply keep_drewN | apply keep_drew | apply keep_alloc) | exact HK.out)⟩
/-! ### spec_DrawGluingAt: function 16 -/
def spec_DrawGluingAt.f (k : Nat) (l0 : List Int) : Option (Int × Int) := (spec_l01From.f k l0).bind fun bt101 => ((spec_l01Next.f bt101.1 bt101.2.1 bt101.2.2 4).bind fun bt105 => ((spec_l01Next.f bt101.1 bt105.2.1 bt105.2.2 16).bind fun bt108 => (if bt108.1 = 0 then ((spec_l01Next.f bt101.1 bt108.2.1 bt108.2.2 2).bind fun bt111 => (some (wrap64 (5 * bt111.1), 3))) else ((spec_l01Next.f bt101.1 bt108.2.1 bt108.2.2 1000000007).bind fun bt114 => ((spec_GluingCount.f k (wrap64 (1 + bt105.1))).bind fun t117 => (if t117 = 0 then (none) else ((spec_l01Next.f bt101.1 bt114.2.1 bt114.2.2 16).bind fun bt118 => (if bt118.1 = 0 then ((spec_GluingCount.f k (wrap64 (1 + bt105.1))).bind fun t121 => ((spec_GluingCount.f k (wrap64 (1 + bt105.1))).bind fun t122 => ((some (([(-1), t121, wrap64 (t122 - 1)] : List Int) : List Int)).bind fun y123 => ((spec_l01Next.f bt101.1 bt118.2.1 bt118.2.2 3).bind fun bt126 => (if 0 ≤ bt126.1 then (if bt126.1 < (y123.length : Int) then (some (wrap64 (1 + bt105.1), rd y123 bt126.1)) else (none)) else (none)))))) else (some (wrap64 (1 + bt105.1), Int.tmod (wrap64 (bt114.1 * 1009)) t117))))))))))
set_option maxHeartbeats 8000000 in
set_option maxRecDepth 100000 in
theorem spec_DrawGluingAt.calls (k : Nat) (A0 : Option Addr) (c0 : Nat) (l0 : List Int) (r1 : Int) (r2 : Int) (w : World) (hr0 : Kd.C (Kd.int .u8) w A0 l0.length l0) (hc0 : l0.length ≤ c0) (h : spec_DrawGluingAt.f k l0 = some (r1, r2)) :
 Calls Try.prog 16 #[.slice A0 l0.length c0] w fun e w' => e = .returned (.tuple #[.int .i64 r1, .int .i64 r2]) ∧ Below w.heap.size w w' := by
 have HR0 := Aside0.mk hr0
 have HC0 := Aside0.mk hc0
 clear hr0 hc0
 have HB := Aside0.mk (Below.refl w.heap.size w)
 have H : ((spec_l01From.f k l0).bind fun bt101 => ((spec_l01Next.f bt101.1 bt101.2.1 bt101.2.2 4).bind fun bt105 => ((spec_l01Next.f bt101.1 bt105.2.1 bt105.2.2 16).bind fun bt108 => (if bt108.1 = 0 then ((spec_l01Next.f bt101.1 bt108.2.1 bt108.2.2 2).bind fun bt111 => (some (wrap64 (5 * bt111.1), 3))) else ((spec_l01Next.f bt101.1 bt108.2.1 bt108.2.2 1000000007).bind fun bt114 => ((spec_GluingCount.f k (wrap64 (1 + bt105.1))).bind fun t117 => (if t117 = 0 then (none) else ((spec_l01Next.f bt101.1 bt114.2.1 bt114.2.2 16).bind fun bt118 => (if bt118.1 = 0 then ((spec_GluingCount.f k (wrap64 (1 + bt105.1))).bind fun t121 => ((spec_GluingCount.f k (wrap64 (1 + bt105.1))).bind fun t122 => ((some (([(-1), t121, wrap64 (t122 - 1)] : List Int) : List Int)).bind fun y123 => ((spec_l01Next.f bt101.1 bt118.2.1 bt118.2.2 3).bind fun bt126 => (if 0 ≤ bt126.1 then (if bt126.1 < (y123.length : Int) then (some (wrap64 (1 + bt105.1), rd y123 bt126.1)) else (none)) else (none)))))) else (some (wrap64 (1 + bt105.1), Int.tmod (wrap64 (bt114.1 * 1009)) t117))))))))))) = some (r1, r2) := h
 clear h
 replace H := ydy.mp H
 obtain ⟨⟨t101, t102, t103⟩, A20, H⟩ := H
 replace H : ((spec_l01Next.f t101 t102 t103 4).bind fun bt105 => ((spec_l01Next.f t101 bt105.2.1 bt105.2.2 16).bind fun bt108 => (if bt108.1 = 0 then ((spec_l01Next.f t101 bt108.2.1 bt108.2.2 2).bind fun bt111 => (some (wrap64 (5 * bt111.1), 3))) else ((spec_l01Next.f t101 bt108.2.1 bt108.2.2 1000000007).bind fun bt114 => ((spec_GluingCount.f k (wrap64 (1 + bt105.1))).bind fun t117 => (if t117 = 0 then (none) else ((spec_l01Next.f t101 bt114.2.1 bt114.2.2 16).bind fun bt118 => (if bt118.1 = 0 then ((spec_GluingCount.f k (wrap64 (1 + bt105.1))).bind fun t121 => ((spec_GluingCount.f k (wrap64 (1 + bt105.1))).bind fun t122 => ((some (([(-1), t121, wrap64 (t122 - 1)] : List Int) : List Int)).bind fun y123 => ((spec_l01Next.f t101 bt118.2.1 bt118.2.2 3).bind fun bt126 => (if 0 ≤ bt126.1 then (if bt126.1 < (y123.length : Int) then (some (wrap64 (1 + bt105.1), rd y123 bt126.1)) else (none)) else (none)))))) else (some (wrap64 (1 + bt105.1), Int.tmod (wrap64 (bt114.1 * 1009)) t117)))))))))) = some (r1, r2) := H
 have A2 := Aside0.mk A20
 clear A20
 replace H := ydy.mp H
 obtain ⟨⟨t105, t106, t107⟩, A30, H⟩ := H
 replace H : ((spec_l01Next.f t101 t106 t107 16).bind fun bt108 => (if bt108.1 = 0 then ((spec_l01Next.f t101 bt108.2.1 bt108.2.2 2).bind fun bt111 => (some (wrap64 (5 * bt111.1), 3))) else ((spec_l01Next.f t101 bt108.2.1 bt108.2.2 1000000007).bind fun bt114 => ((spec_GluingCount.f k (wrap64 (1 + t105))).bind fun t117 => (if t117 = 0 then (none) else ((spec_l01Next.f t101 bt114.2.1 bt114.2.2 16).bind fun bt118 => (if bt118.1 = 0 then ((spec_GluingCount.f k (wrap64 (1 + t105))).bind fun t121 => ((spec_GluingCount.f k (wrap64 (1 + t105))).bind fun t122 => ((some (([(-1), t121, wrap64 (t122 - 1)] : List Int) : List Int)).bind fun y123 => ((spec_l01Next.f t101 bt118.2.1 bt118.2.2 3).bind fun bt126 => (if 0 ≤ bt126.1 then (if bt126.1 < (y123.length : Int) then (some (wrap64 (1 + t105), rd y123 bt126.1)) else (none)) else (none)))))) else (some (wrap64 (1 + t105), Int.tmod (wrap64 (bt114.1 * 1009)) t117))))))))) = some (r1, r2) := H
 have A3 := Aside0.mk A30
 clear A30
 replace H := ydy.mp H
 obtain ⟨⟨t108, t109, t110⟩, A40, H⟩ := H
 replace H : (if t108 = 0 then ((spec_l01Next.f t101 t109 t110 2).bind fun bt111 => (some (wrap64 (5 * bt111.1), 3))) else ((spec_l01Next.f t101 t109 t110 1000000007).bind fun bt114 => ((spec_GluingCount.f k (wrap64 (1 + t105))).bind fun t117 => (if t117 = 0 then (none) else ((spec_l01Next.f t101 bt114.2.1 bt114.2.2 16).bind fun bt118 => (if bt118.1 = 0 then ((spec_GluingCount.f k (wrap64 (1 + t105))).bind fun t121 => ((spec_GluingCount.f k (wrap64 (1 + t105))).bind fun t122 => ((some (([(-1), t121, wrap64 (t122 - 1)] : List Int) : List Int)).bind fun y123 => ((spec_l01Next.f t101 bt118.2.1 bt118.2.2 3).bind fun bt126 => (if 0 ≤ bt126.1 then (if bt126.1 < (y123.length : Int) then (some (wrap64 (1 + t105), rd y123 bt126.1)) else (none)) else (none)))))) else (some (wrap64 (1 + t105), Int.tmod (wrap64 (bt114.1 * 1009)) t117)))))))) = some (r1, r2) := H
 have A4 := Aside0.mk A40
 clear A40
 by_cases c5 : t108 = 0
 next =>
  rw [if_pos c5] at H
  have c5b0 : (t108 == 0) = true := beq_iff_eq.mpr c5
  have c5b1 : (t108 != 0) = false := bne_eq_false_iff_eq.mpr c5
  clear c5
  replace H := ydy.mp H
  obtain ⟨⟨t111, t112, t113⟩, A60, H⟩ := H
  replace H : (some (wrap64 (5 * t111), 3)) = some (r1, r2) := H
  have A6 := Aside0.mk A60
  clear A60
  simp only [Option.some.injEq, Prod.mk.injEq] at H
  obtain ⟨rfl, rfl⟩ := H
  go_enter Try.func16, Try.ntmps16
  go_wp2_with (first | ((with_reducible refine gate_callee (f := 42) rfl ?_); refine goesL_ (some 8) rfl rfl Try.func42 (by kernel_rfl) rfl #[.slice A0 l0.length c0] rfl (by (try simp only [yiy, yjy, yky]); first | done | rfl | (simp only [yly, ymy]; rfl)) ?_; (with_reducible refine (spec_l01From.calls k _ _ l0 t101 t102 t103 w _ ?side1 ?side2 ?side3 A2.out).mono ?_); (case side1 => repeat (first | (with_reducible first | exact HB.out | apply below_alloc | apply pw_below_drewN | apply below_drew1) | exact HB.out)); (case side2 => exact HR0.out); (case side3 => exact HC0.out); rintro e w7 ⟨g104, rfl, hi, hb, hb2⟩; refine ⟨_, rfl, ?_⟩; have n0_ := Aside0.mk (hb); have n1_ := Aside0.mk (hi); clear HB; have HB := n0_; have HI104 := n1_; clear n0_ n1_; (try clear hb); (try clear hb2); (try clear hk); (try clear hi)) | ((with_reducible refine gate_callee (f := 43) rfl ?_); refine goesL_ (some 10) rfl rfl Try.func43 (by kernel_rfl) rfl #[.pointer (some ⟨g104, 0, none⟩), .int .i64 4] rfl (by (try simp only [yiy, yjy, yky]); first | done | rfl | (simp only [yly, ymy]; rfl)) ?_; (with_reducible refine (spec_l01Next.calls g104 t101 t102 t103 4 t105 t106 t107 w _ ?side1 ?side2 A3.out).mono ?_); (case side1 => repeat (first | (with_reducible first | exact HI104.out | apply IsS81.alloc | apply IsS81.drewN | apply IsS81.drew | apply IsS81.set_1 | apply IsS81.set_2) | exact HI104.out)); (case side2 => repeat (first | (with_reducible first | exact HB.out | apply below_alloc | apply pw_below_drewN | apply below_drew1 | refine below_set ?_ (IsS81.ge HI104.out)) | exact HB.out)); rintro e w8 ⟨rfl, hi, hb, hk⟩; refine ⟨_, rfl, ?_⟩; have n0_ := Aside0.mk (hb); have n1_ := Aside0.mk (hi); clear HB; clear HI104; have HB := n0_; have HI104 := n1_; clear n0_ n1_; (try clear hb); (try clear hb2); (try clear hk); (try clear hi)) | ((with_reducible refine gate_callee (f := 43) rfl ?_); refine goesL_ (some 13) rfl rfl Try.func43 (by kernel_rfl) rfl #[.pointer (some ⟨g104, 0, none⟩), .int .i64 16] rfl (by (try simp only [yiy, yjy, yky]); first | done | rfl | (simp only [yly, ymy]; rfl)) ?_; (with_reducible refine (spec_l01Next.calls g104 t101 t106 t107 16 t108 t109 t110 w _ ?side1 ?side2 A4.out).mono ?_); (case side1 => repeat (first | (with_reducible first | exact HI104.out | apply IsS81.alloc | apply IsS81.drewN | apply IsS81.drew | apply IsS81.set_1 | apply IsS81.set_2) | exact HI104.out)); (case side2 => repeat (first | (with_reducible first | exact HB.out | apply below_alloc | apply pw_below_drewN | apply below_drew1 | refine below_set ?_ (IsS81.ge HI104.out)) | exact HB.out)); rintro e w9 ⟨rfl, hi, hb, hk⟩; refine ⟨_, rfl, ?_⟩; have n0_ := Aside0.mk (hb); have n1_ := Aside0.mk (hi); clear HB; clear HI104; have HB := n0_; have HI104 := n1_; clear n0_ n1_; (try clear hb); (try clear hb2); (try clear hk); (try clear hi)) | ((with_reducible refine gate_callee (f := 43) rfl ?_); refine goesL_ (some 16) rfl rfl Try.func43 (by kernel_rfl) rfl #[.pointer (some ⟨g104, 0, none⟩), .int .i64 2] rfl (by (try simp only [yiy, yjy, yky]); first | done | rfl | (simp only [yly, ymy]; rfl)) ?_; (with_reducible refine (spec_l01Next.calls g104 t101 t109 t110 2 t111 t112 t113 w _ ?side1 ?side2 A6.out).mono ?_); (case side1 => repeat (first | (with_reducible first | exact HI104.out | apply IsS81.alloc | apply IsS81.drewN | apply IsS81.drew | apply IsS81.set_1 | apply IsS81.set_2) | exact HI104.out)); (case side2 => repeat (first | (with_reducible first | exact HB.out | apply below_alloc | apply pw_below_drewN | apply below_drew1 | refine below_set ?_ (IsS81.ge HI104.out)) | exact HB.out)); rintro e w10 ⟨rfl, hi, hb, hk⟩; refine ⟨_, rfl, ?_⟩; have n0_ := Aside0.mk (hb); have n1_ := Aside0.mk (hi); clear HB; clear HI104; have HB := n0_; have HI104 := n1_; clear n0_ n1_; (try clear hb); (try clear hb2); (try clear hk); (try clear hi)))
  go_ret2
  exact ⟨by first | rfl | (simp [errW_none, errW_some] <;> rfl) | (simp [*, errW_none, errW_some] <;> rfl), by repeat (first | (with_reducible first | exact HB.out | apply below_alloc | apply pw_below_drewN | apply below_drew1 | refine below_set ?_ (IsS81.ge HI104.out)) | exact HB.out)⟩
 next =>
  rw [if_neg c5] at H
  have c5b0 : (t108 == 0) = false := beq_eq_false_iff_ne.mpr c5
  have c5b1 : (t108 != 0) = true := bne_iff_ne.mpr c5
  replace H := ydy.mp H
  obtain ⟨⟨t114, t115, t116⟩, A110, H⟩ := H
  replace H : ((spec_GluingCount.f k (wrap64 (1 + t105))).bind fun t117 => (if t117 = 0 then (none) else ((spec_l01Next.f t101 t115 t116 16).bind fun bt118 => (if bt118.1 = 0 then ((spec_GluingCount.f k (wrap64 (1 + t105))).bind fun t121 => ((spec_GluingCount.f k (wrap64 (1 + t105))).bind fun t122 => ((some (([(-1), t121, wrap64 (t122 - 1)] : List Int) : List Int)).bind fun y123 => ((spec_l01Next.f t101 bt118.2.1 bt118.2.2 3).bind fun bt126 => (if 0 ≤ bt126.1 then (if bt126.1 < (y123.length : Int) then (some (wrap64 (1 + t105), rd y123 bt126.1)) else (none)) else (none)))))) else (some (wrap64 (1 + t105), Int.tmod (wrap64 (t114 * 1009)) t117)))))) = some (r1, r2) := H
  have A11 := Aside0.mk A110
  clear A110
  replace H := ydy.mp H
  obtain ⟨t117, A120, H⟩ := H
  replace H : (if t117 = 0 then (none) else ((spec_l01Next.f t101 t115 t116 16).bind fun bt118 => (if bt118.1 = 0 then ((spec_GluingCount.f k (wrap64 (1 + t105))).bind fun t121 => ((spec_GluingCount.f k (wrap64 (1 + t105))).bind fun t122 => ((some (([(-1), t121, wrap64 (t122 - 1)] : List Int) : List Int)).bind fun y123 => ((spec_l01Next.f t101 bt118.2.1 bt118.2.2 3).bind fun bt126 => (if 0 ≤ bt126.1 then (if bt126.1 < (y123.length : Int) then (some (wrap64 (1 + t105), rd y123 bt126.1)) else (none)) else (none)))))) else (some (wrap64 (1 + t105), Int.tmod (wrap64 (t114 * 1009)) t117))))) = some (r1, r2) := H
  have A12 := Aside0.mk A120
  clear A120
  by_cases c13 : t117 = 0
  next =>
   rw [if_pos c13] at H
   exact absurd H (by simp)
  next =>
   rw [if_neg c13] at H
   have c13b0 : (t117 == 0) = false := beq_eq_false_iff_ne.mpr c13
   have c13b1 : (t117 != 0) = true := bne_iff_ne.mpr c13
   replace H := ydy.mp H
   obtain ⟨⟨t118, t119, t120⟩, A140, H⟩ := H
   replace H : (if t118 = 0 then ((spec_GluingCount.f k (wrap64 (1 + t105))).bind fun t121 => ((spec_GluingCount.f k (wrap64 (1 + t105))).bind fun t122 => ((some (([(-1), t121, wrap64 (t122 - 1)] : List Int) : List Int)).bind fun y123 => ((spec_l01Next.f t101 t119 t120 3).bind fun bt126 => (if 0 ≤ bt126.1 then (if bt126.1 < (y123.length : Int) then (some (wrap64 (1 + t105), rd y123 bt126.1)) else (none)) else (none)))))) else (some (wrap64 (1 + t105), Int.tmod (wrap64 (t114 * 1009)) t117))) = some (r1, r2) := H
   have A14 := Aside0.mk A140
   clear A140
   by_cases c15 : t118 = 0
   rotate_left
   next =>
    rw [if_neg c15] at H
    have c15b0 : (t118 == 0) = false := beq_eq_false_iff_ne.mpr c15
    have c15b1 : (t118 != 0) = true := bne_iff_ne.mpr c15
    simp only [Option.some.injEq, Prod.mk.injEq] at H
    obtain ⟨rfl, rfl⟩ := H
    go_enter Try.func16, Try.ntmps16
    go_wp2_with (first | ((with_reducible refine gate_callee (f := 42) rfl ?_); refine goesL_ (some 8) rfl rfl Try.func42 (by kernel_rfl) rfl #[.slice A0 l0.length c0] rfl (by (try simp only [yiy, yjy, yky]); first | done | rfl | (simp only [yly, ymy]; rfl)) ?_; (with_reducible refine (spec_l01From.calls k _ _ l0 t101 t102 t103 w _ ?side1 ?side2 ?side3 A2.out).mono ?_); (case side1 => repeat (first | (with_reducible first | exact HB.out | apply below_alloc | apply pw_below_drewN | apply below_drew1) | exact HB.out)); (case side2 => exact HR0.out); (case side3 => exact HC0.out); rintro e w30 ⟨g104, rfl, hi, hb, hb2⟩; refine ⟨_, rfl, ?_⟩; have n0_ := Aside0.mk (hb); have n1_ := Aside0.mk (hi); clear HB; have HB := n0_; have HI104 := n1_; clear n0_ n1_; (try clear hb); (try clear hb2); (try clear hk); (try clear hi)) | ((with_reducible refine gate_callee (f := 43) rfl ?_); refine goesL_ (some 10) rfl rfl Try.func43 (by kernel_rfl) rfl #[.pointer (some ⟨g104, 0, none⟩), .int .i64 4] rfl (by (try simp only [yiy, yjy, yky]); first | done | rfl | (simp only [yly, ymy]; rfl)) ?_; (with_reducible refine (spec_l01Next.calls g104 t101 t102 t103 4 t105 t106 t107 w _ ?side1 ?side2 A3.out).mono ?_); (case side1 => repeat (first | (with_reducible first | exact HI104.out | apply IsS81.alloc | apply IsS81.drewN | apply IsS81.drew | apply IsS81.set_1 | apply IsS81.set_2) | exact HI104.out)); (case side2 => repeat (first | (with_reducible first | exact HB.out | apply below_alloc | apply pw_below_drewN | apply below_drew1 | refine below_set ?_ (IsS81.ge HI104.out)) | exact HB.out)); rintro e w31 ⟨rfl, hi, hb, hk⟩; refine ⟨_, rfl, ?_⟩; have n0_ := Aside0.mk (hb); have n1_ := Aside0.mk (hi); clear HB; clear HI104; have HB := n0_; have HI104 := n1_; clear n0_ n1_; (try clear hb); (try clear hb2); (try clear hk); (try clear hi)) | ((with_reducible refine gate_callee (f := 43) rfl ?_); refine goesL_ (some 13) rfl rfl Try.func43 (by kernel_rfl) rfl #[.pointer (some ⟨g104, 0, none⟩), .int .i64 16] rfl (by (try simp only [yiy, yjy, yky]); first | done | rfl | (simp only [yly, ymy]; rfl)) ?_; (with_reducible refine (spec_l01Next.calls g104 t101 t106 t107 16 t108 t109 t110 w _ ?side1 ?side2 A4.out).mono ?_); (case side1 => repeat (first | (with_reducible first | exact HI104.out | apply IsS81.alloc | apply IsS81.drewN | apply IsS81.drew | apply IsS81.set_1 | apply IsS81.set_2) | exact HI104.out)); (case side2 => repeat (first | (with_reducible first | exact HB.out | apply below_alloc | apply pw_below_drewN | apply below_drew1 | refine below_set ?_ (IsS81.ge HI104.out)) | exact HB.out)); rintro e w32 ⟨rfl, hi, hb, hk⟩; refine ⟨_, rfl, ?_⟩; have n0_ := Aside0.mk (hb); have n1_ := Aside0.mk (hi); clear HB; clear HI104; have HB := n0_; have HI104 := n1_; clear n0_ n1_; (try clear hb); (try clear hb2); (try clear hk); (try clear hi)) | ((with_reducible refine gate_callee (f := 43) rfl ?_); refine goesL_ (some 19) rfl rfl Try.func43 (by kernel_rfl) rfl #[.pointer (some ⟨g104, 0, none⟩), .int .i64 1000000007] rfl (by (try simp only [yiy, yjy, yky]); first | done | rfl | (simp only [yly, ymy]; rfl)) ?_; (with_reducible refine (spec_l01Next.calls g104 t101 t109 t110 1000000007 t114 t115 t116 w _ ?side1 ?side2 A11.out).mono ?_); (case side1 => repeat (first | (with_reducible first | exact HI104.out | apply IsS81.alloc | apply IsS81.drewN | apply IsS81.drew | apply IsS81.set_1 | apply IsS81.set_2) | exact HI104.out)); (case side2 => repeat (first | (with_reducible first | exact HB.out | apply below_alloc | apply pw_below_drewN | apply below_drew1 | refine below_set ?_ (IsS81.ge HI104.out)) | exact HB.out)); rintro e w33 ⟨rfl, hi, hb, hk⟩; refine ⟨_, rfl, ?_⟩; have n0_ := Aside0.mk (hb); have n1_ := Aside0.mk (hi); clear HB; clear HI104; have HB := n0_; have HI104 := n1_; clear n0_ n1_; (try clear hb); (try clear hb2); (try clear hk); (try clear hi)) | ((with_reducible refine gate_callee (f := 44) rfl ?_); refine goesL_ (some 22) rfl rfl Try.func44 (by kernel_rfl) rfl #[.int .i64 (wrap64 (1 + t105))] rfl (by (try simp only [yiy, yjy, yky]); first | done | rfl | (simp only [yly, ymy]; rfl)) ?_; (with_reducible refine (spec_GluingCount.calls k (wrap64 (1 + t105)) t117 _ A12.out).mono ?_); rintro e w' ⟨rfl, ⟨nd, rfl⟩⟩; refine ⟨_, rfl, ?_⟩) | ((with_reducible refine gate_callee (f := 43) rfl ?_); refine goesL_ (some 25) rfl rfl Try.func43 (by kernel_rfl) rfl #[.pointer (some ⟨g104, 0, none⟩), .int .i64 16] rfl (by (try simp only [yiy, yjy, yky]); first | done | rfl | (simp only [yly, ymy]; rfl)) ?_; (with_reducible refine (spec_l01Next.calls g104 t101 t115 t116 16 t118 t119 t120 w _ ?side1 ?side2 A14.out).mono ?_); (case side1 => repeat (first | (with_reducible first | exact HI104.out | apply IsS81.alloc | apply IsS81.drewN | apply IsS81.drew | apply IsS81.set_1 | apply IsS81.set_2) | exact HI104.out)); (case side2 => repeat (first | (with_reducible first | exact HB.out | apply below_alloc | apply pw_below_drewN | apply below_drew1 | refine below_set ?_ (IsS81.ge HI104.out)) | exact HB.out)); rintro e w34 ⟨rfl, hi, hb, hk⟩; refine ⟨_, rfl, ?_⟩; have n0_ := Aside0.mk (hb); have n1_ := Aside0.mk (hi); clear HB; clear HI104; have HB := n0_; have HI104 := n1_; clear n0_ n1_; (try clear hb); (try clear hb2); (try clear hk); (try clear hi)))
    go_ret2
    exact ⟨by first | rfl | (simp [errW_none, errW_some] <;> rfl) | (simp [*, errW_none, errW_some] <;> rfl), by repeat (first | (with_reducible first | exact HB.out | apply below_alloc | apply pw_below_drewN | apply below_drew1 | refine below_set ?_ (IsS81.ge HI104.out)) | exact HB.out)⟩
   rw [if_pos c15] at H
   have c15b0 : (t118 == 0) = true := beq_iff_eq.mpr c15
   have c15b1 : (t118 != 0) = false := bne_eq_false_iff_eq.mpr c15
   clear c15
   replace H := ydy.mp H
   obtain ⟨t121, A160, H⟩ := H
   replace H : ((spec_GluingCount.f k (wrap64 (1 + t105))).bind fun t122 => ((some (([(-1), t121, wrap64 (t122 - 1)] : List Int) : List Int)).bind fun y123 => ((spec_l01Next.f t101 t119 t120 3).bind fun bt126 => (if 0 ≤ bt126.1 then (if bt126.1 < (y123.length : Int) then (some (wrap64 (1 + t105), rd y123 bt126.1)) else (none)) else (none))))) = some (r1, r2) := H
   have A16 := Aside0.mk A160
   clear A160
   replace H := ydy.mp H
   obtain ⟨t122, A170, H⟩ := H
   replace H : ((some (([(-1), t121, wrap64 (t122 - 1)] : List Int) : List Int)).bind fun y123 => ((spec_l01Next.f t101 t119 t120 3).bind fun bt126 => (if 0 ≤ bt126.1 then (if bt126.1 < (y123.length : Int) then (some (wrap64 (1 + t105), rd y123 bt126.1)) else (none)) else (none)))) = some (r1, r2) := H
   have A17 := Aside0.mk A170
   clear A170
   obtain ⟨y123, hy123⟩ : ∃ y_ : List Int, y_ = (([(-1), t121, wrap64 (t122 - 1)] : List Int)) := ⟨_, rfl⟩
   replace H : ((spec_l01Next.f t101 t119 t120 3).bind fun bt126 => (if 0 ≤ bt126.1 then (if bt126.1 < (y123.length : Int) then (some (wrap64 (1 + t105), rd y123 bt126.1)) else (none)) else (none))) = some (r1, r2) := by first | (rw [hy123]; with_reducible exact H) | (have H2_ := (yfy _ _).symm.trans H; rw [hy123]; with_reducible exact H2_) | (have H2_ := (yfy _ _).symm.trans H; with_reducible exact H2_) | with_reducible exact H | (rw [hy123]; exact H) | exact H
   have Ny123 := Aside0.mk hy123
   clear hy123
   replace H := ydy.mp H
   obtain ⟨⟨t126, t127, t128⟩, A180, H⟩ := H
   replace H : (if 0 ≤ t126 then (if t126 < (y123.length : Int) then (some (wrap64 (1 + t105), rd y123 t126)) else (none)) else (none)) = some (r1, r2) := H
   have A18 := Aside0.mk A180
   clear A180
   by_cases c19 : 0 ≤ t126
   rotate_left
   next =>
    rw [if_neg c19] at H
    exact absurd H (by simp)
   rw [if_pos c19] at H
   have c19b0 : decide (0 ≤ t126) = true := ygy c19
   clear c19
   by_cases c20 : t126 < (y123.length : Int)
   rotate_left
   next =>
    rw [if_neg c20] at H
    exact absurd H (by simp)
   rw [if_pos c20] at H
   have c20b0 : decide (t126 < (y123.length : Int)) = true := ygy c20
   clear c20
   simp only [Option.some.injEq, Prod.mk.injEq] at H
   obtain ⟨rfl, rfl⟩ := H
   go_enter Try.func16, Try.ntmps16
   go_wp2_with (first | ((with_reducible refine gate_callee (f := 42) rfl ?_); refine goesL_ (some 8) rfl rfl Try.func42 (by kernel_rfl) rfl #[.slice A0 l0.length c0] rfl (by (try simp only [yiy, yjy, yky]); first | done | rfl | (simp only [yly, ymy]; rfl)) ?_; (with_reducible refine (spec_l01From.calls k _ _ l0 t101 t102 t103 w _ ?side1 ?side2 ?side3 A2.out).mono ?_); (case side1 => repeat (first | (with_reducible first | exact HB.out | apply below_alloc | apply pw_below_drewN | apply below_drew1) | exact HB.out)); (case side2 => exact HR0.out); (case side3 => exact HC0.out); rintro e w21 ⟨g104, rfl, hi, hb, hb2⟩; refine ⟨_, rfl, ?_⟩; have n0_ := Aside0.mk (hb); have n1_ := Aside0.mk (hi); clear HB; have HB := n0_; have HI104 := n1_; clear n0_ n1_; (try clear hb); (try clear hb2); (try clear hk); (try clear hi)) | ((with_reducible refine gate_callee (f := 43) rfl ?_); refine goesL_ (some 10) rfl rfl Try.func43 (by kernel_rfl) rfl #[.pointer (some ⟨g104, 0, none⟩), .int .i64 4] rfl (by (try simp only [yiy, yjy, yky]); first | done | rfl | (simp only [yly, ymy]; rfl)) ?_; (with_reducible refine (spec_l01Next.calls g104 t101 t102 t103 4 t105 t106 t107 w _ ?side1 ?side2 A3.out).mono ?_); (case side1 => repeat (first | (with_reducible first | exact HI104.out | apply IsS81.alloc | apply IsS81.drewN | apply IsS81.drew | apply IsS81.set_1 | apply IsS81.set_2) | exact HI104.out)); (case side2 => repeat (first | (with_reducible first | exact HB.out | apply below_alloc | apply pw_below_drewN | apply below_drew1 | refine below_set ?_ (IsS81.ge HI104.out)) | exact HB.out)); rintro e w22 ⟨rfl, hi, hb, hk⟩; refine ⟨_, rfl, ?_⟩; have n0_ := Aside0.mk (hb); have n1_ := Aside0.mk (hi); clear HB; clear HI104; have HB := n0_; have HI104 := n1_; clear n0_ n1_; (try clear hb); (try clear hb2); (try clear hk); (try clear hi)) | ((with_reducible refine gate_callee (f := 43) rfl ?_); refine goesL_ (some 13) rfl rfl Try.func43 (by kernel_rfl) rfl #[.pointer (some ⟨g104, 0, none⟩), .int .i64 16] rfl (by (try simp only [yiy, yjy, yky]); first | done | rfl | (simp only [yly, ymy]; rfl)) ?_; (with_reducible refine (spec_l01Next.calls g104 t101 t106 t107 16 t108 t109 t110 w _ ?side1 ?side2 A4.out).mono ?_); (case side1 => repeat (first | (with_reducible first | exact HI104.out | apply IsS81.alloc | apply IsS81.drewN | apply IsS81.drew | apply IsS81.set_1 | apply IsS81.set_2) | exact HI104.out)); (case side2 => repeat (first | (with_reducible first | exact HB.out | apply below_alloc | apply pw_below_drewN | apply below_drew1 | refine below_set ?_ (IsS81.ge HI104.out)) | exact HB.out)); rintro e w23 ⟨rfl, hi, hb, hk⟩; refine ⟨_, rfl, ?_⟩; have n0_ := Aside0.mk (hb); have n1_ := Aside0.mk (hi); clear HB; clear HI104; have HB := n0_; have HI104 := n1_; clear n0_ n1_; (try clear hb); (try clear hb2); (try clear hk); (try clear hi)) | ((with_reducible refine gate_callee (f := 43) rfl ?_); refine goesL_ (some 19) rfl rfl Try.func43 (by kernel_rfl) rfl #[.pointer (some ⟨g104, 0, none⟩), .int .i64 1000000007] rfl (by (try simp only [yiy, yjy, yky]); first | done | rfl | (simp only [yly, ymy]; rfl)) ?_; (with_reducible refine (spec_l01Next.calls g104 t101 t109 t110 1000000007 t114 t115 t116 w _ ?side1 ?side2 A11.out).mono ?_); (case side1 => repeat (first | (with_reducible first | exact HI104.out | apply IsS81.alloc | apply IsS81.drewN | apply IsS81.drew | apply IsS81.set_1 | apply IsS81.set_2) | exact HI104.out)); (case side2 => repeat (first | (with_reducible first | exact HB.out | apply below_alloc | apply pw_below_drewN | apply below_drew1 | refine below_set ?_ (IsS81.ge HI104.out)) | exact HB.out)); rintro e w24 ⟨rfl, hi, hb, hk⟩; refine ⟨_, rfl, ?_⟩; have n0_ := Aside0.mk (hb); have n1_ := Aside0.mk (hi); clear HB; clear HI104; have HB := n0_; have HI104 := n1_; clear n0_ n1_; (try clear hb); (try clear hb2); (try clear hk); (try clear hi)) | ((with_reducible refine gate_callee (f := 44) rfl ?_); refine goesL_ (some 22) rfl rfl Try.func44 (by kernel_rfl) rfl #[.int .i64 (wrap64 (1 + t105))] rfl (by (try simp only [yiy, yjy, yky]); first | done | rfl | (simp only [yly, ymy]; rfl)) ?_; (with_reducible refine (spec_GluingCount.calls k (wrap64 (1 + t105)) t117 _ A12.out).mono ?_); rintro e w' ⟨rfl, ⟨nd, rfl⟩⟩; refine ⟨_, rfl, ?_⟩) | ((with_reducible refine gate_callee (f := 43) rfl ?_); refine goesL_ (some 25) rfl rfl Try.func43 (by kernel_rfl) rfl #[.pointer (some ⟨g104, 0, none⟩), .int .i64 16] rfl (by (try simp only [yiy, yjy, yky]); first | done | rfl | (simp only [yly, ymy]; rfl)) ?_; (with_reducible refine (spec_l01Next.calls g104 t101 t115 t116 16 t118 t119 t120 w _ ?side1 ?side2 A14.out).mono ?_); (case side1 => repeat (first | (with_reducible first | exact HI104.out | apply IsS81.alloc | apply IsS81.drewN | apply IsS81.drew | apply IsS81.set_1 | apply IsS81.set_2) | exact HI104.out)); (case side2 => repeat (first | (with_reducible first | exact HB.out | apply below_alloc | apply pw_below_drewN | apply below_drew1 | refine below_set ?_ (IsS81.ge HI104.out)) | exact HB.out)); rintro e w25 ⟨rfl, hi, hb, hk⟩; refine ⟨_, rfl, ?_⟩; have n0_ := Aside0.mk (hb); have n1_ := Aside0.mk (hi); clear HB; clear HI104; have HB := n0_; have HI104 := n1_; clear n0_ n1_; (try clear hb); (try clear hb2); (try clear hk); (try clear hi)) | ((with_reducible refine gate_callee (f := 44) rfl ?_); refine goesL_ (some 28) rfl rfl Try.func44 (by kernel_rfl) rfl #[.int .i64 (wrap64 (1 + t105))] rfl (by (try simp only [yiy, yjy, yky]); first | done | rfl | (simp only [yly, ymy]; rfl)) ?_; (with_reducible refine (spec_GluingCount.calls k (wrap64 (1 + t105)) t121 _ A16.out).mono ?_); rintro e w' ⟨rfl, ⟨nd, rfl⟩⟩; refine ⟨_, rfl, ?_⟩) | ((with_reducible refine gate_callee (f := 44) rfl ?_); refine goesL_ (some 30) rfl rfl Try.func44 (by kernel_rfl) rfl #[.int .i64 (wrap64 (1 + t105))] rfl (by (try simp only [yiy, yjy, yky]); first | done | rfl | (simp only [yly, ymy]; rfl)) ?_; (with_reducible refine (spec_GluingCount.calls k (wrap64 (1 + t105)) t122 _ A17.out).mono ?_); rintro e w' ⟨rfl, ⟨nd, rfl⟩⟩; refine ⟨_, rfl, ?_⟩) | ((with_reducible refine gate_dst (N := 32) rfl ?_); refine Kd.R_lit (Kd.int .i64) _ 2 ?hg (N := 32) ?hd (xs := ([(-1), t121, wrap64 (t122 - 1)] : List Int)) (inner := [.int .i64 (-1), .int .i64 t121, .int .i64 (wrap64 (t122 - 1))]) (ok := fun _ => True) (okp := fun _ => True) ?hr ?hp (fun _ hk => hk) trivial (Below.refl _ _) (yoy _) (by simp) ?_; (case hd => rfl); (case hg => rfl); (case hr => first | (go_simp; done) | (go_simp; rfl)); (case hp => exact (Reps.one (show Kd.M (Kd.int .i64) _ _ _ (-1) [.int .i64 (-1)] from rfl) (Reps.one (show Kd.M (Kd.int .i64) _ _ _ t121 [.int .i64 t121] from rfl) (Reps.one (show Kd.M (Kd.int .i64) _ _ _ (wrap64 (t122 - 1)) [.int .i64 (wrap64 (t122 - 1))] from rfl) (Reps.none _ _))))); intro v124 w26 ho27 hb hg_ hnew_; clear hg_ hnew_; (first | rw [← Ny123.out] at ho27 | (simp only [Int.reduceToNat] at ho27; rw [← Ny123.out] at ho27)); have n0_ := Aside0.mk (Kd.R_lower ho27 (below_size (by repeat (first | (with_reducible first | exact HB.out | apply below_alloc | apply pw_below_drewN | apply below_drew1 | refine below_set ?_ (IsS81.ge HI104.out)) | exact HB.out)))); have n1_ := Aside0.mk (IsS81.below (by repeat (first | (with_reducible first | exact HI104.out | apply IsS81.alloc | apply IsS81.drewN | apply IsS81.drew | apply IsS81.set_1 | apply IsS81.set_2) | exact HI104.out)) hb); have n2_ := Aside0.mk (below_step (by repeat (first | (with_reducible first | exact HB.out | apply below_alloc | apply pw_below_drewN | apply below_drew1 | refine below_set ?_ (IsS81.ge HI104.out)) | exact HB.out)) hb); clear HI104; clear HB; have HO125 := n0_; have HI104 := n1_; have HB := n2_; clear n0_ n1_ n2_; clear hb ho27) | ((with_reducible refine gate_callee (f := 43) rfl ?_); refine goesL_ (some 34) rfl rfl Try.func43 (by kernel_rfl) rfl #[.pointer (some ⟨g104, 0, none⟩), .int .i64 3] rfl (by (try simp only [yiy, yjy, yky]); first | done | rfl | (simp only [yly, ymy]; rfl)) ?_; (with_reducible refine (spec_l01Next.calls g104 t101 t119 t120 3 t126 t127 t128 w _ ?side1 ?side2 A18.out).mono ?_); (case side1 => repeat (first | (with_reducible first | exact HI104.out | apply IsS81.alloc | apply IsS81.drewN | apply IsS81.drew | apply IsS81.set_1 | apply IsS81.set_2) | exact HI104.out)); (case side2 => repeat (first | (with_reducible first | exact HB.out | apply below_alloc | apply pw_below_drewN | apply below_drew1 | refine below_set ?_ (IsS81.ge HI104.out)) | exact HB.out)); rintro e w28 ⟨rfl, hi, hb, hk⟩; refine ⟨_, rfl, ?_⟩; have n0_ := Aside0.mk (Kd.R_mono (Kd.R_keep (IsS81.apart (show IsS81 w _ g104 t101 t119 t120 from by repeat (first | (with_reducible first | exact HI104.out | apply IsS81.alloc | apply IsS81.drewN | apply IsS81.drew | apply IsS81.set_1 | apply IsS81.set_2) | exact HI104.out)) (by (with_reducible repeat (first | apply Kd.R_alloc | apply Kd.R_drewN | apply Kd.R_drew)); exact HO125.out) (by decide)) hk (fun _ h => h.2)) (fun _ h => h.1)); have n1_ := Aside0.mk (hb); have n2_ := Aside0.mk (hi); clear HO125; clear HB; clear HI104; have HO125 := n0_; have HB := n1_; have HI104 := n2_; clear n0_ n1_ n2_; (try clear hb); (try clear hb2); (try clear hk); (try clear hi); obtain ⟨Ao29, co29, eo29⟩ := Kd.R_slice HO125.out; subst eo29; have p129 : 0 ≤ (t126 : Int) := of_decide_eq_true (by first | (with_reducible assumption) | assumption); have q129 : t126 < (y123.length : Int) := of_decide_eq_true (by first | (with_reducible assumption) | assumption); obtain ⟨ad129, e129, hx129_0⟩ := Kd.at_int (Kd.R_reads' HO125.out).2.2 t126 p129 q129; cases e129; replace p129 := eq_true p129; replace q129 := eq_true q129))
   go_ret2
   exact ⟨by first | rfl | (simp [errW_none, errW_some] <;> rfl) | (simp [*, errW_none, errW_some] <;> rfl), by repeat (first | (with_reducible first | exact HB.out | apply below_alloc | apply pw_below_drewN | apply below_drew1 | refine below_set ?_ (IsS81.ge HI104.out)) | exact HB.out)⟩
/-! ### spec_l07Free: function 61 -/
def spec_l07Free.f  : Option ((List (SFace))) := some (([(⟨(-1), 0⟩ : SFace), (⟨(-1), 0⟩ : SFace), (⟨(-1), 0⟩ : SFace), (⟨(-1), 0⟩ : SFace)] : List (SFace)))
set_option maxHeartbeats 8000000 in
set_option maxRecDepth 100000 in
theorem spec_l07Free.calls  (r : List (SFace)) (w : World) (h : spec_l07Free.f  = some r) :
    Calls Try.prog 61 #[] w fun e w' => ∃ v0_ : Value, e = .returned (v0_) ∧ Kd.R kFace 47 w' w.heap.size (fun _ => True) v0_ r ∧ Below w.heap.size w w' := by
  have hu47 := Try.underlying47
  have HB := Aside0.mk (Below.refl w.heap.size w)
  have H : (some (([(⟨(-1), 0⟩ : SFace), (⟨(-1), 0⟩ : SFace), (⟨(-1), 0⟩ : SFace), (⟨(-1), 0⟩ : SFace)] : List (SFace)))) = some r := h
  clear h
  obtain ⟨y101, hy101⟩ : ∃ y_ : List (SFace), y_ = (([(⟨(-1), 0⟩ : SFace), (⟨(-1), 0⟩ : SFace), (⟨(-1), 0⟩ : SFace), (⟨(-1), 0⟩ : SFace)] : List (SFace))) := ⟨_, rfl⟩
  replace H : (some y101) = some r := by first | (rw [hy101]; with_reducible exact H) | (have H2_ := (yfy _ _).symm.trans H; rw [hy101]; with_reducible exact H2_) | (have H2_ := (yfy _ _).symm.trans H; with_reducible exact H2_) | with_reducible exact H | (rw [hy101]; exact H) | exact H
  have Ny101 := Aside0.mk hy101
  clear hy101
  obtain rfl := yey H
  go_enter Try.func61, Try.ntmps61
  go_wp2_with (first | ((with_reducible refine gate_dst (N := 5) rfl ?_); refine Kd.R_lit kFace _ 47 ?hg (N := 5) ?hd (xs := ([(⟨(-1), 0⟩ : SFace), (⟨(-1), 0⟩ : SFace), (⟨(-1), 0⟩ : SFace), (⟨(-1), 0⟩ : SFace)] : List (SFace))) (inner := [.int .i64 (-1), .int .i64 0, .int .i64 (-1), .int .i64 0, .int .i64 (-1), .int .i64 0, .int .i64 (-1), .int .i64 0]) (ok := fun _ => True) (okp := fun _ => True) ?hr ?hp (fun _ hk => hk) trivial (Below.refl _ _) (yoy _) (by simp) ?_; (case hd => rfl); (case hg => rfl); (case hr => first | (go_simp; done) | (go_simp; rfl)); (case hp => exact (Reps.c2 (show Kd.M kFace _ _ _ (⟨(-1), 0⟩ : SFace) [.int .i64 (-1), .int .i64 0] from (kFace_mkM _ _ _ (⟨(-1), 0⟩ : SFace) )) (Reps.c2 (show Kd.M kFace _ _ _ (⟨(-1), 0⟩ : SFace) [.int .i64 (-1), .int .i64 0] from (kFace_mkM _ _ _ (⟨(-1), 0⟩ : SFace) )) (Reps.c2 (show Kd.M kFace _ _ _ (⟨(-1), 0⟩ : SFace) [.int .i64 (-1), .int .i64 0] from (kFace_mkM _ _ _ (⟨(-1), 0⟩ : SFace) )) (Reps.c2 (show Kd.M kFace _ _ _ (⟨(-1), 0⟩ : SFace) [.int .i64 (-1), .int .i64 0] from (kFace_mkM _ _ _ (⟨(-1), 0⟩ : SFace) )) (Reps.none _ _)))))); intro v102 w1 ho2 hb hg_ hnew_; clear hg_ hnew_; (first | rw [← Ny101.out] at ho2 | (simp only [Int.reduceToNat] at ho2; rw [← Ny101.out] at ho2)); have n0_ := Aside0.mk (Kd.R_lower ho2 (below_size (by repeat (first | (with_reducible first | exact HB.out | apply below_alloc | apply pw_below_drewN | apply below_drew1) | exact HB.out)))); have n1_ := Aside0.mk (below_step (by repeat (first | (with_reducible first | exact HB.out | apply below_alloc | apply pw_below_drewN | apply below_drew1) | exact HB.out)) hb); clear HB; have HO103 := n0_; have HB := n1_; clear n0_ n1_; clear hb ho2))
  go_ret
  exact ⟨_, by first | rfl | (simp [errW_none, errW_some] <;> rfl) | (simp [*, errW_none, errW_some] <;> rfl), by (with_reducible repeat (first | apply Kd.R_alloc | apply Kd.R_drewN | apply Kd.R_drew)); exact HO103.out, by repeat (first | (with_reducible first | exact HB.out | apply below_alloc | apply pw_below_drewN | apply below_drew1) | exact HB.out)⟩
/-! l07Glue, in the print's words. -/
def spec_l07Glue.f (k : Nat) (t : List (List SFace)) (a f b p : Int) : Option (List (List SFace)) := (spec_l06At.f k p f).bind fun g => (spec_l06Back.f k p).bind fun q =>
  if (0 ≤ a ∧ a < t.length ∧ 0 ≤ f ∧ f < (rd_LFace t a).length) ∧ (0 ≤ b ∧ b < t.length ∧ 0 ≤ g ∧ g < (rd_LFace (putF t a f ⟨b, p⟩) b).length) then some (putF (putF t a f ⟨b, p⟩) b g ⟨a, q⟩) else none
theorem spec_l07Glue.calls (k : Nat) (P0_ : Nat → Prop) (v : Value) (t : List (List SFace)) (a f b p : Int) (r : List (List SFace)) (w0 w : World) (hB : Below w0.heap.size w0 w) (ho0 : Kd.S (Kd.slice 47 kFace) 48 w w0.heap.size P0_ v t) (h : spec_l07Glue.f k t a f b p = some r) :
    Calls Try.prog 62 #[.agg #[v], .int .i64 a, .int .i64 f, .int .i64 b, .int .i64 p] w fun e w' => e = .returned (.tuple #[]) ∧ Kd.S (Kd.slice 47 kFace) 48 w' w0.heap.size P0_ v r ∧ Below w0.heap.size w0 w' ∧ Kept w w' P0_ := by
  obtain ⟨g, hg, h⟩ := ydy.mp h
  obtain ⟨q, hq, h⟩ := ydy.mp h
  split at h
  · rename_i hc
    obtain ⟨⟨a0, a1, f0, f1⟩, b0, b1, g0, g1⟩ := hc
    rw [← yey h]
    exact spec_l07Glue.raw k P0_ v t a f b p g q w0 w hB ho0 a0 a1 f0 f1 b0 b1 g0 g1 hg hq
  · cases h
/-! ### spec_l08Fresh: function 21 -/
def spec_l08Fresh.l0 : Nat → Int → List Int → Int → Option (List Int)
  | 0, _, _, _ => none
  | k + 1, x0, x3, x4 => if x4 < x0 then (if x3.length < 17592186044416 then (spec_l08Fresh.l0 k x0 (x3 ++ [x4]) (wrap64 (x4 + 1))) else (none)) else (some x3)
def spec_l08Fresh.f (k : Nat) (a0 : Int) : Option (List Int) := spec_l08Fresh.l0 k a0 (([] : List Int)) 0
set_option maxHeartbeats 8000000 in
set_option maxRecDepth 100000 in
theorem spec_l08Fresh.calls (k : Nat) (a0 : Int) (r : List Int) (w : World) (h : spec_l08Fresh.f k a0 = some r) :
    Calls Try.prog 21 #[.int .i64 a0] w fun e w' => ∃ v0_ : Value, e = .returned (v0_) ∧ Kd.R (Kd.int .i64) 2 w' w.heap.size (fun _ => True) v0_ r ∧ Below w.heap.size w w' := by
  have HB := Aside0.mk (Below.refl w.heap.size w)
  have H : (spec_l08Fresh.l0 k a0 (([] : List Int)) 0) = some r := h
  clear h
  obtain ⟨y101, hy101⟩ : ∃ y_ : List Int, y_ = (([] : List Int)) := ⟨_, rfl⟩
  replace H : (spec_l08Fresh.l0 k a0 y101 0) = some r := by first | (rw [hy101]; with_reducible exact H) | (have H2_ := (yfy _ _).symm.trans H; rw [hy101]; with_reducible exact H2_) | (have H2_ := (yfy _ _).symm.trans H; with_reducible exact H2_) | with_reducible exact H | (rw [hy101]; exact H) | exact H
  have Ny101 := Aside0.mk hy101
  clear hy101
  have H' := Aside0.mk H
  clear H
  go_enter Try.func21, Try.ntmps21
  go_wp2_with (first | ((with_reducible refine gate_dst (N := 5) rfl ?_); refine Kd.R_lit (Kd.int .i64) _ 2 ?hg (N := 5) ?hd (xs := ([] : List Int)) (inner := []) (ok := fun _ => True) (okp := fun _ => True) ?hr ?hp (fun _ hk => hk) trivial (Below.refl _ _) (yoy _) (by simp) ?_; (case hd => rfl); (case hg => rfl); (case hr => first | (go_simp; done) | (go_simp; rfl)); (case hp => exact (Reps.none _ _)); intro v102 w2 ho3 hb hg_ hnew_; clear hg_ hnew_; (first | rw [← Ny101.out] at ho3 | (simp only [Int.reduceToNat] at ho3; rw [← Ny101.out] at ho3)); have n0_ := Aside0.mk (Kd.R_lower ho3 (below_size (by repeat (first | (with_reducible first | exact HB.out | apply below_alloc | apply pw_below_drewN | apply below_drew1) | exact HB.out)))); have n1_ := Aside0.mk (below_step (by repeat (first | (with_reducible first | exact HB.out | apply below_alloc | apply pw_below_drewN | apply below_drew1) | exact HB.out)) hb); clear HB; have HO103 := n0_; have HB := n1_; clear n0_ n1_; clear hb ho3))
  go_loopg [3, 4] k (fun kq v3 v4 w' => ∃ (x3_1 : List Int) (x4_1 : Int), v4 = .int .i64 x4_1 ∧ Aside0 (spec_l08Fresh.l0 kq a0 x3_1 x4_1 = some r) ∧ Aside0 (kq ≤ k) ∧ Aside0 (Kd.R (Kd.int .i64) 2 w' w.heap.size (fun _ => True) v3 x3_1) ∧ Aside0 (Below w.heap.size w w'))
  case atStart => exact ⟨(y101), (0), (by first | rfl | (simp; done) | (simp [*]; done)), H', ⟨yoy _⟩, ⟨by (with_reducible repeat (first | apply Kd.R_alloc | apply Kd.R_drewN | apply Kd.R_drew)); exact HO103.out⟩, ⟨by repeat (first | (with_reducible first | exact HB.out | apply below_alloc | apply pw_below_drewN | apply below_drew1) | exact HB.out)⟩⟩
  case round =>
    clear H'
    try clear c2
    try clear p2
    obtain ⟨x3_1, x4_1, rfl, HA, HK1, HO_3, HB⟩ := hrel
    cases gk with
    | zero => exact absurd HA.out (by simp [spec_l08Fresh.l0])
    | succ k1 =>
      have H := HA.out
      clear HA
      simp only [spec_l08Fresh.l0] at H
      by_cases c4 : x4_1 < a0
      · rw [if_pos c4] at H
        have c4b0 : decide (x4_1 < a0) = true := ygy c4
        clear c4
        by_cases c5 : x3_1.length < 17592186044416
        · rw [if_pos c5] at H
          have LMc5 := Aside0.mk c5
          clear c5
          obtain ⟨y104, hy104⟩ : ∃ y_ : List Int, y_ = (x3_1 ++ [x4_1]) := ⟨_, rfl⟩
          replace H : (spec_l08Fresh.l0 k1 a0 y104 (wrap64 (x4_1 + 1))) = some r := by first | (rw [hy104]; with_reducible exact H) | (have H2_ := (yfy _ _).symm.trans H; rw [hy104]; with_reducible exact H2_) | (have H2_ := (yfy _ _).symm.trans H; with_reducible exact H2_) | with_reducible exact H | (rw [hy104]; exact H) | exact H
          have Ny104 := Aside0.mk hy104
          clear hy104
          have H' := Aside0.mk H
          clear H
          go_wp2_with (first | ((with_reducible refine gate_builtin (b := .append) (xs := #[.tmp 11, .tmp 13]) rfl ?_); at_builtin; refine Kd.R_append (Kd.int .i64) (w0 := w) w.heap.size rfl (.tmp 11) (.tmp 13) 44 2 (.int .i64 0) 8 rfl Try.underlying44 info2 rfl (by decide) (by omega) u3 x3_1 x4_1 [.int .i64 x4_1] (fun _ => True) (fun _ => False) rfl rfl ?aP (fun _ hk => hk.elim) ?aF ?aO ?aB ?aS ?aL ?_; (case aP => exact rfl); (case aB => exact (by repeat (first | (with_reducible first | exact HB.out | apply below_alloc | apply pw_below_drewN | apply below_drew1) | exact HB.out))); (case aF => exact (fun _ _ => trivial)); (case aO => exact (by (with_reducible repeat (first | apply Kd.R_alloc | apply Kd.R_drewN | apply Kd.R_drew)); exact HO_3.out)); (case aS => exact (below_size (by repeat (first | (with_reducible first | exact HB.out | apply below_alloc | apply pw_below_drewN | apply below_drew1) | exact HB.out)))); (case aL => have := LMc5.out; omega); intro v105 w6 ho hb hg hat; rw [← Ny104.out] at ho; have n0_ := Aside0.mk (hb); have n1_ := Aside0.mk (ho); clear HB; clear HO_3; have HB := n0_; have HO106 := n1_; clear n0_ n1_; clear ho hb hg hat))
          go_roundg k1
          case measure => have := HK1.out; omega
          case rel => exact ⟨(y104), (wrap64 (x4_1 + 1)), (by first | rfl | (simp; done) | (simp [*]; done)), H', ⟨by have := HK1.out; omega⟩, ⟨by (with_reducible repeat (first | apply Kd.R_alloc | apply Kd.R_drewN | apply Kd.R_drew)); exact HO106.out⟩, ⟨by repeat (first | (with_reducible first | exact HB.out | apply below_alloc | apply pw_below_drewN | apply below_drew1) | exact HB.out)⟩⟩
        · rw [if_neg c5] at H
          exact absurd H (by simp)
      · rw [if_neg c4] at H
        have c4b0 : decide (x4_1 < a0) = false := yhy c4
        clear c4
        obtain rfl := yey H
        go_wp2
        go_ret
        exact ⟨_, by first | rfl | (simp [errW_none, errW_some] <;> rfl) | (simp [*, errW_none, errW_some] <;> rfl), by (with_reducible repeat (first | apply Kd.R_alloc | apply Kd.R_drewN | apply Kd.R_drew)); exact HO_3.out, by repeat (first | (with_reducible first | exact HB.out | apply below_alloc | apply pw_below_drewN | apply below_drew1) | exact HB.out)⟩
end Go.Proofs.Ytebehapafpmgbaa.P
