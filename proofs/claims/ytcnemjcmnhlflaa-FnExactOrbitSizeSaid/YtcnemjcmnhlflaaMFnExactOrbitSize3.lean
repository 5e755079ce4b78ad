/- The statement FnExactOrbitSizeSaid, proved: part 3 of 7 (texts of this session and of the kit's print, put together and cut to what is used by a program of it). -/
import Derived.Test.YtcnemjcmnhlflaaMFnExactOrbitSize2
import Derived.WalkSpells
import Derived.Lib.SliceRun
import Derived.Shelf.Bits.Mul64
import Derived.Laws.CopyOwn
namespace Go.Proofs.Ytcnemjcmnhlflaa.P
open Go.RowKit Go.Proofs.YtcnemjcmnhlflaaW.PrintWords Go.Proofs.YtcnemjcmnhlflaaW.PrintLast Go.Proofs.YtcnemjcmnhlflaaW.PrintMore
attribute [local go_sem] max2_int min2_int max_two min_two max_three min_three max_four min_four   -- for this text's walks alone
set_option linter.unusedVariables false
set_option linter.unusedSimpArgs false
/-! compose: the index of the permutation that is p first and then q. -/
def impl_compose.f (a0 : Int) (a1 : Int) : Option Int := if 0 ≤ a0 ∧ a0 ≤ 23 ∧ 0 ≤ a1 ∧ a1 ≤ 23 then some (compP a0 a1) else none
set_option maxHeartbeats 8000000 in
set_option maxRecDepth 100000 in
theorem impl_compose.calls (a0 : Int) (a1 : Int) (r : Int) (w : World) (h : impl_compose.f a0 a1 = some r) :
    Calls Try.prog 61 #[.int .i64 a0, .int .i64 a1] w fun e w' => e = .returned (.int .i64 r) ∧ Below w.heap.size w w' := by
  unfold impl_compose.f at h
  by_cases hc : 0 ≤ a0 ∧ a0 ≤ 23 ∧ 0 ≤ a1 ∧ a1 ≤ 23
  case neg => rw [if_neg hc] at h; exact absurd h (by simp)
  rw [if_pos hc] at h
  have hr : compP a0 a1 = r := yey h
  clear h
  subst hr
  obtain ⟨h0, h1, h2, h3⟩ := hc
  have HS := Aside0.mk (permAt_sm a0 h0 h1)
  have HT := Aside0.mk (permAt_sm a1 h2 h3)
  have H0 := Aside0.mk h0
  have H1 := Aside0.mk h1
  have H2 := Aside0.mk h2
  have H3 := Aside0.mk h3
  clear h0 h1 h2 h3
  have HCP := Aside0.mk (show compP a0 a1 = idxL (compL [permAt a0 0, permAt a0 1, permAt a0 2, permAt a0 3] [permAt a1 0, permAt a1 1, permAt a1 2, permAt a1 3]) from rfl)
  go_enter Try.func61, Try.ntmps61
  go_wp2_with fail
  refine (impl_perm.calls _ _ H0.out H1.out).mono ?_
  rintro e w1 ⟨rfl, hb⟩
  have HB1 := Aside0.mk hb
  clear hb
  go_wp2_with fail
  refine (impl_perm.calls _ _ H2.out H3.out).mono ?_
  rintro e w2 ⟨rfl, hb⟩
  have HB2 := Aside0.mk (below_step HB1.out hb)
  clear hb HB1
  generalize permAt a0 0 = x0 at HS HCP ⊢
  generalize permAt a0 1 = x1 at HS HCP ⊢
  generalize permAt a0 2 = x2 at HS HCP ⊢
  generalize permAt a0 3 = x3 at HS HCP ⊢
  generalize permAt a1 0 = z0 at HT HCP ⊢
  generalize permAt a1 1 = z1 at HT HCP ⊢
  generalize permAt a1 2 = z2 at HT HCP ⊢
  generalize permAt a1 3 = z3 at HT HCP ⊢
  have ht := Try.underlying84
  go_wp2_with fail
  have hsz := HB2.out.size
  have B5 := Aside0.mk (blk_alloc (blk_alloc (new_at4 (W := w2) rfl (.cells #[.int .i64 x0, .int .i64 x1, .int .i64 x2, .int .i64 x3] 84)) (.cells #[.int .i64 z0, .int .i64 z1, .int .i64 z2, .int .i64 z3] 84)) (.cells #[.int .i64 0, .int .i64 0, .int .i64 0, .int .i64 0] 84))
  have B6 := Aside0.mk (blk_alloc (new_at4 (W := w2.alloc (.cells #[.int .i64 x0, .int .i64 x1, .int .i64 x2, .int .i64 x3] 84)) (n := w2.heap.size + 1) (by simp) (.cells #[.int .i64 z0, .int .i64 z1, .int .i64 z2, .int .i64 z3] 84)) (.cells #[.int .i64 0, .int .i64 0, .int .i64 0, .int .i64 0] 84))
  have B7 := Aside0.mk (new_at4 (W := (w2.alloc (.cells #[.int .i64 x0, .int .i64 x1, .int .i64 x2, .int .i64 x3] 84)).alloc (.cells #[.int .i64 z0, .int .i64 z1, .int .i64 z2, .int .i64 z3] 84)) (n := w2.heap.size + 1 + 1) (by simp) (.cells #[.int .i64 0, .int .i64 0, .int .i64 0, .int .i64 0] 84))
  have HB := Aside0.mk (below_alloc (below_alloc (below_alloc HB2.out (.cells #[.int .i64 x0, .int .i64 x1, .int .i64 x2, .int .i64 x3] 84)) (.cells #[.int .i64 z0, .int .i64 z1, .int .i64 z2, .int .i64 z3] 84)) (.cells #[.int .i64 0, .int .i64 0, .int .i64 0, .int .i64 0] 84))
  clear HB2 B5
  go_loopg [15] 4 (fun gg v15 w' => ∃ (i : Nat) (b0 b1 b2 b3 : Int), i ≤ 4 ∧ 4 - i ≤ gg ∧ v15 = .int .i64 i ∧ Aside0 ([b0, b1, b2, b3] = compSet [x0, x1, x2, x3] [z0, z1, z2, z3] i) ∧
    Aside0 (w'.heap[w2.heap.size + 1]? = some (.cells #[.int .i64 z0, .int .i64 z1, .int .i64 z2, .int .i64 z3] 84 (0, 0))) ∧
    Aside0 (w'.heap[w2.heap.size + 1 + 1]? = some (.cells #[.int .i64 b0, .int .i64 b1, .int .i64 b2, .int .i64 b3] 84 (0, 0))) ∧ Aside0 (Below w.heap.size w w'))
  case atStart => exact ⟨0, 0, 0, 0, 0, by omega, by omega, rfl, ⟨rfl⟩, B6, B7, HB⟩
  case round =>
    clear HB B6 B7
    obtain ⟨i, b0, b1, b2, b3, hi, hg, rfl, HI, B6, B7, HB⟩ := hrel
    rcases (show i = 4 ∨ i = 3 ∨ i = 2 ∨ i = 1 ∨ i = 0 by omega) with rfl | rfl | rfl | rfl | rfl
    · have c0 : wr.cell? ⟨w2.heap.size + 1 + 1, 0, none⟩ = some (.int .i64 b0) := (blk_cell B7.out 0).trans rfl
      have c1 : wr.cell? ⟨w2.heap.size + 1 + 1, 1, none⟩ = some (.int .i64 b1) := (blk_cell B7.out 1).trans rfl
      have c2 : wr.cell? ⟨w2.heap.size + 1 + 1, 2, none⟩ = some (.int .i64 b2) := (blk_cell B7.out 2).trans rfl
      have c3 : wr.cell? ⟨w2.heap.size + 1 + 1, 3, none⟩ = some (.int .i64 b3) := (blk_cell B7.out 3).trans rfl
      go_wp2_with fail
      have hI : [b0, b1, b2, b3] = compL [x0, x1, x2, x3] [z0, z1, z2, z3] := HI.out
      have hs0 := rd_four_sm HT.out.1 HT.out.2.1 HT.out.2.2.1 HT.out.2.2.2 x0 HS.out.1.1 HS.out.1.2
      have hs1 := rd_four_sm HT.out.1 HT.out.2.1 HT.out.2.2.1 HT.out.2.2.2 x1 HS.out.2.1.1 HS.out.2.1.2
      have hs2 := rd_four_sm HT.out.1 HT.out.2.1 HT.out.2.2.1 HT.out.2.2.2 x2 HS.out.2.2.1.1 HS.out.2.2.1.2
      have hs3 := rd_four_sm HT.out.1 HT.out.2.1 HT.out.2.2.1 HT.out.2.2.2 x3 HS.out.2.2.2.1 HS.out.2.2.2.2
      have hI2 : [b0, b1, b2, b3] = [rd [z0, z1, z2, z3] x0, rd [z0, z1, z2, z3] x1, rd [z0, z1, z2, z3] x2, rd [z0, z1, z2, z3] x3] := hI
      simp only [List.cons.injEq, and_true] at hI2
      rw [← hI2.1] at hs0
      rw [← hI2.2.1] at hs1
      rw [← hI2.2.2.1] at hs2
      rw [← hI2.2.2.2] at hs3
      refine (impl_indexOf.calls b0 b1 b2 b3 _ hs0 hs1 hs2 hs3).mono ?_
      rintro e w3 ⟨rfl, hb⟩
      have HB2 := Aside0.mk (below_step HB.out hb)
      have HF := Aside0.mk (show idxL [b0, b1, b2, b3] = compP a0 a1 by rw [HCP.out, ← hI])
      clear hb hI hI2 hs0 hs1 hs2 hs3
      go_wp2
      go_ret
      exact ⟨by rw [← HF.out]; rfl, HB2.out⟩
    · have ix := arr_index x0 x1 x2 x3 3 (by omega) (by omega)
      have hx : rd [x0, x1, x2, x3] 3 = x3 := rfl
      rw [hx] at ix
      have hs : sm x3 := HS.out.2.2.2
      obtain ⟨hs0, hs1⟩ := hs
      have c6 := arr_cell B6.out x3 hs0 hs1
      have b7 : wr.cell? ⟨w2.heap.size + 1 + 1, 3, none⟩ = some (.int .i64 b3) := (blk_cell B7.out 3).trans rfl
      have f7 := blk_frozen B7.out 3
      have HN : [b0, b1, b2, b3].set 3 (rd [z0, z1, z2, z3] x3) = compSet [x0, x1, x2, x3] [z0, z1, z2, z3] (3 + 1) := by rw [HI.out]; rfl
      generalize rd [z0, z1, z2, z3] x3 = yy at c6 HN
      have B7n := Aside0.mk (arr_put B7.out 3 yy (by omega) (by omega))
      have B6n := Aside0.mk (blk_far (p := ⟨w2.heap.size + 1 + 1, 3, none⟩) B6.out (by show w2.heap.size + 1 ≠ w2.heap.size + 1 + 1; omega) (.int .i64 yy))
      have HF := Aside0.mk HN
      clear hx HN
      go_wp2
      go_roundg (4 - (3 + 1))
      case measure => omega
      case rel => exact ⟨3 + 1, _, _, _, _, by omega, by omega, by first | rfl | go_num, HF, B6n, B7n, ⟨below_set HB.out (by omega)⟩⟩
    · have ix := arr_index x0 x1 x2 x3 2 (by omega) (by omega)
      have hx : rd [x0, x1, x2, x3] 2 = x2 := rfl
      rw [hx] at ix
      have hs : sm x2 := HS.out.2.2.1
      obtain ⟨hs0, hs1⟩ := hs
      have c6 := arr_cell B6.out x2 hs0 hs1
      have b7 : wr.cell? ⟨w2.heap.size + 1 + 1, 2, none⟩ = some (.int .i64 b2) := (blk_cell B7.out 2).trans rfl
      have f7 := blk_frozen B7.out 2
      have HN : [b0, b1, b2, b3].set 2 (rd [z0, z1, z2, z3] x2) = compSet [x0, x1, x2, x3] [z0, z1, z2, z3] (2 + 1) := by rw [HI.out]; rfl
      generalize rd [z0, z1, z2, z3] x2 = yy at c6 HN
      have B7n := Aside0.mk (arr_put B7.out 2 yy (by omega) (by omega))
      have B6n := Aside0.mk (blk_far (p := ⟨w2.heap.size + 1 + 1, 2, none⟩) B6.out (by show w2.heap.size + 1 ≠ w2.heap.size + 1 + 1; omega) (.int .i64 yy))
      have HF := Aside0.mk HN
      clear hx HN
      go_wp2
      go_roundg (4 - (2 + 1))
      case measure => omega
      case rel => exact ⟨2 + 1, _, _, _, _, by omega, by omega, by first | rfl | go_num, HF, B6n, B7n, ⟨below_set HB.out (by omega)⟩⟩
    · have ix := arr_index x0 x1 x2 x3 1 (by omega) (by omega)
      have hx : rd [x0, x1, x2, x3] 1 = x1 := rfl
      rw [hx] at ix
      have hs : sm x1 := HS.out.2.1
      obtain ⟨hs0, hs1⟩ := hs
      have c6 := arr_cell B6.out x1 hs0 hs1
      have b7 : wr.cell? ⟨w2.heap.size + 1 + 1, 1, none⟩ = some (.int .i64 b1) := (blk_cell B7.out 1).trans rfl
      have f7 := blk_frozen B7.out 1
      have HN : [b0, b1, b2, b3].set 1 (rd [z0, z1, z2, z3] x1) = compSet [x0, x1, x2, x3] [z0, z1, z2, z3] (1 + 1) := by rw [HI.out]; rfl
      generalize rd [z0, z1, z2, z3] x1 = yy at c6 HN
      have B7n := Aside0.mk (arr_put B7.out 1 yy (by omega) (by omega))
      have B6n := Aside0.mk (blk_far (p := ⟨w2.heap.size + 1 + 1, 1, none⟩) B6.out (by show w2.heap.size + 1 ≠ w2.heap.size + 1 + 1; omega) (.int .i64 yy))
      have HF := Aside0.mk HN
      clear hx HN
      go_wp2
      go_roundg (4 - (1 + 1))
      case measure => omega
      case rel => exact ⟨1 + 1, _, _, _, _, by omega, by omega, by first | rfl | go_num, HF, B6n, B7n, ⟨below_set HB.out (by omega)⟩⟩
    · have ix := arr_index x0 x1 x2 x3 0 (by omega) (by omega)
      have hx : rd [x0, x1, x2, x3] 0 = x0 := rfl
      rw [hx] at ix
      have hs : sm x0 := HS.out.1
      obtain ⟨hs0, hs1⟩ := hs
      have c6 := arr_cell B6.out x0 hs0 hs1
      have b7 : wr.cell? ⟨w2.heap.size + 1 + 1, 0, none⟩ = some (.int .i64 b0) := (blk_cell B7.out 0).trans rfl
      have f7 := blk_frozen B7.out 0
      have HN : [b0, b1, b2, b3].set 0 (rd [z0, z1, z2, z3] x0) = compSet [x0, x1, x2, x3] [z0, z1, z2, z3] (0 + 1) := by rw [HI.out]; rfl
      generalize rd [z0, z1, z2, z3] x0 = yy at c6 HN
      have B7n := Aside0.mk (arr_put B7.out 0 yy (by omega) (by omega))
      have B6n := Aside0.mk (blk_far (p := ⟨w2.heap.size + 1 + 1, 0, none⟩) B6.out (by show w2.heap.size + 1 ≠ w2.heap.size + 1 + 1; omega) (.int .i64 yy))
      have HF := Aside0.mk HN
      clear hx HN
      go_wp2
      go_roundg (4 - (0 + 1))
      case measure => omega
      case rel => exact ⟨0 + 1, _, _, _, _, by omega, by omega, by first | rfl | go_num, HF, B6n, B7n, ⟨below_set HB.out (by omega)⟩⟩
/-! ### slices_Index_Sint64: function 66 -/
def slices_Index_Sint64.l0 : Nat → List Int → Int → Int → Int → Option (Int)
  | 0, _, _, _, _ => none
  | k + 1, x0, x1, x7, x8 => if x8 < x7 then (if 0 ≤ x8 then (if x8 < (x0.length : Int) then (if x1 = (rd x0 x8) then (some x8) else (slices_Index_Sint64.l0 k x0 x1 x7 (wrap64 (x8 + 1)))) else (none)) else (none)) else (some (-1))
def slices_Index_Sint64.f (k : Nat) (l0 : List Int) (a1 : Int) : Option (Int) := slices_Index_Sint64.l0 k l0 a1 (l0.length : Int) 0
set_option maxHeartbeats 8000000 in
set_option maxRecDepth 100000 in
theorem slices_Index_Sint64.calls (k : Nat) (A0 : Option Addr) (c0 : Nat) (l0 : List Int) (a1 : Int) (r : Int) (w : World) (hr0 : Kd.C (Kd.int .i64) w A0 l0.length l0) (hc0 : l0.length ≤ c0) (h : slices_Index_Sint64.f k l0 a1 = some r) :
    Calls Try.prog 66 #[.slice A0 l0.length c0, .int .i64 a1] w fun e w' => e = .returned (.int .i64 r) ∧ Drawn0 w w' := by
  have HR0 := Aside0.mk hr0
  have HC0 := Aside0.mk hc0
  clear hr0 hc0
  have H : (slices_Index_Sint64.l0 k l0 a1 (l0.length : Int) 0) = some r := h
  clear h
  have H' := Aside0.mk H
  clear H
  go_enter Try.func66, Try.ntmps66
  go_wp2
  go_loopg [8] k (fun kq v8 w' => ∃ (x8_1 : Int), v8 = .int .i64 x8_1 ∧ Aside0 (slices_Index_Sint64.l0 kq l0 a1 (l0.length : Int) x8_1 = some r) ∧ Aside0 (kq ≤ k) ∧ Drawn0 w w')
  case atStart => exact ⟨(0), (by first | rfl | (simp; done) | (simp [*]; done)), H', ⟨yoy _⟩, by repeat (first | exact Drawn0.refl _ | apply Drawn0.step)⟩
  case round =>
    clear H'
    try clear p2
    obtain ⟨x8_1, rfl, HA, HK1, ⟨m1, rfl⟩⟩ := hrel
    cases gk with
    | zero => exact absurd HA.out (by simp [slices_Index_Sint64.l0])
    | succ k1 =>
      have H := HA.out
      clear HA
      simp only [slices_Index_Sint64.l0] at H
      by_cases c3 : x8_1 < (l0.length : Int)
      · rw [if_pos c3] at H
        have c3b0 : decide (x8_1 < (l0.length : Int)) = true := ygy c3
        clear c3
        by_cases c4 : 0 ≤ x8_1
        · rw [if_pos c4] at H
          have c4b0 : decide (0 ≤ x8_1) = true := ygy c4
          clear c4
          by_cases c5 : x8_1 < (l0.length : Int)
          · rw [if_pos c5] at H
            have c5b0 : decide (x8_1 < (l0.length : Int)) = true := ygy c5
            clear c5
            by_cases c6 : a1 = (rd l0 x8_1)
            · rw [if_pos c6] at H
              have c6b0 : (a1 == (rd l0 x8_1)) = true := beq_iff_eq.mpr c6
              have c6b1 : (a1 != (rd l0 x8_1)) = false := bne_eq_false_iff_eq.mpr c6
              clear c6
              obtain rfl := yey H
              have p101 : 0 ≤ (x8_1 : Int) := of_decide_eq_true (by first | (with_reducible assumption) | assumption)
              have q101 : x8_1 < (l0.length : Int) := of_decide_eq_true (by first | (with_reducible assumption) | assumption)
              obtain ⟨ad101, e101, hx101_0⟩ := Kd.at_int HR0.out x8_1 p101 q101
              cases e101
              replace p101 := eq_true p101
              replace q101 := eq_true q101
              go_wp2
              go_ret
              exact ⟨by first | rfl | (simp; done) | (simp [*]; done), by repeat (first | exact Drawn0.refl _ | apply Drawn0.step)⟩
            · rw [if_neg c6] at H
              have c6b0 : (a1 == (rd l0 x8_1)) = false := beq_eq_false_iff_ne.mpr c6
              have c6b1 : (a1 != (rd l0 x8_1)) = true := bne_iff_ne.mpr c6
              have H' := Aside0.mk H
              clear H
              have p101 : 0 ≤ (x8_1 : Int) := of_decide_eq_true (by first | (with_reducible assumption) | assumption)
              have q101 : x8_1 < (l0.length : Int) := of_decide_eq_true (by first | (with_reducible assumption) | assumption)
              obtain ⟨ad101, e101, hx101_0⟩ := Kd.at_int HR0.out x8_1 p101 q101
              cases e101
              replace p101 := eq_true p101
              replace q101 := eq_true q101
              go_wp2
              go_roundg k1
              case measure => have := HK1.out; omega
              case rel => exact ⟨(wrap64 (x8_1 + 1)), (by first | rfl | (simp; done) | (simp [*]; done)), H', ⟨by have := HK1.out; omega⟩, by repeat (first | exact Drawn0.refl _ | apply Drawn0.step)⟩
          · rw [if_neg c5] at H
            exact absurd H (by simp)
        · rw [if_neg c4] at H
          exact absurd H (by simp)
      · rw [if_neg c3] at H
        have c3b0 : decide (x8_1 < (l0.length : Int)) = false := yhy c3
        clear c3
        obtain rfl := yey H
        go_wp2
        go_ret
        exact ⟨by first | rfl | (simp; done) | (simp [*]; done), by repeat (first | exact Drawn0.refl _ | apply Drawn0.step)⟩
/-! ### slices_Contains_Sint64: function 59 -/
def slices_Contains_Sint64.f (k : Nat) (l0 : List Int) (a1 : Int) : Option (Bool) := (slices_Index_Sint64.f k l0 a1).bind fun t101 => (some (decide (t101 ≥ 0)))
set_option maxHeartbeats 8000000 in
set_option maxRecDepth 100000 in
theorem slices_Contains_Sint64.calls (k : Nat) (A0 : Option Addr) (c0 : Nat) (l0 : List Int) (a1 : Int) (r : Bool) (w : World) (hr0 : Kd.C (Kd.int .i64) w A0 l0.length l0) (hc0 : l0.length ≤ c0) (h : slices_Contains_Sint64.f k l0 a1 = some r) :
    Calls Try.prog 59 #[.slice A0 l0.length c0, .int .i64 a1] w fun e w' => e = .returned (.bool r) ∧ Drawn0 w w' := by
  have HR0 := Aside0.mk hr0
  have HC0 := Aside0.mk hc0
  clear hr0 hc0
  have H : ((slices_Index_Sint64.f k l0 a1).bind fun t101 => (some (decide (t101 ≥ 0)))) = some r := h
  clear h
  replace H := ydy.mp H
  obtain ⟨t101, A30, H⟩ := H
  replace H : (some (decide (t101 ≥ 0))) = some r := H
  have A3 := Aside0.mk A30
  clear A30
  obtain rfl := yey H
  go_enter Try.func59, Try.ntmps59
  go_wp2_with (first | ((with_reducible refine gate_callee (f := 66) rfl ?_); refine goesL_ (some 7) rfl rfl Try.func66 (by kernel_rfl) rfl #[.slice A0 l0.length c0, .int .i64 a1] rfl (by (try simp only [yiy, yjy, yky]); first | done | rfl | (simp only [yly, ymy]; rfl)) ?_; (with_reducible refine (slices_Index_Sint64.calls k _ _ l0 a1 t101 _ ?side1 ?side2 A3.out).mono ?_); (case side1 => repeat (first | exact HR0.out | (with_reducible refine Kd.C_alloc ?_ _) | (with_reducible refine Kd.C_drewN ?_ _) | (with_reducible refine Kd.C_drew ?_))); (case side2 => exact HC0.out); rintro e w' ⟨rfl, ⟨nd, rfl⟩⟩; refine ⟨_, rfl, ?_⟩))
  go_ret
  exact ⟨by first | rfl | (simp; done) | (simp [*]; done), by repeat (first | exact Drawn0.refl _ | apply Drawn0.step)⟩
/-! slices.Contains at []int64, plainly. -/
theorem idx_go (l : List Int) (v : Int) (hl : l.length ≤ 1000000) : ∀ (d i k : Nat), i + d = l.length → d < k → ∃ j : Int, slices_Index_Sint64.l0 k l v (l.length : Int) (i : Int) = some j ∧ (j ≥ 0 ↔ v ∈ l.drop i)
  | _, _, 0, _, hk => by omega
  | 0, i, k + 1, h, hk => by
    refine ⟨-1, by rw [slices_Index_Sint64.l0, if_neg (by omega)], ?_⟩
    rw [List.drop_eq_nil_of_le (by omega)]
    simp
  | d + 1, i, k + 1, h, hk => by
    have hi : i < l.length := by omega
    have e : rd l (i : Int) = l[i] := by simp [rd, hi]
    by_cases c : v = l[i]
    · refine ⟨(i : Int), by rw [slices_Index_Sint64.l0, if_pos (by omega), if_pos (by omega), if_pos (by omega), e, if_pos c], ?_⟩
      rw [List.drop_eq_getElem_cons hi, c]
      exact ⟨fun _ => List.mem_cons_self .., fun _ => by omega⟩
    · obtain ⟨j, h1, h2⟩ := idx_go l v hl d (i + 1) k (by omega) (by omega)
      refine ⟨j, by rw [slices_Index_Sint64.l0, if_pos (by omega), if_pos (by omega), if_pos (by omega), e, if_neg c, show wrap64 ((i : Int) + 1) = ((i + 1 : Nat) : Int) by unfold wrap64; omega, h1], ?_⟩
      rw [List.drop_eq_getElem_cons hi, h2]
      exact ⟨fun h => List.mem_cons_of_mem _ h, fun h => by
        rcases List.mem_cons.1 h with h | h
        · exact absurd h c
        · exact h⟩
theorem con_eq {l : List Int} (v : Int) (hl : l.length ≤ 8) : slices_Contains_Sint64.f 10 l v = some (decide (v ∈ l)) := by
  obtain ⟨j, h1, h2⟩ := idx_go l v (by omega) l.length 0 10 (by omega) (by omega)
  rw [List.drop_zero] at h2
  unfold slices_Contains_Sint64.f slices_Index_Sint64.f
  rw [show ((0 : Int)) = ((0 : Nat) : Int) from rfl, h1, yfy]
  exact congrArg some (decide_eq_decide.2 h2)
/-! Rows of a relabelled triangulation. -/
theorem compP_bd {p q : Int} (h0 : 0 ≤ p) (h1 : p ≤ 23) (h2 : 0 ≤ q) (h3 : q ≤ 23) : 0 ≤ compP p q ∧ compP p q ≤ 23 := by
  obtain ⟨m, rfl⟩ : ∃ m : Fin 24, p = (m.val : Int) := ⟨⟨p.toNat, by omega⟩, by simp; omega⟩
  obtain ⟨n, rfl⟩ : ∃ m : Fin 24, q = (m.val : Int) := ⟨⟨q.toNat, by omega⟩, by simp; omega⟩
  have key : ∀ m n : Fin 24, 0 ≤ compP (m.val : Int) (n.val : Int) ∧ compP (m.val : Int) (n.val : Int) ≤ 23 := by decide +kernel
  exact key m n
theorem invP_bd' {p : Int} (h0 : 0 ≤ p) (h1 : p ≤ 23) : 0 ≤ invP p ∧ invP p ≤ 23 := by
  obtain ⟨m, rfl⟩ : ∃ m : Fin 24, p = (m.val : Int) := ⟨⟨p.toNat, by omega⟩, by simp; omega⟩
  have key : ∀ m : Fin 24, 0 ≤ invP (m.val : Int) ∧ invP (m.val : Int) ≤ 23 := by decide +kernel
  exact key m
/-! The search that spreads an isomorphism over all that is glued: its state, one face, a tetrahedron's faces, all. -/
/-- Where each tetrahedron goes, by which permutation, and those that are to be looked at. -/
structure SpS where
  X : List Int
  Y : List Int
  L : List Int
def fcA (t : List (List SFace)) (c f : Int) : SFace := rd_Face (rd_LFace t c) f
def spQ (p : Int) (x y : SFace) : Int := compP (compP (invP x.f1) p) y.f1
def spAt (p : Int) (x y : SFace) (s : SpS) : Option SpS :=
  if x.f0 < 0 then (if y.f0 < 0 then some s else none)
  else if y.f0 < 0 then none
  else if rd s.X x.f0 < 0 then (if y.f0 ∈ s.X then none else some ⟨s.X.set x.f0.toNat y.f0, s.Y.set x.f0.toNat (spQ p x y), s.L ++ [x.f0]⟩)
  else if rd s.X x.f0 = y.f0 ∧ rd s.Y x.f0 = spQ p x y then some s else none
def spFace (a b : List (List SFace)) (c p f : Int) (s : SpS) : Option SpS := spAt p (fcA a c f) (fcA b (rd s.X c) (rd (permL p) f)) s
def spRow (a b : List (List SFace)) (c p : Int) : Nat → Int → SpS → Option SpS
  | 0, _, s => some s
  | d + 1, f, s => (spFace a b c p f s).bind (spRow a b c p d (f + 1))
def spGo (a b : List (List SFace)) : Nat → Nat → SpS → Bool
  | 0, _, _ => false
  | k + 1, i, s => if i < s.L.length then ((spRow a b (rd s.L (i : Int)) (rd s.Y (rd s.L (i : Int))) 4 0 s).map (spGo a b k (i + 1))).getD false else true
theorem sp_img {p f : Int} (h0 : 0 ≤ p) (h1 : p ≤ 23) (f0 : 0 ≤ f) (f1 : f < 4) : 0 ≤ rd (permL p) f ∧ rd (permL p) f ≤ 3 := by
  obtain ⟨m, rfl⟩ : ∃ m : Fin 24, p = (m.val : Int) := ⟨⟨p.toNat, by omega⟩, by simp; omega⟩
  obtain ⟨q, rfl⟩ : ∃ m : Fin 4, f = (m.val : Int) := ⟨⟨f.toNat, by omega⟩, by simp; omega⟩
  have key : ∀ (m : Fin 24) (q : Fin 4), 0 ≤ rd (permL (m.val : Int)) (q.val : Int) ∧ rd (permL (m.val : Int)) (q.val : Int) ≤ 3 := by decide +kernel
  exact key m q
/-- A triangulation that is no fault to read. -/
def TrOk (a : List (List SFace)) (n : Nat) : Prop := a.length = n ∧ (∀ r ∈ a, r.length = 4) ∧ ∀ r ∈ a, ∀ x ∈ r, ¬ x.f0 < 0 → x.f0 < (n : Int) ∧ 0 ≤ x.f1 ∧ x.f1 ≤ 23
instance (a : List (List SFace)) (n : Nat) : Decidable (TrOk a n) := by
  unfold TrOk
  exact inferInstance
theorem trOk_row {a : List (List SFace)} {n : Nat} (h : TrOk a n) {c : Int} (h0 : 0 ≤ c) (h1 : c < (n : Int)) : (rd_LFace a c).length = 4 := by
  obtain ⟨m, rfl⟩ := Int.eq_ofNat_of_zero_le h0
  have hm : m < a.length := by rw [h.1]; omega
  have e : rd_LFace a (m : Int) = a[m] := by simp [rd_LFace, hm]
  rw [e]
  exact h.2.1 _ (List.getElem_mem hm)
theorem trOk_face {a : List (List SFace)} {n : Nat} (h : TrOk a n) {c f : Int} (h0 : 0 ≤ c) (h1 : c < (n : Int)) (f0 : 0 ≤ f) (f1 : f < 4) (hb : ¬ (fcA a c f).f0 < 0) : (fcA a c f).f0 < (n : Int) ∧ 0 ≤ (fcA a c f).f1 ∧ (fcA a c f).f1 ≤ 23 := by
  have hr := trOk_row h h0 h1
  obtain ⟨m, rfl⟩ := Int.eq_ofNat_of_zero_le h0
  obtain ⟨q, rfl⟩ := Int.eq_ofNat_of_zero_le f0
  have hm : m < a.length := by rw [h.1]; omega
  have e : rd_LFace a (m : Int) = a[m] := by simp [rd_LFace, hm]
  rw [e] at hr
  have hq : q < a[m].length := by omega
  have e2 : fcA a (m : Int) (q : Int) = a[m][q] := by unfold fcA; rw [e]; simp [rd_Face, hq]
  rw [e2] at hb ⊢
  exact h.2.2 _ (List.getElem_mem hm) _ (List.getElem_mem hq) hb
def negs (l : List Int) : Nat := (l.filter fun x => decide (x < 0)).length
theorem negs_set : ∀ (l : List Int) (i : Nat) (v : Int) (h : i < l.length), l[i] < 0 → 0 ≤ v → negs (l.set i v) + 1 = negs l
  | x :: l, 0, v, h, hx, hv => by
    have hx' : x < 0 := hx
    have hv' : ¬ v < 0 := by omega
    simp [negs, hx', hv']
  | x :: l, i + 1, v, h, hx, hv => by
    have ih := negs_set l i v (by simpa using h) (by simpa using hx) hv
    unfold negs at ih ⊢
    rw [ycy, List.filter_cons, List.filter_cons]
    split
    · rw [List.length_cons, List.length_cons]; omega
    · exact ih
theorem rd_setI {l : List Int} {i j v : Int} (h0 : 0 ≤ i) (h1 : i < (l.length : Int)) (hj : 0 ≤ j) : rd (l.set i.toNat v) j = if j = i then v else rd l j := by
  obtain ⟨m, rfl⟩ := Int.eq_ofNat_of_zero_le h0
  obtain ⟨q, rfl⟩ := Int.eq_ofNat_of_zero_le hj
  have hm : m < l.length := by omega
  unfold rd
  rw [Int.toNat_natCast, Int.toNat_natCast, List.getD_eq_getElem?_getD, List.getD_eq_getElem?_getD, List.getElem?_set]
  by_cases e : m = q
  · subst e
    rw [if_pos rfl, if_pos rfl, if_pos hm]; rfl
  · rw [if_neg e, if_neg (by omega)]
theorem rd_mem {l : List Int} {i : Int} (h0 : 0 ≤ i) (h1 : i < (l.length : Int)) : rd l i ∈ l := by
  obtain ⟨m, rfl⟩ := Int.eq_ofNat_of_zero_le h0
  have hm : m < l.length := by omega
  have e : rd l (m : Int) = l[m] := by simp [rd, hm]
  rw [e]; exact List.getElem_mem hm
/-- A state of the search over n tetrahedra. -/
structure SpOk (n : Nat) (s : SpS) : Prop where
  lx : s.X.length = n
  ly : s.Y.length = n
  xb : ∀ x ∈ s.X, -1 ≤ x ∧ x < (n : Int)
  yb : ∀ i : Int, 0 ≤ i → i < (n : Int) → 0 ≤ rd s.X i → 0 ≤ rd s.Y i ∧ rd s.Y i ≤ 23
  lb : ∀ x ∈ s.L, (0 ≤ x ∧ x < (n : Int)) ∧ 0 ≤ rd s.X x
  cnt : s.L.length + negs s.X ≤ n
theorem SpOk.put {n : Nat} {s : SpS} (h : SpOk n s) {i v q : Int} (i0 : 0 ≤ i) (i1 : i < (n : Int)) (hn : rd s.X i < 0) (v0 : 0 ≤ v) (v1 : v < (n : Int)) (q0 : 0 ≤ q) (q1 : q ≤ 23) : SpOk n ⟨s.X.set i.toNat v, s.Y.set i.toNat q, s.L ++ [i]⟩ := by
  have hx : i < (s.X.length : Int) := by rw [h.lx]; exact i1
  have hy : i < (s.Y.length : Int) := by rw [h.ly]; exact i1
  have hl : i.toNat < s.X.length := by omega
  have he : s.X[i.toNat] = rd s.X i := by simp [rd, hl]
  refine ⟨by rw [List.length_set]; exact h.lx, by rw [List.length_set]; exact h.ly, fun x hx2 => ?_, fun j j0 j1 hj => ?_, fun x hx2 => ?_, ?_⟩
  · rcases List.mem_or_eq_of_mem_set hx2 with h2 | rfl
    · exact h.xb x h2
    · exact ⟨by omega, v1⟩
  · dsimp only at hj ⊢
    rw [rd_setI i0 hx j0] at hj
    rw [rd_setI i0 hy j0]
    by_cases e : j = i
    · rw [if_pos e]; exact ⟨q0, q1⟩
    · rw [if_neg e] at hj ⊢
      exact h.yb j j0 j1 hj
  · dsimp only at hx2 ⊢
    rcases List.mem_append.1 hx2 with h2 | h2
    · obtain ⟨⟨h3, h4⟩, h5⟩ := h.lb x h2
      refine ⟨⟨h3, h4⟩, ?_⟩
      rw [rd_setI i0 hx h3]
      split <;> omega
    · rw [List.mem_singleton.1 h2]
      refine ⟨⟨i0, i1⟩, ?_⟩
      rw [rd_setI i0 hx i0, if_pos rfl]
      exact v0
  · have h1 := negs_set s.X i.toNat v hl (by rw [he]; exact hn) v0
    have h2 := h.cnt
    show (s.L ++ [i]).length + negs (s.X.set i.toNat v) ≤ n
    rw [List.length_append, List.length_singleton]
    omega
theorem SpOk.len {n : Nat} {s : SpS} (h : SpOk n s) : s.L.length ≤ n := by have := h.cnt; omega
theorem SpOk.rx {n : Nat} {s : SpS} (h : SpOk n s) {i : Int} (i0 : 0 ≤ i) (i1 : i < (n : Int)) : -1 ≤ rd s.X i ∧ rd s.X i < (n : Int) := h.xb _ (rd_mem i0 (by rw [h.lx]; exact i1))
theorem spQ_bd {p : Int} {x y : SFace} (p0 : 0 ≤ p) (p1 : p ≤ 23) (x0 : 0 ≤ x.f1) (x1 : x.f1 ≤ 23) (y0 : 0 ≤ y.f1) (y1 : y.f1 ≤ 23) : 0 ≤ spQ p x y ∧ spQ p x y ≤ 23 := by
  obtain ⟨i0, i1⟩ := invP_bd' x0 x1
  obtain ⟨c0, c1⟩ := compP_bd i0 i1 p0 p1
  exact compP_bd c0 c1 y0 y1
/-- One face keeps a state's order, and the tetrahedron that is looked at. -/
theorem spAt_ok {n : Nat} {s s' : SpS} {x y : SFace} {p c : Int} (h : SpOk n s) (p0 : 0 ≤ p) (p1 : p ≤ 23) (hx : ¬ x.f0 < 0 → x.f0 < (n : Int) ∧ 0 ≤ x.f1 ∧ x.f1 ≤ 23) (hy : ¬ y.f0 < 0 → y.f0 < (n : Int) ∧ 0 ≤ y.f1 ∧ y.f1 ≤ 23) (c0 : 0 ≤ c) (c1 : c < (n : Int)) (hc : 0 ≤ rd s.X c) (hs : spAt p x y s = some s') :
    SpOk n s' ∧ rd s'.X c = rd s.X c ∧ rd s'.Y c = rd s.Y c := by
  unfold spAt at hs
  by_cases a1 : x.f0 < 0
  · rw [if_pos a1] at hs
    by_cases a2 : y.f0 < 0
    · rw [if_pos a2] at hs; cases hs; exact ⟨h, rfl, rfl⟩
    · rw [if_neg a2] at hs; cases hs
  · rw [if_neg a1] at hs
    by_cases a2 : y.f0 < 0
    · rw [if_pos a2] at hs; cases hs
    · rw [if_neg a2] at hs
      obtain ⟨x1, x2, x3⟩ := hx a1
      obtain ⟨y1, y2, y3⟩ := hy a2
      by_cases a3 : rd s.X x.f0 < 0
      · rw [if_pos a3] at hs
        by_cases a4 : y.f0 ∈ s.X
        · rw [if_pos a4] at hs; cases hs
        · rw [if_neg a4] at hs
          cases hs
          obtain ⟨q0, q1⟩ := spQ_bd p0 p1 x2 x3 y2 y3
          have hxl : x.f0 < (s.X.length : Int) := by rw [h.lx]; exact x1
          have hyl : x.f0 < (s.Y.length : Int) := by rw [h.ly]; exact x1
          have hne : ¬ c = x.f0 := fun e => by rw [e] at hc; omega
          refine ⟨h.put (by omega) x1 a3 (by omega) y1 q0 q1, ?_, ?_⟩
          · dsimp only; rw [rd_setI (by omega) hxl c0, if_neg hne]
          · dsimp only; rw [rd_setI (by omega) hyl c0, if_neg hne]
      · rw [if_neg a3] at hs
        by_cases a4 : rd s.X x.f0 = y.f0 ∧ rd s.Y x.f0 = spQ p x y
        · rw [if_pos a4] at hs; cases hs; exact ⟨h, rfl, rfl⟩
        · rw [if_neg a4] at hs; cases hs
theorem rd_rep {n : Nat} {i : Int} (h0 : 0 ≤ i) (h1 : i < (n : Int)) : rd (List.replicate n (-1 : Int)) i = -1 := by
  obtain ⟨m, rfl⟩ := Int.eq_ofNat_of_zero_le h0
  have hm : m < n := by omega
  simp [rd, List.getD_eq_getElem?_getD, hm]
theorem negs_rep : ∀ n : Nat, negs (List.replicate n (-1 : Int)) = n
  | 0 => rfl
  | n + 1 => by
    have ih := negs_rep n
    unfold negs at ih ⊢
    rw [List.replicate_succ, List.filter_cons, if_pos (by decide), List.length_cons, ih]
theorem spOk_start {n : Nat} {tt p : Int} (hn : 0 < n) (t0 : 0 ≤ tt) (t1 : tt < (n : Int)) (p0 : 0 ≤ p) (p1 : p ≤ 23) : SpOk n ⟨(List.replicate n (-1)).set 0 tt, (List.replicate n (-1)).set 0 p, [0]⟩ := by
  have hl : (0 : Int) < ((List.replicate n (-1 : Int)).length : Int) := by rw [List.length_replicate]; omega
  have hz : ∀ (v i : Int), 0 ≤ i → rd ((List.replicate n (-1 : Int)).set 0 v) i = if i = 0 then v else rd (List.replicate n (-1)) i := fun v i hi => rd_setI (l := List.replicate n (-1 : Int)) (i := 0) (Int.le_refl 0) hl hi
  refine ⟨by rw [List.length_set, List.length_replicate], by rw [List.length_set, List.length_replicate], fun x hx => ?_, fun i i0 i1 hi => ?_, fun x hx => ?_, ?_⟩
  · rcases List.mem_or_eq_of_mem_set hx with h | rfl
    · rw [List.eq_of_mem_replicate h]; exact ⟨by omega, by omega⟩
    · exact ⟨by omega, t1⟩
  · dsimp only at hi ⊢
    rw [hz tt i i0] at hi
    rw [hz p i i0]
    by_cases e : i = 0
    · rw [if_pos e]; exact ⟨p0, p1⟩
    · rw [if_neg e, rd_rep i0 i1] at hi
      omega
  · dsimp only at hx ⊢
    rw [List.mem_singleton.1 hx]
    refine ⟨⟨by omega, by omega⟩, ?_⟩
    rw [hz tt 0 (by omega), if_pos rfl]
    exact t0
  · have h1 := negs_set (List.replicate n (-1)) 0 tt (by rw [List.length_replicate]; exact hn) (by rw [List.getElem_replicate]; decide) t0
    rw [negs_rep] at h1
    show 1 + negs ((List.replicate n (-1)).set 0 tt) ≤ n
    omega
/-- Does the search that begins so come to its end? -/
def spHit (a b : List (List SFace)) (n : Nat) (tt p : Nat) : Bool := spGo a b (n + 1) 0 ⟨(List.replicate n (-1)).set 0 (tt : Int), (List.replicate n (-1)).set 0 (p : Int), [0]⟩
def cntP (a b : List (List SFace)) (n tt : Nat) : Nat → Nat
  | 0 => 0
  | p + 1 => cntP a b n tt p + (if spHit a b n tt p = true then 1 else 0)
def cntT (a b : List (List SFace)) (n : Nat) : Nat → Nat
  | 0 => 0
  | tt + 1 => cntT a b n tt + cntP a b n tt 24
theorem cntP_le (a b : List (List SFace)) (n tt : Nat) : ∀ p, cntP a b n tt p ≤ p
  | 0 => yoy _
  | p + 1 => by rw [cntP]; have := cntP_le a b n tt p; split <;> omega
theorem cntT_le (a b : List (List SFace)) (n : Nat) : ∀ tt, cntT a b n tt ≤ 24 * tt
  | 0 => yoy _
  | tt + 1 => by rw [cntT]; have := cntT_le a b n tt; have := cntP_le a b n tt 24; omega
/-- The memory of a search: two rows that came in, a row of the search's own. -/
structure SpW (w0 w1 W : World) (n gx cx gy cy : Nat) (vL : Value) (s : SpS) : Prop where
  b0 : Below w0.heap.size w0 W
  sz : w1.heap.size ≤ W.heap.size
  kp : ∀ k, k < w1.heap.size → k ≠ gx → k ≠ gy → W.heap[k]? = w1.heap[k]?
  rx : Kd.R (Kd.int .i64) 2 W w0.heap.size (fun k => k = gx) (.slice (some ⟨gx, 0, none⟩) n cx) s.X
  ry : Kd.R (Kd.int .i64) 2 W w0.heap.size (fun k => k = gy) (.slice (some ⟨gy, 0, none⟩) n cy) s.Y
  rl : Kd.R (Kd.int .i64) 2 W w1.heap.size (fun _ => True) vL s.L
/-- Where the two rows lie. -/
structure SpG (w0 w1 : World) (gx gy : Nat) : Prop where
  x0 : w0.heap.size ≤ gx
  x1 : gx < w1.heap.size
  y0 : w0.heap.size ≤ gy
  y1 : gy < w1.heap.size
  ne : gx ≠ gy
section
variable {w0 w1 W W1 : World} {n gx cx gy cy : Nat} {vL : Value} {s : SpS}
theorem SpW.stays (h : SpW w0 w1 W n gx cx gy cy vL s) (hb : Below W.heap.size W W1) : SpW w0 w1 W1 n gx cx gy cy vL s :=
  ⟨below_step h.b0 hb, Nat.le_trans h.sz hb.size, fun k h1 h2 h3 => (hb.block k (Nat.lt_of_lt_of_le h1 h.sz)).trans (h.kp k h1 h2 h3), Kd.R_below h.rx hb, Kd.R_below h.ry hb, Kd.R_below h.rl hb⟩
theorem SpW.atX (h : SpW w0 w1 W n gx cx gy cy vL s) {i v : Int} (i0 : 0 ≤ i) (i1 : i < (n : Int)) (hv : rd s.X i = v) : W.cell? ⟨gx, i.toNat, none⟩ = some (.int .i64 v) ∧ W.frozen? ⟨gx, i.toNat, none⟩ = false := by
  subst hv
  exact Kd.R_celln 0 h.rx i i0 i1
theorem SpW.atY (h : SpW w0 w1 W n gx cx gy cy vL s) {i v : Int} (i0 : 0 ≤ i) (i1 : i < (n : Int)) (hv : rd s.Y i = v) : W.cell? ⟨gy, i.toNat, none⟩ = some (.int .i64 v) ∧ W.frozen? ⟨gy, i.toNat, none⟩ = false := by
  subst hv
  exact Kd.R_celln 0 h.ry i i0 i1
theorem SpW.setX (g : SpG w0 w1 gx gy) (h : SpW w0 w1 W n gx cx gy cy vL s) (i v : Int) : SpW w0 w1 (W.setCell ⟨gx, i.toNat, none⟩ (.int .i64 v)) n gx cx gy cy vL ⟨s.X.set i.toNat v, s.Y, s.L⟩ :=
  ⟨h.b0.setCell (p := ⟨gx, i.toNat, none⟩) g.x0 _, Nat.le_trans h.sz (Nat.le_of_eq (by simp [World.setCell])), fun k h1 h2 h3 => (Below.heap_setCell W ⟨gx, i.toNat, none⟩ _ k h2).trans (h.kp k h1 h2 h3), Kd.R_putn h.rx i v, Kd.R_far (p := ⟨gx, i.toNat, none⟩) h.ry (fun k hk => by rw [hk]; exact (Ne.symm g.ne)) _,
    Kd.R_mono (Kd.R_far (p := ⟨gx, i.toNat, none⟩) (Kd.R_bound h.rl) (fun k hk e => by have h1 := hk.2.1; have h2 := g.x1; have e1 : k = gx := e; omega) _) (fun _ _ => trivial)⟩
theorem SpW.setY (g : SpG w0 w1 gx gy) (h : SpW w0 w1 W n gx cx gy cy vL s) (i v : Int) : SpW w0 w1 (W.setCell ⟨gy, i.toNat, none⟩ (.int .i64 v)) n gx cx gy cy vL ⟨s.X, s.Y.set i.toNat v, s.L⟩ :=
  ⟨h.b0.setCell (p := ⟨gy, i.toNat, none⟩) g.y0 _, Nat.le_trans h.sz (Nat.le_of_eq (by simp [World.setCell])), fun k h1 h2 h3 => (Below.heap_setCell W ⟨gy, i.toNat, none⟩ _ k h3).trans (h.kp k h1 h2 h3), Kd.R_far (p := ⟨gy, i.toNat, none⟩) h.rx (fun k hk => by rw [hk]; exact g.ne) _, Kd.R_putn h.ry i v,
    Kd.R_mono (Kd.R_far (p := ⟨gy, i.toNat, none⟩) (Kd.R_bound h.rl) (fun k hk e => by have h1 := hk.2.1; have h2 := g.y1; have e1 : k = gy := e; omega) _) (fun _ _ => trivial)⟩
theorem SpW.far {g t : Nat} {cells : Array Value} (G : SpG w0 w1 gx gy) (h : SpW w0 w1 W n gx cx gy cy vL s) (hb : W.heap[g]? = some (.cells cells t (0, 0))) (ht : ∀ q, q ∈ 2 :: (Kd.int .i64).E → q ≠ t) (hg : w1.heap.size ≤ g) (j : Nat) (u : Value) : SpW w0 w1 (W.setCell ⟨g, j, none⟩ u) n gx cx gy cy vL s := by
  have h0 : w0.heap.size ≤ g := by have := G.x0; have := G.x1; omega
  exact ⟨h.b0.setCell (p := ⟨g, j, none⟩) h0 _, Nat.le_trans h.sz (Nat.le_of_eq (by simp [World.setCell])), fun k h1 h2 h3 => (Below.heap_setCell W ⟨g, j, none⟩ _ k (show k ≠ g by omega)).trans (h.kp k h1 h2 h3),
    Kd.R_far (p := ⟨g, j, none⟩) h.rx (fun k hk => by have := G.x1; show k ≠ g; omega) _, Kd.R_far (p := ⟨g, j, none⟩) h.ry (fun k hk => by have := G.y1; show k ≠ g; omega) _, Kd.R_set h.rl hb ht j u⟩
theorem sp_g {g t e base : Nat} {cs : Array Value} {α : Type} {d : Kd α} {ok : Nat → Prop} {v : Value} {xs : List α} (h1 : W.heap[g]? = some (.cells cs t (0, 0))) (h3 : d.R e W base ok v xs) (hne : t ≠ e) (hg : W.grownBy W1 v.ownBlock) : W1.heap[g]? = some (.cells cs t (0, 0)) :=
  (hg.block g (blk_lt h1) (fun e1 => by
    obtain ⟨cells2, hc2⟩ := Kd.R_typed h3 g e1.symm
    rw [h1] at hc2
    injection hc2 with hc2
    injection hc2 with _ hc3
    exact hne hc3)).trans h1
theorem sp_far {g k : Nat} {o : Obj} (h : W.heap[g]? = some o) (hne : g ≠ k) (j : Nat) (u : Value) : (W.setCell ⟨k, j, none⟩ u).heap[g]? = some o := (Below.heap_setCell W ⟨k, j, none⟩ u g hne).trans h
theorem blk_two {g t : Nat} {a b u v : Value} (h : W.heap[g]? = some (.cells #[a, b] t (0, 0))) : ((W.setCell ⟨g, 0, none⟩ u).setCell ⟨g, 1, none⟩ v).heap[g]? = some (.cells #[u, v] t (0, 0)) := by
  have h1 : (W.setCell ⟨g, 0, none⟩ u).heap[g]? = some (.cells #[u, b] t (0, 0)) := by simpa using blk_set h 0 u
  simpa using blk_set h1 1 v
theorem SpW.app {v1 : Value} {l : List Int} (g : SpG w0 w1 gx gy) (h : SpW w0 w1 W n gx cx gy cy vL s) (hb : Below w1.heap.size W W1) (hg : W.grownBy W1 vL.ownBlock) (hr : Kd.R (Kd.int .i64) 2 W1 w1.heap.size (fun _ => True) v1 l) : SpW w0 w1 W1 n gx cx gy cy v1 ⟨s.X, s.Y, l⟩ := by
  have hne : ∀ k, k < w1.heap.size → some k ≠ vL.ownBlock := fun k hk e => by
    have := Kd.R_base h.rl k e.symm
    omega
  have hw : w0.heap.size ≤ w1.heap.size := by have := g.x0; have := g.x1; omega
  exact ⟨h.b0.trans (hb.mono hw), Nat.le_trans h.sz hb.size, fun k h1 h2 h3 => (hg.block k (Nat.lt_of_lt_of_le h1 h.sz) (hne k h1)).trans (h.kp k h1 h2 h3),
    Kd.R_grown h.rx hg (fun k hk => by rw [hk]; exact hne _ g.x1), Kd.R_grown h.ry hg (fun k hk => by rw [hk]; exact hne _ g.y1), hr⟩
end
/-! matcher.spread: the program's search. -/
set_option maxHeartbeats 16000000 in
set_option maxRecDepth 100000 in
theorem impl_spread.calls (n : Nat) (hn : n ≤ 8) (hn0 : 0 < n) (A0 : Option Addr) (c0 : Nat) (la : List (List SFace)) (A1 : Option Addr) (c1 : Nat) (lb : List (List SFace)) (gm gx cx gy cy a p0 : Nat) (w0 w : World) (hB : Below w0.heap.size w0 w)
 (hra : Kd.C (Kd.slice 56 kFace) w0 A0 n la) (hca : n ≤ c0) (hrb : Kd.C (Kd.slice 56 kFace) w0 A1 n lb) (hcb : n ≤ c1) (hta : TrOk la n) (htb : TrOk lb n) (hm : w.heap[gm]? = some (.cells #[.slice A0 n c0, .slice A1 n c1, .slice (some ⟨gx, 0, none⟩) n cx, .slice (some ⟨gy, 0, none⟩) n cy] 72 (0, 0)))
 (hx : Kd.R (Kd.int .i64) 2 w w0.heap.size (fun k => k = gx) (.slice (some ⟨gx, 0, none⟩) n cx) (List.replicate n (-1))) (hy : Kd.R (Kd.int .i64) 2 w w0.heap.size (fun k => k = gy) (.slice (some ⟨gy, 0, none⟩) n cy) (List.replicate n (-1))) (hne : gx ≠ gy) (ha : a < n) (hp : p0 < 24) :
 Calls Try.prog 48 #[.pointer (some ⟨gm, 0, none⟩), .int .i64 0, .int .i64 (a : Int), .int .i64 (p0 : Int)] w fun e w' => e = .returned (.bool (spHit la lb n a p0)) ∧ Below w0.heap.size w0 w' ∧ (∀ k, k < w.heap.size → k ≠ gx → k ≠ gy → w'.heap[k]? = w.heap[k]?) ∧ w.heap.size ≤ w'.heap.size ∧
  (∃ X : List Int, Kd.R (Kd.int .i64) 2 w' w0.heap.size (fun k => k = gx) (.slice (some ⟨gx, 0, none⟩) n cx) X) ∧ ∃ Y : List Int, Kd.R (Kd.int .i64) 2 w' w0.heap.size (fun k => k = gy) (.slice (some ⟨gy, 0, none⟩) n cy) Y := by
 have HRA := Aside0.mk hra
 have HRB := Aside0.mk hrb
 have HTA := Aside0.mk hta
 have HTB := Aside0.mk htb
 have HM := Aside0.mk hm
 have hgx : gx < w.heap.size := Kd.R_lt hx gx rfl
 have hgy : gy < w.heap.size := Kd.R_lt hy gy rfl
 have hgm : gm < w.heap.size := blk_lt hm
 have HG := Aside0.mk (show SpG w0 w gx gy from ⟨Kd.R_base hx gx rfl, hgx, Kd.R_base hy gy rfl, hgy, hne⟩)
 have hmx : gm ≠ gx := fun e => by
  obtain ⟨cells, hc⟩ := Kd.R_typed hx gx rfl
  rw [← e, hm] at hc
  injection hc with hc
  injection hc with _ hc3
  exact absurd hc3 (by decide)
 have hmy : gm ≠ gy := fun e => by
  obtain ⟨cells, hc⟩ := Kd.R_typed hy gy rfl
  rw [← e, hm] at hc
  injection hc with hc
  injection hc with _ hc3
  exact absurd hc3 (by decide)
 have HX := Aside0.mk hx
 have HY := Aside0.mk hy
 have HB := Aside0.mk hB
 have HOK0 := Aside0.mk (spOk_start (n := n) (tt := (a : Int)) (p := (p0 : Int)) hn0 (by omega) (by omega) (by omega) (by omega))
 have HEN : Aside0 (∀ (W : World) (vL : Value) (s : SpS), SpW w0 w W n gx cx gy cy vL s → Below w0.heap.size w0 W ∧ (∀ k, k < w.heap.size → k ≠ gx → k ≠ gy → W.heap[k]? = w.heap[k]?) ∧ w.heap.size ≤ W.heap.size ∧ (∃ X : List Int, Kd.R (Kd.int .i64) 2 W w0.heap.size (fun k => k = gx) (.slice (some ⟨gx, 0, none⟩) n cx) X) ∧ ∃ Y : List Int, Kd.R (Kd.int .i64) 2 W w0.heap.size (fun k => k = gy) (.slice (some ⟨gy, 0, none⟩) n cy) Y) := ⟨fun W vL s h => ⟨h.b0, h.kp, h.sz, ⟨_, h.rx⟩, ⟨_, h.ry⟩⟩⟩
 have hm0 : w.cell? ⟨gm, 0, none⟩ = some (.slice A0 n c0) := (blk_cell hm 0).trans rfl
 have hm2 : w.cell? ⟨gm, 2, none⟩ = some (.slice (some ⟨gx, 0, none⟩) n cx) := (blk_cell hm 2).trans rfl
 have hm3 : w.cell? ⟨gm, 3, none⟩ = some (.slice (some ⟨gy, 0, none⟩) n cy) := (blk_cell hm 3).trans rfl
 have hall := con_eq (l := List.replicate n (-1)) (a : Int) (by rw [List.length_replicate]; exact hn)
 rw [yhy (fun h => by have := List.eq_of_mem_replicate h; omega)] at hall
 have hcon := slices_Contains_Sint64.calls 10 (some ⟨gx, 0, none⟩) cx (List.replicate n (-1)) (a : Int) false w (Kd.R_reads' hx).2.2 (by rw [List.length_replicate]; exact (Kd.R_reads' hx).2.1) hall
 rw [List.length_replicate] at hcon
 have HCON := Aside0.mk hcon
 clear hra hrb hta htb hx hy hB hcon hall
 generalize hrr : spHit la lb n a p0 = r
 have HRR := Aside0.mk hrr
 clear hrr
 go_enter Try.func48, Try.ntmps48
 go_wp2_with fail
 refine HCON.out.mono ?_
 rintro e w2 ⟨rfl, hd⟩
 have hb := Drawn0.below hd
 have hM2 := blk_below HM.out hb
 have HM2 := Aside0.mk hM2
 have HB2 := Aside0.mk (below_step HB.out hb)
 have hHs2 : w2.cell? ⟨gm, 2, none⟩ = some (.slice (some ⟨gx, 0, none⟩) n cx) ∧ w2.cell? ⟨gm, 3, none⟩ = some (.slice (some ⟨gy, 0, none⟩) n cy) := ⟨(blk_cell HM2.out 2).trans rfl, (blk_cell HM2.out 3).trans rfl⟩
 have hM3 := blk_drew HM2.out
 have hW3 : SpW w0 w w2.drew n gx cx gy cy (.slice none 0 0) ⟨List.replicate n (-1), List.replicate n (-1), []⟩ := ⟨below_drew HB2.out, hb.size, fun k h1 _ _ => hb.block k h1, Kd.R_drew (Kd.R_below HX.out hb), Kd.R_drew (Kd.R_below HY.out hb), Kd.R_nil _ _ _ _ _⟩
 clear hd hb hM2
 go_wp2_with fail
 refine start_ (n := 16) (S := fun w' => w'.cell? ⟨gm, 2, none⟩ = some (.slice (some ⟨gx, 0, none⟩) n cx) ∧ w'.cell? ⟨gm, 3, none⟩ = some (.slice (some ⟨gy, 0, none⟩) n cy)) (ds := [13, 15]) #[false, false, false, false, false, false, false, false, false, false, false, false, false, false, false, false] (by kernel_rfl) rfl rfl hHs2 (fun hHeld => ?_)
 generalize w2.drew = w3 at hM3 hW3 hHeld ⊢
 clear hHs2
 obtain ⟨hx1, hx2⟩ : w3.cell? ⟨gx, 0, none⟩ = some (.int .i64 (rdOf 0 (List.replicate n (-1)) 0)) ∧ w3.frozen? ⟨gx, 0, none⟩ = false := Kd.R_celln 0 hW3.rx (0 : Int) (Int.le_refl 0) (by omega)
 have hW4 : SpW w0 w (w3.setCell ⟨gx, 0, none⟩ (.int .i64 (a : Int))) n gx cx gy cy (.slice none 0 0) ⟨(List.replicate n (-1)).set 0 (a : Int), List.replicate n (-1), []⟩ := SpW.setX HG.out hW3 0 (a : Int)
 obtain ⟨hy1, hy2⟩ : (w3.setCell ⟨gx, 0, none⟩ (.int .i64 (a : Int))).cell? ⟨gy, 0, none⟩ = some (.int .i64 (rdOf 0 (List.replicate n (-1)) 0)) ∧ (w3.setCell ⟨gx, 0, none⟩ (.int .i64 (a : Int))).frozen? ⟨gy, 0, none⟩ = false := Kd.R_celln 0 hW4.ry (0 : Int) (Int.le_refl 0) (by omega)
 have hW5 : SpW w0 w ((w3.setCell ⟨gx, 0, none⟩ (.int .i64 (a : Int))).setCell ⟨gy, 0, none⟩ (.int .i64 (p0 : Int))) n gx cx gy cy (.slice none 0 0) ⟨(List.replicate n (-1)).set 0 (a : Int), (List.replicate n (-1)).set 0 (p0 : Int), []⟩ := SpW.setY HG.out hW4 0 (p0 : Int)
 have HW5 := Aside0.mk hW5
 clear hW3 hW4 hW5 hM3
 refine pure_ (i := 0) (N := some 23) (v := ?_) (a' := ?_) #[true, false, false, false, false, false, false, false, false, false, false, false, false, false, false, false] rfl rfl (by kernel_rfl) (fun _ _ _ h => h) (Or.inl ⟨by rfl, ?_⟩) ?_ ?_
 rotate_left
 next =>
  rintro w'
  go_simp
  with_reducible rfl
 rotate_left
 next =>
  simp only [Act.put, yay, yby, ycy, i64_w, i32_w]
  rfl
 refine pure_ (i := 1) (N := some 24) (v := ?_) (a' := ?_) #[true, true, false, false, false, false, false, false, false, false, false, false, false, false, false, false] rfl rfl (by kernel_rfl) (fun _ _ _ h => h) (Or.inl ⟨by rfl, ?_⟩) ?_ ?_
 rotate_left
 next =>
  rintro w'
  go_simp
  with_reducible rfl
 rotate_left
 next =>
  simp only [Act.put, yay, yby, ycy, i64_w, i32_w]
  rfl
 refine pure_ (i := 2) (N := some 25) (v := ?_) (a' := ?_) #[true, true, true, false, false, false, false, false, false, false, false, false, false, false, false, false] rfl rfl (by kernel_rfl) (fun _ _ _ h => h) (Or.inl ⟨by rfl, ?_⟩) ?_ ?_
 rotate_left
 next =>
  rintro w'
  go_simp
  with_reducible rfl
 rotate_left
 next =>
  simp only [Act.put, yay, yby, ycy, i64_w, i32_w]
  rfl
 refine take_ (i := 3) (N := some 26) (v := ?_) (a' := ?_) #[true, true, true, true, false, false, false, false, false, false, false, false, false, false, false, false] rfl rfl (by kernel_rfl) (fun _ _ _ h => h) (Or.inl ⟨by rfl, ?_⟩) hHeld ?_ ?_
 rotate_left
 next =>
  rintro w' ⟨s0, s1⟩
  go_simp
  with_reducible rfl
 rotate_left
 next =>
  simp only [Act.put, yay, yby, ycy, i64_w, i32_w]
  rfl
 refine pure_ (i := 4) (N := some 27) (v := ?_) (a' := ?_) #[true, true, true, true, true, false, false, false, false, false, false, false, false, false, false, false] rfl rfl (by kernel_rfl) (fun _ _ _ h => h) (Or.inl ⟨by rfl, ?_⟩) ?_ ?_
 rotate_left
 next =>
  rintro w'
  go_simp
  with_reducible rfl
 rotate_left
 next =>
  simp only [Act.put, yay, yby, ycy, i64_w, i32_w]
  rfl
 refine pure_ (i := 5) (N := some 28) (v := ?_) (a' := ?_) #[true, true, true, true, true, true, false, false, false, false, false, false, false, false, false, false] rfl rfl (by kernel_rfl) (fun _ _ _ h => h) (Or.inl ⟨by rfl, ?_⟩) ?_ ?_
 rotate_left
 next =>
  rintro w'
  go_simp
  with_reducible rfl
 rotate_left
 next =>
  simp only [Act.put, yay, yby, ycy, i64_w, i32_w]
  rfl
 refine pure_ (i := 6) (N := some 29) (v := ?_) (a' := ?_) #[true, true, true, true, true, true, true, false, false, false, false, false, false, false, false, false] rfl rfl (by kernel_rfl) (fun _ _ _ h => h) (Or.inl ⟨by rfl, ?_⟩) ?_ ?_
 rotate_left
 next =>
  rintro w'
  go_simp
  with_reducible rfl
 rotate_left
 next =>
  simp only [Act.put, yay, yby, ycy, i64_w, i32_w]
  rfl
 refine pure_ (i := 7) (N := some 30) (v := ?_) (a' := ?_) #[true, true, true, true, true, true, true, true, false, false, false, false, false, false, false, false] rfl rfl (by kernel_rfl) (fun _ _ _ h => h) (Or.inl ⟨by rfl, ?_⟩) ?_ ?_
 rotate_left
 next =>
  rintro w'
  go_simp
  with_reducible rfl
 rotate_left
 next =>
  simp only [Act.put, yay, yby, ycy, i64_w, i32_w]
  rfl
 refine take_ (i := 8) (N := some 31) (v := ?_) (a' := ?_) #[true, true, true, true, true, true, true, true, true, false, false, false, false, false, false, false] rfl rfl (by kernel_rfl) (fun _ _ _ h => h) (Or.inl ⟨by rfl, ?_⟩) hHeld ?_ ?_
 rotate_left
 next =>
  rintro w' ⟨s0, s1⟩
  go_simp
  with_reducible rfl
 rotate_left
 next =>
  simp only [Act.put, yay, yby, ycy, i64_w, i32_w]
  rfl
 refine pure_ (i := 9) (N := some 32) (v := ?_) (a' := ?_) #[true, true, true, true, true, true, true, true, true, true, false, false, false, false, false, false] rfl rfl (by kernel_rfl) (fun _ _ _ h => h) (Or.inl ⟨by rfl, ?_⟩) ?_ ?_
 rotate_left
 next =>
  rintro w'
  go_simp
  with_reducible rfl
 rotate_left
 next =>
  simp only [Act.put, yay, yby, ycy, i64_w, i32_w]
  rfl
 refine pure_ (i := 10) (N := some 33) (v := ?_) (a' := ?_) #[true, true, true, true, true, true, true, true, true, true, true, false, false, false, false, false] rfl rfl (by kernel_rfl) (fun _ _ _ h => h) (Or.inl ⟨by rfl, ?_⟩) ?_ ?_
 rotate_left
 next =>
  rintro w'
  go_simp
  with_reducible rfl
 rotate_left
 next =>
  simp only [Act.put, yay, yby, ycy, i64_w, i32_w]
  rfl
 refine pure_ (i := 11) (N := some 34) (v := ?_) (a' := ?_) #[true, true, true, true, true, true, true, true, true, true, true, true, false, false, false, false] rfl rfl (by kernel_rfl) (fun _ _ _ h => h) (Or.inl ⟨by rfl, ?_⟩) ?_ ?_
 rotate_left
 next =>
  rintro w'
  go_simp
  with_reducible rfl
 rotate_left
 next =>
  simp only [Act.put, yay, yby, ycy, i64_w, i32_w]
  rfl
 refine pure_ (i := 12) (N := some 35) (v := ?_) (a' := ?_) #[true, true, true, true, true, true, true, true, true, true, true, true, true, false, false, false] rfl rfl (by kernel_rfl) (fun _ _ _ h => h) (Or.inl ⟨by rfl, ?_⟩) ?_ ?_
 rotate_left
 next =>
  rintro w'
  go_simp
  with_reducible rfl
 rotate_left
 next =>
  simp only [Act.put, yay, yby, ycy, i64_w, i32_w]
  rfl
 refine last_ (i := 13) (N := none) #[true, true, true, true, true, true, true, true, true, true, true, true, true, true, false, false] rfl rfl (by kernel_rfl) (by decide) (fun K hK => ?_)
 refine skip_ (w1 := ?_) (by rfl) rfl ?_ ?_
 rotate_left
 next =>
  go_simp
  rfl
 refine hK.out _ _ ?_
 clear hK K
 refine pure_ (i := 14) (N := some 36) (v := ?_) (a' := ?_) #[true, true, true, true, true, true, true, true, true, true, true, true, true, true, true, false] rfl rfl (by kernel_rfl) (fun _ _ _ h => h) (Or.inl ⟨by rfl, ?_⟩) ?_ ?_
 rotate_left
 next =>
  rintro w'
  go_simp
  with_reducible rfl
 rotate_left
 next =>
  simp only [Act.put, yay, yby, ycy, i64_w, i32_w]
  rfl
 refine last_ (i := 15) (N := none) #[true, true, true, true, true, true, true, true, true, true, true, true, true, true, true, true] rfl rfl (by kernel_rfl) (by decide) (fun K hK => ?_)
 refine skip_ (w1 := ?_) (by rfl) rfl ?_ ?_
 rotate_left
 next =>
  go_simp
  rfl
 refine hK.out _ _ ?_
 clear hK K
 refine done_ (by kernel_rfl) ?_
 clear hx1 hx2 hy1 hy2
 generalize (w3.setCell ⟨gx, 0, none⟩ (.int .i64 (a : Int))).setCell ⟨gy, 0, none⟩ (.int .i64 (p0 : Int)) = w5 at HW5 ⊢
 have HW := Aside0.mk (show SpW w0 w (w5.alloc (.cells #[.int .i64 0] 2)) n gx cx gy cy (.slice (some ⟨w5.heap.size, 0, none⟩) 1 1) ⟨(List.replicate n (-1)).set 0 (a : Int), (List.replicate n (-1)).set 0 (p0 : Int), [0]⟩ from
  ⟨below_alloc HW5.out.b0 _, Nat.le_trans HW5.out.sz (by simp), fun k h1 h2 h3 => (Below.heap_alloc _ _ k (Nat.lt_of_lt_of_le h1 HW5.out.sz)).trans (HW5.out.kp k h1 h2 h3), Kd.R_alloc HW5.out.rx _, Kd.R_alloc HW5.out.ry _,
   Kd.R_of_own ⟨by simp [encs], .inr ⟨w5.heap.size, 1, #[.int .i64 0], rfl, HW5.out.sz, new_at4 rfl _, yoy 1, by decide, rfl, rfl⟩⟩ (fun _ _ => trivial)⟩)
 clear HW5
 go_wp2
 go_loopg [9, 10] n (fun gg v9 v10 w' => ∃ (i : Nat) (s : SpS), i ≤ n ∧ n - i ≤ gg ∧ v10 = .int .i64 i ∧ Aside0 (SpW w0 w w' n gx cx gy cy v9 s) ∧ Aside0 (SpOk n s) ∧ Aside0 (spGo la lb (n + 1 - i) i s = r))
 case atStart => exact ⟨0, _, Nat.zero_le _, by omega, rfl, HW, HOK0, HRR⟩
 case round =>
  clear HW HOK0 HRR
  obtain ⟨i, s, hi9, hgg, rfl, HW, HOK, HRR⟩ := hrel
  have hle := HOK.out.len
  obtain ⟨Av, cv, rfl⟩ := Kd.R_slice HW.out.rl
  by_cases hlt : i < s.L.length
  rotate_left
  next =>
   have hrt : true = r := by
    have h := HRR.out
    rw [show n + 1 - i = (n - i) + 1 by omega, spGo, if_neg hlt] at h
    exact h
   subst hrt
   clear HRR
   have hge : ¬ (i : Int) < (s.L.length : Int) := by omega
   go_wp2
   go_ret
   exact ⟨rfl, HEN.out _ _ _ HW.out⟩
  have hltz : (i : Int) < (s.L.length : Int) := by omega
  obtain ⟨gl, cl, hvl, _⟩ := Kd.R_form HW.out.rl (by omega)
  injection hvl with hvl1 hvl2 hvl3
  subst hvl1
  subst hvl3
  have hcl := (Kd.R_celln 0 HW.out.rl (i : Int) (by omega) hltz).1
  replace hcl : wr.cell? ⟨gl, i, none⟩ = some (.int .i64 (rd s.L (i : Int))) := hcl
  have HCL := Aside0.mk (HOK.out.lb _ (rd_mem (l := s.L) (i := (i : Int)) (by omega) hltz))
  have HRR2 := Aside0.mk (show ((spRow la lb (rd s.L (i : Int)) (rd s.Y (rd s.L (i : Int))) 4 0 s).map (spGo la lb (n - i) (i + 1))).getD false = r by
   have h := HRR.out
   rw [show n + 1 - i = (n - i) + 1 by omega, spGo, if_pos hlt] at h
   exact h)
  clear HRR
  generalize rd s.L (i : Int) = c at *
  have hc0 : 0 ≤ c := HCL.out.1.1
  have hc1 : c < (n : Int) := HCL.out.1.2
  have HYB := Aside0.mk (HOK.out.yb c hc0 hc1 HCL.out.2)
  have hcy := (Kd.R_celln 0 HW.out.ry c hc0 hc1).1
  replace hcy : wr.cell? ⟨gy, c.toNat, none⟩ = some (.int .i64 (rd s.Y c)) := hcy
  obtain ⟨p, hpp⟩ : ∃ p, rd s.Y c = p := ⟨_, rfl⟩
  rw [hpp] at hcy
  replace HYB := Aside0.mk (show 0 ≤ p ∧ p ≤ 23 by rw [← hpp]; exact HYB.out)
  have HIN := Aside0.mk (show 0 ≤ rd s.X c ∧ rd s.Y c = p ∧ ((spRow la lb c p (4 - 0) ((0 : Nat) : Int) s).map (spGo la lb (n - i) (i + 1))).getD false = r from ⟨HCL.out.2, hpp, by rw [← hpp]; exact HRR2.out⟩)
  clear HRR2 HCL hpp
  have hMr := (HW.out.kp gm hgm hmx hmy).trans HM.out
  have hmr3 : wr.cell? ⟨gm, 3, none⟩ = some (.slice (some ⟨gy, 0, none⟩) n cy) := (blk_cell hMr 3).trans rfl
  have HMr := Aside0.mk hMr
  clear hMr
  obtain ⟨hp0, hp1⟩ := HYB.out
  go_wp2_with fail
  refine (impl_perm.calls p _ hp0 hp1).mono ?_
  rintro e w6 ⟨rfl, hb6⟩
  have HW6 := Aside0.mk (HW.out.stays hb6)
  have HM6 := Aside0.mk (blk_below HMr.out hb6)
  clear hb6 hcl hcy hmr3 HW HMr
  have H12 := Aside0.mk (new_at4 (W := w6) rfl (.cells #[.int .i64 (permAt p 0), .int .i64 (permAt p 1), .int .i64 (permAt p 2), .int .i64 (permAt p 3)] 84))
  have hbw := below_alloc (ypy w6.heap.size w6) (.cells #[.int .i64 (permAt p 0), .int .i64 (permAt p 1), .int .i64 (permAt p 2), .int .i64 (permAt p 3)] 84)
  have HW7 := Aside0.mk (HW6.out.stays hbw)
  have HM7 := Aside0.mk (blk_below HM6.out hbw)
  have hmz0 : (w6.alloc (.cells #[.int .i64 (permAt p 0), .int .i64 (permAt p 1), .int .i64 (permAt p 2), .int .i64 (permAt p 3)] 84)).cell? ⟨gm, 0, none⟩ = some (.slice A0 n c0) := (blk_cell HM7.out 0).trans rfl
  have HG12 := Aside0.mk (show w.heap.size ≤ w6.heap.size from HW6.out.sz)
  obtain ⟨ada, A3, c3, ea, hya, hla3, hrow⟩ := at_LFace HRA.out c hc0 hc1
  subst ea
  rw [trOk_row HTA.out hc0 hc1] at hya hrow
  replace hya := (HW7.out.b0.cell (yny w0 _ hya)).trans hya
  have HROW := Aside0.mk hrow
  clear hrow hla3 hbw
  go_wp2
  generalize hg12 : w6.heap.size = g12 at *
  generalize w6.alloc (.cells #[.int .i64 (permAt p 0), .int .i64 (permAt p 1), .int .i64 (permAt p 2), .int .i64 (permAt p 3)] 84) = w7 at *
  clear hg12 hmz0 hya HW6 HM6 HM7
  go_loopg [9, 66] 4 (fun gg v9 v66 w' => ∃ (f : Nat) (s : SpS), f ≤ 4 ∧ 4 - f ≤ gg ∧ v66 = .int .i64 f ∧ Aside0 (SpW w0 w w' n gx cx gy cy v9 s) ∧ Aside0 (SpOk n s) ∧ Aside0 (0 ≤ rd s.X c ∧ rd s.Y c = p ∧ ((spRow la lb c p (4 - f) (f : Int) s).map (spGo la lb (n - i) (i + 1))).getD false = r) ∧ Aside0 (w'.heap[g12]? = some (.cells #[.int .i64 (permAt p 0), .int .i64 (permAt p 1), .int .i64 (permAt p 2), .int .i64 (permAt p 3)] 84 (0, 0))))
  case atStart => exact ⟨0, _, by omega, by omega, rfl, HW7, HOK, HIN, H12⟩
  case round =>
   clear HW7 HOK HIN H12
   obtain ⟨f, s2, hf4, hgf, rfl, HW, HOK, HIN, H12⟩ := hrel
   by_cases hlf : f < 4
   rotate_left
   next =>
    obtain rfl : f = 4 := by omega
    go_wp2
    go_roundg (n - (i + 1))
    case measure => omega
    case rel => exact ⟨i + 1, s2, by omega, by omega, by (try simp only [i64_w]); (first | rfl | rw [show wrap64 ((i : Int) + 1) = ((i + 1 : Nat) : Int) by unfold wrap64; omega]), HW, HOK, ⟨by
     have h := HIN.out.2.2
     rw [Nat.sub_self, spRow, Option.map_some, Option.getD_some] at h
     rw [show n + 1 - (i + 1) = n - i by omega]
     exact h⟩⟩
   have hlfz : (f : Int) < 4 := by omega
   obtain ⟨adx, ex, hx0, hx1⟩ := at_Face HROW.out (f : Int) (by omega) hlfz
   subst ex
   replace hx0 := (HW.out.b0.cell (yny w0 _ hx0)).trans hx0
   replace hx1 := (HW.out.b0.cell (yny w0 _ hx1)).trans hx1
   rw [Int.toNat_natCast] at hx0 hx1
   have HSP := Aside0.mk (show ((spAt p (fcA la c (f : Int)) (fcA lb (rd s2.X c) (rd (permL p) (f : Int))) s2).bind (spRow la lb c p (4 - (f + 1)) ((f : Int) + 1)) |>.map (spGo la lb (n - i) (i + 1))).getD false = r by
    have h := HIN.out.2.2
    rw [show 4 - f = (4 - (f + 1)) + 1 by omega, spRow] at h
    exact h)
   have HTX := Aside0.mk (trOk_face HTA.out hc0 hc1 (show (0 : Int) ≤ (f : Int) by omega) hlfz)
   have hXb := HOK.out.rx hc0 hc1
   have hcX := (Kd.R_celln 0 HW.out.rx c hc0 hc1).1
   replace hcX : wr.cell? ⟨gx, c.toNat, none⟩ = some (.int .i64 (rd s2.X c)) := hcX
   have hpf := sp_img hp0 hp1 (f := (f : Int)) (by omega) hlfz
   have hc2 := HIN.out.1
   have HINC := Aside0.mk (And.intro hc2 HIN.out.2.1)
   clear HIN
   obtain ⟨bt, hbt⟩ : ∃ bt, rd s2.X c = bt := ⟨_, rfl⟩
   rw [hbt] at hcX hXb hc2 HSP
   obtain ⟨pf, hpfe⟩ : ∃ pf, rd (permL p) (f : Int) = pf := ⟨_, rfl⟩
   rw [hpfe] at hpf HSP
   have hc12 : wr.cell? ⟨g12, f, none⟩ = some (.int .i64 pf) := (arr_cell H12.out (f : Int) (by omega) (by omega)).trans (congrArg (fun z : Int => some (Value.int IntKind.i64 z)) hpfe)
   obtain ⟨hb0, hb1⟩ := hXb
   obtain ⟨hpf0, hpf1⟩ := hpf
   have hpf4 : pf < 4 := by omega
   obtain ⟨adb, A4, c4, eb, hyb, _, hrowb⟩ := at_LFace HRB.out bt hc2 hb1
   subst eb
   rw [trOk_row HTB.out hc2 hb1] at hyb hrowb
   obtain ⟨ady, ey, hy0, hy1⟩ := at_Face hrowb pf hpf0 hpf4
   subst ey
   have HTY := Aside0.mk (trOk_face HTB.out hc2 hb1 hpf0 hpf4)
   change wr.cell? _ = some (.int .i64 (fcA la c (f : Int)).f0) at hx0
   change wr.cell? _ = some (.int .i64 (fcA la c (f : Int)).f1) at hx1
   change w0.cell? _ = some (.int .i64 (fcA lb bt pf).f0) at hy0
   change w0.cell? _ = some (.int .i64 (fcA lb bt pf).f1) at hy1
   generalize fcA la c (f : Int) = x at hx0 hx1 HSP HTX
   generalize fcA lb bt pf = y at hy0 hy1 HSP HTY
   obtain ⟨x0, x1⟩ := x
   obtain ⟨y0, y1⟩ := y
   have HCB := Aside0.mk (And.intro hyb (And.intro hy0 hy1))
   have hMr := (HW.out.kp gm hgm hmx hmy).trans HM.out
   clear hyb hy0 hy1 hrowb
   have hbw := below_alloc (ypy wr.heap.size wr) (.cells #[.int .i64 x0, .int .i64 x1] 56)
   have HWB := Aside0.mk (HW.out.stays hbw)
   have BXB := Aside0.mk (new_at4 (W := wr) rfl (.cells #[.int .i64 x0, .int .i64 x1] 56))
   have HMB := Aside0.mk (blk_below hMr hbw)
   have H12B := Aside0.mk (blk_below H12.out hbw)
   have HCX := Aside0.mk ((hbw.cell (yny wr _ hcX)).trans hcX)
   have HC12 := Aside0.mk ((hbw.cell (yny wr _ hc12)).trans hc12)
   have HGB := Aside0.mk (show w.heap.size ≤ wr.heap.size from HW.out.sz)
   clear hcX hc12 hbw hMr HW H12
   go_wp2_with fail
   generalize hgb : wr.heap.size = gB at *
   generalize wr.alloc (.cells #[.int .i64 x0, .int .i64 x1] 56) = wB at *
   clear hgb hx0 hx1
   have HS9 := Aside0.mk (show wB.cell? ⟨gm, 1, none⟩ = some (.slice (some adb) n c1) ∧ wB.cell? ⟨gm, 2, none⟩ = some (.slice (some ⟨gx, 0, none⟩) n cx) ∧ wB.cell? ⟨gx, c.toNat, none⟩ = some (.int .i64 bt) ∧ wB.cell? (adb.add bt.toNat) = some (.slice (some ady) 4 c4) ∧ wB.cell? ⟨g12, f, none⟩ = some (.int .i64 pf) ∧ wB.cell? (ady.add (pf.toNat * 2)) = some (.int .i64 y0) ∧ wB.cell? ⟨(ady.add (pf.toNat * 2)).block, (ady.add (pf.toNat * 2)).off + 1, none⟩ = some (.int .i64 y1) from ⟨(blk_cell HMB.out 1).trans rfl, (blk_cell HMB.out 2).trans rfl, HCX.out, (HWB.out.b0.cell (yny w0 _ HCB.out.1)).trans HCB.out.1, HC12.out, (HWB.out.b0.cell (yny w0 _ HCB.out.2.1)).trans HCB.out.2.1, (HWB.out.b0.cell (yny w0 _ HCB.out.2.2)).trans HCB.out.2.2⟩)
   refine start_ (n := 21) (S := fun w' => w'.cell? ⟨gm, 1, none⟩ = some (.slice (some adb) n c1) ∧ w'.cell? ⟨gm, 2, none⟩ = some (.slice (some ⟨gx, 0, none⟩) n cx) ∧ w'.cell? ⟨gx, c.toNat, none⟩ = some (.int .i64 bt) ∧ w'.cell? (adb.add bt.toNat) = some (.slice (some ady) 4 c4) ∧ w'.cell? ⟨g12, f, none⟩ = some (.int .i64 pf) ∧ w'.cell? (ady.add (pf.toNat * 2)) = some (.int .i64 y0) ∧ w'.cell? ⟨(ady.add (pf.toNat * 2)).block, (ady.add (pf.toNat * 2)).off + 1, none⟩ = some (.int .i64 y1)) (ds := [20]) #[false, false, false, false, false, false, false, false, false, false, false, false, false, false, false, false, false, false, false, false, false] (by kernel_rfl) rfl rfl HS9.out (fun hHeld => ?_)
   have HWD := Aside0.mk (HWB.out.stays (below_drew (ypy wB.heap.size wB)))
   have HXD := Aside0.mk (blk_drew BXB.out)
   have HMD := Aside0.mk (blk_drew HMB.out)
   have H12D := Aside0.mk (blk_drew H12B.out)
   clear HS9 HCX HC12 HCB HWB BXB HMB H12B
   generalize wB.drew = wD at HWD HXD HMD H12D hHeld ⊢
   refine pure_ (i := 0) (N := some 71) (v := ?_) (a' := ?_) #[true, false, false, false, false, false, false, false, false, false, false, false, false, false, false, false, false, false, false, false, false] rfl rfl (by kernel_rfl) (fun _ _ _ h => h) (Or.inl ⟨by rfl, ?_⟩) ?_ ?_
   rotate_left
   next =>
    rintro w'
    go_simp
    with_reducible rfl
   rotate_left
   next =>
    simp only [Act.put, yay, yby, ycy, i64_w, i32_w]
    rfl
   refine pure_ (i := 1) (N := some 72) (v := ?_) (a' := ?_) #[true, true, false, false, false, false, false, false, false, false, false, false, false, false, false, false, false, false, false, false, false] rfl rfl (by kernel_rfl) (fun _ _ _ h => h) (Or.inl ⟨by rfl, ?_⟩) ?_ ?_
   rotate_left
   next =>
    rintro w'
    go_simp
    with_reducible rfl
   rotate_left
   next =>
    simp only [Act.put, yay, yby, ycy, i64_w, i32_w]
    rfl
   refine pure_ (i := 2) (N := some 73) (v := ?_) (a' := ?_) #[true, true, true, false, false, false, false, false, false, false, false, false, false, false, false, false, false, false, false, false, false] rfl rfl (by kernel_rfl) (fun _ _ _ h => h) (Or.inl ⟨by rfl, ?_⟩) ?_ ?_
   rotate_left
   next =>
    rintro w'
    go_simp
    with_reducible rfl
   rotate_left
   next =>
    simp only [Act.put, yay, yby, ycy, i64_w, i32_w]
    rfl
   refine pure_ (i := 3) (N := some 74) (v := ?_) (a' := ?_) #[true, true, true, true, false, false, false, false, false, false, false, false, false, false, false, false, false, false, false, false, false] rfl rfl (by kernel_rfl) (fun _ _ _ h => h) (Or.inl ⟨by rfl, ?_⟩) ?_ ?_
   rotate_left
   next =>
    rintro w'
    go_simp
    with_reducible rfl
   rotate_left
   next =>
    simp only [Act.put, yay, yby, ycy, i64_w, i32_w]
    rfl
   refine take_ (i := 4) (N := some 75) (v := ?_) (a' := ?_) #[true, true, true, true, true, false, false, false, false, false, false, false, false, false, false, false, false, false, false, false, false] rfl rfl (by kernel_rfl) (fun _ _ _ h => h) (Or.inl ⟨by rfl, ?_⟩) hHeld ?_ ?_
   rotate_left
   next =>
    rintro w' ⟨s0, s1, s2, s3, s4, s5, s6⟩
    go_simp
    with_reducible rfl
   rotate_left
   next =>
    simp only [Act.put, yay, yby, ycy, i64_w, i32_w]
    rfl
   refine pure_ (i := 5) (N := some 76) (v := ?_) (a' := ?_) #[true, true, true, true, true, true, false, false, false, false, false, false, false, false, false, false, false, false, false, false, false] rfl rfl (by kernel_rfl) (fun _ _ _ h => h) (Or.inl ⟨by rfl, ?_⟩) ?_ ?_
   rotate_left
   next =>
    rintro w'
    go_simp
    with_reducible rfl
   rotate_left
   next =>
    simp only [Act.put, yay, yby, ycy, i64_w, i32_w]
    rfl
   refine pure_ (i := 6) (N := some 77) (v := ?_) (a' := ?_) #[true, true, true, true, true, true, true, false, false, false, false, false, false, false, false, false, false, false, false, false, false] rfl rfl (by kernel_rfl) (fun _ _ _ h => h) (Or.inl ⟨by rfl, ?_⟩) ?_ ?_
   rotate_left
   next =>
    rintro w'
    go_simp
    with_reducible rfl
   rotate_left
   next =>
    simp only [Act.put, yay, yby, ycy, i64_w, i32_w]
    rfl
   refine pure_ (i := 7) (N := some 78) (v := ?_) (a' := ?_) #[true, true, true, true, true, true, true, true, false, false, false, false, false, false, false, false, false, false, false, false, false] rfl rfl (by kernel_rfl) (fun _ _ _ h => h) (Or.inl ⟨by rfl, ?_⟩) ?_ ?_
   rotate_left
   next =>
    rintro w'
    go_simp
    with_reducible rfl
   rotate_left
   next =>
    simp only [Act.put, yay, yby, ycy, i64_w, i32_w]
    rfl
   refine take_ (i := 8) (N := some 79) (v := ?_) (a' := ?_) #[true, true, true, true, true, true, true, true, true, false, false, false, false, false, false, false, false, false, false, false, false] rfl rfl (by kernel_rfl) (fun _ _ _ h => h) (Or.inl ⟨by rfl, ?_⟩) hHeld ?_ ?_
   rotate_left
   next =>
    rintro w' ⟨s0, s1, s2, s3, s4, s5, s6⟩
    go_simp
    with_reducible rfl
   rotate_left
   next =>
    simp only [Act.put, yay, yby, ycy, i64_w, i32_w]
    rfl
   refine pure_ (i := 9) (N := some 80) (v := ?_) (a' := ?_) #[true, true, true, true, true, true, true, true, true, true, false, false, false, false, false, false, false, false, false, false, false] rfl rfl (by kernel_rfl) (fun _ _ _ h => h) (Or.inl ⟨by rfl, ?_⟩) ?_ ?_
   rotate_left
   next =>
    rintro w'
    go_simp
    with_reducible rfl
   rotate_left
   next =>
    simp only [Act.put, yay, yby, ycy, i64_w, i32_w]
    rfl
   refine pure_ (i := 10) (N := some 81) (v := ?_) (a' := ?_) #[true, true, true, true, true, true, true, true, true, true, true, false, false, false, false, false, false, false, false, false, false] rfl rfl (by kernel_rfl) (fun _ _ _ h => h) (Or.inl ⟨by rfl, ?_⟩) ?_ ?_
   rotate_left
   next =>
    rintro w'
    go_simp
    with_reducible rfl
   rotate_left
   next =>
    simp only [Act.put, yay, yby, ycy, i64_w, i32_w]
    rfl
   refine take_ (i := 11) (N := some 82) (v := ?_) (a' := ?_) #[true, true, true, true, true, true, true, true, true, true, true, true, false, false, false, false, false, false, false, false, false] rfl rfl (by kernel_rfl) (fun _ _ _ h => h) (Or.inl ⟨by rfl, ?_⟩) hHeld ?_ ?_
   rotate_left
   next =>
    rintro w' ⟨s0, s1, s2, s3, s4, s5, s6⟩
    go_simp
    with_reducible rfl
   rotate_left
   next =>
    simp only [Act.put, yay, yby, ycy, i64_w, i32_w]
    rfl
   refine pure_ (i := 12) (N := some 83) (v := ?_) (a' := ?_) #[true, true, true, true, true, true, true, true, true, true, true, true, true, false, false, false, false, false, false, false, false] rfl rfl (by kernel_rfl) (fun _ _ _ h => h) (Or.inl ⟨by rfl, ?_⟩) ?_ ?_
   rotate_left
   next =>
    rintro w'
    go_simp
    with_reducible rfl
   rotate_left
   next =>
    simp only [Act.put, yay, yby, ycy, i64_w, i32_w]
    rfl
   refine take_ (i := 13) (N := some 84) (v := ?_) (a' := ?_) #[true, true, true, true, true, true, true, true, true, true, true, true, true, true, false, false, false, false, false, false, false] rfl rfl (by kernel_rfl) (fun _ _ _ h => h) (Or.inl ⟨by rfl, ?_⟩) hHeld ?_ ?_
   rotate_left
   next =>
    rintro w' ⟨s0, s1, s2, s3, s4, s5, s6⟩
    go_simp
    with_reducible rfl
   rotate_left
   next =>
    simp only [Act.put, yay, yby, ycy, i64_w, i32_w]
    rfl
   refine pure_ (i := 14) (N := some 85) (v := ?_) (a' := ?_) #[true, true, true, true, true, true, true, true, true, true, true, true, true, true, true, false, false, false, false, false, false] rfl rfl (by kernel_rfl) (fun _ _ _ h => h) (Or.inl ⟨by rfl, ?_⟩) ?_ ?_
   rotate_left
   next =>
    rintro w'
    go_simp
    with_reducible rfl
   rotate_left
   next =>
    simp only [Act.put, yay, yby, ycy, i64_w, i32_w]
    rfl
   refine pure_ (i := 15) (N := some 86) (v := ?_) (a' := ?_) #[true, true, true, true, true, true, true, true, true, true, true, true, true, true, true, true, false, false, false, false, false] rfl rfl (by kernel_rfl) (fun _ _ _ h => h) (Or.inl ⟨by rfl, ?_⟩) ?_ ?_
   rotate_left
   next =>
    rintro w'
    go_simp
    with_reducible rfl
   rotate_left
   next =>
    simp only [Act.put, yay, yby, ycy, i64_w, i32_w]
    rfl
   refine take_ (i := 16) (N := some 87) (v := ?_) (a' := ?_) #[true, true, true, true, true, true, true, true, true, true, true, true, true, true, true, true, true, false, false, false, false] rfl rfl (by kernel_rfl) (fun _ _ _ h => h) (Or.inl ⟨by rfl, ?_⟩) hHeld ?_ ?_
   rotate_left
   next =>
    rintro w' ⟨s0, s1, s2, s3, s4, s5, s6⟩
    go_simp
    with_reducible rfl
   rotate_left
   next =>
    simp only [Act.put, yay, yby, ycy, i64_w, i32_w]
    rfl
   refine pure_ (i := 17) (N := some 88) (v := ?_) (a' := ?_) #[true, true, true, true, true, true, true, true, true, true, true, true, true, true, true, true, true, true, false, false, false] rfl rfl (by kernel_rfl) (fun _ _ _ h => h) (Or.inl ⟨by rfl, ?_⟩) ?_ ?_
   rotate_left
   next =>
    rintro w'
    go_simp
    with_reducible rfl
   rotate_left
   next =>
    simp only [Act.put, yay, yby, ycy, i64_w, i32_w]
    rfl
   refine take_ (i := 18) (N := some 89) (v := ?_) (a' := ?_) #[true, true, true, true, true, true, true, true, true, true, true, true, true, true, true, true, true, true, true, false, false] rfl rfl (by kernel_rfl) (fun _ _ _ h => h) (Or.inl ⟨by rfl, ?_⟩) hHeld ?_ ?_
   rotate_left
   next =>
    rintro w' ⟨s0, s1, s2, s3, s4, s5, s6⟩
    go_simp
    with_reducible rfl
   rotate_left
   next =>
    simp only [Act.put, yay, yby, ycy, i64_w, i32_w]
    rfl
   have hbw := below_alloc (ypy wD.heap.size wD) (.cells #[.int .i64 0, .int .i64 0] 56)
   have HWE := Aside0.mk (HWD.out.stays hbw)
   have HXE := Aside0.mk (blk_below HXD.out hbw)
   have HME := Aside0.mk (blk_below HMD.out hbw)
   have H12E := Aside0.mk (blk_below H12D.out hbw)
   have HNE := Aside0.mk (new_at4 (W := wD) rfl (.cells #[.int .i64 0, .int .i64 0] 56))
   have hgBC : gB < wD.heap.size := blk_lt HXD.out
   have hg12C : g12 < wD.heap.size := blk_lt H12D.out
   have hgCw : w.heap.size ≤ wD.heap.size := HWD.out.sz
   have HHE := Aside0.mk (show (wD.alloc (.cells #[.int .i64 0, .int .i64 0] 56)).cell? ⟨gm, 1, none⟩ = some (.slice (some adb) n c1) ∧ (wD.alloc (.cells #[.int .i64 0, .int .i64 0] 56)).cell? ⟨gm, 2, none⟩ = some (.slice (some ⟨gx, 0, none⟩) n cx) ∧ (wD.alloc (.cells #[.int .i64 0, .int .i64 0] 56)).cell? ⟨gx, c.toNat, none⟩ = some (.int .i64 bt) ∧ (wD.alloc (.cells #[.int .i64 0, .int .i64 0] 56)).cell? (adb.add bt.toNat) = some (.slice (some ady) 4 c4) ∧ (wD.alloc (.cells #[.int .i64 0, .int .i64 0] 56)).cell? ⟨g12, f, none⟩ = some (.int .i64 pf) ∧ (wD.alloc (.cells #[.int .i64 0, .int .i64 0] 56)).cell? (ady.add (pf.toNat * 2)) = some (.int .i64 y0) ∧ (wD.alloc (.cells #[.int .i64 0, .int .i64 0] 56)).cell? ⟨(ady.add (pf.toNat * 2)).block, (ady.add (pf.toNat * 2)).off + 1, none⟩ = some (.int .i64 y1) from ⟨(hbw.cell (yny wD _ hHeld.1)).trans hHeld.1, (hbw.cell (yny wD _ hHeld.2.1)).trans hHeld.2.1, (hbw.cell (yny wD _ hHeld.2.2.1)).trans hHeld.2.2.1, (hbw.cell (yny wD _ hHeld.2.2.2.1)).trans hHeld.2.2.2.1, (hbw.cell (yny wD _ hHeld.2.2.2.2.1)).trans hHeld.2.2.2.2.1, (hbw.cell (yny wD _ hHeld.2.2.2.2.2.1)).trans hHeld.2.2.2.2.2.1, (hbw.cell (yny wD _ hHeld.2.2.2.2.2.2)).trans hHeld.2.2.2.2.2.2⟩)
   clear hbw HWD HXD HMD H12D
   refine one_ (i := 19) (N := some 15) #[true, true, true, true, true, true, true, true, true, true, true, true, true, true, true, true, true, true, true, true, false] rfl rfl (by kernel_rfl) (by decide) (fun K hK => ?_)
   refine value_ (w1 := ?_) (v := ?_) (by rfl) rfl ?_ ?_
   rotate_left 2
   next =>
    go_simp
    constructor
    next =>
     rfl
    next =>
     rfl
   refine hK.out _ _ HHE.out (fun hHeld => ?_)
   clear hK K
   refine norm_ (a' := ?_) ?_ ?_
   rotate_left
   next =>
    show Act.put _ (some 15) _ = _
    simp only [Act.put, yay, yby, ycy, i64_w, i32_w]
    rfl
   clear hHeld HHE
   generalize wD.alloc (.cells #[.int .i64 0, .int .i64 0] 56) = wE at HWE HXE HME H12E HNE ⊢
   generalize wD.heap.size = gC at hgBC hg12C hgCw HNE ⊢
   have hn0 : wE.cell? ⟨gC, 0, none⟩ = some (.int .i64 0) := (blk_cell HNE.out 0).trans rfl
   have hn1 : wE.cell? ⟨gC, 1, none⟩ = some (.int .i64 0) := (blk_cell HNE.out 1).trans rfl
   have hm0' := blk_frozen HNE.out 0
   have hm1' := blk_frozen HNE.out 1
   refine last_ (i := 20) (N := none) #[true, true, true, true, true, true, true, true, true, true, true, true, true, true, true, true, true, true, true, true, true] rfl rfl (by kernel_rfl) (by decide) (fun K hK => ?_)
   refine skip_ (w1 := ?_) (by rfl) rfl ?_ ?_
   rotate_left
   next =>
    go_simp
    rfl
   refine hK.out _ _ ?_
   clear hK K
   refine done_ (by kernel_rfl) ?_
   have HX6 := Aside0.mk (sp_far (sp_far HXE.out (show gB ≠ gC by omega) 0 (.int .i64 y0)) (show gB ≠ gC by omega) 1 (.int .i64 y1))
   have HM6 := Aside0.mk (sp_far (sp_far HME.out (show gm ≠ gC by omega) 0 (.int .i64 y0)) (show gm ≠ gC by omega) 1 (.int .i64 y1))
   have H126 := Aside0.mk (sp_far (sp_far H12E.out (show g12 ≠ gC by omega) 0 (.int .i64 y0)) (show g12 ≠ gC by omega) 1 (.int .i64 y1))
   have HY6 := Aside0.mk (blk_two (u := .int .i64 y0) (v := .int .i64 y1) HNE.out)
   have HW6 := Aside0.mk (SpW.far HG.out (SpW.far HG.out HWE.out HNE.out (by decide) hgCw 0 (.int .i64 y0)) (show (wE.setCell ⟨gC, 0, none⟩ (.int .i64 y0)).heap[gC]? = some (.cells #[.int .i64 y0, .int .i64 0] 56 (0, 0)) by simpa using blk_set HNE.out 0 (.int .i64 y0)) (by decide) hgCw 1 (.int .i64 y1))
   generalize (wE.setCell ⟨gC, 0, none⟩ (.int .i64 y0)).setCell ⟨gC, 1, none⟩ (.int .i64 y1) = w6 at HX6 HM6 H126 HY6 HW6 ⊢
   clear hn0 hn1 hm0' hm1' HXE HME H12E HNE HWE
   obtain ⟨bx, hbx⟩ : ∃ b, decide (x0 < 0) = b := ⟨_, rfl⟩
   obtain ⟨by_, hby⟩ : ∃ b, decide (y0 < 0) = b := ⟨_, rfl⟩
   have HBX := Aside0.mk (show impl_Face_isBoundary.f x0 x1 = some bx by rw [← hbx]; rfl)
   have HBY := Aside0.mk (show impl_Face_isBoundary.f y0 y1 = some by_ by rw [← hby]; rfl)
   have HDX := Aside0.mk hbx
   have HDY := Aside0.mk hby
   clear hbx hby
   have HS14 := Aside0.mk (show w6.cell? ⟨gB, 0, none⟩ = some (.int .i64 x0) ∧ w6.cell? ⟨gB, 1, none⟩ = some (.int .i64 x1) ∧ w6.cell? ⟨gC, 0, none⟩ = some (.int .i64 y0) ∧ w6.cell? ⟨gC, 1, none⟩ = some (.int .i64 y1) from ⟨(blk_cell HX6.out 0).trans rfl, (blk_cell HX6.out 1).trans rfl, (blk_cell HY6.out 0).trans rfl, (blk_cell HY6.out 1).trans rfl⟩)
   go_wp2_with fail
   refine start_ (n := 5) (S := fun w' => w'.cell? ⟨gB, 0, none⟩ = some (.int .i64 x0) ∧ w'.cell? ⟨gB, 1, none⟩ = some (.int .i64 x1) ∧ w'.cell? ⟨gC, 0, none⟩ = some (.int .i64 y0) ∧ w'.cell? ⟨gC, 1, none⟩ = some (.int .i64 y1)) (ds := [4]) #[false, false, false, false, false] (by kernel_rfl) rfl rfl HS14.out (fun hHeld => ?_)
   have hb0_ := below_drew (ypy w6.heap.size w6)
   have HW7 := Aside0.mk (HW6.out.stays hb0_)
   have HX7 := Aside0.mk (blk_below HX6.out hb0_)
   have HM7 := Aside0.mk (blk_below HM6.out hb0_)
   have H127 := Aside0.mk (blk_below H126.out hb0_)
   have HY7 := Aside0.mk (blk_below HY6.out hb0_)
   clear HS14 HX6 HM6 H126 HY6 HW6 hb0_
   generalize w6.drew = w7_ at HX7 HM7 H127 HY7 HW7 hHeld ⊢
   refine take_ (i := 0) (N := some 90) (v := ?_) (a' := ?_) #[true, false, false, false, false] rfl rfl (by kernel_rfl) (fun _ _ _ h => h) (Or.inl ⟨by rfl, ?_⟩) hHeld ?_ ?_
   rotate_left
   next =>
    rintro w' ⟨s0, s1, s2, s3⟩
    go_simp
    with_reducible rfl
   rotate_left
   next =>
    simp only [Act.put, yay, yby, ycy, i64_w, i32_w]
    rfl
   refine take_ (i := 2) (N := some 92) (v := ?_) (a' := ?_) #[true, false, true, false, false] rfl rfl (by kernel_rfl) (fun _ _ _ h => h) (Or.inl ⟨by rfl, ?_⟩) hHeld ?_ ?_
   rotate_left
   next =>
    rintro w' ⟨s0, s1, s2, s3⟩
    go_simp
    with_reducible rfl
   rotate_left
   next =>
    simp only [Act.put, yay, yby, ycy, i64_w, i32_w]
    rfl
   refine one_ (i := 1) (N := some 91) #[true, true, true, false, false] rfl rfl (by kernel_rfl) (by decide) (fun K hK => ?_)
   refine goes_ Try.func40 (by kernel_rfl) rfl #[.agg #[.int .i64 x0, .int .i64 x1]] (by rfl) rfl rfl (by (try simp only [yiy, yjy, yky]); first | done | rfl) ?_
   refine (impl_Face_isBoundary.calls x0 x1 bx _ HBX.out).mono ?_
   rintro e w8 ⟨rfl, hb_⟩
   have HW8 := Aside0.mk (HW7.out.stays hb_)
   have HX8 := Aside0.mk (blk_below HX7.out hb_)
   have HM8 := Aside0.mk (blk_below HM7.out hb_)
   have H128 := Aside0.mk (blk_below H127.out hb_)
   have HY8 := Aside0.mk (blk_below HY7.out hb_)
   clear hb_ hHeld HX7 HM7 H127 HY7 HW7
   refine ⟨_, rfl, ?_⟩
   refine hK.out _ _ ⟨(blk_cell HX8.out 0).trans rfl, (blk_cell HX8.out 1).trans rfl, (blk_cell HY8.out 0).trans rfl, (blk_cell HY8.out 1).trans rfl⟩ (fun hHeld => ?_)
   clear hK K
   refine norm_ (a' := ?_) ?_ ?_
   rotate_left
   next =>
    show Act.put _ (some 91) _ = _
    simp only [Act.put, yay, yby, ycy, i64_w, i32_w]
    rfl
   refine one_ (i := 3) (N := some 93) #[true, true, true, true, false] rfl rfl (by kernel_rfl) (by decide) (fun K hK => ?_)
   refine goes_ Try.func40 (by kernel_rfl) rfl #[.agg #[.int .i64 y0, .int .i64 y1]] (by rfl) rfl rfl (by (try simp only [yiy, yjy, yky]); first | done | rfl) ?_
   refine (impl_Face_isBoundary.calls y0 y1 by_ _ HBY.out).mono ?_
   rintro e w9 ⟨rfl, hb_⟩
   have HW9 := Aside0.mk (HW8.out.stays hb_)
   have HX9 := Aside0.mk (blk_below HX8.out hb_)
   have HM9 := Aside0.mk (blk_below HM8.out hb_)
   have H129 := Aside0.mk (blk_below H128.out hb_)
   have HY9 := Aside0.mk (blk_below HY8.out hb_)
   clear hb_ hHeld HX8 HM8 H128 HY8 HW8
   refine ⟨_, rfl, ?_⟩
   refine hK.out _ _ ⟨(blk_cell HX9.out 0).trans rfl, (blk_cell HX9.out 1).trans rfl, (blk_cell HY9.out 0).trans rfl, (blk_cell HY9.out 1).trans rfl⟩ (fun hHeld => ?_)
   clear hK K
   refine norm_ (a' := ?_) ?_ ?_
   rotate_left
   next =>
    show Act.put _ (some 93) _ = _
    simp only [Act.put, yay, yby, ycy, i64_w, i32_w]
    rfl
   refine pure_ (i := 4) (N := some 94) (v := ?_) (a' := ?_) #[true, true, true, true, true] rfl rfl (by kernel_rfl) (fun _ _ _ h => h) (Or.inl ⟨by rfl, ?_⟩) ?_ ?_
   rotate_left
   next =>
    rintro w'
    go_simp
    with_reducible rfl
   rotate_left
   next =>
    simp only [Act.put, yay, yby, ycy, i64_w, i32_w]
    rfl
   refine done_ (by kernel_rfl) ?_
   clear hHeld
   have hcb0 : w9.cell? ⟨gB, 0, none⟩ = some (.int .i64 x0) := (blk_cell HX9.out 0).trans rfl
   have hcb1 : w9.cell? ⟨gB, 1, none⟩ = some (.int .i64 x1) := (blk_cell HX9.out 1).trans rfl
   cases bx with
   | true =>
    have hxz : x0 < 0 := of_decide_eq_true HDX.out
    cases by_ with
    | true =>
     have hyz : y0 < 0 := of_decide_eq_true HDY.out
     have HNX := Aside0.mk (show ((spRow la lb c p (4 - (f + 1)) ((f + 1 : Nat) : Int) s2).map (spGo la lb (n - i) (i + 1))).getD false = r by
      have h := HSP.out
      rw [show spAt p ⟨x0, x1⟩ ⟨y0, y1⟩ s2 = some s2 by
       unfold spAt
       rw [if_pos hxz, if_pos hyz], yfy] at h
      exact h)
     clear HSP
     go_wp2_with fail
     refine (impl_Face_isBoundary.calls x0 x1 true _ HBX.out).mono ?_
     rintro e wa ⟨rfl, hb_⟩
     have HWa := Aside0.mk (HW9.out.stays hb_)
     have HXa := Aside0.mk (blk_below HX9.out hb_)
     have HMa := Aside0.mk (blk_below HM9.out hb_)
     have H12a := Aside0.mk (blk_below H129.out hb_)
     have HYa := Aside0.mk (blk_below HY9.out hb_)
     clear hb_ hcb0 hcb1 HW9 HX9 HM9 H129 HY9
     go_wp2
     go_roundg (4 - (f + 1))
     case measure => omega
     case rel => exact ⟨f + 1, s2, by omega, by omega, by (try simp only [i64_w]); (first | rfl | rw [show wrap64 ((f : Int) + 1) = ((f + 1 : Nat) : Int) by unfold wrap64; omega]), HWa, HOK, ⟨HINC.out.1, HINC.out.2, HNX.out⟩, H12a⟩
    | false =>
     have hyz : ¬ y0 < 0 := of_decide_eq_false HDY.out
     have hrf : false = r := by
      have h := HSP.out
      rw [show spAt p ⟨x0, x1⟩ ⟨y0, y1⟩ s2 = none by
       unfold spAt
       rw [if_pos hxz, if_neg hyz], Option.bind_none] at h
      exact h
     subst hrf
     clear HSP
     go_wp2
     go_ret
     exact ⟨rfl, HEN.out _ _ _ HW9.out⟩
   | false =>
    have hxz : ¬ x0 < 0 := of_decide_eq_false HDX.out
    cases by_ with
    | true =>
     have hyz : y0 < 0 := of_decide_eq_true HDY.out
     have hrf : false = r := by
      have h := HSP.out
      rw [show spAt p ⟨x0, x1⟩ ⟨y0, y1⟩ s2 = none by
       unfold spAt
       rw [if_neg hxz, if_pos hyz], Option.bind_none] at h
      exact h
     subst hrf
     clear HSP
     go_wp2
     go_ret
     exact ⟨rfl, HEN.out _ _ _ HW9.out⟩
    | false =>
     have hyz : ¬ y0 < 0 := of_decide_eq_false HDY.out
     go_wp2_with fail
     refine (impl_Face_isBoundary.calls x0 x1 false _ HBX.out).mono ?_
     rintro e wa ⟨rfl, hb_⟩
     have HWa := Aside0.mk (HW9.out.stays hb_)
     have HXa := Aside0.mk (blk_below HX9.out hb_)
     have HMa := Aside0.mk (blk_below HM9.out hb_)
     have H12a := Aside0.mk (blk_below H129.out hb_)
     have HYa := Aside0.mk (blk_below HY9.out hb_)
     clear hb_ hcb0 hcb1 HW9 HX9 HM9 H129 HY9
     obtain ⟨hx6, hx7, hx8⟩ := HTX.out (show (0 : Int) ≤ x0 by omega)
     obtain ⟨hy6, hy7, hy8⟩ := HTY.out (show (0 : Int) ≤ y0 by omega)
     have hx9 : 0 ≤ x0 := by omega
     have hy9 : 0 ≤ y0 := by omega
     obtain ⟨hi0, hi1⟩ := invP_bd' hx7 hx8
     obtain ⟨hq0, hq1⟩ := compP_bd hi0 hi1 hp0 hp1
     have HQA := Aside0.mk (show impl_invert.f x1 = some (invP x1) from if_pos ⟨hx7, hx8⟩)
     have HQB := Aside0.mk (show impl_compose.f (invP x1) p = some (compP (invP x1) p) from if_pos ⟨hi0, hi1, hp0, hp1⟩)
     have HQC := Aside0.mk (show impl_compose.f (compP (invP x1) p) y1 = some (compP (compP (invP x1) p) y1) from if_pos ⟨hq0, hq1, hy7, hy8⟩)
     have HQR := Aside0.mk (spQ_bd (p := p) (x := ⟨x0, x1⟩) (y := ⟨y0, y1⟩) hp0 hp1 hx7 hx8 hy7 hy8)
     obtain ⟨qn, hqe⟩ : ∃ q, compP (compP (invP x1) p) y1 = q := ⟨_, rfl⟩
     have hqe2 : spQ p ⟨x0, x1⟩ ⟨y0, y1⟩ = qn := hqe
     rw [hqe] at HQC
     rw [hqe2] at HQR
     have HQE := Aside0.mk hqe2
     clear hqe hqe2
     generalize invP x1 = ix at *
     generalize compP ix p = cx2 at *
     have HS17 := Aside0.mk (show wa.cell? ⟨gB, 1, none⟩ = some (.int .i64 x1) ∧ wa.cell? ⟨gm, 3, none⟩ = some (.slice (some ⟨gy, 0, none⟩) n cy) ∧ wa.cell? ⟨gy, c.toNat, none⟩ = some (.int .i64 p) ∧ wa.cell? ⟨gC, 1, none⟩ = some (.int .i64 y1) from ⟨(blk_cell HXa.out 1).trans rfl, (blk_cell HMa.out 3).trans rfl, (HWa.out.atY hc0 hc1 HINC.out.2).1, (blk_cell HYa.out 1).trans rfl⟩)
     go_wp2_with fail
     refine start_ (n := 15) (S := fun w' => w'.cell? ⟨gB, 1, none⟩ = some (.int .i64 x1) ∧ w'.cell? ⟨gm, 3, none⟩ = some (.slice (some ⟨gy, 0, none⟩) n cy) ∧ w'.cell? ⟨gy, c.toNat, none⟩ = some (.int .i64 p) ∧ w'.cell? ⟨gC, 1, none⟩ = some (.int .i64 y1)) (ds := [14]) #[false, false, false, false, false, false, false, false, false, false, false, false, false, false, false] (by kernel_rfl) rfl rfl HS17.out (fun hHeld => ?_)
     have hb0_ := below_drew (ypy wa.heap.size wa)
     have HWb := Aside0.mk (HWa.out.stays hb0_)
     have HXb := Aside0.mk (blk_below HXa.out hb0_)
     have HMb := Aside0.mk (blk_below HMa.out hb0_)
     have H12b := Aside0.mk (blk_below H12a.out hb0_)
     have HYb := Aside0.mk (blk_below HYa.out hb0_)
     clear HWa HXa HMa H12a HYa
     clear HS17 hb0_
     generalize wa.drew = wb at HWb HXb HMb H12b HYb hHeld ⊢
     refine pure_ (i := 0) (N := some 97) (v := ?_) (a' := ?_) #[true, false, false, false, false, false, false, false, false, false, false, false, false, false, false] rfl rfl (by kernel_rfl) (fun _ _ _ h => h) (Or.inl ⟨by rfl, ?_⟩) ?_ ?_
     rotate_left
     next =>
      rintro w'
      go_simp
      with_reducible rfl
     rotate_left
     next =>
      simp only [Act.put, yay, yby, ycy, i64_w, i32_w]
      rfl
     refine take_ (i := 1) (N := some 98) (v := ?_) (a' := ?_) #[true, true, false, false, false, false, false, false, false, false, false, false, false, false, false] rfl rfl (by kernel_rfl) (fun _ _ _ h => h) (Or.inl ⟨by rfl, ?_⟩) hHeld ?_ ?_
     rotate_left
     next =>
      rintro w' ⟨s0, s1, s2, s3⟩
      go_simp
      with_reducible rfl
     rotate_left
     next =>
      simp only [Act.put, yay, yby, ycy, i64_w, i32_w]
      rfl
     refine pure_ (i := 3) (N := some 100) (v := ?_) (a' := ?_) #[true, true, false, true, false, false, false, false, false, false, false, false, false, false, false] rfl rfl (by kernel_rfl) (fun _ _ _ h => h) (Or.inl ⟨by rfl, ?_⟩) ?_ ?_
     rotate_left
     next =>
      rintro w'
      go_simp
      with_reducible rfl
     rotate_left
     next =>
      simp only [Act.put, yay, yby, ycy, i64_w, i32_w]
      rfl
     refine pure_ (i := 4) (N := some 101) (v := ?_) (a' := ?_) #[true, true, false, true, true, false, false, false, false, false, false, false, false, false, false] rfl rfl (by kernel_rfl) (fun _ _ _ h => h) (Or.inl ⟨by rfl, ?_⟩) ?_ ?_
     rotate_left
     next =>
      rintro w'
      go_simp
      with_reducible rfl
     rotate_left
     next =>
      simp only [Act.put, yay, yby, ycy, i64_w, i32_w]
      rfl
     refine pure_ (i := 5) (N := some 102) (v := ?_) (a' := ?_) #[true, true, false, true, true, true, false, false, false, false, false, false, false, false, false] rfl rfl (by kernel_rfl) (fun _ _ _ h => h) (Or.inl ⟨by rfl, ?_⟩) ?_ ?_
     rotate_left
     next =>
      rintro w'
      go_simp
      with_reducible rfl
     rotate_left
     next =>
      simp only [Act.put, yay, yby, ycy, i64_w, i32_w]
      rfl
     refine take_ (i := 6) (N := some 103) (v := ?_) (a' := ?_) #[true, true, false, true, true, true, true, false, false, false, false, false, false, false, false] rfl rfl (by kernel_rfl) (fun _ _ _ h => h) (Or.inl ⟨by rfl, ?_⟩) hHeld ?_ ?_
     rotate_left
     next =>
      rintro w' ⟨s0, s1, s2, s3⟩
      go_simp
      with_reducible rfl
     rotate_left
     next =>
      simp only [Act.put, yay, yby, ycy, i64_w, i32_w]
      rfl
     refine pure_ (i := 7) (N := some 104) (v := ?_) (a' := ?_) #[true, true, false, true, true, true, true, true, false, false, false, false, false, false, false] rfl rfl (by kernel_rfl) (fun _ _ _ h => h) (Or.inl ⟨by rfl, ?_⟩) ?_ ?_
     rotate_left
     next =>
      rintro w'
      go_simp
      with_reducible rfl
     rotate_left
     next =>
      simp only [Act.put, yay, yby, ycy, i64_w, i32_w]
      rfl
     refine pure_ (i := 8) (N := some 105) (v := ?_) (a' := ?_) #[true, true, false, true, true, true, true, true, true, false, false, false, false, false, false] rfl rfl (by kernel_rfl) (fun _ _ _ h => h) (Or.inl ⟨by rfl, ?_⟩) ?_ ?_
     rotate_left
     next =>
      rintro w'
      go_simp
      with_reducible rfl
     rotate_left
     next =>
      simp only [Act.put, yay, yby, ycy, i64_w, i32_w]
      rfl
     refine take_ (i := 9) (N := some 106) (v := ?_) (a' := ?_) #[true, true, false, true, true, true, true, true, true, true, false, false, false, false, false] rfl rfl (by kernel_rfl) (fun _ _ _ h => h) (Or.inl ⟨by rfl, ?_⟩) hHeld ?_ ?_
     rotate_left
     next =>
      rintro w' ⟨s0, s1, s2, s3⟩
      go_simp
      with_reducible rfl
     rotate_left
     next =>
      simp only [Act.put, yay, yby, ycy, i64_w, i32_w]
      rfl
     refine pure_ (i := 11) (N := some 108) (v := ?_) (a' := ?_) #[true, true, false, true, true, true, true, true, true, true, false, true, false, false, false] rfl rfl (by kernel_rfl) (fun _ _ _ h => h) (Or.inl ⟨by rfl, ?_⟩) ?_ ?_
     rotate_left
     next =>
      rintro w'
      go_simp
      with_reducible rfl
     rotate_left
     next =>
      simp only [Act.put, yay, yby, ycy, i64_w, i32_w]
      rfl
     refine take_ (i := 12) (N := some 109) (v := ?_) (a' := ?_) #[true, true, false, true, true, true, true, true, true, true, false, true, true, false, false] rfl rfl (by kernel_rfl) (fun _ _ _ h => h) (Or.inl ⟨by rfl, ?_⟩) hHeld ?_ ?_
     rotate_left
     next =>
      rintro w' ⟨s0, s1, s2, s3⟩
      go_simp
      with_reducible rfl
     rotate_left
     next =>
      simp only [Act.put, yay, yby, ycy, i64_w, i32_w]
      rfl
     refine one_ (i := 2) (N := some 99) #[true, true, true, true, true, true, true, true, true, true, false, true, true, false, false] rfl rfl (by kernel_rfl) (by decide) (fun K hK => ?_)
     refine goes_ Try.func62 (by kernel_rfl) rfl #[.int .i64 x1] (by rfl) rfl rfl (by (try simp only [yiy, yjy, yky]); first | done | rfl) ?_
     refine (impl_invert.calls x1 ix _ HQA.out).mono ?_
     rintro e wc ⟨rfl, hb_⟩
     have HWc := Aside0.mk (HWb.out.stays hb_)
     have HXc := Aside0.mk (blk_below HXb.out hb_)
     have HMc := Aside0.mk (blk_below HMb.out hb_)
     have H12c := Aside0.mk (blk_below H12b.out hb_)
     have HYc := Aside0.mk (blk_below HYb.out hb_)
     clear HWb HXb HMb H12b HYb
     have hHe := Aside0.mk (show wc.cell? ⟨gB, 1, none⟩ = some (.int .i64 x1) ∧ wc.cell? ⟨gm, 3, none⟩ = some (.slice (some ⟨gy, 0, none⟩) n cy) ∧ wc.cell? ⟨gy, c.toNat, none⟩ = some (.int .i64 p) ∧ wc.cell? ⟨gC, 1, none⟩ = some (.int .i64 y1) from ⟨(hb_.cell (yny wb _ hHeld.1)).trans hHeld.1, (hb_.cell (yny wb _ hHeld.2.1)).trans hHeld.2.1, (hb_.cell (yny wb _ hHeld.2.2.1)).trans hHeld.2.2.1, (hb_.cell (yny wb _ hHeld.2.2.2)).trans hHeld.2.2.2⟩)
     clear hb_ hHeld
     refine ⟨_, rfl, ?_⟩
     refine hK.out _ _ hHe.out (fun hHeld => ?_)
     clear hK K
     refine norm_ (a' := ?_) ?_ ?_
     rotate_left
     next =>
      show Act.put _ (some 99) _ = _
      simp only [Act.put, yay, yby, ycy, i64_w, i32_w]
      rfl
     clear hHe
     refine one_ (i := 10) (N := some 107) #[true, true, true, true, true, true, true, true, true, true, true, true, true, false, false] rfl rfl (by kernel_rfl) (by decide) (fun K hK => ?_)
     refine goes_ Try.func61 (by kernel_rfl) rfl #[.int .i64 ix, .int .i64 p] (by rfl) rfl rfl (by (try simp only [yiy, yjy, yky]); first | done | rfl) ?_
     refine (impl_compose.calls ix p cx2 _ HQB.out).mono ?_
     rintro e wd ⟨rfl, hb_⟩
     have HWd := Aside0.mk (HWc.out.stays hb_)
     have HXd := Aside0.mk (blk_below HXc.out hb_)
     have HMd := Aside0.mk (blk_below HMc.out hb_)
     have H12d := Aside0.mk (blk_below H12c.out hb_)
     have HYd := Aside0.mk (blk_below HYc.out hb_)
     clear HWc HXc HMc H12c HYc
     have hHe := Aside0.mk (show wd.cell? ⟨gB, 1, none⟩ = some (.int .i64 x1) ∧ wd.cell? ⟨gm, 3, none⟩ = some (.slice (some ⟨gy, 0, none⟩) n cy) ∧ wd.cell? ⟨gy, c.toNat, none⟩ = some (.int .i64 p) ∧ wd.cell? ⟨gC, 1, none⟩ = some (.int .i64 y1) from ⟨(hb_.cell (yny wc _ hHeld.1)).trans hHeld.1, (hb_.cell (yny wc _ hHeld.2.1)).trans hHeld.2.1, (hb_.cell (yny wc _ hHeld.2.2.1)).trans hHeld.2.2.1, (hb_.cell (yny wc _ hHeld.2.2.2)).trans hHeld.2.2.2⟩)
     clear hb_ hHeld
     refine ⟨_, rfl, ?_⟩
     refine hK.out _ _ hHe.out (fun hHeld => ?_)
     clear hK K
     refine norm_ (a' := ?_) ?_ ?_
     rotate_left
     next =>
      show Act.put _ (some 107) _ = _
      simp only [Act.put, yay, yby, ycy, i64_w, i32_w]
      rfl
     clear hHe
     refine one_ (i := 13) (N := some 110) #[true, true, true, true, true, true, true, true, true, true, true, true, true, true, false] rfl rfl (by kernel_rfl) (by decide) (fun K hK => ?_)
     refine goes_ Try.func61 (by kernel_rfl) rfl #[.int .i64 cx2, .int .i64 y1] (by rfl) rfl rfl (by (try simp only [yiy, yjy, yky]); first | done | rfl) ?_
     refine (impl_compose.calls cx2 y1 qn _ HQC.out).mono ?_
     rintro e we ⟨rfl, hb_⟩
     have HWe := Aside0.mk (HWd.out.stays hb_)
     have HXe := Aside0.mk (blk_below HXd.out hb_)
     have HMe := Aside0.mk (blk_below HMd.out hb_)
     have H12e := Aside0.mk (blk_below H12d.out hb_)
     have HYe := Aside0.mk (blk_below HYd.out hb_)
     clear HWd HXd HMd H12d HYd
     have hHe := Aside0.mk (show we.cell? ⟨gB, 1, none⟩ = some (.int .i64 x1) ∧ we.cell? ⟨gm, 3, none⟩ = some (.slice (some ⟨gy, 0, none⟩) n cy) ∧ we.cell? ⟨gy, c.toNat, none⟩ = some (.int .i64 p) ∧ we.cell? ⟨gC, 1, none⟩ = some (.int .i64 y1) from ⟨(hb_.cell (yny wd _ hHeld.1)).trans hHeld.1, (hb_.cell (yny wd _ hHeld.2.1)).trans hHeld.2.1, (hb_.cell (yny wd _ hHeld.2.2.1)).trans hHeld.2.2.1, (hb_.cell (yny wd _ hHeld.2.2.2)).trans hHeld.2.2.2⟩)
     clear hb_ hHeld
     refine ⟨_, rfl, ?_⟩
     refine hK.out _ _ hHe.out (fun hHeld => ?_)
     clear hK K
     refine norm_ (a' := ?_) ?_ ?_
     rotate_left
     next =>
      show Act.put _ (some 110) _ = _
      simp only [Act.put, yay, yby, ycy, i64_w, i32_w]
      rfl
     clear hHe
     refine pure_ (i := 14) (N := some 16) (v := ?_) (a' := ?_) #[true, true, true, true, true, true, true, true, true, true, true, true, true, true, true] rfl rfl (by kernel_rfl) (fun _ _ _ h => h) (Or.inl ⟨by rfl, ?_⟩) ?_ ?_
     rotate_left
     next =>
      rintro w'
      go_simp
      with_reducible rfl
     rotate_left
     next =>
      simp only [Act.put, yay, yby, ycy, i64_w, i32_w]
      rfl
     refine done_ (by kernel_rfl) ?_
     clear hHeld
     have he0 : we.cell? ⟨gB, 0, none⟩ = some (.int .i64 x0) := (blk_cell HXe.out 0).trans rfl
     have he1 : we.cell? ⟨gC, 0, none⟩ = some (.int .i64 y0) := (blk_cell HYe.out 0).trans rfl
     have he2 : we.cell? ⟨gm, 2, none⟩ = some (.slice (some ⟨gx, 0, none⟩) n cx) := (blk_cell HMe.out 2).trans rfl
     have he3 : we.cell? ⟨gm, 3, none⟩ = some (.slice (some ⟨gy, 0, none⟩) n cy) := (blk_cell HMe.out 3).trans rfl
     have he4 := (HWe.out.atX hx9 hx6 rfl).1
     have he5 := (HWe.out.atY hx9 hx6 rfl).1
     by_cases hneg : rd s2.X x0 < 0
     rotate_left
     next =>
      have hdn : decide (rd s2.X x0 < 0) = false := yhy hneg
      go_wp2
      go_quiet (fail)
      clear hdn
      have hb_ := pw_below_drewN (ypy we.heap.size we) nq
      have HWf := Aside0.mk (HWe.out.stays hb_)
      have HXf := Aside0.mk (blk_below HXe.out hb_)
      have HMf := Aside0.mk (blk_below HMe.out hb_)
      have H12f := Aside0.mk (blk_below H12e.out hb_)
      have HYf := Aside0.mk (blk_below HYe.out hb_)
      clear HWe HXe HMe H12e HYe
      clear hb_ he0 he1 he2 he3 he4 he5
      generalize we.drewN nq = wf at HWf HXf HMf H12f HYf ⊢
      have he0 : wf.cell? ⟨gB, 0, none⟩ = some (.int .i64 x0) := (blk_cell HXf.out 0).trans rfl
      have he1 : wf.cell? ⟨gC, 0, none⟩ = some (.int .i64 y0) := (blk_cell HYf.out 0).trans rfl
      have he2 : wf.cell? ⟨gm, 2, none⟩ = some (.slice (some ⟨gx, 0, none⟩) n cx) := (blk_cell HMf.out 2).trans rfl
      have he3 : wf.cell? ⟨gm, 3, none⟩ = some (.slice (some ⟨gy, 0, none⟩) n cy) := (blk_cell HMf.out 3).trans rfl
      have hxi0 : 0 ≤ rd s2.X x0 := by omega
      obtain ⟨vx, hvx⟩ : ∃ vx, rd s2.X x0 = vx := ⟨_, rfl⟩
      obtain ⟨vy, hvy⟩ : ∃ vy, rd s2.Y x0 = vy := ⟨_, rfl⟩
      have he4 := (HWf.out.atX hx9 hx6 hvx).1
      have he5 := (HWf.out.atY hx9 hx6 hvy).1
      rw [hvx] at hneg hxi0
      have HVX := Aside0.mk hvx
      have HVY := Aside0.mk hvy
      clear hvx hvy
      by_cases he : vx = y0 ∧ vy = qn
      next =>
       obtain ⟨he1_, he2_⟩ := he
       subst he1_
       subst he2_
       have HNX := Aside0.mk (show ((spRow la lb c p (4 - (f + 1)) ((f + 1 : Nat) : Int) s2).map (spGo la lb (n - i) (i + 1))).getD false = r by
        have h := HSP.out
        rw [show spAt p ⟨x0, x1⟩ ⟨vx, y1⟩ s2 = some s2 by
         unfold spAt
         rw [if_neg (show ¬ x0 < 0 by omega), if_neg (show ¬ vx < 0 by omega), if_neg (show ¬ rd s2.X x0 < 0 by rw [HVX.out]; omega), if_pos ⟨HVX.out, HVY.out.trans HQE.out.symm⟩], yfy] at h
        exact h)
       clear HSP
       go_wp2_with fail
       go_quiet (fail)
       go_wp2
       go_roundg (4 - (f + 1))
       case measure => omega
       case rel => exact ⟨f + 1, s2, by omega, by omega, by (try simp only [i64_w]); (first | rfl | rw [show wrap64 ((f : Int) + 1) = ((f + 1 : Nat) : Int) by unfold wrap64; omega]), ⟨by first | exact HWf.out | exact HWf.out.stays (pw_below_drewN (ypy _ _) _)⟩, HOK, ⟨HINC.out.1, HINC.out.2, HNX.out⟩, ⟨by first | exact H12f.out | exact blk_drewN H12f.out _⟩⟩
      next =>
       have hrf : false = r := by
        have h := HSP.out
        rw [show spAt p ⟨x0, x1⟩ ⟨y0, y1⟩ s2 = none by
         unfold spAt
         rw [if_neg (show ¬ x0 < 0 by omega), if_neg (show ¬ y0 < 0 by omega), if_neg (show ¬ rd s2.X x0 < 0 by rw [HVX.out]; omega), if_neg (fun e => he ⟨HVX.out.symm.trans e.1, HVY.out.symm.trans (e.2.trans HQE.out)⟩)], Option.bind_none] at h
        exact h
       subst hrf
       clear HSP
       by_cases he1_ : vx = y0
       rotate_left
       next =>
        have hd2 : (vx != y0) = true := bne_iff_ne.mpr he1_
        go_wp2_with fail
        go_quiet (fail)
        go_wp2
        go_ret
        exact ⟨rfl, by first | exact HEN.out _ _ _ HWf.out | exact HEN.out _ _ _ (HWf.out.stays (pw_below_drewN (ypy _ _) _))⟩
       have he2_ : ¬ vy = qn := fun e => he ⟨he1_, e⟩
       subst he1_
       have hd2 : (vy != qn) = true := bne_iff_ne.mpr he2_
       go_wp2_with fail
       go_quiet (fail)
       go_wp2
       go_ret
       exact ⟨rfl, by first | exact HEN.out _ _ _ HWf.out | exact HEN.out _ _ _ (HWf.out.stays (pw_below_drewN (ypy _ _) _))⟩
     go_wp2
     go_quiet (fail)
     have hb_ := pw_below_drewN (ypy we.heap.size we) nq
     have HWf := Aside0.mk (HWe.out.stays hb_)
     have HXf := Aside0.mk (blk_below HXe.out hb_)
     have HMf := Aside0.mk (blk_below HMe.out hb_)
     have H12f := Aside0.mk (blk_below H12e.out hb_)
     have HYf := Aside0.mk (blk_below HYe.out hb_)
     clear HWe HXe HMe H12e HYe
     clear hb_ he0 he1 he2 he3 he4 he5
     generalize we.drewN nq = wf at HWf HXf HMf H12f HYf ⊢
     have HS19 := Aside0.mk (show wf.cell? ⟨gm, 2, none⟩ = some (.slice (some ⟨gx, 0, none⟩) n cx) ∧ wf.cell? ⟨gC, 0, none⟩ = some (.int .i64 y0) from ⟨(blk_cell HMf.out 2).trans rfl, (blk_cell HYf.out 0).trans rfl⟩)
     go_wp2_with fail
     refine start_ (n := 7) (S := fun w' => w'.cell? ⟨gm, 2, none⟩ = some (.slice (some ⟨gx, 0, none⟩) n cx) ∧ w'.cell? ⟨gC, 0, none⟩ = some (.int .i64 y0)) (ds := [7]) #[false, false, false, false, false, false, false] (by kernel_rfl) rfl rfl HS19.out (fun hHeld => ?_)
     have hb_ := below_drew (ypy wf.heap.size wf)
     have HWg := Aside0.mk (HWf.out.stays hb_)
     have HXg := Aside0.mk (blk_below HXf.out hb_)
     have HMg := Aside0.mk (blk_below HMf.out hb_)
     have H12g := Aside0.mk (blk_below H12f.out hb_)
     have HYg := Aside0.mk (blk_below HYf.out hb_)
     clear HWf HXf HMf H12f HYf
     clear hb_ HS19
     generalize wf.drew = wg at HWg HXg HMg H12g HYg hHeld ⊢
     refine pure_ (i := 0) (N := some 121) (v := ?_) (a' := ?_) #[true, false, false, false, false, false, false] rfl rfl (by kernel_rfl) (fun _ _ _ h => h) (Or.inl ⟨by rfl, ?_⟩) ?_ ?_
     rotate_left
     next =>
      rintro w'
      go_simp
      with_reducible rfl
     rotate_left
     next =>
      simp only [Act.put, yay, yby, ycy, i64_w, i32_w]
      rfl
     refine pure_ (i := 1) (N := some 122) (v := ?_) (a' := ?_) #[true, true, false, false, false, false, false] rfl rfl (by kernel_rfl) (fun _ _ _ h => h) (Or.inl ⟨by rfl, ?_⟩) ?_ ?_
     rotate_left
     next =>
      rintro w'
      go_simp
      with_reducible rfl
     rotate_left
     next =>
      simp only [Act.put, yay, yby, ycy, i64_w, i32_w]
      rfl
     refine pure_ (i := 2) (N := some 123) (v := ?_) (a' := ?_) #[true, true, true, false, false, false, false] rfl rfl (by kernel_rfl) (fun _ _ _ h => h) (Or.inl ⟨by rfl, ?_⟩) ?_ ?_
     rotate_left
     next =>
      rintro w'
      go_simp
      with_reducible rfl
     rotate_left
     next =>
      simp only [Act.put, yay, yby, ycy, i64_w, i32_w]
      rfl
     refine take_ (i := 3) (N := some 124) (v := ?_) (a' := ?_) #[true, true, true, true, false, false, false] rfl rfl (by kernel_rfl) (fun _ _ _ h => h) (Or.inl ⟨by rfl, ?_⟩) hHeld ?_ ?_
     rotate_left
     next =>
      rintro w' ⟨s0, s1⟩
      go_simp
      with_reducible rfl
     rotate_left
     next =>
      simp only [Act.put, yay, yby, ycy, i64_w, i32_w]
      rfl
     refine pure_ (i := 4) (N := some 125) (v := ?_) (a' := ?_) #[true, true, true, true, true, false, false] rfl rfl (by kernel_rfl) (fun _ _ _ h => h) (Or.inl ⟨by rfl, ?_⟩) ?_ ?_
     rotate_left
     next =>
      rintro w'
      go_simp
      with_reducible rfl
     rotate_left
     next =>
      simp only [Act.put, yay, yby, ycy, i64_w, i32_w]
      rfl
     refine take_ (i := 5) (N := some 126) (v := ?_) (a' := ?_) #[true, true, true, true, true, true, false] rfl rfl (by kernel_rfl) (fun _ _ _ h => h) (Or.inl ⟨by rfl, ?_⟩) hHeld ?_ ?_
     rotate_left
     next =>
      rintro w' ⟨s0, s1⟩
      go_simp
      with_reducible rfl
     rotate_left
     next =>
      simp only [Act.put, yay, yby, ycy, i64_w, i32_w]
      rfl
     refine one_ (i := 6) (N := some 127) #[true, true, true, true, true, true, true] rfl rfl (by kernel_rfl) (by decide) (fun K hK => ?_)
     refine goes_ Try.func59 (by kernel_rfl) rfl #[.slice (some ⟨gx, 0, none⟩) n cx, .int .i64 y0] (by rfl) rfl rfl (by (try simp only [yiy, yjy, yky]); first | done | rfl) ?_
     by_cases hin : y0 ∈ s2.X
     next =>
      have hcall := slices_Contains_Sint64.calls 10 (some ⟨gx, 0, none⟩) cx s2.X y0 true wg (Kd.R_reads' HWg.out.rx).2.2 (by rw [HOK.out.lx]; exact (Kd.R_reads' HWg.out.rx).2.1) (by rw [con_eq y0 (by rw [HOK.out.lx]; exact hn), ygy hin])
      rw [HOK.out.lx] at hcall
      refine hcall.mono ?_
      rintro e wh ⟨rfl, hd⟩
      have hb_ := Drawn0.below hd
      have HWh := Aside0.mk (HWg.out.stays hb_)
      have HXh := Aside0.mk (blk_below HXg.out hb_)
      have HMh := Aside0.mk (blk_below HMg.out hb_)
      have H12h := Aside0.mk (blk_below H12g.out hb_)
      have HYh := Aside0.mk (blk_below HYg.out hb_)
      clear HWg HXg HMg H12g HYg
      have hHe := Aside0.mk (show wh.cell? ⟨gm, 2, none⟩ = some (.slice (some ⟨gx, 0, none⟩) n cx) ∧ wh.cell? ⟨gC, 0, none⟩ = some (.int .i64 y0) from ⟨(hb_.cell (yny wg _ hHeld.1)).trans hHeld.1, (hb_.cell (yny wg _ hHeld.2)).trans hHeld.2⟩)
      clear hb_ hd hHeld hcall
      refine ⟨_, rfl, ?_⟩
      refine hK.out _ _ hHe.out (fun hHeld => ?_)
      clear hK K
      refine norm_ (a' := ?_) ?_ ?_
      rotate_left
      next =>
       show Act.put _ (some 127) _ = _
       simp only [Act.put, yay, yby, ycy, i64_w, i32_w]
       rfl
      refine done_ (by kernel_rfl) ?_
      have hrf : false = r := by
       have h := HSP.out
       rw [show spAt p ⟨x0, x1⟩ ⟨y0, y1⟩ s2 = none by
        unfold spAt
        rw [if_neg (show ¬ x0 < 0 by omega), if_neg (show ¬ y0 < 0 by omega), if_pos hneg, if_pos hin], Option.bind_none] at h
       exact h
      subst hrf
      clear HSP
      go_wp2
      go_ret
      exact ⟨rfl, HEN.out _ _ _ HWh.out⟩
     next =>
      have hcall := slices_Contains_Sint64.calls 10 (some ⟨gx, 0, none⟩) cx s2.X y0 false wg (Kd.R_reads' HWg.out.rx).2.2 (by rw [HOK.out.lx]; exact (Kd.R_reads' HWg.out.rx).2.1) (by rw [con_eq y0 (by rw [HOK.out.lx]; exact hn), yhy hin])
      rw [HOK.out.lx] at hcall
      refine hcall.mono ?_
      rintro e wh ⟨rfl, hd⟩
      have hb_ := Drawn0.below hd
      have HWh := Aside0.mk (HWg.out.stays hb_)
      have HXh := Aside0.mk (blk_below HXg.out hb_)
      have HMh := Aside0.mk (blk_below HMg.out hb_)
      have H12h := Aside0.mk (blk_below H12g.out hb_)
      have HYh := Aside0.mk (blk_below HYg.out hb_)
      clear HWg HXg HMg H12g HYg
      have hHe := Aside0.mk (show wh.cell? ⟨gm, 2, none⟩ = some (.slice (some ⟨gx, 0, none⟩) n cx) ∧ wh.cell? ⟨gC, 0, none⟩ = some (.int .i64 y0) from ⟨(hb_.cell (yny wg _ hHeld.1)).trans hHeld.1, (hb_.cell (yny wg _ hHeld.2)).trans hHeld.2⟩)
      clear hb_ hd hHeld hcall
      refine ⟨_, rfl, ?_⟩
      refine hK.out _ _ hHe.out (fun hHeld => ?_)
      clear hK K
      refine norm_ (a' := ?_) ?_ ?_
      rotate_left
      next =>
       show Act.put _ (some 127) _ = _
       simp only [Act.put, yay, yby, ycy, i64_w, i32_w]
       rfl
      refine done_ (by kernel_rfl) ?_
      clear hHeld hHe
      have hs3 : spAt p ⟨x0, x1⟩ ⟨y0, y1⟩ s2 = some ⟨s2.X.set x0.toNat y0, s2.Y.set x0.toNat qn, s2.L ++ [x0]⟩ := by
       unfold spAt
       rw [if_neg (show ¬ x0 < 0 by omega), if_neg (show ¬ y0 < 0 by omega), if_pos hneg, if_neg hin, HQE.out]
      have HNX := Aside0.mk (show ((spRow la lb c p (4 - (f + 1)) ((f + 1 : Nat) : Int) ⟨s2.X.set x0.toNat y0, s2.Y.set x0.toNat qn, s2.L ++ [x0]⟩).map (spGo la lb (n - i) (i + 1))).getD false = r by
       have h := HSP.out
       rw [hs3, yfy] at h
       exact h)
      obtain ⟨k1, k2, k3⟩ := spAt_ok HOK.out hp0 hp1 (x := ⟨x0, x1⟩) (y := ⟨y0, y1⟩) (fun _ => ⟨hx6, hx7, hx8⟩) (fun _ => ⟨hy6, hy7, hy8⟩) hc0 hc1 HINC.out.1 hs3
      have HK1 := Aside0.mk k1
      have HINC3 := Aside0.mk (show 0 ≤ rd (s2.X.set x0.toNat y0) c ∧ rd (s2.Y.set x0.toNat qn) c = p from ⟨Int.le_trans HINC.out.1 (Int.le_of_eq k2.symm), k3.trans HINC.out.2⟩)
      clear hs3 k1 k2 k3 HSP
      have hgBx : gB ≠ gx := by have := HGB.out; omega
      have hgBy : gB ≠ gy := by have := HGB.out; omega
      have hgCx : gC ≠ gx := by omega
      have hgCy : gC ≠ gy := by omega
      have hg12w : w.heap.size ≤ g12 := HG12.out
      have hg12x : g12 ≠ gx := by omega
      have hg12y : g12 ≠ gy := by omega
      have hxl : x0 < (s2.X.length : Int) := by rw [HOK.out.lx]; exact hx6
      have hyl : x0 < (s2.Y.length : Int) := by rw [HOK.out.ly]; exact hx6
      have HS21 := Aside0.mk (show wh.cell? ⟨gm, 2, none⟩ = some (.slice (some ⟨gx, 0, none⟩) n cx) ∧ wh.cell? ⟨gm, 3, none⟩ = some (.slice (some ⟨gy, 0, none⟩) n cy) ∧ wh.cell? ⟨gB, 0, none⟩ = some (.int .i64 x0) ∧ wh.cell? ⟨gC, 0, none⟩ = some (.int .i64 y0) from ⟨(blk_cell HMh.out 2).trans rfl, (blk_cell HMh.out 3).trans rfl, (blk_cell HXh.out 0).trans rfl, (blk_cell HYh.out 0).trans rfl⟩)
      go_wp2_with fail
      refine start_ (n := 19) (S := fun w' => w'.cell? ⟨gm, 2, none⟩ = some (.slice (some ⟨gx, 0, none⟩) n cx) ∧ w'.cell? ⟨gm, 3, none⟩ = some (.slice (some ⟨gy, 0, none⟩) n cy) ∧ w'.cell? ⟨gB, 0, none⟩ = some (.int .i64 x0) ∧ w'.cell? ⟨gC, 0, none⟩ = some (.int .i64 y0)) (ds := [18]) #[false, false, false, false, false, false, false, false, false, false, false, false, false, false, false, false, false, false, false] (by kernel_rfl) rfl rfl HS21.out (fun hHeld => ?_)
      have hb_ := below_drew (ypy wh.heap.size wh)
      have HWi := Aside0.mk (HWh.out.stays hb_)
      have HXi := Aside0.mk (blk_below HXh.out hb_)
      have HMi := Aside0.mk (blk_below HMh.out hb_)
      have H12i := Aside0.mk (blk_below H12h.out hb_)
      have HYi := Aside0.mk (blk_below HYh.out hb_)
      clear HWh HXh HMh H12h HYh
      clear hb_ HS21
      generalize wh.drew = wi at HWi HXi HMi H12i HYi hHeld ⊢
      refine pure_ (i := 0) (N := some 128) (v := ?_) (a' := ?_) #[true, false, false, false, false, false, false, false, false, false, false, false, false, false, false, false, false, false, false] rfl rfl (by kernel_rfl) (fun _ _ _ h => h) (Or.inl ⟨by rfl, ?_⟩) ?_ ?_
      rotate_left
      next =>
       rintro w'
       go_simp
       with_reducible rfl
      rotate_left
      next =>
       simp only [Act.put, yay, yby, ycy, i64_w, i32_w]
       rfl
      refine pure_ (i := 1) (N := some 129) (v := ?_) (a' := ?_) #[true, true, false, false, false, false, false, false, false, false, false, false, false, false, false, false, false, false, false] rfl rfl (by kernel_rfl) (fun _ _ _ h => h) (Or.inl ⟨by rfl, ?_⟩) ?_ ?_
      rotate_left
      next =>
       rintro w'
       go_simp
       with_reducible rfl
      rotate_left
      next =>
       simp only [Act.put, yay, yby, ycy, i64_w, i32_w]
       rfl
      refine pure_ (i := 2) (N := some 130) (v := ?_) (a' := ?_) #[true, true, true, false, false, false, false, false, false, false, false, false, false, false, false, false, false, false, false] rfl rfl (by kernel_rfl) (fun _ _ _ h => h) (Or.inl ⟨by rfl, ?_⟩) ?_ ?_
      rotate_left
      next =>
       rintro w'
       go_simp
       with_reducible rfl
      rotate_left
      next =>
       simp only [Act.put, yay, yby, ycy, i64_w, i32_w]
       rfl
      refine take_ (i := 3) (N := some 131) (v := ?_) (a' := ?_) #[true, true, true, true, false, false, false, false, false, false, false, false, false, false, false, false, false, false, false] rfl rfl (by kernel_rfl) (fun _ _ _ h => h) (Or.inl ⟨by rfl, ?_⟩) hHeld ?_ ?_
      rotate_left
      next =>
       rintro w' ⟨s0, s1, s2, s3⟩
       go_simp
       with_reducible rfl
      rotate_left
      next =>
       simp only [Act.put, yay, yby, ycy, i64_w, i32_w]
       rfl
      refine pure_ (i := 4) (N := some 132) (v := ?_) (a' := ?_) #[true, true, true, true, true, false, false, false, false, false, false, false, false, false, false, false, false, false, false] rfl rfl (by kernel_rfl) (fun _ _ _ h => h) (Or.inl ⟨by rfl, ?_⟩) ?_ ?_
      rotate_left
      next =>
       rintro w'
       go_simp
       with_reducible rfl
      rotate_left
      next =>
       simp only [Act.put, yay, yby, ycy, i64_w, i32_w]
       rfl
      refine take_ (i := 5) (N := some 133) (v := ?_) (a' := ?_) #[true, true, true, true, true, true, false, false, false, false, false, false, false, false, false, false, false, false, false] rfl rfl (by kernel_rfl) (fun _ _ _ h => h) (Or.inl ⟨by rfl, ?_⟩) hHeld ?_ ?_
      rotate_left
      next =>
       rintro w' ⟨s0, s1, s2, s3⟩
       go_simp
       with_reducible rfl
      rotate_left
      next =>
       simp only [Act.put, yay, yby, ycy, i64_w, i32_w]
       rfl
      refine pure_ (i := 6) (N := some 134) (v := ?_) (a' := ?_) #[true, true, true, true, true, true, true, false, false, false, false, false, false, false, false, false, false, false, false] rfl rfl (by kernel_rfl) (fun _ _ _ h => h) (Or.inl ⟨by rfl, ?_⟩) ?_ ?_
      rotate_left
      next =>
       rintro w'
       go_simp
       with_reducible rfl
      rotate_left
      next =>
       simp only [Act.put, yay, yby, ycy, i64_w, i32_w]
       rfl
      refine pure_ (i := 7) (N := some 135) (v := ?_) (a' := ?_) #[true, true, true, true, true, true, true, true, false, false, false, false, false, false, false, false, false, false, false] rfl rfl (by kernel_rfl) (fun _ _ _ h => h) (Or.inl ⟨by rfl, ?_⟩) ?_ ?_
      rotate_left
      next =>
       rintro w'
       go_simp
       with_reducible rfl
      rotate_left
      next =>
       simp only [Act.put, yay, yby, ycy, i64_w, i32_w]
       rfl
      refine pure_ (i := 8) (N := some 136) (v := ?_) (a' := ?_) #[true, true, true, true, true, true, true, true, true, false, false, false, false, false, false, false, false, false, false] rfl rfl (by kernel_rfl) (fun _ _ _ h => h) (Or.inl ⟨by rfl, ?_⟩) ?_ ?_
      rotate_left
      next =>
       rintro w'
       go_simp
       with_reducible rfl
      rotate_left
      next =>
       simp only [Act.put, yay, yby, ycy, i64_w, i32_w]
       rfl
      refine take_ (i := 9) (N := some 137) (v := ?_) (a' := ?_) #[true, true, true, true, true, true, true, true, true, true, false, false, false, false, false, false, false, false, false] rfl rfl (by kernel_rfl) (fun _ _ _ h => h) (Or.inl ⟨by rfl, ?_⟩) hHeld ?_ ?_
      rotate_left
      next =>
       rintro w' ⟨s0, s1, s2, s3⟩
       go_simp
       with_reducible rfl
      rotate_left
      next =>
       simp only [Act.put, yay, yby, ycy, i64_w, i32_w]
       rfl
      refine pure_ (i := 10) (N := some 138) (v := ?_) (a' := ?_) #[true, true, true, true, true, true, true, true, true, true, true, false, false, false, false, false, false, false, false] rfl rfl (by kernel_rfl) (fun _ _ _ h => h) (Or.inl ⟨by rfl, ?_⟩) ?_ ?_
      rotate_left
      next =>
       rintro w'
       go_simp
       with_reducible rfl
      rotate_left
      next =>
       simp only [Act.put, yay, yby, ycy, i64_w, i32_w]
       rfl
      refine take_ (i := 11) (N := some 139) (v := ?_) (a' := ?_) #[true, true, true, true, true, true, true, true, true, true, true, true, false, false, false, false, false, false, false] rfl rfl (by kernel_rfl) (fun _ _ _ h => h) (Or.inl ⟨by rfl, ?_⟩) hHeld ?_ ?_
      rotate_left
      next =>
       rintro w' ⟨s0, s1, s2, s3⟩
       go_simp
       with_reducible rfl
      rotate_left
      next =>
       simp only [Act.put, yay, yby, ycy, i64_w, i32_w]
       rfl
      refine pure_ (i := 12) (N := some 140) (v := ?_) (a' := ?_) #[true, true, true, true, true, true, true, true, true, true, true, true, true, false, false, false, false, false, false] rfl rfl (by kernel_rfl) (fun _ _ _ h => h) (Or.inl ⟨by rfl, ?_⟩) ?_ ?_
      rotate_left
      next =>
       rintro w'
       go_simp
       with_reducible rfl
      rotate_left
      next =>
       simp only [Act.put, yay, yby, ycy, i64_w, i32_w]
       rfl
      refine take_ (i := 13) (N := some 141) (v := ?_) (a' := ?_) #[true, true, true, true, true, true, true, true, true, true, true, true, true, true, false, false, false, false, false] rfl rfl (by kernel_rfl) (fun _ _ _ h => h) (Or.inl ⟨by rfl, ?_⟩) hHeld ?_ ?_
      rotate_left
      next =>
       rintro w' ⟨s0, s1, s2, s3⟩
       go_simp
       with_reducible rfl
      rotate_left
      next =>
       simp only [Act.put, yay, yby, ycy, i64_w, i32_w]
       rfl
      refine pure_ (i := 14) (N := some 142) (v := ?_) (a' := ?_) #[true, true, true, true, true, true, true, true, true, true, true, true, true, true, true, false, false, false, false] rfl rfl (by kernel_rfl) (fun _ _ _ h => h) (Or.inl ⟨by rfl, ?_⟩) ?_ ?_
      rotate_left
      next =>
       rintro w'
       go_simp
       with_reducible rfl
      rotate_left
      next =>
       simp only [Act.put, yay, yby, ycy, i64_w, i32_w]
       rfl
      refine pure_ (i := 15) (N := some 143) (v := ?_) (a' := ?_) #[true, true, true, true, true, true, true, true, true, true, true, true, true, true, true, true, false, false, false] rfl rfl (by kernel_rfl) (fun _ _ _ h => h) (Or.inl ⟨by rfl, ?_⟩) ?_ ?_
      rotate_left
      next =>
       rintro w'
       go_simp
       with_reducible rfl
      rotate_left
      next =>
       simp only [Act.put, yay, yby, ycy, i64_w, i32_w]
       rfl
      clear hHeld
      obtain ⟨hi1_, hi2_⟩ := HWi.out.atX hx9 hx6 rfl
      have HWj := Aside0.mk (SpW.setX HG.out HWi.out x0 y0)
      obtain ⟨hj1_, hj2_⟩ := HWj.out.atY hx9 hx6 rfl
      have HWk := Aside0.mk (SpW.setY HG.out HWj.out x0 qn)
      have HXk := Aside0.mk (sp_far (sp_far HXi.out hgBx x0.toNat (.int .i64 y0)) hgBy x0.toNat (.int .i64 qn))
      have HMk := Aside0.mk (sp_far (sp_far HMi.out hmx x0.toNat (.int .i64 y0)) hmy x0.toNat (.int .i64 qn))
      have H12k := Aside0.mk (sp_far (sp_far H12i.out hg12x x0.toNat (.int .i64 y0)) hg12y x0.toNat (.int .i64 qn))
      have HYk := Aside0.mk (sp_far (sp_far HYi.out hgCx x0.toNat (.int .i64 y0)) hgCy x0.toNat (.int .i64 qn))
      have hHj := Aside0.mk (show (wi.setCell ⟨gx, x0.toNat, none⟩ (.int .i64 y0)).cell? ⟨gm, 2, none⟩ = some (.slice (some ⟨gx, 0, none⟩) n cx) ∧ (wi.setCell ⟨gx, x0.toNat, none⟩ (.int .i64 y0)).cell? ⟨gm, 3, none⟩ = some (.slice (some ⟨gy, 0, none⟩) n cy) ∧ (wi.setCell ⟨gx, x0.toNat, none⟩ (.int .i64 y0)).cell? ⟨gB, 0, none⟩ = some (.int .i64 x0) ∧ (wi.setCell ⟨gx, x0.toNat, none⟩ (.int .i64 y0)).cell? ⟨gC, 0, none⟩ = some (.int .i64 y0) from ⟨(blk_cell (sp_far HMi.out hmx x0.toNat (.int .i64 y0)) 2).trans rfl, (blk_cell (sp_far HMi.out hmx x0.toNat (.int .i64 y0)) 3).trans rfl, (blk_cell (sp_far HXi.out hgBx x0.toNat (.int .i64 y0)) 0).trans rfl, (blk_cell (sp_far HYi.out hgCx x0.toNat (.int .i64 y0)) 0).trans rfl⟩)
      refine one_ (i := 16) (N := none) #[true, true, true, true, true, true, true, true, true, true, true, true, true, true, true, true, true, false, false] rfl rfl (by kernel_rfl) (by decide) (fun K hK => ?_)
      refine skip_ (w1 := ?_) (by rfl) rfl ?_ ?_
      rotate_left
      next =>
       go_simp
       rfl
      refine hK.out _ _ hHj.out (fun hHeld => ?_)
      clear hK K
      refine pure_ (i := 17) (N := some 144) (v := ?_) (a' := ?_) #[true, true, true, true, true, true, true, true, true, true, true, true, true, true, true, true, true, true, false] rfl rfl (by kernel_rfl) (fun _ _ _ h => h) (Or.inl ⟨by rfl, ?_⟩) ?_ ?_
      rotate_left
      next =>
       rintro w'
       go_simp
       with_reducible rfl
      rotate_left
      next =>
       simp only [Act.put, yay, yby, ycy, i64_w, i32_w]
       rfl
      refine last_ (i := 18) (N := none) #[true, true, true, true, true, true, true, true, true, true, true, true, true, true, true, true, true, true, true] rfl rfl (by kernel_rfl) (by decide) (fun K hK => ?_)
      refine skip_ (w1 := ?_) (by rfl) rfl ?_ ?_
      rotate_left
      next =>
       go_simp
       rfl
      refine hK.out _ _ ?_
      clear hK K
      refine done_ (by kernel_rfl) ?_
      clear hHeld hHj hi1_ hi2_ hj1_ hj2_ HWj HXi HMi H12i HYi HWi
      generalize (wi.setCell ⟨gx, x0.toNat, none⟩ (.int .i64 y0)).setCell ⟨gy, x0.toNat, none⟩ (.int .i64 qn) = wk at HWk HXk HMk H12k HYk ⊢
      have hk0 : wk.cell? ⟨gB, 0, none⟩ = some (.int .i64 x0) := (blk_cell HXk.out 0).trans rfl
      have HLL := Aside0.mk (show s2.L.length ≤ 8 by have := HOK.out.len; omega)
      go_wp2_with (first | ((with_reducible refine gate_builtin (b := .append) (xs := #[.tmp 145, .tmp 148]) rfl ?_); at_builtin; refine Kd.R_append (Kd.int .i64) (w0 := wk) w.heap.size rfl (.tmp 145) (.tmp 148) 41 2 (.int .i64 0) 8 rfl Try.underlying41 info2 rfl (by decide) (by omega) u9 s2.L x0 [.int .i64 x0] (fun _ => True) (fun _ => False) rfl rfl ?aP (fun _ hk => hk.elim) ?aF ?aO ?aB ?aS ?aL ?_; (case aP => exact rfl); (case aB => exact ypy _ _); (case aF => exact (fun _ _ => trivial)); (case aO => exact HWk.out.rl); (case aS => exact HWk.out.sz); (case aL => have := HLL.out; omega); intro vl_ wl ho hb hg hat; have HWl := Aside0.mk (SpW.app HG.out HWk.out hb hg ho); have HXl := Aside0.mk (sp_g HXk.out HWk.out.rl (by decide) hg); have HMl := Aside0.mk (sp_g HMk.out HWk.out.rl (by decide) hg); have H12l := Aside0.mk (sp_g H12k.out HWk.out.rl (by decide) hg); have HYl := Aside0.mk (sp_g HYk.out HWk.out.rl (by decide) hg); clear ho hb hg hat; have hl0 : wl.cell? ⟨gB, 0, none⟩ = some (.int .i64 x0) := (blk_cell HXl.out 0).trans rfl; have hl1 : wl.cell? ⟨gC, 0, none⟩ = some (.int .i64 y0) := (blk_cell HYl.out 0).trans rfl; have hl2 : wl.cell? ⟨gm, 2, none⟩ = some (.slice (some ⟨gx, 0, none⟩) n cx) := (blk_cell HMl.out 2).trans rfl; have hl3 : wl.cell? ⟨gm, 3, none⟩ = some (.slice (some ⟨gy, 0, none⟩) n cy) := (blk_cell HMl.out 3).trans rfl; have hl4 := (HWl.out.atX hx9 hx6 ((rd_setI hx9 hxl hx9).trans (if_pos rfl))).1; have hl5 := (HWl.out.atY hx9 hx6 ((rd_setI hx9 hyl hx9).trans (if_pos rfl))).1))
      go_wp2
      go_roundg (4 - (f + 1))
      case measure => omega
      case rel => exact ⟨f + 1, ⟨s2.X.set x0.toNat y0, s2.Y.set x0.toNat qn, s2.L ++ [x0]⟩, by omega, by omega, by (try simp only [i64_w]); (first | rfl | rw [show wrap64 ((f : Int) + 1) = ((f + 1 : Nat) : Int) by unfold wrap64; omega]), ⟨by first | exact HWl.out | exact HWl.out.stays (pw_below_drewN (ypy _ _) _)⟩, HK1, ⟨HINC3.out.1, HINC3.out.2, HNX.out⟩, ⟨by first | exact H12l.out | exact blk_drewN H12l.out _⟩⟩
/-! slices.Clone at []int64: the same elements in memory of the call's own (nil stays nil). -/
def slices_Clone_Sint64.f (l0 : List Int) : Option (List Int) := if l0.length < 17592186044416 then some l0 else none
set_option maxHeartbeats 8000000 in
set_option maxRecDepth 100000 in
theorem slices_Clone_Sint64.calls (A0 : Option Addr) (c0 : Nat) (l0 : List Int) (r : List Int) (w : World) (hr0 : Kd.C (Kd.int .i64) w A0 l0.length l0) (hc0 : l0.length ≤ c0) (h : slices_Clone_Sint64.f l0 = some r) :
    Calls Try.prog 47 #[.slice A0 l0.length c0] w fun e w' => ∃ v0_ : Value, e = .returned (v0_) ∧ Kd.R (Kd.int .i64) 2 w' w.heap.size (fun _ => True) v0_ r ∧ Below w.heap.size w w' := by
  have hlt : l0.length < 17592186044416 := by
    unfold slices_Clone_Sint64.f at h
    by_cases c : l0.length < 17592186044416
    · exact c
    · rw [if_neg c] at h; exact absurd h (by simp)
  have hr : l0 = r := by
    unfold slices_Clone_Sint64.f at h
    rw [if_pos hlt] at h
    exact yey h
  clear h
  have HL := Aside0.mk hlt
  clear hlt
  subst hr
  have HR0 := Aside0.mk hr0
  have HC0 := Aside0.mk hc0
  clear hr0 hc0
  have HB := Aside0.mk (ypy w.heap.size w)
  have heq := fun (W : World) (n : Nat) => Lib.run_eql_slice_nil (P := Try.prog) W 41 2 A0 n c0 0 0 Try.underlying41
  cases A0 with
  | none =>
    have hz : l0.length = 0 := by
      rcases Nat.eq_zero_or_pos l0.length with h | h
      · exact h
      · obtain ⟨ad, h1, _⟩ := HR0.out.2.2 h
        cases h1
    have hl0 := List.eq_nil_of_length_eq_zero hz
    clear hz
    subst hl0
    simp only [Option.isNone_none] at heq
    go_enter Try.func47, Try.ntmps47
    go_wp2
    go_ret
    exact ⟨_, rfl, Kd.R_nil _ _ _ _ _, HB.out⟩
  | some ad =>
    simp only [Option.isNone_some] at heq
    go_enter Try.func47, Try.ntmps47
    go_wp2_with (first | ((with_reducible refine gate_dst (N := 5) rfl ?_); refine Kd.R_lit (Kd.int .i64) _ 2 ?hg (N := 5) ?hd (xs := ([] : List Int)) (inner := []) (ok := fun _ => True) (okp := fun _ => True) ?hr ?hp (fun _ hk => hk) trivial (ypy _ _) (yoy _) (by simp) ?_; (case hd => rfl); (case hg => rfl); (case hr => first | (go_simp; done) | (go_simp; rfl)); (case hp => exact (Reps.none _ _)); intro v102 w2 ho3 hb hg_ hnew_; clear hg_ hnew_; have n0_ := Aside0.mk (Kd.R_lower ho3 (below_size HB.out)); have n1_ := Aside0.mk (below_step HB.out hb); clear HB; have HO103 := n0_; have HB := n1_; clear n0_ n1_; clear hb ho3) | ((with_reducible refine gate_builtin (b := .append) (xs := #[.tmp 5, .tmp 6]) rfl ?_); at_builtin; refine Kd.R_append_rows (Kd.int .i64) (Rr := fun x cs => cs = [.int .i64 x]) (w0 := w) w.heap.size rfl (.tmp 5) (.tmp 6) 41 2 (.int .i64 0) 8 rfl Try.underlying41 info2 rfl (by decide) (by omega) v102 ([] : List Int) l0 (some ad) l0.length c0 (fun _ => True) (fun _ => False) rfl rfl ?aO ?aR (fun _ _ h => h) (fun _ hk => hk.elim) (fun _ _ => trivial) ?aB ?aS ?aL ?_; (case aO => exact HO103.out); (case aR => exact Kd.C_below HR0.out HB.out); (case aB => exact HB.out); (case aS => exact below_size HB.out); (case aL => have := HL.out; simp; omega); intro v106 w8 ho hb hg hat; rw [List.nil_append] at ho; have n0_ := Aside0.mk hb; have n1_ := Aside0.mk ho; clear HB; have HB := n0_; have HO107 := n1_; clear n0_ n1_; clear ho hb hg hat))
    go_ret
    exact ⟨_, rfl, HO107.out, HB.out⟩
/-! matcher.choices at the visitor that counts. -/
set_option maxHeartbeats 8000000 in
theorem impl_IsomorphismCount_1.calls (gc : Nat) (v : Int) (W : World) (hc : W.heap[gc]? = some (.cells #[.int .i64 v] 2 (0, 0))) (h0 : 0 ≤ v) (h1 : v ≤ 1000000) :
 Calls Try.prog 27 #[.pointer (some ⟨gc, 0, none⟩)] W fun e w' => e = .returned (.bool true) ∧ w' = W.setCell ⟨gc, 0, none⟩ (.int .i64 (v + 1)) := by
 have hc0 : W.cell? ⟨gc, 0, none⟩ = some (.int .i64 v) := (blk_cell hc 0).trans rfl
 have hf0 := blk_frozen hc 0
 have hw : wrap64 (v + 1) = v + 1 := by unfold wrap64; omega
 clear hc
 go_enter Try.func27, Try.ntmps27
 go_wp2
 go_ret
 exact ⟨rfl, rfl⟩
theorem sz_int64 : (Try.prog.info? 2).map (·.size) = some 1 := by
 obtain ⟨i0, hi, hz⟩ := Option.map_eq_some_iff.1 info2
 rw [hi]
 simp only [Prod.mk.injEq] at hz
 exact congrArg some hz.2.1
/-- The memory of the choices. -/
structure ChI (w0 w W : World) (n gm gx cx gy cy gc g7 c7 g8 c8 : Nat) (A0 : Option Addr) (c0 : Nat) (A1 : Option Addr) (c1 cnt : Nat) (X Y : List Int) : Prop where
 b0 : Below w0.heap.size w0 W
 sz : w.heap.size ≤ W.heap.size
 hm : W.heap[gm]? = some (.cells #[.slice A0 n c0, .slice A1 n c1, .slice (some ⟨gx, 0, none⟩) n cx, .slice (some ⟨gy, 0, none⟩) n cy] 72 (0, 0))
 hc : W.heap[gc]? = some (.cells #[.int .i64 (cnt : Int)] 2 (0, 0))
 rx : Kd.R (Kd.int .i64) 2 W w0.heap.size (fun k => k = gx) (.slice (some ⟨gx, 0, none⟩) n cx) X
 ry : Kd.R (Kd.int .i64) 2 W w0.heap.size (fun k => k = gy) (.slice (some ⟨gy, 0, none⟩) n cy) Y
 r7 : Kd.R (Kd.int .i64) 2 W w.heap.size (fun k => k = g7) (.slice (some ⟨g7, 0, none⟩) n c7) (List.replicate n (-1))
 r8 : Kd.R (Kd.int .i64) 2 W w.heap.size (fun k => k = g8) (.slice (some ⟨g8, 0, none⟩) n c8) (List.replicate n (-1))
structure ChG (w0 w : World) (gm gx gy gc g7 g8 : Nat) : Prop where
 m : gm < w.heap.size
 x : gx < w.heap.size
 y : gy < w.heap.size
 c : gc < w.heap.size
 x0 : w0.heap.size ≤ gx
 y0 : w0.heap.size ≤ gy
 c0 : w0.heap.size ≤ gc
 mx : gm ≠ gx
 my : gm ≠ gy
 mc : gm ≠ gc
 xy : gx ≠ gy
 cx : gc ≠ gx
 cy : gc ≠ gy
 s7 : w.heap.size ≤ g7
 s8 : w.heap.size ≤ g8
section
variable {w0 w W W1 : World} {n gm gx cx gy cy gc g7 c7 g8 c8 : Nat} {A0 A1 : Option Addr} {c0 c1 cnt : Nat} {X Y : List Int}
theorem ChI.stays (h : ChI w0 w W n gm gx cx gy cy gc g7 c7 g8 c8 A0 c0 A1 c1 cnt X Y) (hb : Below W.heap.size W W1) : ChI w0 w W1 n gm gx cx gy cy gc g7 c7 g8 c8 A0 c0 A1 c1 cnt X Y :=
 ⟨below_step h.b0 hb, Nat.le_trans h.sz hb.size, blk_below h.hm hb, blk_below h.hc hb, Kd.R_below h.rx hb, Kd.R_below h.ry hb, Kd.R_below h.r7 hb, Kd.R_below h.r8 hb⟩
/-- The two rows have been written to, anyhow. -/
theorem ChI.spoilt {X2 Y2 : List Int} (g : ChG w0 w gm gx gy gc g7 g8) (h : ChI w0 w W n gm gx cx gy cy gc g7 c7 g8 c8 A0 c0 A1 c1 cnt X Y) (hb : Below w0.heap.size w0 W1) (hz : W.heap.size ≤ W1.heap.size) (hk : ∀ k, k < W.heap.size → k ≠ gx → k ≠ gy → W1.heap[k]? = W.heap[k]?)
 (hx : Kd.R (Kd.int .i64) 2 W1 w0.heap.size (fun k => k = gx) (.slice (some ⟨gx, 0, none⟩) n cx) X2) (hy : Kd.R (Kd.int .i64) 2 W1 w0.heap.size (fun k => k = gy) (.slice (some ⟨gy, 0, none⟩) n cy) Y2) : ChI w0 w W1 n gm gx cx gy cy gc g7 c7 g8 c8 A0 c0 A1 c1 cnt X2 Y2 := by
 have hs := h.sz
 have g1 := g.x
 have g2 := g.y
 have g3 := g.s7
 have g4 := g.s8
 have hK : Kept W W1 (fun k => k = gx ∨ k = gy) := ⟨hz, fun k h1 h2 => hk k h1 (fun e => h2 (.inl e)) (fun e => h2 (.inr e))⟩
 exact ⟨hb, Nat.le_trans h.sz hz, (hk gm (blk_lt h.hm) g.mx g.my).trans h.hm, (hk gc (blk_lt h.hc) g.cx g.cy).trans h.hc, hx, hy,
  Kd.R_kept h.r7 hK (fun k e h2 => by rcases h2 with h2 | h2 <;> omega), Kd.R_kept h.r8 hK (fun k e h2 => by rcases h2 with h2 | h2 <;> omega)⟩
/-- The count has been written. -/
theorem ChI.count (g : ChG w0 w gm gx gy gc g7 g8) (h : ChI w0 w W n gm gx cx gy cy gc g7 c7 g8 c8 A0 c0 A1 c1 cnt X Y) (cnt2 : Nat) : ChI w0 w (W.setCell ⟨gc, 0, none⟩ (.int .i64 (cnt2 : Int))) n gm gx cx gy cy gc g7 c7 g8 c8 A0 c0 A1 c1 cnt2 X Y := by
 have g1 := g.c
 have g3 := g.s7
 have g4 := g.s8
 exact ⟨h.b0.setCell (p := ⟨gc, 0, none⟩) g.c0 _, Nat.le_trans h.sz (Nat.le_of_eq (by simp [World.setCell])), sp_far h.hm g.mc 0 _, by simpa using blk_set h.hc 0 (.int .i64 (cnt2 : Int)),
  Kd.R_far (p := ⟨gc, 0, none⟩) h.rx (fun k e => by rw [e]; exact (Ne.symm g.cx)) _, Kd.R_far (p := ⟨gc, 0, none⟩) h.ry (fun k e => by rw [e]; exact (Ne.symm g.cy)) _, Kd.R_far (p := ⟨gc, 0, none⟩) h.r7 (fun k e => by show k ≠ gc; omega) _, Kd.R_far (p := ⟨gc, 0, none⟩) h.r8 (fun k e => by show k ≠ gc; omega) _⟩
/-- One row has been copied onto. -/
theorem ChI.copyX {X2 : List Int} (g : ChG w0 w gm gx gy gc g7 g8) (h : ChI w0 w W n gm gx cx gy cy gc g7 c7 g8 c8 A0 c0 A1 c1 cnt X Y) (hb : Below w0.heap.size w0 W1) (hg : W.grownBy W1 (some gx))
 (hx : Kd.R (Kd.int .i64) 2 W1 w0.heap.size (fun k => k = gx) (.slice (some ⟨gx, 0, none⟩) n cx) X2) : ChI w0 w W1 n gm gx cx gy cy gc g7 c7 g8 c8 A0 c0 A1 c1 cnt X2 Y := by
 have g1 := g.x
 have g3 := g.s7
 have g4 := g.s8
 exact ⟨hb, Nat.le_trans h.sz hg.size, (hg.block gm (blk_lt h.hm) (fun e => g.mx (yey e))).trans h.hm, (hg.block gc (blk_lt h.hc) (fun e => g.cx (yey e))).trans h.hc, hx,
  Kd.R_grown h.ry hg (fun k e e2 => g.xy (by rw [← e, yey e2])), Kd.R_grown h.r7 hg (fun k e e2 => by have := yey e2; omega), Kd.R_grown h.r8 hg (fun k e e2 => by have := yey e2; omega)⟩
theorem ChI.copyY {Y2 : List Int} (g : ChG w0 w gm gx gy gc g7 g8) (h : ChI w0 w W n gm gx cx gy cy gc g7 c7 g8 c8 A0 c0 A1 c1 cnt X Y) (hb : Below w0.heap.size w0 W1) (hg : W.grownBy W1 (some gy))
 (hy : Kd.R (Kd.int .i64) 2 W1 w0.heap.size (fun k => k = gy) (.slice (some ⟨gy, 0, none⟩) n cy) Y2) : ChI w0 w W1 n gm gx cx gy cy gc g7 c7 g8 c8 A0 c0 A1 c1 cnt X Y2 := by
 have g1 := g.y
 have g3 := g.s7
 have g4 := g.s8
 exact ⟨hb, Nat.le_trans h.sz hg.size, (hg.block gm (blk_lt h.hm) (fun e => g.my (yey e))).trans h.hm, (hg.block gc (blk_lt h.hc) (fun e => g.cy (yey e))).trans h.hc,
  Kd.R_grown h.rx hg (fun k e e2 => g.xy (by rw [← e, yey e2])), hy, Kd.R_grown h.r7 hg (fun k e e2 => by have := yey e2; omega), Kd.R_grown h.r8 hg (fun k e e2 => by have := yey e2; omega)⟩
theorem cp_all {n : Nat} {X : List Int} (h : X.length = n) : (List.replicate n (-1 : Int)).take (min n X.length) ++ X.drop (min n X.length) = List.replicate n (-1) := by
 rw [h, Nat.min_self, List.take_of_length_le (by rw [List.length_replicate]; exact yoy n), List.drop_eq_nil_of_le (by omega), List.append_nil]
end
set_option maxHeartbeats 16000000 in
set_option maxRecDepth 100000 in
theorem impl_choices.calls (n : Nat) (hn : n ≤ 8) (hn0 : 0 < n) (A0 : Option Addr) (c0 : Nat) (la : List (List SFace)) (A1 : Option Addr) (c1 : Nat) (lb : List (List SFace)) (gm gx cx gy cy gc : Nat) (w0 w : World) (hB : Below w0.heap.size w0 w)
 (hra : Kd.C (Kd.slice 56 kFace) w0 A0 n la) (hca : n ≤ c0) (hrb : Kd.C (Kd.slice 56 kFace) w0 A1 n lb) (hcb : n ≤ c1) (hta : TrOk la n) (htb : TrOk lb n) (hm : w.heap[gm]? = some (.cells #[.slice A0 n c0, .slice A1 n c1, .slice (some ⟨gx, 0, none⟩) n cx, .slice (some ⟨gy, 0, none⟩) n cy] 72 (0, 0)))
 (hx : Kd.R (Kd.int .i64) 2 w w0.heap.size (fun k => k = gx) (.slice (some ⟨gx, 0, none⟩) n cx) (List.replicate n (-1))) (hy : Kd.R (Kd.int .i64) 2 w w0.heap.size (fun k => k = gy) (.slice (some ⟨gy, 0, none⟩) n cy) (List.replicate n (-1))) (hne : gx ≠ gy) (hc : w.heap[gc]? = some (.cells #[.int .i64 0] 2 (0, 0))) (hcx : gc ≠ gx) (hcy : gc ≠ gy) (hc0 : w0.heap.size ≤ gc) :
 Calls Try.prog 26 #[.pointer (some ⟨gm, 0, none⟩), .int .i64 0, .func (.func 27) #[] #[.pointer (some ⟨gc, 0, none⟩)]] w fun e w' => e = .returned (.bool true) ∧ w'.heap[gc]? = some (.cells #[.int .i64 ((cntT la lb n n : Nat) : Int)] 2 (0, 0)) ∧ Below w0.heap.size w0 w' := by
 have HRA := Aside0.mk hra
 have HRB := Aside0.mk hrb
 have HTA := Aside0.mk hta
 have HTB := Aside0.mk htb
 have hty : ∀ g, (∃ cells, w.heap[g]? = some (.cells cells 2 (0, 0))) → gm ≠ g := fun g h e => by
  obtain ⟨cells, h⟩ := h
  rw [← e, hm] at h
  injection h with h
  injection h with _ h3
  exact absurd h3 (by decide)
 have hmx : gm ≠ gx := hty gx (Kd.R_typed hx gx rfl)
 have hmy : gm ≠ gy := hty gy (Kd.R_typed hy gy rfl)
 have hmc : gm ≠ gc := hty gc ⟨_, hc⟩
 have hgx : gx < w.heap.size := Kd.R_lt hx gx rfl
 have hgy : gy < w.heap.size := Kd.R_lt hy gy rfl
 have hgm : gm < w.heap.size := blk_lt hm
 have hgc : gc < w.heap.size := blk_lt hc
 have hx0 : w0.heap.size ≤ gx := Kd.R_base hx gx rfl
 have hy0 : w0.heap.size ≤ gy := Kd.R_base hy gy rfl
 have HM := Aside0.mk hm
 have HC := Aside0.mk hc
 have HX := Aside0.mk hx
 have HY := Aside0.mk hy
 have HB := Aside0.mk hB
 have HLR : Aside0 ((List.replicate n (-1 : Int)).length = n) := ⟨List.length_replicate⟩
 clear hra hrb hta htb hm hc hx hy hB hty
 go_enter Try.func26, Try.ntmps26
 have hHs := Aside0.mk (show w.cell? ⟨gm, 2, none⟩ = some (.slice (some ⟨gx, 0, none⟩) n cx) ∧ w.cell? ⟨gm, 3, none⟩ = some (.slice (some ⟨gy, 0, none⟩) n cy) from ⟨(blk_cell HM.out 2).trans rfl, (blk_cell HM.out 3).trans rfl⟩)
 go_wp2_with fail
 refine start_ (n := 12) (S := fun w' => w'.cell? ⟨gm, 2, none⟩ = some (.slice (some ⟨gx, 0, none⟩) n cx) ∧ w'.cell? ⟨gm, 3, none⟩ = some (.slice (some ⟨gy, 0, none⟩) n cy)) (ds := [12]) #[false, false, false, false, false, false, false, false, false, false, false, false] (by kernel_rfl) rfl rfl hHs.out (fun hHeld => ?_)
 have hM2 := blk_drew HM.out
 have hC2 := blk_drew HC.out
 have hX2 := Kd.R_drew HX.out
 have hY2 := Kd.R_drew HY.out
 have hB2 := below_drew HB.out
 have hz2 : w.heap.size ≤ w.drew.heap.size := yoy _
 generalize w.drew = w2 at hM2 hC2 hX2 hY2 hB2 hz2 hHeld ⊢
 clear hHs
 refine pure_ (i := 0) (N := some 11) (v := ?_) (a' := ?_) #[true, false, false, false, false, false, false, false, false, false, false, false] rfl rfl (by kernel_rfl) (fun _ _ _ h => h) (Or.inl ⟨by rfl, ?_⟩) ?_ ?_
 rotate_left
 next =>
  rintro w'
  go_simp
  with_reducible rfl
 rotate_left
 next =>
  simp only [Act.put, yay, yby, ycy, i64_w, i32_w]
  rfl
 refine pure_ (i := 1) (N := some 12) (v := ?_) (a' := ?_) #[true, true, false, false, false, false, false, false, false, false, false, false] rfl rfl (by kernel_rfl) (fun _ _ _ h => h) (Or.inl ⟨by rfl, ?_⟩) ?_ ?_
 rotate_left
 next =>
  rintro w'
  go_simp
  with_reducible rfl
 rotate_left
 next =>
  simp only [Act.put, yay, yby, ycy, i64_w, i32_w]
  rfl
 refine pure_ (i := 2) (N := some 13) (v := ?_) (a' := ?_) #[true, true, true, false, false, false, false, false, false, false, false, false] rfl rfl (by kernel_rfl) (fun _ _ _ h => h) (Or.inl ⟨by rfl, ?_⟩) ?_ ?_
 rotate_left
 next =>
  rintro w'
  go_simp
  with_reducible rfl
 rotate_left
 next =>
  simp only [Act.put, yay, yby, ycy, i64_w, i32_w]
  rfl
 refine take_ (i := 3) (N := some 14) (v := ?_) (a' := ?_) #[true, true, true, true, false, false, false, false, false, false, false, false] rfl rfl (by kernel_rfl) (fun _ _ _ h => h) (Or.inl ⟨by rfl, ?_⟩) hHeld ?_ ?_
 rotate_left
 next =>
  rintro w' ⟨s0, s1⟩
  go_simp
  with_reducible rfl
 rotate_left
 next =>
  simp only [Act.put, yay, yby, ycy, i64_w, i32_w]
  rfl
 refine pure_ (i := 5) (N := some 16) (v := ?_) (a' := ?_) #[true, true, true, true, false, true, false, false, false, false, false, false] rfl rfl (by kernel_rfl) (fun _ _ _ h => h) (Or.inl ⟨by rfl, ?_⟩) ?_ ?_
 rotate_left
 next =>
  rintro w'
  go_simp
  with_reducible rfl
 rotate_left
 next =>
  simp only [Act.put, yay, yby, ycy, i64_w, i32_w]
  rfl
 refine pure_ (i := 6) (N := some 17) (v := ?_) (a' := ?_) #[true, true, true, true, false, true, true, false, false, false, false, false] rfl rfl (by kernel_rfl) (fun _ _ _ h => h) (Or.inl ⟨by rfl, ?_⟩) ?_ ?_
 rotate_left
 next =>
  rintro w'
  go_simp
  with_reducible rfl
 rotate_left
 next =>
  simp only [Act.put, yay, yby, ycy, i64_w, i32_w]
  rfl
 refine pure_ (i := 7) (N := some 18) (v := ?_) (a' := ?_) #[true, true, true, true, false, true, true, true, false, false, false, false] rfl rfl (by kernel_rfl) (fun _ _ _ h => h) (Or.inl ⟨by rfl, ?_⟩) ?_ ?_
 rotate_left
 next =>
  rintro w'
  go_simp
  with_reducible rfl
 rotate_left
 next =>
  simp only [Act.put, yay, yby, ycy, i64_w, i32_w]
  rfl
 refine take_ (i := 8) (N := some 19) (v := ?_) (a' := ?_) #[true, true, true, true, false, true, true, true, true, false, false, false] rfl rfl (by kernel_rfl) (fun _ _ _ h => h) (Or.inl ⟨by rfl, ?_⟩) hHeld ?_ ?_
 rotate_left
 next =>
  rintro w' ⟨s0, s1⟩
  go_simp
  with_reducible rfl
 rotate_left
 next =>
  simp only [Act.put, yay, yby, ycy, i64_w, i32_w]
  rfl
 refine one_ (i := 4) (N := some 15) #[true, true, true, true, true, true, true, true, true, false, false, false] rfl rfl (by kernel_rfl) (by decide) (fun K hK => ?_)
 refine goes_ Try.func47 (by kernel_rfl) rfl #[.slice (some ⟨gx, 0, none⟩) n cx] (by rfl) rfl rfl (by (try simp only [yiy, yjy, yky]); first | done | rfl) ?_
 have hcall := slices_Clone_Sint64.calls (some ⟨gx, 0, none⟩) cx (List.replicate n (-1)) (List.replicate n (-1)) w2 (Kd.R_reads' hX2).2.2 (by rw [HLR.out]; exact (Kd.R_reads' hX2).2.1) (if_pos (by rw [HLR.out]; omega))
 rw [HLR.out] at hcall
 refine hcall.mono ?_
 rintro e w3 ⟨v7, rfl, ho7, hb3⟩
 obtain ⟨g7, c7, hv7, hg7, _, _⟩ := Kd.R_form ho7 (by rw [HLR.out]; exact hn0)
 rw [HLR.out] at hv7
 subst hv7
 have hM3 := blk_below hM2 hb3
 have hC3 := blk_below hC2 hb3
 have hX3 := Kd.R_below hX2 hb3
 have hY3 := Kd.R_below hY2 hb3
 have hB3 := below_step hB2 hb3
 have h73 := Kd.R_mono (Kd.R_tight rfl (Kd.R_lower ho7 hz2)) (ok' := fun k => k = g7) (fun k hk => yey hk)
 have hz3 : w2.heap.size ≤ w3.heap.size := hb3.size
 have hHe := Aside0.mk (show w3.cell? ⟨gm, 2, none⟩ = some (.slice (some ⟨gx, 0, none⟩) n cx) ∧ w3.cell? ⟨gm, 3, none⟩ = some (.slice (some ⟨gy, 0, none⟩) n cy) from ⟨(blk_cell hM3 2).trans rfl, (blk_cell hM3 3).trans rfl⟩)
 clear hb3 ho7 hcall hM2 hC2 hX2 hY2 hB2 hHeld
 refine ⟨_, rfl, ?_⟩
 refine hK.out _ _ hHe.out (fun hHeld => ?_)
 clear hK K
 refine norm_ (a' := ?_) ?_ ?_
 rotate_left
 next =>
  show Act.put _ (some 15) _ = _
  simp only [Act.put, yay, yby, ycy, i64_w, i32_w]
  rfl
 clear hHe
 refine one_ (i := 9) (N := some 20) #[true, true, true, true, true, true, true, true, true, true, false, false] rfl rfl (by kernel_rfl) (by decide) (fun K hK => ?_)
 refine goes_ Try.func47 (by kernel_rfl) rfl #[.slice (some ⟨gy, 0, none⟩) n cy] (by rfl) rfl rfl (by (try simp only [yiy, yjy, yky]); first | done | rfl) ?_
 have hcall := slices_Clone_Sint64.calls (some ⟨gy, 0, none⟩) cy (List.replicate n (-1)) (List.replicate n (-1)) w3 (Kd.R_reads' hY3).2.2 (by rw [HLR.out]; exact (Kd.R_reads' hY3).2.1) (if_pos (by rw [HLR.out]; omega))
 rw [HLR.out] at hcall
 refine hcall.mono ?_
 rintro e w4 ⟨v8, rfl, ho8, hb4⟩
 obtain ⟨g8, c8, hv8, hg8, _, _⟩ := Kd.R_form ho8 (by rw [HLR.out]; exact hn0)
 rw [HLR.out] at hv8
 subst hv8
 have HG := Aside0.mk (show ChG w0 w gm gx gy gc g7 g8 from ⟨hgm, hgx, hgy, hgc, hx0, hy0, hc0, hmx, hmy, hmc, hne, hcx, hcy, by omega, by omega⟩)
 have HI := Aside0.mk (show ChI w0 w w4 n gm gx cx gy cy gc g7 c7 g8 c8 A0 c0 A1 c1 0 (List.replicate n (-1)) (List.replicate n (-1)) from
  ⟨below_step hB3 hb4, Nat.le_trans hz2 (Nat.le_trans hz3 hb4.size), blk_below hM3 hb4, blk_below hC3 hb4, Kd.R_below hX3 hb4, Kd.R_below hY3 hb4, Kd.R_below h73 hb4, Kd.R_mono (Kd.R_tight rfl (Kd.R_lower ho8 (Nat.le_trans hz2 hz3))) (ok' := fun k => k = g8) (fun k hk => yey hk)⟩)
 have hHe := Aside0.mk (show w4.cell? ⟨gm, 2, none⟩ = some (.slice (some ⟨gx, 0, none⟩) n cx) ∧ w4.cell? ⟨gm, 3, none⟩ = some (.slice (some ⟨gy, 0, none⟩) n cy) from ⟨(blk_cell HI.out.hm 2).trans rfl, (blk_cell HI.out.hm 3).trans rfl⟩)
 clear hb4 ho8 hcall hM3 hC3 hX3 hY3 hB3 h73 hHeld hg7 hg8 hz2 hz3
 refine ⟨_, rfl, ?_⟩
 refine hK.out _ _ hHe.out (fun hHeld => ?_)
 clear hK K
 refine norm_ (a' := ?_) ?_ ?_
 rotate_left
 next =>
  show Act.put _ (some 20) _ = _
  simp only [Act.put, yay, yby, ycy, i64_w, i32_w]
  rfl
 clear hHe
 refine pure_ (i := 10) (N := some 7) (v := ?_) (a' := ?_) #[true, true, true, true, true, true, true, true, true, true, true, false] rfl rfl (by kernel_rfl) (fun _ _ _ h => h) (Or.inl ⟨by rfl, ?_⟩) ?_ ?_
 rotate_left
 next =>
  rintro w'
  go_simp
  with_reducible rfl
 rotate_left
 next =>
  simp only [Act.put, yay, yby, ycy, i64_w, i32_w]
  rfl
 refine pure_ (i := 11) (N := some 8) (v := ?_) (a' := ?_) #[true, true, true, true, true, true, true, true, true, true, true, true] rfl rfl (by kernel_rfl) (fun _ _ _ h => h) (Or.inl ⟨by rfl, ?_⟩) ?_ ?_
 rotate_left
 next =>
  rintro w'
  go_simp
  with_reducible rfl
 rotate_left
 next =>
  simp only [Act.put, yay, yby, ycy, i64_w, i32_w]
  rfl
 refine done_ (by kernel_rfl) ?_
 clear hHeld
 have hm1 : w4.cell? ⟨gm, 1, none⟩ = some (.slice A1 n c1) := (blk_cell HI.out.hm 1).trans rfl
 go_wp2_with fail
 have hcall := impl_size_Simpl_Face.calls A1 c1 lb (n : Int) w4 (by rw [HTB.out.1]; exact Kd.C_below HRB.out HI.out.b0) (by rw [HTB.out.1]; exact hcb) (by show some ((lb.length : Nat) : Int) = _; rw [HTB.out.1])
 rw [HTB.out.1] at hcall
 refine hcall.mono ?_
 rintro e w5 ⟨rfl, hd⟩
 have HI5 := Aside0.mk (HI.out.stays (Drawn0.below hd))
 clear hd hcall hm1 HI
 go_wp2
 go_loopg [27] n (fun gg v27 w' => ∃ a : Nat, a ≤ n ∧ n - a ≤ gg ∧ v27 = .int .i64 a ∧ Aside0 (ChI w0 w w' n gm gx cx gy cy gc g7 c7 g8 c8 A0 c0 A1 c1 (cntT la lb n a) (List.replicate n (-1)) (List.replicate n (-1))))
 case atStart => exact ⟨0, Nat.zero_le _, by omega, rfl, HI5⟩
 case round =>
  clear HI5
  obtain ⟨a, ha9, hga, rfl, HI⟩ := hrel
  by_cases hla : a < n
  rotate_left
  next =>
   obtain rfl : a = n := by omega
   go_wp2
   go_ret
   exact ⟨rfl, HI.out.hc, HI.out.b0⟩
  have hlaz : (a : Int) < (n : Int) := by omega
  have hcl := cntT_le la lb n a
  go_wp2
  go_loopg [30] 24 (fun gg v30 w' => ∃ p : Nat, p ≤ 24 ∧ 24 - p ≤ gg ∧ v30 = .int .i64 p ∧ Aside0 (ChI w0 w w' n gm gx cx gy cy gc g7 c7 g8 c8 A0 c0 A1 c1 (cntT la lb n a + cntP la lb n a p) (List.replicate n (-1)) (List.replicate n (-1))))
  case atStart => exact ⟨0, by omega, by omega, rfl, HI⟩
  case round =>
   clear HI
   obtain ⟨p, hp9, hgp, rfl, HI⟩ := hrel
   by_cases hlp : p < 24
   rotate_left
   next =>
    obtain rfl : p = 24 := by omega
    go_wp2
    go_roundg (n - (a + 1))
    case measure => omega
    case rel => exact ⟨a + 1, by omega, by omega, by (try simp only [i64_w]); (first | rfl | (congr 1; omega) | (congr 1; unfold wrap64; omega)), HI⟩
   have hlpz : (p : Int) < 24 := by omega
   have hcp := cntP_le la lb n a p
   go_wp2_with fail
   refine (impl_spread.calls n hn hn0 A0 c0 la A1 c1 lb gm gx cx gy cy a p w0 wr HI.out.b0 HRA.out hca HRB.out hcb HTA.out HTB.out HI.out.hm HI.out.rx HI.out.ry hne hla hlp).mono ?_
   rintro e w6 ⟨rfl, hb, hk, hz, ⟨X2, hX2⟩, ⟨Y2, hY2⟩⟩
   have HI6 := Aside0.mk (ChI.spoilt HG.out HI.out hb hz hk hX2 hY2)
   have HLX := Aside0.mk (Kd.R_reads' hX2).1.symm
   have HLY := Aside0.mk (Kd.R_reads' hY2).1.symm
   clear hb hk hz hX2 hY2 HI
   have hsp : cntP la lb n a (p + 1) = cntP la lb n a p + (if spHit la lb n a p = true then 1 else 0) := rfl
   cases hh : spHit la lb n a p with
   | true =>
    rw [hh, if_pos rfl] at hsp
    have HSP := Aside0.mk hsp
    clear hsp hh
    generalize hcn : cntT la lb n a + cntP la lb n a p = cn at *
    have hcn2 : cn ≤ 1000 := by omega
    go_wp2_with fail
    refine (impl_IsomorphismCount_1.calls gc (cn : Int) _ HI6.out.hc (by omega) (by omega)).mono ?_
    rintro e w7 ⟨rfl, hw7⟩
    have HI7 := Aside0.mk (show ChI w0 w w7 n gm gx cx gy cy gc g7 c7 g8 c8 A0 c0 A1 c1 (cn + 1) X2 Y2 from by
     rw [hw7, show ((cn : Nat) : Int) + 1 = ((cn + 1 : Nat) : Int) by omega]
     exact ChI.count HG.out HI6.out (cn + 1))
    clear hw7
    have hm2 : w7.cell? ⟨gm, 2, none⟩ = some (.slice (some ⟨gx, 0, none⟩) n cx) := (blk_cell HI7.out.hm 2).trans rfl
    go_wp2_with (first | ((with_reducible refine gate_builtin (b := .copy) (xs := #[.tmp 46, .tmp 47]) rfl ?_); (refine Kd.R_copy (0 : Int) (w0 := w0) w0.heap.size rfl (.tmp 46) (.tmp 47) 41 41 2 rfl Try.underlying41 sz_int64 (.slice (some ⟨gx, 0, none⟩) n cx) X2 (List.replicate n (-1)) (some ⟨g7, 0, none⟩) n c7 (fun k => k = gx) rfl rfl HI7.out.rx (by have h := (Kd.R_reads' HI7.out.r7).2.2; rw [HLR.out] at h; exact h) HI7.out.b0 HI7.out.b0.size ?_); intro w8 ho hb hg; rw [cp_all HLX.out] at ho; have HI8 := Aside0.mk (ChI.copyX HG.out HI7.out hb hg ho); clear ho hb hg; have hm3 : w8.cell? ⟨gm, 3, none⟩ = some (.slice (some ⟨gy, 0, none⟩) n cy) := (blk_cell HI8.out.hm 3).trans rfl) | ((with_reducible refine gate_builtin (b := .copy) (xs := #[.tmp 52, .tmp 53]) rfl ?_); refine Kd.R_copy (0 : Int) (w0 := w0) w0.heap.size rfl (.tmp 52) (.tmp 53) 41 41 2 rfl Try.underlying41 sz_int64 (.slice (some ⟨gy, 0, none⟩) n cy) Y2 (List.replicate n (-1)) (some ⟨g8, 0, none⟩) n c8 (fun k => k = gy) rfl rfl HI8.out.ry (by have h := (Kd.R_reads' HI8.out.r8).2.2; rw [HLR.out] at h; exact h) HI8.out.b0 HI8.out.b0.size ?_; intro w9 ho hb hg; rw [cp_all HLY.out] at ho; have HI9 := Aside0.mk (ChI.copyY HG.out HI8.out hb hg ho); clear ho hb hg))
    go_roundg (24 - (p + 1))
    case measure => omega
    case rel => exact ⟨p + 1, by omega, by omega, by (try simp only [i64_w]); (first | rfl | (congr 1; omega) | (congr 1; unfold wrap64; omega)), ⟨by rw [HSP.out, show cntT la lb n a + (cntP la lb n a p + 1) = cn + 1 by omega]; exact HI9.out⟩⟩
   | false =>
    rw [hh, if_neg (by decide)] at hsp
    have HSP := Aside0.mk hsp
    clear hsp hh
    have hm2 : w6.cell? ⟨gm, 2, none⟩ = some (.slice (some ⟨gx, 0, none⟩) n cx) := (blk_cell HI6.out.hm 2).trans rfl
    go_wp2_with (first | ((with_reducible refine gate_builtin (b := .copy) (xs := #[.tmp 46, .tmp 47]) rfl ?_); (refine Kd.R_copy (0 : Int) (w0 := w0) w0.heap.size rfl (.tmp 46) (.tmp 47) 41 41 2 rfl Try.underlying41 sz_int64 (.slice (some ⟨gx, 0, none⟩) n cx) X2 (List.replicate n (-1)) (some ⟨g7, 0, none⟩) n c7 (fun k => k = gx) rfl rfl HI6.out.rx (by have h := (Kd.R_reads' HI6.out.r7).2.2; rw [HLR.out] at h; exact h) HI6.out.b0 HI6.out.b0.size ?_); intro w8 ho hb hg; rw [cp_all HLX.out] at ho; have HI8 := Aside0.mk (ChI.copyX HG.out HI6.out hb hg ho); clear ho hb hg; have hm3 : w8.cell? ⟨gm, 3, none⟩ = some (.slice (some ⟨gy, 0, none⟩) n cy) := (blk_cell HI8.out.hm 3).trans rfl) | ((with_reducible refine gate_builtin (b := .copy) (xs := #[.tmp 52, .tmp 53]) rfl ?_); refine Kd.R_copy (0 : Int) (w0 := w0) w0.heap.size rfl (.tmp 52) (.tmp 53) 41 41 2 rfl Try.underlying41 sz_int64 (.slice (some ⟨gy, 0, none⟩) n cy) Y2 (List.replicate n (-1)) (some ⟨g8, 0, none⟩) n c8 (fun k => k = gy) rfl rfl HI8.out.ry (by have h := (Kd.R_reads' HI8.out.r8).2.2; rw [HLR.out] at h; exact h) HI8.out.b0 HI8.out.b0.size ?_; intro w9 ho hb hg; rw [cp_all HLY.out] at ho; have HI9 := Aside0.mk (ChI.copyY HG.out HI8.out hb hg ho); clear ho hb hg))
    go_roundg (24 - (p + 1))
    case measure => omega
    case rel => exact ⟨p + 1, by omega, by omega, by (try simp only [i64_w]); (first | rfl | (congr 1; omega) | (congr 1; unfold wrap64; omega)), ⟨by rw [HSP.out]; exact HI9.out⟩⟩
/-! math/bits.Mul: the shelf's contract, laid here. -/
def lMul_ren : Go.Shelf.Ren := ⟨fun | 212 => 58 | 263 => 64 | 264 => 65 | n => n, fun | 46 => 81 | 51 => 86 | 53 => 89 | 146 => 87 | 148 => 90 | n => n, fun | n => n⟩
theorem lMul : Go.Proofs.Lays.n212 Try.prog lMul_ren := {
  mixed := by kernel_rfl
  f212 := Try.func58.trans (congrArg some (by kernel_rfl))
  f263 := Try.func64.trans (congrArg some (by kernel_rfl))
  f264 := Try.func65.trans (congrArg some (by kernel_rfl))
  t46 := Try.underlying81
  a46 := Try.isAgg81
  z46 := Try.sizeOf81
  v46 := Try.zeroValue81
  t51 := Try.underlying86
  a51 := Try.isAgg86
  z51 := Try.sizeOf86
  v51 := Try.zeroValue86
  t53 := Try.underlying89
  a53 := Try.isAgg89
  z53 := Try.sizeOf89
  v53 := Try.zeroValue89
  t146 := Try.underlying87
  a146 := Try.isAgg87
  z146 := Try.sizeOf87
  v146 := Try.zeroValue87
  t148 := Try.underlying90
  a148 := Try.isAgg90
  z148 := Try.sizeOf90
  v148 := Try.zeroValue90 }
theorem bits_Mul_one (m : Nat) (hm : m ≤ 1000000) (w : World) : Calls Try.prog 58 #[.int .u64 1, .int .u64 (m : Int)] w fun e w' => e = .returned (.tuple #[.int .u64 0, .int .u64 (m : Int)]) ∧ w' = w := by
  have h : Calls Try.prog 58 #[.int .u64 ((1 : Nat) : Int), .int .u64 (m : Int)] w fun e w' => e = .returned (.tuple #[.int .u64 ((1 * m / 18446744073709551616 : Nat) : Int), .int .u64 ((1 * m % 18446744073709551616 : Nat) : Int)]) ∧ w' = w := Go.Proofs.Any.bits_Mul lMul 1 m (by omega) (by omega) w
  rw [Nat.one_mul, Nat.div_eq_of_lt (by omega), Nat.mod_eq_of_lt (by omega)] at h
  exact h
/-! The builtin copy, at elements of any number of cells. -/
theorem run_copy_sz {P : Program} (w : World) (dT sT ty elem : TypeId) (g o dLen dCap : Nat) (a : Addr) (sLen sCap sz : Nat) (cur : Array Value) (t : TypeId) (cs : List Value)
    (hu : P.underlying dT = some (.slice elem)) (hs : (P.info? elem).map (·.size) = some sz)
    (hg : w.heap[g]? = some (.cells cur t (0, 0))) (hn : cs.length = Nat.min sLen dLen * sz)
    (hsrc : ∀ j v, cs[j]? = some v → w.cell? (a.add j) = some v) (hfit : o + cs.length ≤ cur.size) (h1 : ∀ v ∈ cs, v.oneCell' = true) :
    (Builtin.copy_ #[dT, sT] ty #[.slice (some ⟨g, o, none⟩) dLen dCap, .slice (some a) sLen sCap]).run P w =
      .ok (goInt (Nat.min sLen dLen)) (w.setRow g (cur.toList.take o ++ cs ++ cur.toList.drop (o + cs.length)).toArray) := by
  have hl := run_loadCells_list (P := P) w a cs hsrc
  have hst := run_storeCells_at P g o t cs 0 cur w hg (by simpa using hfit) h1
  cases hq : P.info? elem with
  | none => simp [hq] at hs
  | some i =>
    have hi : i.size = sz := by simpa [hq] using hs
    simp [Builtin.copy_, run_underlying hu, Builtin.lenOf, Builtin.firstCells, sizeOf, typeInfo, hq, hi, ← hn, hl, hst]
section
variable {P : Program} {ops : Array Oper} {rest : List Oper} {o : Oper} {a : Act} {Q : Exit → Act → World → Prop} {K : Act → World → Prop} {w w1 : World}
theorem run_copy_op (d s : Operand) (dT sT : TypeId) (ho : o.op = .call { callee := .builtin .copy, args := #[d, s], argTypes := #[dT, sT] }) (vd vs : Value) (hd : a.eval d = vd) (hs : a.eval s = vs) (n : Nat)
    (hrun : ∀ ty, (Builtin.copy_ #[dT, sT] ty #[vd, vs]).run P w = .ok (goInt n) w1) : (execOp a.eval o).run P w = .ok (.value (goInt n)) w1 := by
  simp [execOp, ho, resolve, invoke, builtin, hd, hs, hrun, Result.andThen]
theorem copy_event (hgd : o.guard = none) (d s : Operand) (dT sT : TypeId) (ho : o.op = .call { callee := .builtin .copy, args := #[d, s], argTypes := #[dT, sT] }) (vd vs : Value) (hd : a.eval d = vd) (hs : a.eval s = vs) (n : Nat)
    (hrun : ∀ ty, (Builtin.copy_ #[dT, sT] ty #[vd, vs]).run P w = .ok (goInt n) w1) (h : wpList P ops Q rest (a.put o.dst (goInt n)) w1) : wpList P ops Q (o :: rest) a w :=
  Kd.event_run hgd (run_copy_op d s dT sT ho vd vs hd hs n hrun) h
theorem copy_step (hw : Region.wanted o (yielded ops a.tmps) = true) (d s : Operand) (dT sT : TypeId) (ho : o.op = .call { callee := .builtin .copy, args := #[d, s], argTypes := #[dT, sT] }) (vd vs : Value) (hd : a.eval d = vd) (hs : a.eval s = vs) (n : Nat)
    (hrun : ∀ ty, (Builtin.copy_ #[dT, sT] ty #[vd, vs]).run P w = .ok (goInt n) w1) (h : K (a.put o.dst (goInt n)) w1) : if Region.wanted o (yielded ops a.tmps) = true then Oper.wp P o a w K Q else K (a.put o.dst undef) w :=
  event_step hw (run_copy_op d s dT sT ho vd vs hd hs n hrun) h
end
/-! slices.Repeat at []int64, handed a list of one element. -/
def slices_Repeat_Sint64.f (l0 : List Int) (a1 : Int) : Option (List Int) := match l0 with
  | [e] => if 0 ≤ a1 ∧ a1 ≤ 1000000 then some (List.replicate a1.toNat e) else none
  | _ => none
/-- The cells of an element, and of n of them. -/
def cellsOf_int64 (e : Int) : List Value := [.int .i64 e]
def cellsN_int64 (e : Int) (n : Nat) : List Value := (List.replicate n (cellsOf_int64 e)).flatten
theorem cellsN_int64_len (e : Int) : ∀ n, (cellsN_int64 e n).length = n * 1
  | 0 => by simp [cellsN_int64]
  | n + 1 => by
    have := cellsN_int64_len e n
    unfold cellsN_int64 at this ⊢
    rw [List.replicate_succ, List.flatten_cons, List.length_append, this]
    simp [cellsOf_int64]; omega
theorem cellsN_int64_add (e : Int) (a b : Nat) : cellsN_int64 e (a + b) = cellsN_int64 e a ++ cellsN_int64 e b := by
  unfold cellsN_int64
  rw [← List.replicate_append_replicate, List.flatten_append]
theorem cellsN_int64_one (e : Int) (n : Nat) : ∀ v ∈ cellsN_int64 e n, v.oneCell' = true := by
  intro v hv
  unfold cellsN_int64 at hv
  obtain ⟨l, hl, hv⟩ := List.mem_flatten.1 hv
  obtain ⟨_, rfl⟩ := List.mem_replicate.1 hl
  simp only [cellsOf_int64, List.mem_cons, List.not_mem_nil, or_false] at hv
  subst hv; rfl
theorem cellsN_int64_reps (w : World) (b : Nat) (ok : Nat → Prop) (e : Int) : ∀ n, Reps ((Kd.int .i64).M w b ok) 1 (List.replicate n e) (cellsN_int64 e n)
  | 0 => Reps.none _ _
  | n + 1 => by
    have h := (cellsN_int64_reps w b ok e n).snoc (p := e) (c := cellsOf_int64 e) rfl rfl
    rw [cellsN_int64_add, List.replicate_succ']
    have e1 : cellsN_int64 e 1 = cellsOf_int64 e := by simp [cellsN_int64]
    rw [e1]; exact h
theorem cells_splice_int64 {cur : List Value} {e : Int} {n k m : Nat} (hc : cur.take (n * 1) = cellsN_int64 e n) (hm : m * 1 ≤ cur.length) (hk : n + k ≤ m) :
    (cur.take (n * 1) ++ cellsN_int64 e k ++ cur.drop (n * 1 + (cellsN_int64 e k).length)).take ((n + k) * 1) = cellsN_int64 e (n + k) ∧
    (cur.take (n * 1) ++ cellsN_int64 e k ++ cur.drop (n * 1 + (cellsN_int64 e k).length)).length = cur.length := by
  have l1 := cellsN_int64_len e n
  have l2 := cellsN_int64_len e k
  rw [hc, ← cellsN_int64_add]
  have l3 := cellsN_int64_len e (n + k)
  refine ⟨?_, ?_⟩
  · rw [List.take_append_of_le_length (by omega), List.take_of_length_le (by omega)]
  · rw [List.length_append, yly, l3, l2]; omega
theorem cells_src_int64 {w : World} {g : Nat} {cur : List Value} {T : TypeId} {e : Int} {n k : Nat} (hg : w.heap[g]? = some (.cells cur.toArray T (0, 0))) (hc : cur.take (n * 1) = cellsN_int64 e n) (hk : k ≤ n) :
    ∀ j v, (cellsN_int64 e k)[j]? = some v → w.cell? ((⟨g, 0, none⟩ : Addr).add j) = some v := by
  intro j v hj
  have hl : j < (cellsN_int64 e k).length := (List.getElem?_eq_some_iff.1 hj).1
  rw [cellsN_int64_len] at hl
  rw [add_plain, blk_cell hg j]
  have h2 : (cellsN_int64 e n)[j]? = some v := by
    rw [show n = k + (n - k) by omega, cellsN_int64_add, List.getElem?_append_left (by rw [cellsN_int64_len]; exact hl)]
    exact hj
  rw [← hc, List.getElem?_take] at h2
  split at h2
  · simpa using h2
  · cases h2
set_option maxHeartbeats 8000000 in
set_option maxRecDepth 100000 in
theorem slices_Repeat_Sint64.calls (A0 : Option Addr) (c0 : Nat) (l0 : List Int) (a1 : Int) (r : List Int) (w : World) (hr0 : Kd.C (Kd.int .i64) w A0 l0.length l0) (hc0 : l0.length ≤ c0) (h : slices_Repeat_Sint64.f l0 a1 = some r) :
    Calls Try.prog 46 #[.slice A0 l0.length c0, .int .i64 a1] w fun e w' => ∃ v0_ : Value, e = .returned (v0_) ∧ Kd.R (Kd.int .i64) 2 w' w.heap.size (fun _ => True) v0_ r ∧ Below w.heap.size w w' := by
  match l0, h, hr0, hc0 with
  | [e], h, hr0, hc0 =>
  unfold slices_Repeat_Sint64.f at h
  dsimp only at h
  show Calls Try.prog 46 #[.slice A0 1 c0, .int .i64 a1] w _
  by_cases hc : 0 ≤ a1 ∧ a1 ≤ 1000000
  case neg => rw [if_neg hc] at h; cases h
  rw [if_pos hc] at h
  obtain ⟨m, rfl⟩ := Int.eq_ofNat_of_zero_le hc.1
  rw [Int.toNat_natCast] at h
  have hr := yey h
  have hm9 : m ≤ 1000000 := by omega
  obtain ⟨ad, eA, hcl⟩ : ∃ ad, A0 = some ad ∧ ∀ j v, (cellsOf_int64 e)[j]? = some v → w.cell? (ad.add j) = some v := by
    obtain ⟨ad, e1, h1⟩ := Kd.at_int hr0 0 (by decide) (by simp)
    refine ⟨ad, e1, fun j v hj => ?_⟩
    match j, hj with
    | 0, hj => rw [← show _ = v from by simpa [cellsOf_int64] using hj]; simpa [rd] using h1
    | j + 1, hj => simp [cellsOf_int64] at hj
  subst eA
  clear h hc hr0 hc0
  have HR := Aside0.mk hr
  have HCL := Aside0.mk hcl
  have HMUL := Aside0.mk (bits_Mul_one m hm9)
  clear hr hcl
  have u1 : IntKind.u64.wrap 1 = 1 := by rw [IntKind.wrap_u64]; rfl
  have u2 : IntKind.u64.wrap (m : Int) = (m : Int) := by rw [IntKind.wrap_u64]; omega
  go_enter Try.func46, Try.ntmps46
  go_wp2_with (first
    | (go_at_call 58; refine (HMUL.out _).mono ?_; rintro e w' ⟨rfl, hw⟩; rw [hw]; clear HMUL hw)
    | ((with_reducible refine gate_dst (N := 30) rfl ?_); refine Kd.R_make (Kd.int .i64) (w0 := w) w.heap.size 2 rfl (N := 30) rfl 41 _ _ rfl (m : Int) rfl rfl Try.underlying41 (.int .i64 0) 8 info2 rfl (by decide) (by omega) 0 (ok := fun _ => True) (okp := fun _ => True) rfl (fun _ hk => hk) trivial (by omega) (by omega) (ypy _ _) (yoy _) ?_; intro v1 w1 ho hb _ hnew; rw [Int.toNat_natCast] at ho; obtain ⟨gB, hbs, hge⟩ := hnew; obtain ⟨inner, hown⟩ := Kd.R_own ho; rw [List.length_replicate] at hown; rcases hown.2 with ⟨hv, _⟩ | ⟨g, cap, cur, rfl, hbase, hh, hle, hmax, hcs, _⟩; (case inl => (rw [hv] at hbs; simp [Value.ownBlock] at hbs)); have hszz : ((Kd.int .i64)).sz = 1 := rfl; rw [hszz] at hcs; have HH := Aside0.mk (show w1.heap[g]? = some (.cells cur.toList.toArray 2 (0, 0)) by rw [Array.toArray_toList]; exact hh); have HCS := Aside0.mk (show m ≤ cap ∧ cur.toList.length = cap * 1 ∧ cap ≤ 9223372036854775807 from ⟨hle, by rw [Array.length_toList]; exact hcs, hmax⟩); have HB := Aside0.mk hb; have HG := Aside0.mk hbase; clear ho hb hbs hge hown hh hle hmax hcs hbase hszz; generalize cur.toList = cur at HH HCS; have HN0 := Aside0.mk (show Nat.min 1 m ≤ m ∧ Nat.min 1 m ≤ 1 ∧ (0 < m → Nat.min 1 m = 1) from ⟨Nat.min_le_right _ _, Nat.min_le_left _ _, fun h => Nat.min_eq_left h⟩); generalize hn0 : Nat.min 1 m = n0 at HN0; have HN1 := Aside0.mk hn0; clear hn0)
    | ((with_reducible refine gate_dst (N := 33) rfl ?_); refine copy_event rfl (.tmp 31) (.tmp 32) 41 41 rfl (.slice (some ⟨g, 0, none⟩) m cap) (.slice (some ad) 1 c0) rfl rfl n0 (w1 := w1.setRow g (cur.take 0 ++ cellsN_int64 e n0 ++ cur.drop (0 + (cellsN_int64 e n0).length)).toArray) ?hrun ?_; (case hrun => intro ty; have q := run_copy_sz (P := Try.prog) w1 41 41 ty 2 g 0 m cap ad 1 c0 1 cur.toArray 2 (cellsN_int64 e n0) Try.underlying41 (by kernel_rfl) HH.out (by rw [HN1.out, cellsN_int64_len]) (by intro j v hj; have h1 := HN0.out.2.1; rcases (show n0 = 0 ∨ n0 = 1 by omega) with e0 | e0; (· rw [e0] at hj; simp [cellsN_int64] at hj); (· rw [e0] at hj; exact pw_cell_below HB.out (HCL.out j v (by simpa [cellsN_int64] using hj)))) (by rw [cellsN_int64_len]; have := HN0.out.1; have := HCS.out; simp; omega) (cellsN_int64_one e n0); rw [HN1.out] at q; exact q); have q1 := cells_splice_int64 (cur := cur) (e := e) (n := 0) (k := n0) (m := m) (by simp [cellsN_int64]) (by have := HCS.out; omega) (by have := HN0.out.1; omega); rw [Nat.zero_mul, Nat.zero_add] at q1; have HH2 := Aside0.mk (setRow_heap w1 g cur.toArray (cur.take 0 ++ cellsN_int64 e n0 ++ cur.drop (0 + (cellsN_int64 e n0).length)).toArray 2 (0, 0) HH.out); have HB2 := Aside0.mk (below_setRow HB.out HG.out (cur.take 0 ++ cellsN_int64 e n0 ++ cur.drop (0 + (cellsN_int64 e n0).length)).toArray); have HT := Aside0.mk q1; clear q1 HH HB; generalize World.setRow w1 g _ = w2 at *; generalize (cur.take 0 ++ cellsN_int64 e n0 ++ cur.drop (0 + (cellsN_int64 e n0).length)) = cur2 at *))
  clear HCL HN1
  have hn1 := HN0.out.1
  have HT1 := Aside0.mk HT.out.1
  have HT2 := Aside0.mk (show cur2.length = cap * 1 by rw [HT.out.2]; exact HCS.out.2.1)
  have HPOS := Aside0.mk HN0.out.2.2
  clear HT HN0
  have hcap : m ≤ cap := HCS.out.1
  have hcap9 : cap ≤ 9223372036854775807 := HCS.out.2.2
  clear HCS
  go_loopg [8] m (fun gg v8 w' => ∃ (n : Nat) (cur : List Value), n ≤ m ∧ m - n ≤ gg ∧ Aside0 (0 < m → 0 < n) ∧ v8 = .int .i64 n ∧ Aside0 (w'.heap[g]? = some (.cells cur.toArray 2 (0, 0))) ∧ Aside0 (cur.take (n * 1) = cellsN_int64 e n) ∧ Aside0 (cur.length = cap * 1) ∧ Aside0 (Below w.heap.size w w'))
  case atStart => exact ⟨n0, cur2, hn1, by omega, ⟨fun h => by rw [HPOS.out h]; omega⟩, rfl, HH2, HT1, HT2, HB2⟩
  case round =>
    clear HH2 HT1 HT2 HB2 hn1 HPOS
    obtain ⟨n, cur, hnm, hgg, HP, rfl, HH, HT, HL, HB⟩ := hrel
    by_cases hlt : n < m
    · have hltz : (n : Int) < (m : Int) := by omega
      have hn0 : 0 < n := HP.out (by omega)
      have hne : cap ≠ n := by omega
      have hnc : n ≤ cap := by omega
      go_wp2
      refine start_ (n := 10) (S := fun _ => True) (ds := []) #[false, false, false, false, false, false, false, false, false, false] (by kernel_rfl) rfl rfl trivial (fun hHeld => ?_)
      refine pure_ (i := 0) (N := some 38) (v := ?_) (a' := ?_) #[true, false, false, false, false, false, false, false, false, false] rfl rfl (by kernel_rfl) (fun _ _ _ h => h) (Or.inl ⟨by rfl, ?_⟩) ?_ ?_
      rotate_left
      · intro w'
        go_simp
        with_reducible rfl
      rotate_left
      · simp only [Act.put, yay, yby, ycy, i64_w, i32_w]
        rfl
      refine pure_ (i := 1) (N := some 39) (v := ?_) (a' := ?_) #[true, true, false, false, false, false, false, false, false, false] rfl rfl (by kernel_rfl) (fun _ _ _ h => h) (Or.inl ⟨by rfl, ?_⟩) ?_ ?_
      rotate_left
      · intro w'
        go_simp
        with_reducible rfl
      rotate_left
      · simp only [Act.put, yay, yby, ycy, i64_w, i32_w]
        rfl
      refine pure_ (i := 2) (N := some 40) (v := ?_) (a' := ?_) #[true, true, true, false, false, false, false, false, false, false] rfl rfl (by kernel_rfl) (fun _ _ _ h => h) (Or.inl ⟨by rfl, ?_⟩) ?_ ?_
      rotate_left
      · intro w'
        go_simp
        with_reducible rfl
      rotate_left
      · simp only [Act.put, yay, yby, ycy, i64_w, i32_w]
        rfl
      refine pure_ (i := 3) (N := some 41) (v := ?_) (a' := ?_) #[true, true, true, true, false, false, false, false, false, false] rfl rfl (by kernel_rfl) (fun _ _ _ h => h) (Or.inl ⟨by rfl, ?_⟩) ?_ ?_
      rotate_left
      · intro w'
        go_simp
        with_reducible rfl
      rotate_left
      · simp only [Act.put, yay, yby, ycy, i64_w, i32_w]
        rfl
      refine pure_ (i := 4) (N := some 42) (v := ?_) (a' := ?_) #[true, true, true, true, true, false, false, false, false, false] rfl rfl (by kernel_rfl) (fun _ _ _ h => h) (Or.inl ⟨by rfl, ?_⟩) ?_ ?_
      rotate_left
      · intro w'
        go_simp
        with_reducible rfl
      rotate_left
      · simp only [Act.put, yay, yby, ycy, i64_w, i32_w]
        rfl
      refine pure_ (i := 5) (N := some 43) (v := ?_) (a' := ?_) #[true, true, true, true, true, true, false, false, false, false] rfl rfl (by kernel_rfl) (fun _ _ _ h => h) (Or.inl ⟨by rfl, ?_⟩) ?_ ?_
      rotate_left
      · intro w'
        go_simp
        with_reducible rfl
      rotate_left
      · simp only [Act.put, yay, yby, ycy, i64_w, i32_w]
        rfl
      refine pure_ (i := 6) (N := some 44) (v := ?_) (a' := ?_) #[true, true, true, true, true, true, true, false, false, false] rfl rfl (by kernel_rfl) (fun _ _ _ h => h) (Or.inl ⟨by rfl, ?_⟩) ?_ ?_
      rotate_left
      · intro w'
        go_simp
        with_reducible rfl
      rotate_left
      · simp only [Act.put, yay, yby, ycy, i64_w, i32_w]
        rfl
      obtain ⟨k, hk, hk1, hk2, hk3⟩ : ∃ k, Nat.min n (m - n) = k ∧ k ≤ n ∧ k ≤ m - n ∧ 0 < k := ⟨_, rfl, Nat.min_le_left _ _, Nat.min_le_right _ _, Nat.lt_min.2 ⟨hn0, by omega⟩⟩
      refine one_ (i := 7) (N := some 45) #[true, true, true, true, true, true, true, true, false, false] rfl rfl (by kernel_rfl) (by decide) (fun K hK => ?_)
      refine copy_step (by rfl) (.tmp 41) (.tmp 44) 41 41 rfl (.slice (some ⟨g, n * 1, none⟩) (m - n) (cap - n)) (.slice (some ⟨g, 0, none⟩) n cap) (by first | rfl | (rw [Nat.mul_one]; rfl)) (by rfl) k (w1 := wr.drew.setRow g (cur.take (n * 1) ++ cellsN_int64 e k ++ cur.drop (n * 1 + (cellsN_int64 e k).length)).toArray) ?hrun ?_
      case hrun =>
        intro ty
        have q := run_copy_sz (P := Try.prog) wr.drew 41 41 ty 2 g (n * 1) (m - n) (cap - n) ⟨g, 0, none⟩ n cap 1 cur.toArray 2 (cellsN_int64 e k) Try.underlying41 (by kernel_rfl) HH.out (by rw [hk]; exact cellsN_int64_len _ _) (cells_src_int64 (w := wr.drew) HH.out HT.out hk1) (by rw [cellsN_int64_len, List.size_toArray, HL.out]; omega) (cellsN_int64_one e _)
        rw [hk] at q; exact q
      refine hK.out _ _ trivial (fun hHeld => ?_)
      clear hK K
      refine norm_ (a' := ?_) ?_ ?_
      rotate_left
      · show Act.put _ (some 45) _ = _
        simp only [Act.put, yay, yby, ycy, i64_w, i32_w]
        rfl
      have q1 := cells_splice_int64 (cur := cur) (e := e) (n := n) (k := k) (m := m) HT.out (by rw [HL.out]; omega) (by omega)
      have HH3 := Aside0.mk (setRow_heap wr.drew g cur.toArray (cur.take (n * 1) ++ cellsN_int64 e k ++ cur.drop (n * 1 + (cellsN_int64 e k).length)).toArray 2 (0, 0) HH.out)
      have HB3 := Aside0.mk (below_setRow HB.out.drew HG.out (cur.take (n * 1) ++ cellsN_int64 e k ++ cur.drop (n * 1 + (cellsN_int64 e k).length)).toArray)
      have HT3 := Aside0.mk q1.1
      have HL3 := Aside0.mk (q1.2.trans HL.out)
      clear q1 HH HB HT HL hk
      generalize World.setRow wr.drew g _ = w3 at *
      generalize (cur.take (n * 1) ++ cellsN_int64 e k ++ cur.drop (n * 1 + (cellsN_int64 e k).length)) = cur3 at *
      refine pure_ (i := 8) (N := some 46) (v := ?_) (a' := ?_) #[true, true, true, true, true, true, true, true, true, false] rfl rfl (by kernel_rfl) (fun _ _ _ h => h) (Or.inl ⟨by rfl, ?_⟩) ?_ ?_
      rotate_left
      · intro w'
        go_simp
        with_reducible rfl
      rotate_left
      · simp only [Act.put, yay, yby, ycy, i64_w, i32_w]
        rfl
      refine pure_ (i := 9) (N := some 8) (v := ?_) (a' := ?_) #[true, true, true, true, true, true, true, true, true, true] rfl rfl (by kernel_rfl) (fun _ _ _ h => h) (Or.inl ⟨by rfl, ?_⟩) ?_ ?_
      rotate_left
      · intro w'
        go_simp
        with_reducible rfl
      rotate_left
      · simp only [Act.put, yay, yby, ycy, i64_w, i32_w]
        rfl
      refine done_ (by kernel_rfl) ?_
      go_wp2
      go_roundg (m - (n + k))
      case measure => omega
      case rel => exact ⟨n + k, cur3, by omega, by omega, ⟨fun _ => by omega⟩, by (have hw : wrap64 ((n : Int) + (k : Int)) = ((n + k : Nat) : Int) := by unfold wrap64; omega); rw [hw], HH3, HT3, HL3, HB3⟩
    · obtain rfl : n = m := by omega
      have hltz : ¬ (n : Int) < (n : Int) := by omega
      have hR : Kd.R (Kd.int .i64) 2 wr w.heap.size (fun _ => True) (.slice (some ⟨g, 0, none⟩) n cap) r := by
        rw [← HR.out]
        have hown : wr.ownsRow w.heap.size 2 ((Kd.int .i64)).sz (.slice (some ⟨g, 0, none⟩) n cap) (List.replicate n e).length (cellsN_int64 e n) := by
          rw [List.length_replicate]
          exact ⟨by rw [cellsN_int64_len]; rfl, .inr ⟨g, cap, cur.toArray, rfl, HG.out, HH.out, hcap, hcap9, by rw [List.size_toArray]; exact HL.out, by show cur.toArray.toList.take (n * 1) = _; exact HT.out⟩⟩
        exact ⟨fun _ _ => trivial, _, hown, cellsN_int64_reps _ _ _ e n⟩
      have HRR := Aside0.mk hR
      clear hR
      go_wp2
      go_ret
      exact ⟨_, rfl, HRR.out, HB.out⟩
  | [], h, _, _ => simp [slices_Repeat_Sint64.f] at h
  | _ :: _ :: _, h, _, _ => simp [slices_Repeat_Sint64.f] at h
/-! newMatcher: two rows of -1, and the matcher over them. -/
set_option maxHeartbeats 8000000 in
set_option maxRecDepth 100000 in
theorem impl_newMatcher.calls (n : Nat) (hn : n ≤ 8) (hn0 : 0 < n) (A0 : Option Addr) (c0 : Nat) (A1 : Option Addr) (c1 : Nat) (w : World) :
    Calls Try.prog 25 #[.agg #[.slice A0 n c0], .agg #[.slice A1 n c1]] w fun e w' => ∃ gm gx cx gy cy : Nat, e = .returned (.pointer (some ⟨gm, 0, none⟩)) ∧ w'.heap[gm]? = some (.cells #[.slice A0 n c0, .slice A1 n c1, .slice (some ⟨gx, 0, none⟩) n cx, .slice (some ⟨gy, 0, none⟩) n cy] 72 (0, 0)) ∧
      Kd.R (Kd.int .i64) 2 w' w.heap.size (fun k => k = gx) (.slice (some ⟨gx, 0, none⟩) n cx) (List.replicate n (-1)) ∧ Kd.R (Kd.int .i64) 2 w' w.heap.size (fun k => k = gy) (.slice (some ⟨gy, 0, none⟩) n cy) (List.replicate n (-1)) ∧ gx ≠ gy ∧ Below w.heap.size w w' := by
  have BA := Aside0.mk (blk_alloc (blk_alloc (new_at4 (W := w) rfl (.cells #[.slice A0 n c0] 30)) (.cells #[.slice A1 n c1] 30)) (.cells #[.int .i64 (-1)] 2))
  have BB := Aside0.mk (blk_alloc (new_at4 (W := w.alloc (.cells #[.slice A0 n c0] 30)) (n := w.heap.size + 1) (by simp) (.cells #[.slice A1 n c1] 30)) (.cells #[.int .i64 (-1)] 2))
  have hz2 : ((w.alloc (.cells #[.slice A0 n c0] 30)).alloc (.cells #[.slice A1 n c1] 30)).heap.size = w.heap.size + 2 := by simp
  have HB := Aside0.mk (below_alloc (below_alloc (below_alloc (ypy w.heap.size w) (.cells #[.slice A0 n c0] 30)) (.cells #[.slice A1 n c1] 30)) (.cells #[.int .i64 (-1)] 2))
  have HCF := Aside0.mk ((Kd.R_reads' (show Kd.R (Kd.int .i64) 2 (((w.alloc (.cells #[.slice A0 n c0] 30)).alloc (.cells #[.slice A1 n c1] 30)).alloc (.cells #[.int .i64 (-1)] 2)) (w.heap.size + 2) (fun _ => True) (.slice (some ⟨w.heap.size + 2, 0, none⟩) 1 1) [(-1 : Int)] from
    Kd.R_of_own ⟨by simp [encs], .inr ⟨w.heap.size + 2, 1, #[.int .i64 (-1)], rfl, yoy _, new_at4 hz2 _, yoy 1, by decide, rfl, rfl⟩⟩ (fun _ _ => trivial))).2.2)
  have HRP := Aside0.mk (show slices_Repeat_Sint64.f [-1] (n : Int) = some (List.replicate n (-1)) by
    show (if 0 ≤ (n : Int) ∧ (n : Int) ≤ 1000000 then some (List.replicate (n : Int).toNat (-1 : Int)) else none) = _
    rw [if_pos ⟨by omega, by omega⟩, Int.toNat_natCast])
  have HLR : Aside0 ((List.replicate n (-1 : Int)).length = n) := ⟨List.length_replicate⟩
  clear hz2
  go_enter Try.func25, Try.ntmps25
  have hcA : (((w.alloc (.cells #[.slice A0 n c0] 30)).alloc (.cells #[.slice A1 n c1] 30)).alloc (.cells #[.int .i64 (-1)] 2)).cell? ⟨w.heap.size, 0, none⟩ = some (.slice A0 n c0) := (blk_cell BA.out 0).trans rfl
  go_wp2_with fail
  generalize ((w.alloc (.cells #[.slice A0 n c0] 30)).alloc (.cells #[.slice A1 n c1] 30)).alloc (.cells #[.int .i64 (-1)] 2) = wA at *
  clear hcA
  refine (slices_Repeat_Sint64.calls (some ⟨w.heap.size + 2, 0, none⟩) 1 [-1] (n : Int) _ wA HCF.out (yoy 1) HRP.out).mono ?_
  rintro e w2 ⟨v5, rfl, ho5, hb2⟩
  obtain ⟨gx, cx, hv5, hgx, _, _⟩ := Kd.R_form ho5 (by rw [HLR.out]; exact hn0)
  rw [HLR.out] at hv5
  subst hv5
  have BA2 := Aside0.mk (blk_below BA.out hb2)
  have BB2 := Aside0.mk (blk_below BB.out hb2)
  have HB2 := Aside0.mk (below_step HB.out hb2)
  have HX2 := Aside0.mk (Kd.R_mono (Kd.R_tight rfl (Kd.R_lower ho5 HB.out.size)) (ok' := fun k => k = gx) (fun k hk => yey hk))
  have hgxl : gx < w2.heap.size := Kd.R_lt HX2.out gx rfl
  clear hb2 ho5 BA BB HB HCF HRP
  have hHs := Aside0.mk (show w2.cell? ⟨w.heap.size, 0, none⟩ = some (.slice A0 n c0) ∧ w2.cell? ⟨w.heap.size + 1, 0, none⟩ = some (.slice A1 n c1) from ⟨(blk_cell BA2.out 0).trans rfl, (blk_cell BB2.out 0).trans rfl⟩)
  go_wp2_with fail
  refine start_ (n := 8) (S := fun w' => w'.cell? ⟨w.heap.size, 0, none⟩ = some (.slice A0 n c0) ∧ w'.cell? ⟨w.heap.size + 1, 0, none⟩ = some (.slice A1 n c1)) (ds := [8]) #[false, false, false, false, false, false, false, false] (by kernel_rfl) rfl rfl hHs.out (fun hHeld => ?_)
  have hA3 := blk_drew BA2.out
  have hC3 := blk_drew BB2.out
  have hX3 := Kd.R_drew HX2.out
  have hB3 := below_drew HB2.out
  have hz3 : gx < w2.drew.heap.size := hgxl
  clear BA2 BB2 HX2 HB2 hgxl hHs
  generalize w2.drew = w3 at hA3 hC3 hX3 hB3 hz3 hHeld ⊢
  refine take_ (i := 0) (N := some 11) (v := ?_) (a' := ?_) #[true, false, false, false, false, false, false, false] rfl rfl (by kernel_rfl) (fun _ _ _ h => h) (Or.inl ⟨by rfl, ?_⟩) hHeld ?_ ?_
  rotate_left
  · rintro w' ⟨s0, s1⟩
    go_simp
    with_reducible rfl
  rotate_left
  · simp only [Act.put, yay, yby, ycy, i64_w, i32_w]
    rfl
  refine take_ (i := 1) (N := some 12) (v := ?_) (a' := ?_) #[true, true, false, false, false, false, false, false] rfl rfl (by kernel_rfl) (fun _ _ _ h => h) (Or.inl ⟨by rfl, ?_⟩) hHeld ?_ ?_
  rotate_left
  · rintro w' ⟨s0, s1⟩
    go_simp
    with_reducible rfl
  rotate_left
  · simp only [Act.put, yay, yby, ycy, i64_w, i32_w]
    rfl
  refine pure_ (i := 2) (N := some 13) (v := ?_) (a' := ?_) #[true, true, true, false, false, false, false, false] rfl rfl (by kernel_rfl) (fun _ _ _ h => h) (Or.inl ⟨by rfl, ?_⟩) ?_ ?_
  rotate_left
  · rintro w'
    go_simp
    with_reducible rfl
  rotate_left
  · simp only [Act.put, yay, yby, ycy, i64_w, i32_w]
    rfl
  refine pure_ (i := 3) (N := some 14) (v := ?_) (a' := ?_) #[true, true, true, true, false, false, false, false] rfl rfl (by kernel_rfl) (fun _ _ _ h => h) (Or.inl ⟨by rfl, ?_⟩) ?_ ?_
  rotate_left
  · rintro w'
    go_simp
    with_reducible rfl
  rotate_left
  · simp only [Act.put, yay, yby, ycy, i64_w, i32_w]
    rfl
  refine one_ (i := 4) (N := some 15) #[true, true, true, true, true, false, false, false] rfl rfl (by kernel_rfl) (by decide) (fun K hK => ?_)
  refine goes_ Try.func47 (by kernel_rfl) rfl #[.slice (some ⟨gx, 0, none⟩) n cx] (by rfl) rfl rfl (by (try simp only [yiy, yjy, yky]); first | done | rfl) ?_
  have hcall := slices_Clone_Sint64.calls (some ⟨gx, 0, none⟩) cx (List.replicate n (-1)) (List.replicate n (-1)) w3 (Kd.R_reads' hX3).2.2 (by rw [HLR.out]; exact (Kd.R_reads' hX3).2.1) (if_pos (by rw [HLR.out]; omega))
  rw [HLR.out] at hcall
  refine hcall.mono ?_
  rintro e w4 ⟨v8, rfl, ho8, hb4⟩
  obtain ⟨gy, cy, hv8, hgy, _, _⟩ := Kd.R_form ho8 (by rw [HLR.out]; exact hn0)
  rw [HLR.out] at hv8
  subst hv8
  have hA4 := blk_below hA3 hb4
  have hC4 := blk_below hC3 hb4
  have HX4 := Aside0.mk (Kd.R_below hX3 hb4)
  have HB4 := Aside0.mk (below_step hB3 hb4)
  have HY4 := Aside0.mk (Kd.R_mono (Kd.R_tight rfl (Kd.R_lower ho8 hB3.size)) (ok' := fun k => k = gy) (fun k hk => yey hk))
  have hne : gx ≠ gy := by omega
  have hHe := Aside0.mk (show w4.cell? ⟨w.heap.size, 0, none⟩ = some (.slice A0 n c0) ∧ w4.cell? ⟨w.heap.size + 1, 0, none⟩ = some (.slice A1 n c1) from ⟨(blk_cell hA4 0).trans rfl, (blk_cell hC4 0).trans rfl⟩)
  have HAC := Aside0.mk (And.intro hA4 hC4)
  clear hb4 ho8 hcall hA3 hC3 hX3 hB3 hHeld hA4 hC4
  refine ⟨_, rfl, ?_⟩
  refine hK.out _ _ hHe.out (fun hHeld => ?_)
  clear hK K
  refine norm_ (a' := ?_) ?_ ?_
  rotate_left
  · show Act.put _ (some 15) _ = _
    simp only [Act.put, yay, yby, ycy, i64_w, i32_w]
    rfl
  clear hHe
  refine pure_ (i := 5) (N := some 16) (v := ?_) (a' := ?_) #[true, true, true, true, true, true, false, false] rfl rfl (by kernel_rfl) (fun _ _ _ h => h) (Or.inl ⟨by rfl, ?_⟩) ?_ ?_
  rotate_left
  · rintro w'
    go_simp
    with_reducible rfl
  rotate_left
  · simp only [Act.put, yay, yby, ycy, i64_w, i32_w]
    rfl
  refine one_ (i := 6) (N := some 17) #[true, true, true, true, true, true, true, false] rfl rfl (by kernel_rfl) (by decide) (fun K hK => ?_)
  refine value_ (w1 := ?_) (v := ?_) (by rfl) rfl ?_ ?_
  rotate_left 2
  · go_simp
    constructor
    · rfl
    · rfl
  have hbw := below_alloc (ypy w4.heap.size w4) (.cells #[.slice A0 n c0, .slice A1 n c1, .slice (some ⟨gx, 0, none⟩) n cx, .slice (some ⟨gy, 0, none⟩) n cy] 72)
  have HM5 := Aside0.mk (new_at4 (W := w4) rfl (.cells #[.slice A0 n c0, .slice A1 n c1, .slice (some ⟨gx, 0, none⟩) n cx, .slice (some ⟨gy, 0, none⟩) n cy] 72))
  have HX5 := Aside0.mk (Kd.R_below HX4.out hbw)
  have HY5 := Aside0.mk (Kd.R_below HY4.out hbw)
  have HB5 := Aside0.mk (below_step HB4.out hbw)
  have hHe := Aside0.mk (show (w4.alloc (.cells #[.slice A0 n c0, .slice A1 n c1, .slice (some ⟨gx, 0, none⟩) n cx, .slice (some ⟨gy, 0, none⟩) n cy] 72)).cell? ⟨w.heap.size, 0, none⟩ = some (.slice A0 n c0) ∧ (w4.alloc (.cells #[.slice A0 n c0, .slice A1 n c1, .slice (some ⟨gx, 0, none⟩) n cx, .slice (some ⟨gy, 0, none⟩) n cy] 72)).cell? ⟨w.heap.size + 1, 0, none⟩ = some (.slice A1 n c1) from ⟨(blk_cell (blk_below HAC.out.1 hbw) 0).trans rfl, (blk_cell (blk_below HAC.out.2 hbw) 0).trans rfl⟩)
  clear hbw hHeld
  refine hK.out _ _ hHe.out (fun hHeld => ?_)
  clear hK K
  refine norm_ (a' := ?_) ?_ ?_
  rotate_left
  · show Act.put _ (some 17) _ = _
    simp only [Act.put, yay, yby, ycy, i64_w, i32_w]
    rfl
  refine pure_ (i := 7) (N := some 4) (v := ?_) (a' := ?_) #[true, true, true, true, true, true, true, true] rfl rfl (by kernel_rfl) (fun _ _ _ h => h) (Or.inl ⟨by rfl, ?_⟩) ?_ ?_
  rotate_left
  · rintro w'
    go_simp
    with_reducible rfl
  rotate_left
  · simp only [Act.put, yay, yby, ycy, i64_w, i32_w]
    rfl
  refine done_ (by kernel_rfl) ?_
  clear hHeld hHe
  go_wp2
  go_ret
  exact ⟨w4.heap.size, gx, cx, gy, cy, rfl, HM5.out, HX5.out, HY5.out, hne, HB5.out⟩
/-! IsomorphismCount: the program counts the searches that come to their end. -/
/-- Both triangulations can be read. -/
def icOkI (a b : List (List SFace)) : Prop := a.length ≤ 8 ∧ TrOk a a.length ∧ TrOk b a.length
instance (a b : List (List SFace)) : Decidable (icOkI a b) := by
  unfold icOkI
  exact inferInstance
def impl_IsomorphismCount.f (k : Nat) (a b : List (List SFace)) : Option Int := (impl_isTriangulation.f k a).bind fun t1 => if t1 = true then ((impl_isTriangulation.f k b).bind fun t2 => if t2 = true then ((impl_Triangulation_components.f k a).bind fun cs => (impl_classCount.f cs).bind fun m => if m > 1 then some (-1) else (if a.length = b.length then (if a.length = 0 then some 1 else if icOkI a b then some (cntT a b a.length a.length : Int) else none) else some 0)) else some (-1)) else some (-1)
set_option maxHeartbeats 8000000 in
set_option maxRecDepth 100000 in
theorem impl_IsomorphismCount.calls (k : Nat) (A0_0 : Option Addr) (c0_0 : Nat) (l0_0 : List (List SFace)) (A1_0 : Option Addr) (c1_0 : Nat) (l1_0 : List (List SFace)) (r : Int) (w : World) (hr0_0 : Kd.C (Kd.slice 56 kFace) w A0_0 l0_0.length l0_0) (hc0_0 : l0_0.length ≤ c0_0) (hr1_0 : Kd.C (Kd.slice 56 kFace) w A1_0 l1_0.length l1_0) (hc1_0 : l1_0.length ≤ c1_0) (h : impl_IsomorphismCount.f k l0_0 l1_0 = some r) :
    Calls Try.prog 11 #[.agg #[.slice A0_0 l0_0.length c0_0], .agg #[.slice A1_0 l1_0.length c1_0]] w fun e w' => e = .returned (.int .i64 r) ∧ Below w.heap.size w w' := by
  have HR0 := Aside0.mk hr0_0
  have HR1 := Aside0.mk hr1_0
  have HC0 := Aside0.mk hc0_0
  have HC1 := Aside0.mk hc1_0
  have HH := Aside0.mk h
  clear hr0_0 hr1_0 hc0_0 hc1_0 h
  have BA := Aside0.mk (blk_alloc (new_at4 (W := w) rfl (.cells #[.slice A0_0 l0_0.length c0_0] 30)) (.cells #[.slice A1_0 l1_0.length c1_0] 30))
  have BB := Aside0.mk (new_at4 (W := w.alloc (.cells #[.slice A0_0 l0_0.length c0_0] 30)) (n := w.heap.size + 1) (by simp) (.cells #[.slice A1_0 l1_0.length c1_0] 30))
  have HB := Aside0.mk (below_alloc (below_alloc (ypy w.heap.size w) (.cells #[.slice A0_0 l0_0.length c0_0] 30)) (.cells #[.slice A1_0 l1_0.length c1_0] 30))
  obtain ⟨t1, h1, h⟩ := ydy.mp HH.out
  have H1 := Aside0.mk h1
  clear h1 HH
  have HH := Aside0.mk h
  clear h
  go_enter Try.func11, Try.ntmps11
  go_wp2_with fail
  generalize World.alloc (World.alloc w _) _ = wA at BA BB HB ⊢
  refine (impl_isTriangulation.calls k A0_0 c0_0 l0_0 t1 _ (Kd.C_below HR0.out HB.out) HC0.out H1.out).mono ?_
  rintro e w2 ⟨rfl, hb⟩
  have BA2 := Aside0.mk (blk_below BA.out hb)
  have BB2 := Aside0.mk (blk_below BB.out hb)
  have HB2 := Aside0.mk (below_step HB.out hb)
  clear hb BA BB HB
  cases t1 with
  | false =>
    have hr : (-1 : Int) = r := yey HH.out
    subst hr
    clear HH
    go_wp2
    go_ret
    exact ⟨rfl, HB2.out⟩
  | true =>
    obtain ⟨t2, h2, h⟩ := ydy.mp ((if_pos rfl).symm.trans HH.out)
    have H2 := Aside0.mk h2
    clear h2 HH
    have HH := Aside0.mk h
    clear h
    have hb2 : w2.cell? ⟨w.heap.size + 1, 0, none⟩ = some (.slice A1_0 l1_0.length c1_0) := (blk_cell BB2.out 0).trans rfl
    go_wp2_with fail
    refine (impl_isTriangulation.calls k A1_0 c1_0 l1_0 t2 _ (Kd.C_below HR1.out HB2.out) HC1.out H2.out).mono ?_
    rintro e w3 ⟨rfl, hb⟩
    have BA3 := Aside0.mk (blk_below BA2.out hb)
    have BB3 := Aside0.mk (blk_below BB2.out hb)
    have HB3 := Aside0.mk (below_step HB2.out hb)
    clear hb BA2 BB2 HB2 hb2
    cases t2 with
    | false =>
      have hr : (-1 : Int) = r := yey HH.out
      subst hr
      clear HH
      go_wp2
      go_ret
      exact ⟨rfl, HB3.out⟩
    | true =>
      obtain ⟨cs, h3, h⟩ := ydy.mp ((if_pos rfl).symm.trans HH.out)
      have H3 := Aside0.mk h3
      clear h3 HH
      obtain ⟨m, h4, h⟩ := ydy.mp h
      have H4 := Aside0.mk h4
      clear h4
      have hb3 : w3.cell? ⟨w.heap.size, 0, none⟩ = some (.slice A0_0 l0_0.length c0_0) := (blk_cell BA3.out 0).trans rfl
      have HH := Aside0.mk h
      clear h
      go_wp2_with fail
      refine (impl_Triangulation_components.calls k A0_0 c0_0 l0_0 cs _ (Kd.C_below HR0.out HB3.out) HC0.out H3.out).mono ?_
      rintro e w31 ⟨vc, rfl, hoc, hb⟩
      obtain ⟨Ac, cc, hvc⟩ := Kd.R_slice hoc
      subst hvc
      have BA31 := Aside0.mk (blk_below BA3.out hb)
      have BB31 := Aside0.mk (blk_below BB3.out hb)
      have HB31 := Aside0.mk (below_step HB3.out hb)
      have HOC := Aside0.mk hoc
      clear hb BA3 BB3 HB3 hb3 hoc
      go_wp2_with fail
      refine (impl_classCount.calls Ac cc cs m _ (Kd.R_reads' HOC.out).2.2 (Kd.R_reads' HOC.out).2.1 H4.out).mono ?_
      rintro e w4 ⟨rfl, hd⟩
      have hb := Drawn0.below hd
      have BA4 := Aside0.mk (blk_below BA31.out hb)
      have BB4 := Aside0.mk (blk_below BB31.out hb)
      have HB4 := Aside0.mk (below_step HB31.out hb)
      clear hb hd BA31 BB31 HB31 HOC
      have h := HH.out
      clear HH
      by_cases hm1 : m > 1
      · rw [if_pos hm1] at h
        have hr := yey h
        subst hr
        clear h
        go_wp2
        go_ret
        exact ⟨rfl, HB4.out⟩
      · rw [if_neg hm1] at h
        have hm2 : decide (m > 1) = false := yhy hm1
        have ha4 : w4.cell? ⟨w.heap.size, 0, none⟩ = some (.slice A0_0 l0_0.length c0_0) := (blk_cell BA4.out 0).trans rfl
        have hb4 : w4.cell? ⟨w.heap.size + 1, 0, none⟩ = some (.slice A1_0 l1_0.length c1_0) := (blk_cell BB4.out 0).trans rfl
        by_cases hl : l0_0.length = l1_0.length
        · rw [if_pos hl] at h
          by_cases hz : l0_0.length = 0
          · rw [if_pos hz] at h
            have hr := yey h
            subst hr
            clear h
            have hz1 : l1_0.length = 0 := by omega
            go_wp2
            go_ret
            exact ⟨rfl, HB4.out⟩
          · rw [if_neg hz] at h
            by_cases hk : icOkI l0_0 l1_0
            case neg => rw [if_neg hk] at h; cases h
            rw [if_pos hk] at h
            have hr := yey h
            subst hr
            clear h
            obtain ⟨q3, q4, q5⟩ := hk
            have Q4 := Aside0.mk q4
            have Q5 := Aside0.mk q5
            clear q4 q5
            rw [← hl] at hb4
            have HCB := Aside0.mk (show l0_0.length ≤ c1_0 by have := HC1.out; omega)
            have HRB := Aside0.mk (show Kd.C (Kd.slice 56 kFace) w A1_0 l0_0.length l1_0 by rw [hl]; exact HR1.out)
            have BBn := Aside0.mk (show w4.heap[w.heap.size + 1]? = some (.cells #[.slice A1_0 l0_0.length c1_0] 30 (0, 0)) by rw [hl]; exact BB4.out)
            have HLL := Aside0.mk hl
            clear hl BB4
            generalize hnl : l0_0.length = n at *
            have HNL := Aside0.mk hnl
            clear hnl
            have hnz : ((n : Int) == 0) = false := beq_eq_false_iff_ne.mpr (by omega)
            have hn0 : 0 < n := by omega
            have hbw := below_alloc (ypy w4.heap.size w4) (.cells #[.int .i64 0] 2)
            have HC5 := Aside0.mk (new_at4 (W := w4) rfl (.cells #[.int .i64 0] 2))
            have BA5 := Aside0.mk (blk_below BA4.out hbw)
            have BB5 := Aside0.mk (blk_below BBn.out hbw)
            have HB5 := Aside0.mk (below_step HB4.out hbw)
            have ha5 : (w4.alloc (.cells #[.int .i64 0] 2)).cell? ⟨w.heap.size, 0, none⟩ = some (.slice A0_0 n c0_0) := (blk_cell BA5.out 0).trans rfl
            have hb5 : (w4.alloc (.cells #[.int .i64 0] 2)).cell? ⟨w.heap.size + 1, 0, none⟩ = some (.slice A1_0 n c1_0) := (blk_cell BB5.out 0).trans rfl
            have hgcw : w.heap.size ≤ w4.heap.size := HB4.out.size
            clear hbw
            go_wp2_with fail
            generalize hgc : w4.heap.size = gc at *
            generalize w4.alloc (.cells #[.int .i64 0] 2) = w5 at *
            clear ha4 hb4 ha5 hb5 BA4 BBn HB4 hgc BA5 BB5
            refine (impl_newMatcher.calls n q3 hn0 A0_0 c0_0 A1_0 c1_0 w5).mono ?_
            rintro e w6 ⟨gm, gx, cx, gy, cy, rfl, hm, hx, hy, hne, hb6⟩
            have hgcl : gc < w5.heap.size := blk_lt HC5.out
            have hgx : w5.heap.size ≤ gx := Kd.R_base hx gx rfl
            have hgy : w5.heap.size ≤ gy := Kd.R_base hy gy rfl
            have HC6 := Aside0.mk (blk_below HC5.out hb6)
            have HB6 := Aside0.mk (below_step HB5.out hb6)
            have HM := Aside0.mk hm
            have HX := Aside0.mk (Kd.R_lower hx HB5.out.size)
            have HY := Aside0.mk (Kd.R_lower hy HB5.out.size)
            clear hm hx hy hb6 HC5
            go_wp2_with fail
            refine (impl_choices.calls n q3 hn0 A0_0 c0_0 l0_0 A1_0 c1_0 l1_0 gm gx cx gy cy gc w w6 HB6.out HR0.out HC0.out HRB.out HCB.out Q4.out Q5.out HM.out HX.out HY.out hne HC6.out (by omega) (by omega) hgcw).mono ?_
            rintro e w7 ⟨rfl, hc7, hb7⟩
            have hc70 : w7.cell? ⟨gc, 0, none⟩ = some (.int .i64 ((cntT l0_0 l1_0 n n : Nat) : Int)) := (blk_cell hc7 0).trans rfl
            go_wp2
            go_ret
            exact ⟨by first | rfl | (rw [HNL.out]; rfl), hb7⟩
        · rw [if_neg hl] at h
          have hr := yey h
          subst hr
          clear h
          go_wp2
          go_ret
          exact ⟨rfl, HB4.out⟩
/-! ### impl_factorial: function 20 -/
def impl_factorial.l0 : Nat → Int → Int → Int → Option (Int)
  | 0, _, _, _ => none
  | k + 1, x0, x3, x4 => if x4 ≤ x0 then (impl_factorial.l0 k x0 (wrap64 (x3 * x4)) (wrap64 (x4 + 1))) else (some x3)
def impl_factorial.f (k : Nat) (a0 : Int) : Option (Int) := impl_factorial.l0 k a0 1 2
set_option maxHeartbeats 8000000 in
set_option maxRecDepth 100000 in
theorem impl_factorial.calls (k : Nat) (a0 : Int) (r : Int) (w : World) (h : impl_factorial.f k a0 = some r) :
    Calls Try.prog 20 #[.int .i64 a0] w fun e w' => e = .returned (.int .i64 r) ∧ Drawn0 w w' := by
  have H : (impl_factorial.l0 k a0 1 2) = some r := h
  clear h
  have H' := Aside0.mk H
  clear H
  go_enter Try.func20, Try.ntmps20
  go_wp2
  go_loopg [3, 4] k (fun kq v3 v4 w' => ∃ (x3_1 : Int) (x4_1 : Int), v3 = .int .i64 x3_1 ∧ v4 = .int .i64 x4_1 ∧ Aside0 (impl_factorial.l0 kq a0 x3_1 x4_1 = some r) ∧ Aside0 (kq ≤ k) ∧ Drawn0 w w')
  case atStart => exact ⟨(1), (2), (by first | rfl | (simp; done) | (simp [*]; done)), (by first | rfl | (simp; done) | (simp [*]; done)), H', ⟨yoy _⟩, by repeat (first | exact Drawn0.refl _ | apply Drawn0.step)⟩
  case round =>
    clear H'
    obtain ⟨x3_1, x4_1, rfl, rfl, HA, HK1, ⟨m1, rfl⟩⟩ := hrel
    cases gk with
    | zero => exact absurd HA.out (by simp [impl_factorial.l0])
    | succ k1 =>
      have H := HA.out
      clear HA
      simp only [impl_factorial.l0] at H
      by_cases c2 : x4_1 ≤ a0
      · rw [if_pos c2] at H
        have c2b0 : decide (x4_1 ≤ a0) = true := ygy c2
        clear c2
        have H' := Aside0.mk H
        clear H
        go_wp2
        go_roundg k1
        case measure => have := HK1.out; omega
        case rel => exact ⟨(wrap64 (x3_1 * x4_1)), (wrap64 (x4_1 + 1)), (by first | rfl | (simp; done) | (simp [*]; done)), (by first | rfl | (simp; done) | (simp [*]; done)), H', ⟨by have := HK1.out; omega⟩, by repeat (first | exact Drawn0.refl _ | apply Drawn0.step)⟩
      · rw [if_neg c2] at H
        have c2b0 : decide (x4_1 ≤ a0) = false := yhy c2
        clear c2
        obtain rfl := yey H
        go_wp2
        go_ret
        exact ⟨by first | rfl | (simp; done) | (simp [*]; done), by repeat (first | exact Drawn0.refl _ | apply Drawn0.step)⟩
/-! ### impl_OrbitSize: function 8 -/
def impl_OrbitSize.l0 : Nat → Int → Int → Int → List (List (SFace)) → Option (Int × Int)
 | 0, _, _, _, _ => none
 | k + 1, x4, x20, x21, x102000 => if x21 < x20 then (impl_OrbitSize.l0 k (wrap64 (x4 * 24)) x20 (wrap64 (x21 + 1)) x102000) else ((impl_IsomorphismCount.f k x102000 x102000).bind fun t109 => (if t109 = 0 then (none) else (some (wrap64 (Int.tdiv x4 t109), 0))))
def impl_OrbitSize.f (k : Nat) (l0_0 : List (List (SFace))) : Option (Int × Int) := (impl_isTriangulation.f k l0_0).bind fun t102 => (if t102 = true then ((impl_Triangulation_components.f k l0_0).bind fun t103 => ((impl_classCount.f t103).bind fun t106 => (if t106 = 1 then ((impl_size_Simpl_Face.f l0_0).bind fun t107 => ((impl_factorial.f k t107).bind fun t108 => (impl_OrbitSize.l0 k t108 (l0_0.length : Int) 0 l0_0))) else (some (0, 5))))) else (some (0, 1)))
set_option maxHeartbeats 8000000 in
set_option maxRecDepth 100000 in
theorem impl_OrbitSize.calls (k : Nat) (A0_0 : Option Addr) (c0_0 : Nat) (l0_0 : List (List (SFace))) (r1 : Int) (r2 : Int) (w : World) (hr0_0 : Kd.C (Kd.slice 56 kFace) w A0_0 l0_0.length l0_0) (hc0_0 : l0_0.length ≤ c0_0) (h : impl_OrbitSize.f k l0_0 = some (r1, r2)) :
 Calls Try.prog 8 #[.agg #[.slice A0_0 l0_0.length c0_0]] w fun e w' => e = .returned (.tuple #[.int .i64 r1, .int .i64 r2]) ∧ Below w.heap.size w w' := by
 have hu30 := Try.underlying30
 have HR0_0 := Aside0.mk hr0_0
 have HC0_0 := Aside0.mk hc0_0
 clear hr0_0 hc0_0
 have HB := Aside0.mk (ypy w.heap.size w)
 have H : ((impl_isTriangulation.f k l0_0).bind fun t102 => (if t102 = true then ((impl_Triangulation_components.f k l0_0).bind fun t103 => ((impl_classCount.f t103).bind fun t106 => (if t106 = 1 then ((impl_size_Simpl_Face.f l0_0).bind fun t107 => ((impl_factorial.f k t107).bind fun t108 => (impl_OrbitSize.l0 k t108 (l0_0.length : Int) 0 l0_0))) else (some (0, 5))))) else (some (0, 1)))) = some (r1, r2) := h
 clear h
 replace H := ydy.mp H
 obtain ⟨t102, A20, H⟩ := H
 replace H : (if t102 = true then ((impl_Triangulation_components.f k l0_0).bind fun t103 => ((impl_classCount.f t103).bind fun t106 => (if t106 = 1 then ((impl_size_Simpl_Face.f l0_0).bind fun t107 => ((impl_factorial.f k t107).bind fun t108 => (impl_OrbitSize.l0 k t108 (l0_0.length : Int) 0 l0_0))) else (some (0, 5))))) else (some (0, 1))) = some (r1, r2) := H
 have A2 := Aside0.mk A20
 clear A20
 by_cases c3 : t102 = true
 rotate_left
 next =>
  replace c3 := Bool.eq_false_iff.mpr c3
  subst c3
  have H1 : (some (0, 1)) = some (r1, r2) := by rw [if_neg (show ¬ (false = true) by decide)] at H; exact H
  clear H
  have H := H1
  clear H1
  simp only [Option.some.injEq, Prod.mk.injEq] at H
  obtain ⟨rfl, rfl⟩ := H
  go_enter Try.func8, Try.ntmps8
  go_wp2_with (first | ((with_reducible refine gate_dst (N := 1) rfl ?_); refine box_event ?hg (N := 1) ?hd (cs := #[.slice A0_0 l0_0.length c0_0]) (t := 30) ?hr ?_; (case hd => rfl); (case hg => rfl); (case hr => first | (go_simp; done) | (go_simp; rfl)); intro gb101 hg w27 hbox hb; have n0_ := Aside0.mk (below_step (by repeat (first | (with_reducible first | exact HB.out | apply below_alloc | apply pw_below_drewN | apply below_drew1) | exact HB.out)) hb); have n1_ := Aside0.mk (hbox); have n2_ := Aside0.mk ((by rw [hg]; exact (below_size (by repeat (first | (with_reducible first | exact HB.out | apply below_alloc | apply pw_below_drewN | apply below_drew1) | exact HB.out))) : w.heap.size ≤ gb101)); have n3_ := Aside0.mk ((by rw [hg]; exact (below_size (by repeat (first | (with_reducible first | exact HB.out | apply below_alloc | apply pw_below_drewN | apply below_drew1) | exact HB.out))) : w.heap.size ≤ gb101)); clear HB; have HB := n0_; have BK101 := n1_; have GW101 := n2_; have GE101 := n3_; clear n0_ n1_ n2_ n3_; clear hb hbox hg; have hcz28_0 : w27.cell? ⟨gb101, 0, none⟩ = some (.slice A0_0 l0_0.length c0_0) := (blk_cell BK101.out 0).trans rfl; have hfz28_0 := blk_frozen BK101.out 0) | ((with_reducible refine gate_callee (f := 17) rfl ?_); refine goesL_ (some 7) rfl rfl Try.func17 (by kernel_rfl) rfl #[.agg #[.slice A0_0 l0_0.length c0_0]] rfl (by (try simp only [yiy, yjy, yky]); first | done | rfl | (simp only [yly, ymy]; rfl)) ?_; (with_reducible refine (impl_isTriangulation.calls k _ _ l0_0 false _ ?side1 ?side2 A2.out).mono ?_); (case side1 => repeat (first | exact (Kd.C_below HR0_0.out HB.out) | (with_reducible refine Kd.C_alloc ?_ _) | (with_reducible refine Kd.C_drewN ?_ _) | (with_reducible refine Kd.C_drew ?_))); (case side2 => exact HC0_0.out); rintro e w29 ⟨rfl, hb⟩; refine ⟨_, rfl, ?_⟩; have n0_ := Aside0.mk (blk_below (g := gb101) (o := .cells #[.slice A0_0 l0_0.length c0_0] 30 (0, 0)) (by (with_reducible repeat (first | refine blk_drewN ?_ _ | refine blk_drew ?_ | refine blk_alloc ?_ _)); exact BK101.out) hb); have n1_ := Aside0.mk (below_step (by repeat (first | (with_reducible first | exact HB.out | apply below_alloc | apply pw_below_drewN | apply below_drew1 | refine below_set ?_ GE101.out) | exact HB.out)) hb); clear BK101; clear HB; have BK101 := n0_; have HB := n1_; clear n0_ n1_; (try clear hb); (try clear hb2); (try clear hk); (try clear hi)))
  go_ret2
  exact ⟨by first | rfl | (simp [errW_none, errW_some] <;> rfl) | (simp [*, errW_none, errW_some] <;> rfl), by repeat (first | (with_reducible first | exact HB.out | apply below_alloc | apply pw_below_drewN | apply below_drew1 | refine below_set ?_ GE101.out) | exact HB.out)⟩
 subst c3
 have H1 : ((impl_Triangulation_components.f k l0_0).bind fun t103 => ((impl_classCount.f t103).bind fun t106 => (if t106 = 1 then ((impl_size_Simpl_Face.f l0_0).bind fun t107 => ((impl_factorial.f k t107).bind fun t108 => (impl_OrbitSize.l0 k t108 (l0_0.length : Int) 0 l0_0))) else (some (0, 5))))) = some (r1, r2) := by rw [if_pos rfl] at H; exact H
 clear H
 have H := H1
 clear H1
 replace H := ydy.mp H
 obtain ⟨t103, A40, H⟩ := H
 replace H : ((impl_classCount.f t103).bind fun t106 => (if t106 = 1 then ((impl_size_Simpl_Face.f l0_0).bind fun t107 => ((impl_factorial.f k t107).bind fun t108 => (impl_OrbitSize.l0 k t108 (l0_0.length : Int) 0 l0_0))) else (some (0, 5)))) = some (r1, r2) := H
 have A4 := Aside0.mk A40
 clear A40
 replace H := ydy.mp H
 obtain ⟨t106, A50, H⟩ := H
 replace H : (if t106 = 1 then ((impl_size_Simpl_Face.f l0_0).bind fun t107 => ((impl_factorial.f k t107).bind fun t108 => (impl_OrbitSize.l0 k t108 (l0_0.length : Int) 0 l0_0))) else (some (0, 5))) = some (r1, r2) := H
 have A5 := Aside0.mk A50
 clear A50
 by_cases c6 : t106 = 1
 rotate_left
 next =>
  rw [if_neg c6] at H
  have c6b0 : (t106 == 1) = false := beq_eq_false_iff_ne.mpr c6
  have c6b1 : (t106 != 1) = true := bne_iff_ne.mpr c6
  simp only [Option.some.injEq, Prod.mk.injEq] at H
  obtain ⟨rfl, rfl⟩ := H
  go_enter Try.func8, Try.ntmps8
  go_wp2_with (first | ((with_reducible refine gate_dst (N := 1) rfl ?_); refine box_event ?hg (N := 1) ?hd (cs := #[.slice A0_0 l0_0.length c0_0]) (t := 30) ?hr ?_; (case hd => rfl); (case hg => rfl); (case hr => first | (go_simp; done) | (go_simp; rfl)); intro gb101 hg w21 hbox hb; have n0_ := Aside0.mk (below_step (by repeat (first | (with_reducible first | exact HB.out | apply below_alloc | apply pw_below_drewN | apply below_drew1) | exact HB.out)) hb); have n1_ := Aside0.mk (hbox); have n2_ := Aside0.mk ((by rw [hg]; exact (below_size (by repeat (first | (with_reducible first | exact HB.out | apply below_alloc | apply pw_below_drewN | apply below_drew1) | exact HB.out))) : w.heap.size ≤ gb101)); have n3_ := Aside0.mk ((by rw [hg]; exact (below_size (by repeat (first | (with_reducible first | exact HB.out | apply below_alloc | apply pw_below_drewN | apply below_drew1) | exact HB.out))) : w.heap.size ≤ gb101)); clear HB; have HB := n0_; have BK101 := n1_; have GW101 := n2_; have GE101 := n3_; clear n0_ n1_ n2_ n3_; clear hb hbox hg; have hcz22_0 : w21.cell? ⟨gb101, 0, none⟩ = some (.slice A0_0 l0_0.length c0_0) := (blk_cell BK101.out 0).trans rfl; have hfz22_0 := blk_frozen BK101.out 0) | ((with_reducible refine gate_callee (f := 17) rfl ?_); refine goesL_ (some 7) rfl rfl Try.func17 (by kernel_rfl) rfl #[.agg #[.slice A0_0 l0_0.length c0_0]] rfl (by (try simp only [yiy, yjy, yky]); first | done | rfl | (simp only [yly, ymy]; rfl)) ?_; (with_reducible refine (impl_isTriangulation.calls k _ _ l0_0 true _ ?side1 ?side2 A2.out).mono ?_); (case side1 => repeat (first | exact (Kd.C_below HR0_0.out HB.out) | (with_reducible refine Kd.C_alloc ?_ _) | (with_reducible refine Kd.C_drewN ?_ _) | (with_reducible refine Kd.C_drew ?_))); (case side2 => exact HC0_0.out); rintro e w23 ⟨rfl, hb⟩; refine ⟨_, rfl, ?_⟩; have n0_ := Aside0.mk (blk_below (g := gb101) (o := .cells #[.slice A0_0 l0_0.length c0_0] 30 (0, 0)) (by (with_reducible repeat (first | refine blk_drewN ?_ _ | refine blk_drew ?_ | refine blk_alloc ?_ _)); exact BK101.out) hb); have n1_ := Aside0.mk (below_step (by repeat (first | (with_reducible first | exact HB.out | apply below_alloc | apply pw_below_drewN | apply below_drew1 | refine below_set ?_ GE101.out) | exact HB.out)) hb); clear BK101; clear HB; have BK101 := n0_; have HB := n1_; clear n0_ n1_; (try clear hb); (try clear hb2); (try clear hk); (try clear hi); have hcz24_0 : w23.cell? ⟨gb101, 0, none⟩ = some (.slice A0_0 l0_0.length c0_0) := (blk_cell BK101.out 0).trans rfl; have hfz24_0 := blk_frozen BK101.out 0) | ((with_reducible refine gate_callee (f := 19) rfl ?_); refine goesL_ (some 11) rfl rfl Try.func19 (by kernel_rfl) rfl #[.agg #[.slice A0_0 l0_0.length c0_0]] rfl (by (try simp only [yiy, yjy, yky]); first | done | rfl | (simp only [yly, ymy]; rfl)) ?_; (with_reducible refine (impl_Triangulation_components.calls k _ _ l0_0 t103 _ ?side1 ?side2 A4.out).mono ?_); (case side1 => repeat (first | exact (Kd.C_below HR0_0.out HB.out) | (with_reducible refine Kd.C_alloc ?_ _) | (with_reducible refine Kd.C_drewN ?_ _) | (with_reducible refine Kd.C_drew ?_))); (case side2 => exact HC0_0.out); rintro e w25 ⟨v104, rfl, ho0, hb⟩; refine ⟨_, rfl, ?_⟩; have n0_ := Aside0.mk (Kd.R_lower ho0 (below_size (by repeat (first | (with_reducible first | exact HB.out | apply below_alloc | apply pw_below_drewN | apply below_drew1 | refine below_set ?_ GE101.out) | exact HB.out)))); have n1_ := Aside0.mk (blk_below (g := gb101) (o := .cells #[.slice A0_0 l0_0.length c0_0] 30 (0, 0)) (by (with_reducible repeat (first | refine blk_drewN ?_ _ | refine blk_drew ?_ | refine blk_alloc ?_ _)); exact BK101.out) hb); have n2_ := Aside0.mk (below_step (by repeat (first | (with_reducible first | exact HB.out | apply below_alloc | apply pw_below_drewN | apply below_drew1 | refine below_set ?_ GE101.out) | exact HB.out)) hb); clear BK101; clear HB; have HO105 := n0_; have BK101 := n1_; have HB := n2_; clear n0_ n1_ n2_; (try clear hb); (try clear hb2); (try clear hk); (try clear hi); (try clear ho0); obtain ⟨Ao26, co26, eo26⟩ := Kd.R_slice HO105.out; subst eo26) | ((with_reducible refine gate_callee (f := 18) rfl ?_); refine goesL_ (some 12) rfl rfl Try.func18 (by kernel_rfl) rfl #[.slice Ao26 t103.length co26] rfl (by (try simp only [yiy, yjy, yky]); first | done | rfl | (simp only [yly, ymy]; rfl)) ?_; (with_reducible refine (impl_classCount.calls _ _ t103 t106 _ ?side1 ?side2 A5.out).mono ?_); (case side1 => repeat (first | exact (Kd.R_reads' HO105.out).2.2 | (with_reducible refine Kd.C_alloc ?_ _) | (with_reducible refine Kd.C_drewN ?_ _) | (with_reducible refine Kd.C_drew ?_))); (case side2 => exact (Kd.R_reads' HO105.out).2.1); rintro e w' ⟨rfl, ⟨nd, rfl⟩⟩; refine ⟨_, rfl, ?_⟩))
  go_ret2
  exact ⟨by first | rfl | (simp [errW_none, errW_some] <;> rfl) | (simp [*, errW_none, errW_some] <;> rfl), by repeat (first | (with_reducible first | exact HB.out | apply below_alloc | apply pw_below_drewN | apply below_drew1 | refine below_set ?_ GE101.out) | exact HB.out)⟩
 rw [if_pos c6] at H
 have c6b0 : (t106 == 1) = true := beq_iff_eq.mpr c6
 have c6b1 : (t106 != 1) = false := bne_eq_false_iff_eq.mpr c6
 clear c6
 replace H := ydy.mp H
 obtain ⟨t107, A70, H⟩ := H
 replace H : ((impl_factorial.f k t107).bind fun t108 => (impl_OrbitSize.l0 k t108 (l0_0.length : Int) 0 l0_0)) = some (r1, r2) := H
 have A7 := Aside0.mk A70
 clear A70
 replace H := ydy.mp H
 obtain ⟨t108, A80, H⟩ := H
 replace H : (impl_OrbitSize.l0 k t108 (l0_0.length : Int) 0 l0_0) = some (r1, r2) := H
 have A8 := Aside0.mk A80
 clear A80
 have H' := Aside0.mk H
 clear H
 go_enter Try.func8, Try.ntmps8
 go_wp2_with (first | ((with_reducible refine gate_dst (N := 1) rfl ?_); refine box_event ?hg (N := 1) ?hd (cs := #[.slice A0_0 l0_0.length c0_0]) (t := 30) ?hr ?_; (case hd => rfl); (case hg => rfl); (case hr => first | (go_simp; done) | (go_simp; rfl)); intro gb101 hg w9 hbox hb; have n0_ := Aside0.mk (below_step (by repeat (first | (with_reducible first | exact HB.out | apply below_alloc | apply pw_below_drewN | apply below_drew1) | exact HB.out)) hb); have n1_ := Aside0.mk (hbox); have n2_ := Aside0.mk ((by rw [hg]; exact (below_size (by repeat (first | (with_reducible first | exact HB.out | apply below_alloc | apply pw_below_drewN | apply below_drew1) | exact HB.out))) : w.heap.size ≤ gb101)); have n3_ := Aside0.mk ((by rw [hg]; exact (below_size (by repeat (first | (with_reducible first | exact HB.out | apply below_alloc | apply pw_below_drewN | apply below_drew1) | exact HB.out))) : w.heap.size ≤ gb101)); clear HB; have HB := n0_; have BK101 := n1_; have GW101 := n2_; have GE101 := n3_; clear n0_ n1_ n2_ n3_; clear hb hbox hg; have hcz10_0 : w9.cell? ⟨gb101, 0, none⟩ = some (.slice A0_0 l0_0.length c0_0) := (blk_cell BK101.out 0).trans rfl; have hfz10_0 := blk_frozen BK101.out 0) | ((with_reducible refine gate_callee (f := 17) rfl ?_); refine goesL_ (some 7) rfl rfl Try.func17 (by kernel_rfl) rfl #[.agg #[.slice A0_0 l0_0.length c0_0]] rfl (by (try simp only [yiy, yjy, yky]); first | done | rfl | (simp only [yly, ymy]; rfl)) ?_; (with_reducible refine (impl_isTriangulation.calls k _ _ l0_0 true _ ?side1 ?side2 A2.out).mono ?_); (case side1 => repeat (first | exact (Kd.C_below HR0_0.out HB.out) | (with_reducible refine Kd.C_alloc ?_ _) | (with_reducible refine Kd.C_drewN ?_ _) | (with_reducible refine Kd.C_drew ?_))); (case side2 => exact HC0_0.out); rintro e w11 ⟨rfl, hb⟩; refine ⟨_, rfl, ?_⟩; have n0_ := Aside0.mk (blk_below (g := gb101) (o := .cells #[.slice A0_0 l0_0.length c0_0] 30 (0, 0)) (by (with_reducible repeat (first | refine blk_drewN ?_ _ | refine blk_drew ?_ | refine blk_alloc ?_ _)); exact BK101.out) hb); have n1_ := Aside0.mk (below_step (by repeat (first | (with_reducible first | exact HB.out | apply below_alloc | apply pw_below_drewN | apply below_drew1 | refine below_set ?_ GE101.out) | exact HB.out)) hb); clear BK101; clear HB; have BK101 := n0_; have HB := n1_; clear n0_ n1_; (try clear hb); (try clear hb2); (try clear hk); (try clear hi); have hcz12_0 : w11.cell? ⟨gb101, 0, none⟩ = some (.slice A0_0 l0_0.length c0_0) := (blk_cell BK101.out 0).trans rfl; have hfz12_0 := blk_frozen BK101.out 0) | ((with_reducible refine gate_callee (f := 19) rfl ?_); refine goesL_ (some 11) rfl rfl Try.func19 (by kernel_rfl) rfl #[.agg #[.slice A0_0 l0_0.length c0_0]] rfl (by (try simp only [yiy, yjy, yky]); first | done | rfl | (simp only [yly, ymy]; rfl)) ?_; (with_reducible refine (impl_Triangulation_components.calls k _ _ l0_0 t103 _ ?side1 ?side2 A4.out).mono ?_); (case side1 => repeat (first | exact (Kd.C_below HR0_0.out HB.out) | (with_reducible refine Kd.C_alloc ?_ _) | (with_reducible refine Kd.C_drewN ?_ _) | (with_reducible refine Kd.C_drew ?_))); (case side2 => exact HC0_0.out); rintro e w13 ⟨v104, rfl, ho0, hb⟩; refine ⟨_, rfl, ?_⟩; have n0_ := Aside0.mk (Kd.R_lower ho0 (below_size (by repeat (first | (with_reducible first | exact HB.out | apply below_alloc | apply pw_below_drewN | apply below_drew1 | refine below_set ?_ GE101.out) | exact HB.out)))); have n1_ := Aside0.mk (blk_below (g := gb101) (o := .cells #[.slice A0_0 l0_0.length c0_0] 30 (0, 0)) (by (with_reducible repeat (first | refine blk_drewN ?_ _ | refine blk_drew ?_ | refine blk_alloc ?_ _)); exact BK101.out) hb); have n2_ := Aside0.mk (below_step (by repeat (first | (with_reducible first | exact HB.out | apply below_alloc | apply pw_below_drewN | apply below_drew1 | refine below_set ?_ GE101.out) | exact HB.out)) hb); clear BK101; clear HB; have HO105 := n0_; have BK101 := n1_; have HB := n2_; clear n0_ n1_ n2_; (try clear hb); (try clear hb2); (try clear hk); (try clear hi); (try clear ho0); obtain ⟨Ao14, co14, eo14⟩ := Kd.R_slice HO105.out; subst eo14) | ((with_reducible refine gate_callee (f := 18) rfl ?_); refine goesL_ (some 12) rfl rfl Try.func18 (by kernel_rfl) rfl #[.slice Ao14 t103.length co14] rfl (by (try simp only [yiy, yjy, yky]); first | done | rfl | (simp only [yly, ymy]; rfl)) ?_; (with_reducible refine (impl_classCount.calls _ _ t103 t106 _ ?side1 ?side2 A5.out).mono ?_); (case side1 => repeat (first | exact (Kd.R_reads' HO105.out).2.2 | (with_reducible refine Kd.C_alloc ?_ _) | (with_reducible refine Kd.C_drewN ?_ _) | (with_reducible refine Kd.C_drew ?_))); (case side2 => exact (Kd.R_reads' HO105.out).2.1); rintro e w' ⟨rfl, ⟨nd, rfl⟩⟩; refine ⟨_, rfl, ?_⟩; have hcz15_0 : w13.cell? ⟨gb101, 0, none⟩ = some (.slice A0_0 l0_0.length c0_0) := (blk_cell BK101.out 0).trans rfl; have hfz15_0 := blk_frozen BK101.out 0) | ((with_reducible refine gate_callee (f := 21) rfl ?_); refine goesL_ (some 16) rfl rfl Try.func21 (by kernel_rfl) rfl #[.slice A0_0 l0_0.length c0_0] rfl (by (try simp only [yiy, yjy, yky]); first | done | rfl | (simp only [yly, ymy]; rfl)) ?_; (with_reducible refine (impl_size_Simpl_Face.calls _ _ l0_0 t107 _ ?side1 ?side2 A7.out).mono ?_); (case side1 => repeat (first | exact (Kd.C_below HR0_0.out (by repeat (first | (with_reducible first | exact HB.out | apply below_alloc | apply pw_below_drewN | apply below_drew1 | refine below_set ?_ GE101.out) | exact HB.out))) | (with_reducible refine Kd.C_alloc ?_ _) | (with_reducible refine Kd.C_drewN ?_ _) | (with_reducible refine Kd.C_drew ?_))); (case side2 => exact HC0_0.out); rintro e w' ⟨rfl, ⟨nd, rfl⟩⟩; refine ⟨_, rfl, ?_⟩) | ((with_reducible refine gate_callee (f := 20) rfl ?_); refine goesL_ (some 17) rfl rfl Try.func20 (by kernel_rfl) rfl #[.int .i64 t107] rfl (by (try simp only [yiy, yjy, yky]); first | done | rfl | (simp only [yly, ymy]; rfl)) ?_; (with_reducible refine (impl_factorial.calls k t107 t108 _ A8.out).mono ?_); rintro e w' ⟨rfl, ⟨nd, rfl⟩⟩; refine ⟨_, rfl, ?_⟩))
 go_loopg [4, 21] k (fun kq v4 v21 w' => ∃ (x4_1 : Int) (x21_1 : Int), v4 = .int .i64 x4_1 ∧ v21 = .int .i64 x21_1 ∧ Aside0 (impl_OrbitSize.l0 kq x4_1 (l0_0.length : Int) x21_1 l0_0 = some (r1, r2)) ∧ Aside0 (kq ≤ k) ∧ Aside0 (w'.heap[gb101]? = some (.cells #[(.slice A0_0 l0_0.length c0_0)] 30 (0, 0))) ∧ Aside0 (Below w.heap.size w w'))
 case atStart => exact ⟨(t108), (0), (by first | rfl | (simp; done) | (simp [*]; done)), (by first | rfl | (simp; done) | (simp [*]; done)), H', ⟨yoy _⟩, ⟨by (with_reducible repeat (first | refine blk_drewN ?_ _ | refine blk_drew ?_ | refine blk_alloc ?_ _)); exact BK101.out⟩, ⟨by repeat (first | (with_reducible first | exact HB.out | apply below_alloc | apply pw_below_drewN | apply below_drew1 | refine below_set ?_ GE101.out) | exact HB.out)⟩⟩
 case round =>
  clear H'
  try clear c1
  try clear c2
  try clear p2
  try clear c3
  try clear c6
  try clear c6b0
  try clear c6b1
  try clear c8
  try clear hcz10_0
  try clear hcz12_0
  try clear hcz15_0
  try clear hfz10_0
  try clear hfz12_0
  try clear hfz15_0
  obtain ⟨x4_1, x21_1, rfl, rfl, HA, HK1, BK101, HB⟩ := hrel
  cases gk with
  | zero => exact absurd HA.out (by simp [impl_OrbitSize.l0])
  | succ k1 =>
   have H := HA.out
   clear HA
   simp only [impl_OrbitSize.l0] at H
   by_cases c16 : x21_1 < (l0_0.length : Int)
   next =>
    rw [if_pos c16] at H
    have c16b0 : decide (x21_1 < (l0_0.length : Int)) = true := ygy c16
    clear c16
    have H' := Aside0.mk H
    clear H
    go_wp2
    go_roundg k1
    case measure => have := HK1.out; omega
    case rel => exact ⟨(wrap64 (x4_1 * 24)), (wrap64 (x21_1 + 1)), (by first | rfl | (simp; done) | (simp [*]; done)), (by first | rfl | (simp; done) | (simp [*]; done)), H', ⟨by have := HK1.out; omega⟩, ⟨by (with_reducible repeat (first | refine blk_drewN ?_ _ | refine blk_drew ?_ | refine blk_alloc ?_ _)); exact BK101.out⟩, ⟨by repeat (first | (with_reducible first | exact HB.out | apply below_alloc | apply pw_below_drewN | apply below_drew1 | refine below_set ?_ GE101.out) | exact HB.out)⟩⟩
   next =>
    rw [if_neg c16] at H
    have c16b0 : decide (x21_1 < (l0_0.length : Int)) = false := yhy c16
    clear c16
    replace H := ydy.mp H
    obtain ⟨t109, A170, H⟩ := H
    replace H : (if t109 = 0 then (none) else (some (wrap64 (Int.tdiv x4_1 t109), 0))) = some (r1, r2) := H
    have A17 := Aside0.mk A170
    clear A170
    by_cases c18 : t109 = 0
    next =>
     rw [if_pos c18] at H
     exact absurd H (by simp)
    next =>
     rw [if_neg c18] at H
     have c18b0 : (t109 == 0) = false := beq_eq_false_iff_ne.mpr c18
     have c18b1 : (t109 != 0) = true := bne_iff_ne.mpr c18
     simp only [Option.some.injEq, Prod.mk.injEq] at H
     obtain ⟨rfl, rfl⟩ := H
     have hcz19_0 : wr.cell? ⟨gb101, 0, none⟩ = some (.slice A0_0 l0_0.length c0_0) := (blk_cell BK101.out 0).trans rfl
     have hfz19_0 := blk_frozen BK101.out 0
     go_wp2_with (first | ((with_reducible refine gate_callee (f := 11) rfl ?_); refine goesL_ (some 29) rfl rfl Try.func11 (by kernel_rfl) rfl #[.agg #[.slice A0_0 l0_0.length c0_0], .agg #[.slice A0_0 l0_0.length c0_0]] rfl (by (try simp only [yiy, yjy, yky]); first | done | rfl | (simp only [yly, ymy]; rfl)) ?_; (with_reducible refine (impl_IsomorphismCount.calls k1 _ _ l0_0 _ _ l0_0 t109 _ ?side1 ?side2 ?side3 ?side4 A17.out).mono ?_); (case side1 => repeat (first | exact (Kd.C_below HR0_0.out HB.out) | (with_reducible refine Kd.C_alloc ?_ _) | (with_reducible refine Kd.C_drewN ?_ _) | (with_reducible refine Kd.C_drew ?_))); (case side2 => exact HC0_0.out); (case side3 => repeat (first | exact (Kd.C_below HR0_0.out HB.out) | (with_reducible refine Kd.C_alloc ?_ _) | (with_reducible refine Kd.C_drewN ?_ _) | (with_reducible refine Kd.C_drew ?_))); (case side4 => exact HC0_0.out); rintro e w20 ⟨rfl, hb⟩; refine ⟨_, rfl, ?_⟩; have n0_ := Aside0.mk (blk_below (g := gb101) (o := .cells #[.slice A0_0 l0_0.length c0_0] 30 (0, 0)) (by (with_reducible repeat (first | refine blk_drewN ?_ _ | refine blk_drew ?_ | refine blk_alloc ?_ _)); exact BK101.out) hb); have n1_ := Aside0.mk (below_step (by repeat (first | (with_reducible first | exact HB.out | apply below_alloc | apply pw_below_drewN | apply below_drew1 | refine below_set ?_ GE101.out) | exact HB.out)) hb); clear BK101; clear HB; have BK101 := n0_; have HB := n1_; clear n0_ n1_; (try clear hb); (try clear hb2); (try clear hk); (try clear hi)))
     go_ret2
     exact ⟨by first | rfl | (simp [errW_none, errW_some] <;> rfl) | (simp [*, errW_none, errW_some] <;> rfl), by repeat (first | (with_reducible first | exact HB.out | apply below_alloc | apply pw_below_drewN | apply below_drew1 | refine below_set ?_ GE101.out) | exact HB.out)⟩
/-! ### laws_eqFace: function 57 -/
def laws_eqFace.f (a0_0 : Int) (a0_1 : Int) (a1_0 : Int) (a1_1 : Int) : Option (Bool) := if a0_0 = a1_0 then (if a0_1 = a1_1 then (some true) else (some false)) else (some false)
set_option maxHeartbeats 8000000 in
set_option maxRecDepth 100000 in
theorem laws_eqFace.calls (a0_0 : Int) (a0_1 : Int) (a1_0 : Int) (a1_1 : Int) (r : Bool) (w : World) (h : laws_eqFace.f a0_0 a0_1 a1_0 a1_1 = some r) :
    Calls Try.prog 57 #[.agg #[.int .i64 a0_0, .int .i64 a0_1], .agg #[.int .i64 a1_0, .int .i64 a1_1]] w fun e w' => e = .returned (.bool r) ∧ Below w.heap.size w w' := by
  have hu56 := Try.underlying56
  have HB := Aside0.mk (ypy w.heap.size w)
  have H : (if a0_0 = a1_0 then (if a0_1 = a1_1 then (some true) else (some false)) else (some false)) = some r := h
  clear h
  by_cases c3 : a0_0 = a1_0
  · rw [if_pos c3] at H
    have c3b0 : (a0_0 == a1_0) = true := beq_iff_eq.mpr c3
    have c3b1 : (a0_0 != a1_0) = false := bne_eq_false_iff_eq.mpr c3
    clear c3
    by_cases c4 : a0_1 = a1_1
    · rw [if_pos c4] at H
      have c4b0 : (a0_1 == a1_1) = true := beq_iff_eq.mpr c4
      have c4b1 : (a0_1 != a1_1) = false := bne_eq_false_iff_eq.mpr c4
      clear c4
      obtain rfl := yey H
      go_enter Try.func57, Try.ntmps57
      go_wp2_with (first | ((with_reducible refine gate_dst (N := 2) rfl ?_); refine box_event ?hg (N := 2) ?hd (cs := #[.int .i64 a0_0, .int .i64 a0_1]) (t := 56) ?hr ?_; (case hd => rfl); (case hg => rfl); (case hr => first | (go_simp; done) | (go_simp; rfl)); intro gb101 hg w5 hbox hb; have n0_ := Aside0.mk (below_step (by repeat (first | (with_reducible first | exact HB.out | apply below_alloc | apply pw_below_drewN | apply below_drew1) | exact HB.out)) hb); have n1_ := Aside0.mk (hbox); have n2_ := Aside0.mk ((by rw [hg]; exact (below_size (by repeat (first | (with_reducible first | exact HB.out | apply below_alloc | apply pw_below_drewN | apply below_drew1) | exact HB.out))) : w.heap.size ≤ gb101)); have n3_ := Aside0.mk ((by rw [hg]; exact (below_size (by repeat (first | (with_reducible first | exact HB.out | apply below_alloc | apply pw_below_drewN | apply below_drew1) | exact HB.out))) : w.heap.size ≤ gb101)); clear HB; have HB := n0_; have BK101 := n1_; have GW101 := n2_; have GE101 := n3_; clear n0_ n1_ n2_ n3_; clear hb hbox hg) | ((with_reducible refine gate_dst (N := 3) rfl ?_); refine box_event ?hg (N := 3) ?hd (cs := #[.int .i64 a1_0, .int .i64 a1_1]) (t := 56) ?hr ?_; (case hd => rfl); (case hg => rfl); (case hr => first | (go_simp; done) | (go_simp; rfl)); intro gb102 hg w6 hbox hb; have n0_ := Aside0.mk (blk_below (g := gb101) (o := .cells #[.int .i64 a0_0, .int .i64 a0_1] 56 (0, 0)) (by (with_reducible repeat (first | refine blk_drewN ?_ _ | refine blk_drew ?_ | refine blk_alloc ?_ _)); exact BK101.out) hb); have n1_ := Aside0.mk (below_step (by repeat (first | (with_reducible first | exact HB.out | apply below_alloc | apply pw_below_drewN | apply below_drew1 | refine below_set ?_ GE101.out) | exact HB.out)) hb); have n2_ := Aside0.mk (hbox); have n3_ := Aside0.mk ((by rw [hg]; exact (below_size (by repeat (first | (with_reducible first | exact HB.out | apply below_alloc | apply pw_below_drewN | apply below_drew1 | refine below_set ?_ GE101.out) | exact HB.out))) : w.heap.size ≤ gb102)); have n4_ := Aside0.mk ((by rw [hg]; exact (below_size (by repeat (first | (with_reducible first | exact HB.out | apply below_alloc | apply pw_below_drewN | apply below_drew1 | refine below_set ?_ GE101.out) | exact HB.out))) : w.heap.size ≤ gb102)); have n5_ := Aside0.mk ((by rw [hg]; exact Nat.ne_of_lt (blk_lt (g := gb101) (o := .cells #[.int .i64 a0_0, .int .i64 a0_1] 56 (0, 0)) (by (with_reducible repeat (first | refine blk_drewN ?_ _ | refine blk_drew ?_ | refine blk_alloc ?_ _)); exact BK101.out)) : gb101 ≠ gb102)); have n6_ := Aside0.mk ((by rw [hg]; exact Nat.ne_of_gt (blk_lt (g := gb101) (o := .cells #[.int .i64 a0_0, .int .i64 a0_1] 56 (0, 0)) (by (with_reducible repeat (first | refine blk_drewN ?_ _ | refine blk_drew ?_ | refine blk_alloc ?_ _)); exact BK101.out)) : gb102 ≠ gb101)); clear BK101; clear HB; have BK101 := n0_; have HB := n1_; have BK102 := n2_; have GW102 := n3_; have GE102 := n4_; have NB101_102 := n5_; have NB102_101 := n6_; clear n0_ n1_ n2_ n3_ n4_ n5_ n6_; clear hb hbox hg; have hnb7 := NB101_102.out; have hnc7 := NB102_101.out; have hcz8_0 : w6.cell? ⟨gb101, 0, none⟩ = some (.int .i64 a0_0) := (blk_cell BK101.out 0).trans rfl; have hcz8_1 : w6.cell? ⟨gb101, 1, none⟩ = some (.int .i64 a0_1) := (blk_cell BK101.out 1).trans rfl; have hfz8_0 := blk_frozen BK101.out 0; have hfz8_1 := blk_frozen BK101.out 1; have hcz9_0 : w6.cell? ⟨gb102, 0, none⟩ = some (.int .i64 a1_0) := (blk_cell BK102.out 0).trans rfl; have hcz9_1 : w6.cell? ⟨gb102, 1, none⟩ = some (.int .i64 a1_1) := (blk_cell BK102.out 1).trans rfl; have hfz9_0 := blk_frozen BK102.out 0; have hfz9_1 := blk_frozen BK102.out 1))
      go_ret
      exact ⟨by first | rfl | (simp [errW_none, errW_some] <;> rfl) | (simp [*, errW_none, errW_some] <;> rfl), by repeat (first | (with_reducible first | exact HB.out | apply below_alloc | apply pw_below_drewN | apply below_drew1 | refine below_set ?_ GE101.out | refine below_set ?_ GE102.out) | exact HB.out)⟩
    · rw [if_neg c4] at H
      have c4b0 : (a0_1 == a1_1) = false := beq_eq_false_iff_ne.mpr c4
      have c4b1 : (a0_1 != a1_1) = true := bne_iff_ne.mpr c4
      obtain rfl := yey H
      go_enter Try.func57, Try.ntmps57
      go_wp2_with (first | ((with_reducible refine gate_dst (N := 2) rfl ?_); refine box_event ?hg (N := 2) ?hd (cs := #[.int .i64 a0_0, .int .i64 a0_1]) (t := 56) ?hr ?_; (case hd => rfl); (case hg => rfl); (case hr => first | (go_simp; done) | (go_simp; rfl)); intro gb101 hg w10 hbox hb; have n0_ := Aside0.mk (below_step (by repeat (first | (with_reducible first | exact HB.out | apply below_alloc | apply pw_below_drewN | apply below_drew1) | exact HB.out)) hb); have n1_ := Aside0.mk (hbox); have n2_ := Aside0.mk ((by rw [hg]; exact (below_size (by repeat (first | (with_reducible first | exact HB.out | apply below_alloc | apply pw_below_drewN | apply below_drew1) | exact HB.out))) : w.heap.size ≤ gb101)); have n3_ := Aside0.mk ((by rw [hg]; exact (below_size (by repeat (first | (with_reducible first | exact HB.out | apply below_alloc | apply pw_below_drewN | apply below_drew1) | exact HB.out))) : w.heap.size ≤ gb101)); clear HB; have HB := n0_; have BK101 := n1_; have GW101 := n2_; have GE101 := n3_; clear n0_ n1_ n2_ n3_; clear hb hbox hg) | ((with_reducible refine gate_dst (N := 3) rfl ?_); refine box_event ?hg (N := 3) ?hd (cs := #[.int .i64 a1_0, .int .i64 a1_1]) (t := 56) ?hr ?_; (case hd => rfl); (case hg => rfl); (case hr => first | (go_simp; done) | (go_simp; rfl)); intro gb102 hg w11 hbox hb; have n0_ := Aside0.mk (blk_below (g := gb101) (o := .cells #[.int .i64 a0_0, .int .i64 a0_1] 56 (0, 0)) (by (with_reducible repeat (first | refine blk_drewN ?_ _ | refine blk_drew ?_ | refine blk_alloc ?_ _)); exact BK101.out) hb); have n1_ := Aside0.mk (below_step (by repeat (first | (with_reducible first | exact HB.out | apply below_alloc | apply pw_below_drewN | apply below_drew1 | refine below_set ?_ GE101.out) | exact HB.out)) hb); have n2_ := Aside0.mk (hbox); have n3_ := Aside0.mk ((by rw [hg]; exact (below_size (by repeat (first | (with_reducible first | exact HB.out | apply below_alloc | apply pw_below_drewN | apply below_drew1 | refine below_set ?_ GE101.out) | exact HB.out))) : w.heap.size ≤ gb102)); have n4_ := Aside0.mk ((by rw [hg]; exact (below_size (by repeat (first | (with_reducible first | exact HB.out | apply below_alloc | apply pw_below_drewN | apply below_drew1 | refine below_set ?_ GE101.out) | exact HB.out))) : w.heap.size ≤ gb102)); have n5_ := Aside0.mk ((by rw [hg]; exact Nat.ne_of_lt (blk_lt (g := gb101) (o := .cells #[.int .i64 a0_0, .int .i64 a0_1] 56 (0, 0)) (by (with_reducible repeat (first | refine blk_drewN ?_ _ | refine blk_drew ?_ | refine blk_alloc ?_ _)); exact BK101.out)) : gb101 ≠ gb102)); have n6_ := Aside0.mk ((by rw [hg]; exact Nat.ne_of_gt (blk_lt (g := gb101) (o := .cells #[.int .i64 a0_0, .int .i64 a0_1] 56 (0, 0)) (by (with_reducible repeat (first | refine blk_drewN ?_ _ | refine blk_drew ?_ | refine blk_alloc ?_ _)); exact BK101.out)) : gb102 ≠ gb101)); clear BK101; clear HB; have BK101 := n0_; have HB := n1_; have BK102 := n2_; have GW102 := n3_; have GE102 := n4_; have NB101_102 := n5_; have NB102_101 := n6_; clear n0_ n1_ n2_ n3_ n4_ n5_ n6_; clear hb hbox hg; have hnb12 := NB101_102.out; have hnc12 := NB102_101.out; have hcz13_0 : w11.cell? ⟨gb101, 0, none⟩ = some (.int .i64 a0_0) := (blk_cell BK101.out 0).trans rfl; have hcz13_1 : w11.cell? ⟨gb101, 1, none⟩ = some (.int .i64 a0_1) := (blk_cell BK101.out 1).trans rfl; have hfz13_0 := blk_frozen BK101.out 0; have hfz13_1 := blk_frozen BK101.out 1; have hcz14_0 : w11.cell? ⟨gb102, 0, none⟩ = some (.int .i64 a1_0) := (blk_cell BK102.out 0).trans rfl; have hcz14_1 : w11.cell? ⟨gb102, 1, none⟩ = some (.int .i64 a1_1) := (blk_cell BK102.out 1).trans rfl; have hfz14_0 := blk_frozen BK102.out 0; have hfz14_1 := blk_frozen BK102.out 1))
      go_ret
      exact ⟨by first | rfl | (simp [errW_none, errW_some] <;> rfl) | (simp [*, errW_none, errW_some] <;> rfl), by repeat (first | (with_reducible first | exact HB.out | apply below_alloc | apply pw_below_drewN | apply below_drew1 | refine below_set ?_ GE101.out | refine below_set ?_ GE102.out) | exact HB.out)⟩
  · rw [if_neg c3] at H
    have c3b0 : (a0_0 == a1_0) = false := beq_eq_false_iff_ne.mpr c3
    have c3b1 : (a0_0 != a1_0) = true := bne_iff_ne.mpr c3
    obtain rfl := yey H
    go_enter Try.func57, Try.ntmps57
    go_wp2_with (first | ((with_reducible refine gate_dst (N := 2) rfl ?_); refine box_event ?hg (N := 2) ?hd (cs := #[.int .i64 a0_0, .int .i64 a0_1]) (t := 56) ?hr ?_; (case hd => rfl); (case hg => rfl); (case hr => first | (go_simp; done) | (go_simp; rfl)); intro gb101 hg w15 hbox hb; have n0_ := Aside0.mk (below_step (by repeat (first | (with_reducible first | exact HB.out | apply below_alloc | apply pw_below_drewN | apply below_drew1) | exact HB.out)) hb); have n1_ := Aside0.mk (hbox); have n2_ := Aside0.mk ((by rw [hg]; exact (below_size (by repeat (first | (with_reducible first | exact HB.out | apply below_alloc | apply pw_below_drewN | apply below_drew1) | exact HB.out))) : w.heap.size ≤ gb101)); have n3_ := Aside0.mk ((by rw [hg]; exact (below_size (by repeat (first | (with_reducible first | exact HB.out | apply below_alloc | apply pw_below_drewN | apply below_drew1) | exact HB.out))) : w.heap.size ≤ gb101)); clear HB; have HB := n0_; have BK101 := n1_; have GW101 := n2_; have GE101 := n3_; clear n0_ n1_ n2_ n3_; clear hb hbox hg) | ((with_reducible refine gate_dst (N := 3) rfl ?_); refine box_event ?hg (N := 3) ?hd (cs := #[.int .i64 a1_0, .int .i64 a1_1]) (t := 56) ?hr ?_; (case hd => rfl); (case hg => rfl); (case hr => first | (go_simp; done) | (go_simp; rfl)); intro gb102 hg w16 hbox hb; have n0_ := Aside0.mk (blk_below (g := gb101) (o := .cells #[.int .i64 a0_0, .int .i64 a0_1] 56 (0, 0)) (by (with_reducible repeat (first | refine blk_drewN ?_ _ | refine blk_drew ?_ | refine blk_alloc ?_ _)); exact BK101.out) hb); have n1_ := Aside0.mk (below_step (by repeat (first | (with_reducible first | exact HB.out | apply below_alloc | apply pw_below_drewN | apply below_drew1 | refine below_set ?_ GE101.out) | exact HB.out)) hb); have n2_ := Aside0.mk (hbox); have n3_ := Aside0.mk ((by rw [hg]; exact (below_size (by repeat (first | (with_reducible first | exact HB.out | apply below_alloc | apply pw_below_drewN | apply below_drew1 | refine below_set ?_ GE101.out) | exact HB.out))) : w.heap.size ≤ gb102)); have n4_ := Aside0.mk ((by rw [hg]; exact (below_size (by repeat (first | (with_reducible first | exact HB.out | apply below_alloc | apply pw_below_drewN | apply below_drew1 | refine below_set ?_ GE101.out) | exact HB.out))) : w.heap.size ≤ gb102)); have n5_ := Aside0.mk ((by rw [hg]; exact Nat.ne_of_lt (blk_lt (g := gb101) (o := .cells #[.int .i64 a0_0, .int .i64 a0_1] 56 (0, 0)) (by (with_reducible repeat (first | refine blk_drewN ?_ _ | refine blk_drew ?_ | refine blk_alloc ?_ _)); exact BK101.out)) : gb101 ≠ gb102)); have n6_ := Aside0.mk ((by rw [hg]; exact Nat.ne_of_gt (blk_lt (g := gb101) (o := .cells #[.int .i64 a0_0, .int .i64 a0_1] 56 (0, 0)) (by (with_reducible repeat (first | refine blk_drewN ?_ _ | refine blk_drew ?_ | refine blk_alloc ?_ _)); exact BK101.out)) : gb102 ≠ gb101)); clear BK101; clear HB; have BK101 := n0_; have HB := n1_; have BK102 := n2_; have GW102 := n3_; have GE102 := n4_; have NB101_102 := n5_; have NB102_101 := n6_; clear n0_ n1_ n2_ n3_ n4_ n5_ n6_; clear hb hbox hg; have hnb17 := NB101_102.out; have hnc17 := NB102_101.out; have hcz18_0 : w16.cell? ⟨gb101, 0, none⟩ = some (.int .i64 a0_0) := (blk_cell BK101.out 0).trans rfl; have hcz18_1 : w16.cell? ⟨gb101, 1, none⟩ = some (.int .i64 a0_1) := (blk_cell BK101.out 1).trans rfl; have hfz18_0 := blk_frozen BK101.out 0; have hfz18_1 := blk_frozen BK101.out 1; have hcz19_0 : w16.cell? ⟨gb102, 0, none⟩ = some (.int .i64 a1_0) := (blk_cell BK102.out 0).trans rfl; have hcz19_1 : w16.cell? ⟨gb102, 1, none⟩ = some (.int .i64 a1_1) := (blk_cell BK102.out 1).trans rfl; have hfz19_0 := blk_frozen BK102.out 0; have hfz19_1 := blk_frozen BK102.out 1))
    go_ret
    exact ⟨by first | rfl | (simp [errW_none, errW_some] <;> rfl) | (simp [*, errW_none, errW_some] <;> rfl), by repeat (first | (with_reducible first | exact HB.out | apply below_alloc | apply pw_below_drewN | apply below_drew1 | refine below_set ?_ GE101.out | refine below_set ?_ GE102.out) | exact HB.out)⟩
/-! ### laws_eqFaceS: function 43 -/
def laws_eqFaceS.l0 : Nat → List (SFace) → List (SFace) → Int → Option (Bool)
 | 0, _, _, _ => none
 | k + 1, x0, x1, x5 => if x5 < (x0.length : Int) then (if 0 ≤ x5 then (if x5 < (x1.length : Int) then ((laws_eqFace.f ((rd_Face x0 x5).f0) ((rd_Face x0 x5).f1) ((rd_Face x1 x5).f0) ((rd_Face x1 x5).f1)).bind fun t103 => (if t103 = true then (laws_eqFaceS.l0 k x0 x1 (wrap64 (x5 + 1))) else (some false))) else (none)) else (none)) else (some true)
def laws_eqFaceS.f (k : Nat) (l0 : List (SFace)) (l1 : List (SFace)) : Option (Bool) := if (l0.length : Int) = (l1.length : Int) then (laws_eqFaceS.l0 k l0 l1 0) else (some false)
def laws_eqFaceS.T6 : Bool × List (List Nat × List Nat) := (true, [([], []), ([], []), ([0, 1], [0, 1]), ([2], [2]), ([], []), ([], []), ([4, 5], [4, 5]), ([6], [6]), ([3, 7], [3, 7]), ([8], [8])])
def laws_eqFaceS.B6 : List Nat := [0, 0, 3, 7, 0, 0, 48, 112, 255, 511]
theorem laws_eqFaceS.tab6 : rtab .any (opsOf Try.f43 6) = laws_eqFaceS.T6 := by kernel_rfl
theorem laws_eqFaceS.bits6 : waitsOk laws_eqFaceS.T6.2 laws_eqFaceS.B6 = true := by kernel_rfl
set_option maxHeartbeats 8000000 in
set_option maxRecDepth 100000 in
theorem laws_eqFaceS.calls (k : Nat) (A0 : Option Addr) (c0 : Nat) (l0 : List (SFace)) (A1 : Option Addr) (c1 : Nat) (l1 : List (SFace)) (r : Bool) (w : World) (hr0 : Kd.C kFace w A0 l0.length l0) (hc0 : l0.length ≤ c0) (hr1 : Kd.C kFace w A1 l1.length l1) (hc1 : l1.length ≤ c1) (h : laws_eqFaceS.f k l0 l1 = some r) :
 Calls Try.prog 43 #[.slice A0 l0.length c0, .slice A1 l1.length c1] w fun e w' => e = .returned (.bool r) ∧ Below w.heap.size w w' := by
 have hu56 := Try.underlying56
 have HR0 := Aside0.mk hr0
 have HC0 := Aside0.mk hc0
 clear hr0 hc0
 have HR1 := Aside0.mk hr1
 have HC1 := Aside0.mk hc1
 clear hr1 hc1
 have HB := Aside0.mk (ypy w.heap.size w)
 have H : (if (l0.length : Int) = (l1.length : Int) then (laws_eqFaceS.l0 k l0 l1 0) else (some false)) = some r := h
 clear h
 by_cases c3 : (l0.length : Int) = (l1.length : Int)
 rotate_left
 next =>
  rw [if_neg c3] at H
  have c3b0 : ((l0.length : Int) == (l1.length : Int)) = false := beq_eq_false_iff_ne.mpr c3
  have c3b1 : ((l0.length : Int) != (l1.length : Int)) = true := bne_iff_ne.mpr c3
  have c3b2 : (l0.length == l1.length) = false := by first | simpa using c3 | (simp at c3 ⊢; omega)
  obtain rfl := yey H
  go_enter Try.func43, Try.ntmps43
  go_wp2
  go_ret
  exact ⟨by first | rfl | (simp [errW_none, errW_some] <;> rfl) | (simp [*, errW_none, errW_some] <;> rfl), by repeat (first | (with_reducible first | exact HB.out | apply below_alloc | apply pw_below_drewN | apply below_drew1) | exact HB.out)⟩
 rw [if_pos c3] at H
 have c3b0 : ((l0.length : Int) == (l1.length : Int)) = true := beq_iff_eq.mpr c3
 have c3b1 : ((l0.length : Int) != (l1.length : Int)) = false := bne_eq_false_iff_eq.mpr c3
 have c3b2 : (l0.length == l1.length) = true := by first | simpa using c3 | (simp at c3 ⊢; omega)
 clear c3
 have H' := Aside0.mk H
 clear H
 go_enter Try.func43, Try.ntmps43
 go_wp2
 go_loopg [5] k (fun kq v5 w' => ∃ (x5_1 : Int), v5 = .int .i64 x5_1 ∧ Aside0 (laws_eqFaceS.l0 kq l0 l1 x5_1 = some r) ∧ Aside0 (kq ≤ k) ∧ Aside0 (Below w.heap.size w w'))
 case atStart => exact ⟨(0), (by first | rfl | (simp; done) | (simp [*]; done)), H', ⟨yoy _⟩, ⟨by repeat (first | (with_reducible first | exact HB.out | apply below_alloc | apply pw_below_drewN | apply below_drew1) | exact HB.out)⟩⟩
 case round =>
  clear H'
  try clear c1
  try clear p2
  try clear c3
  try clear c3b0
  try clear c3b1
  try clear c3b2
  obtain ⟨x5_1, rfl, HA, HK1, HB⟩ := hrel
  cases gk with
  | zero => exact absurd HA.out (by simp [laws_eqFaceS.l0])
  | succ k1 =>
   have H := HA.out
   clear HA
   simp only [laws_eqFaceS.l0] at H
   by_cases c4 : x5_1 < (l0.length : Int)
   rotate_left
   next =>
    rw [if_neg c4] at H
    have c4b0 : decide (x5_1 < (l0.length : Int)) = false := yhy c4
    clear c4
    obtain rfl := yey H
    go_wp2
    go_ret
    exact ⟨by first | rfl | (simp [errW_none, errW_some] <;> rfl) | (simp [*, errW_none, errW_some] <;> rfl), by repeat (first | (with_reducible first | exact HB.out | apply below_alloc | apply pw_below_drewN | apply below_drew1) | exact HB.out)⟩
   rw [if_pos c4] at H
   have c4b0 : decide (x5_1 < (l0.length : Int)) = true := ygy c4
   clear c4
   by_cases c5 : 0 ≤ x5_1
   rotate_left
   next =>
    rw [if_neg c5] at H
    exact absurd H (by simp)
   rw [if_pos c5] at H
   have c5b0 : decide (0 ≤ x5_1) = true := ygy c5
   clear c5
   by_cases c6 : x5_1 < (l1.length : Int)
   rotate_left
   next =>
    rw [if_neg c6] at H
    exact absurd H (by simp)
   rw [if_pos c6] at H
   have c6b0 : decide (x5_1 < (l1.length : Int)) = true := ygy c6
   clear c6
   replace H := ydy.mp H
   obtain ⟨t103, A70, H⟩ := H
   replace H : (if t103 = true then (laws_eqFaceS.l0 k1 l0 l1 (wrap64 (x5_1 + 1))) else (some false)) = some r := H
   have A7 := Aside0.mk A70
   clear A70
   by_cases c8 : t103 = true
   rotate_left
   next =>
    replace c8 := Bool.eq_false_iff.mpr c8
    subst c8
    have H1 : (some false) = some r := by rw [if_neg (show ¬ (false = true) by decide)] at H; exact H
    clear H
    have H := H1
    clear H1
    obtain rfl := yey H
    try go_wp2
    have n0_ := Aside0.mk (below_drew1 HB.out)
    clear HB
    have HB := n0_
    clear n0_
    have p101 : 0 ≤ (x5_1 : Int) := of_decide_eq_true (by first | (with_reducible assumption) | assumption)
    have q101 : x5_1 < (l0.length : Int) := of_decide_eq_true (by first | (with_reducible assumption) | assumption)
    obtain ⟨ad101, e101, hx101_0, hx101_1⟩ := at_Face HR0.out x5_1 p101 q101
    have hw101_1 := hx101_1
    have hw101_0 := hx101_0
    cases e101
    replace hx101_0 := (HB.out.cell (yny w _ hx101_0)).trans hx101_0
    replace hx101_1 := (HB.out.cell (yny w _ hx101_1)).trans hx101_1
    replace p101 := eq_true p101
    replace q101 := eq_true q101
    have p102 : 0 ≤ (x5_1 : Int) := of_decide_eq_true (by first | (with_reducible assumption) | assumption)
    have q102 : x5_1 < (l1.length : Int) := of_decide_eq_true (by first | (with_reducible assumption) | assumption)
    obtain ⟨ad102, e102, hx102_0, hx102_1⟩ := at_Face HR1.out x5_1 p102 q102
    have hw102_1 := hx102_1
    have hw102_0 := hx102_0
    cases e102
    replace hx102_0 := (HB.out.cell (yny w _ hx102_0)).trans hx102_0
    replace hx102_1 := (HB.out.cell (yny w _ hx102_1)).trans hx102_1
    replace p102 := eq_true p102
    replace q102 := eq_true q102
    refine start_ (n := 10) (S := fun w' => w'.cell? (ad101.add ((x5_1).toNat * 2)) = some (.int .i64 ((rd_Face l0 x5_1).f0)) ∧ w'.cell? ⟨(ad101.add ((x5_1).toNat * 2)).block, (ad101.add ((x5_1).toNat * 2)).off + 1, none⟩ = some (.int .i64 ((rd_Face l0 x5_1).f1)) ∧ w'.cell? (ad102.add ((x5_1).toNat * 2)) = some (.int .i64 ((rd_Face l1 x5_1).f0)) ∧ w'.cell? ⟨(ad102.add ((x5_1).toNat * 2)).block, (ad102.add ((x5_1).toNat * 2)).off + 1, none⟩ = some (.int .i64 ((rd_Face l1 x5_1).f1))) (ds := []) #[false, false, false, false, false, false, false, false, false, false] (by kernel_rfl) rfl rfl ⟨((HB.out.cell (yny w _ hw101_0)).trans hw101_0), ((HB.out.cell (yny w _ hw101_1)).trans hw101_1), ((HB.out.cell (yny w _ hw102_0)).trans hw102_0), ((HB.out.cell (yny w _ hw102_1)).trans hw102_1)⟩ (fun hHeld => ?_); refine with_tabW laws_eqFaceS.tab6 laws_eqFaceS.bits6 (fun HT_ HW_ => ?_)
    generalize wr.drew = w11 at HB hx101_0 hx101_1 hx102_0 hx102_1 hHeld ⊢
    refine pure_ (i := 0) (N := some 17) (v := ?_) (a' := ?_) #[true, false, false, false, false, false, false, false, false, false] rfl rfl (any_of HT_.out (by kernel_rfl)) (fun _ _ _ h => h) (Or.inl ⟨by rfl, ?_⟩) ?_ ?_
    rotate_left
    next =>
     intro w'
     go_simp
     with_reducible rfl
    rotate_left
    next =>
     simp only [Act.put, yay, yby, ycy, i64_w, i32_w]
     rfl
    refine pure_ (i := 1) (N := some 18) (v := ?_) (a' := ?_) #[true, true, false, false, false, false, false, false, false, false] rfl rfl (any_of HT_.out (by kernel_rfl)) (fun _ _ _ h => h) (Or.inl ⟨by rfl, ?_⟩) ?_ ?_
    rotate_left
    next =>
     intro w'
     go_simp
     with_reducible rfl
    rotate_left
    next =>
     simp only [Act.put, yay, yby, ycy, i64_w, i32_w]
     rfl
    refine pure_ (i := 2) (N := some 19) (v := ?_) (a' := ?_) #[true, true, true, false, false, false, false, false, false, false] rfl rfl (any_of HT_.out (by kernel_rfl)) (fun _ _ _ h => h) (Or.inl ⟨by rfl, ?_⟩) ?_ ?_
    rotate_left
    next =>
     intro w'
     go_simp
     with_reducible rfl
    rotate_left
    next =>
     simp only [Act.put, yay, yby, ycy, i64_w, i32_w]
     rfl
    refine pure_ (i := 4) (N := some 21) (v := ?_) (a' := ?_) #[true, true, true, false, true, false, false, false, false, false] rfl rfl (any_of HT_.out (by kernel_rfl)) (fun _ _ _ h => h) (Or.inl ⟨by rfl, ?_⟩) ?_ ?_
    rotate_left
    next =>
     intro w'
     go_simp
     with_reducible rfl
    rotate_left
    next =>
     simp only [Act.put, yay, yby, ycy, i64_w, i32_w]
     rfl
    refine pure_ (i := 5) (N := some 22) (v := ?_) (a' := ?_) #[true, true, true, false, true, true, false, false, false, false] rfl rfl (any_of HT_.out (by kernel_rfl)) (fun _ _ _ h => h) (Or.inl ⟨by rfl, ?_⟩) ?_ ?_
    rotate_left
    next =>
     intro w'
     go_simp
     with_reducible rfl
    rotate_left
    next =>
     simp only [Act.put, yay, yby, ycy, i64_w, i32_w]
     rfl
    refine pure_ (i := 6) (N := some 23) (v := ?_) (a' := ?_) #[true, true, true, false, true, true, true, false, false, false] rfl rfl (any_of HT_.out (by kernel_rfl)) (fun _ _ _ h => h) (Or.inl ⟨by rfl, ?_⟩) ?_ ?_
    rotate_left
    next =>
     intro w'
     go_simp
     with_reducible rfl
    rotate_left
    next =>
     simp only [Act.put, yay, yby, ycy, i64_w, i32_w]
     rfl
    refine take_ (i := 3) (N := some 20) (v := ?_) (a' := ?_) #[true, true, true, true, true, true, true, false, false, false] rfl rfl (take_ofW HT_.out HW_.out (by kernel_rfl)) (fun _ _ _ h => h) (Or.inl ⟨by rfl, ?_⟩) hHeld ?_ ?_
    rotate_left
    next =>
     rintro w' ⟨s0, s1, s2, s3⟩
     go_simp
     with_reducible rfl
    rotate_left
    next =>
     simp only [Act.put, yay, yby, ycy, i64_w, i32_w]
     rfl
    refine take_ (i := 7) (N := some 24) (v := ?_) (a' := ?_) #[true, true, true, true, true, true, true, true, false, false] rfl rfl (take_ofW HT_.out HW_.out (by kernel_rfl)) (fun _ _ _ h => h) (Or.inl ⟨by rfl, ?_⟩) hHeld ?_ ?_
    rotate_left
    next =>
     rintro w' ⟨s0, s1, s2, s3⟩
     go_simp
     with_reducible rfl
    rotate_left
    next =>
     simp only [Act.put, yay, yby, ycy, i64_w, i32_w]
     rfl
    refine one_ (i := 8) (N := some 25) #[true, true, true, true, true, true, true, true, true, false] rfl rfl (one_of HT_.out (by kernel_rfl)) (by decide) (fun K hK => ?_)
    refine goes_ Try.func57 (by kernel_rfl) rfl #[.agg #[.int .i64 ((rd_Face l0 x5_1).f0), .int .i64 ((rd_Face l0 x5_1).f1)], .agg #[.int .i64 ((rd_Face l1 x5_1).f0), .int .i64 ((rd_Face l1 x5_1).f1)]] (by rfl) rfl rfl (by (try simp only [yiy, yjy, yky]); first | done | rfl | (simp only [yly, ymy]; rfl)) ?_
    with_reducible refine (laws_eqFace.calls ((rd_Face l0 x5_1).f0) ((rd_Face l0 x5_1).f1) ((rd_Face l1 x5_1).f0) ((rd_Face l1 x5_1).f1) false _ A7.out).mono ?_
    rintro e w12 ⟨rfl, hb⟩
    refine ⟨_, rfl, ?_⟩
    have n0_ := Aside0.mk (below_step (by repeat (first | (with_reducible first | exact HB.out | apply below_alloc | apply pw_below_drewN | apply below_drew1) | exact HB.out)) hb)
    clear HB
    have HB := n0_
    clear n0_
    (try clear hb)
    (try clear hb2)
    (try clear hk)
    (try clear hi)
    refine hK.out _ _ ⟨((HB.out.cell (yny w _ hw101_0)).trans hw101_0), ((HB.out.cell (yny w _ hw101_1)).trans hw101_1), ((HB.out.cell (yny w _ hw102_0)).trans hw102_0), ((HB.out.cell (yny w _ hw102_1)).trans hw102_1)⟩ (fun hHeld => ?_)
    clear hK K
    refine norm_ (a' := ?_) ?_ ?_
    rotate_left
    next =>
     show Act.put _ (some 25) _ = _
     simp only [Act.put, yay, yby, ycy, i64_w, i32_w]
     rfl
    refine pure_ (i := 9) (N := some 26) (v := ?_) (a' := ?_) #[true, true, true, true, true, true, true, true, true, true] rfl rfl (any_of HT_.out (by kernel_rfl)) (fun _ _ _ h => h) (Or.inl ⟨by rfl, ?_⟩) ?_ ?_
    rotate_left
    next =>
     intro w'
     go_simp
     with_reducible rfl
    rotate_left
    next =>
     simp only [Act.put, yay, yby, ycy, i64_w, i32_w]
     rfl
    refine done_ (done_of HT_.out (by kernel_rfl)) ?_
    try go_wp2
    go_ret
    exact ⟨by first | rfl | (simp [errW_none, errW_some] <;> rfl) | (simp [*, errW_none, errW_some] <;> rfl), by repeat (first | (with_reducible first | exact HB.out | apply below_alloc | apply pw_below_drewN | apply below_drew1) | exact HB.out)⟩
   subst c8
   have H1 : (laws_eqFaceS.l0 k1 l0 l1 (wrap64 (x5_1 + 1))) = some r := by rw [if_pos rfl] at H; exact H
   clear H
   have H := H1
   clear H1
   have H' := Aside0.mk H
   clear H
   try go_wp2
   have n0_ := Aside0.mk (below_drew1 HB.out)
   clear HB
   have HB := n0_
   clear n0_
   have p101 : 0 ≤ (x5_1 : Int) := of_decide_eq_true (by first | (with_reducible assumption) | assumption)
   have q101 : x5_1 < (l0.length : Int) := of_decide_eq_true (by first | (with_reducible assumption) | assumption)
   obtain ⟨ad101, e101, hx101_0, hx101_1⟩ := at_Face HR0.out x5_1 p101 q101
   have hw101_1 := hx101_1
   have hw101_0 := hx101_0
   cases e101
   replace hx101_0 := (HB.out.cell (yny w _ hx101_0)).trans hx101_0
   replace hx101_1 := (HB.out.cell (yny w _ hx101_1)).trans hx101_1
   replace p101 := eq_true p101
   replace q101 := eq_true q101
   have p102 : 0 ≤ (x5_1 : Int) := of_decide_eq_true (by first | (with_reducible assumption) | assumption)
   have q102 : x5_1 < (l1.length : Int) := of_decide_eq_true (by first | (with_reducible assumption) | assumption)
   obtain ⟨ad102, e102, hx102_0, hx102_1⟩ := at_Face HR1.out x5_1 p102 q102
   have hw102_1 := hx102_1
   have hw102_0 := hx102_0
   cases e102
   replace hx102_0 := (HB.out.cell (yny w _ hx102_0)).trans hx102_0
   replace hx102_1 := (HB.out.cell (yny w _ hx102_1)).trans hx102_1
   replace p102 := eq_true p102
   replace q102 := eq_true q102
   refine start_ (n := 10) (S := fun w' => w'.cell? (ad101.add ((x5_1).toNat * 2)) = some (.int .i64 ((rd_Face l0 x5_1).f0)) ∧ w'.cell? ⟨(ad101.add ((x5_1).toNat * 2)).block, (ad101.add ((x5_1).toNat * 2)).off + 1, none⟩ = some (.int .i64 ((rd_Face l0 x5_1).f1)) ∧ w'.cell? (ad102.add ((x5_1).toNat * 2)) = some (.int .i64 ((rd_Face l1 x5_1).f0)) ∧ w'.cell? ⟨(ad102.add ((x5_1).toNat * 2)).block, (ad102.add ((x5_1).toNat * 2)).off + 1, none⟩ = some (.int .i64 ((rd_Face l1 x5_1).f1))) (ds := []) #[false, false, false, false, false, false, false, false, false, false] (by kernel_rfl) rfl rfl ⟨((HB.out.cell (yny w _ hw101_0)).trans hw101_0), ((HB.out.cell (yny w _ hw101_1)).trans hw101_1), ((HB.out.cell (yny w _ hw102_0)).trans hw102_0), ((HB.out.cell (yny w _ hw102_1)).trans hw102_1)⟩ (fun hHeld => ?_); refine with_tabW laws_eqFaceS.tab6 laws_eqFaceS.bits6 (fun HT_ HW_ => ?_)
   generalize wr.drew = w9 at HB hx101_0 hx101_1 hx102_0 hx102_1 hHeld ⊢
   refine pure_ (i := 0) (N := some 17) (v := ?_) (a' := ?_) #[true, false, false, false, false, false, false, false, false, false] rfl rfl (any_of HT_.out (by kernel_rfl)) (fun _ _ _ h => h) (Or.inl ⟨by rfl, ?_⟩) ?_ ?_
   rotate_left
   next =>
    intro w'
    go_simp
    with_reducible rfl
   rotate_left
   next =>
    simp only [Act.put, yay, yby, ycy, i64_w, i32_w]
    rfl
   refine pure_ (i := 1) (N := some 18) (v := ?_) (a' := ?_) #[true, true, false, false, false, false, false, false, false, false] rfl rfl (any_of HT_.out (by kernel_rfl)) (fun _ _ _ h => h) (Or.inl ⟨by rfl, ?_⟩) ?_ ?_
   rotate_left
   next =>
    intro w'
    go_simp
    with_reducible rfl
   rotate_left
   next =>
    simp only [Act.put, yay, yby, ycy, i64_w, i32_w]
    rfl
   refine pure_ (i := 2) (N := some 19) (v := ?_) (a' := ?_) #[true, true, true, false, false, false, false, false, false, false] rfl rfl (any_of HT_.out (by kernel_rfl)) (fun _ _ _ h => h) (Or.inl ⟨by rfl, ?_⟩) ?_ ?_
   rotate_left
   next =>
    intro w'
    go_simp
    with_reducible rfl
   rotate_left
   next =>
    simp only [Act.put, yay, yby, ycy, i64_w, i32_w]
    rfl
   refine pure_ (i := 4) (N := some 21) (v := ?_) (a' := ?_) #[true, true, true, false, true, false, false, false, false, false] rfl rfl (any_of HT_.out (by kernel_rfl)) (fun _ _ _ h => h) (Or.inl ⟨by rfl, ?_⟩) ?_ ?_
   rotate_left
   next =>
    intro w'
    go_simp
    with_reducible rfl
   rotate_left
   next =>
    simp only [Act.put, yay, yby, ycy, i64_w, i32_w]
    rfl
   refine pure_ (i := 5) (N := some 22) (v := ?_) (a' := ?_) #[true, true, true, false, true, true, false, false, false, false] rfl rfl (any_of HT_.out (by kernel_rfl)) (fun _ _ _ h => h) (Or.inl ⟨by rfl, ?_⟩) ?_ ?_
   rotate_left
   next =>
    intro w'
    go_simp
    with_reducible rfl
   rotate_left
   next =>
    simp only [Act.put, yay, yby, ycy, i64_w, i32_w]
    rfl
   refine pure_ (i := 6) (N := some 23) (v := ?_) (a' := ?_) #[true, true, true, false, true, true, true, false, false, false] rfl rfl (any_of HT_.out (by kernel_rfl)) (fun _ _ _ h => h) (Or.inl ⟨by rfl, ?_⟩) ?_ ?_
   rotate_left
   next =>
    intro w'
    go_simp
    with_reducible rfl
   rotate_left
   next =>
    simp only [Act.put, yay, yby, ycy, i64_w, i32_w]
    rfl
   refine take_ (i := 3) (N := some 20) (v := ?_) (a' := ?_) #[true, true, true, true, true, true, true, false, false, false] rfl rfl (take_ofW HT_.out HW_.out (by kernel_rfl)) (fun _ _ _ h => h) (Or.inl ⟨by rfl, ?_⟩) hHeld ?_ ?_
   rotate_left
   next =>
    rintro w' ⟨s0, s1, s2, s3⟩
    go_simp
    with_reducible rfl
   rotate_left
   next =>
    simp only [Act.put, yay, yby, ycy, i64_w, i32_w]
    rfl
   refine take_ (i := 7) (N := some 24) (v := ?_) (a' := ?_) #[true, true, true, true, true, true, true, true, false, false] rfl rfl (take_ofW HT_.out HW_.out (by kernel_rfl)) (fun _ _ _ h => h) (Or.inl ⟨by rfl, ?_⟩) hHeld ?_ ?_
   rotate_left
   next =>
    rintro w' ⟨s0, s1, s2, s3⟩
    go_simp
    with_reducible rfl
   rotate_left
   next =>
    simp only [Act.put, yay, yby, ycy, i64_w, i32_w]
    rfl
   refine one_ (i := 8) (N := some 25) #[true, true, true, true, true, true, true, true, true, false] rfl rfl (one_of HT_.out (by kernel_rfl)) (by decide) (fun K hK => ?_)
   refine goes_ Try.func57 (by kernel_rfl) rfl #[.agg #[.int .i64 ((rd_Face l0 x5_1).f0), .int .i64 ((rd_Face l0 x5_1).f1)], .agg #[.int .i64 ((rd_Face l1 x5_1).f0), .int .i64 ((rd_Face l1 x5_1).f1)]] (by rfl) rfl rfl (by (try simp only [yiy, yjy, yky]); first | done | rfl | (simp only [yly, ymy]; rfl)) ?_
   with_reducible refine (laws_eqFace.calls ((rd_Face l0 x5_1).f0) ((rd_Face l0 x5_1).f1) ((rd_Face l1 x5_1).f0) ((rd_Face l1 x5_1).f1) true _ A7.out).mono ?_
   rintro e w10 ⟨rfl, hb⟩
   refine ⟨_, rfl, ?_⟩
   have n0_ := Aside0.mk (below_step (by repeat (first | (with_reducible first | exact HB.out | apply below_alloc | apply pw_below_drewN | apply below_drew1) | exact HB.out)) hb)
   clear HB
   have HB := n0_
   clear n0_
   (try clear hb)
   (try clear hb2)
   (try clear hk)
   (try clear hi)
   refine hK.out _ _ ⟨((HB.out.cell (yny w _ hw101_0)).trans hw101_0), ((HB.out.cell (yny w _ hw101_1)).trans hw101_1), ((HB.out.cell (yny w _ hw102_0)).trans hw102_0), ((HB.out.cell (yny w _ hw102_1)).trans hw102_1)⟩ (fun hHeld => ?_)
   clear hK K
   refine norm_ (a' := ?_) ?_ ?_
   rotate_left
   next =>
    show Act.put _ (some 25) _ = _
    simp only [Act.put, yay, yby, ycy, i64_w, i32_w]
    rfl
   refine pure_ (i := 9) (N := some 26) (v := ?_) (a' := ?_) #[true, true, true, true, true, true, true, true, true, true] rfl rfl (any_of HT_.out (by kernel_rfl)) (fun _ _ _ h => h) (Or.inl ⟨by rfl, ?_⟩) ?_ ?_
   rotate_left
   next =>
    intro w'
    go_simp
    with_reducible rfl
   rotate_left
   next =>
    simp only [Act.put, yay, yby, ycy, i64_w, i32_w]
    rfl
   refine done_ (done_of HT_.out (by kernel_rfl)) ?_
   try go_wp2
   go_roundg k1
   case measure => have := HK1.out; omega
   case rel => exact ⟨(wrap64 (x5_1 + 1)), (by first | rfl | (simp; done) | (simp [*]; done)), H', ⟨by have := HK1.out; omega⟩, ⟨by repeat (first | (with_reducible first | exact HB.out | apply below_alloc | apply pw_below_drewN | apply below_drew1) | exact HB.out)⟩⟩
/-! ### laws_eqFaceSS: function 22 -/
def laws_eqFaceSS.l0 : Nat → List (List (SFace)) → List (List (SFace)) → Int → Option (Bool)
 | 0, _, _, _ => none
 | k + 1, x0, x1, x5 => if x5 < (x0.length : Int) then (if 0 ≤ x5 then (if x5 < (x1.length : Int) then ((laws_eqFaceS.f k (rd_LFace x0 x5) (rd_LFace x1 x5)).bind fun t103 => (if t103 = true then (laws_eqFaceSS.l0 k x0 x1 (wrap64 (x5 + 1))) else (some false))) else (none)) else (none)) else (some true)
def laws_eqFaceSS.f (k : Nat) (l0 : List (List (SFace))) (l1 : List (List (SFace))) : Option (Bool) := if (l0.length : Int) = (l1.length : Int) then (laws_eqFaceSS.l0 k l0 l1 0) else (some false)
def laws_eqFaceSS.T6 : Bool × List (List Nat × List Nat) := (true, [([], []), ([], []), ([0, 1], [0, 1]), ([2], [2]), ([], []), ([], []), ([4, 5], [4, 5]), ([6], [6]), ([3, 7], [3, 7]), ([8], [8])])
def laws_eqFaceSS.B6 : List Nat := [0, 0, 3, 7, 0, 0, 48, 112, 255, 511]
theorem laws_eqFaceSS.tab6 : rtab .any (opsOf Try.f22 6) = laws_eqFaceSS.T6 := by kernel_rfl
theorem laws_eqFaceSS.bits6 : waitsOk laws_eqFaceSS.T6.2 laws_eqFaceSS.B6 = true := by kernel_rfl
set_option maxHeartbeats 8000000 in
set_option maxRecDepth 100000 in
theorem laws_eqFaceSS.calls (k : Nat) (A0 : Option Addr) (c0 : Nat) (l0 : List (List (SFace))) (A1 : Option Addr) (c1 : Nat) (l1 : List (List (SFace))) (r : Bool) (w : World) (hr0 : Kd.C (Kd.slice 56 kFace) w A0 l0.length l0) (hc0 : l0.length ≤ c0) (hr1 : Kd.C (Kd.slice 56 kFace) w A1 l1.length l1) (hc1 : l1.length ≤ c1) (h : laws_eqFaceSS.f k l0 l1 = some r) :
 Calls Try.prog 22 #[.slice A0 l0.length c0, .slice A1 l1.length c1] w fun e w' => e = .returned (.bool r) ∧ Below w.heap.size w w' := by
 have HR0 := Aside0.mk hr0
 have HC0 := Aside0.mk hc0
 clear hr0 hc0
 have HR1 := Aside0.mk hr1
 have HC1 := Aside0.mk hc1
 clear hr1 hc1
 have HB := Aside0.mk (ypy w.heap.size w)
 have H : (if (l0.length : Int) = (l1.length : Int) then (laws_eqFaceSS.l0 k l0 l1 0) else (some false)) = some r := h
 clear h
 by_cases c3 : (l0.length : Int) = (l1.length : Int)
 rotate_left
 next =>
  rw [if_neg c3] at H
  have c3b0 : ((l0.length : Int) == (l1.length : Int)) = false := beq_eq_false_iff_ne.mpr c3
  have c3b1 : ((l0.length : Int) != (l1.length : Int)) = true := bne_iff_ne.mpr c3
  have c3b2 : (l0.length == l1.length) = false := by first | simpa using c3 | (simp at c3 ⊢; omega)
  obtain rfl := yey H
  go_enter Try.func22, Try.ntmps22
  go_wp2
  go_ret
  exact ⟨by first | rfl | (simp [errW_none, errW_some] <;> rfl) | (simp [*, errW_none, errW_some] <;> rfl), by repeat (first | (with_reducible first | exact HB.out | apply below_alloc | apply pw_below_drewN | apply below_drew1) | exact HB.out)⟩
 rw [if_pos c3] at H
 have c3b0 : ((l0.length : Int) == (l1.length : Int)) = true := beq_iff_eq.mpr c3
 have c3b1 : ((l0.length : Int) != (l1.length : Int)) = false := bne_eq_false_iff_eq.mpr c3
 have c3b2 : (l0.length == l1.length) = true := by first | simpa using c3 | (simp at c3 ⊢; omega)
 clear c3
 have H' := Aside0.mk H
 clear H
 go_enter Try.func22, Try.ntmps22
 go_wp2
 go_loopg [5] k (fun kq v5 w' => ∃ (x5_1 : Int), v5 = .int .i64 x5_1 ∧ Aside0 (laws_eqFaceSS.l0 kq l0 l1 x5_1 = some r) ∧ Aside0 (kq ≤ k) ∧ Aside0 (Below w.heap.size w w'))
 case atStart => exact ⟨(0), (by first | rfl | (simp; done) | (simp [*]; done)), H', ⟨yoy _⟩, ⟨by repeat (first | (with_reducible first | exact HB.out | apply below_alloc | apply pw_below_drewN | apply below_drew1) | exact HB.out)⟩⟩
 case round =>
  clear H'
  try clear c1
  try clear c2
  try clear p2
  try clear c3
  try clear c3b0
  try clear c3b1
  try clear c3b2
  obtain ⟨x5_1, rfl, HA, HK1, HB⟩ := hrel
  cases gk with
  | zero => exact absurd HA.out (by simp [laws_eqFaceSS.l0])
  | succ k1 =>
   have H := HA.out
   clear HA
   simp only [laws_eqFaceSS.l0] at H
   by_cases c4 : x5_1 < (l0.length : Int)
   rotate_left
   next =>
    rw [if_neg c4] at H
    have c4b0 : decide (x5_1 < (l0.length : Int)) = false := yhy c4
    clear c4
    obtain rfl := yey H
    go_wp2
    go_ret
    exact ⟨by first | rfl | (simp [errW_none, errW_some] <;> rfl) | (simp [*, errW_none, errW_some] <;> rfl), by repeat (first | (with_reducible first | exact HB.out | apply below_alloc | apply pw_below_drewN | apply below_drew1) | exact HB.out)⟩
   rw [if_pos c4] at H
   have c4b0 : decide (x5_1 < (l0.length : Int)) = true := ygy c4
   clear c4
   by_cases c5 : 0 ≤ x5_1
   rotate_left
   next =>
    rw [if_neg c5] at H
    exact absurd H (by simp)
   rw [if_pos c5] at H
   have c5b0 : decide (0 ≤ x5_1) = true := ygy c5
   clear c5
   by_cases c6 : x5_1 < (l1.length : Int)
   rotate_left
   next =>
    rw [if_neg c6] at H
    exact absurd H (by simp)
   rw [if_pos c6] at H
   have c6b0 : decide (x5_1 < (l1.length : Int)) = true := ygy c6
   clear c6
   replace H := ydy.mp H
   obtain ⟨t103, A70, H⟩ := H
   replace H : (if t103 = true then (laws_eqFaceSS.l0 k1 l0 l1 (wrap64 (x5_1 + 1))) else (some false)) = some r := H
   have A7 := Aside0.mk A70
   clear A70
   by_cases c8 : t103 = true
   rotate_left
   next =>
    replace c8 := Bool.eq_false_iff.mpr c8
    subst c8
    have H1 : (some false) = some r := by rw [if_neg (show ¬ (false = true) by decide)] at H; exact H
    clear H
    have H := H1
    clear H1
    obtain rfl := yey H
    try go_wp2
    have n0_ := Aside0.mk (below_drew1 HB.out)
    clear HB
    have HB := n0_
    clear n0_
    have p101 : 0 ≤ (x5_1 : Int) := of_decide_eq_true (by first | (with_reducible assumption) | assumption)
    have q101 : x5_1 < (l0.length : Int) := of_decide_eq_true (by first | (with_reducible assumption) | assumption)
    obtain ⟨ad101, A101_0, c101_0, e101, hx101_0, hl101_0, hi101_0⟩ := at_LFace HR0.out x5_1 p101 q101
    have hw101_0 := hx101_0
    cases e101
    replace hx101_0 := (HB.out.cell (yny w _ hx101_0)).trans hx101_0
    have HR101_0 := Aside0.mk hi101_0
    have HC101_0 := Aside0.mk hl101_0
    clear hi101_0 hl101_0
    replace p101 := eq_true p101
    replace q101 := eq_true q101
    have p102 : 0 ≤ (x5_1 : Int) := of_decide_eq_true (by first | (with_reducible assumption) | assumption)
    have q102 : x5_1 < (l1.length : Int) := of_decide_eq_true (by first | (with_reducible assumption) | assumption)
    obtain ⟨ad102, A102_0, c102_0, e102, hx102_0, hl102_0, hi102_0⟩ := at_LFace HR1.out x5_1 p102 q102
    have hw102_0 := hx102_0
    cases e102
    replace hx102_0 := (HB.out.cell (yny w _ hx102_0)).trans hx102_0
    have HR102_0 := Aside0.mk hi102_0
    have HC102_0 := Aside0.mk hl102_0
    clear hi102_0 hl102_0
    replace p102 := eq_true p102
    replace q102 := eq_true q102
    refine start_ (n := 10) (S := fun w' => w'.cell? (ad101.add (x5_1).toNat) = some (.slice A101_0 (rd_LFace l0 x5_1).length c101_0) ∧ w'.cell? (ad102.add (x5_1).toNat) = some (.slice A102_0 (rd_LFace l1 x5_1).length c102_0)) (ds := []) #[false, false, false, false, false, false, false, false, false, false] (by kernel_rfl) rfl rfl ⟨((HB.out.cell (yny w _ hw101_0)).trans hw101_0), ((HB.out.cell (yny w _ hw102_0)).trans hw102_0)⟩ (fun hHeld => ?_); refine with_tabW laws_eqFaceSS.tab6 laws_eqFaceSS.bits6 (fun HT_ HW_ => ?_)
    generalize wr.drew = w11 at HB HR101_0 HR102_0 hx101_0 hx102_0 hHeld ⊢
    refine pure_ (i := 0) (N := some 17) (v := ?_) (a' := ?_) #[true, false, false, false, false, false, false, false, false, false] rfl rfl (any_of HT_.out (by kernel_rfl)) (fun _ _ _ h => h) (Or.inl ⟨by rfl, ?_⟩) ?_ ?_
    rotate_left
    next =>
     intro w'
     go_simp
     with_reducible rfl
    rotate_left
    next =>
     simp only [Act.put, yay, yby, ycy, i64_w, i32_w]
     rfl
    refine pure_ (i := 1) (N := some 18) (v := ?_) (a' := ?_) #[true, true, false, false, false, false, false, false, false, false] rfl rfl (any_of HT_.out (by kernel_rfl)) (fun _ _ _ h => h) (Or.inl ⟨by rfl, ?_⟩) ?_ ?_
    rotate_left
    next =>
     intro w'
     go_simp
     with_reducible rfl
    rotate_left
    next =>
     simp only [Act.put, yay, yby, ycy, i64_w, i32_w]
     rfl
    refine pure_ (i := 2) (N := some 19) (v := ?_) (a' := ?_) #[true, true, true, false, false, false, false, false, false, false] rfl rfl (any_of HT_.out (by kernel_rfl)) (fun _ _ _ h => h) (Or.inl ⟨by rfl, ?_⟩) ?_ ?_
    rotate_left
    next =>
     intro w'
     go_simp
     with_reducible rfl
    rotate_left
    next =>
     simp only [Act.put, yay, yby, ycy, i64_w, i32_w]
     rfl
    refine pure_ (i := 4) (N := some 21) (v := ?_) (a' := ?_) #[true, true, true, false, true, false, false, false, false, false] rfl rfl (any_of HT_.out (by kernel_rfl)) (fun _ _ _ h => h) (Or.inl ⟨by rfl, ?_⟩) ?_ ?_
    rotate_left
    next =>
     intro w'
     go_simp
     with_reducible rfl
    rotate_left
    next =>
     simp only [Act.put, yay, yby, ycy, i64_w, i32_w]
     rfl
    refine pure_ (i := 5) (N := some 22) (v := ?_) (a' := ?_) #[true, true, true, false, true, true, false, false, false, false] rfl rfl (any_of HT_.out (by kernel_rfl)) (fun _ _ _ h => h) (Or.inl ⟨by rfl, ?_⟩) ?_ ?_
    rotate_left
    next =>
     intro w'
     go_simp
     with_reducible rfl
    rotate_left
    next =>
     simp only [Act.put, yay, yby, ycy, i64_w, i32_w]
     rfl
    refine pure_ (i := 6) (N := some 23) (v := ?_) (a' := ?_) #[true, true, true, false, true, true, true, false, false, false] rfl rfl (any_of HT_.out (by kernel_rfl)) (fun _ _ _ h => h) (Or.inl ⟨by rfl, ?_⟩) ?_ ?_
    rotate_left
    next =>
     intro w'
     go_simp
     with_reducible rfl
    rotate_left
    next =>
     simp only [Act.put, yay, yby, ycy, i64_w, i32_w]
     rfl
    refine take_ (i := 3) (N := some 20) (v := ?_) (a' := ?_) #[true, true, true, true, true, true, true, false, false, false] rfl rfl (take_ofW HT_.out HW_.out (by kernel_rfl)) (fun _ _ _ h => h) (Or.inl ⟨by rfl, ?_⟩) hHeld ?_ ?_
    rotate_left
    next =>
     rintro w' ⟨s0, s1⟩
     go_simp
     with_reducible rfl
    rotate_left
    next =>
     simp only [Act.put, yay, yby, ycy, i64_w, i32_w]
     rfl
    refine take_ (i := 7) (N := some 24) (v := ?_) (a' := ?_) #[true, true, true, true, true, true, true, true, false, false] rfl rfl (take_ofW HT_.out HW_.out (by kernel_rfl)) (fun _ _ _ h => h) (Or.inl ⟨by rfl, ?_⟩) hHeld ?_ ?_
    rotate_left
    next =>
     rintro w' ⟨s0, s1⟩
     go_simp
     with_reducible rfl
    rotate_left
    next =>
     simp only [Act.put, yay, yby, ycy, i64_w, i32_w]
     rfl
    refine one_ (i := 8) (N := some 25) #[true, true, true, true, true, true, true, true, true, false] rfl rfl (one_of HT_.out (by kernel_rfl)) (by decide) (fun K hK => ?_)
    refine goes_ Try.func43 (by kernel_rfl) rfl #[.slice A101_0 (rd_LFace l0 x5_1).length c101_0, .slice A102_0 (rd_LFace l1 x5_1).length c102_0] (by rfl) rfl rfl (by (try simp only [yiy, yjy, yky]); first | done | rfl | (simp only [yly, ymy]; rfl)) ?_
    with_reducible refine (laws_eqFaceS.calls k1 _ _ (rd_LFace l0 x5_1) _ _ (rd_LFace l1 x5_1) false _ ?side1 ?side2 ?side3 ?side4 A7.out).mono ?_
    (case side1 => repeat (first | exact (Kd.C_below HR101_0.out HB.out) | (with_reducible refine Kd.C_alloc ?_ _) | (with_reducible refine Kd.C_drewN ?_ _) | (with_reducible refine Kd.C_drew ?_)))
    (case side2 => exact HC101_0.out)
    (case side3 => repeat (first | exact (Kd.C_below HR102_0.out HB.out) | (with_reducible refine Kd.C_alloc ?_ _) | (with_reducible refine Kd.C_drewN ?_ _) | (with_reducible refine Kd.C_drew ?_)))
    (case side4 => exact HC102_0.out)
    rintro e w12 ⟨rfl, hb⟩
    refine ⟨_, rfl, ?_⟩
    have n0_ := Aside0.mk (below_step (by repeat (first | (with_reducible first | exact HB.out | apply below_alloc | apply pw_below_drewN | apply below_drew1) | exact HB.out)) hb)
    clear HB
    have HB := n0_
    clear n0_
    (try clear hb)
    (try clear hb2)
    (try clear hk)
    (try clear hi)
    refine hK.out _ _ ⟨((HB.out.cell (yny w _ hw101_0)).trans hw101_0), ((HB.out.cell (yny w _ hw102_0)).trans hw102_0)⟩ (fun hHeld => ?_)
    clear hK K
    refine norm_ (a' := ?_) ?_ ?_
    rotate_left
    next =>
     show Act.put _ (some 25) _ = _
     simp only [Act.put, yay, yby, ycy, i64_w, i32_w]
     rfl
    refine pure_ (i := 9) (N := some 26) (v := ?_) (a' := ?_) #[true, true, true, true, true, true, true, true, true, true] rfl rfl (any_of HT_.out (by kernel_rfl)) (fun _ _ _ h => h) (Or.inl ⟨by rfl, ?_⟩) ?_ ?_
    rotate_left
    next =>
     intro w'
     go_simp
     with_reducible rfl
    rotate_left
    next =>
     simp only [Act.put, yay, yby, ycy, i64_w, i32_w]
     rfl
    refine done_ (done_of HT_.out (by kernel_rfl)) ?_
    try go_wp2
    go_ret
    exact ⟨by first | rfl | (simp [errW_none, errW_some] <;> rfl) | (simp [*, errW_none, errW_some] <;> rfl), by repeat (first | (with_reducible first | exact HB.out | apply below_alloc | apply pw_below_drewN | apply below_drew1) | exact HB.out)⟩
   subst c8
   have H1 : (laws_eqFaceSS.l0 k1 l0 l1 (wrap64 (x5_1 + 1))) = some r := by rw [if_pos rfl] at H; exact H
   clear H
   have H := H1
   clear H1
   have H' := Aside0.mk H
   clear H
   try go_wp2
   have n0_ := Aside0.mk (below_drew1 HB.out)
   clear HB
   have HB := n0_
   clear n0_
   have p101 : 0 ≤ (x5_1 : Int) := of_decide_eq_true (by first | (with_reducible assumption) | assumption)
   have q101 : x5_1 < (l0.length : Int) := of_decide_eq_true (by first | (with_reducible assumption) | assumption)
   obtain ⟨ad101, A101_0, c101_0, e101, hx101_0, hl101_0, hi101_0⟩ := at_LFace HR0.out x5_1 p101 q101
   have hw101_0 := hx101_0
   cases e101
   replace hx101_0 := (HB.out.cell (yny w _ hx101_0)).trans hx101_0
   have HR101_0 := Aside0.mk hi101_0
   have HC101_0 := Aside0.mk hl101_0
   clear hi101_0 hl101_0
   replace p101 := eq_true p101
   replace q101 := eq_true q101
   have p102 : 0 ≤ (x5_1 : Int) := of_decide_eq_true (by first | (with_reducible assumption) | assumption)
   have q102 : x5_1 < (l1.length : Int) := of_decide_eq_true (by first | (with_reducible assumption) | assumption)
   obtain ⟨ad102, A102_0, c102_0, e102, hx102_0, hl102_0, hi102_0⟩ := at_LFace HR1.out x5_1 p102 q102
   have hw102_0 := hx102_0
   cases e102
   replace hx102_0 := (HB.out.cell (yny w _ hx102_0)).trans hx102_0
   have HR102_0 := Aside0.mk hi102_0
   have HC102_0 := Aside0.mk hl102_0
   clear hi102_0 hl102_0
   replace p102 := eq_true p102
   replace q102 := eq_true q102
   refine start_ (n := 10) (S := fun w' => w'.cell? (ad101.add (x5_1).toNat) = some (.slice A101_0 (rd_LFace l0 x5_1).length c101_0) ∧ w'.cell? (ad102.add (x5_1).toNat) = some (.slice A102_0 (rd_LFace l1 x5_1).length c102_0)) (ds := []) #[false, false, false, false, false, false, false, false, false, false] (by kernel_rfl) rfl rfl ⟨((HB.out.cell (yny w _ hw101_0)).trans hw101_0), ((HB.out.cell (yny w _ hw102_0)).trans hw102_0)⟩ (fun hHeld => ?_); refine with_tabW laws_eqFaceSS.tab6 laws_eqFaceSS.bits6 (fun HT_ HW_ => ?_)
   generalize wr.drew = w9 at HB HR101_0 HR102_0 hx101_0 hx102_0 hHeld ⊢
   refine pure_ (i := 0) (N := some 17) (v := ?_) (a' := ?_) #[true, false, false, false, false, false, false, false, false, false] rfl rfl (any_of HT_.out (by kernel_rfl)) (fun _ _ _ h => h) (Or.inl ⟨by rfl, ?_⟩) ?_ ?_
   rotate_left
   next =>
    intro w'
    go_simp
    with_reducible rfl
   rotate_left
   next =>
    simp only [Act.put, yay, yby, ycy, i64_w, i32_w]
    rfl
   refine pure_ (i := 1) (N := some 18) (v := ?_) (a' := ?_) #[true, true, false, false, false, false, false, false, false, false] rfl rfl (any_of HT_.out (by kernel_rfl)) (fun _ _ _ h => h) (Or.inl ⟨by rfl, ?_⟩) ?_ ?_
   rotate_left
   next =>
    intro w'
    go_simp
    with_reducible rfl
   rotate_left
   next =>
    simp only [Act.put, yay, yby, ycy, i64_w, i32_w]
    rfl
   refine pure_ (i := 2) (N := some 19) (v := ?_) (a' := ?_) #[true, true, true, false, false, false, false, false, false, false] rfl rfl (any_of HT_.out (by kernel_rfl)) (fun _ _ _ h => h) (Or.inl ⟨by rfl, ?_⟩) ?_ ?_
   rotate_left
   next =>
    intro w'
    go_simp
    with_reducible rfl
   rotate_left
   next =>
    simp only [Act.put, yay, yby, ycy, i64_w, i32_w]
    rfl
   refine pure_ (i := 4) (N := some 21) (v := ?_) (a' := ?_) #[true, true, true, false, true, false, false, false, false, false] rfl rfl (any_of HT_.out (by kernel_rfl)) (fun _ _ _ h => h) (Or.inl ⟨by rfl, ?_⟩) ?_ ?_
   rotate_left
   next =>
    intro w'
    go_simp
    with_reducible rfl
   rotate_left
   next =>
    simp only [Act.put, yay, yby, ycy, i64_w, i32_w]
    rfl
   refine pure_ (i := 5) (N := some 22) (v := ?_) (a' := ?_) #[true, true, true, false, true, true, false, false, false, false] rfl rfl (any_of HT_.out (by kernel_rfl)) (fun _ _ _ h => h) (Or.inl ⟨by rfl, ?_⟩) ?_ ?_
   rotate_left
   next =>
    intro w'
    go_simp
    with_reducible rfl
   rotate_left
   next =>
    simp only [Act.put, yay, yby, ycy, i64_w, i32_w]
    rfl
   refine pure_ (i := 6) (N := some 23) (v := ?_) (a' := ?_) #[true, true, true, false, true, true, true, false, false, false] rfl rfl (any_of HT_.out (by kernel_rfl)) (fun _ _ _ h => h) (Or.inl ⟨by rfl, ?_⟩) ?_ ?_
   rotate_left
   next =>
    intro w'
    go_simp
    with_reducible rfl
   rotate_left
   next =>
    simp only [Act.put, yay, yby, ycy, i64_w, i32_w]
    rfl
   refine take_ (i := 3) (N := some 20) (v := ?_) (a' := ?_) #[true, true, true, true, true, true, true, false, false, false] rfl rfl (take_ofW HT_.out HW_.out (by kernel_rfl)) (fun _ _ _ h => h) (Or.inl ⟨by rfl, ?_⟩) hHeld ?_ ?_
   rotate_left
   next =>
    rintro w' ⟨s0, s1⟩
    go_simp
    with_reducible rfl
   rotate_left
   next =>
    simp only [Act.put, yay, yby, ycy, i64_w, i32_w]
    rfl
   refine take_ (i := 7) (N := some 24) (v := ?_) (a' := ?_) #[true, true, true, true, true, true, true, true, false, false] rfl rfl (take_ofW HT_.out HW_.out (by kernel_rfl)) (fun _ _ _ h => h) (Or.inl ⟨by rfl, ?_⟩) hHeld ?_ ?_
   rotate_left
   next =>
    rintro w' ⟨s0, s1⟩
    go_simp
    with_reducible rfl
   rotate_left
   next =>
    simp only [Act.put, yay, yby, ycy, i64_w, i32_w]
    rfl
   refine one_ (i := 8) (N := some 25) #[true, true, true, true, true, true, true, true, true, false] rfl rfl (one_of HT_.out (by kernel_rfl)) (by decide) (fun K hK => ?_)
   refine goes_ Try.func43 (by kernel_rfl) rfl #[.slice A101_0 (rd_LFace l0 x5_1).length c101_0, .slice A102_0 (rd_LFace l1 x5_1).length c102_0] (by rfl) rfl rfl (by (try simp only [yiy, yjy, yky]); first | done | rfl | (simp only [yly, ymy]; rfl)) ?_
   with_reducible refine (laws_eqFaceS.calls k1 _ _ (rd_LFace l0 x5_1) _ _ (rd_LFace l1 x5_1) true _ ?side1 ?side2 ?side3 ?side4 A7.out).mono ?_
   (case side1 => repeat (first | exact (Kd.C_below HR101_0.out HB.out) | (with_reducible refine Kd.C_alloc ?_ _) | (with_reducible refine Kd.C_drewN ?_ _) | (with_reducible refine Kd.C_drew ?_)))
   (case side2 => exact HC101_0.out)
   (case side3 => repeat (first | exact (Kd.C_below HR102_0.out HB.out) | (with_reducible refine Kd.C_alloc ?_ _) | (with_reducible refine Kd.C_drewN ?_ _) | (with_reducible refine Kd.C_drew ?_)))
   (case side4 => exact HC102_0.out)
   rintro e w10 ⟨rfl, hb⟩
   refine ⟨_, rfl, ?_⟩
   have n0_ := Aside0.mk (below_step (by repeat (first | (with_reducible first | exact HB.out | apply below_alloc | apply pw_below_drewN | apply below_drew1) | exact HB.out)) hb)
   clear HB
   have HB := n0_
   clear n0_
   (try clear hb)
   (try clear hb2)
   (try clear hk)
   (try clear hi)
   refine hK.out _ _ ⟨((HB.out.cell (yny w _ hw101_0)).trans hw101_0), ((HB.out.cell (yny w _ hw102_0)).trans hw102_0)⟩ (fun hHeld => ?_)
   clear hK K
   refine norm_ (a' := ?_) ?_ ?_
   rotate_left
   next =>
    show Act.put _ (some 25) _ = _
    simp only [Act.put, yay, yby, ycy, i64_w, i32_w]
    rfl
   refine pure_ (i := 9) (N := some 26) (v := ?_) (a' := ?_) #[true, true, true, true, true, true, true, true, true, true] rfl rfl (any_of HT_.out (by kernel_rfl)) (fun _ _ _ h => h) (Or.inl ⟨by rfl, ?_⟩) ?_ ?_
   rotate_left
   next =>
    intro w'
    go_simp
    with_reducible rfl
   rotate_left
   next =>
    simp only [Act.put, yay, yby, ycy, i64_w, i32_w]
    rfl
   refine done_ (done_of HT_.out (by kernel_rfl)) ?_
   try go_wp2
   go_roundg k1
   case measure => have := HK1.out; omega
   case rel => exact ⟨(wrap64 (x5_1 + 1)), (by first | rfl | (simp; done) | (simp [*]; done)), H', ⟨by have := HK1.out; omega⟩, ⟨by repeat (first | (with_reducible first | exact HB.out | apply below_alloc | apply pw_below_drewN | apply below_drew1) | exact HB.out)⟩⟩
end Go.Proofs.Ytcnemjcmnhlflaa.P
