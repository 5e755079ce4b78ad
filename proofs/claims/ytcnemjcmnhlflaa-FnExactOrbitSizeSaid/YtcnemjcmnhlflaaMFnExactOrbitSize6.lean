/- The statement FnExactOrbitSizeSaid, proved: part 6 of 7 (texts of this session and of the kit's print, put together and cut to what is used by a program of it). -/
import Derived.Test.YtcnemjcmnhlflaaMFnExactOrbitSize5
import Derived.Deep.Slices
import Derived.ChangeSame
import Derived.ChangeArms
import Derived.WideShapes
import Derived.Lib.SmallJoins
import Derived.ChangeShapes
namespace Go.Proofs.Ytcnemjcmnhlflaa.P
open Go.RowKit Go.Proofs.YtcnemjcmnhlflaaW.PrintWords Go.Proofs.YtcnemjcmnhlflaaW.PrintLast Go.Proofs.YtcnemjcmnhlflaaW.PrintMore
attribute [local go_sem] max2_int min2_int max_two min_two max_three min_three max_four min_four   -- for this text's walks alone
set_option linter.unusedVariables false
set_option linter.unusedSimpArgs false
/-! ### spec_l11Has: function 45 -/
def spec_l11Has.l0 : Nat → List Int → Int → Int → Option (Bool)
  | 0, _, _, _ => none
  | k + 1, x0, x1, x5 => if x5 < (x0.length : Int) then (if 0 ≤ x5 then (if (rd x0 x5) = x1 then (some true) else (spec_l11Has.l0 k x0 x1 (wrap64 (x5 + 1)))) else (none)) else (some false)
def spec_l11Has.f (k : Nat) (l0 : List Int) (a1 : Int) : Option (Bool) := spec_l11Has.l0 k l0 a1 0
set_option maxHeartbeats 8000000 in
set_option maxRecDepth 100000 in
theorem spec_l11Has.calls (k : Nat) (A0 : Option Addr) (c0 : Nat) (l0 : List Int) (a1 : Int) (r : Bool) (w : World) (hr0 : Kd.C (Kd.int .i64) w A0 l0.length l0) (hc0 : l0.length ≤ c0) (h : spec_l11Has.f k l0 a1 = some r) :
    Calls Try.prog 45 #[.slice A0 l0.length c0, .int .i64 a1] w fun e w' => e = .returned (.bool r) ∧ Drawn0 w w' := by
  have HR0 := Aside0.mk hr0
  have HC0 := Aside0.mk hc0
  clear hr0 hc0
  have H : (spec_l11Has.l0 k l0 a1 0) = some r := h
  clear h
  have H' := Aside0.mk H
  clear H
  go_enter Try.func45, Try.ntmps45
  go_wp2
  go_loopg [5] k (fun kq v5 w' => ∃ (x5_1 : Int), v5 = .int .i64 x5_1 ∧ Aside0 (spec_l11Has.l0 kq l0 a1 x5_1 = some r) ∧ Aside0 (kq ≤ k) ∧ Drawn0 w w')
  case atStart => exact ⟨(0), (by first | rfl | (simp; done) | (simp [*]; done)), H', ⟨yoy _⟩, by repeat (first | exact Drawn0.refl _ | apply Drawn0.step)⟩
  case round =>
    clear H'
    try clear p2
    obtain ⟨x5_1, rfl, HA, HK1, ⟨m1, rfl⟩⟩ := hrel
    cases gk with
    | zero => exact absurd HA.out (by simp [spec_l11Has.l0])
    | succ k1 =>
      have H := HA.out
      clear HA
      simp only [spec_l11Has.l0] at H
      by_cases c3 : x5_1 < (l0.length : Int)
      · rw [if_pos c3] at H
        have c3b0 : decide (x5_1 < (l0.length : Int)) = true := ygy c3
        clear c3
        by_cases c4 : 0 ≤ x5_1
        · rw [if_pos c4] at H
          have c4b0 : decide (0 ≤ x5_1) = true := ygy c4
          clear c4
          by_cases c5 : (rd l0 x5_1) = a1
          · rw [if_pos c5] at H
            have c5b0 : ((rd l0 x5_1) == a1) = true := beq_iff_eq.mpr c5
            have c5b1 : ((rd l0 x5_1) != a1) = false := bne_eq_false_iff_eq.mpr c5
            clear c5
            obtain rfl := yey H
            have p101 : 0 ≤ (x5_1 : Int) := of_decide_eq_true (by first | (with_reducible assumption) | assumption)
            have q101 : x5_1 < (l0.length : Int) := of_decide_eq_true (by first | (with_reducible assumption) | assumption)
            obtain ⟨ad101, e101, hx101_0⟩ := Kd.at_int HR0.out x5_1 p101 q101
            cases e101
            replace p101 := eq_true p101
            replace q101 := eq_true q101
            go_wp2
            go_ret
            exact ⟨by first | rfl | (simp; done) | (simp [*]; done), by repeat (first | exact Drawn0.refl _ | apply Drawn0.step)⟩
          · rw [if_neg c5] at H
            have c5b0 : ((rd l0 x5_1) == a1) = false := beq_eq_false_iff_ne.mpr c5
            have c5b1 : ((rd l0 x5_1) != a1) = true := bne_iff_ne.mpr c5
            have H' := Aside0.mk H
            clear H
            have p101 : 0 ≤ (x5_1 : Int) := of_decide_eq_true (by first | (with_reducible assumption) | assumption)
            have q101 : x5_1 < (l0.length : Int) := of_decide_eq_true (by first | (with_reducible assumption) | assumption)
            obtain ⟨ad101, e101, hx101_0⟩ := Kd.at_int HR0.out x5_1 p101 q101
            cases e101
            replace p101 := eq_true p101
            replace q101 := eq_true q101
            go_wp2
            go_roundg k1
            case measure => have := HK1.out; omega
            case rel => exact ⟨(wrap64 (x5_1 + 1)), (by first | rfl | (simp; done) | (simp [*]; done)), H', ⟨by have := HK1.out; omega⟩, by repeat (first | exact Drawn0.refl _ | apply Drawn0.step)⟩
        · rw [if_neg c4] at H
          exact absurd H (by simp)
      · rw [if_neg c3] at H
        have c3b0 : decide (x5_1 < (l0.length : Int)) = false := yhy c3
        clear c3
        obtain rfl := yey H
        go_wp2
        go_ret
        exact ⟨by first | rfl | (simp; done) | (simp [*]; done), by repeat (first | exact Drawn0.refl _ | apply Drawn0.step)⟩
/-! l11Spread: the reference's search. -/
/-- So many rounds serve for all permutations. -/
def psOk (k : Nat) : Bool := decide (∀ m : Fin 24, spec_l06Back.f k (m.val : Int) = some (invP (m.val : Int))) && (decide (∀ m n : Fin 24, spec_l06Then.f k (m.val : Int) (n.val : Int) = some (compP (m.val : Int) (n.val : Int))) && decide (∀ (m : Fin 24) (f : Fin 4), spec_l06At.f k (m.val : Int) (f.val : Int) = some (rd (permL (m.val : Int)) (f.val : Int))))
theorem ps_fin {p : Int} (h0 : 0 ≤ p) (h1 : p ≤ 23) : ∃ m : Fin 24, p = (m.val : Int) := ⟨⟨p.toNat, by omega⟩, by simp; omega⟩
theorem psOk_h {k : Nat} (h : psOk k = true) : (∀ m : Fin 24, spec_l06Back.f k (m.val : Int) = some (invP (m.val : Int))) ∧ (∀ m n : Fin 24, spec_l06Then.f k (m.val : Int) (n.val : Int) = some (compP (m.val : Int) (n.val : Int))) ∧ (∀ (m : Fin 24) (f : Fin 4), spec_l06At.f k (m.val : Int) (f.val : Int) = some (rd (permL (m.val : Int)) (f.val : Int))) := by
 unfold psOk at h
 rw [Bool.and_eq_true, Bool.and_eq_true, decide_eq_true_eq, decide_eq_true_eq, decide_eq_true_eq] at h
 exact h
theorem psOk_mono {k : Nat} (h : psOk k = true) : psOk (k + 1) = true := by
 obtain ⟨a, b, c⟩ := psOk_h h
 unfold psOk
 rw [Bool.and_eq_true, Bool.and_eq_true, decide_eq_true_eq, decide_eq_true_eq, decide_eq_true_eq]
 exact ⟨fun m => spec_l06Back.mono _ k _ (a m), fun m n => spec_l06Then.mono _ _ k _ (b m n), fun m f => spec_l06At.mono _ _ k _ (c m f)⟩
theorem ps_back {k : Nat} (h : psOk k = true) {p : Int} (h0 : 0 ≤ p) (h1 : p ≤ 23) : spec_l06Back.f k p = some (invP p) := by
 obtain ⟨m, rfl⟩ := ps_fin h0 h1; exact (psOk_h h).1 m
theorem ps_then {k : Nat} (h : psOk k = true) {p q : Int} (h0 : 0 ≤ p) (h1 : p ≤ 23) (h2 : 0 ≤ q) (h3 : q ≤ 23) : spec_l06Then.f k p q = some (compP p q) := by
 obtain ⟨m, rfl⟩ := ps_fin h0 h1; obtain ⟨n, rfl⟩ := ps_fin h2 h3; exact (psOk_h h).2.1 m n
theorem ps_at {k : Nat} (h : psOk k = true) {p f : Int} (h0 : 0 ≤ p) (h1 : p ≤ 23) (h2 : 0 ≤ f) (h3 : f < 4) : spec_l06At.f k p f = some (rd (permL p) f) := by
 obtain ⟨m, rfl⟩ := ps_fin h0 h1
 obtain ⟨n, rfl⟩ : ∃ m : Fin 4, f = (m.val : Int) := ⟨⟨f.toNat, by omega⟩, by simp; omega⟩
 exact (psOk_h h).2.2 m n
theorem has_go (l : List Int) (v : Int) (hl : l.length ≤ 1000000) : ∀ (d i k : Nat), i + d = l.length → d < k → spec_l11Has.l0 k l v (i : Int) = some (decide (v ∈ l.drop i))
 | _, _, 0, _, hk => by omega
 | 0, i, k + 1, h, hk => by rw [spec_l11Has.l0, if_neg (by omega), List.drop_eq_nil_of_le (by omega)]; simp
 | d + 1, i, k + 1, h, hk => by
  have hi : i < l.length := by omega
  have e : rd l (i : Int) = l[i] := by simp [rd, hi]
  rw [spec_l11Has.l0, if_pos (by omega), if_pos (by omega), List.drop_eq_getElem_cons hi, e]
  by_cases c : l[i] = v
  next =>
   rw [if_pos c]; simp [c]
  next =>
   rw [if_neg c, show wrap64 ((i : Int) + 1) = ((i + 1 : Nat) : Int) by unfold wrap64; omega, has_go l v hl d (i + 1) k (by omega) (by omega)]
   have c2 : ¬ v = l[i] := fun e2 => c e2.symm
   exact congrArg some (decide_eq_decide.2 ⟨fun h => List.mem_cons_of_mem _ h, fun h => by
    rcases List.mem_cons.1 h with h | h
    next =>
     exact absurd h c2
    next =>
     exact h⟩)
theorem has_eq {k : Nat} {l : List Int} (v : Int) (hl : l.length ≤ 8) (hk : 10 ≤ k) : spec_l11Has.f k l v = some (decide (v ∈ l)) := by
 have := has_go l v (by omega) l.length 0 k (by omega) (by omega)
 rwa [List.drop_zero] at this
set_option maxHeartbeats 8000000 in
set_option maxRecDepth 100000 in
theorem spec_l11Spread.calls (k n : Nat) (hpk : psOk k = true) (hk10 : 10 ≤ k) (hn : n ≤ 8) (A0 : Option Addr) (c0 : Nat) (la : List (List SFace)) (A1 : Option Addr) (c1 : Nat) (lb : List (List SFace)) (gx cx gy cy : Nat) (X Y : List Int) (s0 : Int) (w0 w : World) (hB : Below w0.heap.size w0 w)
 (hra : Kd.C (Kd.slice 56 kFace) w0 A0 n la) (hca : n ≤ c0) (hrb : Kd.C (Kd.slice 56 kFace) w0 A1 n lb) (hcb : n ≤ c1) (hta : TrOk la n) (htb : TrOk lb n)
 (hx : Kd.R (Kd.int .i64) 2 w w0.heap.size (fun k => k = gx) (.slice (some ⟨gx, 0, none⟩) n cx) X) (hy : Kd.R (Kd.int .i64) 2 w w0.heap.size (fun k => k = gy) (.slice (some ⟨gy, 0, none⟩) n cy) Y) (hne : gx ≠ gy) (hok : SpOk n ⟨X, Y, [s0]⟩) :
 Calls Try.prog 24 #[.agg #[.slice A0 n c0], .agg #[.slice A1 n c1], .slice (some ⟨gx, 0, none⟩) n cx, .slice (some ⟨gy, 0, none⟩) n cy, .int .i64 s0] w fun e w' => e = .returned (.bool (spGo la lb (n + 1) 0 ⟨X, Y, [s0]⟩)) ∧ Below w0.heap.size w0 w' ∧ ∀ k, k < w.heap.size → k ≠ gx → k ≠ gy → w'.heap[k]? = w.heap[k]? := by
 have HRA := Aside0.mk hra
 have HRB := Aside0.mk hrb
 have HTA := Aside0.mk hta
 have HTB := Aside0.mk htb
 have HPK := Aside0.mk hpk
 have HOK0 := Aside0.mk hok
 have BA := Aside0.mk (blk_alloc (new_at4 (W := w) rfl (.cells #[.slice A0 n c0] 30)) (.cells #[.slice A1 n c1] 30))
 have BB := Aside0.mk (new_at4 (W := w.alloc (.cells #[.slice A0 n c0] 30)) (n := w.heap.size + 1) (by simp) (.cells #[.slice A1 n c1] 30))
 have hz1 : ((w.alloc (.cells #[.slice A0 n c0] 30)).alloc (.cells #[.slice A1 n c1] 30)).heap.size = w.heap.size + 2 := by simp
 have hgx : gx < w.heap.size := by
  have h1 := Kd.R_base hx gx rfl
  exact Kd.R_lt hx gx rfl
 have hgy : gy < w.heap.size := Kd.R_lt hy gy rfl
 have HG := Aside0.mk (show SpG w0 ((w.alloc (.cells #[.slice A0 n c0] 30)).alloc (.cells #[.slice A1 n c1] 30)) gx gy from ⟨Kd.R_base hx gx rfl, by rw [hz1]; omega, Kd.R_base hy gy rfl, by rw [hz1]; omega, hne⟩)
 have HW := Aside0.mk (show SpW w0 ((w.alloc (.cells #[.slice A0 n c0] 30)).alloc (.cells #[.slice A1 n c1] 30)) (((w.alloc (.cells #[.slice A0 n c0] 30)).alloc (.cells #[.slice A1 n c1] 30)).alloc (.cells #[.int .i64 s0] 2)) n gx cx gy cy (.slice (some ⟨w.heap.size + 2, 0, none⟩) 1 1) ⟨X, Y, [s0]⟩ from
  ⟨below_alloc (below_alloc (below_alloc hB _) _) _, by simp, fun k h1 _ _ => Below.heap_alloc _ _ k h1, Kd.R_alloc (Kd.R_alloc (Kd.R_alloc hx _) _) _, Kd.R_alloc (Kd.R_alloc (Kd.R_alloc hy _) _) _,
   Kd.R_of_own ⟨by simp [encs], .inr ⟨w.heap.size + 2, 1, #[.int .i64 s0], rfl, by rw [hz1]; exact yoy _, new_at4 hz1 _, yoy 1, by decide, rfl, rfl⟩⟩ (fun _ _ => trivial)⟩)
 clear hra hrb hta htb hpk hok hx hy hB
 generalize hrr : spGo la lb (n + 1) 0 ⟨X, Y, [s0]⟩ = r
 have HRR := Aside0.mk hrr
 clear hrr
 go_enter Try.func24, Try.ntmps24
 go_wp2_with fail
 have HEN := Aside0.mk (show ∀ (W : World) (vL : Value) (s : SpS), SpW w0 ((w.alloc (.cells #[.slice A0 n c0] 30)).alloc (.cells #[.slice A1 n c1] 30)) W n gx cx gy cy vL s → Below w0.heap.size w0 W ∧ ∀ k, k < w.heap.size → k ≠ gx → k ≠ gy → W.heap[k]? = w.heap[k]? from
  fun W vL s h => ⟨h.b0, fun k h1 h2 h3 => (h.kp k (by rw [hz1]; omega) h2 h3).trans ((Below.heap_alloc _ _ k (by simp; omega)).trans (Below.heap_alloc _ _ k h1))⟩)
 clear hz1
 generalize hw1 : (w.alloc (.cells #[.slice A0 n c0] 30)).alloc (.cells #[.slice A1 n c1] 30) = w1 at *
 have hsz1 : w1.heap.size = w.heap.size + 2 := by rw [← hw1]; simp
 clear hw1
 have HSZ := Aside0.mk hsz1
 clear hsz1
 go_loopg [11, 12] n (fun gg v11 v12 w' => ∃ (i : Nat) (s : SpS), i ≤ n ∧ n - i ≤ gg ∧ v12 = .int .i64 i ∧ Aside0 (SpW w0 w1 w' n gx cx gy cy v11 s) ∧ Aside0 (SpOk n s) ∧ Aside0 (spGo la lb (n + 1 - i) i s = r))
 case atStart => exact ⟨0, _, Nat.zero_le _, by omega, rfl, HW, HOK0, HRR⟩
 case round =>
  clear HW HOK0 HRR
  obtain ⟨i, s, hi9, hgg, rfl, HW, HOK, HRR⟩ := hrel
  have hle := HOK.out.len
  obtain ⟨Av, cv, rfl⟩ := Kd.R_slice HW.out.rl
  by_cases hlt : i < s.L.length
  rotate_left
  next =>
   have hrt : true = r := by
    have h := HRR.out
    rw [show n + 1 - i = (n - i) + 1 by omega, spGo, if_neg hlt] at h
    exact h
   subst hrt
   clear HRR
   have hge : ¬ (i : Int) < (s.L.length : Int) := by omega
   go_wp2
   go_ret
   exact ⟨rfl, HEN.out _ _ _ HW.out⟩
  have hltz : (i : Int) < (s.L.length : Int) := by omega
  obtain ⟨gl, cl, hvl, _⟩ := Kd.R_form HW.out.rl (by omega)
  injection hvl with hvl1 hvl2 hvl3
  subst hvl1
  subst hvl3
  have hcl := (Kd.R_celln 0 HW.out.rl (i : Int) (by omega) hltz).1
  replace hcl : wr.cell? ⟨gl, i, none⟩ = some (.int .i64 (rd s.L (i : Int))) := hcl
  have HCL := Aside0.mk (HOK.out.lb _ (rd_mem (l := s.L) (i := (i : Int)) (by omega) hltz))
  have HRR2 := Aside0.mk (show ((spRow la lb (rd s.L (i : Int)) (rd s.Y (rd s.L (i : Int))) 4 0 s).map (spGo la lb (n - i) (i + 1))).getD false = r by
   have h := HRR.out
   rw [show n + 1 - i = (n - i) + 1 by omega, spGo, if_pos hlt] at h
   exact h)
  clear HRR
  generalize rd s.L (i : Int) = c at *
  have hc0 : 0 ≤ c := HCL.out.1.1
  have hc1 : c < (n : Int) := HCL.out.1.2
  have HYB := Aside0.mk (HOK.out.yb c hc0 hc1 HCL.out.2)
  have hcy := (Kd.R_celln 0 HW.out.ry c hc0 hc1).1
  replace hcy : wr.cell? ⟨gy, c.toNat, none⟩ = some (.int .i64 (rd s.Y c)) := hcy
  obtain ⟨p, hpp⟩ : ∃ p, rd s.Y c = p := ⟨_, rfl⟩
  rw [hpp] at hcy
  replace HYB := Aside0.mk (show 0 ≤ p ∧ p ≤ 23 by rw [← hpp]; exact HYB.out)
  have HIN := Aside0.mk (show 0 ≤ rd s.X c ∧ rd s.Y c = p ∧ ((spRow la lb c p (4 - 0) ((0 : Nat) : Int) s).map (spGo la lb (n - i) (i + 1))).getD false = r from ⟨HCL.out.2, hpp, by rw [← hpp]; exact HRR2.out⟩)
  clear HRR2 HCL hpp
  go_wp2
  go_loopg [11, 15] 4 (fun gg v11 v15 w' => ∃ (f : Nat) (s : SpS), f ≤ 4 ∧ 4 - f ≤ gg ∧ v15 = .int .i64 f ∧ Aside0 (SpW w0 w1 w' n gx cx gy cy v11 s) ∧ Aside0 (SpOk n s) ∧ Aside0 (0 ≤ rd s.X c ∧ rd s.Y c = p ∧ ((spRow la lb c p (4 - f) (f : Int) s).map (spGo la lb (n - i) (i + 1))).getD false = r))
  case atStart => exact ⟨0, _, by omega, by omega, rfl, HW, HOK, HIN⟩
  case round =>
   clear HW HOK HIN hcl hcy
   obtain ⟨f, s2, hf4, hgf, rfl, HW, HOK, HIN⟩ := hrel
   by_cases hlf : f < 4
   rotate_left
   next =>
    obtain rfl : f = 4 := by omega
    go_wp2
    go_roundg (n - (i + 1))
    case measure => omega
    case rel => exact ⟨i + 1, s2, by omega, by omega, by (try simp only [i64_w]); (first | rfl | rw [show wrap64 ((i : Int) + 1) = ((i + 1 : Nat) : Int) by unfold wrap64; omega]), HW, HOK, ⟨by
     have h := HIN.out.2.2
     rw [Nat.sub_self, spRow, Option.map_some, Option.getD_some] at h
     rw [show n + 1 - (i + 1) = n - i by omega]
     exact h⟩⟩
   have hlfz : (f : Int) < 4 := by omega
   obtain ⟨ada, A3, c3, ea, hya, hla3, hrow⟩ := at_LFace HRA.out c hc0 hc1
   subst ea
   rw [trOk_row HTA.out hc0 hc1] at hya hrow
   obtain ⟨adx, ex, hx0, hx1⟩ := at_Face hrow (f : Int) (by omega) hlfz
   subst ex
   replace hya := (HW.out.b0.cell (yny w0 _ hya)).trans hya
   replace hx0 := (HW.out.b0.cell (yny w0 _ hx0)).trans hx0
   replace hx1 := (HW.out.b0.cell (yny w0 _ hx1)).trans hx1
   rw [Int.toNat_natCast] at hx0 hx1
   have hbxA := (HW.out.kp w.heap.size (by have := HSZ.out; omega) (by omega) (by omega)).trans BA.out
   have hbxB := (HW.out.kp (w.heap.size + 1) (by have := HSZ.out; omega) (by omega) (by omega)).trans BB.out
   have hbA : wr.cell? ⟨w.heap.size, 0, none⟩ = some (.slice (some ada) n c0) := (blk_cell hbxA 0).trans rfl
   have HBB := Aside0.mk hbxB
   clear hbxA hbxB hrow hla3
   have HSP := Aside0.mk (show ((spAt p (fcA la c (f : Int)) (fcA lb (rd s2.X c) (rd (permL p) (f : Int))) s2).bind (spRow la lb c p (4 - (f + 1)) ((f : Int) + 1)) |>.map (spGo la lb (n - i) (i + 1))).getD false = r by
    have h := HIN.out.2.2
    rw [show 4 - f = (4 - (f + 1)) + 1 by omega, spRow] at h
    exact h)
   have HTX := Aside0.mk (trOk_face HTA.out hc0 hc1 (show (0 : Int) ≤ (f : Int) by omega) hlfz)
   have hXb := HOK.out.rx hc0 hc1
   have hcX := (Kd.R_celln 0 HW.out.rx c hc0 hc1).1
   replace hcX : wr.cell? ⟨gx, c.toNat, none⟩ = some (.int .i64 (rd s2.X c)) := hcX
   obtain ⟨hp0, hp1⟩ := HYB.out
   have hpf := sp_img hp0 hp1 (f := (f : Int)) (by omega) hlfz
   have HPAT := Aside0.mk (ps_at HPK.out hp0 hp1 (show (0 : Int) ≤ (f : Int) by omega) hlfz)
   have hc2 := HIN.out.1
   have hcY := HIN.out.2.1
   have HINC := Aside0.mk (And.intro hc2 hcY)
   clear HIN hcY
   obtain ⟨bt, hbt⟩ : ∃ bt, rd s2.X c = bt := ⟨_, rfl⟩
   rw [hbt] at hcX hXb hc2 HSP
   obtain ⟨pf, hpfe⟩ : ∃ pf, rd (permL p) (f : Int) = pf := ⟨_, rfl⟩
   rw [hpfe] at hpf HPAT HSP
   obtain ⟨hb0, hb1⟩ := hXb
   obtain ⟨hpf0, hpf1⟩ := hpf
   have hpf4 : pf < 4 := by omega
   obtain ⟨adb, A4, c4, eb, hyb, _, hrowb⟩ := at_LFace HRB.out bt hc2 hb1
   subst eb
   rw [trOk_row HTB.out hc2 hb1] at hyb hrowb
   obtain ⟨ady, ey, hy0, hy1⟩ := at_Face hrowb pf hpf0 hpf4
   subst ey
   have HTY := Aside0.mk (trOk_face HTB.out hc2 hb1 hpf0 hpf4)
   change wr.cell? _ = some (.int .i64 (fcA la c (f : Int)).f0) at hx0
   change wr.cell? _ = some (.int .i64 (fcA la c (f : Int)).f1) at hx1
   change w0.cell? _ = some (.int .i64 (fcA lb bt pf).f0) at hy0
   change w0.cell? _ = some (.int .i64 (fcA lb bt pf).f1) at hy1
   generalize fcA la c (f : Int) = x at hx0 hx1 HSP HTX
   generalize fcA lb bt pf = y at hy0 hy1 HSP HTY
   obtain ⟨x0, x1⟩ := x
   obtain ⟨y0, y1⟩ := y
   have HCB := Aside0.mk (And.intro hyb (And.intro hy0 hy1))
   clear hyb hy0 hy1 hrowb
   have HWB := Aside0.mk (HW.out.stays (below_alloc (ypy wr.heap.size wr) (.cells #[.int .i64 x0, .int .i64 x1] 56)))
   have BXB := Aside0.mk (new_at4 (W := wr) rfl (.cells #[.int .i64 x0, .int .i64 x1] 56))
   have HBBB := Aside0.mk (blk_alloc HBB.out (.cells #[.int .i64 x0, .int .i64 x1] 56))
   have HCX := Aside0.mk (show (wr.alloc (.cells #[.int .i64 x0, .int .i64 x1] 56)).cell? ⟨gx, c.toNat, none⟩ = some (.int .i64 bt) from ((below_alloc (ypy wr.heap.size wr) (.cells #[.int .i64 x0, .int .i64 x1] 56)).cell (yny wr _ hcX)).trans hcX)
   have HWR := Aside0.mk HW.out.sz
   clear hcX HW HBB
   go_wp2_with fail
   have HGB := Aside0.mk (show w1.heap.size ≤ wr.heap.size from HWR.out)
   generalize hgb : wr.heap.size = gB at *
   generalize wr.alloc (.cells #[.int .i64 x0, .int .i64 x1] 56) = wB at *
   clear hgb hx0 hx1 hya hbA
   have HS9 := Aside0.mk (show wB.cell? ⟨w.heap.size + 1, 0, none⟩ = some (.slice (some adb) n c1) ∧ wB.cell? ⟨gx, c.toNat, none⟩ = some (.int .i64 bt) ∧ wB.cell? (adb.add bt.toNat) = some (.slice (some ady) 4 c4) ∧ wB.cell? (ady.add (pf.toNat * 2)) = some (.int .i64 y0) ∧ wB.cell? ⟨(ady.add (pf.toNat * 2)).block, (ady.add (pf.toNat * 2)).off + 1, none⟩ = some (.int .i64 y1) from ⟨(blk_cell HBBB.out 0).trans rfl, HCX.out, (HWB.out.b0.cell (yny w0 _ HCB.out.1)).trans HCB.out.1, (HWB.out.b0.cell (yny w0 _ HCB.out.2.1)).trans HCB.out.2.1, (HWB.out.b0.cell (yny w0 _ HCB.out.2.2)).trans HCB.out.2.2⟩)
   refine start_ (n := 15) (S := fun w' => w'.cell? ⟨w.heap.size + 1, 0, none⟩ = some (.slice (some adb) n c1) ∧ w'.cell? ⟨gx, c.toNat, none⟩ = some (.int .i64 bt) ∧ w'.cell? (adb.add bt.toNat) = some (.slice (some ady) 4 c4) ∧ w'.cell? (ady.add (pf.toNat * 2)) = some (.int .i64 y0) ∧ w'.cell? ⟨(ady.add (pf.toNat * 2)).block, (ady.add (pf.toNat * 2)).off + 1, none⟩ = some (.int .i64 y1)) (ds := [14]) #[false, false, false, false, false, false, false, false, false, false, false, false, false, false, false] (by kernel_rfl) rfl rfl HS9.out (fun hHeld => ?_)
   refine pure_ (i := 0) (N := some 47) (v := ?_) (a' := ?_) #[true, false, false, false, false, false, false, false, false, false, false, false, false, false, false] rfl rfl (by kernel_rfl) (fun _ _ _ h => h) (Or.inl ⟨by rfl, ?_⟩) ?_ ?_
   rotate_left
   next =>
    intro w'
    go_simp
    with_reducible rfl
   rotate_left
   next =>
    simp only [Act.put, yay, yby, ycy, i64_w, i32_w]
    rfl
   refine take_ (i := 1) (N := some 48) (v := ?_) (a' := ?_) #[true, true, false, false, false, false, false, false, false, false, false, false, false, false, false] rfl rfl (by kernel_rfl) (fun _ _ _ h => h) (Or.inl ⟨by rfl, ?_⟩) hHeld ?_ ?_
   rotate_left
   next =>
    rintro w' ⟨s0, s1, s2, s3, s4⟩
    go_simp
    with_reducible rfl
   rotate_left
   next =>
    simp only [Act.put, yay, yby, ycy, i64_w, i32_w]
    rfl
   refine pure_ (i := 2) (N := some 49) (v := ?_) (a' := ?_) #[true, true, true, false, false, false, false, false, false, false, false, false, false, false, false] rfl rfl (by kernel_rfl) (fun _ _ _ h => h) (Or.inl ⟨by rfl, ?_⟩) ?_ ?_
   rotate_left
   next =>
    intro w'
    go_simp
    with_reducible rfl
   rotate_left
   next =>
    simp only [Act.put, yay, yby, ycy, i64_w, i32_w]
    rfl
   refine pure_ (i := 3) (N := some 50) (v := ?_) (a' := ?_) #[true, true, true, true, false, false, false, false, false, false, false, false, false, false, false] rfl rfl (by kernel_rfl) (fun _ _ _ h => h) (Or.inl ⟨by rfl, ?_⟩) ?_ ?_
   rotate_left
   next =>
    intro w'
    go_simp
    with_reducible rfl
   rotate_left
   next =>
    simp only [Act.put, yay, yby, ycy, i64_w, i32_w]
    rfl
   refine pure_ (i := 4) (N := some 51) (v := ?_) (a' := ?_) #[true, true, true, true, true, false, false, false, false, false, false, false, false, false, false] rfl rfl (by kernel_rfl) (fun _ _ _ h => h) (Or.inl ⟨by rfl, ?_⟩) ?_ ?_
   rotate_left
   next =>
    intro w'
    go_simp
    with_reducible rfl
   rotate_left
   next =>
    simp only [Act.put, yay, yby, ycy, i64_w, i32_w]
    rfl
   refine take_ (i := 5) (N := some 52) (v := ?_) (a' := ?_) #[true, true, true, true, true, true, false, false, false, false, false, false, false, false, false] rfl rfl (by kernel_rfl) (fun _ _ _ h => h) (Or.inl ⟨by rfl, ?_⟩) hHeld ?_ ?_
   rotate_left
   next =>
    rintro w' ⟨s0, s1, s2, s3, s4⟩
    go_simp
    with_reducible rfl
   rotate_left
   next =>
    simp only [Act.put, yay, yby, ycy, i64_w, i32_w]
    rfl
   refine pure_ (i := 6) (N := some 53) (v := ?_) (a' := ?_) #[true, true, true, true, true, true, true, false, false, false, false, false, false, false, false] rfl rfl (by kernel_rfl) (fun _ _ _ h => h) (Or.inl ⟨by rfl, ?_⟩) ?_ ?_
   rotate_left
   next =>
    intro w'
    go_simp
    with_reducible rfl
   rotate_left
   next =>
    simp only [Act.put, yay, yby, ycy, i64_w, i32_w]
    rfl
   refine take_ (i := 7) (N := some 54) (v := ?_) (a' := ?_) #[true, true, true, true, true, true, true, true, false, false, false, false, false, false, false] rfl rfl (by kernel_rfl) (fun _ _ _ h => h) (Or.inl ⟨by rfl, ?_⟩) hHeld ?_ ?_
   rotate_left
   next =>
    rintro w' ⟨s0, s1, s2, s3, s4⟩
    go_simp
    with_reducible rfl
   rotate_left
   next =>
    simp only [Act.put, yay, yby, ycy, i64_w, i32_w]
    rfl
   refine pure_ (i := 8) (N := some 55) (v := ?_) (a' := ?_) #[true, true, true, true, true, true, true, true, true, false, false, false, false, false, false] rfl rfl (by kernel_rfl) (fun _ _ _ h => h) (Or.inl ⟨by rfl, ?_⟩) ?_ ?_
   rotate_left
   next =>
    intro w'
    go_simp
    with_reducible rfl
   rotate_left
   next =>
    simp only [Act.put, yay, yby, ycy, i64_w, i32_w]
    rfl
   refine pure_ (i := 9) (N := some 56) (v := ?_) (a' := ?_) #[true, true, true, true, true, true, true, true, true, true, false, false, false, false, false] rfl rfl (by kernel_rfl) (fun _ _ _ h => h) (Or.inl ⟨by rfl, ?_⟩) ?_ ?_
   rotate_left
   next =>
    intro w'
    go_simp
    with_reducible rfl
   rotate_left
   next =>
    simp only [Act.put, yay, yby, ycy, i64_w, i32_w]
    rfl
   refine join_ (σ := Nat) 1 #[true, true, true, true, true, true, true, true, true, true, true, true, true, true, false] (fun g_ => [(57, .int .i64 pf), (58, .pointer (some (ady.add (pf.toNat * 2)))), (59, .agg #[.int .i64 y0, .int .i64 y1]), (17, .pointer (some ⟨g_, 0, none⟩))]) (fun g_ w' => SpW w0 w1 w' n gx cx gy cy u11 s2 ∧ w'.heap[gB]? = some (.cells #[.int .i64 x0, .int .i64 x1] 56 (0, 0)) ∧ w'.heap[g_]? = some (.cells #[.int .i64 0, .int .i64 0] 56 (0, 0)) ∧ gB < g_ ∧ w1.heap.size ≤ g_ ∧ (w'.cell? ⟨w.heap.size + 1, 0, none⟩ = some (.slice (some adb) n c1) ∧ w'.cell? ⟨gx, c.toNat, none⟩ = some (.int .i64 bt) ∧ w'.cell? (adb.add bt.toNat) = some (.slice (some ady) 4 c4) ∧ w'.cell? (ady.add (pf.toNat * 2)) = some (.int .i64 y0) ∧ w'.cell? ⟨(ady.add (pf.toNat * 2)).block, (ady.add (pf.toNat * 2)).off + 1, none⟩ = some (.int .i64 y1))) ?cont (fun hcont => ?walk)
   case walk =>
    have hgBl : gB < wB.heap.size := blk_lt BXB.out
    have hszB := HWB.out.sz
    refine two_ (i := 10) (j := 13) (Ni := some 57) (Nj := some 17) #[true, true, true, true, true, true, true, true, true, true, true, false, false, false, false] #[true, true, true, true, true, true, true, true, true, true, false, false, false, true, false] rfl rfl rfl rfl (by kernel_rfl) (by decide) (by decide) (fun K hK => ?_) (fun K hK => ?_)
    next =>
     refine goes_ Try.func31 (by kernel_rfl) rfl #[.int .i64 p, .int .i64 (f : Int)] (by rfl) rfl rfl (by (try simp only [yiy, yjy, yky]); first | done | rfl) ?_
     refine (spec_l06At.calls k p (f : Int) pf _ HPAT.out).mono ?_
     rintro e w4 ⟨rfl, hb4⟩
     have hW4 := (HWB.out.stays (below_drew (ypy wB.heap.size wB))).stays hb4
     have hX4 := blk_below (blk_drew BXB.out) hb4
     have hBB_ := blk_below (blk_drew HBBB.out) hb4
     have hCX_ := (hb4.cell (yny wB.drew _ HCX.out)).trans HCX.out
     have hz4 : wB.heap.size ≤ w4.heap.size := hb4.size
     have HH4 := Aside0.mk (show w4.cell? ⟨w.heap.size + 1, 0, none⟩ = some (.slice (some adb) n c1) ∧ w4.cell? ⟨gx, c.toNat, none⟩ = some (.int .i64 bt) ∧ w4.cell? (adb.add bt.toNat) = some (.slice (some ady) 4 c4) ∧ w4.cell? (ady.add (pf.toNat * 2)) = some (.int .i64 y0) ∧ w4.cell? ⟨(ady.add (pf.toNat * 2)).block, (ady.add (pf.toNat * 2)).off + 1, none⟩ = some (.int .i64 y1) from ⟨(blk_cell hBB_ 0).trans rfl, hCX_, (hW4.b0.cell (yny w0 _ HCB.out.1)).trans HCB.out.1, (hW4.b0.cell (yny w0 _ HCB.out.2.1)).trans HCB.out.2.1, (hW4.b0.cell (yny w0 _ HCB.out.2.2)).trans HCB.out.2.2⟩)
     have HF4 := Aside0.mk (And.intro hW4 (And.intro hX4 (And.intro hBB_ hCX_)))
     clear hW4 hX4 hBB_ hCX_ hb4 hHeld
     refine ⟨_, rfl, ?_⟩
     refine hK.out _ _ HH4.out (fun hHeld => ?_)
     clear hK K
     refine norm_ (a' := ?_) ?_ ?_
     rotate_left
     next =>
      show Act.put _ (some 57) _ = _
      simp only [Act.put, yay, yby, ycy, i64_w, i32_w]
      rfl
     refine pure_ (i := 11) (N := some 58) (v := ?_) (a' := ?_) #[true, true, true, true, true, true, true, true, true, true, true, true, false, false, false] rfl rfl (by kernel_rfl) (fun _ _ _ h => h) (Or.inl ⟨by rfl, ?_⟩) ?_ ?_
     rotate_left
     next =>
      intro w'
      go_simp
      with_reducible rfl
     rotate_left
     next =>
      simp only [Act.put, yay, yby, ycy, i64_w, i32_w]
      rfl
     refine take_ (i := 12) (N := some 59) (v := ?_) (a' := ?_) #[true, true, true, true, true, true, true, true, true, true, true, true, true, false, false] rfl rfl (by kernel_rfl) (fun _ _ _ h => h) (Or.inl ⟨by rfl, ?_⟩) hHeld ?_ ?_
     rotate_left
     next =>
      rintro w' ⟨s0, s1, s2, s3, s4⟩
      go_simp
      with_reducible rfl
     rotate_left
     next =>
      simp only [Act.put, yay, yby, ycy, i64_w, i32_w]
      rfl
     refine one_ (i := 13) (N := some 17) #[true, true, true, true, true, true, true, true, true, true, true, true, true, true, false] rfl rfl (by kernel_rfl) (by decide) (fun K hK => ?_)
     refine value_ (w1 := ?_) (v := ?_) (by rfl) rfl ?_ ?_
     rotate_left 2
     next =>
      go_simp
      constructor
      next =>
       rfl
      next =>
       rfl
     obtain ⟨hW4, hX4, hBB_, hCX_⟩ := HF4.out
     have hBw := below_alloc (ypy w4.heap.size w4) (.cells #[.int .i64 0, .int .i64 0] 56)
     have hW5 := hW4.stays hBw
     have hX5 := blk_below hX4 hBw
     have hN5 := new_at4 (W := w4) rfl (.cells #[.int .i64 0, .int .i64 0] 56)
     replace hBB_ := blk_below hBB_ hBw
     replace hCX_ := (hBw.cell (yny w4 _ hCX_)).trans hCX_
     have HH5 := Aside0.mk (show (w4.alloc (.cells #[.int .i64 0, .int .i64 0] 56)).cell? ⟨w.heap.size + 1, 0, none⟩ = some (.slice (some adb) n c1) ∧ (w4.alloc (.cells #[.int .i64 0, .int .i64 0] 56)).cell? ⟨gx, c.toNat, none⟩ = some (.int .i64 bt) ∧ (w4.alloc (.cells #[.int .i64 0, .int .i64 0] 56)).cell? (adb.add bt.toNat) = some (.slice (some ady) 4 c4) ∧ (w4.alloc (.cells #[.int .i64 0, .int .i64 0] 56)).cell? (ady.add (pf.toNat * 2)) = some (.int .i64 y0) ∧ (w4.alloc (.cells #[.int .i64 0, .int .i64 0] 56)).cell? ⟨(ady.add (pf.toNat * 2)).block, (ady.add (pf.toNat * 2)).off + 1, none⟩ = some (.int .i64 y1) from ⟨(blk_cell hBB_ 0).trans rfl, hCX_, (hW5.b0.cell (yny w0 _ HCB.out.1)).trans HCB.out.1, (hW5.b0.cell (yny w0 _ HCB.out.2.1)).trans HCB.out.2.1, (hW5.b0.cell (yny w0 _ HCB.out.2.2)).trans HCB.out.2.2⟩)
     refine hK.out _ _ HH5.out (fun hHeld => ?_)
     clear hK K
     refine norm_ (a' := ?_) ?_ ?_
     rotate_left
     next =>
      show Act.put _ (some 17) _ = _
      simp only [Act.put, yay, yby, ycy, i64_w, i32_w]
      rfl
     have hc_ := hcont w4.heap.size _ ⟨hW5, hX5, hN5, by omega, by omega, HH5.out⟩
     exact norm_ (by simp only [putAll, Act.put, yay, yby, ycy, i64_w, i32_w] <;> rfl) hc_
    next =>
     refine value_ (w1 := ?_) (v := ?_) (by rfl) rfl ?_ ?_
     rotate_left 2
     next =>
      go_simp
      constructor
      next =>
       rfl
      next =>
       rfl
     have hBw : Below wB.heap.size wB ((wB.alloc (.cells #[.int .i64 0, .int .i64 0] 56)).drew) := below_drew (below_alloc (ypy wB.heap.size wB) (.cells #[.int .i64 0, .int .i64 0] 56))
     have hW4 := HWB.out.stays hBw
     have hX4 := blk_below BXB.out hBw
     have hN4 : ((wB.alloc (.cells #[.int .i64 0, .int .i64 0] 56)).drew).heap[wB.heap.size]? = _ := blk_drew (new_at4 (W := wB) rfl (.cells #[.int .i64 0, .int .i64 0] 56))
     have hBB_ := blk_below HBBB.out hBw
     have hCX_ := (hBw.cell (yny wB _ HCX.out)).trans HCX.out
     have HH4 := Aside0.mk (show ((wB.alloc (.cells #[.int .i64 0, .int .i64 0] 56)).drew).cell? ⟨w.heap.size + 1, 0, none⟩ = some (.slice (some adb) n c1) ∧ ((wB.alloc (.cells #[.int .i64 0, .int .i64 0] 56)).drew).cell? ⟨gx, c.toNat, none⟩ = some (.int .i64 bt) ∧ ((wB.alloc (.cells #[.int .i64 0, .int .i64 0] 56)).drew).cell? (adb.add bt.toNat) = some (.slice (some ady) 4 c4) ∧ ((wB.alloc (.cells #[.int .i64 0, .int .i64 0] 56)).drew).cell? (ady.add (pf.toNat * 2)) = some (.int .i64 y0) ∧ ((wB.alloc (.cells #[.int .i64 0, .int .i64 0] 56)).drew).cell? ⟨(ady.add (pf.toNat * 2)).block, (ady.add (pf.toNat * 2)).off + 1, none⟩ = some (.int .i64 y1) from ⟨(blk_cell hBB_ 0).trans rfl, hCX_, (hW4.b0.cell (yny w0 _ HCB.out.1)).trans HCB.out.1, (hW4.b0.cell (yny w0 _ HCB.out.2.1)).trans HCB.out.2.1, (hW4.b0.cell (yny w0 _ HCB.out.2.2)).trans HCB.out.2.2⟩)
     have HF4 := Aside0.mk (And.intro hW4 (And.intro hX4 (And.intro hBB_ (And.intro hCX_ hN4))))
     clear hW4 hX4 hBB_ hCX_ hN4 hBw hHeld
     generalize (wB.alloc (.cells #[.int .i64 0, .int .i64 0] 56)).drew = wA at *
     generalize wB.heap.size = gA at *
     refine hK.out _ _ HH4.out (fun hHeld => ?_)
     clear hK K
     refine norm_ (a' := ?_) ?_ ?_
     rotate_left
     next =>
      show Act.put _ (some 17) _ = _
      simp only [Act.put, yay, yby, ycy, i64_w, i32_w]
      rfl
     refine one_ (i := 10) (N := some 57) #[true, true, true, true, true, true, true, true, true, true, true, false, false, true, false] rfl rfl (by kernel_rfl) (by decide) (fun K hK => ?_)
     refine goes_ Try.func31 (by kernel_rfl) rfl #[.int .i64 p, .int .i64 (f : Int)] (by rfl) rfl rfl (by (try simp only [yiy, yjy, yky]); first | done | rfl) ?_
     refine (spec_l06At.calls k p (f : Int) pf _ HPAT.out).mono ?_
     rintro e w4 ⟨rfl, hb4⟩
     obtain ⟨hW4, hX4, hBB_, hCX_, hN4⟩ := HF4.out
     have hW5 := hW4.stays hb4
     have hX5 := blk_below hX4 hb4
     have hN5 := blk_below hN4 hb4
     replace hBB_ := blk_below hBB_ hb4
     replace hCX_ := (hb4.cell (yny wA _ hCX_)).trans hCX_
     have HH5 := Aside0.mk (show w4.cell? ⟨w.heap.size + 1, 0, none⟩ = some (.slice (some adb) n c1) ∧ w4.cell? ⟨gx, c.toNat, none⟩ = some (.int .i64 bt) ∧ w4.cell? (adb.add bt.toNat) = some (.slice (some ady) 4 c4) ∧ w4.cell? (ady.add (pf.toNat * 2)) = some (.int .i64 y0) ∧ w4.cell? ⟨(ady.add (pf.toNat * 2)).block, (ady.add (pf.toNat * 2)).off + 1, none⟩ = some (.int .i64 y1) from ⟨(blk_cell hBB_ 0).trans rfl, hCX_, (hW5.b0.cell (yny w0 _ HCB.out.1)).trans HCB.out.1, (hW5.b0.cell (yny w0 _ HCB.out.2.1)).trans HCB.out.2.1, (hW5.b0.cell (yny w0 _ HCB.out.2.2)).trans HCB.out.2.2⟩)
     have HF5 := Aside0.mk (And.intro hW5 (And.intro hX5 hN5))
     clear hW4 hX4 hBB_ hCX_ hN4 hb4 hHeld hW5 hX5 hN5
     refine ⟨_, rfl, ?_⟩
     refine hK.out _ _ HH5.out (fun hHeld => ?_)
     clear hK K
     refine norm_ (a' := ?_) ?_ ?_
     rotate_left
     next =>
      show Act.put _ (some 57) _ = _
      simp only [Act.put, yay, yby, ycy, i64_w, i32_w]
      rfl
     refine pure_ (i := 11) (N := some 58) (v := ?_) (a' := ?_) #[true, true, true, true, true, true, true, true, true, true, true, true, false, true, false] rfl rfl (by kernel_rfl) (fun _ _ _ h => h) (Or.inl ⟨by rfl, ?_⟩) ?_ ?_
     rotate_left
     next =>
      intro w'
      go_simp
      with_reducible rfl
     rotate_left
     next =>
      simp only [Act.put, yay, yby, ycy, i64_w, i32_w]
      rfl
     refine take_ (i := 12) (N := some 59) (v := ?_) (a' := ?_) #[true, true, true, true, true, true, true, true, true, true, true, true, true, true, false] rfl rfl (by kernel_rfl) (fun _ _ _ h => h) (Or.inl ⟨by rfl, ?_⟩) hHeld ?_ ?_
     rotate_left
     next =>
      rintro w' ⟨s0, s1, s2, s3, s4⟩
      go_simp
      with_reducible rfl
     rotate_left
     next =>
      simp only [Act.put, yay, yby, ycy, i64_w, i32_w]
      rfl
     have hc_ := hcont gA _ ⟨HF5.out.1, HF5.out.2.1, HF5.out.2.2, by omega, by omega, HH5.out⟩
     exact norm_ (by simp only [putAll, Act.put, yay, yby, ycy, i64_w, i32_w] <;> rfl) hc_
   case cont =>
    rintro gC w5 ⟨hW5, hX5, hN5, hgBC, hg1C, hHeld⟩
    refine norm_ (a' := ?_) ?_ ?_
    rotate_left
    next =>
     simp only [putAll, Act.put, yay, yby, ycy, i64_w, i32_w]
     rfl
    have hn0 : w5.cell? ⟨gC, 0, none⟩ = some (.int .i64 0) := (blk_cell hN5 0).trans rfl
    have hn1 : w5.cell? ⟨gC, 1, none⟩ = some (.int .i64 0) := (blk_cell hN5 1).trans rfl
    have hm0 := blk_frozen hN5 0
    have hm1 := blk_frozen hN5 1
    refine last_ (i := 14) (N := none) #[true, true, true, true, true, true, true, true, true, true, true, true, true, true, true] rfl rfl (by kernel_rfl) (by decide) (fun K hK => ?_)
    refine skip_ (w1 := ?_) (by rfl) rfl ?_ ?_
    rotate_left
    next =>
     go_simp
     rfl
    refine hK.out _ _ ?_
    clear hK K
    refine done_ (by kernel_rfl) ?_
    have HX6 := Aside0.mk ((Below.heap_setCell (w5.setCell ⟨gC, 0, none⟩ (.int .i64 y0)) ⟨gC, 1, none⟩ (.int .i64 y1) gB (show gB ≠ gC by omega)).trans ((Below.heap_setCell w5 ⟨gC, 0, none⟩ (.int .i64 y0) gB (show gB ≠ gC by omega)).trans hX5))
    have HY6 := Aside0.mk (blk_two (u := .int .i64 y0) (v := .int .i64 y1) hN5)
    have HW6 := Aside0.mk (SpW.far HG.out (SpW.far HG.out hW5 hN5 (by decide) hg1C 0 (.int .i64 y0)) (show (w5.setCell ⟨gC, 0, none⟩ (.int .i64 y0)).heap[gC]? = some (.cells #[.int .i64 y0, .int .i64 0] 56 (0, 0)) by simpa using blk_set hN5 0 (.int .i64 y0)) (by decide) hg1C 1 (.int .i64 y1))
    generalize (w5.setCell ⟨gC, 0, none⟩ (.int .i64 y0)).setCell ⟨gC, 1, none⟩ (.int .i64 y1) = w6 at HX6 HY6 HW6 ⊢
    clear hn0 hn1 hm0 hm1 hX5 hW5 hN5 hHeld
    have hcx0 : w6.cell? ⟨gB, 0, none⟩ = some (.int .i64 x0) := (blk_cell HX6.out 0).trans rfl
    have hcx1 : w6.cell? ⟨gB, 1, none⟩ = some (.int .i64 x1) := (blk_cell HX6.out 1).trans rfl
    have hcy0 : w6.cell? ⟨gC, 0, none⟩ = some (.int .i64 y0) := (blk_cell HY6.out 0).trans rfl
    have hcy1 : w6.cell? ⟨gC, 1, none⟩ = some (.int .i64 y1) := (blk_cell HY6.out 1).trans rfl
    clear HS9 HCX HBBB BXB HWB
    by_cases hxz : x0 < 0
    next =>
     by_cases hyz : y0 < 0
     next =>
      have HNX := Aside0.mk (show ((spRow la lb c p (4 - (f + 1)) ((f + 1 : Nat) : Int) s2).map (spGo la lb (n - i) (i + 1))).getD false = r by
       have h := HSP.out
       rw [show spAt p ⟨x0, x1⟩ ⟨y0, y1⟩ s2 = some s2 by unfold spAt; rw [if_pos hxz, if_pos hyz], yfy] at h
       exact h)
      clear HSP
      go_wp2
      go_roundg (4 - (f + 1))
      case measure => omega
      case rel => exact ⟨f + 1, s2, by omega, by omega, by (try simp only [i64_w]); (first | rfl | rw [show wrap64 ((f : Int) + 1) = ((f + 1 : Nat) : Int) by unfold wrap64; omega]), HW6, HOK, ⟨HINC.out.1, HINC.out.2, HNX.out⟩⟩
     next =>
      have hrf : false = r := by
       have h := HSP.out
       rw [show spAt p ⟨x0, x1⟩ ⟨y0, y1⟩ s2 = none by unfold spAt; rw [if_pos hxz, if_neg hyz], Option.bind_none] at h
       exact h
      subst hrf
      clear HSP
      go_wp2
      go_ret
      exact ⟨rfl, HEN.out _ _ _ HW6.out⟩
    next =>
     by_cases hyz : y0 < 0
     next =>
      have hrf : false = r := by
       have h := HSP.out
       rw [show spAt p ⟨x0, x1⟩ ⟨y0, y1⟩ s2 = none by unfold spAt; rw [if_neg hxz, if_pos hyz], Option.bind_none] at h
       exact h
      subst hrf
      clear HSP
      go_wp2
      go_ret
      exact ⟨rfl, HEN.out _ _ _ HW6.out⟩
     next =>
      obtain ⟨hx6, hx7, hx8⟩ := HTX.out (show (0 : Int) ≤ x0 by omega)
      obtain ⟨hy6, hy7, hy8⟩ := HTY.out (show (0 : Int) ≤ y0 by omega)
      have hx9 : 0 ≤ x0 := by omega
      obtain ⟨hi0, hi1⟩ := invP_bd' hx7 hx8
      obtain ⟨hq0, hq1⟩ := compP_bd hi0 hi1 hp0 hp1
      have HQA := Aside0.mk (ps_back HPK.out hx7 hx8)
      have HQB := Aside0.mk (ps_then HPK.out hi0 hi1 hp0 hp1)
      have HQC := Aside0.mk (ps_then HPK.out hq0 hq1 hy7 hy8)
      have HQR := Aside0.mk (spQ_bd (p := p) (x := ⟨x0, x1⟩) (y := ⟨y0, y1⟩) hp0 hp1 hx7 hx8 hy7 hy8)
      obtain ⟨q, hqe⟩ : ∃ q, compP (compP (invP x1) p) y1 = q := ⟨_, rfl⟩
      have hqe2 : spQ p ⟨x0, x1⟩ ⟨y0, y1⟩ = q := hqe
      rw [hqe] at HQC
      rw [hqe2] at HQR
      have HQE := Aside0.mk hqe2
      clear hqe hqe2
      generalize invP x1 = ix at *
      generalize compP ix p = cx2 at *
      go_wp2_with fail
      refine start_ (n := 9) (S := fun w' => w'.cell? ⟨gB, 1, none⟩ = some (.int .i64 x1) ∧ w'.cell? ⟨gC, 1, none⟩ = some (.int .i64 y1)) (ds := [8]) #[false, false, false, false, false, false, false, false, false] (by kernel_rfl) rfl rfl ⟨hcx1, hcy1⟩ (fun hHeld => ?_)
      refine pure_ (i := 0) (N := some 70) (v := ?_) (a' := ?_) #[true, false, false, false, false, false, false, false, false] rfl rfl (by kernel_rfl) (fun _ _ _ h => h) (Or.inl ⟨by rfl, ?_⟩) ?_ ?_
      rotate_left
      next =>
       intro w'
       go_simp
       with_reducible rfl
      rotate_left
      next =>
       simp only [Act.put, yay, yby, ycy, i64_w, i32_w]
       rfl
      refine take_ (i := 1) (N := some 71) (v := ?_) (a' := ?_) #[true, true, false, false, false, false, false, false, false] rfl rfl (by kernel_rfl) (fun _ _ _ h => h) (Or.inl ⟨by rfl, ?_⟩) hHeld ?_ ?_
      rotate_left
      next =>
       rintro w' ⟨s0, s1⟩
       go_simp
       with_reducible rfl
      rotate_left
      next =>
       simp only [Act.put, yay, yby, ycy, i64_w, i32_w]
       rfl
      refine pure_ (i := 3) (N := some 73) (v := ?_) (a' := ?_) #[true, true, false, true, false, false, false, false, false] rfl rfl (by kernel_rfl) (fun _ _ _ h => h) (Or.inl ⟨by rfl, ?_⟩) ?_ ?_
      rotate_left
      next =>
       intro w'
       go_simp
       with_reducible rfl
      rotate_left
      next =>
       simp only [Act.put, yay, yby, ycy, i64_w, i32_w]
       rfl
      refine pure_ (i := 5) (N := some 75) (v := ?_) (a' := ?_) #[true, true, false, true, false, true, false, false, false] rfl rfl (by kernel_rfl) (fun _ _ _ h => h) (Or.inl ⟨by rfl, ?_⟩) ?_ ?_
      rotate_left
      next =>
       intro w'
       go_simp
       with_reducible rfl
      rotate_left
      next =>
       simp only [Act.put, yay, yby, ycy, i64_w, i32_w]
       rfl
      refine take_ (i := 6) (N := some 76) (v := ?_) (a' := ?_) #[true, true, false, true, false, true, true, false, false] rfl rfl (by kernel_rfl) (fun _ _ _ h => h) (Or.inl ⟨by rfl, ?_⟩) hHeld ?_ ?_
      rotate_left
      next =>
       rintro w' ⟨s0, s1⟩
       go_simp
       with_reducible rfl
      rotate_left
      next =>
       simp only [Act.put, yay, yby, ycy, i64_w, i32_w]
       rfl
      refine one_ (i := 2) (N := some 72) #[true, true, true, true, false, true, true, false, false] rfl rfl (by kernel_rfl) (by decide) (fun K hK => ?_)
      refine goes_ Try.func32 (by kernel_rfl) rfl #[.int .i64 x1] (by rfl) rfl rfl (by (try simp only [yiy, yjy, yky]); first | done | rfl) ?_
      refine (spec_l06Back.calls k x1 ix _ HQA.out).mono ?_
      rintro e w7 ⟨rfl, hb_⟩
      have hW9 := (HW6.out.stays (below_drew (ypy w6.heap.size w6))).stays hb_
      have hX9 := blk_below (blk_drew HX6.out) hb_
      have hY9 := blk_below (blk_drew HY6.out) hb_
      clear hb_ hHeld
      refine ⟨_, rfl, ?_⟩
      refine hK.out _ _ ⟨(blk_cell hX9 1).trans rfl, (blk_cell hY9 1).trans rfl⟩ (fun hHeld => ?_)
      clear hK K
      refine norm_ (a' := ?_) ?_ ?_
      rotate_left
      next =>
       show Act.put _ (some 72) _ = _
       simp only [Act.put, yay, yby, ycy, i64_w, i32_w]
       rfl
      refine one_ (i := 4) (N := some 74) #[true, true, true, true, true, true, true, false, false] rfl rfl (by kernel_rfl) (by decide) (fun K hK => ?_)
      refine goes_ Try.func44 (by kernel_rfl) rfl #[.int .i64 ix, .int .i64 p] (by rfl) rfl rfl (by (try simp only [yiy, yjy, yky]); first | done | rfl) ?_
      refine (spec_l06Then.calls k ix p cx2 _ HQB.out).mono ?_
      rintro e w8 ⟨rfl, hb_⟩
      replace hW9 := hW9.stays hb_
      replace hX9 := blk_below hX9 hb_
      replace hY9 := blk_below hY9 hb_
      clear hb_ hHeld
      refine ⟨_, rfl, ?_⟩
      refine hK.out _ _ ⟨(blk_cell hX9 1).trans rfl, (blk_cell hY9 1).trans rfl⟩ (fun hHeld => ?_)
      clear hK K
      refine norm_ (a' := ?_) ?_ ?_
      rotate_left
      next =>
       show Act.put _ (some 74) _ = _
       simp only [Act.put, yay, yby, ycy, i64_w, i32_w]
       rfl
      refine one_ (i := 7) (N := some 77) #[true, true, true, true, true, true, true, true, false] rfl rfl (by kernel_rfl) (by decide) (fun K hK => ?_)
      refine goes_ Try.func44 (by kernel_rfl) rfl #[.int .i64 cx2, .int .i64 y1] (by rfl) rfl rfl (by (try simp only [yiy, yjy, yky]); first | done | rfl) ?_
      refine (spec_l06Then.calls k cx2 y1 q _ HQC.out).mono ?_
      rintro e w9 ⟨rfl, hb_⟩
      replace hW9 := hW9.stays hb_
      replace hX9 := blk_below hX9 hb_
      replace hY9 := blk_below hY9 hb_
      clear hb_ hHeld
      refine ⟨_, rfl, ?_⟩
      refine hK.out _ _ ⟨(blk_cell hX9 1).trans rfl, (blk_cell hY9 1).trans rfl⟩ (fun hHeld => ?_)
      clear hK K
      refine norm_ (a' := ?_) ?_ ?_
      rotate_left
      next =>
       show Act.put _ (some 77) _ = _
       simp only [Act.put, yay, yby, ycy, i64_w, i32_w]
       rfl
      refine pure_ (i := 8) (N := some 18) (v := ?_) (a' := ?_) #[true, true, true, true, true, true, true, true, true] rfl rfl (by kernel_rfl) (fun _ _ _ h => h) (Or.inl ⟨by rfl, ?_⟩) ?_ ?_
      rotate_left
      next =>
       intro w'
       go_simp
       with_reducible rfl
      rotate_left
      next =>
       simp only [Act.put, yay, yby, ycy, i64_w, i32_w]
       rfl
      refine done_ (by kernel_rfl) ?_
      have HW9 := Aside0.mk hW9
      have HX9 := Aside0.mk hX9
      have HY9 := Aside0.mk hY9
      clear hW9 hX9 hY9 hHeld HW6 HX6 HY6 hcx0 hcx1 hcy0 hcy1
      have hcx0 : w9.cell? ⟨gB, 0, none⟩ = some (.int .i64 x0) := (blk_cell HX9.out 0).trans rfl
      have hcy0 : w9.cell? ⟨gC, 0, none⟩ = some (.int .i64 y0) := (blk_cell HY9.out 0).trans rfl
      have hXx := (Kd.R_celln 0 HW9.out.rx x0 hx9 hx6).1
      replace hXx : w9.cell? ⟨gx, x0.toNat, none⟩ = some (.int .i64 (rd s2.X x0)) := hXx
      have hYx := (Kd.R_celln 0 HW9.out.ry x0 hx9 hx6).1
      replace hYx : w9.cell? ⟨gy, x0.toNat, none⟩ = some (.int .i64 (rd s2.Y x0)) := hYx
      by_cases hneg : rd s2.X x0 < 0
      rotate_left
      next =>
       have hxi0 : 0 ≤ rd s2.X x0 := by omega
       obtain ⟨vx, hvx⟩ : ∃ vx, rd s2.X x0 = vx := ⟨_, rfl⟩
       obtain ⟨vy, hvy⟩ : ∃ vy, rd s2.Y x0 = vy := ⟨_, rfl⟩
       rw [hvx] at hXx hneg hxi0
       rw [hvy] at hYx
       have HVX := Aside0.mk hvx
       have HVY := Aside0.mk hvy
       clear hvx hvy
       by_cases he : vx = y0 ∧ vy = q
       next =>
        obtain ⟨he1, he2⟩ := he
        subst he1
        subst he2
        have HNX := Aside0.mk (show ((spRow la lb c p (4 - (f + 1)) ((f + 1 : Nat) : Int) s2).map (spGo la lb (n - i) (i + 1))).getD false = r by
         have h := HSP.out
         rw [show spAt p ⟨x0, x1⟩ ⟨vx, y1⟩ s2 = some s2 by
          unfold spAt
          rw [if_neg (show ¬ x0 < 0 by omega), if_neg (show ¬ vx < 0 by omega), if_neg (show ¬ rd s2.X x0 < 0 by rw [HVX.out]; exact hneg), if_pos ⟨HVX.out, HVY.out.trans HQE.out.symm⟩], yfy] at h
         exact h)
        clear HSP
        go_wp2_with fail
        go_quiet (fail)
        go_wp2
        go_roundg (4 - (f + 1))
        case measure => omega
        case rel => exact ⟨f + 1, s2, by omega, by omega, by (try simp only [i64_w]); (first | rfl | rw [show wrap64 ((f : Int) + 1) = ((f + 1 : Nat) : Int) by unfold wrap64; omega]), ⟨by first | exact HW9.out | exact HW9.out.stays (pw_below_drewN (ypy _ _) _)⟩, HOK, ⟨HINC.out.1, HINC.out.2, HNX.out⟩⟩
       next =>
        have hrf : false = r := by
         have h := HSP.out
         rw [show spAt p ⟨x0, x1⟩ ⟨y0, y1⟩ s2 = none by
          unfold spAt
          rw [if_neg (show ¬ x0 < 0 by omega), if_neg (show ¬ y0 < 0 by omega), if_neg (show ¬ rd s2.X x0 < 0 by rw [HVX.out]; exact hneg), if_neg (fun e => he ⟨HVX.out.symm.trans e.1, HVY.out.symm.trans (e.2.trans HQE.out)⟩)], Option.bind_none] at h
         exact h
        subst hrf
        clear HSP
        by_cases he1 : vx = y0
        rotate_left
        next =>
         have hd2 : (vx != y0) = true := bne_iff_ne.mpr he1
         go_wp2_with fail
         go_quiet (fail)
         go_wp2
         go_ret
         exact ⟨rfl, by first | exact HEN.out _ _ _ HW9.out | exact HEN.out _ _ _ (HW9.out.stays (pw_below_drewN (ypy _ _) _))⟩
        have he2 : ¬ vy = q := fun e => he ⟨he1, e⟩
        subst he1
        have hd2 : (vy != q) = true := bne_iff_ne.mpr he2
        go_wp2_with fail
        go_quiet (fail)
        go_wp2
        go_ret
        exact ⟨rfl, by first | exact HEN.out _ _ _ HW9.out | exact HEN.out _ _ _ (HW9.out.stays (pw_below_drewN (ypy _ _) _))⟩
      go_wp2_with fail
      by_cases hin : y0 ∈ s2.X
      next =>
       have hrf : false = r := by
        have h := HSP.out
        rw [show spAt p ⟨x0, x1⟩ ⟨y0, y1⟩ s2 = none by unfold spAt; rw [if_neg (show ¬ x0 < 0 by omega), if_neg (show ¬ y0 < 0 by omega), if_pos hneg, if_pos hin], Option.bind_none] at h
        exact h
       subst hrf
       have hcall := spec_l11Has.calls k (some ⟨gx, 0, none⟩) cx s2.X y0 true w9 (Kd.R_reads' HW9.out.rx).2.2 (by rw [HOK.out.lx]; exact (Kd.R_reads' HW9.out.rx).2.1) (by rw [has_eq y0 (by rw [HOK.out.lx]; exact hn) hk10, ygy hin])
       rw [HOK.out.lx] at hcall
       refine hcall.mono ?_
       rintro e wa ⟨rfl, hd⟩
       have HWa := Aside0.mk (HW9.out.stays (Drawn0.below hd))
       clear hd HSP
       go_wp2
       go_ret
       exact ⟨rfl, HEN.out _ _ _ HWa.out⟩
      next =>
       have hs3 : spAt p ⟨x0, x1⟩ ⟨y0, y1⟩ s2 = some ⟨s2.X.set x0.toNat y0, s2.Y.set x0.toNat q, s2.L ++ [x0]⟩ := by
        unfold spAt
        rw [if_neg (show ¬ x0 < 0 by omega), if_neg (show ¬ y0 < 0 by omega), if_pos hneg, if_neg hin, HQE.out]
       have HNX := Aside0.mk (show ((spRow la lb c p (4 - (f + 1)) ((f + 1 : Nat) : Int) ⟨s2.X.set x0.toNat y0, s2.Y.set x0.toNat q, s2.L ++ [x0]⟩).map (spGo la lb (n - i) (i + 1))).getD false = r by
        have h := HSP.out
        rw [hs3, yfy] at h
        exact h)
       obtain ⟨k1, k2, k3⟩ := spAt_ok HOK.out hp0 hp1 (x := ⟨x0, x1⟩) (y := ⟨y0, y1⟩) (fun _ => ⟨hx6, hx7, hx8⟩) (fun _ => ⟨hy6, hy7, hy8⟩) hc0 hc1 HINC.out.1 hs3
       have HK1 := Aside0.mk k1
       have HINC3 := Aside0.mk (show 0 ≤ rd (s2.X.set x0.toNat y0) c ∧ rd (s2.Y.set x0.toNat q) c = p from ⟨Int.le_trans HINC.out.1 (Int.le_of_eq k2.symm), k3.trans HINC.out.2⟩)
       clear hs3 k1 k2 k3 HSP
       have hcall := spec_l11Has.calls k (some ⟨gx, 0, none⟩) cx s2.X y0 false w9 (Kd.R_reads' HW9.out.rx).2.2 (by rw [HOK.out.lx]; exact (Kd.R_reads' HW9.out.rx).2.1) (by rw [has_eq y0 (by rw [HOK.out.lx]; exact hn) hk10, yhy hin])
       rw [HOK.out.lx] at hcall
       refine hcall.mono ?_
       rintro e wa ⟨rfl, hd⟩
       have hba := Drawn0.below hd
       have HWa := Aside0.mk (HW9.out.stays hba)
       have HXa := Aside0.mk (blk_below HX9.out hba)
       have HYa := Aside0.mk (blk_below HY9.out hba)
       clear hd hba hcx0 hcy0 hXx hYx HX9 HY9 HW9
       have hgBx : gB ≠ gx := by have := HG.out.x1; have := HGB.out; omega
       have hgBy : gB ≠ gy := by have := HG.out.y1; have := HGB.out; omega
       have hgCx : gC ≠ gx := by have := HG.out.x1; omega
       have hgCy : gC ≠ gy := by have := HG.out.y1; omega
       have hxl : x0 < (s2.X.length : Int) := by rw [HOK.out.lx]; exact hx6
       have hyl : x0 < (s2.Y.length : Int) := by rw [HOK.out.ly]; exact hx6
       have HWb := Aside0.mk (SpW.setX HG.out HWa.out x0 y0)
       have HWc := Aside0.mk (SpW.setY HG.out HWb.out x0 q)
       have HXb := Aside0.mk (sp_far HXa.out hgBx x0.toNat (.int .i64 y0))
       have HYb := Aside0.mk (sp_far HYa.out hgCx x0.toNat (.int .i64 y0))
       have HXc := Aside0.mk (sp_far HXb.out hgBy x0.toNat (.int .i64 q))
       have HYc := Aside0.mk (sp_far HYb.out hgCy x0.toNat (.int .i64 q))
       have ha0 : wa.cell? ⟨gB, 0, none⟩ = some (.int .i64 x0) := (blk_cell HXa.out 0).trans rfl
       have ha1 : wa.cell? ⟨gC, 0, none⟩ = some (.int .i64 y0) := (blk_cell HYa.out 0).trans rfl
       have ha2 : wa.cell? ⟨gx, x0.toNat, none⟩ = _ := (Kd.R_celln 0 HWa.out.rx x0 hx9 hx6).1
       have ha3 : wa.frozen? ⟨gx, x0.toNat, none⟩ = false := (Kd.R_celln 0 HWa.out.rx x0 hx9 hx6).2
       have hb0 : (wa.setCell ⟨gx, x0.toNat, none⟩ (.int .i64 y0)).cell? ⟨gB, 0, none⟩ = some (.int .i64 x0) := (blk_cell HXb.out 0).trans rfl
       have hb2 : (wa.setCell ⟨gx, x0.toNat, none⟩ (.int .i64 y0)).cell? ⟨gy, x0.toNat, none⟩ = _ := (Kd.R_celln 0 HWb.out.ry x0 hx9 hx6).1
       have hb3 : (wa.setCell ⟨gx, x0.toNat, none⟩ (.int .i64 y0)).frozen? ⟨gy, x0.toNat, none⟩ = false := (Kd.R_celln 0 HWb.out.ry x0 hx9 hx6).2
       have hcc0 : ((wa.setCell ⟨gx, x0.toNat, none⟩ (.int .i64 y0)).setCell ⟨gy, x0.toNat, none⟩ (.int .i64 q)).cell? ⟨gB, 0, none⟩ = some (.int .i64 x0) := (blk_cell HXc.out 0).trans rfl
       have HLL := Aside0.mk (show s2.L.length ≤ 8 by have := HOK.out.len; omega)
       go_wp2_with (first | ((with_reducible refine gate_builtin (b := .append) (xs := #[.tmp 99, .tmp 102]) rfl ?_); at_builtin; refine Kd.R_append (Kd.int .i64) (w0 := (wa.setCell ⟨gx, x0.toNat, none⟩ (.int .i64 y0)).setCell ⟨gy, x0.toNat, none⟩ (.int .i64 q)) w1.heap.size rfl (.tmp 99) (.tmp 102) 41 2 (.int .i64 0) 8 rfl Try.underlying41 info2 rfl (by decide) (by omega) u11 s2.L x0 [.int .i64 x0] (fun _ => True) (fun _ => False) rfl (show Value.slice (some ⟨wa.heap.size, 0, none⟩) 1 1 = Value.slice (some ⟨((wa.setCell ⟨gx, x0.toNat, none⟩ (.int .i64 y0)).setCell ⟨gy, x0.toNat, none⟩ (.int .i64 q)).heap.size, 0, none⟩) 1 1 by simp) ?aP (fun _ hk => hk.elim) ?aF ?aO ?aB ?aS ?aL ?_; (case aP => exact rfl); (case aB => exact ypy _ _); (case aF => exact (fun _ _ => trivial)); (case aO => exact HWc.out.rl); (case aS => exact HWc.out.sz); (case aL => have := HLL.out; omega); intro vd wd ho hb hg hat; have HWd := Aside0.mk (SpW.app HG.out HWc.out hb hg ho); have HXd := Aside0.mk (sp_g HXc.out HWc.out.rl (by decide) hg); have HYd := Aside0.mk (sp_g HYc.out HWc.out.rl (by decide) hg); clear ho hb hg hat; have hd0 : wd.cell? ⟨gB, 0, none⟩ = some (.int .i64 x0) := (blk_cell HXd.out 0).trans rfl; have hd1 : wd.cell? ⟨gC, 0, none⟩ = some (.int .i64 y0) := (blk_cell HYd.out 0).trans rfl; have hd2 := (HWd.out.atX hx9 hx6 ((rd_setI hx9 hxl hx9).trans (if_pos rfl))).1; have hd3 := (HWd.out.atY hx9 hx6 ((rd_setI hx9 hyl hx9).trans (if_pos rfl))).1))
       go_quiet (fail)
       go_wp2
       go_roundg (4 - (f + 1))
       case measure => omega
       case rel => exact ⟨f + 1, ⟨s2.X.set x0.toNat y0, s2.Y.set x0.toNat q, s2.L ++ [x0]⟩, by omega, by omega, by (try simp only [i64_w]); (first | rfl | rw [show wrap64 ((f : Int) + 1) = ((f + 1 : Nat) : Int) by unfold wrap64; omega]), ⟨by first | exact HWd.out | exact HWd.out.stays (pw_below_drewN (ypy _ _) _)⟩, HK1, ⟨HINC3.out.1, HINC3.out.2, HNX.out⟩⟩
/-! IsomorphismCount: the reference counts the searches that come to their end. -/
theorem none_go : ∀ (d : Nat) (k : Nat) (acc : List Int), d < k → acc.length + d ≤ 1000000 → spec_l11None.l0 k (d : Int) acc = some (acc ++ List.replicate d (-1))
  | _, 0, _, h, _ => by omega
  | 0, k + 1, acc, h, hl => by rw [spec_l11None.l0, if_neg (by omega)]; simp
  | d + 1, k + 1, acc, h, hl => by
    rw [spec_l11None.l0, if_pos (by omega), if_pos (by omega), show wrap64 (((d + 1 : Nat) : Int) - 1) = (d : Int) by unfold wrap64; omega, none_go d k (acc ++ [-1]) (by omega) (by simp; omega), List.append_assoc, List.replicate_succ]
    rfl
theorem none_eq {k n : Nat} (hn : n ≤ 8) (hk : 10 ≤ k) : spec_l11None.f k (n : Int) = some (List.replicate n (-1)) := by
  have := none_go n k [] (by omega) (by simp; omega)
  rwa [List.nil_append] at this
/-- So many rounds serve, and both triangulations can be read. -/
def icOk (k : Nat) (a b : List (List SFace)) : Prop := psOk k = true ∧ 10 ≤ k ∧ a.length ≤ 8 ∧ TrOk a a.length ∧ TrOk b a.length
instance (k : Nat) (a b : List (List SFace)) : Decidable (icOk k a b) := by
  unfold icOk
  exact inferInstance
def spec_IsomorphismCount.f (k : Nat) (a b : List (List SFace)) : Option Int := (spec_IsTriangulation.f k a).bind fun t1 => if t1 = true then ((spec_IsTriangulation.f k b).bind fun t2 => if t2 = true then ((spec_l11Single.f k a).bind fun t3 => if t3 = true then (if a.length = b.length then (if a.length = 0 then some 1 else if icOk k a b then some (cntT a b a.length a.length : Int) else none) else some 0) else some (-1)) else some (-1)) else some (-1)
set_option maxHeartbeats 8000000 in
set_option maxRecDepth 100000 in
theorem spec_IsomorphismCount.calls (k : Nat) (A0_0 : Option Addr) (c0_0 : Nat) (l0_0 : List (List SFace)) (A1_0 : Option Addr) (c1_0 : Nat) (l1_0 : List (List SFace)) (r : Int) (w : World) (hr0_0 : Kd.C (Kd.slice 56 kFace) w A0_0 l0_0.length l0_0) (hc0_0 : l0_0.length ≤ c0_0) (hr1_0 : Kd.C (Kd.slice 56 kFace) w A1_0 l1_0.length l1_0) (hc1_0 : l1_0.length ≤ c1_0) (h : spec_IsomorphismCount.f k l0_0 l1_0 = some r) :
    Calls Try.prog 10 #[.agg #[.slice A0_0 l0_0.length c0_0], .agg #[.slice A1_0 l1_0.length c1_0]] w fun e w' => e = .returned (.int .i64 r) ∧ Below w.heap.size w w' := by
  have HR0 := Aside0.mk hr0_0
  have HR1 := Aside0.mk hr1_0
  have HC0 := Aside0.mk hc0_0
  have HC1 := Aside0.mk hc1_0
  have HH := Aside0.mk h
  clear hr0_0 hr1_0 hc0_0 hc1_0 h
  have BA := Aside0.mk (blk_alloc (new_at4 (W := w) rfl (.cells #[.slice A0_0 l0_0.length c0_0] 30)) (.cells #[.slice A1_0 l1_0.length c1_0] 30))
  have BB := Aside0.mk (new_at4 (W := w.alloc (.cells #[.slice A0_0 l0_0.length c0_0] 30)) (n := w.heap.size + 1) (by simp) (.cells #[.slice A1_0 l1_0.length c1_0] 30))
  have HB := Aside0.mk (below_alloc (below_alloc (ypy w.heap.size w) (.cells #[.slice A0_0 l0_0.length c0_0] 30)) (.cells #[.slice A1_0 l1_0.length c1_0] 30))
  obtain ⟨t1, h1, h⟩ := ydy.mp HH.out
  have H1 := Aside0.mk h1
  clear h1 HH
  have HH := Aside0.mk h
  clear h
  go_enter Try.func10, Try.ntmps10
  go_wp2_with fail
  generalize World.alloc (World.alloc w _) _ = wA at BA BB HB ⊢
  refine (spec_IsTriangulation.calls k A0_0 c0_0 l0_0 t1 _ (Kd.C_below HR0.out HB.out) HC0.out H1.out).mono ?_
  rintro e w2 ⟨rfl, hb⟩
  have BA2 := Aside0.mk (blk_below BA.out hb)
  have BB2 := Aside0.mk (blk_below BB.out hb)
  have HB2 := Aside0.mk (below_step HB.out hb)
  clear hb BA BB HB
  cases t1 with
  | false =>
    have hr : (-1 : Int) = r := yey HH.out
    subst hr
    clear HH
    go_wp2
    go_ret
    exact ⟨rfl, HB2.out⟩
  | true =>
    obtain ⟨t2, h2, h⟩ := ydy.mp ((if_pos rfl).symm.trans HH.out)
    have H2 := Aside0.mk h2
    clear h2 HH
    have HH := Aside0.mk h
    clear h
    have hb2 : w2.cell? ⟨w.heap.size + 1, 0, none⟩ = some (.slice A1_0 l1_0.length c1_0) := (blk_cell BB2.out 0).trans rfl
    go_wp2_with fail
    refine (spec_IsTriangulation.calls k A1_0 c1_0 l1_0 t2 _ (Kd.C_below HR1.out HB2.out) HC1.out H2.out).mono ?_
    rintro e w3 ⟨rfl, hb⟩
    have BA3 := Aside0.mk (blk_below BA2.out hb)
    have BB3 := Aside0.mk (blk_below BB2.out hb)
    have HB3 := Aside0.mk (below_step HB2.out hb)
    clear hb BA2 BB2 HB2 hb2
    cases t2 with
    | false =>
      have hr : (-1 : Int) = r := yey HH.out
      subst hr
      clear HH
      go_wp2
      go_ret
      exact ⟨rfl, HB3.out⟩
    | true =>
      obtain ⟨t3, h3, h⟩ := ydy.mp ((if_pos rfl).symm.trans HH.out)
      have H3 := Aside0.mk h3
      clear h3 HH
      have HH := Aside0.mk h
      clear h
      have hb3 : w3.cell? ⟨w.heap.size, 0, none⟩ = some (.slice A0_0 l0_0.length c0_0) := (blk_cell BA3.out 0).trans rfl
      go_wp2_with fail
      refine (spec_l11Single.calls k A0_0 c0_0 l0_0 t3 _ (Kd.C_below HR0.out HB3.out) HC0.out H3.out).mono ?_
      rintro e w4 ⟨rfl, hb⟩
      have BA4 := Aside0.mk (blk_below BA3.out hb)
      have BB4 := Aside0.mk (blk_below BB3.out hb)
      have HB4 := Aside0.mk (below_step HB3.out hb)
      clear hb BA3 BB3 HB3 hb3
      cases t3 with
      | false =>
        have hr : (-1 : Int) = r := yey HH.out
        subst hr
        clear HH
        go_wp2
        go_ret
        exact ⟨rfl, HB4.out⟩
      | true =>
        have h : (if l0_0.length = l1_0.length then (if l0_0.length = 0 then some 1 else if icOk k l0_0 l1_0 then some (cntT l0_0 l1_0 l0_0.length l0_0.length : Int) else none) else some 0) = some r := (if_pos rfl).symm.trans HH.out
        clear HH
        have ha4 : w4.cell? ⟨w.heap.size, 0, none⟩ = some (.slice A0_0 l0_0.length c0_0) := (blk_cell BA4.out 0).trans rfl
        have hb4 : w4.cell? ⟨w.heap.size + 1, 0, none⟩ = some (.slice A1_0 l1_0.length c1_0) := (blk_cell BB4.out 0).trans rfl
        by_cases hl : l0_0.length = l1_0.length
        · rw [if_pos hl] at h
          by_cases hz : l0_0.length = 0
          · rw [if_pos hz] at h
            have hr := yey h
            subst hr
            clear h
            have hz1 : l1_0.length = 0 := by omega
            go_wp2
            go_ret
            exact ⟨rfl, HB4.out⟩
          · rw [if_neg hz] at h
            by_cases hk : icOk k l0_0 l1_0
            case neg => rw [if_neg hk] at h; cases h
            rw [if_pos hk] at h
            have hr := yey h
            subst hr
            clear h
            obtain ⟨q1, q2, q3, q4, q5⟩ := hk
            have Q1 := Aside0.mk q1
            have Q4 := Aside0.mk q4
            have Q5 := Aside0.mk q5
            clear q1 q4 q5
            rw [← hl] at hb4
            have HCB := Aside0.mk (show l0_0.length ≤ c1_0 by have := HC1.out; omega)
            have HRB := Aside0.mk (show Kd.C (Kd.slice 56 kFace) w A1_0 l0_0.length l1_0 by rw [hl]; exact HR1.out)
            have BBn := Aside0.mk (show w4.heap[w.heap.size + 1]? = some (.cells #[.slice A1_0 l0_0.length c1_0] 30 (0, 0)) by rw [hl]; exact BB4.out)
            have HLL := Aside0.mk hl
            have HNN := Aside0.mk (none_eq q3 q2)
            have H07 := Aside0.mk (show spec_l07Tets.f l1_0 = some (l0_0.length : Int) by rw [hl]; rfl)
            clear hl BB4
            have hnl0 : l0_0.length = l0_0.length := rfl
            have HNL0 := Aside0.mk hnl0
            generalize hnl : l0_0.length = n at *
            have HNL := Aside0.mk hnl
            clear hnl hnl0
            have hnz : ((n : Int) == 0) = false := beq_eq_false_iff_ne.mpr (by omega)
            have hn0 : 0 < n := by omega
            have hn8 : n ≤ 8 := q3
            go_wp2
            clear ha4 hb4
            go_loopg [5, 6] n (fun gg v5 v6 w' => ∃ a : Nat, a ≤ n ∧ n - a ≤ gg ∧ v5 = .int .i64 ((cntT l0_0 l1_0 n a : Nat) : Int) ∧ v6 = .int .i64 a ∧ Aside0 (Below w.heap.size w w') ∧ Aside0 (w'.heap[w.heap.size]? = some (.cells #[.slice A0_0 n c0_0] 30 (0, 0))) ∧ Aside0 (w'.heap[w.heap.size + 1]? = some (.cells #[.slice A1_0 n c1_0] 30 (0, 0))))
            case atStart => exact ⟨0, Nat.zero_le _, by omega, rfl, rfl, HB4, BA4, BBn⟩
            case round =>
              clear HB4 BA4 BBn
              obtain ⟨a, ha9, hga, rfl, rfl, HB, BA, BB⟩ := hrel
              have hbB : wr.cell? ⟨w.heap.size + 1, 0, none⟩ = some (.slice A1_0 n c1_0) := (blk_cell BB.out 0).trans rfl
              go_wp2_with fail
              have hcall := spec_l07Tets.calls A1_0 c1_0 l1_0 (n : Int) wr (Kd.C_below HR1.out HB.out) HC1.out H07.out
              rw [← HLL.out] at hcall
              refine hcall.mono ?_
              rintro e w5 ⟨rfl, hb⟩
              have HB5 := Aside0.mk (below_step HB.out hb)
              have BA5 := Aside0.mk (blk_below BA.out hb)
              have BB5 := Aside0.mk (blk_below BB.out hb)
              clear hb HB BA BB hbB hcall
              by_cases hla : a < n
              · have hlaz : (a : Int) < (n : Int) := by omega
                have hcl := cntT_le l0_0 l1_0 n a
                go_wp2
                go_loopg [5, 7] 24 (fun gg v5 v7 w' => ∃ p : Nat, p ≤ 24 ∧ 24 - p ≤ gg ∧ v5 = .int .i64 ((cntT l0_0 l1_0 n a + cntP l0_0 l1_0 n a p : Nat) : Int) ∧ v7 = .int .i64 p ∧ Aside0 (Below w.heap.size w w') ∧ Aside0 (w'.heap[w.heap.size]? = some (.cells #[.slice A0_0 n c0_0] 30 (0, 0))) ∧ Aside0 (w'.heap[w.heap.size + 1]? = some (.cells #[.slice A1_0 n c1_0] 30 (0, 0))))
                case atStart => exact ⟨0, by omega, by omega, rfl, rfl, HB5, BA5, BB5⟩
                case round =>
                  clear HB5 BA5 BB5
                  obtain ⟨p, hp9, hgp, rfl, rfl, HB, BA, BB⟩ := hrel
                  by_cases hlp : p < 24
                  · have hlpz : (p : Int) < 24 := by omega
                    have hcp := cntP_le l0_0 l1_0 n a p
                    have hbA : wr.cell? ⟨w.heap.size, 0, none⟩ = some (.slice A0_0 n c0_0) := (blk_cell BA.out 0).trans rfl
                    go_wp2_with fail
                    refine (spec_l11None.calls k (n : Int) _ _ HNN.out).mono ?_
                    rintro e w6 ⟨v8, rfl, ho8, hb6⟩
                    obtain ⟨g8, c8, hv8, hg8, hg8l, _⟩ := Kd.R_form ho8 (by rw [List.length_replicate]; exact hn0)
                    rw [List.length_replicate] at hv8
                    subst hv8
                    have HB6 := Aside0.mk (below_step HB.out hb6)
                    have BA6 := Aside0.mk (blk_below BA.out hb6)
                    have BB6 := Aside0.mk (blk_below BB.out hb6)
                    have HO8 := Aside0.mk (Kd.R_tight rfl (Kd.R_lower ho8 HB.out.size))
                    have hlw : w.heap.size + 1 < wr.heap.size := blk_lt BB.out
                    have hbA : w6.cell? ⟨w.heap.size, 0, none⟩ = some (.slice A0_0 n c0_0) := (blk_cell BA6.out 0).trans rfl
                    clear hb6 ho8 BA BB HB
                    go_wp2_with fail
                    refine (spec_l11None.calls k (n : Int) _ _ HNN.out).mono ?_
                    rintro e w7 ⟨v9, rfl, ho9, hb7⟩
                    obtain ⟨g9, c9, hv9, hg9, hg9l, _⟩ := Kd.R_form ho9 (by rw [List.length_replicate]; exact hn0)
                    rw [List.length_replicate] at hv9
                    subst hv9
                    have HB7 := Aside0.mk (below_step HB6.out hb7)
                    have BA7 := Aside0.mk (blk_below BA6.out hb7)
                    have BB7 := Aside0.mk (blk_below BB6.out hb7)
                    have HX7 := Aside0.mk (Kd.R_mono (Kd.R_below HO8.out hb7) (ok' := fun k => k = g8) (fun k hk => yey hk))
                    have HY7 := Aside0.mk (Kd.R_mono (Kd.R_tight rfl (Kd.R_lower ho9 HB6.out.size)) (ok' := fun k => k = g9) (fun k hk => yey hk))
                    clear hb7 ho9 BA6 BB6 HB6 HO8 hbA
                    have hne : g8 ≠ g9 := by omega
                    obtain ⟨hx1, hx2⟩ : w7.cell? ⟨g8, 0, none⟩ = some (.int .i64 (rdOf 0 (List.replicate n (-1)) 0)) ∧ w7.frozen? ⟨g8, 0, none⟩ = false := Kd.R_celln 0 HX7.out (0 : Int) (Int.le_refl 0) (by omega)
                    have HX8 := Aside0.mk (show Kd.R (Kd.int .i64) 2 (w7.setCell ⟨g8, 0, none⟩ (.int .i64 (a : Int))) w.heap.size (fun k => k = g8) (.slice (some ⟨g8, 0, none⟩) n c8) ((List.replicate n (-1)).set 0 (a : Int)) from Kd.R_putn HX7.out (0 : Int) (a : Int))
                    have HY8 := Aside0.mk (Kd.R_far (p := ⟨g8, 0, none⟩) HY7.out (fun k hk => by rw [hk]; exact (Ne.symm hne)) (.int .i64 (a : Int)))
                    obtain ⟨hy1, hy2⟩ : (w7.setCell ⟨g8, 0, none⟩ (.int .i64 (a : Int))).cell? ⟨g9, 0, none⟩ = some (.int .i64 (rdOf 0 (List.replicate n (-1)) 0)) ∧ (w7.setCell ⟨g8, 0, none⟩ (.int .i64 (a : Int))).frozen? ⟨g9, 0, none⟩ = false := Kd.R_celln 0 HY8.out (0 : Int) (Int.le_refl 0) (by omega)
                    have HY9 := Aside0.mk (show Kd.R (Kd.int .i64) 2 ((w7.setCell ⟨g8, 0, none⟩ (.int .i64 (a : Int))).setCell ⟨g9, 0, none⟩ (.int .i64 (p : Int))) w.heap.size (fun k => k = g9) (.slice (some ⟨g9, 0, none⟩) n c9) ((List.replicate n (-1)).set 0 (p : Int)) from Kd.R_putn HY8.out (0 : Int) (p : Int))
                    have HX9 := Aside0.mk (Kd.R_far (p := ⟨g9, 0, none⟩) HX8.out (fun k hk => by rw [hk]; exact hne) (.int .i64 (p : Int)))
                    have hw8 : w.heap.size ≤ g8 := by omega
                    have hw9 : w.heap.size ≤ g9 := by omega
                    have HB9 := Aside0.mk ((HB7.out.setCell (p := ⟨g8, 0, none⟩) hw8 (.int .i64 (a : Int))).setCell (p := ⟨g9, 0, none⟩) hw9 (.int .i64 (p : Int)))
                    have BA9 := Aside0.mk (sp_far (sp_far BA7.out (show w.heap.size ≠ g8 by omega) 0 (.int .i64 (a : Int))) (show w.heap.size ≠ g9 by omega) 0 (.int .i64 (p : Int)))
                    have BB9 := Aside0.mk (sp_far (sp_far BB7.out (show w.heap.size + 1 ≠ g8 by omega) 0 (.int .i64 (a : Int))) (show w.heap.size + 1 ≠ g9 by omega) 0 (.int .i64 (p : Int)))
                    clear HX7 HY7 HX8 HY8 HB7
                    have hfA : ((w7.setCell ⟨g8, 0, none⟩ (.int .i64 (a : Int))).setCell ⟨g9, 0, none⟩ (.int .i64 (p : Int))).cell? ⟨w.heap.size, 0, none⟩ = some (.slice A0_0 n c0_0) := (blk_cell BA9.out 0).trans rfl
                    have hfB : ((w7.setCell ⟨g8, 0, none⟩ (.int .i64 (a : Int))).setCell ⟨g9, 0, none⟩ (.int .i64 (p : Int))).cell? ⟨w.heap.size + 1, 0, none⟩ = some (.slice A1_0 n c1_0) := (blk_cell BB9.out 0).trans rfl
                    go_wp2_with fail
                    refine (spec_l11Spread.calls k n Q1.out q2 hn8 A0_0 c0_0 l0_0 A1_0 c1_0 l1_0 g8 c8 g9 c9 ((List.replicate n (-1)).set 0 (a : Int)) ((List.replicate n (-1)).set 0 (p : Int)) 0 w _ HB9.out HR0.out HC0.out HRB.out HCB.out Q4.out Q5.out HX9.out HY9.out hne (spOk_start hn0 (by omega) (by omega) (by omega) (by omega))).mono ?_
                    rintro e wz ⟨rfl, hbz, hkz⟩
                    have hsz9 : ((w7.setCell ⟨g8, 0, none⟩ (.int .i64 (a : Int))).setCell ⟨g9, 0, none⟩ (.int .i64 (p : Int))).heap.size = w7.heap.size := by simp
                    have hl7 : w.heap.size + 1 < w7.heap.size := by
                      have := blk_lt BB9.out
                      rw [hsz9] at this
                      exact this
                    have HBz := Aside0.mk hbz
                    have BAz := Aside0.mk ((hkz w.heap.size (by rw [hsz9]; omega) (by omega) (by omega)).trans BA9.out)
                    have BBz := Aside0.mk ((hkz (w.heap.size + 1) (by rw [hsz9]; omega) (by omega) (by omega)).trans BB9.out)
                    clear hbz hkz hfA hfB hx1 hx2 hy1 hy2 HX9 HY9 HB9 BA9 BB9 hsz9
                    have hsp : cntP l0_0 l1_0 n a (p + 1) = cntP l0_0 l1_0 n a p + (if spHit l0_0 l1_0 n a p = true then 1 else 0) := rfl
                    have HHT := Aside0.mk (show spGo l0_0 l1_0 (n + 1) 0 ⟨(List.replicate n (-1)).set 0 (a : Int), (List.replicate n (-1)).set 0 (p : Int), [0]⟩ = spHit l0_0 l1_0 n a p from rfl)
                    rw [HHT.out]
                    cases hh : spHit l0_0 l1_0 n a p with
                    | true =>
                      rw [hh, if_pos rfl] at hsp
                      go_wp2
                      go_roundg (24 - (p + 1))
                      case measure => omega
                      case rel => exact ⟨p + 1, by omega, by omega, by (try simp only [i64_w]); (first | rfl | (congr 1; omega) | (congr 1; unfold wrap64; omega)), by (try simp only [i64_w]); (first | rfl | (congr 1; unfold wrap64; omega)), HBz, BAz, BBz⟩
                    | false =>
                      rw [hh, if_neg (by decide)] at hsp
                      go_wp2
                      go_roundg (24 - (p + 1))
                      case measure => omega
                      case rel => exact ⟨p + 1, by omega, by omega, by (try simp only [i64_w]); (first | rfl | (congr 1; omega)), by (try simp only [i64_w]); (first | rfl | (congr 1; unfold wrap64; omega)), HBz, BAz, BBz⟩
                  · obtain rfl : p = 24 := by omega
                    go_wp2
                    go_roundg (n - (a + 1))
                    case measure => omega
                    case rel => exact ⟨a + 1, by omega, by omega, by rw [cntT], by (try simp only [i64_w]); (first | rfl | (congr 1; unfold wrap64; omega)), HB, BA, BB⟩
              · obtain rfl : a = n := by omega
                go_wp2
                go_ret
                exact ⟨by first | rfl | (rw [HNL.out]; rfl), HB5.out⟩
        · rw [if_neg hl] at h
          have hr := yey h
          subst hr
          clear h
          go_wp2
          go_ret
          exact ⟨rfl, HB4.out⟩
/-! ### spec_OrbitSize: function 6 -/
mutual
def spec_OrbitSize.j0 : Nat → Bool → List (List (SFace)) → Option (Int × Int)
 | 0, _, _ => none
 | k + 1, x17, x102000 => if x17 = true then (some (0, 5)) else (spec_OrbitSize.l0 k 1 1 x102000)
def spec_OrbitSize.l0 : Nat → Int → Int → List (List (SFace)) → Option (Int × Int)
 | 0, _, _, _ => none
 | k + 1, x4, x5, x102000 => (spec_l07Tets.f x102000).bind fun t104 => (if x5 ≤ t104 then (spec_OrbitSize.l0 k (wrap64 ((wrap64 (x4 * 24)) * x5)) (wrap64 (x5 + 1)) x102000) else ((spec_IsomorphismCount.f k x102000 x102000).bind fun t105 => (if t105 = 0 then (none) else (some (wrap64 (Int.tdiv x4 t105), 0)))))
end
def spec_OrbitSize.f (k : Nat) (l0_0 : List (List (SFace))) : Option (Int × Int) := (spec_IsTriangulation.f k l0_0).bind fun t102 => (if t102 = true then (if (l0_0.length : Int) = 0 then (spec_OrbitSize.j0 k true l0_0) else ((spec_l11Single.f k l0_0).bind fun t103 => (spec_OrbitSize.j0 k (!t103) l0_0))) else (some (0, 1)))
set_option maxHeartbeats 8000000 in
set_option maxRecDepth 100000 in
theorem spec_OrbitSize.calls (k : Nat) (A0_0 : Option Addr) (c0_0 : Nat) (l0_0 : List (List (SFace))) (r1 : Int) (r2 : Int) (w : World) (hr0_0 : Kd.C (Kd.slice 56 kFace) w A0_0 l0_0.length l0_0) (hc0_0 : l0_0.length ≤ c0_0) (h : spec_OrbitSize.f k l0_0 = some (r1, r2)) :
 Calls Try.prog 6 #[.agg #[.slice A0_0 l0_0.length c0_0]] w fun e w' => e = .returned (.tuple #[.int .i64 r1, .int .i64 r2]) ∧ Below w.heap.size w w' := by
 have hu30 := Try.underlying30
 have HR0_0 := Aside0.mk hr0_0
 have HC0_0 := Aside0.mk hc0_0
 clear hr0_0 hc0_0
 have HB := Aside0.mk (ypy w.heap.size w)
 have H : ((spec_IsTriangulation.f k l0_0).bind fun t102 => (if t102 = true then (if (l0_0.length : Int) = 0 then (spec_OrbitSize.j0 k true l0_0) else ((spec_l11Single.f k l0_0).bind fun t103 => (spec_OrbitSize.j0 k (!t103) l0_0))) else (some (0, 1)))) = some (r1, r2) := h
 clear h
 replace H := ydy.mp H
 obtain ⟨t102, A20, H⟩ := H
 replace H : (if t102 = true then (if (l0_0.length : Int) = 0 then (spec_OrbitSize.j0 k true l0_0) else ((spec_l11Single.f k l0_0).bind fun t103 => (spec_OrbitSize.j0 k (!t103) l0_0))) else (some (0, 1))) = some (r1, r2) := H
 have A2 := Aside0.mk A20
 clear A20
 by_cases c3 : t102 = true
 rotate_left
 next =>
  replace c3 := Bool.eq_false_iff.mpr c3
  subst c3
  have H1 : (some (0, 1)) = some (r1, r2) := by rw [if_neg (show ¬ (false = true) by decide)] at H; exact H
  clear H
  have H := H1
  clear H1
  simp only [Option.some.injEq, Prod.mk.injEq] at H
  obtain ⟨rfl, rfl⟩ := H
  go_enter Try.func6, Try.ntmps6
  go_wp2_with (first | ((with_reducible refine gate_dst (N := 1) rfl ?_); refine box_event ?hg (N := 1) ?hd (cs := #[.slice A0_0 l0_0.length c0_0]) (t := 30) ?hr ?_; (case hd => rfl); (case hg => rfl); (case hr => first | (go_simp; done) | (go_simp; rfl)); intro gb101 hg w24 hbox hb; have n0_ := Aside0.mk (below_step (by repeat (first | (with_reducible first | exact HB.out | apply below_alloc | apply pw_below_drewN | apply below_drew1) | exact HB.out)) hb); have n1_ := Aside0.mk (hbox); have n2_ := Aside0.mk ((by rw [hg]; exact (below_size (by repeat (first | (with_reducible first | exact HB.out | apply below_alloc | apply pw_below_drewN | apply below_drew1) | exact HB.out))) : w.heap.size ≤ gb101)); have n3_ := Aside0.mk ((by rw [hg]; exact (below_size (by repeat (first | (with_reducible first | exact HB.out | apply below_alloc | apply pw_below_drewN | apply below_drew1) | exact HB.out))) : w.heap.size ≤ gb101)); clear HB; have HB := n0_; have BK101 := n1_; have GW101 := n2_; have GE101 := n3_; clear n0_ n1_ n2_ n3_; clear hb hbox hg; have hcz25_0 : w24.cell? ⟨gb101, 0, none⟩ = some (.slice A0_0 l0_0.length c0_0) := (blk_cell BK101.out 0).trans rfl; have hfz25_0 := blk_frozen BK101.out 0) | ((with_reducible refine gate_callee (f := 13) rfl ?_); refine goesL_ (some 7) rfl rfl Try.func13 (by kernel_rfl) rfl #[.agg #[.slice A0_0 l0_0.length c0_0]] rfl (by (try simp only [yiy, yjy, yky]); first | done | rfl | (simp only [yly, ymy]; rfl)) ?_; (with_reducible refine (spec_IsTriangulation.calls k _ _ l0_0 false _ ?side1 ?side2 A2.out).mono ?_); (case side1 => repeat (first | exact (Kd.C_below HR0_0.out HB.out) | (with_reducible refine Kd.C_alloc ?_ _) | (with_reducible refine Kd.C_drewN ?_ _) | (with_reducible refine Kd.C_drew ?_))); (case side2 => exact HC0_0.out); rintro e w26 ⟨rfl, hb⟩; refine ⟨_, rfl, ?_⟩; have n0_ := Aside0.mk (blk_below (g := gb101) (o := .cells #[.slice A0_0 l0_0.length c0_0] 30 (0, 0)) (by (with_reducible repeat (first | refine blk_drewN ?_ _ | refine blk_drew ?_ | refine blk_alloc ?_ _)); exact BK101.out) hb); have n1_ := Aside0.mk (below_step (by repeat (first | (with_reducible first | exact HB.out | apply below_alloc | apply pw_below_drewN | apply below_drew1 | refine below_set ?_ GE101.out) | exact HB.out)) hb); clear BK101; clear HB; have BK101 := n0_; have HB := n1_; clear n0_ n1_; (try clear hb); (try clear hb2); (try clear hk); (try clear hi)))
  go_ret2
  exact ⟨by first | rfl | (simp [errW_none, errW_some] <;> rfl) | (simp [*, errW_none, errW_some] <;> rfl), by repeat (first | (with_reducible first | exact HB.out | apply below_alloc | apply pw_below_drewN | apply below_drew1 | refine below_set ?_ GE101.out) | exact HB.out)⟩
 subst c3
 have H1 : (if (l0_0.length : Int) = 0 then (spec_OrbitSize.j0 k true l0_0) else ((spec_l11Single.f k l0_0).bind fun t103 => (spec_OrbitSize.j0 k (!t103) l0_0))) = some (r1, r2) := by rw [if_pos rfl] at H; exact H
 clear H
 have H := H1
 clear H1
 have HC4 := Aside0.mk H
 clear H
 go_enter Try.func6, Try.ntmps6
 go_upto_region 3 with (first | ((with_reducible refine gate_dst (N := 1) rfl ?_); refine box_event ?hg (N := 1) ?hd (cs := #[.slice A0_0 l0_0.length c0_0]) (t := 30) ?hr ?_; (case hd => rfl); (case hg => rfl); (case hr => first | (go_simp; done) | (go_simp; rfl)); intro gb101 hg w5 hbox hb; have n0_ := Aside0.mk (below_step (by repeat (first | (with_reducible first | exact HB.out | apply below_alloc | apply pw_below_drewN | apply below_drew1) | exact HB.out)) hb); have n1_ := Aside0.mk (hbox); have n2_ := Aside0.mk ((by rw [hg]; exact (below_size (by repeat (first | (with_reducible first | exact HB.out | apply below_alloc | apply pw_below_drewN | apply below_drew1) | exact HB.out))) : w.heap.size ≤ gb101)); have n3_ := Aside0.mk ((by rw [hg]; exact (below_size (by repeat (first | (with_reducible first | exact HB.out | apply below_alloc | apply pw_below_drewN | apply below_drew1) | exact HB.out))) : w.heap.size ≤ gb101)); clear HB; have HB := n0_; have BK101 := n1_; have GW101 := n2_; have GE101 := n3_; clear n0_ n1_ n2_ n3_; clear hb hbox hg; have hcz6_0 : w5.cell? ⟨gb101, 0, none⟩ = some (.slice A0_0 l0_0.length c0_0) := (blk_cell BK101.out 0).trans rfl; have hfz6_0 := blk_frozen BK101.out 0) | ((with_reducible refine gate_callee (f := 13) rfl ?_); refine goesL_ (some 7) rfl rfl Try.func13 (by kernel_rfl) rfl #[.agg #[.slice A0_0 l0_0.length c0_0]] rfl (by (try simp only [yiy, yjy, yky]); first | done | rfl | (simp only [yly, ymy]; rfl)) ?_; (with_reducible refine (spec_IsTriangulation.calls k _ _ l0_0 true _ ?side1 ?side2 A2.out).mono ?_); (case side1 => repeat (first | exact (Kd.C_below HR0_0.out HB.out) | (with_reducible refine Kd.C_alloc ?_ _) | (with_reducible refine Kd.C_drewN ?_ _) | (with_reducible refine Kd.C_drew ?_))); (case side2 => exact HC0_0.out); rintro e w7 ⟨rfl, hb⟩; refine ⟨_, rfl, ?_⟩; have n0_ := Aside0.mk (blk_below (g := gb101) (o := .cells #[.slice A0_0 l0_0.length c0_0] 30 (0, 0)) (by (with_reducible repeat (first | refine blk_drewN ?_ _ | refine blk_drew ?_ | refine blk_alloc ?_ _)); exact BK101.out) hb); have n1_ := Aside0.mk (below_step (by repeat (first | (with_reducible first | exact HB.out | apply below_alloc | apply pw_below_drewN | apply below_drew1 | refine below_set ?_ GE101.out) | exact HB.out)) hb); clear BK101; clear HB; have BK101 := n0_; have HB := n1_; clear n0_ n1_; (try clear hb); (try clear hb2); (try clear hk); (try clear hi)))
 (try simp only [Act.put, yay, yby, ycy])
 go_cut [17] (fun v17 wc => ∃ (kq : Nat) (x17_3 : Bool), v17 = .bool x17_3 ∧ Aside0 (spec_OrbitSize.j0 kq x17_3 l0_0 = some (r1, r2)) ∧ Aside0 (kq ≤ k) ∧ Aside0 (wc.heap[gb101]? = some (.cells #[(.slice A0_0 l0_0.length c0_0)] 30 (0, 0))) ∧ Aside0 (Below w.heap.size w wc))
 case first =>
  have H := HC4.out
  clear HC4
  by_cases c8 : (l0_0.length : Int) = 0
  next =>
   rw [if_pos c8] at H
   have c8b0 : ((l0_0.length : Int) == 0) = true := beq_iff_eq.mpr c8
   have c8b1 : ((l0_0.length : Int) != 0) = false := bne_eq_false_iff_eq.mpr c8
   clear c8
   (first | rw [c8b0] | (simp only [i64_w, i32_w]; rw [c8b0]) | skip)
   have H' := Aside0.mk H
   clear H
   have hcz9_0 : w7.cell? ⟨gb101, 0, none⟩ = some (.slice A0_0 l0_0.length c0_0) := (blk_cell BK101.out 0).trans rfl
   have hfz9_0 := blk_frozen BK101.out 0
   go_wp2
   go_meet
   case rel => exact ⟨_, (true), (by first | rfl | (simp; done) | (simp [*]; done)), H', ⟨by first | omega | exact yoy _⟩, ⟨by (with_reducible repeat (first | refine blk_drewN ?_ _ | refine blk_drew ?_ | refine blk_alloc ?_ _)); exact BK101.out⟩, ⟨by repeat (first | (with_reducible first | exact HB.out | apply below_alloc | apply pw_below_drewN | apply below_drew1 | refine below_set ?_ GE101.out) | exact HB.out)⟩⟩
  next =>
   rw [if_neg c8] at H
   have c8b0 : ((l0_0.length : Int) == 0) = false := beq_eq_false_iff_ne.mpr c8
   have c8b1 : ((l0_0.length : Int) != 0) = true := bne_iff_ne.mpr c8
   have c8b2 : ¬ (l0_0 = []) := fun h_ => c8 (by rw [h_]; rfl)
   (first | rw [c8b0] | (simp only [i64_w, i32_w]; rw [c8b0]) | skip)
   replace H := ydy.mp H
   obtain ⟨t103, A100, H⟩ := H
   replace H : (spec_OrbitSize.j0 k (!t103) l0_0) = some (r1, r2) := H
   have A10 := Aside0.mk A100
   clear A100
   have H' := Aside0.mk H
   clear H
   have hcz11_0 : w7.cell? ⟨gb101, 0, none⟩ = some (.slice A0_0 l0_0.length c0_0) := (blk_cell BK101.out 0).trans rfl
   have hfz11_0 := blk_frozen BK101.out 0
   go_wp2_with (first | (go_at_call 14; (with_reducible refine (spec_l11Single.calls k _ _ l0_0 t103 _ ?side1 ?side2 A10.out).mono ?_); (case side1 => repeat (first | exact (Kd.C_below HR0_0.out HB.out) | (with_reducible refine Kd.C_alloc ?_ _) | (with_reducible refine Kd.C_drewN ?_ _) | (with_reducible refine Kd.C_drew ?_))); (case side2 => exact HC0_0.out); rintro e w12 ⟨rfl, hb⟩; have n0_ := Aside0.mk (blk_below (g := gb101) (o := .cells #[.slice A0_0 l0_0.length c0_0] 30 (0, 0)) (by (with_reducible repeat (first | refine blk_drewN ?_ _ | refine blk_drew ?_ | refine blk_alloc ?_ _)); exact BK101.out) hb); have n1_ := Aside0.mk (below_step (by repeat (first | (with_reducible first | exact HB.out | apply below_alloc | apply pw_below_drewN | apply below_drew1 | refine below_set ?_ GE101.out) | exact HB.out)) hb); clear BK101; clear HB; have BK101 := n0_; have HB := n1_; clear n0_ n1_; (try clear hb); (try clear hb2); (try clear hk); (try clear hi)))
   go_meet
   case rel => exact ⟨_, (!t103), (by first | rfl | (simp; done) | (simp [*]; done)), H', ⟨by first | omega | exact yoy _⟩, ⟨by (with_reducible repeat (first | refine blk_drewN ?_ _ | refine blk_drew ?_ | refine blk_alloc ?_ _)); exact BK101.out⟩, ⟨by repeat (first | (with_reducible first | exact HB.out | apply below_alloc | apply pw_below_drewN | apply below_drew1 | refine below_set ?_ GE101.out) | exact HB.out)⟩⟩
 case rest =>
  clear HC4
  try clear c1
  try clear p2
  try clear c3
  try clear c6
  try clear c8
  try clear c8b0
  try clear c8b1
  try clear c8b2
  try clear hcz11_0
  try clear hcz6_0
  try clear hcz9_0
  try clear hfz11_0
  try clear hfz6_0
  try clear hfz9_0
  obtain ⟨kq, x17_3, rfl, HA, HJ3, BK101, HB⟩ := hcut
  cases kq with
  | zero => exact absurd HA.out (by simp [spec_OrbitSize.j0])
  | succ kj3 =>
   have H := HA.out
   clear HA
   simp only [spec_OrbitSize.j0] at H
   by_cases c13 : x17_3 = true
   next =>
    subst c13
    have H1 : (some (0, 5)) = some (r1, r2) := by rw [if_pos rfl] at H; exact H
    clear H
    have H := H1
    clear H1
    simp only [Option.some.injEq, Prod.mk.injEq] at H
    obtain ⟨rfl, rfl⟩ := H
    go_wp2
    go_ret2
    exact ⟨by first | rfl | (simp [errW_none, errW_some] <;> rfl) | (simp [*, errW_none, errW_some] <;> rfl), by repeat (first | (with_reducible first | exact HB.out | apply below_alloc | apply pw_below_drewN | apply below_drew1 | refine below_set ?_ GE101.out) | exact HB.out)⟩
   next =>
    replace c13 := Bool.eq_false_iff.mpr c13
    subst c13
    have H1 : (spec_OrbitSize.l0 kj3 1 1 l0_0) = some (r1, r2) := by rw [if_neg (show ¬ (false = true) by decide)] at H; exact H
    clear H
    have H := H1
    clear H1
    have H' := Aside0.mk H
    clear H
    go_wp2
    go_loopg [4, 5] kj3 (fun kq v4 v5 w' => ∃ (x4_2 : Int) (x5_2 : Int), v4 = .int .i64 x4_2 ∧ v5 = .int .i64 x5_2 ∧ Aside0 (spec_OrbitSize.l0 kq x4_2 x5_2 l0_0 = some (r1, r2)) ∧ Aside0 (kq ≤ kj3) ∧ Aside0 (w'.heap[gb101]? = some (.cells #[(.slice A0_0 l0_0.length c0_0)] 30 (0, 0))) ∧ Aside0 (Below w.heap.size w w'))
    case atStart => exact ⟨(1), (1), (by first | rfl | (simp; done) | (simp [*]; done)), (by first | rfl | (simp; done) | (simp [*]; done)), H', ⟨yoy _⟩, ⟨by (with_reducible repeat (first | refine blk_drewN ?_ _ | refine blk_drew ?_ | refine blk_alloc ?_ _)); exact BK101.out⟩, ⟨by repeat (first | (with_reducible first | exact HB.out | apply below_alloc | apply pw_below_drewN | apply below_drew1 | refine below_set ?_ GE101.out) | exact HB.out)⟩⟩
    case round =>
     clear H'
     try clear c1
     try clear p2
     try clear c3
     try clear c6
     try clear c8
     try clear c8b0
     try clear c8b1
     try clear c8b2
     try clear c13
     try clear hcz11_0
     try clear hcz6_0
     try clear hcz9_0
     try clear hfz11_0
     try clear hfz6_0
     try clear hfz9_0
     try clear p2
     obtain ⟨x4_2, x5_2, rfl, rfl, HA, HK2, BK101, HB⟩ := hrel
     cases gk with
     | zero => exact absurd HA.out (by simp [spec_OrbitSize.l0])
     | succ k2 =>
      have H := HA.out
      clear HA
      simp only [spec_OrbitSize.l0] at H
      replace H := ydy.mp H
      obtain ⟨t104, A140, H⟩ := H
      replace H : (if x5_2 ≤ t104 then (spec_OrbitSize.l0 k2 (wrap64 ((wrap64 (x4_2 * 24)) * x5_2)) (wrap64 (x5_2 + 1)) l0_0) else ((spec_IsomorphismCount.f k2 l0_0 l0_0).bind fun t105 => (if t105 = 0 then (none) else (some (wrap64 (Int.tdiv x4_2 t105), 0))))) = some (r1, r2) := H
      have A14 := Aside0.mk A140
      clear A140
      by_cases c15 : x5_2 ≤ t104
      next =>
       rw [if_pos c15] at H
       have c15b0 : decide (x5_2 ≤ t104) = true := ygy c15
       clear c15
       have H' := Aside0.mk H
       clear H
       have hcz16_0 : wr.cell? ⟨gb101, 0, none⟩ = some (.slice A0_0 l0_0.length c0_0) := (blk_cell BK101.out 0).trans rfl
       have hfz16_0 := blk_frozen BK101.out 0
       go_wp2_with (first | ((with_reducible refine gate_callee (f := 15) rfl ?_); refine goesL_ (some 20) rfl rfl Try.func15 (by kernel_rfl) rfl #[.agg #[.slice A0_0 l0_0.length c0_0]] rfl (by (try simp only [yiy, yjy, yky]); first | done | rfl | (simp only [yly, ymy]; rfl)) ?_; (with_reducible refine (spec_l07Tets.calls _ _ l0_0 t104 _ ?side1 ?side2 A14.out).mono ?_); (case side1 => repeat (first | exact (Kd.C_below HR0_0.out HB.out) | (with_reducible refine Kd.C_alloc ?_ _) | (with_reducible refine Kd.C_drewN ?_ _) | (with_reducible refine Kd.C_drew ?_))); (case side2 => exact HC0_0.out); rintro e w17 ⟨rfl, hb⟩; refine ⟨_, rfl, ?_⟩; have n0_ := Aside0.mk (blk_below (g := gb101) (o := .cells #[.slice A0_0 l0_0.length c0_0] 30 (0, 0)) (by (with_reducible repeat (first | refine blk_drewN ?_ _ | refine blk_drew ?_ | refine blk_alloc ?_ _)); exact BK101.out) hb); have n1_ := Aside0.mk (below_step (by repeat (first | (with_reducible first | exact HB.out | apply below_alloc | apply pw_below_drewN | apply below_drew1 | refine below_set ?_ GE101.out) | exact HB.out)) hb); clear BK101; clear HB; have BK101 := n0_; have HB := n1_; clear n0_ n1_; (try clear hb); (try clear hb2); (try clear hk); (try clear hi)))
       go_roundg k2
       case measure => have := HJ3.out; have := HK2.out; omega
       case rel => exact ⟨(wrap64 ((wrap64 (x4_2 * 24)) * x5_2)), (wrap64 (x5_2 + 1)), (by first | rfl | (simp; done) | (simp [*]; done)), (by first | rfl | (simp; done) | (simp [*]; done)), H', ⟨by have := HJ3.out; have := HK2.out; omega⟩, ⟨by (with_reducible repeat (first | refine blk_drewN ?_ _ | refine blk_drew ?_ | refine blk_alloc ?_ _)); exact BK101.out⟩, ⟨by repeat (first | (with_reducible first | exact HB.out | apply below_alloc | apply pw_below_drewN | apply below_drew1 | refine below_set ?_ GE101.out) | exact HB.out)⟩⟩
      next =>
       rw [if_neg c15] at H
       have c15b0 : decide (x5_2 ≤ t104) = false := yhy c15
       clear c15
       replace H := ydy.mp H
       obtain ⟨t105, A180, H⟩ := H
       replace H : (if t105 = 0 then (none) else (some (wrap64 (Int.tdiv x4_2 t105), 0))) = some (r1, r2) := H
       have A18 := Aside0.mk A180
       clear A180
       by_cases c19 : t105 = 0
       next =>
        rw [if_pos c19] at H
        exact absurd H (by simp)
       next =>
        rw [if_neg c19] at H
        have c19b0 : (t105 == 0) = false := beq_eq_false_iff_ne.mpr c19
        have c19b1 : (t105 != 0) = true := bne_iff_ne.mpr c19
        simp only [Option.some.injEq, Prod.mk.injEq] at H
        obtain ⟨rfl, rfl⟩ := H
        have hcz20_0 : wr.cell? ⟨gb101, 0, none⟩ = some (.slice A0_0 l0_0.length c0_0) := (blk_cell BK101.out 0).trans rfl
        have hfz20_0 := blk_frozen BK101.out 0
        go_wp2_with (first | ((with_reducible refine gate_callee (f := 15) rfl ?_); refine goesL_ (some 20) rfl rfl Try.func15 (by kernel_rfl) rfl #[.agg #[.slice A0_0 l0_0.length c0_0]] rfl (by (try simp only [yiy, yjy, yky]); first | done | rfl | (simp only [yly, ymy]; rfl)) ?_; (with_reducible refine (spec_l07Tets.calls _ _ l0_0 t104 _ ?side1 ?side2 A14.out).mono ?_); (case side1 => repeat (first | exact (Kd.C_below HR0_0.out HB.out) | (with_reducible refine Kd.C_alloc ?_ _) | (with_reducible refine Kd.C_drewN ?_ _) | (with_reducible refine Kd.C_drew ?_))); (case side2 => exact HC0_0.out); rintro e w21 ⟨rfl, hb⟩; refine ⟨_, rfl, ?_⟩; have n0_ := Aside0.mk (blk_below (g := gb101) (o := .cells #[.slice A0_0 l0_0.length c0_0] 30 (0, 0)) (by (with_reducible repeat (first | refine blk_drewN ?_ _ | refine blk_drew ?_ | refine blk_alloc ?_ _)); exact BK101.out) hb); have n1_ := Aside0.mk (below_step (by repeat (first | (with_reducible first | exact HB.out | apply below_alloc | apply pw_below_drewN | apply below_drew1 | refine below_set ?_ GE101.out) | exact HB.out)) hb); clear BK101; clear HB; have BK101 := n0_; have HB := n1_; clear n0_ n1_; (try clear hb); (try clear hb2); (try clear hk); (try clear hi); have hcz22_0 : w21.cell? ⟨gb101, 0, none⟩ = some (.slice A0_0 l0_0.length c0_0) := (blk_cell BK101.out 0).trans rfl; have hfz22_0 := blk_frozen BK101.out 0) | ((with_reducible refine gate_callee (f := 10) rfl ?_); refine goesL_ (some 31) rfl rfl Try.func10 (by kernel_rfl) rfl #[.agg #[.slice A0_0 l0_0.length c0_0], .agg #[.slice A0_0 l0_0.length c0_0]] rfl (by (try simp only [yiy, yjy, yky]); first | done | rfl | (simp only [yly, ymy]; rfl)) ?_; (with_reducible refine (spec_IsomorphismCount.calls k2 _ _ l0_0 _ _ l0_0 t105 _ ?side1 ?side2 ?side3 ?side4 A18.out).mono ?_); (case side1 => repeat (first | exact (Kd.C_below HR0_0.out HB.out) | (with_reducible refine Kd.C_alloc ?_ _) | (with_reducible refine Kd.C_drewN ?_ _) | (with_reducible refine Kd.C_drew ?_))); (case side2 => exact HC0_0.out); (case side3 => repeat (first | exact (Kd.C_below HR0_0.out HB.out) | (with_reducible refine Kd.C_alloc ?_ _) | (with_reducible refine Kd.C_drewN ?_ _) | (with_reducible refine Kd.C_drew ?_))); (case side4 => exact HC0_0.out); rintro e w23 ⟨rfl, hb⟩; refine ⟨_, rfl, ?_⟩; have n0_ := Aside0.mk (blk_below (g := gb101) (o := .cells #[.slice A0_0 l0_0.length c0_0] 30 (0, 0)) (by (with_reducible repeat (first | refine blk_drewN ?_ _ | refine blk_drew ?_ | refine blk_alloc ?_ _)); exact BK101.out) hb); have n1_ := Aside0.mk (below_step (by repeat (first | (with_reducible first | exact HB.out | apply below_alloc | apply pw_below_drewN | apply below_drew1 | refine below_set ?_ GE101.out) | exact HB.out)) hb); clear BK101; clear HB; have BK101 := n0_; have HB := n1_; clear n0_ n1_; (try clear hb); (try clear hb2); (try clear hk); (try clear hi)))
        go_ret2
        exact ⟨by first | rfl | (simp [errW_none, errW_some] <;> rfl) | (simp [*, errW_none, errW_some] <;> rfl), by repeat (first | (with_reducible first | exact HB.out | apply below_alloc | apply pw_below_drewN | apply below_drew1 | refine below_set ?_ GE101.out) | exact HB.out)⟩
/-! ### laws_FnExactOrbitSize: function 3 -/
def laws_FnExactOrbitSize.j0 : Nat → Bool → List (List (SLawFace)) → List (List (SFace)) → Option (Bool)
 | 0, _, _, _ => none
 | k + 1, x34, x102000, x112000 => if x34 = true then (some false) else ((laws_toTriangulation.f k x102000).bind fun t114 => ((laws_eqTriangulation.f k x112000 t114).bind fun t117 => (if t117 = true then (some true) else (some false))))
def laws_FnExactOrbitSize.f (k : Nat) (l0_0 : List (List (SLawFace))) : Option (Bool) := (laws_szTriangulation.f k l0_0 1048576).bind fun t102 => (if t102 < 0 then (some true) else ((laws_toTriangulation.f k l0_0).bind fun t103 => ((spec_OrbitSize.f k t103).bind fun bt106 => ((laws_toTriangulation.f k l0_0).bind fun t108 => ((impl_OrbitSize.f k t108).bind fun bt112 => (if bt112.1 = bt106.1 then (laws_FnExactOrbitSize.j0 k (bt112.2 != bt106.2) l0_0 t108) else (laws_FnExactOrbitSize.j0 k true l0_0 t108)))))))
set_option maxHeartbeats 8000000 in
set_option maxRecDepth 100000 in
theorem laws_FnExactOrbitSize.calls (k : Nat) (A0_0 : Option Addr) (c0_0 : Nat) (l0_0 : List (List (SLawFace))) (r : Bool) (w : World) (hr0_0 : Kd.C (Kd.slice 74 kLawFace) w A0_0 l0_0.length l0_0) (hc0_0 : l0_0.length ≤ c0_0) (h : laws_FnExactOrbitSize.f k l0_0 = some r) :
 Calls Try.prog 3 #[.agg #[.slice A0_0 l0_0.length c0_0]] w fun e w' => e = .returned (.bool r) ∧ Below w.heap.size w w' := by
 have hu24 := Try.underlying24
 have hu30 := Try.underlying30
 have HR0_0 := Aside0.mk hr0_0
 have HC0_0 := Aside0.mk hc0_0
 clear hr0_0 hc0_0
 have HB := Aside0.mk (ypy w.heap.size w)
 have H : ((laws_szTriangulation.f k l0_0 1048576).bind fun t102 => (if t102 < 0 then (some true) else ((laws_toTriangulation.f k l0_0).bind fun t103 => ((spec_OrbitSize.f k t103).bind fun bt106 => ((laws_toTriangulation.f k l0_0).bind fun t108 => ((impl_OrbitSize.f k t108).bind fun bt112 => (if bt112.1 = bt106.1 then (laws_FnExactOrbitSize.j0 k (bt112.2 != bt106.2) l0_0 t108) else (laws_FnExactOrbitSize.j0 k true l0_0 t108)))))))) = some r := h
 clear h
 replace H := ydy.mp H
 obtain ⟨t102, A20, H⟩ := H
 replace H : (if t102 < 0 then (some true) else ((laws_toTriangulation.f k l0_0).bind fun t103 => ((spec_OrbitSize.f k t103).bind fun bt106 => ((laws_toTriangulation.f k l0_0).bind fun t108 => ((impl_OrbitSize.f k t108).bind fun bt112 => (if bt112.1 = bt106.1 then (laws_FnExactOrbitSize.j0 k (bt112.2 != bt106.2) l0_0 t108) else (laws_FnExactOrbitSize.j0 k true l0_0 t108))))))) = some r := H
 have A2 := Aside0.mk A20
 clear A20
 by_cases c3 : t102 < 0
 next =>
  rw [if_pos c3] at H
  have c3b0 : decide (t102 < 0) = true := ygy c3
  clear c3
  obtain rfl := yey H
  go_enter Try.func3, Try.ntmps3
  go_wp2_with (first | ((with_reducible refine gate_dst (N := 1) rfl ?_); refine box_event ?hg (N := 1) ?hd (cs := #[.slice A0_0 l0_0.length c0_0]) (t := 24) ?hr ?_; (case hd => rfl); (case hg => rfl); (case hr => first | (go_simp; done) | (go_simp; rfl)); intro gb101 hg w4 hbox hb; have n0_ := Aside0.mk (below_step (by repeat (first | (with_reducible first | exact HB.out | apply below_alloc | apply pw_below_drewN | apply below_drew1) | exact HB.out)) hb); have n1_ := Aside0.mk (hbox); have n2_ := Aside0.mk ((by rw [hg]; exact (below_size (by repeat (first | (with_reducible first | exact HB.out | apply below_alloc | apply pw_below_drewN | apply below_drew1) | exact HB.out))) : w.heap.size ≤ gb101)); have n3_ := Aside0.mk ((by rw [hg]; exact (below_size (by repeat (first | (with_reducible first | exact HB.out | apply below_alloc | apply pw_below_drewN | apply below_drew1) | exact HB.out))) : w.heap.size ≤ gb101)); clear HB; have HB := n0_; have BK101 := n1_; have GW101 := n2_; have GE101 := n3_; clear n0_ n1_ n2_ n3_; clear hb hbox hg; have hcz5_0 : w4.cell? ⟨gb101, 0, none⟩ = some (.slice A0_0 l0_0.length c0_0) := (blk_cell BK101.out 0).trans rfl; have hfz5_0 := blk_frozen BK101.out 0) | ((with_reducible refine gate_callee (f := 5) rfl ?_); refine goesL_ (some 11) rfl rfl Try.func5 (by kernel_rfl) rfl #[.agg #[.slice A0_0 l0_0.length c0_0], .int .i64 1048576] rfl (by (try simp only [yiy, yjy, yky]); first | done | rfl | (simp only [yly, ymy]; rfl)) ?_; (with_reducible refine (laws_szTriangulation.calls k _ _ l0_0 1048576 t102 _ ?side1 ?side2 A2.out).mono ?_); (case side1 => repeat (first | exact (Kd.C_below HR0_0.out HB.out) | (with_reducible refine Kd.C_alloc ?_ _) | (with_reducible refine Kd.C_drewN ?_ _) | (with_reducible refine Kd.C_drew ?_))); (case side2 => exact HC0_0.out); rintro e w6 ⟨rfl, hb⟩; refine ⟨_, rfl, ?_⟩; have n0_ := Aside0.mk (blk_below (g := gb101) (o := .cells #[.slice A0_0 l0_0.length c0_0] 24 (0, 0)) (by (with_reducible repeat (first | refine blk_drewN ?_ _ | refine blk_drew ?_ | refine blk_alloc ?_ _)); exact BK101.out) hb); have n1_ := Aside0.mk (below_step (by repeat (first | (with_reducible first | exact HB.out | apply below_alloc | apply pw_below_drewN | apply below_drew1 | refine below_set ?_ GE101.out) | exact HB.out)) hb); clear BK101; clear HB; have BK101 := n0_; have HB := n1_; clear n0_ n1_; (try clear hb); (try clear hb2); (try clear hk); (try clear hi)))
  go_ret
  exact ⟨by first | rfl | (simp [errW_none, errW_some] <;> rfl) | (simp [*, errW_none, errW_some] <;> rfl), by repeat (first | (with_reducible first | exact HB.out | apply below_alloc | apply pw_below_drewN | apply below_drew1 | refine below_set ?_ GE101.out) | exact HB.out)⟩
 next =>
  rw [if_neg c3] at H
  have c3b0 : decide (t102 < 0) = false := yhy c3
  clear c3
  replace H := ydy.mp H
  obtain ⟨t103, A70, H⟩ := H
  replace H : ((spec_OrbitSize.f k t103).bind fun bt106 => ((laws_toTriangulation.f k l0_0).bind fun t108 => ((impl_OrbitSize.f k t108).bind fun bt112 => (if bt112.1 = bt106.1 then (laws_FnExactOrbitSize.j0 k (bt112.2 != bt106.2) l0_0 t108) else (laws_FnExactOrbitSize.j0 k true l0_0 t108))))) = some r := H
  have A7 := Aside0.mk A70
  clear A70
  replace H := ydy.mp H
  obtain ⟨⟨t106, t107⟩, A80, H⟩ := H
  replace H : ((laws_toTriangulation.f k l0_0).bind fun t108 => ((impl_OrbitSize.f k t108).bind fun bt112 => (if bt112.1 = t106 then (laws_FnExactOrbitSize.j0 k (bt112.2 != t107) l0_0 t108) else (laws_FnExactOrbitSize.j0 k true l0_0 t108)))) = some r := H
  have A8 := Aside0.mk A80
  clear A80
  replace H := ydy.mp H
  obtain ⟨t108, A90, H⟩ := H
  replace H : ((impl_OrbitSize.f k t108).bind fun bt112 => (if bt112.1 = t106 then (laws_FnExactOrbitSize.j0 k (bt112.2 != t107) l0_0 t108) else (laws_FnExactOrbitSize.j0 k true l0_0 t108))) = some r := H
  have A9 := Aside0.mk A90
  clear A90
  replace H := ydy.mp H
  obtain ⟨⟨t112, t113⟩, A100, H⟩ := H
  replace H : (if t112 = t106 then (laws_FnExactOrbitSize.j0 k (t113 != t107) l0_0 t108) else (laws_FnExactOrbitSize.j0 k true l0_0 t108)) = some r := H
  have A10 := Aside0.mk A100
  clear A100
  have HC11 := Aside0.mk H
  clear H
  go_enter Try.func3, Try.ntmps3
  go_upto_region 8 with (first | ((with_reducible refine gate_dst (N := 1) rfl ?_); refine box_event ?hg (N := 1) ?hd (cs := #[.slice A0_0 l0_0.length c0_0]) (t := 24) ?hr ?_; (case hd => rfl); (case hg => rfl); (case hr => first | (go_simp; done) | (go_simp; rfl)); intro gb101 hg w12 hbox hb; have n0_ := Aside0.mk (below_step (by repeat (first | (with_reducible first | exact HB.out | apply below_alloc | apply pw_below_drewN | apply below_drew1) | exact HB.out)) hb); have n1_ := Aside0.mk (hbox); have n2_ := Aside0.mk ((by rw [hg]; exact (below_size (by repeat (first | (with_reducible first | exact HB.out | apply below_alloc | apply pw_below_drewN | apply below_drew1) | exact HB.out))) : w.heap.size ≤ gb101)); have n3_ := Aside0.mk ((by rw [hg]; exact (below_size (by repeat (first | (with_reducible first | exact HB.out | apply below_alloc | apply pw_below_drewN | apply below_drew1) | exact HB.out))) : w.heap.size ≤ gb101)); clear HB; have HB := n0_; have BK101 := n1_; have GW101 := n2_; have GE101 := n3_; clear n0_ n1_ n2_ n3_; clear hb hbox hg; have hcz13_0 : w12.cell? ⟨gb101, 0, none⟩ = some (.slice A0_0 l0_0.length c0_0) := (blk_cell BK101.out 0).trans rfl; have hfz13_0 := blk_frozen BK101.out 0) | ((with_reducible refine gate_callee (f := 5) rfl ?_); refine goesL_ (some 11) rfl rfl Try.func5 (by kernel_rfl) rfl #[.agg #[.slice A0_0 l0_0.length c0_0], .int .i64 1048576] rfl (by (try simp only [yiy, yjy, yky]); first | done | rfl | (simp only [yly, ymy]; rfl)) ?_; (with_reducible refine (laws_szTriangulation.calls k _ _ l0_0 1048576 t102 _ ?side1 ?side2 A2.out).mono ?_); (case side1 => repeat (first | exact (Kd.C_below HR0_0.out HB.out) | (with_reducible refine Kd.C_alloc ?_ _) | (with_reducible refine Kd.C_drewN ?_ _) | (with_reducible refine Kd.C_drew ?_))); (case side2 => exact HC0_0.out); rintro e w14 ⟨rfl, hb⟩; refine ⟨_, rfl, ?_⟩; have n0_ := Aside0.mk (blk_below (g := gb101) (o := .cells #[.slice A0_0 l0_0.length c0_0] 24 (0, 0)) (by (with_reducible repeat (first | refine blk_drewN ?_ _ | refine blk_drew ?_ | refine blk_alloc ?_ _)); exact BK101.out) hb); have n1_ := Aside0.mk (below_step (by repeat (first | (with_reducible first | exact HB.out | apply below_alloc | apply pw_below_drewN | apply below_drew1 | refine below_set ?_ GE101.out) | exact HB.out)) hb); clear BK101; clear HB; have BK101 := n0_; have HB := n1_; clear n0_ n1_; (try clear hb); (try clear hb2); (try clear hk); (try clear hi); have hcz15_0 : w14.cell? ⟨gb101, 0, none⟩ = some (.slice A0_0 l0_0.length c0_0) := (blk_cell BK101.out 0).trans rfl; have hfz15_0 := blk_frozen BK101.out 0) | ((with_reducible refine gate_callee (f := 7) rfl ?_); refine goesL_ (some 16) rfl rfl Try.func7 (by kernel_rfl) rfl #[.agg #[.slice A0_0 l0_0.length c0_0]] rfl (by (try simp only [yiy, yjy, yky]); first | done | rfl | (simp only [yly, ymy]; rfl)) ?_; (with_reducible refine (laws_toTriangulation.calls k _ _ l0_0 t103 _ ?side1 ?side2 A7.out).mono ?_); (case side1 => repeat (first | exact (Kd.C_below HR0_0.out HB.out) | (with_reducible refine Kd.C_alloc ?_ _) | (with_reducible refine Kd.C_drewN ?_ _) | (with_reducible refine Kd.C_drew ?_))); (case side2 => exact HC0_0.out); rintro e w16 ⟨v104, rfl, ho0, hb⟩; refine ⟨_, rfl, ?_⟩; have n0_ := Aside0.mk (Kd.S_lower ho0 (below_size (by repeat (first | (with_reducible first | exact HB.out | apply below_alloc | apply pw_below_drewN | apply below_drew1 | refine below_set ?_ GE101.out) | exact HB.out)))); have n1_ := Aside0.mk (blk_below (g := gb101) (o := .cells #[.slice A0_0 l0_0.length c0_0] 24 (0, 0)) (by (with_reducible repeat (first | refine blk_drewN ?_ _ | refine blk_drew ?_ | refine blk_alloc ?_ _)); exact BK101.out) hb); have n2_ := Aside0.mk (below_step (by repeat (first | (with_reducible first | exact HB.out | apply below_alloc | apply pw_below_drewN | apply below_drew1 | refine below_set ?_ GE101.out) | exact HB.out)) hb); clear BK101; clear HB; have HO105 := n0_; have BK101 := n1_; have HB := n2_; clear n0_ n1_ n2_; (try clear hb); (try clear hb2); (try clear hk); (try clear hi); (try clear ho0); obtain ⟨Ao17, co17, eo17⟩ := Kd.S_slice HO105.out; subst eo17) | ((with_reducible refine gate_callee (f := 6) rfl ?_); refine goesL_ (some 17) rfl rfl Try.func6 (by kernel_rfl) rfl #[.agg #[.slice Ao17 t103.length co17]] rfl (by (try simp only [yiy, yjy, yky]); first | done | rfl | (simp only [yly, ymy]; rfl)) ?_; (with_reducible refine (spec_OrbitSize.calls k _ _ t103 t106 t107 _ ?side1 ?side2 A8.out).mono ?_); (case side1 => repeat (first | exact (Kd.S_reads' HO105.out).2.2 | (with_reducible refine Kd.C_alloc ?_ _) | (with_reducible refine Kd.C_drewN ?_ _) | (with_reducible refine Kd.C_drew ?_))); (case side2 => exact (Kd.S_reads' HO105.out).2.1); rintro e w18 ⟨rfl, hb⟩; refine ⟨_, rfl, ?_⟩; have n0_ := Aside0.mk (Kd.S_below (by (with_reducible repeat (first | apply Kd.S_alloc | apply Kd.S_drewN | apply Kd.S_drew)); exact HO105.out) hb); have n1_ := Aside0.mk (blk_below (g := gb101) (o := .cells #[.slice A0_0 l0_0.length c0_0] 24 (0, 0)) (by (with_reducible repeat (first | refine blk_drewN ?_ _ | refine blk_drew ?_ | refine blk_alloc ?_ _)); exact BK101.out) hb); have n2_ := Aside0.mk (below_step (by repeat (first | (with_reducible first | exact HB.out | apply below_alloc | apply pw_below_drewN | apply below_drew1 | refine below_set ?_ GE101.out) | exact HB.out)) hb); clear HO105; clear BK101; clear HB; have HO105 := n0_; have BK101 := n1_; have HB := n2_; clear n0_ n1_ n2_; (try clear hb); (try clear hb2); (try clear hk); (try clear hi); have hcz19_0 : w18.cell? ⟨gb101, 0, none⟩ = some (.slice A0_0 l0_0.length c0_0) := (blk_cell BK101.out 0).trans rfl; have hfz19_0 := blk_frozen BK101.out 0) | ((with_reducible refine gate_callee (f := 7) rfl ?_); refine goesL_ (some 21) rfl rfl Try.func7 (by kernel_rfl) rfl #[.agg #[.slice A0_0 l0_0.length c0_0]] rfl (by (try simp only [yiy, yjy, yky]); first | done | rfl | (simp only [yly, ymy]; rfl)) ?_; (with_reducible refine (laws_toTriangulation.calls k _ _ l0_0 t108 _ ?side1 ?side2 A9.out).mono ?_); (case side1 => repeat (first | exact (Kd.C_below HR0_0.out HB.out) | (with_reducible refine Kd.C_alloc ?_ _) | (with_reducible refine Kd.C_drewN ?_ _) | (with_reducible refine Kd.C_drew ?_))); (case side2 => exact HC0_0.out); rintro e w20 ⟨v109, rfl, ho0, hb⟩; refine ⟨_, rfl, ?_⟩; have n0_ := Aside0.mk (Kd.S_elder' (by (with_reducible repeat (first | apply Kd.S_alloc | apply Kd.S_drewN | apply Kd.S_drew)); exact HO105.out) (Kd.S_base ho0) hb); have n1_ := Aside0.mk (Kd.S_lower (Kd.S_new' ho0 (Kd.S_lt (by (with_reducible repeat (first | apply Kd.S_alloc | apply Kd.S_drewN | apply Kd.S_drew)); exact HO105.out))) (below_size (by repeat (first | (with_reducible first | exact HB.out | apply below_alloc | apply pw_below_drewN | apply below_drew1 | refine below_set ?_ GE101.out) | exact HB.out)))); have n2_ := Aside0.mk (blk_below (g := gb101) (o := .cells #[.slice A0_0 l0_0.length c0_0] 24 (0, 0)) (by (with_reducible repeat (first | refine blk_drewN ?_ _ | refine blk_drew ?_ | refine blk_alloc ?_ _)); exact BK101.out) hb); have n3_ := Aside0.mk (below_step (by repeat (first | (with_reducible first | exact HB.out | apply below_alloc | apply pw_below_drewN | apply below_drew1 | refine below_set ?_ GE101.out) | exact HB.out)) hb); clear HO105; clear BK101; clear HB; have HO105 := n0_; have HO110 := n1_; have BK101 := n2_; have HB := n3_; clear n0_ n1_ n2_ n3_; (try clear hb); (try clear hb2); (try clear hk); (try clear hi); (try clear ho0)) | ((with_reducible refine gate_dst (N := 6) rfl ?_); refine box_event ?hg (N := 6) ?hd (cs := #[.slice none 0 0]) (t := 30) ?hr ?_; (case hd => rfl); (case hg => rfl); (case hr => first | (go_simp; done) | (go_simp; rfl)); intro gb111 hg w21 hbox hb; have n0_ := Aside0.mk (Kd.S_below (by (with_reducible repeat (first | apply Kd.S_alloc | apply Kd.S_drewN | apply Kd.S_drew)); exact HO105.out) hb); have n1_ := Aside0.mk (Kd.S_below (by (with_reducible repeat (first | apply Kd.S_alloc | apply Kd.S_drewN | apply Kd.S_drew)); exact HO110.out) hb); have n2_ := Aside0.mk (blk_below (g := gb101) (o := .cells #[.slice A0_0 l0_0.length c0_0] 24 (0, 0)) (by (with_reducible repeat (first | refine blk_drewN ?_ _ | refine blk_drew ?_ | refine blk_alloc ?_ _)); exact BK101.out) hb); have n3_ := Aside0.mk (below_step (by repeat (first | (with_reducible first | exact HB.out | apply below_alloc | apply pw_below_drewN | apply below_drew1 | refine below_set ?_ GE101.out) | exact HB.out)) hb); have n4_ := Aside0.mk (hbox); have n5_ := Aside0.mk ((by rw [hg]; exact (below_size (by repeat (first | (with_reducible first | exact HB.out | apply below_alloc | apply pw_below_drewN | apply below_drew1 | refine below_set ?_ GE101.out) | exact HB.out))) : w.heap.size ≤ gb111)); have n6_ := Aside0.mk ((by rw [hg]; exact (below_size (by repeat (first | (with_reducible first | exact HB.out | apply below_alloc | apply pw_below_drewN | apply below_drew1 | refine below_set ?_ GE101.out) | exact HB.out))) : w.heap.size ≤ gb111)); have n7_ := Aside0.mk ((by rw [hg]; exact Nat.ne_of_lt (blk_lt (g := gb101) (o := .cells #[.slice A0_0 l0_0.length c0_0] 24 (0, 0)) (by (with_reducible repeat (first | refine blk_drewN ?_ _ | refine blk_drew ?_ | refine blk_alloc ?_ _)); exact BK101.out)) : gb101 ≠ gb111)); have n8_ := Aside0.mk ((by rw [hg]; exact Nat.ne_of_gt (blk_lt (g := gb101) (o := .cells #[.slice A0_0 l0_0.length c0_0] 24 (0, 0)) (by (with_reducible repeat (first | refine blk_drewN ?_ _ | refine blk_drew ?_ | refine blk_alloc ?_ _)); exact BK101.out)) : gb111 ≠ gb101)); clear HO105; clear HO110; clear BK101; clear HB; have HO105 := n0_; have HO110 := n1_; have BK101 := n2_; have HB := n3_; have BK111 := n4_; have GW111 := n5_; have GE111 := n6_; have NB101_111 := n7_; have NB111_101 := n8_; clear n0_ n1_ n2_ n3_ n4_ n5_ n6_ n7_ n8_; clear hb hbox hg; obtain ⟨Ao22, co22, eo22⟩ := Kd.S_slice HO110.out; subst eo22; have hnb23 := NB111_101.out; have hnc23 := NB101_111.out; have hcz24_0 : w21.cell? ⟨gb111, 0, none⟩ = some (.slice none 0 0) := (blk_cell BK111.out 0).trans rfl; have hfz24_0 := blk_frozen BK111.out 0) | ((with_reducible refine gate_callee (f := 8) rfl ?_); refine goesL_ (some 24) rfl rfl Try.func8 (by kernel_rfl) rfl #[.agg #[.slice Ao22 t108.length co22]] rfl (by (try simp only [yiy, yjy, yky]); first | done | rfl | (simp only [yly, ymy]; rfl)) ?_; (with_reducible refine (impl_OrbitSize.calls k _ _ t108 t112 t113 _ ?side1 ?side2 A10.out).mono ?_); (case side1 => refine (Kd.S_reads' (e := 45) (base := w.heap.size) (ok := fun k_ => (True ∧ some k_ ≠ (.slice Ao17 t103.length co17 : Value).ownBlock)) (n := t108.length) (c := co22) ?_).2.2; exact (by (with_reducible repeat (first | apply Kd.S_alloc | apply Kd.S_drewN | apply Kd.S_drew)); exact (Kd.S_mono (Kd.S_far (p := ⟨gb111, 0, none⟩) (Kd.S_types HO110.out BK111.out (by decide)) (fun _ hk => hk.2) (.slice Ao22 t108.length co22)) (fun _ h_ => h_.1)))); (case side2 => exact (Kd.S_reads' HO110.out).2.1); rintro e w25 ⟨rfl, hb⟩; refine ⟨_, rfl, ?_⟩; have n0_ := Aside0.mk (Kd.S_below (by (with_reducible repeat (first | apply Kd.S_alloc | apply Kd.S_drewN | apply Kd.S_drew)); exact (Kd.S_mono (Kd.S_far (p := ⟨gb111, 0, none⟩) (Kd.S_types HO105.out BK111.out (by decide)) (fun _ hk => hk.2) (.slice Ao22 t108.length co22)) (fun _ h_ => h_.1))) hb); have n1_ := Aside0.mk (Kd.S_below (by (with_reducible repeat (first | apply Kd.S_alloc | apply Kd.S_drewN | apply Kd.S_drew)); exact (Kd.S_mono (Kd.S_far (p := ⟨gb111, 0, none⟩) (Kd.S_types HO110.out BK111.out (by decide)) (fun _ hk => hk.2) (.slice Ao22 t108.length co22)) (fun _ h_ => h_.1))) hb); have n2_ := Aside0.mk (blk_below (g := gb101) (o := .cells #[.slice A0_0 l0_0.length c0_0] 24 (0, 0)) (by (with_reducible repeat (first | refine blk_drewN ?_ _ | refine blk_drew ?_ | refine blk_alloc ?_ _)); refine blk_far ?_ NB101_111.out _; (with_reducible repeat (first | refine blk_drewN ?_ _ | refine blk_drew ?_ | refine blk_alloc ?_ _)); exact BK101.out) hb); have n3_ := Aside0.mk (blk_below (g := gb111) (o := .cells #[.slice Ao22 t108.length co22] 30 (0, 0)) (by (with_reducible repeat (first | refine blk_drewN ?_ _ | refine blk_drew ?_ | refine blk_alloc ?_ _)); refine blk_put (cs := #[.slice none 0 0]) ?_ 0 _ rfl; (with_reducible repeat (first | refine blk_drewN ?_ _ | refine blk_drew ?_ | refine blk_alloc ?_ _)); exact BK111.out) hb); have n4_ := Aside0.mk (below_step (by repeat (first | (with_reducible first | exact HB.out | apply below_alloc | apply pw_below_drewN | apply below_drew1 | refine below_set ?_ GE101.out | refine below_set ?_ GE111.out) | exact HB.out)) hb); clear HO105; clear HO110; clear BK101; clear BK111; clear HB; have HO105 := n0_; have HO110 := n1_; have BK101 := n2_; have BK111 := n3_; have HB := n4_; clear n0_ n1_ n2_ n3_ n4_; (try clear hb); (try clear hb2); (try clear hk); (try clear hi)))
  (try simp only [Act.put, yay, yby, ycy])
  go_cut [34] (fun v34 wc => ∃ (kq : Nat) (x34_10 : Bool), v34 = .bool x34_10 ∧ Aside0 (laws_FnExactOrbitSize.j0 kq x34_10 l0_0 t108 = some r) ∧ Aside0 (kq ≤ k) ∧ Aside0 (Kd.S (Kd.slice 56 kFace) 45 wc w.heap.size (fun _ => True) (.slice Ao22 t108.length co22) t108) ∧ Aside0 (wc.heap[gb101]? = some (.cells #[(.slice A0_0 l0_0.length c0_0)] 24 (0, 0))) ∧ Aside0 (wc.heap[gb111]? = some (.cells #[(.slice Ao22 t108.length co22)] 30 (0, 0))) ∧ Aside0 (Below w.heap.size w wc))
  case first =>
   have H := HC11.out
   clear HC11
   by_cases c26 : t112 = t106
   rotate_left
   next =>
    rw [if_neg c26] at H
    have c26b0 : (t112 == t106) = false := beq_eq_false_iff_ne.mpr c26
    have c26b1 : (t112 != t106) = true := bne_iff_ne.mpr c26
    (first | rw [c26b0] | (simp only [i64_w, i32_w]; rw [c26b0]) | skip)
    have H' := Aside0.mk H
    clear H
    go_wp2
    go_meet
    case rel => exact ⟨_, (true), (by first | rfl | (simp; done) | (simp [*]; done)), H', ⟨by first | omega | exact yoy _⟩, ⟨by (with_reducible repeat (first | apply Kd.S_alloc | apply Kd.S_drewN | apply Kd.S_drew)); exact Kd.S_mono HO110.out (fun _ hk => trivial)⟩, ⟨by (with_reducible repeat (first | refine blk_drewN ?_ _ | refine blk_drew ?_ | refine blk_alloc ?_ _)); exact BK101.out⟩, ⟨by (with_reducible repeat (first | refine blk_drewN ?_ _ | refine blk_drew ?_ | refine blk_alloc ?_ _)); exact BK111.out⟩, ⟨by repeat (first | (with_reducible first | exact HB.out | apply below_alloc | apply pw_below_drewN | apply below_drew1 | refine below_set ?_ GE101.out | refine below_set ?_ GE111.out) | exact HB.out)⟩⟩
   rw [if_pos c26] at H
   have c26b0 : (t112 == t106) = true := beq_iff_eq.mpr c26
   have c26b1 : (t112 != t106) = false := bne_eq_false_iff_eq.mpr c26
   clear c26
   (first | rw [c26b0] | (simp only [i64_w, i32_w]; rw [c26b0]) | skip)
   have H' := Aside0.mk H
   clear H
   go_wp2
   go_meet
   case rel => exact ⟨_, ((t113 != t107)), (by first | rfl | (simp; done) | (simp [*]; done)), H', ⟨by first | omega | exact yoy _⟩, ⟨by (with_reducible repeat (first | apply Kd.S_alloc | apply Kd.S_drewN | apply Kd.S_drew)); exact Kd.S_mono HO110.out (fun _ hk => trivial)⟩, ⟨by (with_reducible repeat (first | refine blk_drewN ?_ _ | refine blk_drew ?_ | refine blk_alloc ?_ _)); exact BK101.out⟩, ⟨by (with_reducible repeat (first | refine blk_drewN ?_ _ | refine blk_drew ?_ | refine blk_alloc ?_ _)); exact BK111.out⟩, ⟨by repeat (first | (with_reducible first | exact HB.out | apply below_alloc | apply pw_below_drewN | apply below_drew1 | refine below_set ?_ GE101.out | refine below_set ?_ GE111.out) | exact HB.out)⟩⟩
  case rest =>
   clear HC11
   try clear c2
   try clear p2
   try clear c3
   try clear c3b0
   try clear c5
   try clear c6
   try clear c7
   try clear c8
   try clear c23
   try clear c26
   try clear c26b0
   try clear c26b1
   try clear hcz13_0
   try clear hcz15_0
   try clear hcz19_0
   try clear hcz24_0
   try clear hcz5_0
   try clear hfz13_0
   try clear hfz15_0
   try clear hfz19_0
   try clear hfz24_0
   try clear hfz5_0
   obtain ⟨kq, x34_10, rfl, HA, HJ10, HO_112000, BK101, BK111, HB⟩ := hcut
   cases kq with
   | zero => exact absurd HA.out (by simp [laws_FnExactOrbitSize.j0])
   | succ kj10 =>
    have H := HA.out
    clear HA
    simp only [laws_FnExactOrbitSize.j0] at H
    by_cases c27 : x34_10 = true
    next =>
     subst c27
     have H1 : (some false) = some r := by rw [if_pos rfl] at H; exact H
     clear H
     have H := H1
     clear H1
     obtain rfl := yey H
     go_wp2
     go_ret
     exact ⟨by first | rfl | (simp [errW_none, errW_some] <;> rfl) | (simp [*, errW_none, errW_some] <;> rfl), by repeat (first | (with_reducible first | exact HB.out | apply below_alloc | apply pw_below_drewN | apply below_drew1 | refine below_set ?_ GE101.out | refine below_set ?_ GE111.out) | exact HB.out)⟩
    next =>
     replace c27 := Bool.eq_false_iff.mpr c27
     subst c27
     have H1 : ((laws_toTriangulation.f kj10 l0_0).bind fun t114 => ((laws_eqTriangulation.f kj10 t108 t114).bind fun t117 => (if t117 = true then (some true) else (some false)))) = some r := by rw [if_neg (show ¬ (false = true) by decide)] at H; exact H
     clear H
     have H := H1
     clear H1
     replace H := ydy.mp H
     obtain ⟨t114, A280, H⟩ := H
     replace H : ((laws_eqTriangulation.f kj10 t108 t114).bind fun t117 => (if t117 = true then (some true) else (some false))) = some r := H
     have A28 := Aside0.mk A280
     clear A280
     replace H := ydy.mp H
     obtain ⟨t117, A290, H⟩ := H
     replace H : (if t117 = true then (some true) else (some false)) = some r := H
     have A29 := Aside0.mk A290
     clear A290
     by_cases c30 : t117 = true
     next =>
      subst c30
      have H1 : (some true) = some r := by rw [if_pos rfl] at H; exact H
      clear H
      have H := H1
      clear H1
      obtain rfl := yey H
      try go_wp2
      have n0_ := Aside0.mk (Kd.S_drew HO_112000.out)
      have n1_ := Aside0.mk (blk_drew BK101.out)
      have n2_ := Aside0.mk (blk_drew BK111.out)
      have n3_ := Aside0.mk (below_drew1 HB.out)
      clear HO_112000
      clear BK101
      clear BK111
      clear HB
      have HO_112000 := n0_
      have BK101 := n1_
      have BK111 := n2_
      have HB := n3_
      clear n0_ n1_ n2_ n3_
      refine start_ (n := 5) (S := fun w' => w'.cell? ⟨gb111, 0, none⟩ = some (.slice Ao22 t108.length co22) ∧ w'.cell? ⟨gb101, 0, none⟩ = some (.slice A0_0 l0_0.length c0_0)) (ds := []) #[false, false, false, false, false] (by kernel_rfl) rfl rfl ⟨(blk_cell BK111.out 0).trans rfl, (blk_cell BK101.out 0).trans rfl⟩ (fun hHeld => ?_)
      generalize wc.drew = w31 at HO_112000 BK101 BK111 HB hHeld ⊢
      refine take_ (i := 0) (N := some 35) (v := ?_) (a' := ?_) #[true, false, false, false, false] rfl rfl (by kernel_rfl) (fun _ _ _ h => h) (Or.inl ⟨by rfl, ?_⟩) hHeld ?_ ?_
      rotate_left
      next =>
       rintro w' ⟨s0, s1⟩
       go_simp
       with_reducible rfl
      rotate_left
      next =>
       simp only [Act.put, yay, yby, ycy, i64_w, i32_w]
       rfl
      refine take_ (i := 1) (N := some 36) (v := ?_) (a' := ?_) #[true, true, false, false, false] rfl rfl (by kernel_rfl) (fun _ _ _ h => h) (Or.inl ⟨by rfl, ?_⟩) hHeld ?_ ?_
      rotate_left
      next =>
       rintro w' ⟨s0, s1⟩
       go_simp
       with_reducible rfl
      rotate_left
      next =>
       simp only [Act.put, yay, yby, ycy, i64_w, i32_w]
       rfl
      refine one_ (i := 2) (N := some 37) #[true, true, true, false, false] rfl rfl (by kernel_rfl) (by decide) (fun K hK => ?_)
      refine goes_ Try.func7 (by kernel_rfl) rfl #[.agg #[.slice A0_0 l0_0.length c0_0]] (by rfl) rfl rfl (by (try simp only [yiy, yjy, yky]); first | done | rfl | (simp only [yly, ymy]; rfl)) ?_
      with_reducible refine (laws_toTriangulation.calls kj10 _ _ l0_0 t114 _ ?side1 ?side2 A28.out).mono ?_
      (case side1 => repeat (first | exact (Kd.C_below HR0_0.out HB.out) | (with_reducible refine Kd.C_alloc ?_ _) | (with_reducible refine Kd.C_drewN ?_ _) | (with_reducible refine Kd.C_drew ?_)))
      (case side2 => exact HC0_0.out)
      rintro e w32 ⟨v115, rfl, ho0, hb⟩
      refine ⟨_, rfl, ?_⟩
      have n0_ := Aside0.mk (Kd.S_elder' (by (with_reducible repeat (first | apply Kd.S_alloc | apply Kd.S_drewN | apply Kd.S_drew)); exact HO_112000.out) (Kd.S_base ho0) hb)
      have n1_ := Aside0.mk (Kd.S_lower (Kd.S_new' ho0 (Kd.S_lt (by (with_reducible repeat (first | apply Kd.S_alloc | apply Kd.S_drewN | apply Kd.S_drew)); exact HO_112000.out))) (below_size (by repeat (first | (with_reducible first | exact HB.out | apply below_alloc | apply pw_below_drewN | apply below_drew1 | refine below_set ?_ GE101.out | refine below_set ?_ GE111.out) | exact HB.out))))
      have n2_ := Aside0.mk (blk_below (g := gb101) (o := .cells #[.slice A0_0 l0_0.length c0_0] 24 (0, 0)) (by (with_reducible repeat (first | refine blk_drewN ?_ _ | refine blk_drew ?_ | refine blk_alloc ?_ _)); exact BK101.out) hb)
      have n3_ := Aside0.mk (blk_below (g := gb111) (o := .cells #[.slice Ao22 t108.length co22] 30 (0, 0)) (by (with_reducible repeat (first | refine blk_drewN ?_ _ | refine blk_drew ?_ | refine blk_alloc ?_ _)); exact BK111.out) hb)
      have n4_ := Aside0.mk (below_step (by repeat (first | (with_reducible first | exact HB.out | apply below_alloc | apply pw_below_drewN | apply below_drew1 | refine below_set ?_ GE101.out | refine below_set ?_ GE111.out) | exact HB.out)) hb)
      clear HO_112000
      clear BK101
      clear BK111
      clear HB
      have HO_112000 := n0_
      have HO116 := n1_
      have BK101 := n2_
      have BK111 := n3_
      have HB := n4_
      clear n0_ n1_ n2_ n3_ n4_
      (try clear hb)
      (try clear hb2)
      (try clear hk)
      (try clear hi)
      (try clear ho0)
      obtain ⟨Ao33, co33, eo33⟩ := Kd.S_slice HO116.out
      (first | subst eo33 | (injection eo33 with f1_ f2_ f3_; have f4_ := f1_.symm; have f5_ := f3_.symm; clear f1_ f2_ f3_; subst f4_; subst f5_))
      refine hK.out _ _ ⟨(blk_cell BK111.out 0).trans rfl, (blk_cell BK101.out 0).trans rfl⟩ (fun hHeld => ?_)
      clear hK K
      refine norm_ (a' := ?_) ?_ ?_
      rotate_left
      next =>
       show Act.put _ (some 37) _ = _
       simp only [Act.put, yay, yby, ycy, i64_w, i32_w]
       rfl
      refine one_ (i := 3) (N := some 38) #[true, true, true, true, false] rfl rfl (by kernel_rfl) (by decide) (fun K hK => ?_)
      refine goes_ Try.func9 (by kernel_rfl) rfl #[.agg #[.slice Ao22 t108.length co22], .agg #[.slice Ao33 t114.length co33]] (by rfl) rfl rfl (by (try simp only [yiy, yjy, yky]); first | done | rfl | (simp only [yly, ymy]; rfl)) ?_
      with_reducible refine (laws_eqTriangulation.calls kj10 _ _ t108 _ _ t114 true _ ?side1 ?side2 ?side3 ?side4 A29.out).mono ?_
      (case side1 => repeat (first | exact (Kd.S_reads' HO_112000.out).2.2 | (with_reducible refine Kd.C_alloc ?_ _) | (with_reducible refine Kd.C_drewN ?_ _) | (with_reducible refine Kd.C_drew ?_)))
      (case side2 => exact (Kd.S_reads' HO_112000.out).2.1)
      (case side3 => repeat (first | exact (Kd.S_reads' HO116.out).2.2 | (with_reducible refine Kd.C_alloc ?_ _) | (with_reducible refine Kd.C_drewN ?_ _) | (with_reducible refine Kd.C_drew ?_)))
      (case side4 => exact (Kd.S_reads' HO116.out).2.1)
      rintro e w34 ⟨rfl, hb⟩
      refine ⟨_, rfl, ?_⟩
      have n0_ := Aside0.mk (Kd.S_below (by (with_reducible repeat (first | apply Kd.S_alloc | apply Kd.S_drewN | apply Kd.S_drew)); exact HO_112000.out) hb)
      have n1_ := Aside0.mk (Kd.S_below (by (with_reducible repeat (first | apply Kd.S_alloc | apply Kd.S_drewN | apply Kd.S_drew)); exact HO116.out) hb)
      have n2_ := Aside0.mk (blk_below (g := gb101) (o := .cells #[.slice A0_0 l0_0.length c0_0] 24 (0, 0)) (by (with_reducible repeat (first | refine blk_drewN ?_ _ | refine blk_drew ?_ | refine blk_alloc ?_ _)); exact BK101.out) hb)
      have n3_ := Aside0.mk (blk_below (g := gb111) (o := .cells #[.slice Ao22 t108.length co22] 30 (0, 0)) (by (with_reducible repeat (first | refine blk_drewN ?_ _ | refine blk_drew ?_ | refine blk_alloc ?_ _)); exact BK111.out) hb)
      have n4_ := Aside0.mk (below_step (by repeat (first | (with_reducible first | exact HB.out | apply below_alloc | apply pw_below_drewN | apply below_drew1 | refine below_set ?_ GE101.out | refine below_set ?_ GE111.out) | exact HB.out)) hb)
      clear HO_112000
      clear HO116
      clear BK101
      clear BK111
      clear HB
      have HO_112000 := n0_
      have HO116 := n1_
      have BK101 := n2_
      have BK111 := n3_
      have HB := n4_
      clear n0_ n1_ n2_ n3_ n4_
      (try clear hb)
      (try clear hb2)
      (try clear hk)
      (try clear hi)
      refine hK.out _ _ ⟨(blk_cell BK111.out 0).trans rfl, (blk_cell BK101.out 0).trans rfl⟩ (fun hHeld => ?_)
      clear hK K
      refine norm_ (a' := ?_) ?_ ?_
      rotate_left
      next =>
       show Act.put _ (some 38) _ = _
       simp only [Act.put, yay, yby, ycy, i64_w, i32_w]
       rfl
      refine pure_ (i := 4) (N := some 39) (v := ?_) (a' := ?_) #[true, true, true, true, true] rfl rfl (by kernel_rfl) (fun _ _ _ h => h) (Or.inl ⟨by rfl, ?_⟩) ?_ ?_
      rotate_left
      next =>
       intro w'
       go_simp
       with_reducible rfl
      rotate_left
      next =>
       simp only [Act.put, yay, yby, ycy, i64_w, i32_w]
       rfl
      refine done_ (by kernel_rfl) ?_
      try go_wp2
      go_ret
      exact ⟨by first | rfl | (simp [errW_none, errW_some] <;> rfl) | (simp [*, errW_none, errW_some] <;> rfl), by repeat (first | (with_reducible first | exact HB.out | apply below_alloc | apply pw_below_drewN | apply below_drew1 | refine below_set ?_ GE101.out | refine below_set ?_ GE111.out) | exact HB.out)⟩
     next =>
      replace c30 := Bool.eq_false_iff.mpr c30
      subst c30
      have H1 : (some false) = some r := by rw [if_neg (show ¬ (false = true) by decide)] at H; exact H
      clear H
      have H := H1
      clear H1
      obtain rfl := yey H
      try go_wp2
      have n0_ := Aside0.mk (Kd.S_drew HO_112000.out)
      have n1_ := Aside0.mk (blk_drew BK101.out)
      have n2_ := Aside0.mk (blk_drew BK111.out)
      have n3_ := Aside0.mk (below_drew1 HB.out)
      clear HO_112000
      clear BK101
      clear BK111
      clear HB
      have HO_112000 := n0_
      have BK101 := n1_
      have BK111 := n2_
      have HB := n3_
      clear n0_ n1_ n2_ n3_
      refine start_ (n := 5) (S := fun w' => w'.cell? ⟨gb111, 0, none⟩ = some (.slice Ao22 t108.length co22) ∧ w'.cell? ⟨gb101, 0, none⟩ = some (.slice A0_0 l0_0.length c0_0)) (ds := []) #[false, false, false, false, false] (by kernel_rfl) rfl rfl ⟨(blk_cell BK111.out 0).trans rfl, (blk_cell BK101.out 0).trans rfl⟩ (fun hHeld => ?_)
      generalize wc.drew = w35 at HO_112000 BK101 BK111 HB hHeld ⊢
      refine take_ (i := 0) (N := some 35) (v := ?_) (a' := ?_) #[true, false, false, false, false] rfl rfl (by kernel_rfl) (fun _ _ _ h => h) (Or.inl ⟨by rfl, ?_⟩) hHeld ?_ ?_
      rotate_left
      next =>
       rintro w' ⟨s0, s1⟩
       go_simp
       with_reducible rfl
      rotate_left
      next =>
       simp only [Act.put, yay, yby, ycy, i64_w, i32_w]
       rfl
      refine take_ (i := 1) (N := some 36) (v := ?_) (a' := ?_) #[true, true, false, false, false] rfl rfl (by kernel_rfl) (fun _ _ _ h => h) (Or.inl ⟨by rfl, ?_⟩) hHeld ?_ ?_
      rotate_left
      next =>
       rintro w' ⟨s0, s1⟩
       go_simp
       with_reducible rfl
      rotate_left
      next =>
       simp only [Act.put, yay, yby, ycy, i64_w, i32_w]
       rfl
      refine one_ (i := 2) (N := some 37) #[true, true, true, false, false] rfl rfl (by kernel_rfl) (by decide) (fun K hK => ?_)
      refine goes_ Try.func7 (by kernel_rfl) rfl #[.agg #[.slice A0_0 l0_0.length c0_0]] (by rfl) rfl rfl (by (try simp only [yiy, yjy, yky]); first | done | rfl | (simp only [yly, ymy]; rfl)) ?_
      with_reducible refine (laws_toTriangulation.calls kj10 _ _ l0_0 t114 _ ?side1 ?side2 A28.out).mono ?_
      (case side1 => repeat (first | exact (Kd.C_below HR0_0.out HB.out) | (with_reducible refine Kd.C_alloc ?_ _) | (with_reducible refine Kd.C_drewN ?_ _) | (with_reducible refine Kd.C_drew ?_)))
      (case side2 => exact HC0_0.out)
      rintro e w36 ⟨v115, rfl, ho0, hb⟩
      refine ⟨_, rfl, ?_⟩
      have n0_ := Aside0.mk (Kd.S_elder' (by (with_reducible repeat (first | apply Kd.S_alloc | apply Kd.S_drewN | apply Kd.S_drew)); exact HO_112000.out) (Kd.S_base ho0) hb)
      have n1_ := Aside0.mk (Kd.S_lower (Kd.S_new' ho0 (Kd.S_lt (by (with_reducible repeat (first | apply Kd.S_alloc | apply Kd.S_drewN | apply Kd.S_drew)); exact HO_112000.out))) (below_size (by repeat (first | (with_reducible first | exact HB.out | apply below_alloc | apply pw_below_drewN | apply below_drew1 | refine below_set ?_ GE101.out | refine below_set ?_ GE111.out) | exact HB.out))))
      have n2_ := Aside0.mk (blk_below (g := gb101) (o := .cells #[.slice A0_0 l0_0.length c0_0] 24 (0, 0)) (by (with_reducible repeat (first | refine blk_drewN ?_ _ | refine blk_drew ?_ | refine blk_alloc ?_ _)); exact BK101.out) hb)
      have n3_ := Aside0.mk (blk_below (g := gb111) (o := .cells #[.slice Ao22 t108.length co22] 30 (0, 0)) (by (with_reducible repeat (first | refine blk_drewN ?_ _ | refine blk_drew ?_ | refine blk_alloc ?_ _)); exact BK111.out) hb)
      have n4_ := Aside0.mk (below_step (by repeat (first | (with_reducible first | exact HB.out | apply below_alloc | apply pw_below_drewN | apply below_drew1 | refine below_set ?_ GE101.out | refine below_set ?_ GE111.out) | exact HB.out)) hb)
      clear HO_112000
      clear BK101
      clear BK111
      clear HB
      have HO_112000 := n0_
      have HO116 := n1_
      have BK101 := n2_
      have BK111 := n3_
      have HB := n4_
      clear n0_ n1_ n2_ n3_ n4_
      (try clear hb)
      (try clear hb2)
      (try clear hk)
      (try clear hi)
      (try clear ho0)
      obtain ⟨Ao37, co37, eo37⟩ := Kd.S_slice HO116.out
      (first | subst eo37 | (injection eo37 with f1_ f2_ f3_; have f4_ := f1_.symm; have f5_ := f3_.symm; clear f1_ f2_ f3_; subst f4_; subst f5_))
      refine hK.out _ _ ⟨(blk_cell BK111.out 0).trans rfl, (blk_cell BK101.out 0).trans rfl⟩ (fun hHeld => ?_)
      clear hK K
      refine norm_ (a' := ?_) ?_ ?_
      rotate_left
      next =>
       show Act.put _ (some 37) _ = _
       simp only [Act.put, yay, yby, ycy, i64_w, i32_w]
       rfl
      refine one_ (i := 3) (N := some 38) #[true, true, true, true, false] rfl rfl (by kernel_rfl) (by decide) (fun K hK => ?_)
      refine goes_ Try.func9 (by kernel_rfl) rfl #[.agg #[.slice Ao22 t108.length co22], .agg #[.slice Ao37 t114.length co37]] (by rfl) rfl rfl (by (try simp only [yiy, yjy, yky]); first | done | rfl | (simp only [yly, ymy]; rfl)) ?_
      with_reducible refine (laws_eqTriangulation.calls kj10 _ _ t108 _ _ t114 false _ ?side1 ?side2 ?side3 ?side4 A29.out).mono ?_
      (case side1 => repeat (first | exact (Kd.S_reads' HO_112000.out).2.2 | (with_reducible refine Kd.C_alloc ?_ _) | (with_reducible refine Kd.C_drewN ?_ _) | (with_reducible refine Kd.C_drew ?_)))
      (case side2 => exact (Kd.S_reads' HO_112000.out).2.1)
      (case side3 => repeat (first | exact (Kd.S_reads' HO116.out).2.2 | (with_reducible refine Kd.C_alloc ?_ _) | (with_reducible refine Kd.C_drewN ?_ _) | (with_reducible refine Kd.C_drew ?_)))
      (case side4 => exact (Kd.S_reads' HO116.out).2.1)
      rintro e w38 ⟨rfl, hb⟩
      refine ⟨_, rfl, ?_⟩
      have n0_ := Aside0.mk (Kd.S_below (by (with_reducible repeat (first | apply Kd.S_alloc | apply Kd.S_drewN | apply Kd.S_drew)); exact HO_112000.out) hb)
      have n1_ := Aside0.mk (Kd.S_below (by (with_reducible repeat (first | apply Kd.S_alloc | apply Kd.S_drewN | apply Kd.S_drew)); exact HO116.out) hb)
      have n2_ := Aside0.mk (blk_below (g := gb101) (o := .cells #[.slice A0_0 l0_0.length c0_0] 24 (0, 0)) (by (with_reducible repeat (first | refine blk_drewN ?_ _ | refine blk_drew ?_ | refine blk_alloc ?_ _)); exact BK101.out) hb)
      have n3_ := Aside0.mk (blk_below (g := gb111) (o := .cells #[.slice Ao22 t108.length co22] 30 (0, 0)) (by (with_reducible repeat (first | refine blk_drewN ?_ _ | refine blk_drew ?_ | refine blk_alloc ?_ _)); exact BK111.out) hb)
      have n4_ := Aside0.mk (below_step (by repeat (first | (with_reducible first | exact HB.out | apply below_alloc | apply pw_below_drewN | apply below_drew1 | refine below_set ?_ GE101.out | refine below_set ?_ GE111.out) | exact HB.out)) hb)
      clear HO_112000
      clear HO116
      clear BK101
      clear BK111
      clear HB
      have HO_112000 := n0_
      have HO116 := n1_
      have BK101 := n2_
      have BK111 := n3_
      have HB := n4_
      clear n0_ n1_ n2_ n3_ n4_
      (try clear hb)
      (try clear hb2)
      (try clear hk)
      (try clear hi)
      refine hK.out _ _ ⟨(blk_cell BK111.out 0).trans rfl, (blk_cell BK101.out 0).trans rfl⟩ (fun hHeld => ?_)
      clear hK K
      refine norm_ (a' := ?_) ?_ ?_
      rotate_left
      next =>
       show Act.put _ (some 38) _ = _
       simp only [Act.put, yay, yby, ycy, i64_w, i32_w]
       rfl
      refine pure_ (i := 4) (N := some 39) (v := ?_) (a' := ?_) #[true, true, true, true, true] rfl rfl (by kernel_rfl) (fun _ _ _ h => h) (Or.inl ⟨by rfl, ?_⟩) ?_ ?_
      rotate_left
      next =>
       intro w'
       go_simp
       with_reducible rfl
      rotate_left
      next =>
       simp only [Act.put, yay, yby, ycy, i64_w, i32_w]
       rfl
      refine done_ (by kernel_rfl) ?_
      try go_wp2
      go_ret
      exact ⟨by first | rfl | (simp [errW_none, errW_some] <;> rfl) | (simp [*, errW_none, errW_some] <;> rfl), by repeat (first | (with_reducible first | exact HB.out | apply below_alloc | apply pw_below_drewN | apply below_drew1 | refine below_set ?_ GE101.out | refine below_set ?_ GE111.out) | exact HB.out)⟩
end Go.Proofs.Ytcnemjcmnhlflaa.P
namespace Go.Proofs.Ytcnemjcmnhlflaa.P
open Go.RowKit Go.Proofs.YtcnemjcmnhlflaaW.PrintWords Go.Proofs.Ytcnemjcmnhlflaa.Lib
set_option linter.unusedVariables false
theorem inRange_eq (a b c : Int) : impl_inRange.f a b c = some (decide (b ≤ a) && decide (a ≤ c)) := by
  unfold impl_inRange.f
  by_cases h : b ≤ a <;> simp [h]
theorem l07In_eq (a b c : Int) : spec_l07In.f a b c = some (decide (b ≤ a) && decide (a ≤ c)) := by
  unfold spec_l07In.f
  by_cases h : b ≤ a <;> simp [h]
theorem l06Valid_eq (a : Int) : spec_l06Valid.f a = some (decide (0 ≤ a) && decide (a ≤ 23)) := by
  unfold spec_l06Valid.f
  by_cases h : 0 ≤ a
  · rw [if_pos h]; simp [h]; omega
  · rw [if_neg h]; simp [h]
theorem isPerm_eq (a : Int) : impl_isPerm.f a = some (decide (0 ≤ a) && decide (a ≤ 23)) := by
  unfold impl_isPerm.f; rw [inRange_eq]; rfl
/-- A number that is the index of a permutation. -/
theorem fin_of {p : Int} (h0 : 0 ≤ p) (h1 : p ≤ 23) : ∃ m : Fin 24, p = (m.val : Int) := ⟨⟨p.toNat, by omega⟩, by simp; omega⟩
theorem l06Images_ev {p : Int} (h0 : 0 ≤ p) (h1 : p ≤ 23) : Ev (fun k => spec_l06Images.f k p) (permL p) := by
  obtain ⟨m, rfl⟩ := fin_of h0 h1
  have key : ∀ m : Fin 24, spec_l06Images.f 5 (m.val : Int) = some (permL (m.val : Int)) := by decide +kernel
  exact Ev.of (fun k => spec_l06Images.mono _ k) (key m)
theorem permL_len (p : Int) : (permL p).length = 4 := rfl
theorem permL_sm {p f : Int} (h0 : 0 ≤ p) (h1 : p ≤ 23) (hf0 : 0 ≤ f) (hf1 : f ≤ 3) : 0 ≤ rd (permL p) f ∧ rd (permL p) f ≤ 3 := by
  obtain ⟨a, b, c, d⟩ := permAt_sm p h0 h1
  exact rd_four_sm a b c d f hf0 hf1
theorem l06At_ev {p f : Int} (h0 : 0 ≤ p) (h1 : p ≤ 23) (hf0 : 0 ≤ f) (hf1 : f ≤ 3) : Ev (fun k => spec_l06At.f k p f) (rd (permL p) f) := by
  refine Ev.bind (l06Images_ev h0 h1) ?_
  exact ev_pos hf0 (ev_pos (by rw [permL_len]; omega) (Ev.now _))
theorem l06Back_ev {p : Int} (h0 : 0 ≤ p) (h1 : p ≤ 23) : Ev (fun k => spec_l06Back.f k p) (invP p) := by
  obtain ⟨m, rfl⟩ := fin_of h0 h1
  have key : ∀ m : Fin 24, spec_l06Back.f 40 (m.val : Int) = some (invP (m.val : Int)) := by decide +kernel
  exact Ev.of (fun k => spec_l06Back.mono _ k) (key m)
theorem target_eq {q p f : Int} (h0 : 0 ≤ p) (h1 : p ≤ 23) (hf0 : 0 ≤ f) (hf1 : f ≤ 3) : impl_Face_target.f q p f = some (rd (permL p) f) := if_pos ⟨h0, h1, hf0, hf1⟩
theorem partner_eq {q p a : Int} (h0 : 0 ≤ p) (h1 : p ≤ 23) : impl_Face_partner.f q p a = some (a, invP p) := by
  unfold impl_Face_partner.f impl_invert.f
  rw [if_pos ⟨h0, h1⟩]; rfl
abbrev Tri := List (List SFace)
/-- No list of t is longer than a million. -/
def Small (t : Tri) : Prop := t.length ≤ 1048576 ∧ ∀ r ∈ t, r.length ≤ 1048576
def SmallL (t : List (List SLawFace)) : Prop := t.length ≤ 1048576 ∧ ∀ r ∈ t, r.length ≤ 1048576
def Fits (t : List (List SLawFace)) : Prop := t.length ≤ 9223372036854775807 ∧ ∀ r ∈ t, r.length ≤ 9223372036854775807
theorem rd_LLawFace_lt (t : List (List SLawFace)) (n : Nat) (h : n < t.length) : rd_LLawFace t (n : Int) = t[n] := by simp [rd_LLawFace, h]
theorem rd_LFace_lt (t : Tri) (n : Nat) (h : n < t.length) : rd_LFace t (n : Int) = t[n] := by simp [rd_LFace, h]
theorem rd_LawFace_lt (t : List SLawFace) (n : Nat) (h : n < t.length) : rd_LawFace t (n : Int) = t[n] := by simp [rd_LawFace, h]
theorem rd_Face_lt (t : List SFace) (n : Nat) (h : n < t.length) : rd_Face t (n : Int) = t[n] := by simp [rd_Face, h]
theorem szFaceS_eq (r : List SLawFace) (a : Int) (h0 : 0 ≤ a) (h1 : a ≤ 1048576) (h : r.length ≤ 9223372036854775807) : laws_szFaceS.f r a = some (if a - r.length < 0 then -1 else a - r.length) := by
  unfold laws_szFaceS.f
  rw [wrap_id (by omega) (by omega)]
  split <;> rfl
theorem szFaceSS_ev (t : List (List SLawFace)) (h : Fits t) (hl : t.length ≤ 1048576) : ∃ r, Ev (fun k => laws_szFaceSS.l0 k t (1048576 - t.length) 0) r ∧ (0 ≤ r → ∀ x ∈ t, x.length ≤ 1048576) := by
  have key : ∀ d n : Nat, ∀ a : Int, n + d = t.length → 0 ≤ a → a ≤ 1048576 → ∃ r, Ev (fun k => laws_szFaceSS.l0 k t a (n : Int)) r ∧ (0 ≤ r → ∀ x ∈ t.drop n, x.length ≤ 1048576) := by
    intro d
    induction d with
    | zero =>
      intro n a hn h0 h1
      refine ⟨a, ev_step (f := fun _ => some a) (fun k => ?_) (Ev.now a), fun _ x hx => ?_⟩
      · simp only [laws_szFaceSS.l0]; rw [if_neg (by omega)]
      · rw [List.drop_eq_nil_of_le (by omega)] at hx; cases hx
    | succ d ih =>
      intro n a hn h0 h1
      have hlt : n < t.length := by omega
      have hf := h.2 t[n] (List.getElem_mem hlt)
      by_cases hc : a - t[n].length < 0
      · refine ⟨-1, ev_step (f := fun _ => some (-1)) (fun k => ?_) (Ev.now (-1)), fun h => by omega⟩
        simp only [laws_szFaceSS.l0]
        rw [if_pos (by omega), if_pos (by omega), rd_LLawFace_lt t n hlt, szFaceS_eq _ a h0 h1 hf, yfy, if_pos hc]
        rfl
      · obtain ⟨r, hr, hr2⟩ := ih (n + 1) (a - t[n].length) (by omega) (by omega) (by omega)
        refine ⟨r, ev_step (fun k => ?_) hr, fun h x hx => ?_⟩
        · simp only [laws_szFaceSS.l0]
          rw [if_pos (by omega), if_pos (by omega), rd_LLawFace_lt t n hlt, szFaceS_eq _ a h0 h1 hf, yfy, if_neg hc, if_neg (by omega), wrap_succ (by omega)]
        · rw [List.drop_eq_getElem_cons hlt] at hx
          rcases List.mem_cons.1 hx with rfl | hx
          · omega
          · exact hr2 h x hx
  obtain ⟨r, hr, hr2⟩ := key t.length 0 (1048576 - t.length) (by omega) (by omega) (by omega)
  exact ⟨r, hr, fun h => by have := hr2 h; rwa [List.drop_zero] at this⟩
theorem szTriangulation_ev (t : List (List SLawFace)) (h : Fits t) : ∃ r, Ev (fun k => laws_szTriangulation.f k t 1048576) r ∧ (¬ r < 0 → SmallL t) := by
  by_cases hl : (1048576 - (t.length : Int)) < 0
  · refine ⟨-1, ?_, fun h => by omega⟩
    refine Ev.bind (a := -1) (ev_const' (fun k => ?_)) (ev_pos (by omega) (Ev.now _))
    unfold laws_szFaceSS.f
    have := h.1
    rw [wrap_id (by omega) (by omega), if_pos hl]
  · obtain ⟨r, hr, hr2⟩ := szFaceSS_ev t h (by omega)
    have h2 : Ev (fun k => laws_szFaceSS.f k t 1048576) r := by
      refine Ev.congr (fun k => ?_) hr
      unfold laws_szFaceSS.f
      rw [wrap_id (by omega) (by omega), if_neg hl]
    by_cases hn : r < 0
    · exact ⟨-1, Ev.bind h2 (ev_pos hn (Ev.now _)), fun h => by omega⟩
    · exact ⟨r, Ev.bind h2 (ev_neg hn (Ev.now _)), fun _ => ⟨by omega, hr2 (by omega)⟩⟩
/-- The copies of the law's values. -/
def cvF (x : SLawFace) : SFace := ⟨x.f0, x.f1⟩
def cvR (r : List SLawFace) : List SFace := r.map cvF
def cvT (t : List (List SLawFace)) : Tri := t.map cvR
theorem cvT_small {t : List (List SLawFace)} (h : SmallL t) : Small (cvT t) := by
  refine ⟨by simp [cvT]; exact h.1, fun r hr => ?_⟩
  obtain ⟨s, hs, rfl⟩ := List.mem_map.1 hr
  simp [cvR]; exact h.2 s hs
theorem map_take_set {α β : Type} (f : α → β) (l : List α) (z : β) (n : Nat) (h : n < l.length) :
    ((l.take n).map f ++ List.replicate (l.length - n) z).set n (f l[n]) = (l.take (n + 1)).map f ++ List.replicate (l.length - (n + 1)) z := by
  have e : l.length - n = (l.length - (n + 1)) + 1 := by omega
  rw [e, List.replicate_succ, List.set_append_right _ _ (by simp; omega)]
  have : n - ((l.take n).map f).length = 0 := by simp; omega
  rw [this, yby, List.take_succ_eq_append_getElem h, List.map_append, List.append_assoc]
  rfl
theorem toFaceS_ev (l : List SLawFace) (h : l.length ≤ 1048576) : Ev (fun k => laws_toFaceS.f k l) (cvR l) := by
  have hl : Ev (fun k => laws_toFaceS.l0 k l (List.replicate l.length zFace) 0) (cvR l) := by
    refine ev_loop0 (fun k (s : List SFace × Int) => laws_toFaceS.l0 k l s.1 s.2) (fun s => ∃ n : Nat, n ≤ l.length ∧ s.2 = n ∧ s.1 = (l.take n).map cvF ++ List.replicate (l.length - n) zFace) (fun s => l.length - s.2.toNat) (fun _ => cvR l) ?_ (List.replicate l.length zFace, 0) ⟨0, by omega, rfl, by simp⟩
    rintro ⟨a, i⟩ ⟨n, hn, rfl, rfl⟩
    dsimp only
    by_cases hlt : n < l.length
    · refine .inr ⟨((l.take (n + 1)).map cvF ++ List.replicate (l.length - (n + 1)) zFace, ((n + 1 : Nat) : Int)), ⟨n + 1, by omega, rfl, rfl⟩, by simp; omega, rfl, fun k => ?_⟩
      simp only [laws_toFaceS.l0, laws_toFace.f, yfy]
      rw [if_pos (by omega), if_pos (by omega), if_pos (by simp; omega), wrap_succ (by omega), Int.toNat_natCast, rd_LawFace_lt l n hlt]
      have := map_take_set cvF l zFace n hlt
      rw [← this]
      rfl
    · obtain rfl : n = l.length := by omega
      refine .inl fun k => ?_
      simp only [laws_toFaceS.l0]
      rw [if_neg (by omega)]
      simp [cvR]
  refine Ev.congr (fun k => ?_) hl
  unfold laws_toFaceS.f
  rw [if_pos (by omega), if_pos (by simp; omega), Int.toNat_natCast]
theorem toFaceSS_ev (l : List (List SLawFace)) (h : SmallL l) : Ev (fun k => laws_toFaceSS.f k l) (cvT l) := by
  have hl : Ev (fun k => laws_toFaceSS.l0 k l (List.replicate l.length []) 0) (cvT l) := by
    refine ev_loop (fun k (s : Tri × Int) => laws_toFaceSS.l0 k l s.1 s.2) (fun s => ∃ n : Nat, n ≤ l.length ∧ s.2 = n ∧ s.1 = (l.take n).map cvR ++ List.replicate (l.length - n) []) (fun s => l.length - s.2.toNat) (fun _ => cvT l) ?_ (List.replicate l.length [], 0) ⟨0, by omega, rfl, by simp⟩
    rintro ⟨a, i⟩ ⟨n, hn, rfl, rfl⟩
    dsimp only
    by_cases hlt : n < l.length
    · obtain ⟨K, hK⟩ := toFaceS_ev l[n] (h.2 _ (List.getElem_mem hlt))
      refine .inr ⟨((l.take (n + 1)).map cvR ++ List.replicate (l.length - (n + 1)) [], ((n + 1 : Nat) : Int)), K, ⟨n + 1, by omega, rfl, rfl⟩, by simp; omega, rfl, fun k hk => ?_⟩
      have e : laws_toFaceS.f k l[n] = some _ := hK k hk
      have h1 := h.1
      simp only [laws_toFaceSS.l0]
      rw [if_pos (by omega), if_pos (by omega), rd_LLawFace_lt l n hlt, e, yfy, if_pos (by simp; omega), wrap_succ (by omega), Int.toNat_natCast, map_take_set cvR l [] n hlt]
    · obtain rfl : n = l.length := by omega
      refine .inl ⟨0, fun k _ => ?_⟩
      simp only [laws_toFaceSS.l0]
      rw [if_neg (by omega)]
      simp [cvT]
  have h1 := h.1
  refine Ev.congr (fun k => ?_) hl
  unfold laws_toFaceSS.f
  rw [if_pos (by omega), if_pos (by simp; omega), Int.toNat_natCast]
theorem toTriangulation_ev (l : List (List SLawFace)) (h : SmallL l) : Ev (fun k => laws_toTriangulation.f k l) (cvT l) := Ev.bind (toFaceSS_ev l h) (Ev.now _)
theorem eqFaceS_ev (l : List SFace) (h : l.length ≤ 1048576) : Ev (fun k => laws_eqFaceS.f k l l) true := by
  have hl : Ev (fun k => laws_eqFaceS.l0 k l l 0) true := by
    refine ev_loop0 (fun k (s : Int) => laws_eqFaceS.l0 k l l s) (fun s => ∃ n : Nat, n ≤ l.length ∧ s = n) (fun s => l.length - s.toNat) (fun _ => true) ?_ 0 ⟨0, by omega, rfl⟩
    rintro i ⟨n, hn, rfl⟩
    by_cases hlt : n < l.length
    · refine .inr ⟨((n + 1 : Nat) : Int), ⟨n + 1, by omega, rfl⟩, by simp; omega, rfl, fun k => ?_⟩
      simp only [laws_eqFaceS.l0, laws_eqFace.f]
      rw [if_pos (by omega), if_pos (by omega), if_pos (by omega), if_pos trivial, if_pos trivial, yfy, if_pos rfl, wrap_succ (by omega)]
    · refine .inl fun k => ?_
      simp only [laws_eqFaceS.l0]
      rw [if_neg (by omega)]
  refine Ev.congr (fun k => ?_) hl
  unfold laws_eqFaceS.f
  rw [if_pos rfl]
theorem eqTriangulation_ev (l : Tri) (h : Small l) : Ev (fun k => laws_eqTriangulation.f k l l) true := by
  have hl : Ev (fun k => laws_eqFaceSS.l0 k l l 0) true := by
    refine ev_loop (fun k (s : Int) => laws_eqFaceSS.l0 k l l s) (fun s => ∃ n : Nat, n ≤ l.length ∧ s = n) (fun s => l.length - s.toNat) (fun _ => true) ?_ 0 ⟨0, by omega, rfl⟩
    rintro i ⟨n, hn, rfl⟩
    by_cases hlt : n < l.length
    · obtain ⟨K, hK⟩ := eqFaceS_ev l[n] (h.2 _ (List.getElem_mem hlt))
      refine .inr ⟨((n + 1 : Nat) : Int), K, ⟨n + 1, by omega, rfl⟩, by simp; omega, rfl, fun k hk => ?_⟩
      have e : laws_eqFaceS.f k l[n] l[n] = some _ := hK k hk
      have h1 := h.1
      simp only [laws_eqFaceSS.l0]
      rw [if_pos (by omega), if_pos (by omega), if_pos (by omega), rd_LFace_lt l n hlt, e, yfy, if_pos rfl, wrap_succ (by omega)]
    · refine .inl ⟨0, fun k _ => ?_⟩
      simp only [laws_eqFaceSS.l0]
      rw [if_neg (by omega)]
  have h2 : Ev (fun k => laws_eqFaceSS.f k l l) true := by
    refine Ev.congr (fun k => ?_) hl
    unfold laws_eqFaceSS.f
    rw [if_pos rfl]
  exact Ev.bind h2 (ev_pos rfl (Ev.now _))
/-- The face f of the tetrahedron a. -/
abbrev fc (t : Tri) (a f : Int) : SFace := rd_Face (rd_LFace t a) f
/-- Is a face as in a valid triangulation? -/
def goodF (t : Tri) (a f : Int) : Bool :=
  if (fc t a f).f0 = -1 then (fc t a f).f1 == 0
  else if 0 ≤ (fc t a f).f0 ∧ (fc t a f).f0 < (t.length : Int) ∧ 0 ≤ (fc t a f).f1 ∧ (fc t a f).f1 ≤ 23 then
    ((fc t (fc t a f).f0 (rd (permL (fc t a f).f1) f)).f0 == a && (fc t (fc t a f).f0 (rd (permL (fc t a f).f1) f)).f1 == invP (fc t a f).f1) && !((fc t a f).f0 == a && rd (permL (fc t a f).f1) f == f)
  else false
/-- d faces of a from f on are good. -/
def goodFs (t : Tri) (a : Int) : Int → Nat → Bool
  | _, 0 => true
  | f, d + 1 => goodF t a f && goodFs t a (f + 1) d
/-- d tetrahedra from a on are good. -/
def goodTs (t : Tri) : Int → Nat → Bool
  | _, 0 => true
  | a, d + 1 => goodFs t a 0 4 && goodTs t (a + 1) d
/-- A valid triangulation. -/
def isTri (t : Tri) : Bool := decide (t.length ≤ 8) && (t.all (fun r => decide (r.length = 4)) && goodTs t 0 t.length)
section
variable {t : Tri}
theorem row4 (h4 : ∀ r ∈ t, r.length = 4) {a : Int} (h0 : 0 ≤ a) (h1 : a < t.length) : (rd_LFace t a).length = 4 := by
  obtain ⟨n, rfl⟩ := Int.eq_ofNat_of_zero_le h0
  rw [rd_LFace_lt t n (by omega)]
  exact h4 _ (List.getElem_mem _)
theorem impl_isGood_ev (h4 : ∀ r ∈ t, r.length = 4) (hn : t.length ≤ 8) {a f : Int} (h0 : 0 ≤ a) (h1 : a < t.length) (hf0 : 0 ≤ f) (hf1 : f ≤ 3) : Ev (fun k => impl_Triangulation_isGood.f k t a f) (goodF t a f) := by
  have hr := row4 h4 h0 h1
  refine Ev.congr (fun k => by unfold impl_Triangulation_isGood.f; rw [if_pos h0, if_pos h1, if_pos hf0, if_pos (by omega)]) ?_
  change Ev (fun k => if (fc t a f).f0 = -1 then some ((fc t a f).f1 == 0) else _) (goodF t a f)
  unfold goodF
  by_cases hb : (fc t a f).f0 = -1
  · rw [if_pos hb]; exact ev_pos hb (Ev.now _)
  · refine ev_neg hb ?_
    rw [if_neg hb]
    have hix : impl_hasIndex_Simpl_Face.f t (fc t a f).f0 = some (decide (0 ≤ (fc t a f).f0) && decide ((fc t a f).f0 ≤ (t.length : Int) - 1)) := by
      unfold impl_hasIndex_Simpl_Face.f impl_size_Simpl_Face.f
      rw [yfy, wrap_id (by omega) (by omega), inRange_eq]; rfl
    have hfalse : Ev (fun k => impl_Triangulation_isGood.j0 k a f true t (fc t a f).f0 (fc t a f).f1) false := ev_step (fun k => by rw [impl_Triangulation_isGood.j0, if_pos rfl]) (Ev.now false)
    refine Ev.bind (ev_const hix) ?_
    by_cases hi : 0 ≤ (fc t a f).f0 ∧ (fc t a f).f0 < (t.length : Int)
    · refine ev_pos (by simp; omega) ?_
      refine Ev.bind (ev_const (isPerm_eq _)) ?_
      by_cases hp : 0 ≤ (fc t a f).f1 ∧ (fc t a f).f1 ≤ 23
      · rw [if_pos ⟨hi.1, hi.2, hp.1, hp.2⟩]
        have e : (!(decide (0 ≤ (fc t a f).f1) && decide ((fc t a f).f1 ≤ 23))) = false := by simp [hp]
        rw [e]
        refine ev_step (fun k => by rw [impl_Triangulation_isGood.j0, if_neg (by simp), target_eq hp.1 hp.2 hf0 hf1, yfy]) ?_
        obtain ⟨hg0, hg1⟩ := permL_sm hp.1 hp.2 hf0 hf1
        have hr2 := row4 h4 hi.1 hi.2
        refine ev_pos hi.1 (ev_pos hi.2 (ev_pos hg0 (ev_pos (by rw [hr2]; omega) ?_)))
        refine Ev.bind (ev_const (partner_eq hp.1 hp.2)) ?_
        change Ev (fun k => if ((fc t (fc t a f).f0 (rd (permL (fc t a f).f1) f)).f0 == a && (fc t (fc t a f).f0 (rd (permL (fc t a f).f1) f)).f1 == invP (fc t a f).f1) = true then _ else _) _
        generalize ((fc t (fc t a f).f0 (rd (permL (fc t a f).f1) f)).f0 == a && (fc t (fc t a f).f0 (rd (permL (fc t a f).f1) f)).f1 == invP (fc t a f).f1) = b
        cases b with
        | false => refine ev_neg (by simp) ?_; rw [Bool.false_and]; exact Ev.now false
        | true =>
          refine ev_pos rfl ?_
          rw [Bool.true_and]
          by_cases ha : (fc t a f).f0 = a
          · refine ev_pos ha (ev_some ?_)
            rw [ha]; simp [bne]
          · refine ev_neg ha (ev_some ?_)
            simp [ha]
      · rw [if_neg (by omega)]
        have e : (!(decide (0 ≤ (fc t a f).f1) && decide ((fc t a f).f1 ≤ 23))) = true := by
          rw [Bool.not_eq_true', Bool.and_eq_false_iff, decide_eq_false_iff_not, decide_eq_false_iff_not]; omega
        rw [e]
        exact hfalse
    · rw [if_neg (by omega)]
      refine ev_neg ?_ hfalse
      rw [Bool.and_eq_true, decide_eq_true_eq, decide_eq_true_eq]; omega
theorem impl_l1_ev (h4 : ∀ r ∈ t, r.length = 4) (hn : t.length ≤ 8) {a : Int} (h0 : 0 ≤ a) (h1 : a < t.length) {R : Bool} (hR : Ev (fun k => impl_isTriangulation.l0 k (t.length : Int) (a + 1) t) R) :
    ∀ (d : Nat) (f : Int), 0 ≤ f → f + d = 4 → Ev (fun k => impl_isTriangulation.l1 k a (t.length : Int) a f t) (goodFs t a f d && R)
  | 0, f, hf, he => by
    refine ev_step (fun k => by rw [impl_isTriangulation.l1, if_neg (by omega), wrap_id (by omega) (by omega)]) ?_
    rw [goodFs, Bool.true_and]; exact hR
  | d + 1, f, hf, he => by
    refine ev_step (fun k => by rw [impl_isTriangulation.l1, if_pos (by omega)]) ?_
    refine Ev.bind (impl_isGood_ev h4 hn h0 h1 hf (by omega)) ?_
    rw [goodFs]
    cases hg : goodF t a f with
    | false => exact ev_neg (by simp) (by rw [Bool.false_and, Bool.false_and]; exact Ev.now false)
    | true =>
      refine ev_pos rfl ?_
      rw [Bool.true_and]
      exact Ev.congr (fun k => by rw [wrap_id (by omega) (by omega)]) (impl_l1_ev h4 hn h0 h1 hR d (f + 1) (by omega) (by omega))
theorem impl_l0_ev (h4 : ∀ r ∈ t, r.length = 4) (hn : t.length ≤ 8) : ∀ (d : Nat) (a : Int), 0 ≤ a → a + d = t.length → Ev (fun k => impl_isTriangulation.l0 k (t.length : Int) a t) (goodTs t a d)
  | 0, a, ha, he => by
    refine ev_step (fun k => by rw [impl_isTriangulation.l0, if_neg (by omega)]) ?_
    exact Ev.now true
  | d + 1, a, ha, he => by
    refine ev_step (fun k => by rw [impl_isTriangulation.l0, if_pos (by omega)]) ?_
    rw [goodTs]
    exact impl_l1_ev h4 hn ha (by omega) (impl_l0_ev h4 hn d (a + 1) (by omega) (by omega)) 4 0 (by omega) (by omega)
theorem all4_iff : t.all (fun r => decide (r.length = 4)) = true ↔ ∀ r ∈ t, r.length = 4 := by simp
theorem contains4 (h : Small t) : slices_ContainsFunc_SSimpl_Face_at_impl_isTriangulation_1.f t = some (!(t.all fun r => decide (r.length = 4))) := by
  unfold slices_ContainsFunc_SSimpl_Face_at_impl_isTriangulation_1.f slices_IndexFunc_SSimpl_Face_at_impl_isTriangulation_1.f
  rw [contO (p := fun r => !(decide (r.length = 4))) t (fun r _ => by
    show impl_isTriangulation_1.f r = _
    unfold impl_isTriangulation_1.f
    congr 1
    by_cases h : r.length = 4
    · simp [h]
    · have : ¬ ((r.length : Int) = 4) := by omega
      simp [h, this]), List.not_all_eq_any_not]
theorem impl_isTri_ev (h : Small t) : Ev (fun k => impl_isTriangulation.f k t) (isTri t) := by
  have hfalse : Ev (fun k => impl_isTriangulation.j0 k true t) false := ev_step (fun k => by rw [impl_isTriangulation.j0, if_pos rfl]) (Ev.now false)
  unfold isTri
  by_cases h8 : t.length ≤ 8
  · refine Ev.congr (fun k => by unfold impl_isTriangulation.f; rw [if_neg (by omega), contains4 h, yfy]) ?_
    rw [ygy h8, Bool.true_and]
    cases hall : t.all (fun r => decide (r.length = 4)) with
    | false => rw [Bool.false_and]; exact hfalse
    | true =>
      rw [Bool.true_and]
      refine ev_step (fun k => by rw [impl_isTriangulation.j0, if_neg (by simp)]) ?_
      exact impl_l0_ev (all4_iff.1 hall) h8 t.length 0 (by omega) (by omega)
  · refine Ev.congr (fun k => by unfold impl_isTriangulation.f; rw [if_pos (by omega)]) ?_
    rw [yhy h8, Bool.false_and]; exact hfalse
theorem spec_l2_ev (h4 : ∀ r ∈ t, r.length = 4) (hn : t.length ≤ 8) {a : Int} (h0 : 0 ≤ a) (h1 : a < t.length) {R : Bool} (hR : Ev (fun k => spec_IsTriangulation.l1 k (a + 1) t) R) :
    ∀ (d : Nat) (f : Int), 0 ≤ f → f + d = 4 → Ev (fun k => spec_IsTriangulation.l2 k a f t) (goodFs t a f d && R)
  | 0, f, hf, he => by
    refine ev_step (fun k => by rw [spec_IsTriangulation.l2, if_neg (by omega), wrap_id (by omega) (by omega)]) ?_
    rw [goodFs, Bool.true_and]; exact hR
  | d + 1, f, hf, he => by
    have hr := row4 h4 h0 h1
    have ih : Ev (fun k => spec_IsTriangulation.l2 k a (wrap64 (f + 1)) t) (goodFs t a (f + 1) d && R) := Ev.congr (fun k => by rw [wrap_id (by omega) (by omega)]) (spec_l2_ev h4 hn h0 h1 hR d (f + 1) (by omega) (by omega))
    refine ev_step (fun k => by rw [spec_IsTriangulation.l2, if_pos (by omega), if_pos h0, if_pos h1, if_pos hf, if_pos (by omega)]) ?_
    change Ev (fun k => if (fc t a f).f0 = -1 then spec_IsTriangulation.j3 k a f ((fc t a f).f1 == 0) t (fc t a f).f0 (fc t a f).f1 else spec_IsTriangulation.j3 k a f false t (fc t a f).f0 (fc t a f).f1) _
    rw [goodFs]
    have hstop : ∀ b, Ev (fun k => spec_IsTriangulation.j4 k a f true t (fc t a f).f0 (fc t a f).f1) (false && b) := fun b => by
      rw [Bool.false_and]; exact ev_step (fun k => by rw [spec_IsTriangulation.j4, if_pos rfl]) (Ev.now false)
    have hgo : Ev (fun k => spec_IsTriangulation.j3 k a f true t (fc t a f).f0 (fc t a f).f1) (goodFs t a (f + 1) d && R) := ev_step (fun k => by rw [spec_IsTriangulation.j3, if_pos rfl]) ih
    have hrest : (¬ ((fc t a f).f0 = -1 ∧ (fc t a f).f1 = 0)) → Ev (fun k => spec_IsTriangulation.j3 k a f false t (fc t a f).f0 (fc t a f).f1) (goodF t a f && goodFs t a (f + 1) d && R) := by
      intro hnb
      refine ev_step (fun k => by rw [spec_IsTriangulation.j3, spec_l07Tets.f, if_neg (by simp), yfy, l07In_eq, yfy, wrap_id (by omega) (by omega)]) ?_
      unfold goodF
      by_cases hi : 0 ≤ (fc t a f).f0 ∧ (fc t a f).f0 < (t.length : Int)
      · refine ev_pos (by simp; omega) ?_
        refine Ev.bind (ev_const (l06Valid_eq _)) ?_
        rw [if_neg (by omega)]
        by_cases hp : 0 ≤ (fc t a f).f1 ∧ (fc t a f).f1 ≤ 23
        · rw [if_pos ⟨hi.1, hi.2, hp.1, hp.2⟩]
          have e : (!(decide (0 ≤ (fc t a f).f1) && decide ((fc t a f).f1 ≤ 23))) = false := by simp [hp]
          rw [e]
          obtain ⟨hg0, hg1⟩ := permL_sm hp.1 hp.2 hf (by omega)
          have hr2 := row4 h4 hi.1 hi.2
          refine ev_step (fun k => by rw [spec_IsTriangulation.j4, if_neg (by simp)]) ?_
          refine Ev.bind (l06At_ev hp.1 hp.2 hf (by omega)) ?_
          refine Ev.bind (l06Back_ev hp.1 hp.2) ?_
          refine ev_pos hi.1 (ev_pos hi.2 (ev_pos hg0 (ev_pos (by rw [hr2]; omega) ?_)))
          change Ev (fun k => if (!((fc t (fc t a f).f0 (rd (permL (fc t a f).f1) f)).f0 == a) || !((fc t (fc t a f).f0 (rd (permL (fc t a f).f1) f)).f1 == invP (fc t a f).f1)) = true then _ else _) _
          generalize ((fc t (fc t a f).f0 (rd (permL (fc t a f).f1) f)).f0 == a) = b1
          generalize ((fc t (fc t a f).f0 (rd (permL (fc t a f).f1) f)).f1 == invP (fc t a f).f1) = b2
          cases b1 with
          | false => exact ev_pos rfl (by rw [Bool.false_and, Bool.false_and, Bool.false_and, Bool.false_and]; exact Ev.now false)
          | true =>
            cases b2 with
            | false => exact ev_pos rfl (by rw [Bool.true_and, Bool.false_and, Bool.false_and, Bool.false_and]; exact Ev.now false)
            | true =>
              refine ev_neg (by simp) ?_
              rw [Bool.true_and, Bool.true_and]
              by_cases ha : (fc t a f).f0 = a
              · refine ev_pos ha ?_
                by_cases hg : rd (permL (fc t a f).f1) f = f
                · refine ev_pos hg ?_
                  rw [ha, hg]
                  simp
                  exact Ev.now false
                · refine ev_neg hg ?_
                  have : (rd (permL (fc t a f).f1) f == f) = false := by simp [hg]
                  rw [this, Bool.and_false, Bool.not_false, Bool.true_and]
                  exact ih
              · refine ev_neg ha ?_
                have : ((fc t a f).f0 == a) = false := by simp [ha]
                rw [this, Bool.false_and, Bool.not_false, Bool.true_and]
                exact ih
        · rw [if_neg (by omega)]
          have e : (!(decide (0 ≤ (fc t a f).f1) && decide ((fc t a f).f1 ≤ 23))) = true := by
            rw [Bool.not_eq_true', Bool.and_eq_false_iff, decide_eq_false_iff_not, decide_eq_false_iff_not]; omega
          rw [e, Bool.false_and]
          exact hstop R
      · have hg : (if (fc t a f).f0 = -1 then ((fc t a f).f1 == 0) else if 0 ≤ (fc t a f).f0 ∧ (fc t a f).f0 < (t.length : Int) ∧ 0 ≤ (fc t a f).f1 ∧ (fc t a f).f1 ≤ 23 then
            ((fc t (fc t a f).f0 (rd (permL (fc t a f).f1) f)).f0 == a && (fc t (fc t a f).f0 (rd (permL (fc t a f).f1) f)).f1 == invP (fc t a f).f1) && !((fc t a f).f0 == a && rd (permL (fc t a f).f1) f == f) else false) = false := by
          by_cases hb : (fc t a f).f0 = -1
          · rw [if_pos hb]; simp; intro h; exact hnb ⟨hb, h⟩
          · rw [if_neg hb, if_neg (by omega)]
        rw [hg, Bool.false_and]
        refine ev_neg ?_ (hstop R)
        rw [Bool.and_eq_true, decide_eq_true_eq, decide_eq_true_eq]; omega
    by_cases hb : (fc t a f).f0 = -1
    · refine ev_pos hb ?_
      by_cases h0' : (fc t a f).f1 = 0
      · have e : goodF t a f = true := by unfold goodF; rw [if_pos hb]; simp [h0']
        rw [e, Bool.true_and]
        have e2 : ((fc t a f).f1 == 0) = true := by simp [h0']
        rw [e2]; exact hgo
      · have e2 : ((fc t a f).f1 == 0) = false := by simp [h0']
        rw [e2]; exact hrest (fun h => h0' h.2)
    · exact ev_neg hb (hrest (fun h => hb h.1))
theorem spec_l1_ev (h4 : ∀ r ∈ t, r.length = 4) (hn : t.length ≤ 8) : ∀ (d : Nat) (a : Int), 0 ≤ a → a + d = t.length → Ev (fun k => spec_IsTriangulation.l1 k a t) (goodTs t a d)
  | 0, a, ha, he => by
    refine ev_step (fun k => by rw [spec_IsTriangulation.l1, spec_l07Tets.f, yfy, if_neg (by omega)]) ?_
    exact Ev.now true
  | d + 1, a, ha, he => by
    refine ev_step (fun k => by rw [spec_IsTriangulation.l1, spec_l07Tets.f, yfy, if_pos (by omega)]) ?_
    rw [goodTs]
    exact spec_l2_ev h4 hn ha (by omega) (spec_l1_ev h4 hn d (a + 1) (by omega) (by omega)) 4 0 (by omega) (by omega)
theorem spec_l0_ev (h8 : t.length ≤ 8) (d : Nat) : ∀ n : Nat, n + d = t.length → (t.all (fun r => decide (r.length = 4)) = (t.drop n).all (fun r => decide (r.length = 4))) → Ev (fun k => spec_IsTriangulation.l0 k (n : Int) t) (t.all (fun r => decide (r.length = 4)) && goodTs t 0 t.length) := by
  induction d with
  | zero =>
    intro n hn ha
    refine ev_step (fun k => by rw [spec_IsTriangulation.l0, if_neg (by omega)]) ?_
    have hall : t.all (fun r => decide (r.length = 4)) = true := by rw [ha, List.drop_eq_nil_of_le (by omega)]; rfl
    rw [hall, Bool.true_and]
    exact spec_l1_ev (all4_iff.1 hall) h8 t.length 0 (by omega) (by omega)
  | succ d ih =>
    intro n hn ha
    have hlt : n < t.length := by omega
    refine ev_step (fun k => by rw [spec_IsTriangulation.l0, if_pos (by omega), if_pos (by omega), rd_LFace_lt t n hlt]) ?_
    rw [List.drop_eq_getElem_cons hlt, List.all_cons] at ha
    by_cases h : t[n].length = 4
    · refine ev_pos (by omega) ?_
      refine Ev.congr (fun k => by rw [wrap_succ (by omega)]) (ih (n + 1) (by omega) ?_)
      rw [ha, ygy h, Bool.true_and]
    · refine ev_neg (by omega) ?_
      rw [ha, yhy h, Bool.false_and, Bool.false_and]
      exact Ev.now false
theorem spec_isTri_ev (t : Tri) : Ev (fun k => spec_IsTriangulation.f k t) (isTri t) := by
  refine Ev.congr (fun k => by unfold spec_IsTriangulation.f spec_l07Tets.f; rw [yfy]) ?_
  unfold isTri
  by_cases h8 : t.length ≤ 8
  · refine ev_neg (by omega) ?_
    rw [ygy h8, Bool.true_and]
    exact spec_l0_ev h8 t.length 0 (by omega) (by rw [List.drop_zero])
  · refine ev_pos (by omega) ?_
    rw [yhy h8, Bool.false_and]
    exact Ev.now false
end
theorem isTri_good {t : Tri} (h : isTri t = true) : t.length ≤ 8 ∧ (∀ r ∈ t, r.length = 4) ∧ goodTs t 0 t.length = true := by
  unfold isTri at h
  rw [Bool.and_eq_true, Bool.and_eq_true, decide_eq_true_eq] at h
  exact ⟨h.1, all4_iff.1 h.2.1, h.2.2⟩
theorem goodFs_at (t : Tri) (a : Int) (d : Nat) : ∀ f, goodFs t a f d = true → ∀ g, f ≤ g → g < f + d → goodF t a g = true := by
  induction d with
  | zero => intro f _ g h1 h2; omega
  | succ d ih =>
    intro f h g h1 h2
    rw [goodFs, Bool.and_eq_true] at h
    by_cases e : g = f
    · rw [e]; exact h.1
    · exact ih (f + 1) h.2 g (by omega) (by omega)
theorem goodTs_at (t : Tri) (d : Nat) : ∀ a, goodTs t a d = true → ∀ b, a ≤ b → b < a + d → ∀ g, 0 ≤ g → g ≤ 3 → goodF t b g = true := by
  induction d with
  | zero => intro a _ b h1 h2; omega
  | succ d ih =>
    intro a h b h1 h2 g hg0 hg1
    rw [goodTs, Bool.and_eq_true] at h
    by_cases e : b = a
    · rw [e]; exact goodFs_at t a 4 0 h.1 g hg0 (by omega)
    · exact ih (a + 1) h.2 b (by omega) (by omega) g hg0 hg1
/-- A face of a valid triangulation: the boundary, or glued to a face that is glued back. -/
theorem face_good {t : Tri} (h : isTri t = true) {a f : Int} (h0 : 0 ≤ a) (h1 : a < t.length) (hf0 : 0 ≤ f) (hf1 : f ≤ 3) :
    ((fc t a f).f0 = -1 ∧ (fc t a f).f1 = 0) ∨
    ((0 ≤ (fc t a f).f0 ∧ (fc t a f).f0 < (t.length : Int) ∧ 0 ≤ (fc t a f).f1 ∧ (fc t a f).f1 ≤ 23) ∧
      (fc t (fc t a f).f0 (rd (permL (fc t a f).f1) f)).f0 = a ∧ (fc t (fc t a f).f0 (rd (permL (fc t a f).f1) f)).f1 = invP (fc t a f).f1 ∧ ¬ ((fc t a f).f0 = a ∧ rd (permL (fc t a f).f1) f = f)) := by
  have hg := goodTs_at t t.length 0 (isTri_good h).2.2 a h0 (by omega) f hf0 hf1
  unfold goodF at hg
  by_cases hb : (fc t a f).f0 = -1
  · rw [if_pos hb] at hg
    exact .inl ⟨hb, by simpa using hg⟩
  · rw [if_neg hb] at hg
    by_cases hi : 0 ≤ (fc t a f).f0 ∧ (fc t a f).f0 < (t.length : Int) ∧ 0 ≤ (fc t a f).f1 ∧ (fc t a f).f1 ≤ 23
    · rw [if_pos hi, Bool.and_eq_true, Bool.and_eq_true, Bool.not_eq_true'] at hg
      refine .inr ⟨hi, eq_of_beq hg.1.1, eq_of_beq hg.1.2, fun hc => ?_⟩
      have := hg.2
      rw [Bool.and_eq_false_iff] at this
      rcases this with h2 | h2
      · exact absurd hc.1 (by simpa using h2)
      · exact absurd hc.2 (by simpa using h2)
    · rw [if_neg hi] at hg; cases hg
theorem rowlen {t : Tri} (h : isTri t = true) {a : Int} (h0 : 0 ≤ a) (h1 : a < t.length) : (rd_LFace t a).length = 4 := row4 (isTri_good h).2.1 h0 h1
theorem rdset {l : List Int} {a b v : Int} (ha0 : 0 ≤ a) (ha1 : a < l.length) (hb : 0 ≤ b) : rd (l.set a.toNat v) b = if b = a then v else rd l b := by
 unfold rd
 by_cases e : b = a
 rotate_left
 next =>
  rw [if_neg e]
  have : a.toNat ≠ b.toNat := by omega
  simp [List.getD_eq_getElem?_getD, List.getElem?_set_ne this]
 subst e
 rw [if_pos rfl]
 have : b.toNat < l.length := by omega
 simp [List.getD_eq_getElem?_getD, this]
theorem rdapp (l : List Int) (k : Int) (i : Int) (h0 : 0 ≤ i) (h1 : i < l.length) : rd (l ++ [k]) i = rd l i := by
 unfold rd
 simp only [List.getD_eq_getElem?_getD]
 rw [List.getElem?_append_left (by omega)]
theorem rdlast (l : List Int) (k : Int) : rd (l ++ [k]) (l.length : Int) = k := by
 rw [rd_lt _ _ (by simp)]; simp
theorem rdmem {l : List Int} {i : Int} (h0 : 0 ≤ i) (h1 : i < l.length) : rd l i ∈ l := by
 obtain ⟨n, rfl⟩ := Int.eq_ofNat_of_zero_le h0
 rw [rd_lt l n (by omega)]
 exact List.getElem_mem _
/-- How many elements are below 0. -/
def uc : List Int → Nat
 | [] => 0
 | x :: xs => (if x < 0 then 1 else 0) + uc xs
theorem uc_le (l : List Int) : uc l ≤ l.length := by
 induction l with
 | nil => simp [uc]
 | cons x xs ih => simp only [uc, List.length_cons]; split <;> omega
theorem uc_set : ∀ (l : List Int) (n : Nat) (v : Int), n < l.length → l.getD n 0 < 0 → 0 ≤ v → uc (l.set n v) + 1 = uc l
 | [], n, v, h, _, _ => by simp at h
 | x :: xs, 0, v, _, hz, hv => by
  have hx : x < 0 := by simpa using hz
  have h2 : ¬ v < 0 := by omega
  simp [uc, hx, h2]; omega
 | x :: xs, n + 1, v, h, hz, hv => by
  have := uc_set xs n v (by simpa using h) (by simpa using hz) hv
  simp only [ycy, uc]; omega
section
variable {t : Tri}
/-- Labels, and the first element of each. -/
structure BI (t : Tri) (U : Int → Int) (out R : List Int) : Prop where
 len : out.length = t.length
 val : ∀ x : Int, 0 ≤ x → x < t.length → rd out x = -1 ∨ (0 ≤ rd out x ∧ rd out x < R.length)
 rng : ∀ v : Int, 0 ≤ v → v < R.length → 0 ≤ rd R v ∧ rd R v < t.length ∧ rd out (rd R v) = v
 same : ∀ x : Int, 0 ≤ x → x < t.length → 0 ≤ rd out x → U x = U (rd R (rd out x))
 first : ∀ x : Int, 0 ≤ x → x < t.length → 0 ≤ rd out x → rd R (rd out x) ≤ x
 incr : ∀ v w : Int, 0 ≤ v → v < w → w < R.length → rd R v < rd R w
theorem BI.put {U : Int → Int} {out R : List Int} (h : BI t U out R) {b v : Int} (hb0 : 0 ≤ b) (hb1 : b < t.length) (hb : rd out b < 0) (hv0 : 0 ≤ v) (hv1 : v < R.length) (hU : U b = U (rd R v)) (hr : rd R v ≤ b) : BI t U (out.set b.toNat v) R := by
 have hl := h.len
 have g : ∀ x : Int, 0 ≤ x → rd (out.set b.toNat v) x = if x = b then v else rd out x := fun x h0 => rdset hb0 (by omega) h0
 refine ⟨by rw [List.length_set]; exact hl, fun x h0 h1 => ?_, fun w h0 h1 => ?_, fun x h0 h1 hx => ?_, fun x h0 h1 hx => ?_, h.incr⟩
 next =>
  rw [g x h0]; split
  next =>
   exact .inr ⟨hv0, hv1⟩
  next =>
   exact h.val x h0 h1
 next =>
  obtain ⟨a0, a1, a2⟩ := h.rng w h0 h1
  refine ⟨a0, a1, ?_⟩
  rw [g _ a0, if_neg (fun e => by rw [e] at a2; omega)]; exact a2
 next =>
  rw [g x h0] at hx ⊢
  split
  next =>
   rename_i e; rw [e]; exact hU
  next =>
   rename_i e; rw [if_neg e] at hx; exact h.same x h0 h1 hx
 next =>
  rw [g x h0] at hx ⊢
  split
  next =>
   rename_i e; rw [e]; exact hr
  next =>
   rename_i e; rw [if_neg e] at hx; exact h.first x h0 h1 hx
theorem BI.root {U : Int → Int} {out R : List Int} (h : BI t U out R) {a : Int} (ha0 : 0 ≤ a) (ha1 : a < t.length) (ha : rd out a < 0) (hlt : ∀ v : Int, 0 ≤ v → v < R.length → rd R v < a) : BI t U (out.set a.toNat R.length) (R ++ [a]) := by
 have hl := h.len
 have g : ∀ x : Int, 0 ≤ x → rd (out.set a.toNat (R.length : Int)) x = if x = a then (R.length : Int) else rd out x := fun x h0 => rdset ha0 (by omega) h0
 have hR : (R ++ [a]).length = R.length + 1 := by simp
 have gR : ∀ v : Int, 0 ≤ v → v < R.length → rd (R ++ [a]) v = rd R v := fun v h0 h1 => rdapp R a v h0 h1
 refine ⟨by rw [List.length_set]; exact hl, fun x h0 h1 => ?_, fun w h0 h1 => ?_, fun x h0 h1 hx => ?_, fun x h0 h1 hx => ?_, fun v w h0 h1 h2 => ?_⟩
 next =>
  rw [g x h0]; split
  next =>
   exact .inr ⟨by omega, by omega⟩
  next =>
   rcases h.val x h0 h1 with e | ⟨e1, e2⟩
   next =>
    exact .inl e
   next =>
    exact .inr ⟨e1, by omega⟩
 next =>
  by_cases hw : w < R.length
  rotate_left
  next =>
   obtain rfl : w = (R.length : Int) := by omega
   rw [rdlast]
   exact ⟨ha0, ha1, by rw [g a ha0, if_pos rfl]⟩
  obtain ⟨a0, a1, a2⟩ := h.rng w h0 hw
  rw [gR w h0 hw]
  refine ⟨a0, a1, ?_⟩
  rw [g _ a0, if_neg (fun e => by rw [e] at a2; omega)]; exact a2
 next =>
  rw [g x h0] at hx ⊢
  split
  next =>
   rename_i e; rw [e, rdlast]
  next =>
   rename_i e
   rw [if_neg e] at hx
   have := (h.val x h0 h1).resolve_left (by omega)
   rw [gR _ this.1 this.2]; exact h.same x h0 h1 hx
 next =>
  rw [g x h0] at hx ⊢
  split
  next =>
   rename_i e; rw [e, rdlast]; omega
  next =>
   rename_i e
   rw [if_neg e] at hx
   have := (h.val x h0 h1).resolve_left (by omega)
   rw [gR _ this.1 this.2]; exact h.first x h0 h1 hx
 next =>
  by_cases hw : w < R.length
  next =>
   rw [gR v h0 (by omega), gR w (by omega) hw]; exact h.incr v w h0 h1 hw
  next =>
   obtain rfl : w = (R.length : Int) := by omega
   rw [gR v h0 h1, rdlast]; exact hlt v h0 h1
/-- Whoever has a label and is not waiting has neighbours of the same label. -/
def CL (t : Tri) (out : List Int) (P : Int → Prop) : Prop := ∀ x : Int, 0 ≤ x → x < t.length → 0 ≤ rd out x → ¬ P x → ∀ g : Int, 0 ≤ g → g ≤ 3 → 0 ≤ (fc t x g).f0 → rd out (fc t x g).f0 = rd out x
def Merged (t : Tri) (U : Int → Int) : Prop := ∀ x g : Int, 0 ≤ x → x < t.length → 0 ≤ g → g ≤ 3 → 0 ≤ (fc t x g).f0 → U x = U (fc t x g).f0
theorem nb_ok (h : isTri t = true) {a f : Int} (h0 : 0 ≤ a) (h1 : a < t.length) (hf0 : 0 ≤ f) (hf1 : f ≤ 3) (hb : 0 ≤ (fc t a f).f0) : (fc t a f).f0 < t.length ∧ ∃ g : Int, 0 ≤ g ∧ g ≤ 3 ∧ (fc t (fc t a f).f0 g).f0 = a := by
 rcases face_good h h0 h1 hf0 hf1 with ⟨e, _⟩ | ⟨e, e2, _⟩
 next =>
  omega
 next =>
  have hd := permL_sm e.2.2.1 e.2.2.2 hf0 hf1
  exact ⟨e.2.1, _, hd.1, hd.2, e2⟩
theorem drop_mem (qu e : List Int) (i : Int) (h0 : 0 ≤ i) (h1 : i < qu.length) (x : Int) : x ∈ (qu ++ e).drop i.toNat ↔ x ∈ qu.drop i.toNat ∨ x ∈ e := by
 rw [List.drop_append_of_le_length (by omega), List.mem_append]
/-- The invariant of the search from a root a: N is its label. -/
structure SI (t : Tri) (U : Int → Int) (out R qu : List Int) (N a i : Int) : Prop where
 bi : BI t U out R
 lab : N + 1 = R.length
 lab0 : 0 ≤ N
 root : rd R N = a
 queue : ∀ y ∈ qu, 0 ≤ y ∧ y < t.length ∧ rd out y = N
 low : ∀ x : Int, 0 ≤ x → x < a → 0 ≤ rd out x
 cl : CL t out (fun x => x ∈ qu.drop i.toNat)
 small : uc out + qu.length ≤ 100
theorem SI.visit (h : isTri t = true) {U : Int → Int} (hU : Merged t U) {out R qu : List Int} {N a i f : Int} (hS : SI t U out R qu N a i) (hi0 : 0 ≤ i) (hi1 : i < qu.length) (hf0 : 0 ≤ f) (hf1 : f ≤ 3) (hb : 0 ≤ (fc t (rd qu i) f).f0) (hz : rd out (fc t (rd qu i) f).f0 < 0) :
 SI t U (out.set (fc t (rd qu i) f).f0.toNat N) R (qu ++ [(fc t (rd qu i) f).f0]) N a i ∧ uc (out.set (fc t (rd qu i) f).f0.toNat N) + 1 = uc out ∧ (∀ x : Int, 0 ≤ x → 0 ≤ rd out x → rd (out.set (fc t (rd qu i) f).f0.toNat N) x = rd out x) ∧ rd (out.set (fc t (rd qu i) f).f0.toNat N) (fc t (rd qu i) f).f0 = N := by
 obtain ⟨q0, q1, q2⟩ := hS.queue _ (rdmem hi0 hi1)
 obtain ⟨b1, g, g0, g1, gb⟩ := nb_ok h q0 q1 hf0 hf1 hb
 have hl := hS.bi.len
 have hlab := hS.lab
 have hlab0 := hS.lab0
 have hm := hU _ f q0 q1 hf0 hf1 hb
 generalize (fc t (rd qu i) f).f0 = b at *
 have gs : ∀ x : Int, 0 ≤ x → rd (out.set b.toNat N) x = if x = b then N else rd out x := fun x h0 => rdset hb (by omega) h0
 have hsame := hS.bi.same _ q0 q1 (by omega)
 rw [q2] at hsame
 have hab : a ≤ b := Classical.byContradiction fun hc => by have := hS.low b hb (by omega); omega
 have hkeep : ∀ x : Int, 0 ≤ x → 0 ≤ rd out x → rd (out.set b.toNat N) x = rd out x := fun x h0 hx => by
  rw [gs x h0, if_neg (fun e => by rw [e] at hx; omega)]
 have hself : rd (out.set b.toNat N) b = N := by rw [gs b hb, if_pos rfl]
 have huc := uc_set out b.toNat N (by omega) hz hlab0
 refine ⟨⟨hS.bi.put hb b1 hz hlab0 (by omega) (hm.symm.trans hsame) (by rw [hS.root]; exact hab), hlab, hlab0, hS.root, fun y hy => ?_, fun x h0 h1 => ?_, fun x h0 h1 hx hP g' g0' g1' hg => ?_, ?_⟩, huc, hkeep, hself⟩
 next =>
  rcases List.mem_append.1 hy with hy | hy
  next =>
   obtain ⟨a0, a1, a2⟩ := hS.queue y hy
   exact ⟨a0, a1, by rw [hkeep y a0 (by omega)]; exact a2⟩
  next =>
   rw [List.mem_singleton.1 hy]; exact ⟨hb, b1, hself⟩
 next =>
  have := hS.low x h0 h1
  rw [hkeep x h0 this]; exact this
 next =>
  have hP' := fun hh => hP ((drop_mem qu [b] i hi0 hi1 x).2 hh)
  have hxb : x ≠ b := fun e => hP' (.inr (by rw [e]; exact List.mem_singleton_self _))
  rw [gs x h0, if_neg hxb] at hx ⊢
  have := hS.cl x h0 h1 hx (fun hh => hP' (.inl hh)) g' g0' g1' hg
  rw [hkeep _ hg (by omega)]; exact this
 next =>
  have := hS.small
  rw [List.length_append, List.length_singleton]; omega
theorem l3_eq (k : Nat) (out : List Int) (N a : Int) (qu : List Int) (i f b : Int) (h4 : f < 4) (h0 : 0 ≤ i) (h1 : i < (qu.length : Int)) (q0 : 0 ≤ rd qu i) (q1 : rd qu i < (t.length : Int)) (f0 : 0 ≤ f) (fl : f < ((rd_LFace t (rd qu i)).length : Int)) (e : (fc t (rd qu i) f).f0 = b) :
 spec_l07Parts.l3 (k + 1) out N a qu i f t = (if b ≥ 0 then (if 0 ≤ b then (if b < (out.length : Int) then (if (rd out b) < 0 then (if qu.length < 17592186044416 then (spec_l07Parts.l3 k (out.set ((b : Int)).toNat N) N a (qu ++ [b]) i (wrap64 (f + 1)) t) else (none)) else (spec_l07Parts.l3 k out N a qu i (wrap64 (f + 1)) t)) else (none)) else (none)) else (spec_l07Parts.l3 k out N a qu i (wrap64 (f + 1)) t)) := by
 subst e
 rw [spec_l07Parts.l3, if_pos h4, if_pos h0, if_pos h1, if_pos q0, if_pos q1, if_pos f0, if_pos fl]
theorem l3_new {out qu : List Int} {N a i f b : Int} (h4 : f < 4) (h0 : 0 ≤ i) (h1 : i < (qu.length : Int)) (q0 : 0 ≤ rd qu i) (q1 : rd qu i < (t.length : Int)) (f0 : 0 ≤ f) (fl : f < ((rd_LFace t (rd qu i)).length : Int)) (e : (fc t (rd qu i) f).f0 = b) (hb : 0 ≤ b) (hb1 : b < (out.length : Int)) (hz : rd out b < 0) (hs : qu.length < 17592186044416) {r : List Int}
 (hR : Ev (fun k => spec_l07Parts.l3 k (out.set b.toNat N) N a (qu ++ [b]) i (wrap64 (f + 1)) t) r) : Ev (fun k => spec_l07Parts.l3 k out N a qu i f t) r :=
 ev_step (fun k => by rw [l3_eq k out N a qu i f b h4 h0 h1 q0 q1 f0 fl e, if_pos hb, if_pos hb, if_pos hb1, if_pos hz, if_pos hs]) hR
theorem l3_old {out qu : List Int} {N a i f b : Int} (h4 : f < 4) (h0 : 0 ≤ i) (h1 : i < (qu.length : Int)) (q0 : 0 ≤ rd qu i) (q1 : rd qu i < (t.length : Int)) (f0 : 0 ≤ f) (fl : f < ((rd_LFace t (rd qu i)).length : Int)) (e : (fc t (rd qu i) f).f0 = b) (hb : 0 ≤ b) (hb1 : b < (out.length : Int)) (hz : ¬ rd out b < 0) {r : List Int}
 (hR : Ev (fun k => spec_l07Parts.l3 k out N a qu i (wrap64 (f + 1)) t) r) : Ev (fun k => spec_l07Parts.l3 k out N a qu i f t) r :=
 ev_step (fun k => by rw [l3_eq k out N a qu i f b h4 h0 h1 q0 q1 f0 fl e, if_pos hb, if_pos hb, if_pos hb1, if_neg hz]) hR
theorem l3_none {out qu : List Int} {N a i f b : Int} (h4 : f < 4) (h0 : 0 ≤ i) (h1 : i < (qu.length : Int)) (q0 : 0 ≤ rd qu i) (q1 : rd qu i < (t.length : Int)) (f0 : 0 ≤ f) (fl : f < ((rd_LFace t (rd qu i)).length : Int)) (e : (fc t (rd qu i) f).f0 = b) (hb : ¬ b ≥ 0) {r : List Int}
 (hR : Ev (fun k => spec_l07Parts.l3 k out N a qu i (wrap64 (f + 1)) t) r) : Ev (fun k => spec_l07Parts.l3 k out N a qu i f t) r :=
 ev_step (fun k => by rw [l3_eq k out N a qu i f b h4 h0 h1 q0 q1 f0 fl e, if_neg hb]) hR
/-- The faces of one tetrahedron. -/
theorem row_b (h : isTri t = true) {U : Int → Int} (hU : Merged t U) {R : List Int} {N a i : Int} (hi0 : 0 ≤ i) : ∀ (d f : Nat) (out qu : List Int), f + d = 4 → SI t U out R qu N a i → i < qu.length →
 (∀ g : Int, 0 ≤ g → g < f → 0 ≤ (fc t (rd qu i) g).f0 → rd out (fc t (rd qu i) g).f0 = N) →
 ∃ out' qu' : List Int, SI t U out' R qu' N a i ∧ i < qu'.length ∧ uc out' + qu'.length = uc out + qu.length ∧ (∀ g : Int, 0 ≤ g → g ≤ 3 → 0 ≤ (fc t (rd qu' i) g).f0 → rd out' (fc t (rd qu' i) g).f0 = N) ∧
  ∀ r : List Int, Ev (fun k => spec_l07Parts.l2 k out' N a qu' (i + 1) t) r → Ev (fun k => spec_l07Parts.l3 k out N a qu i (f : Int) t) r
 | 0, f, out, qu, hf, hS, hi1, hg => by
  obtain rfl : f = 4 := by omega
  have hs := hS.small
  refine ⟨out, qu, hS, hi1, rfl, fun g g0 g1 hh => hg g g0 (by omega) hh, fun r hr => ?_⟩
  refine ev_step (fun k => by rw [spec_l07Parts.l3, if_neg (by omega), wrap_id (show -9223372036854775808 ≤ i + 1 by omega) (by omega)]) ?_
  exact hr
 | d + 1, f, out, qu, hf, hS, hi1, hg => by
  have f4 : (f : Int) < 4 := by omega
  have f0 : (0 : Int) ≤ (f : Int) := by omega
  have f3 : (f : Int) ≤ 3 := by omega
  have hw : wrap64 ((f : Int) + 1) = ((f + 1 : Nat) : Int) := wrap_succ (by omega)
  have hd : (f + 1) + d = 4 := by omega
  have hqs : qu.length < 17592186044416 := by have hs := hS.small; omega
  have q0 := (hS.queue _ (rdmem hi0 hi1)).1
  have q1 := (hS.queue _ (rdmem hi0 hi1)).2.1
  have Q2 := Aside0.mk (hS.queue _ (rdmem hi0 hi1)).2.2
  have FL := Aside0.mk (show (f : Int) < ((rd_LFace t (rd qu i)).length : Int) by rw [rowlen h q0 q1]; exact f4)
  have hl := hS.bi.len
  have hlab0 := hS.lab0
  have hgl : ∀ g : Int, g < ((f + 1 : Nat) : Int) → ¬ g = (f : Int) → g < (f : Int) := fun g h1 h2 => by clear q0 q1 hl hlab0 hqs; omega
  obtain ⟨b, HBD⟩ : ∃ b : Int, Aside0 ((fc t (rd qu i) (f : Int)).f0 = b) := ⟨_, ⟨rfl⟩⟩
  by_cases hb : 0 ≤ b
  rotate_left
  next =>
   obtain ⟨out', qu', k1, k2, k3, k4, k5⟩ := row_b h hU hi0 d (f + 1) out qu hd hS hi1 (fun g g0 g1 hh => by
    by_cases e : g = (f : Int)
    next =>
     rw [e, HBD.out] at hh; exact absurd hh hb
    next =>
     exact hg g g0 (hgl g g1 e) hh)
   exact ⟨out', qu', k1, k2, k3, k4, fun r hR => l3_none f4 hi0 hi1 q0 q1 f0 FL.out HBD.out hb (by rw [hw]; exact k5 r hR)⟩
  obtain ⟨b1, g', g0', g1', gb'⟩ := nb_ok h q0 q1 f0 f3 (by rw [HBD.out]; exact hb)
  rw [HBD.out] at b1 gb'
  have GB := Aside0.mk gb'
  clear gb'
  by_cases hz : rd out b < 0
  rotate_left
  next =>
   have hz0 : 0 ≤ rd out b := Int.not_lt.1 hz
   have HZ := Aside0.mk hz
   have HZ0 := Aside0.mk hz0
   clear hz hz0
   obtain ⟨out', qu', k1, k2, k3, k4, k5⟩ := row_b h hU hi0 d (f + 1) out qu hd hS hi1 (fun g g0 g1 hh => by
    by_cases e : g = (f : Int)
    next =>
     rw [e, HBD.out]
     refine Classical.byContradiction fun hne => ?_
     have hnq : ¬ b ∈ qu.drop i.toNat := fun hm => hne (hS.queue _ (List.mem_of_mem_drop hm)).2.2
     have := hS.cl _ hb b1 HZ0.out hnq g' g0' g1' (by rw [GB.out]; exact q0)
     rw [GB.out, Q2.out] at this
     exact hne this.symm
    next =>
     exact hg g g0 (hgl g g1 e) hh)
   exact ⟨out', qu', k1, k2, k3, k4, fun r hR => l3_old f4 hi0 hi1 q0 q1 f0 FL.out HBD.out hb (by rw [hl]; exact b1) HZ.out (by rw [hw]; exact k5 r hR)⟩
  obtain ⟨s1, s2, s3, s4⟩ := hS.visit h hU hi0 hi1 f0 f3 (by rw [HBD.out]; exact hb) (by rw [HBD.out]; exact hz)
  rw [HBD.out] at s1 s2 s3 s4
  have S4 := Aside0.mk s4
  have HZ := Aside0.mk hz
  clear s4 hz
  have hq1 : i < ((qu ++ [b]).length : Int) := by rw [List.length_append, List.length_singleton]; clear s1 s2 s3 q0 q1 hl hlab0 hw; omega
  have E9 := Aside0.mk (show rd (qu ++ [b]) i = rd qu i from rdapp qu _ i hi0 hi1)
  obtain ⟨out', qu', k1, k2, k3, k4, k5⟩ := row_b h hU hi0 d (f + 1) _ _ hd s1 hq1 (fun g g0 g1 hh => by
   rw [E9.out] at hh ⊢
   by_cases e : g = (f : Int)
   next =>
    rw [e, HBD.out]; exact S4.out
   next =>
    have := hg g g0 (hgl g g1 e) hh
    rw [s3 _ hh (by rw [this]; exact hlab0)]; exact this)
  refine ⟨out', qu', k1, k2, by rw [k3, List.length_append, List.length_singleton]; clear k1 k2 k3 k4 k5 q0 q1 hl hlab0 hq1; omega, k4, fun r hR => ?_⟩
  exact l3_new f4 hi0 hi1 q0 q1 f0 FL.out HBD.out hb (by rw [hl]; exact b1) HZ.out hqs (by rw [hw]; exact k5 r hR)
/-- The queue. -/
theorem queue_b (h : isTri t = true) {U : Int → Int} (hU : Merged t U) {R : List Int} {N a : Int} : ∀ (m : Nat) (out qu : List Int) (i : Int), 0 ≤ i → SI t U out R qu N a i → (uc out + qu.length : Int) - i < m →
 ∃ out' : List Int, BI t U out' R ∧ (∀ x : Int, 0 ≤ x → x < a → 0 ≤ rd out' x) ∧ CL t out' (fun _ => False) ∧ ∀ r : List Int, Ev (fun k => spec_l07Parts.l1 k out' (N + 1) (a + 1) t) r → Ev (fun k => spec_l07Parts.l2 k out N a qu i t) r
 | m, out, qu, i, hi0, hS, hm => by
  have hs := hS.small
  have h8 := (isTri_good h).1
  have hlab := hS.lab
  have hlab0 := hS.lab0
  by_cases hi1 : i < (qu.length : Int)
  next =>
   cases m with
   | zero => omega
   | succ m =>
    obtain ⟨out1, qu1, k1, k2, k3, k4, k5⟩ := row_b h hU hi0 4 0 out qu (by omega) hS hi1 (fun g g0 g1 => by omega)
    obtain ⟨q0, q1, q2⟩ := k1.queue _ (rdmem hi0 k2)
    obtain ⟨out', j1, j2, j3, j4⟩ := queue_b h hU m out1 qu1 (i + 1) (by omega) ⟨k1.bi, k1.lab, k1.lab0, k1.root, k1.queue, k1.low, fun x h0 h1 hx hP g g0 g1 hg => by
     by_cases e : x = rd qu1 i
     next =>
      subst e
      rw [q2]; exact k4 g g0 g1 hg
     next =>
      refine k1.cl x h0 h1 hx (fun hd => hP ?_) g g0 g1 hg
      have hdrop : qu1.drop i.toNat = rd qu1 i :: qu1.drop (i + 1).toNat := by
       obtain ⟨n, rfl⟩ := Int.eq_ofNat_of_zero_le hi0
       rw [Int.toNat_natCast, List.drop_eq_getElem_cons (by omega), rd_lt qu1 n (by omega)]
       rfl
      rw [hdrop] at hd
      exact (List.mem_cons.1 hd).resolve_left e, k1.small⟩ (by omega)
    exact ⟨out', j1, j2, j3, fun r hr => ev_step (f := fun k => spec_l07Parts.l3 k out N a qu i ((0 : Nat) : Int) t) (fun k => by rw [spec_l07Parts.l2, if_pos hi1]; rfl) (k5 r (j4 r hr))⟩
  next =>
   have hR : R.length ≤ 1000 := by
    refine Classical.byContradiction fun hc => ?_
    have hb := hS.bi
    have : ∀ v : Nat, v < R.length → (v : Int) ≤ rd R (v : Int) := by
     intro v
     induction v with
     | zero => intro hv; exact (hb.rng 0 (by omega) (by omega)).1
     | succ v ih =>
      intro hv
      have h1 := ih (by omega)
      have h2 := hb.incr (v : Int) ((v + 1 : Nat) : Int) (by omega) (by omega) (by omega)
      omega
    have h1 := this 100 (by omega)
    have h2 := (hb.rng ((100 : Nat) : Int) (by omega) (by omega)).2.1
    omega
   have hra := (hS.bi.rng N hlab0 (by omega)).2.1
   have hra0 := (hS.bi.rng N hlab0 (by omega)).1
   rw [hS.root] at hra hra0
   refine ⟨out, hS.bi, hS.low, fun x h0 h1 hx _ g g0 g1 hg => hS.cl x h0 h1 hx (fun hd => ?_) g g0 g1 hg, fun r hr => ?_⟩
   next =>
    rw [List.drop_eq_nil_of_le (by omega)] at hd
    cases hd
   next =>
    exact ev_step (fun k => by rw [spec_l07Parts.l2, if_neg hi1, wrap_id (show -9223372036854775808 ≤ N + 1 by omega) (by omega), wrap_id (show -9223372036854775808 ≤ a + 1 by omega) (by omega)]) hr
theorem all_b (h : isTri t = true) {U : Int → Int} (hU : Merged t U) : ∀ (d : Nat) (a : Int) (out R : List Int), 0 ≤ a → a + d = t.length → BI t U out R → (∀ x : Int, 0 ≤ x → x < a → 0 ≤ rd out x) → CL t out (fun _ => False) → (∀ v : Int, 0 ≤ v → v < R.length → rd R v < a) →
 ∃ out' R' : List Int, Ev (fun k => spec_l07Parts.l1 k out (R.length : Int) a t) out' ∧ BI t U out' R' ∧ (∀ x : Int, 0 ≤ x → x < t.length → 0 ≤ rd out' x) ∧ CL t out' (fun _ => False)
 | 0, a, out, R, ha, hd, hB, hlow, hC, hR => ⟨out, R, ev_step (f := fun _ => some out) (fun k => by rw [spec_l07Parts.l1, spec_l07Tets.f, yfy, if_neg (by omega)]) (Ev.now _), hB, fun x h0 h1 => hlow x h0 (by omega), hC⟩
 | d + 1, a, out, R, ha, hd, hB, hlow, hC, hR => by
  have h8 := (isTri_good h).1
  have hl := hB.len
  by_cases hz : rd out a ≥ 0
  next =>
   obtain ⟨out', R', e1, e2, e3, e4⟩ := all_b h hU d (a + 1) out R (by omega) (by omega) hB (fun x h0 h1 => by
    by_cases e : x = a
    next =>
     rw [e]; exact hz
    next =>
     exact hlow x h0 (by omega)) hC (fun v h0 h1 => by have := hR v h0 h1; omega)
   exact ⟨out', R', ev_step (fun k => by rw [spec_l07Parts.l1, spec_l07Tets.f, yfy, if_pos (by omega), if_pos ha, if_pos (by omega), if_pos hz, wrap_id (show -9223372036854775808 ≤ a + 1 by omega) (by omega)]) e1, e2, e3, e4⟩
  next =>
   have hB1 := hB.root ha (by omega) (by omega) hR
   have gs : ∀ x : Int, 0 ≤ x → rd (out.set a.toNat (R.length : Int)) x = if x = a then (R.length : Int) else rd out x := fun x h0 => rdset ha (by omega) h0
   have huc := uc_set out a.toNat (R.length : Int) (by omega) (by
    have : rd out a < 0 := by omega
    exact this) (by omega)
   have hul := uc_le out
   have hS : SI t U (out.set a.toNat (R.length : Int)) (R ++ [a]) [a] (R.length : Int) a 0 := by
    refine ⟨hB1, by simp, by omega, rdlast R a, fun y hy => ?_, fun x h0 h1 => ?_, fun x h0 h1 hx hP g g0 g1 hg => ?_, by simp; omega⟩
    next =>
     rw [List.mem_singleton.1 hy]; exact ⟨ha, by omega, by rw [gs a ha, if_pos rfl]⟩
    next =>
     rw [gs x h0, if_neg (by omega)]; exact hlow x h0 h1
    next =>
     have hxa : x ≠ a := fun e => hP (by rw [e]; exact List.mem_singleton_self _)
     rw [gs x h0, if_neg hxa] at hx ⊢
     have := hC x h0 h1 hx (fun hf => hf) g g0 g1 hg
     rw [gs _ hg, if_neg (fun e => by rw [e] at this; omega)]; exact this
   have hnext : ∀ out1 : List Int, BI t U out1 (R ++ [a]) → (∀ x : Int, 0 ≤ x → x < a → 0 ≤ rd out1 x) → CL t out1 (fun _ => False) → ∃ out' R' : List Int, Ev (fun k => spec_l07Parts.l1 k out1 ((R.length : Int) + 1) (a + 1) t) out' ∧ BI t U out' R' ∧ (∀ x : Int, 0 ≤ x → x < t.length → 0 ≤ rd out' x) ∧ CL t out' (fun _ => False) := fun out1 b1 b2 b3 => by
    have e9 : ((R ++ [a]).length : Int) = (R.length : Int) + 1 := by simp
    have hla := (b1.rng (R.length : Int) (by omega) (by omega)).2.2
    rw [rdlast] at hla
    have := all_b h hU d (a + 1) out1 (R ++ [a]) (by omega) (by omega) b1 (fun x h0 h1 => by
     by_cases e : x = a
     next =>
      rw [e, hla]; omega
     next =>
      exact b2 x h0 (by omega)) b3 (fun v h0 h1 => by
     by_cases hv : v < R.length
     next =>
      rw [rdapp R a v h0 hv]; have := hR v h0 hv; omega
     next =>
      obtain rfl : v = (R.length : Int) := by omega
      rw [rdlast]; omega)
    rw [e9] at this
    exact this
   obtain ⟨out1, b1, b2, b3, hev⟩ := queue_b h hU 200 (out.set a.toNat (R.length : Int)) [a] 0 (Int.le_refl 0) hS (by simp; omega)
   obtain ⟨out', R', e1, e2, e3, e4⟩ := hnext out1 b1 b2 b3
   exact ⟨out', R', ev_step (fun k => by rw [spec_l07Parts.l1, spec_l07Tets.f, yfy, if_pos (by omega), if_pos ha, if_pos (by omega), if_neg hz]) (hev _ e1), e2, e3, e4⟩
theorem can_of {U : Int → Int} {out R : List Int} (hB : BI t U out R) (hall : ∀ x : Int, 0 ≤ x → x < t.length → 0 ≤ rd out x) : ∀ (d i m : Nat), i + d = out.length → (∀ v : Int, 0 ≤ v → v < R.length → (rd R v < i ↔ v < m)) → CanFrom m (out.drop i)
 | 0, i, m, hi, hm => by rw [List.drop_eq_nil_of_le (by omega)]; exact .nil m
 | d + 1, i, m, hi, hm => by
  have hlt : i < out.length := by omega
  have hl := hB.len
  have hg : rd out (i : Int) = out[i] := rd_lt out i hlt
  have h0 := hall (i : Int) (by omega) (by omega)
  have hv := (hB.val (i : Int) (by omega) (by omega)).resolve_left (by omega)
  have hf := hB.first (i : Int) (by omega) (by omega) h0
  rw [List.drop_eq_getElem_cons hlt]
  rw [hg] at h0 hv hf
  generalize out[i] = v at *
  by_cases hr : rd R v < i
  next =>
   refine .old h0 ((hm v h0 hv.2).1 hr) (can_of hB hall d (i + 1) m (by omega) (fun u u0 u1 => ?_))
   rw [← hm u u0 u1]
   constructor
   next =>
    intro hh
    refine Classical.byContradiction fun hc => ?_
    have e : rd R u = (i : Int) := by omega
    have := (hB.rng u u0 u1).2.2
    rw [e, hg] at this
    rw [this] at hr
    omega
   next =>
    intro hh; omega
  next =>
   have er : rd R v = (i : Int) := by omega
   have ev : v = (m : Int) := by
    have h1 : ¬ v < m := fun hh => hr ((hm v h0 hv.2).2 hh)
    by_cases hz : v = 0
    next =>
     omega
    next =>
     have := hB.incr (v - 1) v (by omega) (by omega) hv.2
     have := (hm (v - 1) (by omega) (by omega)).1 (by omega)
     omega
   rw [ev]
   refine .new (can_of hB hall d (i + 1) (m + 1) (by omega) (fun u u0 u1 => ?_))
   have hmu := hm u u0 u1
   constructor
   next =>
    intro hh
    by_cases e : rd R u < i
    next =>
     have := hmu.1 e; omega
    next =>
     have e : rd R u = (i : Int) := by omega
     have := (hB.rng u u0 u1).2.2
     rw [e, hg] at this
     omega
   next =>
    intro hh
    by_cases e : u < m
    next =>
     have := hmu.2 e; omega
    next =>
     have : u = v := by omega
     rw [this, er]; omega
theorem init_b (n : Nat) (hn : n ≤ 1000000) {r : List Int} : ∀ (d i : Nat) (out : List Int), i + d = n → out.length = n → (∀ x : Int, 0 ≤ x → x < i → rd out x = -1) → (∀ out' : List Int, out'.length = n → (∀ x : Int, 0 ≤ x → x < n → rd out' x = -1) → Ev (fun k => spec_l07Parts.l1 k out' 0 0 t) r) → Ev (fun k => spec_l07Parts.l0 k out (i : Int) t) r
 | 0, i, out, hi, hl, hv, hk => by
  refine ev_step (fun k => by rw [spec_l07Parts.l0, if_neg (by omega)]) ?_
  exact hk out hl (fun x h0 h1 => hv x h0 (by omega))
 | d + 1, i, out, hi, hl, hv, hk => by
  refine ev_step (fun k => by rw [spec_l07Parts.l0, if_pos (by omega), if_pos (by omega), wrap_succ (by omega)]) ?_
  refine init_b n hn d (i + 1) _ (by omega) (by simp [hl]) (fun x h0 h1 => ?_) hk
  rw [rdset (by omega) (by omega) h0]
  split
  next =>
   rfl
  next =>
   exact hv x h0 (by omega)
/-- What the reference's search comes to. -/
theorem parts_ev (h : isTri t = true) {U : Int → Int} (hU : Merged t U) : ∃ out : List Int, Ev (fun k => spec_l07Parts.f k t) out ∧ out.length = t.length ∧ CanFrom 0 out ∧ (∀ x g : Int, 0 ≤ x → x < t.length → 0 ≤ g → g ≤ 3 → 0 ≤ (fc t x g).f0 → rd out (fc t x g).f0 = rd out x) ∧
 (∀ x y : Int, 0 ≤ x → x < t.length → 0 ≤ y → y < t.length → rd out x = rd out y → U x = U y) := by
 have h8 := (isTri_good h).1
 have hinit : ∀ out0 : List Int, out0.length = t.length → (∀ x : Int, 0 ≤ x → x < t.length → rd out0 x = -1) → ∃ out R : List Int, Ev (fun k => spec_l07Parts.l1 k out0 0 0 t) out ∧ BI t U out R ∧ (∀ x : Int, 0 ≤ x → x < t.length → 0 ≤ rd out x) ∧ CL t out (fun _ => False) := fun out0 hl hv => by
  have := all_b h hU t.length 0 out0 [] (by omega) (by omega) ⟨hl, fun x h0 h1 => .inl (hv x h0 h1), fun v h0 h1 => by simp at h1; omega, fun x h0 h1 hx => by rw [hv x h0 h1] at hx; omega, fun x h0 h1 hx => by rw [hv x h0 h1] at hx; omega, fun v w h0 h1 h2 => by simp at h2; omega⟩ (fun x h0 h1 => by omega) (fun x h0 h1 hx => by rw [hv x h0 h1] at hx; omega) (fun v h0 h1 => by simp at h1; omega)
  exact this
 have hrep : ∃ out0 : List Int, out0.length = t.length ∧ (∀ x : Int, 0 ≤ x → x < t.length → rd out0 x = -1) ∧ ∀ r, Ev (fun k => spec_l07Parts.l1 k out0 0 0 t) r → Ev (fun k => spec_l07Parts.f k t) r := by
  refine ⟨List.replicate t.length (-1), by simp, fun x h0 h1 => ?_, fun r hr => ?_⟩
  next =>
   obtain ⟨n, rfl⟩ := Int.eq_ofNat_of_zero_le h0
   rw [rd_lt _ n (by simp; omega)]; simp
  next =>
   refine ev_pos (by omega) (ev_pos (by omega) ?_)
   rw [Int.toNat_natCast]
   refine init_b (t := t) t.length (by omega) t.length 0 (List.replicate t.length 0) (by omega) (by simp) (fun x h0 h1 => by omega) (fun out' hl hv => ?_)
   have e : out' = List.replicate t.length (-1) := by
    refine List.ext_getElem (by simp [hl]) (fun j h1 h2 => ?_)
    have := hv (j : Int) (by omega) (by omega)
    rw [rd_lt out' j h1] at this
    rw [this]; simp
   rw [e]; exact hr
 obtain ⟨out0, hl0, hv0, hk⟩ := hrep
 obtain ⟨out, R, e1, e2, e3, e4⟩ := hinit out0 hl0 hv0
 refine ⟨out, hk out e1, e2.len, ?_, fun x g h0 h1 g0 g1 hg => e4 x h0 h1 (e3 x h0 h1) (fun hf => hf) g g0 g1 hg, fun x y x0 x1 y0 y1 he => ?_⟩
 next =>
  have := can_of e2 e3 out.length 0 0 (by omega) (fun v v0 v1 => by have := (e2.rng v v0 v1).1; omega)
  rwa [List.drop_zero] at this
 next =>
  rw [e2.same x x0 x1 (e3 x x0 x1), e2.same y y0 y1 (e3 y y0 y1), he]
end
theorem uni_rd (s : List Int) (i k x : Int) (h0 : 0 ≤ x) (h1 : x < s.length) : rd (uni s i k) x = if rd s x = rd s k then rd s i else rd s x := by
  obtain ⟨n, rfl⟩ := Int.eq_ofNat_of_zero_le h0
  exact uni_get s i k n (by omega)
theorem dn_next {x a g : Int} (g0 : 0 ≤ g) (g1 : g ≤ 3) (h : x < a + 1 ∨ (x = a + 1 ∧ g < 0)) : x < a ∨ (x = a ∧ g < 4) := by omega
theorem dn_step {x a g f : Int} (h : x < a ∨ (x = a ∧ g < f + 1)) : (x < a ∨ (x = a ∧ g < f)) ∨ (x = a ∧ g = f) := by omega
section
variable {t : Tri}
/-- Marks whose classes are no coarser than need be. -/
structure MI (t : Tri) (m : List Int) : Prop where
  len : m.length = t.length
  rng : ∀ x : Int, 0 ≤ x → x < t.length → 0 ≤ rd m x ∧ rd m x < t.length
  fine : ∀ V : Int → Int, Merged t V → ∀ x y : Int, 0 ≤ x → x < t.length → 0 ≤ y → y < t.length → rd m x = rd m y → V x = V y
theorem MI.uni (h : isTri t = true) {m : List Int} (hM : MI t m) {a f : Int} (a0 : 0 ≤ a) (a1 : a < t.length) (f0 : 0 ≤ f) (f1 : f ≤ 3) (hb : 0 ≤ (fc t a f).f0) : MI t (uni m a (fc t a f).f0) := by
  have b1 := (nb_ok h a0 a1 f0 f1 hb).1
  have hV : ∀ V : Int → Int, Merged t V → V a = V (fc t a f).f0 := fun V hV => hV a f a0 a1 f0 f1 hb
  generalize (fc t a f).f0 = b at hb b1 hV ⊢
  have g : ∀ x : Int, 0 ≤ x → x < t.length → rd (Lib.uni m a b) x = if rd m x = rd m b then rd m a else rd m x := fun x x0 x1 => uni_rd m a b x x0 (by rw [hM.len]; exact x1)
  refine ⟨by rw [uni_length]; exact hM.len, fun x x0 x1 => ?_, fun V hv x y x0 x1 y0 y1 he => ?_⟩
  · rw [g x x0 x1]; split
    · exact hM.rng a a0 a1
    · exact hM.rng x x0 x1
  · rw [g x x0 x1, g y y0 y1] at he
    have e := hV V hv
    have fx := hM.fine V hv x b x0 x1 hb b1
    have fy := hM.fine V hv y b y0 y1 hb b1
    by_cases c1 : rd m x = rd m b
    · rw [if_pos c1] at he
      by_cases c2 : rd m y = rd m b
      · rw [fx c1, fy c2]
      · rw [if_neg c2] at he
        rw [fx c1, ← e]; exact hM.fine V hv a y a0 a1 y0 y1 he
    · rw [if_neg c1] at he
      by_cases c2 : rd m y = rd m b
      · rw [if_pos c2] at he
        rw [fy c2, ← e]; exact hM.fine V hv x a x0 x1 a0 a1 he
      · rw [if_neg c2] at he; exact hM.fine V hv x y x0 x1 y0 y1 he
/-- The faces ahead of (a, f) are merged. -/
def Dn (t : Tri) (m : List Int) (a f : Int) : Prop := ∀ x g : Int, 0 ≤ x → x < t.length → 0 ≤ g → g ≤ 3 → (x < a ∨ (x = a ∧ g < f)) → 0 ≤ (fc t x g).f0 → rd m x = rd m (fc t x g).f0
theorem cl1_eq (k : Nat) (m : List Int) (a f n : Int) (R : List SFace) (h4 : f < 4) (f0 : 0 ≤ f) (fl : f < (R.length : Int)) : impl_Triangulation_components.l1 (k + 1) m a t n a R 4 f = (if decide ((rd_Face R f).f0 < 0) = true then (impl_Triangulation_components.l1 k m a t n a R 4 (wrap64 (f + 1))) else ((impl_union.f m a ((rd_Face R f).f0)).bind fun t113 => (impl_Triangulation_components.l1 k t113 a t n a R 4 (wrap64 (f + 1))))) := by
  rw [impl_Triangulation_components.l1, if_pos h4, if_pos f0, if_pos fl, impl_Face_isBoundary.f, yfy]
theorem comp_l1 (h : isTri t = true) {a : Int} (a0 : 0 ≤ a) (a1 : a < t.length) (hw1 : wrap64 (a + 1) = a + 1) : ∀ (d f : Nat) (m : List Int), f + d = 4 → MI t m → Dn t m a f →
    ∃ m' : List Int, MI t m' ∧ Dn t m' (a + 1) 0 ∧ ∀ r : List Int, Ev (fun k => impl_Triangulation_components.l0 k m' t (t.length : Int) (a + 1)) r → Ev (fun k => impl_Triangulation_components.l1 k m a t (t.length : Int) a (rd_LFace t a) 4 (f : Int)) r
  | 0, f, m, hf, hM, hD => by
    obtain rfl : f = 4 := by omega
    refine ⟨m, hM, fun x g x0 x1 g0 g1 hc hb => hD x g x0 x1 g0 g1 (dn_next g0 g1 hc) hb, fun r hr => ?_⟩
    exact ev_step (fun k => by rw [impl_Triangulation_components.l1, if_neg (by omega), hw1]) hr
  | d + 1, f, m, hf, hM, hD => by
    have f4 : (f : Int) < 4 := by omega
    have f0 : (0 : Int) ≤ (f : Int) := by omega
    have f3 : (f : Int) ≤ 3 := by omega
    have hw : wrap64 ((f : Int) + 1) = ((f + 1 : Nat) : Int) := wrap_succ (by omega)
    have hd : (f + 1) + d = 4 := by omega
    have ec : ((f + 1 : Nat) : Int) = (f : Int) + 1 := by omega
    have fl : (f : Int) < ((rd_LFace t a).length : Int) := by rw [rowlen h a0 a1]; exact f4
    by_cases hb : (fc t a (f : Int)).f0 < 0
    · obtain ⟨m', k1, k2, k3⟩ := comp_l1 h a0 a1 hw1 d (f + 1) m hd hM (fun x g x0 x1 g0 g1 hc hg => by
        rw [ec] at hc
        rcases dn_step hc with hc | ⟨rfl, rfl⟩
        · exact hD x g x0 x1 g0 g1 hc hg
        · exact absurd hb (Int.not_lt.2 hg))
      exact ⟨m', k1, k2, fun r hr => ev_step (fun k => by rw [cl1_eq k m a f _ _ f4 f0 fl, if_pos (ygy hb), hw]) (k3 r hr)⟩
    · have hb0 : 0 ≤ (fc t a (f : Int)).f0 := Int.not_lt.1 hb
      have b1 := (nb_ok h a0 a1 f0 f3 hb0).1
      have hun : impl_union.f m a (fc t a (f : Int)).f0 = some (uni m a (fc t a (f : Int)).f0) := by
        unfold impl_union.f
        rw [if_pos ⟨a0, by rw [hM.len]; exact a1, hb0, by rw [hM.len]; exact b1⟩]
      obtain ⟨m', k1, k2, k3⟩ := comp_l1 h a0 a1 hw1 d (f + 1) _ hd (hM.uni h a0 a1 f0 f3 hb0) (fun x g x0 x1 g0 g1 hc hg => by
        have y1 := (nb_ok h x0 x1 g0 g1 hg).1
        rw [uni_rd m a _ x x0 (by rw [hM.len]; exact x1), uni_rd m a _ _ hg (by rw [hM.len]; exact y1)]
        rw [ec] at hc
        rcases dn_step hc with hc | ⟨e1, e2⟩
        · rw [hD x g x0 x1 g0 g1 hc hg]
        · rw [e1, e2, if_pos rfl]
          split <;> rfl)
      refine ⟨m', k1, k2, fun r hr => ev_step (f := fun k => impl_Triangulation_components.l1 k (uni m a (fc t a (f : Int)).f0) a t (t.length : Int) a (rd_LFace t a) 4 ((f + 1 : Nat) : Int)) (fun k => ?_) (k3 r hr)⟩
      rw [cl1_eq k m a f _ _ f4 f0 fl, if_neg (fun hc => hb (of_decide_eq_true hc)), hw]
      show (impl_union.f m a (fc t a (f : Int)).f0).bind _ = _
      rw [hun, yfy]
theorem comp_l0 (h : isTri t = true) (h8 : t.length ≤ 8) : ∀ (d : Nat) (a : Int) (m : List Int), 0 ≤ a → a + d = t.length → MI t m → Dn t m a 0 →
    ∃ m' : List Int, MI t m' ∧ Dn t m' t.length 0 ∧ Ev (fun k => impl_Triangulation_components.l0 k m t (t.length : Int) a) (numb m')
  | 0, a, m, a0, hd, hM, hD => by
    obtain rfl : a = (t.length : Int) := by omega
    have hl := hM.len
    have hok : numOk m = true := by
      unfold numOk
      rw [Bool.and_eq_true, decide_eq_true_eq, List.all_eq_true]
      refine ⟨by omega, fun x hx => ygy ?_⟩
      obtain ⟨i, hi, rfl⟩ := List.getElem_of_mem hx
      have := hM.rng (i : Int) (by omega) (by omega)
      rw [rd_lt m i hi] at this
      generalize m[i] = v at *
      omega
    refine ⟨m, hM, hD, ev_step (f := fun _ => some (numb m)) (fun k => ?_) (Ev.now _)⟩
    rw [impl_Triangulation_components.l0, if_neg (by omega), impl_numbered.f, if_pos hok, yfy]
  | d + 1, a, m, a0, hd, hM, hD => by
    have a1 : a < (t.length : Int) := by omega
    have hw1 : wrap64 (a + 1) = a + 1 := wrap_id (by omega) (by omega)
    have hd1 : a + 1 + (d : Int) = t.length := by omega
    have a2 : 0 ≤ a + 1 := by omega
    obtain ⟨m1, k1, k2, k3⟩ := comp_l1 h a0 a1 hw1 4 0 m rfl hM hD
    obtain ⟨m', j1, j2, j3⟩ := comp_l0 h h8 d (a + 1) m1 a2 hd1 k1 k2
    refine ⟨m', j1, j2, ev_step (f := fun k => impl_Triangulation_components.l1 k m a t (t.length : Int) a (rd_LFace t a) 4 ((0 : Nat) : Int)) (fun k => ?_) (k3 _ j3)⟩
    rw [impl_Triangulation_components.l0, if_pos a1, if_pos a0, if_pos a1, rowlen h a0 a1]
    rfl
theorem counting_ev (n : Nat) (hn : n ≤ 1000) : ∀ (d i : Nat), i + d = n → Ev (fun k => impl_counting.l0 k (upFrom 0 i) (n : Int) (i : Int)) (upFrom 0 n)
  | 0, i, hd => by
    obtain rfl : i = n := by omega
    exact ev_step (f := fun _ => some (upFrom 0 i)) (fun k => by rw [impl_counting.l0, if_neg (by omega)]) (Ev.now _)
  | d + 1, i, hd => by
    refine ev_step (fun k => ?_) (counting_ev n hn d (i + 1) (by omega))
    rw [impl_counting.l0, if_pos (by omega), if_pos (by rw [upFrom_length]; omega), wrap_succ (by omega), upFrom_snoc, Int.zero_add]
theorem components_ev (h : isTri t = true) : ∃ m : List Int, MI t m ∧ Merged t (rd m) ∧ Ev (fun k => impl_Triangulation_components.f k t) (numb m) := by
  have h8 := (isTri_good h).1
  have hr0 : ∀ x : Int, 0 ≤ x → x < t.length → rd (upFrom 0 t.length) x = x := fun x x0 x1 => by
    obtain ⟨n, rfl⟩ := Int.eq_ofNat_of_zero_le x0
    have := upFrom_get 0 t.length n (by omega)
    rw [Int.zero_add] at this
    exact this
  have h0 : MI t (upFrom 0 t.length) := ⟨upFrom_length _ _, fun x x0 x1 => by rw [hr0 x x0 x1]; exact ⟨x0, x1⟩, fun V hv x y x0 x1 y0 y1 he => by rw [hr0 x x0 x1, hr0 y y0 y1] at he; rw [he]⟩
  obtain ⟨m, k1, k2, k3⟩ := comp_l0 h h8 t.length 0 (upFrom 0 t.length) (Int.le_refl 0) (Int.zero_add _) h0 (fun x g x0 x1 g0 g1 hc hb => absurd hc (by omega))
  refine ⟨m, k1, fun x g x0 x1 g0 g1 hb => k2 x g x0 x1 g0 g1 (.inl x1) hb, ?_⟩
  exact Ev.bind (Ev.now (t.length : Int)) (Ev.bind (counting_ev t.length (by omega) t.length 0 (Nat.zero_add _)) k3)
end
/-- Both sides' lists of classes are one. -/
theorem parts_same {t : Tri} (h : isTri t = true) : ∃ out : List Int, out.length = t.length ∧ CanFrom 0 out ∧ Ev (fun k => spec_l07Parts.f k t) out ∧ Ev (fun k => impl_Triangulation_components.f k t) out ∧
    (∀ x g : Int, 0 ≤ x → x < t.length → 0 ≤ g → g ≤ 3 → 0 ≤ (fc t x g).f0 → rd out (fc t x g).f0 = rd out x) := by
  obtain ⟨m, m1, m2, m3⟩ := components_ev h
  obtain ⟨out, o1, o2, o3, o4, o5⟩ := parts_ev h m2
  have hker : Ker m out := by
    refine ⟨m1.len.trans o2.symm, fun i j hi hj => ?_⟩
    rw [m1.len] at hi hj
    have i1 : (i : Int) < t.length := Int.ofNat_lt.2 hi
    have j1 : (j : Int) < t.length := Int.ofNat_lt.2 hj
    have i0 : (0 : Int) ≤ i := Int.natCast_nonneg i
    have j0 : (0 : Int) ≤ j := Int.natCast_nonneg j
    constructor
    · exact fun e => m1.fine (rd out) (fun x g x0 x1 g0 g1 hb => (o4 x g x0 x1 g0 g1 hb).symm) i j i0 i1 j0 j1 e
    · exact fun e => o5 i j i0 i1 j0 j1 e
  rw [hker.numb, numb_can o3] at m3
  exact ⟨out, o2, o3, o1, m3, o4⟩
end Go.Proofs.Ytcnemjcmnhlflaa.P
namespace Go.Proofs.Ytcnemjcmnhlflaa.P
open Go.RowKit Go.Proofs.YtcnemjcmnhlflaaW.PrintWords Go.Proofs.Ytcnemjcmnhlflaa.Lib
set_option linter.unusedVariables false
set_option linter.unusedSimpArgs false
theorem ic_mx_ge : ∀ (xs : List Int) (x : Int), x ≤ xs.foldl mx x ∧ ∀ y ∈ xs, y ≤ xs.foldl mx x
  | [], x => ⟨Int.le_refl _, fun y hy => by cases hy⟩
  | z :: zs, x => by
    have h0 : x ≤ mx x z ∧ z ≤ mx x z := by unfold mx; split <;> omega
    obtain ⟨k1, k2⟩ := ic_mx_ge zs (mx x z)
    refine ⟨by show x ≤ zs.foldl mx (mx x z); omega, fun y hy => ?_⟩
    show y ≤ zs.foldl mx (mx x z)
    rcases List.mem_cons.1 hy with h | h
    · subst h; omega
    · exact k2 y h
theorem ic_mx_mem : ∀ (xs : List Int) (x : Int), xs.foldl mx x = x ∨ xs.foldl mx x ∈ xs
  | [], x => .inl rfl
  | z :: zs, x => by
    have h0 : mx x z = x ∨ mx x z = z := by unfold mx; split <;> simp
    rcases ic_mx_mem zs (mx x z) with h | h
    · have e : (z :: zs).foldl mx x = mx x z := h
      rcases h0 with h0 | h0
      · exact .inl (e.trans h0)
      · exact .inr (by rw [e, h0]; exact List.mem_cons_self ..)
    · exact .inr (List.mem_cons_of_mem _ h)
theorem ic_can {m : Nat} {l : List Int} (h : CanFrom m l) : ∀ v ∈ l, 0 ≤ v ∧ v < ((m + l.length : Nat) : Int) := by
  induction h with
  | nil m => exact fun v hv => (by cases hv)
  | @old m x xs h0 h1 h ih =>
    intro v hv
    rw [List.length_cons]
    rcases List.mem_cons.1 hv with e | e
    · subst e; omega
    · have := ih v e; omega
  | @new m xs h ih =>
    intro v hv
    rw [List.length_cons]
    rcases List.mem_cons.1 hv with e | e
    · subst e; omega
    · have := ih v e; omega
/-- Whether there is one class at the most: no number above nought. -/
def oneC (l : List Int) : Bool := l.all fun x => decide (¬ 0 < x)
/-- The program's count of the classes says the same. -/
theorem cls_one {l : List Int} (h : CanFrom 0 l) (hl : l.length ≤ 8) : ∃ n : Int, impl_classCount.f l = some n ∧ (n > 1 ↔ oneC l = false) ∧ (n < 1 ↔ l.length = 0) := by
  have hb := ic_can h
  cases l with
  | nil => exact ⟨0, by unfold impl_classCount.f; rfl, by simp [oneC], by simp⟩
  | cons x xs =>
    obtain ⟨g1, g2⟩ := ic_mx_ge xs x
    have hm : xs.foldl mx x ∈ x :: xs := by
      rcases ic_mx_mem xs x with e | e
      · rw [e]; exact List.mem_cons_self ..
      · exact List.mem_cons_of_mem _ e
    have hmb := hb _ hm
    rw [Nat.zero_add] at hmb
    rw [List.length_cons] at hl hmb
    refine ⟨xs.foldl mx x + 1, ?_, ?_, by rw [List.length_cons]; omega⟩
    · unfold impl_classCount.f slices_Max_Sint64.f
      rw [if_neg (by simp only [List.length_cons]; omega), yfy, wrap_id (by omega) (by omega)]
    · constructor
      · intro hn
        refine Bool.eq_false_iff.2 fun e => ?_
        have := List.all_eq_true.1 e _ hm
        rw [decide_eq_true_eq] at this
        omega
      · intro hn
        refine Decidable.byContradiction fun hc => ?_
        refine Bool.eq_false_iff.1 hn (List.all_eq_true.2 fun y hy => ygy ?_)
        rcases List.mem_cons.1 hy with e | e
        · subst e; omega
        · have := g2 y e; omega
theorem single_l0 (l : List Int) (hl : l.length ≤ 8) : ∀ d i : Nat, i + d = l.length → Ev (fun k => spec_l11Single.l0 k l (i : Int)) (oneC (l.drop i)) := by
  intro d
  induction d with
  | zero =>
    intro i hi
    rw [List.drop_eq_nil_of_le (by omega)]
    exact ev_step (f := fun _ => some true) (fun k => by rw [spec_l11Single.l0, if_neg (by omega)]) (Ev.now _)
  | succ d ih =>
    intro i hi
    have hlt : i < l.length := by omega
    refine ev_step (fun k => by rw [spec_l11Single.l0, if_pos (by omega), if_pos (by omega), rd_lt l i hlt, wrap_succ (by omega)]) ?_
    rw [List.drop_eq_getElem_cons hlt]
    by_cases e : l[i] > 0
    · have : oneC (l[i] :: l.drop (i + 1)) = false := by
        unfold oneC; rw [List.all_cons, yhy (by omega), Bool.false_and]
      rw [this]
      exact ev_pos e (Ev.now _)
    · have : oneC (l[i] :: l.drop (i + 1)) = oneC (l.drop (i + 1)) := by
        unfold oneC; rw [List.all_cons, ygy (by omega), Bool.true_and]
      rw [this]
      exact ev_neg e (ih (i + 1) (by omega))
/-- Both sides see alike whether a triangulation hangs together. -/
theorem single_same {t : Tri} (h : isTri t = true) : ∃ (b : Bool) (out : List Int) (n : Int), Ev (fun k => spec_l11Single.f k t) b ∧ Ev (fun k => impl_Triangulation_components.f k t) out ∧ impl_classCount.f out = some n ∧ (n > 1 ↔ b = false) ∧ (n < 1 ↔ t.length = 0) := by
  obtain ⟨out, h1, h2, h3, h4, _⟩ := parts_same h
  have h8 := (isTri_good h).1
  obtain ⟨n, n1, n2⟩ := cls_one h2 (by omega)
  have := single_l0 out (by omega) out.length 0 (by omega)
  rw [List.drop_zero] at this
  exact ⟨oneC out, out, n, Ev.bind h3 this, h4, n1, n2.1, by rw [← h1]; exact n2.2⟩
theorem trOk_of {t : Tri} (h : isTri t = true) : TrOk t t.length := by
  obtain ⟨h8, h4, _⟩ := isTri_good h
  refine ⟨rfl, h4, fun r hr x hx hb => ?_⟩
  obtain ⟨i, hi, rfl⟩ := List.getElem_of_mem hr
  obtain ⟨j, hj, rfl⟩ := List.getElem_of_mem hx
  have hj4 := h4 _ (List.getElem_mem hi)
  have e : fc t (i : Int) (j : Int) = t[i][j] := by show rd_Face (rd_LFace t (i : Int)) (j : Int) = _; rw [rd_LFace_lt t i hi, rd_Face_lt _ j hj]
  rcases face_good h (a := (i : Int)) (f := (j : Int)) (by omega) (by omega) (by omega) (by omega) with ⟨e1, _⟩ | ⟨e1, _⟩
  · rw [e] at e1; exact absurd (by omega) hb
  · rw [e] at e1; exact ⟨e1.2.1, e1.2.2.1, e1.2.2.2⟩
theorem psOk_from : ∀ d : Nat, psOk (40 + d) = true
  | 0 => by decide +kernel
  | d + 1 => psOk_mono (psOk_from d)
theorem icOk_ev {a b : Tri} (ha : isTri a = true) (hb : isTri b = true) (hl : a.length = b.length) {r : Int} : Ev (fun k => if icOk k a b then some r else none) r := by
  refine ⟨40, fun n hn => ?_⟩
  have := psOk_from (n - 40)
  rw [show 40 + (n - 40) = n by omega] at this
  exact if_pos ⟨this, by omega, (isTri_good ha).1, trOk_of ha, by rw [hl]; exact trOk_of hb⟩
/-- The identity, as far as it has been spread. -/
structure SpI (n : Nat) (s : SpS) : Prop where
  ok : SpOk n s
  idt : ∀ i : Int, 0 ≤ i → i < (n : Int) → 0 ≤ rd s.X i → rd s.X i = i ∧ rd s.Y i = 0
theorem q_id {q : Int} (h0 : 0 ≤ q) (h1 : q ≤ 23) : compP (compP (invP q) 0) q = 0 := by
  obtain ⟨m, rfl⟩ : ∃ m : Fin 24, q = (m.val : Int) := ⟨⟨q.toNat, by omega⟩, by simp; omega⟩
  have key : ∀ m : Fin 24, compP (compP (invP (m.val : Int)) 0) (m.val : Int) = 0 := by decide +kernel
  exact key m
theorem im_id {f : Int} (h0 : 0 ≤ f) (h1 : f < 4) : rd (permL 0) f = f := by
  obtain ⟨m, rfl⟩ : ∃ m : Fin 4, f = (m.val : Int) := ⟨⟨f.toNat, by omega⟩, by simp; omega⟩
  have key : ∀ m : Fin 4, rd (permL 0) (m.val : Int) = (m.val : Int) := by decide +kernel
  exact key m
theorem sp_no {n : Nat} {s : SpS} (h : SpI n s) {v : Int} (v0 : 0 ≤ v) (v1 : v < (n : Int)) (hn : rd s.X v < 0) : ¬ v ∈ s.X := fun hm => by
  obtain ⟨j, hj, e⟩ := List.getElem_of_mem hm
  have hj1 : (j : Int) < (n : Int) := by rw [h.ok.lx] at hj; omega
  have e1 : rd s.X (j : Int) = v := by rw [rd_lt _ _ hj]; exact e
  have e2 := (h.idt (j : Int) (by omega) hj1 (by rw [e1]; exact v0)).1
  rw [e1] at e2
  have e3 : rd s.X v = v := by rw [e2] at e1 ⊢; exact e1
  omega
theorem spAt_id {n : Nat} {s : SpS} (h : SpI n s) {x : SFace} (hx : ¬ x.f0 < 0 → x.f0 < (n : Int) ∧ 0 ≤ x.f1 ∧ x.f1 ≤ 23) : ∃ s', spAt 0 x x s = some s' ∧ SpI n s' ∧ (∀ i : Int, 0 ≤ i → i < (n : Int) → 0 ≤ rd s.X i → 0 ≤ rd s'.X i) := by
  unfold spAt
  by_cases a1 : x.f0 < 0
  · exact ⟨s, by rw [if_pos a1, if_pos a1], h, fun i _ _ hi => hi⟩
  · rw [if_neg a1, if_neg a1]
    obtain ⟨x1, x2, x3⟩ := hx a1
    have eq : spQ 0 x x = 0 := q_id x2 x3
    have hxl : x.f0 < (s.X.length : Int) := by rw [h.ok.lx]; exact x1
    have hyl : x.f0 < (s.Y.length : Int) := by rw [h.ok.ly]; exact x1
    by_cases a2 : rd s.X x.f0 < 0
    · rw [if_pos a2, if_neg (sp_no h (by omega) x1 a2), eq]
      refine ⟨_, rfl, ⟨h.ok.put (by omega) x1 a2 (by omega) x1 (by omega) (by omega), fun i i0 i1 hi => ?_⟩, fun i i0 i1 hi => ?_⟩
      · dsimp only at hi ⊢
        rw [rd_setI (by omega) hxl i0] at hi ⊢
        rw [rd_setI (by omega) hyl i0]
        by_cases e : i = x.f0
        · rw [if_pos e, if_pos e]; exact ⟨e.symm, rfl⟩
        · rw [if_neg e] at hi ⊢
          rw [if_neg e]
          exact h.idt i i0 i1 hi
      · dsimp only
        rw [rd_setI (by omega) hxl i0]
        split <;> omega
    · rw [if_neg a2, if_pos]
      · exact ⟨s, rfl, h, fun i _ _ hi => hi⟩
      · have := h.idt x.f0 (by omega) x1 (by omega)
        rw [eq]; exact this
theorem spRow_id {n : Nat} {t : Tri} (ht : TrOk t n) {c : Int} (c0 : 0 ≤ c) (c1 : c < (n : Int)) : ∀ (d : Nat) (f : Int) (s : SpS), 0 ≤ f → f + d = 4 → SpI n s → 0 ≤ rd s.X c → ∃ s', spRow t t c 0 d f s = some s' ∧ SpI n s'
  | 0, f, s, f0, hd, h, hc => ⟨s, rfl, h⟩
  | d + 1, f, s, f0, hd, h, hc => by
    have f1 : f < 4 := by omega
    obtain ⟨s1, h1, h2, h3⟩ := spAt_id h (x := fcA t c f) (fun hb => trOk_face ht c0 c1 f0 f1 hb)
    obtain ⟨s2, h4, h5⟩ := spRow_id ht c0 c1 d (f + 1) s1 (by omega) (by omega) h2 (h3 c c0 c1 hc)
    refine ⟨s2, ?_, h5⟩
    show (spFace t t c 0 f s).bind _ = some s2
    unfold spFace
    rw [(h.idt c c0 c1 hc).1, im_id f0 f1, h1]
    exact h4
theorem spGo_id {n : Nat} {t : Tri} (ht : TrOk t n) : ∀ (k i : Nat) (s : SpS), n < k + i → i ≤ n → SpI n s → spGo t t k i s = true
  | 0, i, s, hk, hi, h => by omega
  | k + 1, i, s, hk, hin, h => by
    rw [spGo]
    by_cases hi : i < s.L.length
    · rw [if_pos hi]
      have e : rd s.L (i : Int) = s.L[i] := rd_lt _ _ hi
      obtain ⟨⟨b0, b1⟩, b2⟩ := h.ok.lb _ (List.getElem_mem hi)
      rw [e, (h.idt _ b0 b1 b2).2]
      obtain ⟨s1, h1, h2⟩ := spRow_id ht b0 b1 4 0 s (Int.le_refl 0) rfl h b2
      rw [h1]
      exact spGo_id ht k (i + 1) s1 (by omega) (by have := h.ok.len; omega) h2
    · rw [if_neg hi]
theorem spHit_id {t : Tri} (ht : TrOk t t.length) (hn : 0 < t.length) : spHit t t t.length 0 0 = true := by
  unfold spHit
  refine spGo_id ht _ 0 _ (by omega) (by omega) ⟨spOk_start hn (by omega) (by omega) (by omega) (by omega), fun i i0 i1 hi => ?_⟩
  have hz : ∀ i : Int, 0 ≤ i → rd ((List.replicate t.length (-1 : Int)).set 0 0) i = if i = 0 then 0 else rd (List.replicate t.length (-1)) i := fun i hi => rd_setI (l := List.replicate t.length (-1 : Int)) (i := 0) (v := 0) (Int.le_refl 0) (by rw [List.length_replicate]; omega) hi
  have hi' : 0 ≤ rd ((List.replicate t.length (-1 : Int)).set 0 0) i := hi
  show rd ((List.replicate t.length (-1 : Int)).set 0 0) i = i ∧ rd ((List.replicate t.length (-1 : Int)).set 0 0) i = 0
  rw [hz i i0] at hi' ⊢
  by_cases e : i = 0
  · rw [if_pos e]; exact ⟨e.symm, rfl⟩
  · rw [if_neg e, rd_rep i0 i1] at hi'
    omega
theorem cntP_pos {a b : Tri} {n tt q : Nat} (h : spHit a b n tt q = true) : ∀ p, q < p → 1 ≤ cntP a b n tt p
  | 0, hq => by omega
  | p + 1, hq => by
    rw [cntP]
    by_cases e : q = p
    · rw [← e, if_pos h]; omega
    · have := cntP_pos h p (by omega); omega
theorem cntT_pos {a b : Tri} {n u q : Nat} (h : spHit a b n u q = true) (hq : q < 24) : ∀ tt, u < tt → 1 ≤ cntT a b n tt
  | 0, hu => by omega
  | tt + 1, hu => by
    rw [cntT]
    by_cases e : u = tt
    · have := cntP_pos h 24 hq; rw [e] at this; omega
    · have := cntT_pos h hq tt (by omega); omega
/-- A triangulation's isomorphisms with itself are no fewer than one. -/
theorem cnt_self {t : Tri} (h : isTri t = true) (hn : 0 < t.length) : 1 ≤ cntT t t t.length t.length := cntT_pos (spHit_id (trOk_of h) hn) (by omega) _ hn
/-- The number of all relabellings. -/
def osP : Nat → Int
  | 0 => 1
  | i + 1 => osP i * 24 * ((i : Int) + 1)
def osF : Nat → Int
  | 0 => 1
  | i + 1 => osF i * ((i : Int) + 1)
def osM (n : Nat) : Nat → Int
  | 0 => osF n
  | i + 1 => osM n i * 24
theorem osP_step {i : Nat} (h : i < 8) : wrap64 (wrap64 (osP i * 24) * ((i : Int) + 1)) = osP (i + 1) := by
  have key : ∀ i : Fin 8, wrap64 (wrap64 (osP i.val * 24) * ((i.val : Int) + 1)) = osP (i.val + 1) := by decide +kernel
  exact key ⟨i, h⟩
theorem osF_step {i : Nat} (h : i < 8) : wrap64 (osF i * ((i : Int) + 1)) = osF (i + 1) := by
  have key : ∀ i : Fin 8, wrap64 (osF i.val * ((i.val : Int) + 1)) = osF (i.val + 1) := by decide +kernel
  exact key ⟨i, h⟩
theorem osM_step {n i : Nat} (hn : n < 9) (h : i < 8) : wrap64 (osM n i * 24) = osM n (i + 1) := by
  have key : ∀ (n : Fin 9) (i : Fin 8), wrap64 (osM n.val i.val * 24) = osM n.val (i.val + 1) := by decide +kernel
  exact key ⟨n, hn⟩ ⟨i, h⟩
theorem osM_eq {n : Nat} (hn : n < 9) : osM n n = osP n := by
  have key : ∀ n : Fin 9, osM n.val n.val = osP n.val := by decide +kernel
  exact key ⟨n, hn⟩
theorem os_spec_l0 {t : Tri} (h8 : t.length ≤ 8) {R : Int × Int} (hR : Ev (fun k => (spec_IsomorphismCount.f k t t).bind fun c => (if c = 0 then none else some (wrap64 (Int.tdiv (osP t.length) c), (0 : Int)))) R) : ∀ (d i : Nat), i + d = t.length → Ev (fun k => spec_OrbitSize.l0 k (osP i) ((i : Int) + 1) t) R
  | 0, i, hd => by
    have e : i = t.length := by omega
    subst e
    refine ev_step (fun k => ?_) hR
    rw [spec_OrbitSize.l0, spec_l07Tets.f, yfy, if_neg (by omega)]
  | d + 1, i, hd => by
    refine ev_step (fun k => ?_) (os_spec_l0 h8 hR d (i + 1) (by omega))
    rw [spec_OrbitSize.l0, spec_l07Tets.f, yfy, if_pos (by omega), osP_step (by omega), wrap_id (by omega) (by omega)]
    rfl
theorem os_impl_fact (n : Nat) (hn : n ≤ 8) : ∀ (d i : Nat), i + d = n → Ev (fun k => impl_factorial.l0 k (n : Int) (osF i) ((i : Int) + 1)) (osF n)
  | 0, i, hd => by
    have e : i = n := by omega
    subst e
    exact ev_step (f := fun _ => some (osF i)) (fun k => by rw [impl_factorial.l0, if_neg (by omega)]) (Ev.now _)
  | d + 1, i, hd => by
    refine ev_step (fun k => ?_) (os_impl_fact n hn d (i + 1) (by omega))
    rw [impl_factorial.l0, if_pos (by omega), osF_step (by omega), wrap_id (by omega) (by omega)]
    rfl
theorem os_impl_l0 {t : Tri} (h8 : t.length ≤ 8) {R : Int × Int} (hR : Ev (fun k => (impl_IsomorphismCount.f k t t).bind fun c => (if c = 0 then none else some (wrap64 (Int.tdiv (osP t.length) c), (0 : Int)))) R) : ∀ (d i : Nat), i + d = t.length → Ev (fun k => impl_OrbitSize.l0 k (osM t.length i) (t.length : Int) (i : Int) t) R
  | 0, i, hd => by
    have e : i = t.length := by omega
    subst e
    refine ev_step (fun k => ?_) hR
    rw [impl_OrbitSize.l0, if_neg (by omega), osM_eq (by omega)]
  | d + 1, i, hd => by
    refine ev_step (fun k => ?_) (os_impl_l0 h8 hR d (i + 1) (by omega))
    rw [impl_OrbitSize.l0, if_pos (by omega), osM_step (by omega) (by omega), wrap_succ (by omega)]
/-- The orbit's size, plainly the same of both sides. -/
theorem os_same (t : Tri) (ht : Small t) : ∃ r : Int × Int, Ev (fun k => spec_OrbitSize.f k t) r ∧ Ev (fun k => impl_OrbitSize.f k t) r := by
  have st := spec_isTri_ev t
  have it := impl_isTri_ev ht
  by_cases ct : isTri t = true
  · rw [ct] at st it
    obtain ⟨s, out, n, h1, h2, h3, h4, h5⟩ := single_same ct
    by_cases hz : t.length = 0
    · have hn : ¬ n = 1 := by have := h5.2 hz; omega
      refine ⟨(0, 5), Ev.bind st (ev_pos rfl (ev_pos (by omega) ?_)), Ev.bind it (ev_pos rfl (Ev.bind h2 (Ev.bind (ev_const' fun _ => h3) (ev_neg hn (Ev.now _)))))⟩
      exact ev_step (f := fun _ => some (0, 5)) (fun k => by rw [spec_OrbitSize.j0, if_pos rfl]) (Ev.now _)
    · have hz' : ¬ (t.length : Int) = 0 := by omega
      by_cases cs : s = true
      · have hn : n = 1 := by
          have a1 : ¬ n > 1 := fun e => by rw [h4.1 e] at cs; cases cs
          have a2 : ¬ n < 1 := fun e => hz (h5.1 e)
          omega
        have h8 := (isTri_good ct).1
        have hc1 := cnt_self ct (by omega)
        have hcn : ¬ (cntT t t t.length t.length : Int) = 0 := by omega
        have e1 : Ev (fun k => spec_IsomorphismCount.f k t t) (cntT t t t.length t.length : Int) := Ev.bind st (ev_pos rfl (Ev.bind st (ev_pos rfl (Ev.bind h1 (ev_pos cs (ev_pos rfl (ev_neg hz (icOk_ev ct ct rfl))))))))
        have e2 : Ev (fun k => impl_IsomorphismCount.f k t t) (cntT t t t.length t.length : Int) := Ev.bind it (ev_pos rfl (Ev.bind it (ev_pos rfl (Ev.bind h2 (Ev.bind (ev_const' fun _ => h3) (ev_neg (by omega) (ev_pos rfl (ev_neg hz (ev_pos ⟨h8, trOk_of ct, trOk_of ct⟩ (Ev.now _))))))))))
        refine ⟨(wrap64 (Int.tdiv (osP t.length) (cntT t t t.length t.length : Int)), 0), Ev.bind st (ev_pos rfl (ev_neg hz' (Ev.bind h1 ?_))), Ev.bind it (ev_pos rfl (Ev.bind h2 (Ev.bind (ev_const' fun _ => h3) (ev_pos hn (Ev.bind (a := (t.length : Int)) ?_ (Ev.bind (a := osF t.length) ?_ ?_))))))⟩
        · rw [cs]
          refine ev_step (fun k => ?_) (os_spec_l0 h8 (Ev.bind e1 (ev_neg hcn (Ev.now _))) t.length 0 (by omega))
          rw [spec_OrbitSize.j0, if_neg (by decide)]
          rfl
        · exact Ev.now _
        · exact Ev.congr (fun k => rfl) (os_impl_fact t.length h8 (t.length - 1) 1 (by omega))
        · exact os_impl_l0 h8 (Ev.bind e2 (ev_neg hcn (Ev.now _))) t.length 0 (by omega)
      · have hn : ¬ n = 1 := by have := h4.2 (Bool.eq_false_iff.2 cs); omega
        have cs' : s = false := Bool.eq_false_iff.2 cs
        refine ⟨(0, 5), Ev.bind st (ev_pos rfl (ev_neg hz' (Ev.bind h1 ?_))), Ev.bind it (ev_pos rfl (Ev.bind h2 (Ev.bind (ev_const' fun _ => h3) (ev_neg hn (Ev.now _)))))⟩
        rw [cs']
        exact ev_step (f := fun _ => some (0, 5)) (fun k => by rw [spec_OrbitSize.j0, if_pos (by decide)]) (Ev.now _)
  · exact ⟨(0, 1), Ev.bind st (ev_neg ct (Ev.now _)), Ev.bind it (ev_neg ct (Ev.now _))⟩
end Go.Proofs.Ytcnemjcmnhlflaa.P
namespace Go.Proofs.Ytcnemjcmnhlflaa.Pure
open Go.RowKit Go.Proofs.Ytcnemjcmnhlflaa.P Go.Proofs.Ytcnemjcmnhlflaa.Lib Go.Proofs.YtcnemjcmnhlflaaW.PrintWords
set_option linter.unusedVariables false
theorem FnExactOrbitSize (l : List (List SLawFace)) (h : Fits l) : ∃ k, laws_FnExactOrbitSize.f k l = some true := by
  refine Ev.rounds ?_
  obtain ⟨r, hr, hs⟩ := szTriangulation_ev l h
  refine Ev.bind hr ?_
  by_cases hn : r < 0
  · exact ev_pos hn (Ev.now true)
  have hsm := hs hn
  have hto := toTriangulation_ev l hsm
  have hS := cvT_small hsm
  obtain ⟨o, hsp, him⟩ := os_same (cvT l) hS
  refine ev_neg hn ?_
  refine Ev.bind hto ?_
  refine Ev.bind hsp ?_
  refine Ev.bind hto ?_
  refine Ev.bind him ?_
  refine ev_pos rfl ?_
  have hj : Ev (fun k => laws_FnExactOrbitSize.j0 k (o.2 != o.2) l (cvT l)) true := by
    rw [bne_self_eq_false]
    refine ev_step (f := fun k => (laws_toTriangulation.f k l).bind fun t114 => (laws_eqTriangulation.f k (cvT l) t114).bind fun t117 => if t117 = true then some true else some false) (fun k => by rw [laws_FnExactOrbitSize.j0, if_neg (by decide)]) ?_
    refine Ev.bind hto ?_
    exact Ev.bind (eqTriangulation_ev _ hS) (ev_pos rfl (Ev.now true))
  exact hj
end Go.Proofs.Ytcnemjcmnhlflaa.Pure
namespace Go.Proofs.Ytcnemjcmnhlflaa.Lib
open Go.RowKit Go.Proofs.YtcnemjcmnhlflaaW.PrintWords Go.Joins Go.Deep Go.WideShapes Go.ChangeShapes
set_option linter.unusedVariables false
/-- Whatever reads as data at type t reads as a value of the kind d. -/
def Opens (P : Program) (t : TypeId) {α : Type} (d : Kd α) : Prop := ∀ (H : Type) (enc : TypeId × Value → H) (w : World) (base : Nat) (spare : Nat → Bool) (held : Bool) (fuel : Nat) (cs : List Value) (x : DataW H × List MemPlace),
  DataW.trod enc P w base spare held fuel t cs = some x → ∃ y, d.K w y cs
theorem pick_list {α : Type} {R : Nat → α → Prop} : ∀ n, (∀ i, i < n → ∃ y, R i y) → ∃ ys : List α, ys.length = n ∧ ∀ j p, ys[j]? = some p → R j p
  | 0, _ => ⟨[], rfl, fun j p h => by simp at h⟩
  | n + 1, h => by
    obtain ⟨ys, hl, hr⟩ := pick_list n (fun i hi => h i (by omega))
    obtain ⟨y, hy⟩ := h n (by omega)
    refine ⟨ys ++ [y], by simp [hl], fun j p hj => ?_⟩
    by_cases hlt : j < n
    · rw [List.getElem?_append_left (by omega)] at hj
      exact hr j p hj
    · have hjn : j < (ys ++ [y]).length := (List.getElem?_eq_some_iff.1 hj).1
      have : j = n := by simp [hl] at hjn; omega
      subst this
      rw [List.getElem?_append_right (by omega), hl, Nat.sub_self] at hj
      injection hj with hj
      rw [← hj]
      exact hy
theorem opens_slice {P : Program} {t e : TypeId} {α : Type} {d : Kd α} (ht : P.underlying t = some (.slice e)) (hc : P.cellsOf e = d.sz) (h : Opens P e d) : Opens P t (Kd.slice e d) := by
  intro H enc w base spare held fuel cs x hx
  rcases open_slice ht hx with ⟨rfl, _⟩ | ⟨a, len, cap, m, n, D, Pl, rfl, hb, hl, hm, hmm, _, hi⟩
  · exact ⟨[], none, 0, rfl, yoy _, Kd.C_nil d w⟩
  · have each : ∀ i, i < len → ∃ y, ∃ cs', w.cells? base (a.add (i * d.sz)) d.sz = some cs' ∧ d.K w y cs' := by
      intro i hil
      have him : i < m := by rw [hmm]; split <;> omega
      obtain ⟨cs', h1, h2⟩ := hi i him
      obtain ⟨y, hy⟩ := h H enc w base spare held n cs' _ h2
      rw [hc] at h1
      exact ⟨y, cs', h1, hy⟩
    obtain ⟨ys, hlen, hys⟩ := pick_list len each
    refine ⟨ys, some a, cap, by rw [hlen], by omega, rfl, ?_, fun _ => ⟨a, rfl, fun j p hj => ?_⟩⟩
    · unfold maxLen at hm; omega
    · obtain ⟨cs', h1, h2⟩ := hys j p hj
      obtain ⟨_, h3, h4⟩ := World.cells?_some h1
      refine ⟨cs', h3, h2, fun i u hu => ?_⟩
      have hil : i < d.sz := by rw [← h3]; exact (List.getElem?_eq_some_iff.1 hu).1
      rw [← hu, ← h4 i hil, Go.Deep.add_add]
theorem opens_struct2 {P : Program} {t : TypeId} {f0 f1 : Field} {α : Type} (hs : P.underlying t = some (.struct #[f0, f1])) (hone : oneCellFields P #[f0, f1] = true) (hC : P.cellsOf t = 2)
    (h0 : P.underlying f0.type = some (.int .i64)) (h1 : P.underlying f1.type = some (.int .i64)) (d : Kd α) (mk : Int → Int → α) (hK : ∀ w a b, d.K w (mk a b) [.int .i64 a, .int .i64 b]) : Opens P t d := by
  intro H enc w base spare held fuel cs x h
  obtain ⟨y0, y1, n, hx, hl, g0, g1⟩ := trod_struct2 hs h
  obtain ⟨o0, k0⟩ := hone_of hone 0 f0 rfl
  obtain ⟨o1, k1⟩ := hone_of hone 1 f1 rfl
  rw [hC] at hl
  match cs, hl with
  | [c0, c1], _ =>
    rw [o0, k0] at g0
    rw [o1, k1] at g1
    obtain ⟨a, e0, _, _⟩ := DataW.trod_int h0 g0
    obtain ⟨b, e1, _, _⟩ := DataW.trod_int h1 g1
    simp at e0 e1
    subst e0 e1
    exact ⟨mk a b, hK w a b⟩
section
variable {H : Type} {enc : TypeId × Value → H} {P : Program} {w : World} {base : Nat} {spare : Nat → Bool} {held : Bool}
theorem array1 {α : Type} {cs : Array α} (h : cs.size = 1) : ∃ c0, cs = #[c0] := by
  obtain ⟨l⟩ := cs
  match l, h with
  | [c0], _ => exact ⟨c0, rfl⟩
/-- A struct that holds one slice, by value. -/
theorem open_agg1 {r : Reach} {b0 : Nat} {t e : TypeId} {f0 : Field} {α : Type} {d : Kd α} {v : Value} {D : DataW H} {p : List MemPlace} (hs : P.underlying t = some (.struct #[f0])) (hone : oneCellFields P #[f0] = true) (hC : P.cellsOf t = 1)
    (ho : Opens P f0.type (Kd.slice e d)) (hv : Value.okWide P w r b0 t v) (h : DataW.Trod enc P w base spare held t v D p) :
    ∃ (A : Option Addr) (c : Nat) (l : List α), v = .agg #[.slice A l.length c] ∧ l.length ≤ c ∧ d.C w A l.length l := by
  obtain ⟨cs, rfl, hsz⟩ := okWide_struct hs hv
  obtain ⟨c0, rfl⟩ := array1 (hsz.trans hC)
  obtain ⟨fuel, hf⟩ := h
  obtain ⟨y0, n, hx, _, h0⟩ := trod_struct1 hs hf
  obtain ⟨o0, k0⟩ := hone_of hone 0 f0 rfl
  have h0' : DataW.trod enc P w base spare held n f0.type [c0] = some y0 := by simpa [Value.cells, o0, k0] using h0
  obtain ⟨l, A, c, e1, hl, hCC⟩ := ho H enc w base spare held n _ _ h0'
  simp at e1
  subst e1
  exact ⟨A, c, l, rfl, hl, hCC⟩
end
theorem fits_of_C {e : Nat} {α : Type} {d : Kd α} {w : World} {A : Option Addr} {l : List (List α)} (h : (Kd.slice e d).C w A l.length l) : l.length ≤ 9223372036854775807 ∧ ∀ r ∈ l, r.length ≤ 9223372036854775807 := by
  refine ⟨h.2.1, fun r hr => ?_⟩
  obtain ⟨j, hj, rfl⟩ := List.mem_iff_getElem.1 hr
  obtain ⟨ad, _, hc⟩ := h.2.2 (by omega)
  obtain ⟨c, _, hK, _⟩ := hc j _ (List.getElem?_eq_getElem hj)
  obtain ⟨A', c', _, _, hC⟩ := hK
  exact hC.2.1
end Go.Proofs.Ytcnemjcmnhlflaa.Lib
