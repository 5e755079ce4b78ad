/- The statement FnExactIsomorphismCountSaid, proved: part 6 of 9 (texts of this session and of the kit's print, put together and cut to what is used by a program of it). -/
import Derived.Test.YtfnopcbicceeaaaMFnExactIsomorphismCount5
namespace Go.Proofs.Ytfnopcbicceeaaa.P
open Go.RowKit Go.Proofs.YtfnopcbicceeaaaW.PrintWords Go.Proofs.YtfnopcbicceeaaaW.PrintLast Go.Proofs.YtfnopcbicceeaaaW.PrintMore
attribute [local go_sem] QZ Qa JF JG QK QL Qb Qc
set_option linter.unusedVariables false
set_option linter.unusedSimpArgs false
def ZE.l0 : Nat → List Int → Int → Int → Option (Bool)
  | 0, _, _, _ => none
  | k + 1, x0, x1, x5 => if x5 < (x0.length : Int) then (if 0 ≤ x5 then (if (rd x0 x5) = x1 then (some true) else (ZE.l0 k x0 x1 (wrap64 (x5 + 1)))) else (none)) else (some false)
def ZE.f (k : Nat) (l0 : List Int) (a1 : Int) : Option (Bool) := ZE.l0 k l0 a1 0
set_option maxHeartbeats 8000000 in
set_option maxRecDepth 100000 in
theorem ZE.calls (k : Nat) (A0 : Option Addr) (c0 : Nat) (l0 : List Int) (a1 : Int) (r : Bool) (w : World) (hr0 : Kd.C (Kd.int .i64) w A0 l0.length l0) (hc0 : l0.length ≤ c0) (h : ZE.f k l0 a1 = some r) :
    Calls Try.prog 112 #[.slice A0 l0.length c0, .int .i64 a1] w fun e w' => e = .returned (.bool r) ∧ qA w w' := by
  have HR0 := zA.mk hr0
  have HC0 := zA.mk hc0
  clear hr0 hc0
  have H : (ZE.l0 k l0 a1 0) = some r := h
  clear h
  have H' := zA.mk H
  clear H
  go_enter Try.func112, Try.ntmps112
  go_wp2
  go_loopg [5] k (fun kq v5 w' => ∃ (x5_1 : Int), v5 = .int .i64 x5_1 ∧ zA (ZE.l0 kq l0 a1 x5_1 = some r) ∧ zA (kq ≤ k) ∧ qA w w')
  case atStart => exact ⟨(0), (by first | rfl | (simp; done) | (simp [*]; done)), H', ⟨yoy _⟩, by repeat (first | exact qA.refl _ | apply qA.step)⟩
  case round =>
    clear H'
    try clear c1
    try clear p2
    obtain ⟨x5_1, rfl, HA, HK1, ⟨m1, rfl⟩⟩ := hrel
    cases gk with
    | zero => exact absurd HA.out (by simp [ZE.l0])
    | succ k1 =>
      have H := HA.out
      clear HA
      simp only [ZE.l0] at H
      by_cases c3 : x5_1 < (l0.length : Int)
      · rw [if_pos c3] at H
        have c3b0 : decide (x5_1 < (l0.length : Int)) = true := ygy c3
        clear c3
        by_cases c4 : 0 ≤ x5_1
        · rw [if_pos c4] at H
          have c4b0 : decide (0 ≤ x5_1) = true := ygy c4
          clear c4
          by_cases c5 : (rd l0 x5_1) = a1
          · rw [if_pos c5] at H
            have c5b0 : ((rd l0 x5_1) == a1) = true := beq_iff_eq.mpr c5
            have c5b1 : ((rd l0 x5_1) != a1) = false := bne_eq_false_iff_eq.mpr c5
            clear c5
            obtain rfl := yey H
            have p101 : 0 ≤ (x5_1 : Int) := of_decide_eq_true (by first | (with_reducible assumption) | assumption)
            have q101 : x5_1 < (l0.length : Int) := of_decide_eq_true (by first | (with_reducible assumption) | assumption)
            obtain ⟨ad101, e101, hx101_0⟩ := Kd.ZC HR0.out x5_1 p101 q101
            cases e101
            replace p101 := eq_true p101
            replace q101 := eq_true q101
            go_wp2
            go_ret
            exact ⟨by first | rfl | (simp; done) | (simp [*]; done), by repeat (first | exact qA.refl _ | apply qA.step)⟩
          · rw [if_neg c5] at H
            have c5b0 : ((rd l0 x5_1) == a1) = false := beq_eq_false_iff_ne.mpr c5
            have c5b1 : ((rd l0 x5_1) != a1) = true := bne_iff_ne.mpr c5
            have H' := zA.mk H
            clear H
            have p101 : 0 ≤ (x5_1 : Int) := of_decide_eq_true (by first | (with_reducible assumption) | assumption)
            have q101 : x5_1 < (l0.length : Int) := of_decide_eq_true (by first | (with_reducible assumption) | assumption)
            obtain ⟨ad101, e101, hx101_0⟩ := Kd.ZC HR0.out x5_1 p101 q101
            cases e101
            replace p101 := eq_true p101
            replace q101 := eq_true q101
            go_wp2
            go_roundg k1
            case measure => have := HK1.out; omega
            case rel => exact ⟨(wrap64 (x5_1 + 1)), (by first | rfl | (simp; done) | (simp [*]; done)), H', ⟨by have := HK1.out; omega⟩, by repeat (first | exact qA.refl _ | apply qA.step)⟩
        · rw [if_neg c4] at H
          exact absurd H (by simp)
      · rw [if_neg c3] at H
        have c3b0 : decide (x5_1 < (l0.length : Int)) = false := yhy c3
        clear c3
        obtain rfl := yey H
        go_wp2
        go_ret
        exact ⟨by first | rfl | (simp; done) | (simp [*]; done), by repeat (first | exact qA.refl _ | apply qA.step)⟩
def zD7 (k : Nat) : Bool := decide (∀ m : Fin 24, zv.f k (m.val : Int) = some (Jd (m.val : Int))) && (decide (∀ m n : Fin 24, qW.f k (m.val : Int) (n.val : Int) = some (Qi (m.val : Int) (n.val : Int))) && decide (∀ (m : Fin 24) (f : Fin 4), qw.f k (m.val : Int) (f.val : Int) = some (rd (Zb (m.val : Int)) (f.val : Int))))
theorem zC7 {p : Int} (h0 : 0 ≤ p) (h1 : p ≤ 23) : ∃ m : Fin 24, p = (m.val : Int) := ⟨⟨p.toNat, by omega⟩, by simp; omega⟩
theorem zC8 {k : Nat} (h : zD7 k = true) : (∀ m : Fin 24, zv.f k (m.val : Int) = some (Jd (m.val : Int))) ∧ (∀ m n : Fin 24, qW.f k (m.val : Int) (n.val : Int) = some (Qi (m.val : Int) (n.val : Int))) ∧ (∀ (m : Fin 24) (f : Fin 4), qw.f k (m.val : Int) (f.val : Int) = some (rd (Zb (m.val : Int)) (f.val : Int))) := by
 unfold zD7 at h
 rw [Bool.and_eq_true, Bool.and_eq_true, decide_eq_true_eq, decide_eq_true_eq, decide_eq_true_eq] at h
 exact h
theorem zD8 {k : Nat} (h : zD7 k = true) : zD7 (k + 1) = true := by
 obtain ⟨a, b, c⟩ := zC8 h
 unfold zD7
 rw [Bool.and_eq_true, Bool.and_eq_true, decide_eq_true_eq, decide_eq_true_eq, decide_eq_true_eq]
 exact ⟨fun m => zv.mono _ k _ (a m), fun m n => qW.mono _ _ k _ (b m n), fun m f => qw.mono _ _ k _ (c m f)⟩
theorem zEI {k : Nat} (h : zD7 k = true) {p : Int} (h0 : 0 ≤ p) (h1 : p ≤ 23) : zv.f k p = some (Jd p) := by
 obtain ⟨m, rfl⟩ := zC7 h0 h1; exact (zC8 h).1 m
theorem zD9 {k : Nat} (h : zD7 k = true) {p q : Int} (h0 : 0 ≤ p) (h1 : p ≤ 23) (h2 : 0 ≤ q) (h3 : q ≤ 23) : qW.f k p q = some (Qi p q) := by
 obtain ⟨m, rfl⟩ := zC7 h0 h1; obtain ⟨n, rfl⟩ := zC7 h2 h3; exact (zC8 h).2.1 m n
theorem ps_at {k : Nat} (h : zD7 k = true) {p f : Int} (h0 : 0 ≤ p) (h1 : p ≤ 23) (h2 : 0 ≤ f) (h3 : f < 4) : qw.f k p f = some (rd (Zb p) f) := by
 obtain ⟨m, rfl⟩ := zC7 h0 h1
 obtain ⟨n, rfl⟩ : ∃ m : Fin 4, f = (m.val : Int) := ⟨⟨f.toNat, by omega⟩, by simp; omega⟩
 exact (zC8 h).2.2 m n
theorem zE2 (l : List Int) (v : Int) (hl : l.length ≤ 1000000) : ∀ (d i k : Nat), i + d = l.length → d < k → ZE.l0 k l v (i : Int) = some (decide (v ∈ l.drop i))
 | _, _, 0, _, hk => by omega
 | 0, i, k + 1, h, hk => by rw [ZE.l0, if_neg (by omega), List.drop_eq_nil_of_le (by omega)]; simp
 | d + 1, i, k + 1, h, hk => by
  have hi : i < l.length := by omega
  have e : rd l (i : Int) = l[i] := by simp [rd, hi]
  rw [ZE.l0, if_pos (by omega), if_pos (by omega), List.drop_eq_getElem_cons hi, e]
  by_cases c : l[i] = v
  next =>
   rw [if_pos c]; simp [c]
  next =>
   rw [if_neg c, show wrap64 ((i : Int) + 1) = ((i + 1 : Nat) : Int) by unfold wrap64; omega, zE2 l v hl d (i + 1) k (by omega) (by omega)]
   have c2 : ¬ v = l[i] := fun e2 => c e2.symm
   exact congrArg some (decide_eq_decide.2 ⟨fun h => List.mem_cons_of_mem _ h, fun h => by
    rcases List.mem_cons.1 h with h | h
    next =>
     exact absurd h c2
    next =>
     exact h⟩)
theorem has_eq {k : Nat} {l : List Int} (v : Int) (hl : l.length ≤ 8) (hk : 10 ≤ k) : ZE.f k l v = some (decide (v ∈ l)) := by
 have := zE2 l v (by omega) l.length 0 k (by omega) (by omega)
 rwa [List.drop_zero] at this
set_option maxHeartbeats 8000000 in
set_option maxRecDepth 100000 in
theorem zAU.calls (k n : Nat) (hpk : zD7 k = true) (hk10 : 10 ≤ k) (hn : n ≤ 8) (A0 : Option Addr) (c0 : Nat) (la : List (List qJ)) (A1 : Option Addr) (c1 : Nat) (lb : List (List qJ)) (gx cx gy cy : Nat) (X Y : List Int) (s0 : Int) (w0 w : World) (hB : Below w0.heap.size w0 w)
 (hra : Kd.C (Kd.slice 59 ZK) w0 A0 n la) (hca : n ≤ c0) (hrb : Kd.C (Kd.slice 59 ZK) w0 A1 n lb) (hcb : n ≤ c1) (hta : zBf la n) (htb : zBf lb n)
 (hx : Kd.R (Kd.int .i64) 2 w w0.heap.size (fun k => k = gx) (.slice (some ⟨gx, 0, none⟩) n cx) X) (hy : Kd.R (Kd.int .i64) 2 w w0.heap.size (fun k => k = gy) (.slice (some ⟨gy, 0, none⟩) n cy) Y) (hne : gx ≠ gy) (hok : zBg n ⟨X, Y, [s0]⟩) :
 Calls Try.prog 64 #[.agg #[.slice A0 n c0], .agg #[.slice A1 n c1], .slice (some ⟨gx, 0, none⟩) n cx, .slice (some ⟨gy, 0, none⟩) n cy, .int .i64 s0] w fun e w' => e = .returned (.bool (zA2 la lb (n + 1) 0 ⟨X, Y, [s0]⟩)) ∧ Below w0.heap.size w0 w' ∧ ∀ k, k < w.heap.size → k ≠ gx → k ≠ gy → w'.heap[k]? = w.heap[k]? := by
 have HRA := zA.mk hra
 have HRB := zA.mk hrb
 have HTA := zA.mk hta
 have HTB := zA.mk htb
 have HPK := zA.mk hpk
 have HOK0 := zA.mk hok
 have BA := zA.mk (zF (ZR (W := w) rfl (.cells #[.slice A0 n c0] 30)) (.cells #[.slice A1 n c1] 30))
 have BB := zA.mk (ZR (W := w.alloc (.cells #[.slice A0 n c0] 30)) (n := w.heap.size + 1) (by simp) (.cells #[.slice A1 n c1] 30))
 have hz1 : ((w.alloc (.cells #[.slice A0 n c0] 30)).alloc (.cells #[.slice A1 n c1] 30)).heap.size = w.heap.size + 2 := by simp
 have hgx : gx < w.heap.size := by
  have h1 := Kd.Zm hx gx rfl
  exact Kd.JV hx gx rfl
 have hgy : gy < w.heap.size := Kd.JV hy gy rfl
 have HG := zA.mk (show SpG w0 ((w.alloc (.cells #[.slice A0 n c0] 30)).alloc (.cells #[.slice A1 n c1] 30)) gx gy from ⟨Kd.Zm hx gx rfl, by rw [hz1]; omega, Kd.Zm hy gy rfl, by rw [hz1]; omega, hne⟩)
 have HW := zA.mk (show SpW w0 ((w.alloc (.cells #[.slice A0 n c0] 30)).alloc (.cells #[.slice A1 n c1] 30)) (((w.alloc (.cells #[.slice A0 n c0] 30)).alloc (.cells #[.slice A1 n c1] 30)).alloc (.cells #[.int .i64 s0] 2)) n gx cx gy cy (.slice (some ⟨w.heap.size + 2, 0, none⟩) 1 1) ⟨X, Y, [s0]⟩ from
  ⟨zC (zC (zC hB _) _) _, by simp, fun k h1 _ _ => Below.heap_alloc _ _ k h1, Kd.zd (Kd.zd (Kd.zd hx _) _) _, Kd.zd (Kd.zd (Kd.zd hy _) _) _,
   Kd.JB ⟨by simp [Qt], .inr ⟨w.heap.size + 2, 1, #[.int .i64 s0], rfl, by rw [hz1]; exact yoy _, ZR hz1 _, yoy 1, by decide, rfl, rfl⟩⟩ (fun _ _ => trivial)⟩)
 clear hra hrb hta htb hpk hok hx hy hB
 generalize hrr : zA2 la lb (n + 1) 0 ⟨X, Y, [s0]⟩ = r
 have HRR := zA.mk hrr
 clear hrr
 go_enter Try.func64, Try.ntmps64
 go_wp2_with fail
 have HEN := zA.mk (show ∀ (W : World) (vL : Value) (s : SpS), SpW w0 ((w.alloc (.cells #[.slice A0 n c0] 30)).alloc (.cells #[.slice A1 n c1] 30)) W n gx cx gy cy vL s → Below w0.heap.size w0 W ∧ ∀ k, k < w.heap.size → k ≠ gx → k ≠ gy → W.heap[k]? = w.heap[k]? from
  fun W vL s h => ⟨h.b0, fun k h1 h2 h3 => (h.kp k (by rw [hz1]; omega) h2 h3).trans ((Below.heap_alloc _ _ k (by simp; omega)).trans (Below.heap_alloc _ _ k h1))⟩)
 clear hz1
 generalize hw1 : (w.alloc (.cells #[.slice A0 n c0] 30)).alloc (.cells #[.slice A1 n c1] 30) = w1 at *
 have hsz1 : w1.heap.size = w.heap.size + 2 := by rw [← hw1]; simp
 clear hw1
 have HSZ := zA.mk hsz1
 clear hsz1
 go_loopg [11, 12] n (fun gg v11 v12 w' => ∃ (i : Nat) (s : SpS), i ≤ n ∧ n - i ≤ gg ∧ v12 = .int .i64 i ∧ zA (SpW w0 w1 w' n gx cx gy cy v11 s) ∧ zA (zBg n s) ∧ zA (zA2 la lb (n + 1 - i) i s = r))
 case atStart => exact ⟨0, _, Nat.zero_le _, by omega, rfl, HW, HOK0, HRR⟩
 case round =>
  clear HW HOK0 HRR
  obtain ⟨i, s, hi9, hgg, rfl, HW, HOK, HRR⟩ := hrel
  have hle := HOK.out.len
  obtain ⟨Av, cv, rfl⟩ := Kd.ZN HW.out.rl
  by_cases hlt : i < s.L.length
  rotate_left
  next =>
   have hrt : true = r := by
    have h := HRR.out
    rw [show n + 1 - i = (n - i) + 1 by omega, zA2, if_neg hlt] at h
    exact h
   subst hrt
   clear HRR
   have hge : ¬ (i : Int) < (s.L.length : Int) := by omega
   go_wp2
   go_ret
   exact ⟨rfl, HEN.out _ _ _ HW.out⟩
  have hltz : (i : Int) < (s.L.length : Int) := by omega
  obtain ⟨gl, cl, hvl, _⟩ := Kd.QV HW.out.rl (by omega)
  injection hvl with hvl1 hvl2 hvl3
  subst hvl1
  subst hvl3
  have hcl := (Kd.qf 0 HW.out.rl (i : Int) (by omega) hltz).1
  replace hcl : wr.cell? ⟨gl, i, none⟩ = some (.int .i64 (rd s.L (i : Int))) := hcl
  have HCL := zA.mk (HOK.out.lb _ (zD0 (l := s.L) (i := (i : Int)) (by omega) hltz))
  have HRR2 := zA.mk (show ((Qx la lb (rd s.L (i : Int)) (rd s.Y (rd s.L (i : Int))) 4 0 s).map (zA2 la lb (n - i) (i + 1))).getD false = r by
   have h := HRR.out
   rw [show n + 1 - i = (n - i) + 1 by omega, zA2, if_pos hlt] at h
   exact h)
  clear HRR
  generalize rd s.L (i : Int) = c at *
  have hc0 : 0 ≤ c := HCL.out.1.1
  have hc1 : c < (n : Int) := HCL.out.1.2
  have HYB := zA.mk (HOK.out.yb c hc0 hc1 HCL.out.2)
  have hcy := (Kd.qf 0 HW.out.ry c hc0 hc1).1
  replace hcy : wr.cell? ⟨gy, c.toNat, none⟩ = some (.int .i64 (rd s.Y c)) := hcy
  obtain ⟨p, hpp⟩ : ∃ p, rd s.Y c = p := ⟨_, rfl⟩
  rw [hpp] at hcy
  replace HYB := zA.mk (show 0 ≤ p ∧ p ≤ 23 by rw [← hpp]; exact HYB.out)
  have HIN := zA.mk (show 0 ≤ rd s.X c ∧ rd s.Y c = p ∧ ((Qx la lb c p (4 - 0) ((0 : Nat) : Int) s).map (zA2 la lb (n - i) (i + 1))).getD false = r from ⟨HCL.out.2, hpp, by rw [← hpp]; exact HRR2.out⟩)
  clear HRR2 HCL hpp
  go_wp2
  go_loopg [11, 15] 4 (fun gg v11 v15 w' => ∃ (f : Nat) (s : SpS), f ≤ 4 ∧ 4 - f ≤ gg ∧ v15 = .int .i64 f ∧ zA (SpW w0 w1 w' n gx cx gy cy v11 s) ∧ zA (zBg n s) ∧ zA (0 ≤ rd s.X c ∧ rd s.Y c = p ∧ ((Qx la lb c p (4 - f) (f : Int) s).map (zA2 la lb (n - i) (i + 1))).getD false = r))
  case atStart => exact ⟨0, _, by omega, by omega, rfl, HW, HOK, HIN⟩
  case round =>
   clear HW HOK HIN hcl hcy
   obtain ⟨f, s2, hf4, hgf, rfl, HW, HOK, HIN⟩ := hrel
   by_cases hlf : f < 4
   rotate_left
   next =>
    obtain rfl : f = 4 := by omega
    go_wp2
    go_roundg (n - (i + 1))
    case measure => omega
    case rel => exact ⟨i + 1, s2, by omega, by omega, by (try simp only [zT]); (first | rfl | rw [show wrap64 ((i : Int) + 1) = ((i + 1 : Nat) : Int) by unfold wrap64; omega]), HW, HOK, ⟨by
     have h := HIN.out.2.2
     rw [Nat.sub_self, Qx, Option.map_some, Option.getD_some] at h
     rw [show n + 1 - (i + 1) = n - i by omega]
     exact h⟩⟩
   have hlfz : (f : Int) < 4 := by omega
   obtain ⟨ada, A3, c3, ea, hya, hla3, hrow⟩ := ZA HRA.out c hc0 hc1
   subst ea
   rw [Jm HTA.out hc0 hc1] at hya hrow
   obtain ⟨adx, ex, hx0, hx1⟩ := ZZ hrow (f : Int) (by omega) hlfz
   subst ex
   replace hya := (HW.out.b0.cell (yny w0 _ hya)).trans hya
   replace hx0 := (HW.out.b0.cell (yny w0 _ hx0)).trans hx0
   replace hx1 := (HW.out.b0.cell (yny w0 _ hx1)).trans hx1
   rw [Int.toNat_natCast] at hx0 hx1
   have hbxA := (HW.out.kp w.heap.size (by have := HSZ.out; omega) (by omega) (by omega)).trans BA.out
   have hbxB := (HW.out.kp (w.heap.size + 1) (by have := HSZ.out; omega) (by omega) (by omega)).trans BB.out
   have hbA : wr.cell? ⟨w.heap.size, 0, none⟩ = some (.slice (some ada) n c0) := (zL hbxA 0).trans rfl
   have HBB := zA.mk hbxB
   clear hbxA hbxB hrow hla3
   have HSP := zA.mk (show ((JW p (fcA la c (f : Int)) (fcA lb (rd s2.X c) (rd (Zb p) (f : Int))) s2).bind (Qx la lb c p (4 - (f + 1)) ((f : Int) + 1)) |>.map (zA2 la lb (n - i) (i + 1))).getD false = r by
    have h := HIN.out.2.2
    rw [show 4 - f = (4 - (f + 1)) + 1 by omega, Qx] at h
    exact h)
   have HTX := zA.mk (Jn HTA.out hc0 hc1 (show (0 : Int) ≤ (f : Int) by omega) hlfz)
   have hXb := HOK.out.rx hc0 hc1
   have hcX := (Kd.qf 0 HW.out.rx c hc0 hc1).1
   replace hcX : wr.cell? ⟨gx, c.toNat, none⟩ = some (.int .i64 (rd s2.X c)) := hcX
   obtain ⟨hp0, hp1⟩ := HYB.out
   have hpf := zDz hp0 hp1 (f := (f : Int)) (by omega) hlfz
   have HPAT := zA.mk (ps_at HPK.out hp0 hp1 (show (0 : Int) ≤ (f : Int) by omega) hlfz)
   have hc2 := HIN.out.1
   have hcY := HIN.out.2.1
   have HINC := zA.mk (And.intro hc2 hcY)
   clear HIN hcY
   obtain ⟨bt, hbt⟩ : ∃ bt, rd s2.X c = bt := ⟨_, rfl⟩
   rw [hbt] at hcX hXb hc2 HSP
   obtain ⟨pf, hpfe⟩ : ∃ pf, rd (Zb p) (f : Int) = pf := ⟨_, rfl⟩
   rw [hpfe] at hpf HPAT HSP
   obtain ⟨hb0, hb1⟩ := hXb
   obtain ⟨hpf0, hpf1⟩ := hpf
   have hpf4 : pf < 4 := by omega
   obtain ⟨adb, A4, c4, eb, hyb, _, hrowb⟩ := ZA HRB.out bt hc2 hb1
   subst eb
   rw [Jm HTB.out hc2 hb1] at hyb hrowb
   obtain ⟨ady, ey, hy0, hy1⟩ := ZZ hrowb pf hpf0 hpf4
   subst ey
   have HTY := zA.mk (Jn HTB.out hc2 hb1 hpf0 hpf4)
   change wr.cell? _ = some (.int .i64 (fcA la c (f : Int)).f0) at hx0
   change wr.cell? _ = some (.int .i64 (fcA la c (f : Int)).f1) at hx1
   change w0.cell? _ = some (.int .i64 (fcA lb bt pf).f0) at hy0
   change w0.cell? _ = some (.int .i64 (fcA lb bt pf).f1) at hy1
   generalize fcA la c (f : Int) = x at hx0 hx1 HSP HTX
   generalize fcA lb bt pf = y at hy0 hy1 HSP HTY
   obtain ⟨x0, x1⟩ := x
   obtain ⟨y0, y1⟩ := y
   have HCB := zA.mk (And.intro hyb (And.intro hy0 hy1))
   clear hyb hy0 hy1 hrowb
   have HWB := zA.mk (HW.out.stays (zC (ypy wr.heap.size wr) (.cells #[.int .i64 x0, .int .i64 x1] 59)))
   have BXB := zA.mk (ZR (W := wr) rfl (.cells #[.int .i64 x0, .int .i64 x1] 59))
   have HBBB := zA.mk (zF HBB.out (.cells #[.int .i64 x0, .int .i64 x1] 59))
   have HCX := zA.mk (show (wr.alloc (.cells #[.int .i64 x0, .int .i64 x1] 59)).cell? ⟨gx, c.toNat, none⟩ = some (.int .i64 bt) from ((zC (ypy wr.heap.size wr) (.cells #[.int .i64 x0, .int .i64 x1] 59)).cell (yny wr _ hcX)).trans hcX)
   have HWR := zA.mk HW.out.sz
   clear hcX HW HBB
   go_wp2_with fail
   have HGB := zA.mk (show w1.heap.size ≤ wr.heap.size from HWR.out)
   generalize hgb : wr.heap.size = gB at *
   generalize wr.alloc (.cells #[.int .i64 x0, .int .i64 x1] 59) = wB at *
   clear hgb hx0 hx1 hya hbA
   have HS9 := zA.mk (show wB.cell? ⟨w.heap.size + 1, 0, none⟩ = some (.slice (some adb) n c1) ∧ wB.cell? ⟨gx, c.toNat, none⟩ = some (.int .i64 bt) ∧ wB.cell? (adb.add bt.toNat) = some (.slice (some ady) 4 c4) ∧ wB.cell? (ady.add (pf.toNat * 2)) = some (.int .i64 y0) ∧ wB.cell? ⟨(ady.add (pf.toNat * 2)).block, (ady.add (pf.toNat * 2)).off + 1, none⟩ = some (.int .i64 y1) from ⟨(zL HBBB.out 0).trans rfl, HCX.out, (HWB.out.b0.cell (yny w0 _ HCB.out.1)).trans HCB.out.1, (HWB.out.b0.cell (yny w0 _ HCB.out.2.1)).trans HCB.out.2.1, (HWB.out.b0.cell (yny w0 _ HCB.out.2.2)).trans HCB.out.2.2⟩)
   refine ZT (n := 15) (S := fun w' => w'.cell? ⟨w.heap.size + 1, 0, none⟩ = some (.slice (some adb) n c1) ∧ w'.cell? ⟨gx, c.toNat, none⟩ = some (.int .i64 bt) ∧ w'.cell? (adb.add bt.toNat) = some (.slice (some ady) 4 c4) ∧ w'.cell? (ady.add (pf.toNat * 2)) = some (.int .i64 y0) ∧ w'.cell? ⟨(ady.add (pf.toNat * 2)).block, (ady.add (pf.toNat * 2)).off + 1, none⟩ = some (.int .i64 y1)) (ds := [14]) #[false, false, false, false, false, false, false, false, false, false, false, false, false, false, false] (by kernel_rfl) rfl rfl HS9.out (fun hHeld => ?_)
   refine zh (i := 0) (N := some 47) (v := ?_) (a' := ?_) #[true, false, false, false, false, false, false, false, false, false, false, false, false, false, false] rfl rfl (by kernel_rfl) (fun _ _ _ h => h) (Or.inl ⟨by rfl, ?_⟩) ?_ ?_
   rotate_left
   next =>
    intro w'
    go_simp
    with_reducible rfl
   rotate_left
   next =>
    simp only [Act.put, yay, yby, ycy, zT, zV]
    rfl
   refine qd (i := 1) (N := some 48) (v := ?_) (a' := ?_) #[true, true, false, false, false, false, false, false, false, false, false, false, false, false, false] rfl rfl (by kernel_rfl) (fun _ _ _ h => h) (Or.inl ⟨by rfl, ?_⟩) hHeld ?_ ?_
   rotate_left
   next =>
    rintro w' ⟨s0, s1, s2, s3, s4⟩
    go_simp
    with_reducible rfl
   rotate_left
   next =>
    simp only [Act.put, yay, yby, ycy, zT, zV]
    rfl
   refine zh (i := 2) (N := some 49) (v := ?_) (a' := ?_) #[true, true, true, false, false, false, false, false, false, false, false, false, false, false, false] rfl rfl (by kernel_rfl) (fun _ _ _ h => h) (Or.inl ⟨by rfl, ?_⟩) ?_ ?_
   rotate_left
   next =>
    intro w'
    go_simp
    with_reducible rfl
   rotate_left
   next =>
    simp only [Act.put, yay, yby, ycy, zT, zV]
    rfl
   refine zh (i := 3) (N := some 50) (v := ?_) (a' := ?_) #[true, true, true, true, false, false, false, false, false, false, false, false, false, false, false] rfl rfl (by kernel_rfl) (fun _ _ _ h => h) (Or.inl ⟨by rfl, ?_⟩) ?_ ?_
   rotate_left
   next =>
    intro w'
    go_simp
    with_reducible rfl
   rotate_left
   next =>
    simp only [Act.put, yay, yby, ycy, zT, zV]
    rfl
   refine zh (i := 4) (N := some 51) (v := ?_) (a' := ?_) #[true, true, true, true, true, false, false, false, false, false, false, false, false, false, false] rfl rfl (by kernel_rfl) (fun _ _ _ h => h) (Or.inl ⟨by rfl, ?_⟩) ?_ ?_
   rotate_left
   next =>
    intro w'
    go_simp
    with_reducible rfl
   rotate_left
   next =>
    simp only [Act.put, yay, yby, ycy, zT, zV]
    rfl
   refine qd (i := 5) (N := some 52) (v := ?_) (a' := ?_) #[true, true, true, true, true, true, false, false, false, false, false, false, false, false, false] rfl rfl (by kernel_rfl) (fun _ _ _ h => h) (Or.inl ⟨by rfl, ?_⟩) hHeld ?_ ?_
   rotate_left
   next =>
    rintro w' ⟨s0, s1, s2, s3, s4⟩
    go_simp
    with_reducible rfl
   rotate_left
   next =>
    simp only [Act.put, yay, yby, ycy, zT, zV]
    rfl
   refine zh (i := 6) (N := some 53) (v := ?_) (a' := ?_) #[true, true, true, true, true, true, true, false, false, false, false, false, false, false, false] rfl rfl (by kernel_rfl) (fun _ _ _ h => h) (Or.inl ⟨by rfl, ?_⟩) ?_ ?_
   rotate_left
   next =>
    intro w'
    go_simp
    with_reducible rfl
   rotate_left
   next =>
    simp only [Act.put, yay, yby, ycy, zT, zV]
    rfl
   refine qd (i := 7) (N := some 54) (v := ?_) (a' := ?_) #[true, true, true, true, true, true, true, true, false, false, false, false, false, false, false] rfl rfl (by kernel_rfl) (fun _ _ _ h => h) (Or.inl ⟨by rfl, ?_⟩) hHeld ?_ ?_
   rotate_left
   next =>
    rintro w' ⟨s0, s1, s2, s3, s4⟩
    go_simp
    with_reducible rfl
   rotate_left
   next =>
    simp only [Act.put, yay, yby, ycy, zT, zV]
    rfl
   refine zh (i := 8) (N := some 55) (v := ?_) (a' := ?_) #[true, true, true, true, true, true, true, true, true, false, false, false, false, false, false] rfl rfl (by kernel_rfl) (fun _ _ _ h => h) (Or.inl ⟨by rfl, ?_⟩) ?_ ?_
   rotate_left
   next =>
    intro w'
    go_simp
    with_reducible rfl
   rotate_left
   next =>
    simp only [Act.put, yay, yby, ycy, zT, zV]
    rfl
   refine zh (i := 9) (N := some 56) (v := ?_) (a' := ?_) #[true, true, true, true, true, true, true, true, true, true, false, false, false, false, false] rfl rfl (by kernel_rfl) (fun _ _ _ h => h) (Or.inl ⟨by rfl, ?_⟩) ?_ ?_
   rotate_left
   next =>
    intro w'
    go_simp
    with_reducible rfl
   rotate_left
   next =>
    simp only [Act.put, yay, yby, ycy, zT, zV]
    rfl
   refine join_ (σ := Nat) 1 #[true, true, true, true, true, true, true, true, true, true, true, true, true, true, false] (fun g_ => [(57, .int .i64 pf), (58, .pointer (some (ady.add (pf.toNat * 2)))), (59, .agg #[.int .i64 y0, .int .i64 y1]), (17, .pointer (some ⟨g_, 0, none⟩))]) (fun g_ w' => SpW w0 w1 w' n gx cx gy cy u11 s2 ∧ w'.heap[gB]? = some (.cells #[.int .i64 x0, .int .i64 x1] 59 (0, 0)) ∧ w'.heap[g_]? = some (.cells #[.int .i64 0, .int .i64 0] 59 (0, 0)) ∧ gB < g_ ∧ w1.heap.size ≤ g_ ∧ (w'.cell? ⟨w.heap.size + 1, 0, none⟩ = some (.slice (some adb) n c1) ∧ w'.cell? ⟨gx, c.toNat, none⟩ = some (.int .i64 bt) ∧ w'.cell? (adb.add bt.toNat) = some (.slice (some ady) 4 c4) ∧ w'.cell? (ady.add (pf.toNat * 2)) = some (.int .i64 y0) ∧ w'.cell? ⟨(ady.add (pf.toNat * 2)).block, (ady.add (pf.toNat * 2)).off + 1, none⟩ = some (.int .i64 y1))) ?cont (fun hcont => ?walk)
   case walk =>
    have hgBl : gB < wB.heap.size := zt BXB.out
    have hszB := HWB.out.sz
    refine two_ (i := 10) (j := 13) (Ni := some 57) (Nj := some 17) #[true, true, true, true, true, true, true, true, true, true, true, false, false, false, false] #[true, true, true, true, true, true, true, true, true, true, false, false, false, true, false] rfl rfl rfl rfl (by kernel_rfl) (by decide) (by decide) (fun K hK => ?_) (fun K hK => ?_)
    next =>
     refine ZV Try.func36 (by kernel_rfl) rfl #[.int .i64 p, .int .i64 (f : Int)] (by rfl) rfl rfl (by (try simp only [yiy, yjy, yky]); first | done | rfl) ?_
     refine (qw.calls k p (f : Int) pf _ HPAT.out).mono ?_
     rintro e w4 ⟨rfl, hb4⟩
     have hW4 := (HWB.out.stays (ZQ (ypy wB.heap.size wB))).stays hb4
     have hX4 := zJ (zI BXB.out) hb4
     have hBB_ := zJ (zI HBBB.out) hb4
     have hCX_ := (hb4.cell (yny wB.drew _ HCX.out)).trans HCX.out
     have hz4 : wB.heap.size ≤ w4.heap.size := hb4.size
     have HH4 := zA.mk (show w4.cell? ⟨w.heap.size + 1, 0, none⟩ = some (.slice (some adb) n c1) ∧ w4.cell? ⟨gx, c.toNat, none⟩ = some (.int .i64 bt) ∧ w4.cell? (adb.add bt.toNat) = some (.slice (some ady) 4 c4) ∧ w4.cell? (ady.add (pf.toNat * 2)) = some (.int .i64 y0) ∧ w4.cell? ⟨(ady.add (pf.toNat * 2)).block, (ady.add (pf.toNat * 2)).off + 1, none⟩ = some (.int .i64 y1) from ⟨(zL hBB_ 0).trans rfl, hCX_, (hW4.b0.cell (yny w0 _ HCB.out.1)).trans HCB.out.1, (hW4.b0.cell (yny w0 _ HCB.out.2.1)).trans HCB.out.2.1, (hW4.b0.cell (yny w0 _ HCB.out.2.2)).trans HCB.out.2.2⟩)
     have HF4 := zA.mk (And.intro hW4 (And.intro hX4 (And.intro hBB_ hCX_)))
     clear hW4 hX4 hBB_ hCX_ hb4 hHeld
     refine ⟨_, rfl, ?_⟩
     refine hK.out _ _ HH4.out (fun hHeld => ?_)
     clear hK K
     refine qz (a' := ?_) ?_ ?_
     rotate_left
     next =>
      show Act.put _ (some 57) _ = _
      simp only [Act.put, yay, yby, ycy, zT, zV]
      rfl
     refine zh (i := 11) (N := some 58) (v := ?_) (a' := ?_) #[true, true, true, true, true, true, true, true, true, true, true, true, false, false, false] rfl rfl (by kernel_rfl) (fun _ _ _ h => h) (Or.inl ⟨by rfl, ?_⟩) ?_ ?_
     rotate_left
     next =>
      intro w'
      go_simp
      with_reducible rfl
     rotate_left
     next =>
      simp only [Act.put, yay, yby, ycy, zT, zV]
      rfl
     refine qd (i := 12) (N := some 59) (v := ?_) (a' := ?_) #[true, true, true, true, true, true, true, true, true, true, true, true, true, false, false] rfl rfl (by kernel_rfl) (fun _ _ _ h => h) (Or.inl ⟨by rfl, ?_⟩) hHeld ?_ ?_
     rotate_left
     next =>
      rintro w' ⟨s0, s1, s2, s3, s4⟩
      go_simp
      with_reducible rfl
     rotate_left
     next =>
      simp only [Act.put, yay, yby, ycy, zT, zV]
      rfl
     refine QH (i := 13) (N := some 17) #[true, true, true, true, true, true, true, true, true, true, true, true, true, true, false] rfl rfl (by kernel_rfl) (by decide) (fun K hK => ?_)
     refine zBu (w1 := ?_) (v := ?_) (by rfl) rfl ?_ ?_
     rotate_left 2
     next =>
      go_simp
      constructor
      next =>
       rfl
      next =>
       rfl
     obtain ⟨hW4, hX4, hBB_, hCX_⟩ := HF4.out
     have hBw := zC (ypy w4.heap.size w4) (.cells #[.int .i64 0, .int .i64 0] 59)
     have hW5 := hW4.stays hBw
     have hX5 := zJ hX4 hBw
     have hN5 := ZR (W := w4) rfl (.cells #[.int .i64 0, .int .i64 0] 59)
     replace hBB_ := zJ hBB_ hBw
     replace hCX_ := (hBw.cell (yny w4 _ hCX_)).trans hCX_
     have HH5 := zA.mk (show (w4.alloc (.cells #[.int .i64 0, .int .i64 0] 59)).cell? ⟨w.heap.size + 1, 0, none⟩ = some (.slice (some adb) n c1) ∧ (w4.alloc (.cells #[.int .i64 0, .int .i64 0] 59)).cell? ⟨gx, c.toNat, none⟩ = some (.int .i64 bt) ∧ (w4.alloc (.cells #[.int .i64 0, .int .i64 0] 59)).cell? (adb.add bt.toNat) = some (.slice (some ady) 4 c4) ∧ (w4.alloc (.cells #[.int .i64 0, .int .i64 0] 59)).cell? (ady.add (pf.toNat * 2)) = some (.int .i64 y0) ∧ (w4.alloc (.cells #[.int .i64 0, .int .i64 0] 59)).cell? ⟨(ady.add (pf.toNat * 2)).block, (ady.add (pf.toNat * 2)).off + 1, none⟩ = some (.int .i64 y1) from ⟨(zL hBB_ 0).trans rfl, hCX_, (hW5.b0.cell (yny w0 _ HCB.out.1)).trans HCB.out.1, (hW5.b0.cell (yny w0 _ HCB.out.2.1)).trans HCB.out.2.1, (hW5.b0.cell (yny w0 _ HCB.out.2.2)).trans HCB.out.2.2⟩)
     refine hK.out _ _ HH5.out (fun hHeld => ?_)
     clear hK K
     refine qz (a' := ?_) ?_ ?_
     rotate_left
     next =>
      show Act.put _ (some 17) _ = _
      simp only [Act.put, yay, yby, ycy, zT, zV]
      rfl
     have hc_ := hcont w4.heap.size _ ⟨hW5, hX5, hN5, by omega, by omega, HH5.out⟩
     exact qz (by simp only [zAd, Act.put, yay, yby, ycy, zT, zV] <;> rfl) hc_
    next =>
     refine zBu (w1 := ?_) (v := ?_) (by rfl) rfl ?_ ?_
     rotate_left 2
     next =>
      go_simp
      constructor
      next =>
       rfl
      next =>
       rfl
     have hBw : Below wB.heap.size wB ((wB.alloc (.cells #[.int .i64 0, .int .i64 0] 59)).drew) := ZQ (zC (ypy wB.heap.size wB) (.cells #[.int .i64 0, .int .i64 0] 59))
     have hW4 := HWB.out.stays hBw
     have hX4 := zJ BXB.out hBw
     have hN4 : ((wB.alloc (.cells #[.int .i64 0, .int .i64 0] 59)).drew).heap[wB.heap.size]? = _ := zI (ZR (W := wB) rfl (.cells #[.int .i64 0, .int .i64 0] 59))
     have hBB_ := zJ HBBB.out hBw
     have hCX_ := (hBw.cell (yny wB _ HCX.out)).trans HCX.out
     have HH4 := zA.mk (show ((wB.alloc (.cells #[.int .i64 0, .int .i64 0] 59)).drew).cell? ⟨w.heap.size + 1, 0, none⟩ = some (.slice (some adb) n c1) ∧ ((wB.alloc (.cells #[.int .i64 0, .int .i64 0] 59)).drew).cell? ⟨gx, c.toNat, none⟩ = some (.int .i64 bt) ∧ ((wB.alloc (.cells #[.int .i64 0, .int .i64 0] 59)).drew).cell? (adb.add bt.toNat) = some (.slice (some ady) 4 c4) ∧ ((wB.alloc (.cells #[.int .i64 0, .int .i64 0] 59)).drew).cell? (ady.add (pf.toNat * 2)) = some (.int .i64 y0) ∧ ((wB.alloc (.cells #[.int .i64 0, .int .i64 0] 59)).drew).cell? ⟨(ady.add (pf.toNat * 2)).block, (ady.add (pf.toNat * 2)).off + 1, none⟩ = some (.int .i64 y1) from ⟨(zL hBB_ 0).trans rfl, hCX_, (hW4.b0.cell (yny w0 _ HCB.out.1)).trans HCB.out.1, (hW4.b0.cell (yny w0 _ HCB.out.2.1)).trans HCB.out.2.1, (hW4.b0.cell (yny w0 _ HCB.out.2.2)).trans HCB.out.2.2⟩)
     have HF4 := zA.mk (And.intro hW4 (And.intro hX4 (And.intro hBB_ (And.intro hCX_ hN4))))
     clear hW4 hX4 hBB_ hCX_ hN4 hBw hHeld
     generalize (wB.alloc (.cells #[.int .i64 0, .int .i64 0] 59)).drew = wA at *
     generalize wB.heap.size = gA at *
     refine hK.out _ _ HH4.out (fun hHeld => ?_)
     clear hK K
     refine qz (a' := ?_) ?_ ?_
     rotate_left
     next =>
      show Act.put _ (some 17) _ = _
      simp only [Act.put, yay, yby, ycy, zT, zV]
      rfl
     refine QH (i := 10) (N := some 57) #[true, true, true, true, true, true, true, true, true, true, true, false, false, true, false] rfl rfl (by kernel_rfl) (by decide) (fun K hK => ?_)
     refine ZV Try.func36 (by kernel_rfl) rfl #[.int .i64 p, .int .i64 (f : Int)] (by rfl) rfl rfl (by (try simp only [yiy, yjy, yky]); first | done | rfl) ?_
     refine (qw.calls k p (f : Int) pf _ HPAT.out).mono ?_
     rintro e w4 ⟨rfl, hb4⟩
     obtain ⟨hW4, hX4, hBB_, hCX_, hN4⟩ := HF4.out
     have hW5 := hW4.stays hb4
     have hX5 := zJ hX4 hb4
     have hN5 := zJ hN4 hb4
     replace hBB_ := zJ hBB_ hb4
     replace hCX_ := (hb4.cell (yny wA _ hCX_)).trans hCX_
     have HH5 := zA.mk (show w4.cell? ⟨w.heap.size + 1, 0, none⟩ = some (.slice (some adb) n c1) ∧ w4.cell? ⟨gx, c.toNat, none⟩ = some (.int .i64 bt) ∧ w4.cell? (adb.add bt.toNat) = some (.slice (some ady) 4 c4) ∧ w4.cell? (ady.add (pf.toNat * 2)) = some (.int .i64 y0) ∧ w4.cell? ⟨(ady.add (pf.toNat * 2)).block, (ady.add (pf.toNat * 2)).off + 1, none⟩ = some (.int .i64 y1) from ⟨(zL hBB_ 0).trans rfl, hCX_, (hW5.b0.cell (yny w0 _ HCB.out.1)).trans HCB.out.1, (hW5.b0.cell (yny w0 _ HCB.out.2.1)).trans HCB.out.2.1, (hW5.b0.cell (yny w0 _ HCB.out.2.2)).trans HCB.out.2.2⟩)
     have HF5 := zA.mk (And.intro hW5 (And.intro hX5 hN5))
     clear hW4 hX4 hBB_ hCX_ hN4 hb4 hHeld hW5 hX5 hN5
     refine ⟨_, rfl, ?_⟩
     refine hK.out _ _ HH5.out (fun hHeld => ?_)
     clear hK K
     refine qz (a' := ?_) ?_ ?_
     rotate_left
     next =>
      show Act.put _ (some 57) _ = _
      simp only [Act.put, yay, yby, ycy, zT, zV]
      rfl
     refine zh (i := 11) (N := some 58) (v := ?_) (a' := ?_) #[true, true, true, true, true, true, true, true, true, true, true, true, false, true, false] rfl rfl (by kernel_rfl) (fun _ _ _ h => h) (Or.inl ⟨by rfl, ?_⟩) ?_ ?_
     rotate_left
     next =>
      intro w'
      go_simp
      with_reducible rfl
     rotate_left
     next =>
      simp only [Act.put, yay, yby, ycy, zT, zV]
      rfl
     refine qd (i := 12) (N := some 59) (v := ?_) (a' := ?_) #[true, true, true, true, true, true, true, true, true, true, true, true, true, true, false] rfl rfl (by kernel_rfl) (fun _ _ _ h => h) (Or.inl ⟨by rfl, ?_⟩) hHeld ?_ ?_
     rotate_left
     next =>
      rintro w' ⟨s0, s1, s2, s3, s4⟩
      go_simp
      with_reducible rfl
     rotate_left
     next =>
      simp only [Act.put, yay, yby, ycy, zT, zV]
      rfl
     have hc_ := hcont gA _ ⟨HF5.out.1, HF5.out.2.1, HF5.out.2.2, by omega, by omega, HH5.out⟩
     exact qz (by simp only [zAd, Act.put, yay, yby, ycy, zT, zV] <;> rfl) hc_
   case cont =>
    rintro gC w5 ⟨hW5, hX5, hN5, hgBC, hg1C, hHeld⟩
    refine qz (a' := ?_) ?_ ?_
    rotate_left
    next =>
     simp only [zAd, Act.put, yay, yby, ycy, zT, zV]
     rfl
    have hn0 : w5.cell? ⟨gC, 0, none⟩ = some (.int .i64 0) := (zL hN5 0).trans rfl
    have hn1 : w5.cell? ⟨gC, 1, none⟩ = some (.int .i64 0) := (zL hN5 1).trans rfl
    have hm0 := zQ hN5 0
    have hm1 := zQ hN5 1
    refine zCi (i := 14) (N := none) #[true, true, true, true, true, true, true, true, true, true, true, true, true, true, true] rfl rfl (by kernel_rfl) (by decide) (fun K hK => ?_)
    refine zCF (w1 := ?_) (by rfl) rfl ?_ ?_
    rotate_left
    next =>
     go_simp
     rfl
    refine hK.out _ _ ?_
    clear hK K
    refine Zy (by kernel_rfl) ?_
    have HX6 := zA.mk ((Below.heap_setCell (w5.setCell ⟨gC, 0, none⟩ (.int .i64 y0)) ⟨gC, 1, none⟩ (.int .i64 y1) gB (show gB ≠ gC by omega)).trans ((Below.heap_setCell w5 ⟨gC, 0, none⟩ (.int .i64 y0) gB (show gB ≠ gC by omega)).trans hX5))
    have HY6 := zA.mk (zD3 (u := .int .i64 y0) (v := .int .i64 y1) hN5)
    have HW6 := zA.mk (SpW.far HG.out (SpW.far HG.out hW5 hN5 (by decide) hg1C 0 (.int .i64 y0)) (show (w5.setCell ⟨gC, 0, none⟩ (.int .i64 y0)).heap[gC]? = some (.cells #[.int .i64 y0, .int .i64 0] 59 (0, 0)) by simpa using JY hN5 0 (.int .i64 y0)) (by decide) hg1C 1 (.int .i64 y1))
    generalize (w5.setCell ⟨gC, 0, none⟩ (.int .i64 y0)).setCell ⟨gC, 1, none⟩ (.int .i64 y1) = w6 at HX6 HY6 HW6 ⊢
    clear hn0 hn1 hm0 hm1 hX5 hW5 hN5 hHeld
    have hcx0 : w6.cell? ⟨gB, 0, none⟩ = some (.int .i64 x0) := (zL HX6.out 0).trans rfl
    have hcx1 : w6.cell? ⟨gB, 1, none⟩ = some (.int .i64 x1) := (zL HX6.out 1).trans rfl
    have hcy0 : w6.cell? ⟨gC, 0, none⟩ = some (.int .i64 y0) := (zL HY6.out 0).trans rfl
    have hcy1 : w6.cell? ⟨gC, 1, none⟩ = some (.int .i64 y1) := (zL HY6.out 1).trans rfl
    clear HS9 HCX HBBB BXB HWB
    by_cases hxz : x0 < 0
    next =>
     by_cases hyz : y0 < 0
     next =>
      have HNX := zA.mk (show ((Qx la lb c p (4 - (f + 1)) ((f + 1 : Nat) : Int) s2).map (zA2 la lb (n - i) (i + 1))).getD false = r by
       have h := HSP.out
       rw [show JW p ⟨x0, x1⟩ ⟨y0, y1⟩ s2 = some s2 by unfold JW; rw [if_pos hxz, if_pos hyz], yfy] at h
       exact h)
      clear HSP
      go_wp2
      go_roundg (4 - (f + 1))
      case measure => omega
      case rel => exact ⟨f + 1, s2, by omega, by omega, by (try simp only [zT]); (first | rfl | rw [show wrap64 ((f : Int) + 1) = ((f + 1 : Nat) : Int) by unfold wrap64; omega]), HW6, HOK, ⟨HINC.out.1, HINC.out.2, HNX.out⟩⟩
     next =>
      have hrf : false = r := by
       have h := HSP.out
       rw [show JW p ⟨x0, x1⟩ ⟨y0, y1⟩ s2 = none by unfold JW; rw [if_pos hxz, if_neg hyz], Option.bind_none] at h
       exact h
      subst hrf
      clear HSP
      go_wp2
      go_ret
      exact ⟨rfl, HEN.out _ _ _ HW6.out⟩
    next =>
     by_cases hyz : y0 < 0
     next =>
      have hrf : false = r := by
       have h := HSP.out
       rw [show JW p ⟨x0, x1⟩ ⟨y0, y1⟩ s2 = none by unfold JW; rw [if_neg hxz, if_pos hyz], Option.bind_none] at h
       exact h
      subst hrf
      clear HSP
      go_wp2
      go_ret
      exact ⟨rfl, HEN.out _ _ _ HW6.out⟩
     next =>
      obtain ⟨hx6, hx7, hx8⟩ := HTX.out (show (0 : Int) ≤ x0 by omega)
      obtain ⟨hy6, hy7, hy8⟩ := HTY.out (show (0 : Int) ≤ y0 by omega)
      have hx9 : 0 ≤ x0 := by omega
      obtain ⟨hi0, hi1⟩ := zB3 hx7 hx8
      obtain ⟨hq0, hq1⟩ := zA6 hi0 hi1 hp0 hp1
      have HQA := zA.mk (zEI HPK.out hx7 hx8)
      have HQB := zA.mk (zD9 HPK.out hi0 hi1 hp0 hp1)
      have HQC := zA.mk (zD9 HPK.out hq0 hq1 hy7 hy8)
      have HQR := zA.mk (zD1 (p := p) (x := ⟨x0, x1⟩) (y := ⟨y0, y1⟩) hp0 hp1 hx7 hx8 hy7 hy8)
      obtain ⟨q, hqe⟩ : ∃ q, Qi (Qi (Jd x1) p) y1 = q := ⟨_, rfl⟩
      have hqe2 : spQ p ⟨x0, x1⟩ ⟨y0, y1⟩ = q := hqe
      rw [hqe] at HQC
      rw [hqe2] at HQR
      have HQE := zA.mk hqe2
      clear hqe hqe2
      generalize Jd x1 = ix at *
      generalize Qi ix p = cx2 at *
      go_wp2_with fail
      refine ZT (n := 9) (S := fun w' => w'.cell? ⟨gB, 1, none⟩ = some (.int .i64 x1) ∧ w'.cell? ⟨gC, 1, none⟩ = some (.int .i64 y1)) (ds := [8]) #[false, false, false, false, false, false, false, false, false] (by kernel_rfl) rfl rfl ⟨hcx1, hcy1⟩ (fun hHeld => ?_)
      refine zh (i := 0) (N := some 70) (v := ?_) (a' := ?_) #[true, false, false, false, false, false, false, false, false] rfl rfl (by kernel_rfl) (fun _ _ _ h => h) (Or.inl ⟨by rfl, ?_⟩) ?_ ?_
      rotate_left
      next =>
       intro w'
       go_simp
       with_reducible rfl
      rotate_left
      next =>
       simp only [Act.put, yay, yby, ycy, zT, zV]
       rfl
      refine qd (i := 1) (N := some 71) (v := ?_) (a' := ?_) #[true, true, false, false, false, false, false, false, false] rfl rfl (by kernel_rfl) (fun _ _ _ h => h) (Or.inl ⟨by rfl, ?_⟩) hHeld ?_ ?_
      rotate_left
      next =>
       rintro w' ⟨s0, s1⟩
       go_simp
       with_reducible rfl
      rotate_left
      next =>
       simp only [Act.put, yay, yby, ycy, zT, zV]
       rfl
      refine zh (i := 3) (N := some 73) (v := ?_) (a' := ?_) #[true, true, false, true, false, false, false, false, false] rfl rfl (by kernel_rfl) (fun _ _ _ h => h) (Or.inl ⟨by rfl, ?_⟩) ?_ ?_
      rotate_left
      next =>
       intro w'
       go_simp
       with_reducible rfl
      rotate_left
      next =>
       simp only [Act.put, yay, yby, ycy, zT, zV]
       rfl
      refine zh (i := 5) (N := some 75) (v := ?_) (a' := ?_) #[true, true, false, true, false, true, false, false, false] rfl rfl (by kernel_rfl) (fun _ _ _ h => h) (Or.inl ⟨by rfl, ?_⟩) ?_ ?_
      rotate_left
      next =>
       intro w'
       go_simp
       with_reducible rfl
      rotate_left
      next =>
       simp only [Act.put, yay, yby, ycy, zT, zV]
       rfl
      refine qd (i := 6) (N := some 76) (v := ?_) (a' := ?_) #[true, true, false, true, false, true, true, false, false] rfl rfl (by kernel_rfl) (fun _ _ _ h => h) (Or.inl ⟨by rfl, ?_⟩) hHeld ?_ ?_
      rotate_left
      next =>
       rintro w' ⟨s0, s1⟩
       go_simp
       with_reducible rfl
      rotate_left
      next =>
       simp only [Act.put, yay, yby, ycy, zT, zV]
       rfl
      refine QH (i := 2) (N := some 72) #[true, true, true, true, false, true, true, false, false] rfl rfl (by kernel_rfl) (by decide) (fun K hK => ?_)
      refine ZV Try.func96 (by kernel_rfl) rfl #[.int .i64 x1] (by rfl) rfl rfl (by (try simp only [yiy, yjy, yky]); first | done | rfl) ?_
      refine (zv.calls k x1 ix _ HQA.out).mono ?_
      rintro e w7 ⟨rfl, hb_⟩
      have hW9 := (HW6.out.stays (ZQ (ypy w6.heap.size w6))).stays hb_
      have hX9 := zJ (zI HX6.out) hb_
      have hY9 := zJ (zI HY6.out) hb_
      clear hb_ hHeld
      refine ⟨_, rfl, ?_⟩
      refine hK.out _ _ ⟨(zL hX9 1).trans rfl, (zL hY9 1).trans rfl⟩ (fun hHeld => ?_)
      clear hK K
      refine qz (a' := ?_) ?_ ?_
      rotate_left
      next =>
       show Act.put _ (some 72) _ = _
       simp only [Act.put, yay, yby, ycy, zT, zV]
       rfl
      refine QH (i := 4) (N := some 74) #[true, true, true, true, true, true, true, false, false] rfl rfl (by kernel_rfl) (by decide) (fun K hK => ?_)
      refine ZV Try.func111 (by kernel_rfl) rfl #[.int .i64 ix, .int .i64 p] (by rfl) rfl rfl (by (try simp only [yiy, yjy, yky]); first | done | rfl) ?_
      refine (qW.calls k ix p cx2 _ HQB.out).mono ?_
      rintro e w8 ⟨rfl, hb_⟩
      replace hW9 := hW9.stays hb_
      replace hX9 := zJ hX9 hb_
      replace hY9 := zJ hY9 hb_
      clear hb_ hHeld
      refine ⟨_, rfl, ?_⟩
      refine hK.out _ _ ⟨(zL hX9 1).trans rfl, (zL hY9 1).trans rfl⟩ (fun hHeld => ?_)
      clear hK K
      refine qz (a' := ?_) ?_ ?_
      rotate_left
      next =>
       show Act.put _ (some 74) _ = _
       simp only [Act.put, yay, yby, ycy, zT, zV]
       rfl
      refine QH (i := 7) (N := some 77) #[true, true, true, true, true, true, true, true, false] rfl rfl (by kernel_rfl) (by decide) (fun K hK => ?_)
      refine ZV Try.func111 (by kernel_rfl) rfl #[.int .i64 cx2, .int .i64 y1] (by rfl) rfl rfl (by (try simp only [yiy, yjy, yky]); first | done | rfl) ?_
      refine (qW.calls k cx2 y1 q _ HQC.out).mono ?_
      rintro e w9 ⟨rfl, hb_⟩
      replace hW9 := hW9.stays hb_
      replace hX9 := zJ hX9 hb_
      replace hY9 := zJ hY9 hb_
      clear hb_ hHeld
      refine ⟨_, rfl, ?_⟩
      refine hK.out _ _ ⟨(zL hX9 1).trans rfl, (zL hY9 1).trans rfl⟩ (fun hHeld => ?_)
      clear hK K
      refine qz (a' := ?_) ?_ ?_
      rotate_left
      next =>
       show Act.put _ (some 77) _ = _
       simp only [Act.put, yay, yby, ycy, zT, zV]
       rfl
      refine zh (i := 8) (N := some 18) (v := ?_) (a' := ?_) #[true, true, true, true, true, true, true, true, true] rfl rfl (by kernel_rfl) (fun _ _ _ h => h) (Or.inl ⟨by rfl, ?_⟩) ?_ ?_
      rotate_left
      next =>
       intro w'
       go_simp
       with_reducible rfl
      rotate_left
      next =>
       simp only [Act.put, yay, yby, ycy, zT, zV]
       rfl
      refine Zy (by kernel_rfl) ?_
      have HW9 := zA.mk hW9
      have HX9 := zA.mk hX9
      have HY9 := zA.mk hY9
      clear hW9 hX9 hY9 hHeld HW6 HX6 HY6 hcx0 hcx1 hcy0 hcy1
      have hcx0 : w9.cell? ⟨gB, 0, none⟩ = some (.int .i64 x0) := (zL HX9.out 0).trans rfl
      have hcy0 : w9.cell? ⟨gC, 0, none⟩ = some (.int .i64 y0) := (zL HY9.out 0).trans rfl
      have hXx := (Kd.qf 0 HW9.out.rx x0 hx9 hx6).1
      replace hXx : w9.cell? ⟨gx, x0.toNat, none⟩ = some (.int .i64 (rd s2.X x0)) := hXx
      have hYx := (Kd.qf 0 HW9.out.ry x0 hx9 hx6).1
      replace hYx : w9.cell? ⟨gy, x0.toNat, none⟩ = some (.int .i64 (rd s2.Y x0)) := hYx
      by_cases hneg : rd s2.X x0 < 0
      rotate_left
      next =>
       have hxi0 : 0 ≤ rd s2.X x0 := by omega
       obtain ⟨vx, hvx⟩ : ∃ vx, rd s2.X x0 = vx := ⟨_, rfl⟩
       obtain ⟨vy, hvy⟩ : ∃ vy, rd s2.Y x0 = vy := ⟨_, rfl⟩
       rw [hvx] at hXx hneg hxi0
       rw [hvy] at hYx
       have HVX := zA.mk hvx
       have HVY := zA.mk hvy
       clear hvx hvy
       by_cases he : vx = y0 ∧ vy = q
       next =>
        obtain ⟨he1, he2⟩ := he
        subst he1
        subst he2
        have HNX := zA.mk (show ((Qx la lb c p (4 - (f + 1)) ((f + 1 : Nat) : Int) s2).map (zA2 la lb (n - i) (i + 1))).getD false = r by
         have h := HSP.out
         rw [show JW p ⟨x0, x1⟩ ⟨vx, y1⟩ s2 = some s2 by
          unfold JW
          rw [if_neg (show ¬ x0 < 0 by omega), if_neg (show ¬ vx < 0 by omega), if_neg (show ¬ rd s2.X x0 < 0 by rw [HVX.out]; exact hneg), if_pos ⟨HVX.out, HVY.out.trans HQE.out.symm⟩], yfy] at h
         exact h)
        clear HSP
        go_wp2_with fail
        go_quiet (fail)
        go_wp2
        go_roundg (4 - (f + 1))
        case measure => omega
        case rel => exact ⟨f + 1, s2, by omega, by omega, by (try simp only [zT]); (first | rfl | rw [show wrap64 ((f : Int) + 1) = ((f + 1 : Nat) : Int) by unfold wrap64; omega]), ⟨by first | exact HW9.out | exact HW9.out.stays (zB (ypy _ _) _)⟩, HOK, ⟨HINC.out.1, HINC.out.2, HNX.out⟩⟩
       next =>
        have hrf : false = r := by
         have h := HSP.out
         rw [show JW p ⟨x0, x1⟩ ⟨y0, y1⟩ s2 = none by
          unfold JW
          rw [if_neg (show ¬ x0 < 0 by omega), if_neg (show ¬ y0 < 0 by omega), if_neg (show ¬ rd s2.X x0 < 0 by rw [HVX.out]; exact hneg), if_neg (fun e => he ⟨HVX.out.symm.trans e.1, HVY.out.symm.trans (e.2.trans HQE.out)⟩)], Option.bind_none] at h
         exact h
        subst hrf
        clear HSP
        by_cases he1 : vx = y0
        rotate_left
        next =>
         have hd2 : (vx != y0) = true := bne_iff_ne.mpr he1
         go_wp2_with fail
         go_quiet (fail)
         go_wp2
         go_ret
         exact ⟨rfl, by first | exact HEN.out _ _ _ HW9.out | exact HEN.out _ _ _ (HW9.out.stays (zB (ypy _ _) _))⟩
        have he2 : ¬ vy = q := fun e => he ⟨he1, e⟩
        subst he1
        have hd2 : (vy != q) = true := bne_iff_ne.mpr he2
        go_wp2_with fail
        go_quiet (fail)
        go_wp2
        go_ret
        exact ⟨rfl, by first | exact HEN.out _ _ _ HW9.out | exact HEN.out _ _ _ (HW9.out.stays (zB (ypy _ _) _))⟩
      go_wp2_with fail
      by_cases hin : y0 ∈ s2.X
      next =>
       have hrf : false = r := by
        have h := HSP.out
        rw [show JW p ⟨x0, x1⟩ ⟨y0, y1⟩ s2 = none by unfold JW; rw [if_neg (show ¬ x0 < 0 by omega), if_neg (show ¬ y0 < 0 by omega), if_pos hneg, if_pos hin], Option.bind_none] at h
        exact h
       subst hrf
       have hcall := ZE.calls k (some ⟨gx, 0, none⟩) cx s2.X y0 true w9 (Kd.zk HW9.out.rx).2.2 (by rw [HOK.out.lx]; exact (Kd.zk HW9.out.rx).2.1) (by rw [has_eq y0 (by rw [HOK.out.lx]; exact hn) hk10, ygy hin])
       rw [HOK.out.lx] at hcall
       refine hcall.mono ?_
       rintro e wa ⟨rfl, hd⟩
       have HWa := zA.mk (HW9.out.stays (qA.below hd))
       clear hd HSP
       go_wp2
       go_ret
       exact ⟨rfl, HEN.out _ _ _ HWa.out⟩
      next =>
       have hs3 : JW p ⟨x0, x1⟩ ⟨y0, y1⟩ s2 = some ⟨s2.X.set x0.toNat y0, s2.Y.set x0.toNat q, s2.L ++ [x0]⟩ := by
        unfold JW
        rw [if_neg (show ¬ x0 < 0 by omega), if_neg (show ¬ y0 < 0 by omega), if_pos hneg, if_neg hin, HQE.out]
       have HNX := zA.mk (show ((Qx la lb c p (4 - (f + 1)) ((f + 1 : Nat) : Int) ⟨s2.X.set x0.toNat y0, s2.Y.set x0.toNat q, s2.L ++ [x0]⟩).map (zA2 la lb (n - i) (i + 1))).getD false = r by
        have h := HSP.out
        rw [hs3, yfy] at h
        exact h)
       obtain ⟨k1, k2, k3⟩ := zD2 HOK.out hp0 hp1 (x := ⟨x0, x1⟩) (y := ⟨y0, y1⟩) (fun _ => ⟨hx6, hx7, hx8⟩) (fun _ => ⟨hy6, hy7, hy8⟩) hc0 hc1 HINC.out.1 hs3
       have HK1 := zA.mk k1
       have HINC3 := zA.mk (show 0 ≤ rd (s2.X.set x0.toNat y0) c ∧ rd (s2.Y.set x0.toNat q) c = p from ⟨Int.le_trans HINC.out.1 (Int.le_of_eq k2.symm), k3.trans HINC.out.2⟩)
       clear hs3 k1 k2 k3 HSP
       have hcall := ZE.calls k (some ⟨gx, 0, none⟩) cx s2.X y0 false w9 (Kd.zk HW9.out.rx).2.2 (by rw [HOK.out.lx]; exact (Kd.zk HW9.out.rx).2.1) (by rw [has_eq y0 (by rw [HOK.out.lx]; exact hn) hk10, yhy hin])
       rw [HOK.out.lx] at hcall
       refine hcall.mono ?_
       rintro e wa ⟨rfl, hd⟩
       have hba := qA.below hd
       have HWa := zA.mk (HW9.out.stays hba)
       have HXa := zA.mk (zJ HX9.out hba)
       have HYa := zA.mk (zJ HY9.out hba)
       clear hd hba hcx0 hcy0 hXx hYx HX9 HY9 HW9
       have hgBx : gB ≠ gx := by have := HG.out.x1; have := HGB.out; omega
       have hgBy : gB ≠ gy := by have := HG.out.y1; have := HGB.out; omega
       have hgCx : gC ≠ gx := by have := HG.out.x1; omega
       have hgCy : gC ≠ gy := by have := HG.out.y1; omega
       have hxl : x0 < (s2.X.length : Int) := by rw [HOK.out.lx]; exact hx6
       have hyl : x0 < (s2.Y.length : Int) := by rw [HOK.out.ly]; exact hx6
       have HWb := zA.mk (SpW.setX HG.out HWa.out x0 y0)
       have HWc := zA.mk (SpW.setY HG.out HWb.out x0 q)
       have HXb := zA.mk (Zf HXa.out hgBx x0.toNat (.int .i64 y0))
       have HYb := zA.mk (Zf HYa.out hgCx x0.toNat (.int .i64 y0))
       have HXc := zA.mk (Zf HXb.out hgBy x0.toNat (.int .i64 q))
       have HYc := zA.mk (Zf HYb.out hgCy x0.toNat (.int .i64 q))
       have ha0 : wa.cell? ⟨gB, 0, none⟩ = some (.int .i64 x0) := (zL HXa.out 0).trans rfl
       have ha1 : wa.cell? ⟨gC, 0, none⟩ = some (.int .i64 y0) := (zL HYa.out 0).trans rfl
       have ha2 : wa.cell? ⟨gx, x0.toNat, none⟩ = _ := (Kd.qf 0 HWa.out.rx x0 hx9 hx6).1
       have ha3 : wa.frozen? ⟨gx, x0.toNat, none⟩ = false := (Kd.qf 0 HWa.out.rx x0 hx9 hx6).2
       have hb0 : (wa.setCell ⟨gx, x0.toNat, none⟩ (.int .i64 y0)).cell? ⟨gB, 0, none⟩ = some (.int .i64 x0) := (zL HXb.out 0).trans rfl
       have hb2 : (wa.setCell ⟨gx, x0.toNat, none⟩ (.int .i64 y0)).cell? ⟨gy, x0.toNat, none⟩ = _ := (Kd.qf 0 HWb.out.ry x0 hx9 hx6).1
       have hb3 : (wa.setCell ⟨gx, x0.toNat, none⟩ (.int .i64 y0)).frozen? ⟨gy, x0.toNat, none⟩ = false := (Kd.qf 0 HWb.out.ry x0 hx9 hx6).2
       have hcc0 : ((wa.setCell ⟨gx, x0.toNat, none⟩ (.int .i64 y0)).setCell ⟨gy, x0.toNat, none⟩ (.int .i64 q)).cell? ⟨gB, 0, none⟩ = some (.int .i64 x0) := (zL HXc.out 0).trans rfl
       have HLL := zA.mk (show s2.L.length ≤ 8 by have := HOK.out.len; omega)
       go_wp2_with (first | ((with_reducible refine qm (b := .append) (xs := #[.tmp 99, .tmp 102]) rfl ?_); at_builtin; refine Kd.QI (Kd.int .i64) (w0 := (wa.setCell ⟨gx, x0.toNat, none⟩ (.int .i64 y0)).setCell ⟨gy, x0.toNat, none⟩ (.int .i64 q)) w1.heap.size rfl (.tmp 99) (.tmp 102) 44 2 (.int .i64 0) 8 rfl Try.underlying44 QR rfl (by decide) (by omega) u11 s2.L x0 [.int .i64 x0] (fun _ => True) (fun _ => False) rfl (show Value.slice (some ⟨wa.heap.size, 0, none⟩) 1 1 = Value.slice (some ⟨((wa.setCell ⟨gx, x0.toNat, none⟩ (.int .i64 y0)).setCell ⟨gy, x0.toNat, none⟩ (.int .i64 q)).heap.size, 0, none⟩) 1 1 by simp) ?aP (fun _ hk => hk.elim) ?aF ?aO ?aB ?aS ?aL ?_; (case aP => exact rfl); (case aB => exact ypy _ _); (case aF => exact (fun _ _ => trivial)); (case aO => exact HWc.out.rl); (case aS => exact HWc.out.sz); (case aL => have := HLL.out; omega); intro vd wd ho hb hg hat; have HWd := zA.mk (SpW.app HG.out HWc.out hb hg ho); have HXd := zA.mk (zEU HXc.out HWc.out.rl (by decide) hg); have HYd := zA.mk (zEU HYc.out HWc.out.rl (by decide) hg); clear ho hb hg hat; have hd0 : wd.cell? ⟨gB, 0, none⟩ = some (.int .i64 x0) := (zL HXd.out 0).trans rfl; have hd1 : wd.cell? ⟨gC, 0, none⟩ = some (.int .i64 y0) := (zL HYd.out 0).trans rfl; have hd2 := (HWd.out.atX hx9 hx6 ((Qj hx9 hxl hx9).trans (if_pos rfl))).1; have hd3 := (HWd.out.atY hx9 hx6 ((Qj hx9 hyl hx9).trans (if_pos rfl))).1))
       go_quiet (fail)
       go_wp2
       go_roundg (4 - (f + 1))
       case measure => omega
       case rel => exact ⟨f + 1, ⟨s2.X.set x0.toNat y0, s2.Y.set x0.toNat q, s2.L ++ [x0]⟩, by omega, by omega, by (try simp only [zT]); (first | rfl | rw [show wrap64 ((f : Int) + 1) = ((f + 1 : Nat) : Int) by unfold wrap64; omega]), ⟨by first | exact HWd.out | exact HWd.out.stays (zB (ypy _ _) _)⟩, HK1, ⟨HINC3.out.1, HINC3.out.2, HNX.out⟩⟩
theorem zDA : ∀ (d : Nat) (k : Nat) (acc : List Int), d < k → acc.length + d ≤ 1000000 → qi.l0 k (d : Int) acc = some (acc ++ List.replicate d (-1))
  | _, 0, _, h, _ => by omega
  | 0, k + 1, acc, h, hl => by rw [qi.l0, if_neg (by omega)]; simp
  | d + 1, k + 1, acc, h, hl => by
    rw [qi.l0, if_pos (by omega), if_pos (by omega), show wrap64 (((d + 1 : Nat) : Int) - 1) = (d : Int) by unfold wrap64; omega, zDA d k (acc ++ [-1]) (by omega) (by simp; omega), List.append_assoc, List.replicate_succ]
    rfl
theorem zEJ {k n : Nat} (hn : n ≤ 8) (hk : 10 ≤ k) : qi.f k (n : Int) = some (List.replicate n (-1)) := by
  have := zDA n k [] (by omega) (by simp; omega)
  rwa [List.nil_append] at this
def zEK (k : Nat) (a b : List (List qJ)) : Prop := zD7 k = true ∧ 10 ≤ k ∧ a.length ≤ 8 ∧ zBf a a.length ∧ zBf b a.length
instance (k : Nat) (a b : List (List qJ)) : Decidable (zEK k a b) := by
  unfold zEK
  exact inferInstance
def qL.f (k : Nat) (a b : List (List qJ)) : Option Int := (zM.f k a).bind fun t1 => if t1 = true then ((zM.f k b).bind fun t2 => if t2 = true then ((qb.f k a).bind fun t3 => if t3 = true then (if a.length = b.length then (if a.length = 0 then some 1 else if zEK k a b then some (zBN a b a.length a.length : Int) else none) else some 0) else some (-1)) else some (-1)) else some (-1)
set_option maxHeartbeats 8000000 in
set_option maxRecDepth 100000 in
theorem qL.calls (k : Nat) (A0_0 : Option Addr) (c0_0 : Nat) (l0_0 : List (List qJ)) (A1_0 : Option Addr) (c1_0 : Nat) (l1_0 : List (List qJ)) (r : Int) (w : World) (hr0_0 : Kd.C (Kd.slice 59 ZK) w A0_0 l0_0.length l0_0) (hc0_0 : l0_0.length ≤ c0_0) (hr1_0 : Kd.C (Kd.slice 59 ZK) w A1_0 l1_0.length l1_0) (hc1_0 : l1_0.length ≤ c1_0) (h : qL.f k l0_0 l1_0 = some r) :
    Calls Try.prog 22 #[.agg #[.slice A0_0 l0_0.length c0_0], .agg #[.slice A1_0 l1_0.length c1_0]] w fun e w' => e = .returned (.int .i64 r) ∧ Below w.heap.size w w' := by
  have HR0 := zA.mk hr0_0
  have HR1 := zA.mk hr1_0
  have HC0 := zA.mk hc0_0
  have HC1 := zA.mk hc1_0
  have HH := zA.mk h
  clear hr0_0 hr1_0 hc0_0 hc1_0 h
  have BA := zA.mk (zF (ZR (W := w) rfl (.cells #[.slice A0_0 l0_0.length c0_0] 30)) (.cells #[.slice A1_0 l1_0.length c1_0] 30))
  have BB := zA.mk (ZR (W := w.alloc (.cells #[.slice A0_0 l0_0.length c0_0] 30)) (n := w.heap.size + 1) (by simp) (.cells #[.slice A1_0 l1_0.length c1_0] 30))
  have HB := zA.mk (zC (zC (ypy w.heap.size w) (.cells #[.slice A0_0 l0_0.length c0_0] 30)) (.cells #[.slice A1_0 l1_0.length c1_0] 30))
  obtain ⟨t1, h1, h⟩ := ydy.mp HH.out
  have H1 := zA.mk h1
  clear h1 HH
  have HH := zA.mk h
  clear h
  go_enter Try.func22, Try.ntmps22
  go_wp2_with fail
  generalize World.alloc (World.alloc w _) _ = wA at BA BB HB ⊢
  refine (zM.calls k A0_0 c0_0 l0_0 t1 _ (Kd.zw HR0.out HB.out) HC0.out H1.out).mono ?_
  rintro e w2 ⟨rfl, hb⟩
  have BA2 := zA.mk (zJ BA.out hb)
  have BB2 := zA.mk (zJ BB.out hb)
  have HB2 := zA.mk (zN HB.out hb)
  clear hb BA BB HB
  cases t1 with
  | false =>
    have hr : (-1 : Int) = r := yey HH.out
    subst hr
    clear HH
    go_wp2
    go_ret
    exact ⟨rfl, HB2.out⟩
  | true =>
    obtain ⟨t2, h2, h⟩ := ydy.mp ((if_pos rfl).symm.trans HH.out)
    have H2 := zA.mk h2
    clear h2 HH
    have HH := zA.mk h
    clear h
    have hb2 : w2.cell? ⟨w.heap.size + 1, 0, none⟩ = some (.slice A1_0 l1_0.length c1_0) := (zL BB2.out 0).trans rfl
    go_wp2_with fail
    refine (zM.calls k A1_0 c1_0 l1_0 t2 _ (Kd.zw HR1.out HB2.out) HC1.out H2.out).mono ?_
    rintro e w3 ⟨rfl, hb⟩
    have BA3 := zA.mk (zJ BA2.out hb)
    have BB3 := zA.mk (zJ BB2.out hb)
    have HB3 := zA.mk (zN HB2.out hb)
    clear hb BA2 BB2 HB2 hb2
    cases t2 with
    | false =>
      have hr : (-1 : Int) = r := yey HH.out
      subst hr
      clear HH
      go_wp2
      go_ret
      exact ⟨rfl, HB3.out⟩
    | true =>
      obtain ⟨t3, h3, h⟩ := ydy.mp ((if_pos rfl).symm.trans HH.out)
      have H3 := zA.mk h3
      clear h3 HH
      have HH := zA.mk h
      clear h
      have hb3 : w3.cell? ⟨w.heap.size, 0, none⟩ = some (.slice A0_0 l0_0.length c0_0) := (zL BA3.out 0).trans rfl
      go_wp2_with fail
      refine (qb.calls k A0_0 c0_0 l0_0 t3 _ (Kd.zw HR0.out HB3.out) HC0.out H3.out).mono ?_
      rintro e w4 ⟨rfl, hb⟩
      have BA4 := zA.mk (zJ BA3.out hb)
      have BB4 := zA.mk (zJ BB3.out hb)
      have HB4 := zA.mk (zN HB3.out hb)
      clear hb BA3 BB3 HB3 hb3
      cases t3 with
      | false =>
        have hr : (-1 : Int) = r := yey HH.out
        subst hr
        clear HH
        go_wp2
        go_ret
        exact ⟨rfl, HB4.out⟩
      | true =>
        have h : (if l0_0.length = l1_0.length then (if l0_0.length = 0 then some 1 else if zEK k l0_0 l1_0 then some (zBN l0_0 l1_0 l0_0.length l0_0.length : Int) else none) else some 0) = some r := (if_pos rfl).symm.trans HH.out
        clear HH
        have ha4 : w4.cell? ⟨w.heap.size, 0, none⟩ = some (.slice A0_0 l0_0.length c0_0) := (zL BA4.out 0).trans rfl
        have hb4 : w4.cell? ⟨w.heap.size + 1, 0, none⟩ = some (.slice A1_0 l1_0.length c1_0) := (zL BB4.out 0).trans rfl
        by_cases hl : l0_0.length = l1_0.length
        · rw [if_pos hl] at h
          by_cases hz : l0_0.length = 0
          · rw [if_pos hz] at h
            have hr := yey h
            subst hr
            clear h
            have hz1 : l1_0.length = 0 := by omega
            go_wp2
            go_ret
            exact ⟨rfl, HB4.out⟩
          · rw [if_neg hz] at h
            by_cases hk : zEK k l0_0 l1_0
            case neg => rw [if_neg hk] at h; cases h
            rw [if_pos hk] at h
            have hr := yey h
            subst hr
            clear h
            obtain ⟨q1, q2, q3, q4, q5⟩ := hk
            have Q1 := zA.mk q1
            have Q4 := zA.mk q4
            have Q5 := zA.mk q5
            clear q1 q4 q5
            rw [← hl] at hb4
            have HCB := zA.mk (show l0_0.length ≤ c1_0 by have := HC1.out; omega)
            have HRB := zA.mk (show Kd.C (Kd.slice 59 ZK) w A1_0 l0_0.length l1_0 by rw [hl]; exact HR1.out)
            have BBn := zA.mk (show w4.heap[w.heap.size + 1]? = some (.cells #[.slice A1_0 l0_0.length c1_0] 30 (0, 0)) by rw [hl]; exact BB4.out)
            have HLL := zA.mk hl
            have HNN := zA.mk (zEJ q3 q2)
            have H07 := zA.mk (show qF.f l1_0 = some (l0_0.length : Int) by rw [hl]; rfl)
            clear hl BB4
            have hnl0 : l0_0.length = l0_0.length := rfl
            have HNL0 := zA.mk hnl0
            generalize hnl : l0_0.length = n at *
            have HNL := zA.mk hnl
            clear hnl hnl0
            have hnz : ((n : Int) == 0) = false := beq_eq_false_iff_ne.mpr (by omega)
            have hn0 : 0 < n := by omega
            have hn8 : n ≤ 8 := q3
            go_wp2
            clear ha4 hb4
            go_loopg [5, 6] n (fun gg v5 v6 w' => ∃ a : Nat, a ≤ n ∧ n - a ≤ gg ∧ v5 = .int .i64 ((zBN l0_0 l1_0 n a : Nat) : Int) ∧ v6 = .int .i64 a ∧ zA (Below w.heap.size w w') ∧ zA (w'.heap[w.heap.size]? = some (.cells #[.slice A0_0 n c0_0] 30 (0, 0))) ∧ zA (w'.heap[w.heap.size + 1]? = some (.cells #[.slice A1_0 n c1_0] 30 (0, 0))))
            case atStart => exact ⟨0, Nat.zero_le _, by omega, rfl, rfl, HB4, BA4, BBn⟩
            case round =>
              clear HB4 BA4 BBn
              obtain ⟨a, ha9, hga, rfl, rfl, HB, BA, BB⟩ := hrel
              have hbB : wr.cell? ⟨w.heap.size + 1, 0, none⟩ = some (.slice A1_0 n c1_0) := (zL BB.out 0).trans rfl
              go_wp2_with fail
              have hcall := qF.calls A1_0 c1_0 l1_0 (n : Int) wr (Kd.zw HR1.out HB.out) HC1.out H07.out
              rw [← HLL.out] at hcall
              refine hcall.mono ?_
              rintro e w5 ⟨rfl, hb⟩
              have HB5 := zA.mk (zN HB.out hb)
              have BA5 := zA.mk (zJ BA.out hb)
              have BB5 := zA.mk (zJ BB.out hb)
              clear hb HB BA BB hbB hcall
              by_cases hla : a < n
              · have hlaz : (a : Int) < (n : Int) := by omega
                have hcl := zBh l0_0 l1_0 n a
                go_wp2
                go_loopg [5, 7] 24 (fun gg v5 v7 w' => ∃ p : Nat, p ≤ 24 ∧ 24 - p ≤ gg ∧ v5 = .int .i64 ((zBN l0_0 l1_0 n a + zCW l0_0 l1_0 n a p : Nat) : Int) ∧ v7 = .int .i64 p ∧ zA (Below w.heap.size w w') ∧ zA (w'.heap[w.heap.size]? = some (.cells #[.slice A0_0 n c0_0] 30 (0, 0))) ∧ zA (w'.heap[w.heap.size + 1]? = some (.cells #[.slice A1_0 n c1_0] 30 (0, 0))))
                case atStart => exact ⟨0, by omega, by omega, rfl, rfl, HB5, BA5, BB5⟩
                case round =>
                  clear HB5 BA5 BB5
                  obtain ⟨p, hp9, hgp, rfl, rfl, HB, BA, BB⟩ := hrel
                  by_cases hlp : p < 24
                  · have hlpz : (p : Int) < 24 := by omega
                    have hcp := zB5 l0_0 l1_0 n a p
                    have hbA : wr.cell? ⟨w.heap.size, 0, none⟩ = some (.slice A0_0 n c0_0) := (zL BA.out 0).trans rfl
                    go_wp2_with fail
                    refine (qi.calls k (n : Int) _ _ HNN.out).mono ?_
                    rintro e w6 ⟨v8, rfl, ho8, hb6⟩
                    obtain ⟨g8, c8, hv8, hg8, hg8l, _⟩ := Kd.QV ho8 (by rw [List.length_replicate]; exact hn0)
                    rw [List.length_replicate] at hv8
                    subst hv8
                    have HB6 := zA.mk (zN HB.out hb6)
                    have BA6 := zA.mk (zJ BA.out hb6)
                    have BB6 := zA.mk (zJ BB.out hb6)
                    have HO8 := zA.mk (Kd.JE rfl (Kd.qx ho8 HB.out.size))
                    have hlw : w.heap.size + 1 < wr.heap.size := zt BB.out
                    have hbA : w6.cell? ⟨w.heap.size, 0, none⟩ = some (.slice A0_0 n c0_0) := (zL BA6.out 0).trans rfl
                    clear hb6 ho8 BA BB HB
                    go_wp2_with fail
                    refine (qi.calls k (n : Int) _ _ HNN.out).mono ?_
                    rintro e w7 ⟨v9, rfl, ho9, hb7⟩
                    obtain ⟨g9, c9, hv9, hg9, hg9l, _⟩ := Kd.QV ho9 (by rw [List.length_replicate]; exact hn0)
                    rw [List.length_replicate] at hv9
                    subst hv9
                    have HB7 := zA.mk (zN HB6.out hb7)
                    have BA7 := zA.mk (zJ BA6.out hb7)
                    have BB7 := zA.mk (zJ BB6.out hb7)
                    have HX7 := zA.mk (Kd.qY (Kd.qq HO8.out hb7) (ok' := fun k => k = g8) (fun k hk => yey hk))
                    have HY7 := zA.mk (Kd.qY (Kd.JE rfl (Kd.qx ho9 HB6.out.size)) (ok' := fun k => k = g9) (fun k hk => yey hk))
                    clear hb7 ho9 BA6 BB6 HB6 HO8 hbA
                    have hne : g8 ≠ g9 := by omega
                    obtain ⟨hx1, hx2⟩ : w7.cell? ⟨g8, 0, none⟩ = some (.int .i64 (zDq 0 (List.replicate n (-1)) 0)) ∧ w7.frozen? ⟨g8, 0, none⟩ = false := Kd.qf 0 HX7.out (0 : Int) (Int.le_refl 0) (by omega)
                    have HX8 := zA.mk (show Kd.R (Kd.int .i64) 2 (w7.setCell ⟨g8, 0, none⟩ (.int .i64 (a : Int))) w.heap.size (fun k => k = g8) (.slice (some ⟨g8, 0, none⟩) n c8) ((List.replicate n (-1)).set 0 (a : Int)) from Kd.zBt HX7.out (0 : Int) (a : Int))
                    have HY8 := zA.mk (Kd.Qq (p := ⟨g8, 0, none⟩) HY7.out (fun k hk => by rw [hk]; exact (Ne.symm hne)) (.int .i64 (a : Int)))
                    obtain ⟨hy1, hy2⟩ : (w7.setCell ⟨g8, 0, none⟩ (.int .i64 (a : Int))).cell? ⟨g9, 0, none⟩ = some (.int .i64 (zDq 0 (List.replicate n (-1)) 0)) ∧ (w7.setCell ⟨g8, 0, none⟩ (.int .i64 (a : Int))).frozen? ⟨g9, 0, none⟩ = false := Kd.qf 0 HY8.out (0 : Int) (Int.le_refl 0) (by omega)
                    have HY9 := zA.mk (show Kd.R (Kd.int .i64) 2 ((w7.setCell ⟨g8, 0, none⟩ (.int .i64 (a : Int))).setCell ⟨g9, 0, none⟩ (.int .i64 (p : Int))) w.heap.size (fun k => k = g9) (.slice (some ⟨g9, 0, none⟩) n c9) ((List.replicate n (-1)).set 0 (p : Int)) from Kd.zBt HY8.out (0 : Int) (p : Int))
                    have HX9 := zA.mk (Kd.Qq (p := ⟨g9, 0, none⟩) HX8.out (fun k hk => by rw [hk]; exact hne) (.int .i64 (p : Int)))
                    have hw8 : w.heap.size ≤ g8 := by omega
                    have hw9 : w.heap.size ≤ g9 := by omega
                    have HB9 := zA.mk ((HB7.out.setCell (p := ⟨g8, 0, none⟩) hw8 (.int .i64 (a : Int))).setCell (p := ⟨g9, 0, none⟩) hw9 (.int .i64 (p : Int)))
                    have BA9 := zA.mk (Zf (Zf BA7.out (show w.heap.size ≠ g8 by omega) 0 (.int .i64 (a : Int))) (show w.heap.size ≠ g9 by omega) 0 (.int .i64 (p : Int)))
                    have BB9 := zA.mk (Zf (Zf BB7.out (show w.heap.size + 1 ≠ g8 by omega) 0 (.int .i64 (a : Int))) (show w.heap.size + 1 ≠ g9 by omega) 0 (.int .i64 (p : Int)))
                    clear HX7 HY7 HX8 HY8 HB7
                    have hfA : ((w7.setCell ⟨g8, 0, none⟩ (.int .i64 (a : Int))).setCell ⟨g9, 0, none⟩ (.int .i64 (p : Int))).cell? ⟨w.heap.size, 0, none⟩ = some (.slice A0_0 n c0_0) := (zL BA9.out 0).trans rfl
                    have hfB : ((w7.setCell ⟨g8, 0, none⟩ (.int .i64 (a : Int))).setCell ⟨g9, 0, none⟩ (.int .i64 (p : Int))).cell? ⟨w.heap.size + 1, 0, none⟩ = some (.slice A1_0 n c1_0) := (zL BB9.out 0).trans rfl
                    go_wp2_with fail
                    refine (zAU.calls k n Q1.out q2 hn8 A0_0 c0_0 l0_0 A1_0 c1_0 l1_0 g8 c8 g9 c9 ((List.replicate n (-1)).set 0 (a : Int)) ((List.replicate n (-1)).set 0 (p : Int)) 0 w _ HB9.out HR0.out HC0.out HRB.out HCB.out Q4.out Q5.out HX9.out HY9.out hne (zAh hn0 (by omega) (by omega) (by omega) (by omega))).mono ?_
                    rintro e wz ⟨rfl, hbz, hkz⟩
                    have hsz9 : ((w7.setCell ⟨g8, 0, none⟩ (.int .i64 (a : Int))).setCell ⟨g9, 0, none⟩ (.int .i64 (p : Int))).heap.size = w7.heap.size := by simp
                    have hl7 : w.heap.size + 1 < w7.heap.size := by
                      have := zt BB9.out
                      rw [hsz9] at this
                      exact this
                    have HBz := zA.mk hbz
                    have BAz := zA.mk ((hkz w.heap.size (by rw [hsz9]; omega) (by omega) (by omega)).trans BA9.out)
                    have BBz := zA.mk ((hkz (w.heap.size + 1) (by rw [hsz9]; omega) (by omega) (by omega)).trans BB9.out)
                    clear hbz hkz hfA hfB hx1 hx2 hy1 hy2 HX9 HY9 HB9 BA9 BB9 hsz9
                    have hsp : zCW l0_0 l1_0 n a (p + 1) = zCW l0_0 l1_0 n a p + (if zBM l0_0 l1_0 n a p = true then 1 else 0) := rfl
                    have HHT := zA.mk (show zA2 l0_0 l1_0 (n + 1) 0 ⟨(List.replicate n (-1)).set 0 (a : Int), (List.replicate n (-1)).set 0 (p : Int), [0]⟩ = zBM l0_0 l1_0 n a p from rfl)
                    rw [HHT.out]
                    cases hh : zBM l0_0 l1_0 n a p with
                    | true =>
                      rw [hh, if_pos rfl] at hsp
                      go_wp2
                      go_roundg (24 - (p + 1))
                      case measure => omega
                      case rel => exact ⟨p + 1, by omega, by omega, by (try simp only [zT]); (first | rfl | (congr 1; omega) | (congr 1; unfold wrap64; omega)), by (try simp only [zT]); (first | rfl | (congr 1; unfold wrap64; omega)), HBz, BAz, BBz⟩
                    | false =>
                      rw [hh, if_neg (by decide)] at hsp
                      go_wp2
                      go_roundg (24 - (p + 1))
                      case measure => omega
                      case rel => exact ⟨p + 1, by omega, by omega, by (try simp only [zT]); (first | rfl | (congr 1; omega)), by (try simp only [zT]); (first | rfl | (congr 1; unfold wrap64; omega)), HBz, BAz, BBz⟩
                  · obtain rfl : p = 24 := by omega
                    go_wp2
                    go_roundg (n - (a + 1))
                    case measure => omega
                    case rel => exact ⟨a + 1, by omega, by omega, by rw [zBN], by (try simp only [zT]); (first | rfl | (congr 1; unfold wrap64; omega)), HB, BA, BB⟩
              · obtain rfl : a = n := by omega
                go_wp2
                go_ret
                exact ⟨by first | rfl | (rw [HNL.out]; rfl), HB5.out⟩
        · rw [if_neg hl] at h
          have hr := yey h
          subst hr
          clear h
          go_wp2
          go_ret
          exact ⟨rfl, HB4.out⟩
end Go.Proofs.Ytfnopcbicceeaaa.P
