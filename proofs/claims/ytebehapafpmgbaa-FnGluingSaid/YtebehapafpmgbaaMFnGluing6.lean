/- The statement FnGluingSaid, proved: part 6 of 8 (texts of this session and of the kit's print, put together and cut to what is used by a program of it). -/
import Derived.Test.YtebehapafpmgbaaMFnGluing5
namespace Go.Proofs.Ytebehapafpmgbaa.P
open Go.RowKit Go.Proofs.YtebehapafpmgbaaW.PrintWords Go.Proofs.Ytebehapafpmgbaa.Lib
set_option linter.unusedVariables false
/-- A list that pairs all places below N. -/
structure In2 (p : Int → Int) (N : Nat) : Prop where
  at' : ∀ x : Int, 0 ≤ x → x < (N : Int) → 0 ≤ p x ∧ p x < (N : Int) ∧ p x ≠ x ∧ p (p x) = x
def lfp (p : Int → Int) (N x : Nat) : List Int := (upFrom (x : Int) (N - x)).filter fun y => decide ((x : Int) ≤ p y)
def cnt (p : Int → Int) : Nat → Nat → Nat
  | 0, _ => 0
  | d + 1, x => (if (x : Int) < p (x : Int) then 1 else 0) + cnt p d (x + 1)
section
variable {p : Int → Int} {N : Nat}
theorem lfp_skip (h : In2 p N) {x : Nat} (hx : x < N) (hp : ¬ (x : Int) < p (x : Int)) : lfp p N (x + 1) = lfp p N x := by
  have ha := h.at' (x : Int) (by omega) (by omega)
  obtain ⟨m, hm⟩ : ∃ m, N - x = m + 1 := ⟨N - x - 1, by omega⟩
  unfold lfp
  rw [hm, show N - (x + 1) = m by omega, upFrom, List.filter_cons, if_neg (by rw [decide_eq_true_eq]; omega)]
  apply List.filter_congr
  intro y hy
  obtain ⟨y0, y1⟩ := upFrom_mem.1 hy
  have hb := h.at' y (by omega) (by omega)
  have hne : p y ≠ (x : Int) := fun e => by
    have := hb.2.2.2
    rw [e] at this
    omega
  apply decide_eq_decide.2
  push_cast
  omega
theorem lfp_take (h : In2 p N) {x : Nat} (hx : x < N) (hp : (x : Int) < p (x : Int)) : (lfp p N x).length = (lfp p N (x + 1)).length + 2 := by
  have ha := h.at' (x : Int) (by omega) (by omega)
  obtain ⟨m, hm⟩ : ∃ m, N - x = m + 1 := ⟨N - x - 1, by omega⟩
  have e1 : lfp p N x = (x : Int) :: (upFrom ((x : Int) + 1) m).filter (fun y => decide ((x : Int) ≤ p y)) := by
    unfold lfp
    rw [hm, upFrom, List.filter_cons, if_pos (by rw [decide_eq_true_eq]; omega)]
  have hmem : p (x : Int) ∈ (upFrom ((x : Int) + 1) m).filter (fun y => decide ((x : Int) ≤ p y)) := by
    rw [List.mem_filter, upFrom_mem, decide_eq_true_eq, ha.2.2.2]
    omega
  have hnd : ((upFrom ((x : Int) + 1) m).filter (fun y => decide ((x : Int) ≤ p y))).Nodup := (upFrom_nodup m _).filter _
  have e2 : lfp p N (x + 1) = ((upFrom ((x : Int) + 1) m).filter (fun y => decide ((x : Int) ≤ p y))).erase (p (x : Int)) := by
    rw [hnd.erase_eq_filter, List.filter_filter]
    unfold lfp
    rw [show N - (x + 1) = m by omega]
    push_cast
    apply List.filter_congr
    intro y hy
    obtain ⟨y0, y1⟩ := upFrom_mem.1 hy
    have hb := h.at' y (by omega) (by omega)
    have hiff : (x : Int) + 1 ≤ p y ↔ y ≠ p (x : Int) ∧ (x : Int) ≤ p y := by
      constructor
      · intro q
        refine ⟨fun e => ?_, by omega⟩
        rw [e, ha.2.2.2] at q
        omega
      · rintro ⟨q1, q2⟩
        have : p y ≠ (x : Int) := fun e => q1 (by rw [← e]; exact hb.2.2.2.symm)
        omega
    rw [Bool.eq_iff_iff, decide_eq_true_eq, Bool.and_eq_true, bne_iff_ne, decide_eq_true_eq]
    exact hiff
  rw [e1, e2, List.length_cons, List.length_erase_of_mem hmem]
  have := List.length_pos_of_mem hmem
  omega
theorem lfp_cnt (h : In2 p N) : ∀ d x : Nat, x + d = N → (lfp p N x).length = 2 * cnt p d x
  | 0, x, e => by
    obtain rfl : x = N := by omega
    unfold lfp
    rw [Nat.sub_self]; rfl
  | d + 1, x, e => by
    have ih := lfp_cnt h d (x + 1) (by omega)
    rw [cnt]
    by_cases hp : (x : Int) < p (x : Int)
    · rw [if_pos hp, lfp_take h (by omega) hp, ih]; omega
    · rw [if_neg hp, ← lfp_skip h (by omega) hp, ih]; omega
theorem cnt_all (h : In2 p N) : 2 * cnt p N 0 = N := by
  have h1 := lfp_cnt h N 0 (by omega)
  have h2 : lfp p N 0 = upFrom 0 N := by
    unfold lfp
    rw [Nat.sub_zero]
    show List.filter (fun y => decide ((0 : Int) ≤ p y)) (upFrom 0 N) = upFrom 0 N
    refine List.filter_eq_self.2 (fun y hy => ?_)
    obtain ⟨y0, y1⟩ := upFrom_mem.1 hy
    have := (h.at' y y0 (by omega)).1
    rw [decide_eq_true_eq]; exact this
  rw [h2, upFrom_length] at h1
  exact h1.symm
end
theorem in2_of {N : Nat} {o : List Int} (h : MSt N [] o) : In2 (rd o) N := ⟨fun x x0 x1 => by
  obtain ⟨⟨h1, h2⟩, _, h3, h4⟩ := h.inv x x0 x1 (by simp)
  exact ⟨h1, h2, h3, h4⟩⟩
theorem pow6_key : ∀ c : Fin 9, 0 < (6 : Int) ^ c.val ∧ (6 : Int) ^ c.val ≤ 1679616 := by decide
theorem pow6 {c : Nat} (h : c ≤ 8) : 0 < (6 : Int) ^ c ∧ (6 : Int) ^ c ≤ 1679616 := pow6_key ⟨c, by omega⟩
theorem mapL_key : ∀ f g : Fin 4, (mapL (f.val : Int) (g.val : Int)).length = 6 := by decide +kernel
theorem mapL_six {f g : Int} (f0 : 0 ≤ f) (f1 : f ≤ 3) (g0 : 0 ≤ g) (g1 : g ≤ 3) : (mapL f g).length = 6 := by
  obtain ⟨i, rfl⟩ := fin4_of f0 f1
  obtain ⟨j, rfl⟩ := fin4_of g0 g1
  exact mapL_key i j
theorem mapL_at {f g i : Int} (f0 : 0 ≤ f) (f1 : f ≤ 3) (g0 : 0 ≤ g) (g1 : g ≤ 3) (i0 : 0 ≤ i) (i1 : i < 6) : 0 ≤ rd (mapL f g) i ∧ rd (mapL f g) i ≤ 23 ∧ rd (permL (rd (mapL f g) i)) f = g := by
  have hl := mapL_six f0 f1 g0 g1
  obtain ⟨n, rfl⟩ := Int.eq_ofNat_of_zero_le i0
  have hm : rd (mapL f g) (n : Int) ∈ mapL f g := by
    rw [rd_lt _ n (by omega)]
    exact List.getElem_mem _
  generalize rd (mapL f g) (n : Int) = y at hm
  unfold mapL at hm
  obtain ⟨h1, h2⟩ := List.mem_filter.1 hm
  obtain ⟨b0, b1⟩ := mapAll_bd y h1
  exact ⟨b0, b1, by simpa using h2⟩
def glG (t : Tri) (a f b p : Int) : Tri := setF (setF t a f ⟨b, p⟩) b (rd (permL p) f) ⟨a, invP p⟩
theorem glG_ok {t : Tri} {n : Nat} (hl : t.length = n) (h4 : ∀ r ∈ t, r.length = 4) {a f b p : Int} (a0 : 0 ≤ a) (a1 : a < (n : Int)) (f0 : 0 ≤ f) (f1 : f ≤ 3) (b0 : 0 ≤ b) (b1 : b < (n : Int)) (p0 : 0 ≤ p) (p1 : p ≤ 23) :
    impl_Triangulation_glue.f t a f b p = some (glG t a f b p) ∧ Ev (fun k => spec_l07Glue.f k t a f b p) (glG t a f b p) ∧ (glG t a f b p).length = n ∧ ∀ r ∈ glG t a f b p, r.length = 4 := by
  obtain ⟨q0, q1⟩ := permL_sm p0 p1 f0 f1
  have r1 : (rd_LFace t a).length = 4 := row4 h4 a0 (by omega)
  have hs4 : ∀ r ∈ setF t a f ⟨b, p⟩, r.length = 4 := setF_rows h4 a0 (by omega) f ⟨b, p⟩
  have hsl : (setF t a f ⟨b, p⟩).length = n := by rw [setF_length]; exact hl
  have r2 : (rd_LFace (setF t a f ⟨b, p⟩) b).length = 4 := row4 hs4 b0 (by omega)
  have c : (0 ≤ a ∧ a < (t.length : Int) ∧ 0 ≤ f ∧ f < ((rd_LFace t a).length : Int)) ∧ (0 ≤ b ∧ b < (t.length : Int) ∧ 0 ≤ rd (permL p) f ∧ rd (permL p) f < ((rd_LFace (setF t a f ⟨b, p⟩) b).length : Int)) := ⟨⟨a0, by omega, f0, by omega⟩, b0, by omega, q0, by omega⟩
  refine ⟨?_, ?_, ?_, ?_⟩
  · unfold impl_Triangulation_glue.f
    rw [target_eq p0 p1 f0 f1, yfy, partner_eq p0 p1, yfy]
    exact if_pos c
  · exact Ev.bind (l06At_ev p0 p1 f0 f1) (Ev.bind (l06Back_ev p0 p1) (ev_pos c (ev_some rfl)))
  · unfold glG; rw [setF_length]; exact hsl
  · exact setF_rows hs4 b0 (by omega) _ _
theorem ga_divs {num : Int} {c : Nat} (h0 : 0 ≤ num) (hc : c ≤ 7) : Int.tmod num (6 ^ (c + 1)) = num % 6 ^ (c + 1) ∧ wrap64 (Int.tdiv (6 ^ (c + 1)) 6) = 6 ^ c ∧ wrap64 (Int.tdiv (num % 6 ^ (c + 1)) (6 ^ c)) = num % 6 ^ (c + 1) / 6 ^ c ∧ 0 ≤ num % 6 ^ (c + 1) ∧ num % 6 ^ (c + 1) ≤ num ∧ 0 ≤ num % 6 ^ (c + 1) / 6 ^ c ∧ num % 6 ^ (c + 1) / 6 ^ c < 6 ∧ Int.tmod (num % 6 ^ (c + 1)) (6 ^ c) = num % 6 ^ (c + 1) % 6 ^ c := by
  obtain ⟨w0, w1⟩ := pow6 (show c ≤ 8 by omega)
  obtain ⟨v0, v1⟩ := pow6 (show c + 1 ≤ 8 by omega)
  have e6 : (6 : Int) ^ (c + 1) = 6 * 6 ^ c := by rw [Int.pow_succ, Int.mul_comm]
  have m0 : 0 ≤ num % 6 ^ (c + 1) := Int.emod_nonneg _ (by omega)
  have m1 : num % 6 ^ (c + 1) < 6 ^ (c + 1) := Int.emod_lt_of_pos _ v0
  have m2 : num % 6 ^ (c + 1) ≤ num := by
    have := Int.emod_add_mul_ediv num (6 ^ (c + 1))
    have hd : 0 ≤ num / 6 ^ (c + 1) := Int.ediv_nonneg h0 (by omega)
    have hm : 0 ≤ 6 ^ (c + 1) * (num / 6 ^ (c + 1)) := Int.mul_nonneg (by omega) hd
    omega
  have d0 : 0 ≤ num % 6 ^ (c + 1) / 6 ^ c := Int.ediv_nonneg m0 (by omega)
  have d1 : num % 6 ^ (c + 1) / 6 ^ c < 6 := Int.ediv_lt_of_lt_mul w0 (by rw [e6] at m1; rw [e6]; exact m1)
  refine ⟨Int.tmod_eq_emod_of_nonneg h0, ?_, ?_, m0, m2, d0, d1, Int.tmod_eq_emod_of_nonneg m0⟩
  · rw [Int.tdiv_eq_ediv_of_nonneg (by omega), e6, Int.mul_ediv_cancel_left _ (by decide)]
    exact wrap_id (by omega) (by omega)
  · rw [Int.tdiv_eq_ediv_of_nonneg m0]
    generalize num % 6 ^ (c + 1) / 6 ^ c = z at d0 d1
    exact wrap_id (by omega) (by omega)
theorem four_tdiv {x : Int} (h0 : 0 ≤ x) (h1 : x ≤ 100) : wrap64 (Int.tdiv x 4) = x / 4 ∧ Int.tmod x 4 = x % 4 := by
  rw [Int.tdiv_eq_ediv_of_nonneg h0, Int.tmod_eq_emod_of_nonneg h0]
  exact ⟨wrap_id (by omega) (by omega), rfl⟩
theorem ga_k {ka kb k : Nat} (h : ka + kb + 1 ≤ k) : ∃ j, k = j + 1 ∧ ka ≤ j ∧ kb ≤ j := ⟨k - 1, by omega, by omega, by omega⟩
/-- What is done for a face whose partner comes behind it, on both sides. -/
theorem glue_sim {n : Nat} (hn : n ≤ 4) {o : List Int} (ho : MSt (4 * n) [] o) : ∀ (d x c : Nat) (num : Int) (t : Tri), x + d = 4 * n → c = cnt (rd o) d x → c ≤ 8 → 0 ≤ num → t.length = n → (∀ r ∈ t, r.length = 4) →
    ∃ t' : Tri, Ev (fun k => impl_gluingAt.l1 k num (6 ^ c) o ((4 * n : Nat) : Int) (x : Int) t) t' ∧ Ev (fun k => spec_l16Gluing.l2 k (n : Int) (num % 6 ^ c) (6 ^ c) o (x : Int) t) t' ∧ t'.length = n ∧ ∀ r ∈ t', r.length = 4
  | 0, x, c, num, t, hd, hc, h8, h0, hl, h4 => by
    have e4 : wrap64 (4 * (n : Int)) = ((4 * n : Nat) : Int) := by rw [wrap_id (by omega) (by omega)]; omega
    refine ⟨t, ev_step (f := fun _ => some t) (fun k => by rw [impl_gluingAt.l1, if_neg (by omega)]) (Ev.now _), ev_step (f := fun _ => some t) (fun k => by rw [spec_l16Gluing.l2, e4, if_neg (by omega)]) (Ev.now _), hl, h4⟩
  | d + 1, x, c, num, t, hd, hc, h8, h0, hl, h4 => by
    have e4 : wrap64 (4 * (n : Int)) = ((4 * n : Nat) : Int) := by rw [wrap_id (by omega) (by omega)]; omega
    have hlen := ho.len
    have hx : (x : Int) < ((4 * n : Nat) : Int) := by omega
    have hx0 : (0 : Int) ≤ (x : Int) := by omega
    have hxo : (x : Int) < (o.length : Int) := by omega
    have hxw : wrap64 ((x : Int) + 1) = ((x + 1 : Nat) : Int) := wrap_succ (by omega)
    obtain ⟨y0, y1, y2, y3⟩ := (in2_of ho).at' (x : Int) hx0 hx
    rw [cnt] at hc
    obtain ⟨y, hy⟩ : ∃ y, rd o (x : Int) = y := ⟨_, rfl⟩
    rw [hy] at y0 y1 y2 hc
    clear y3
    have hd1 : x + 1 + d = 4 * n := by omega
    have hx100 : (x : Int) ≤ 100 := by omega
    have hy100 : y ≤ 100 := by omega
    have bx0 : (0 : Int) ≤ (x : Int) / 4 := by omega
    have bx1 : (x : Int) / 4 < (n : Int) := by omega
    have bx2 : (0 : Int) ≤ (x : Int) % 4 := by omega
    have bx3 : (x : Int) % 4 ≤ 3 := by omega
    have by0 : (0 : Int) ≤ y / 4 := by omega
    have by1 : y / 4 < (n : Int) := by omega
    have by2 : (0 : Int) ≤ y % 4 := by omega
    have by3 : y % 4 ≤ 3 := by omega
    have hy2 : ¬ (x : Int) < y → y < (x : Int) := fun h => by omega
    have hy3 : (x : Int) < y → ¬ y < (x : Int) := fun h => by omega
    clear y2 y1
    by_cases hp : (x : Int) < y
    · rw [if_pos hp] at hc
      obtain ⟨c', hc'⟩ : ∃ c', cnt (rd o) d (x + 1) = c' := ⟨_, rfl⟩
      rw [hc', Nat.add_comm] at hc
      subst hc
      have hc7 : c' ≤ 7 := Nat.le_of_succ_le_succ h8
      have hc8 : c' ≤ 8 := Nat.le_succ_of_le hc7
      have hny := hy3 hp
      obtain ⟨x4, xm⟩ := four_tdiv hx0 hx100
      obtain ⟨z4, zm⟩ := four_tdiv y0 hy100
      have hm1 := mapL_six bx2 bx3 by2 by3
      have hmap := perms16_ev bx2 bx3 by2 by3
      have hmi : impl_mapping.f ((x : Int) % 4) (y % 4) = some (mapL ((x : Int) % 4) (y % 4)) := if_pos ⟨bx2, bx3⟩
      obtain ⟨g1, g2, g3, g4, g5, g6, g7, g8⟩ := ga_divs (num := num) (c := c') h0 hc7
      have w0 := (pow6 hc8).1
      have v0 := (pow6 h8).1
      obtain ⟨p0, p1, p2⟩ := mapL_at bx2 bx3 by2 by3 g6 g7
      obtain ⟨k1, k2, k3, k4⟩ := glG_ok hl h4 bx0 bx1 bx2 bx3 by0 by1 p0 p1
      obtain ⟨t', t1, t2, t3, t4⟩ := glue_sim hn ho d (x + 1) c' (num % 6 ^ (c' + 1)) _ hd1 hc'.symm hc8 g4 k3 k4
      have hne1 : ¬ (6 : Int) ^ (c' + 1) = 0 := fun e => by rw [e] at v0; exact absurd v0 (by decide)
      have hne0 : ¬ (6 : Int) ^ c' = 0 := fun e => by rw [e] at w0; exact absurd w0 (by decide)
      have g7' : num % 6 ^ (c' + 1) / 6 ^ c' < ((mapL ((x : Int) % 4) (y % 4)).length : Int) := by rw [hm1]; exact g7
      refine ⟨t', ?_, ?_, t3, t4⟩
      · exact ev_step (fun k => by rw [impl_gluingAt.l1, if_pos hx, if_pos hx0, if_pos hxo, hy, if_pos hp, if_neg hne1, xm, zm, hmi, yfy, g2, if_neg hne0, g1, g3, if_pos g6, if_pos g7', x4, z4, k1, yfy, hxw]) t1
      · obtain ⟨ka, qa⟩ := hmap
        obtain ⟨kb, qb⟩ := (Ev.bind k2 t2 : Ev (fun k => (spec_l07Glue.f k t ((x : Int) / 4) ((x : Int) % 4) (y / 4) (rd (mapL ((x : Int) % 4) (y % 4)) (num % 6 ^ (c' + 1) / 6 ^ c'))).bind fun t117 => spec_l16Gluing.l2 k (n : Int) (num % 6 ^ (c' + 1) % 6 ^ c') (6 ^ c') o ((x + 1 : Nat) : Int) t117) t')
        refine ⟨ka + kb + 1, fun k hk => ?_⟩
        obtain ⟨j, rfl, hj1, hj2⟩ := ga_k hk
        have q1 : spec_l16Perms.f j ((x : Int) % 4) (y % 4) = some (mapL ((x : Int) % 4) (y % 4)) := qa j hj1
        have q2 := qb j hj2
        show spec_l16Gluing.l2 (j + 1) (n : Int) (num % 6 ^ (c' + 1)) (6 ^ (c' + 1)) o (x : Int) t = some t'
        rw [spec_l16Gluing.l2, e4, if_pos hx, if_pos hx0, if_pos hxo, hy, if_neg hny, xm, zm, q1, yfy, g2, if_neg hne0, g3, if_pos g6, if_pos g7', x4, z4, g8, hxw]
        exact q2
    · rw [if_neg hp, Nat.zero_add] at hc
      have hlt : y < (x : Int) := hy2 hp
      obtain ⟨t', t1, t2, t3, t4⟩ := glue_sim hn ho d (x + 1) c num t hd1 hc h8 h0 hl h4
      refine ⟨t', ?_, ?_, t3, t4⟩
      · exact ev_step (fun k => by rw [impl_gluingAt.l1, if_pos hx, if_pos hx0, if_pos hxo, hy, if_neg hp, hxw]) t1
      · exact ev_step (fun k => by rw [spec_l16Gluing.l2, e4, if_pos hx, if_pos hx0, if_pos hxo, hy, if_pos hlt, hxw]) t2
theorem impl_copy_ev {t : Tri} (hs : Small t) : Ev (fun k => impl_copyTriangulation.f k t) t := by
  refine ev_loop0 (fun k (s : Int × Tri) => impl_copyTriangulation.l0 k t (t.length : Int) s.1 s.2) (fun s => ∃ n : Nat, n ≤ t.length ∧ s.1 = n ∧ s.2 = t.take n) (fun s => t.length - s.1.toNat) (fun _ => t) ?_ (0, []) ⟨0, by omega, rfl, by simp⟩
  rintro ⟨i, acc⟩ ⟨n, hn, rfl, rfl⟩
  dsimp only
  have hl := hs.1
  by_cases hlt : n < t.length
  · have hr := hs.2 t[n] (List.getElem_mem hlt)
    refine .inr ⟨(((n + 1 : Nat) : Int), t.take (n + 1)), ⟨n + 1, by omega, rfl, rfl⟩, by simp; omega, rfl, fun k => ?_⟩
    simp only [impl_copyTriangulation.l0]
    rw [if_pos (by omega), if_pos (by omega), if_pos (by omega), rd_LFace_lt t n hlt, slices_Clone_Simpl_Face.f, if_pos (by omega), yfy, if_pos (by simp; omega), wrap_succ (by omega), List.take_succ_eq_append_getElem hlt]
  · obtain rfl : n = t.length := by omega
    refine .inl fun k => ?_
    simp only [impl_copyTriangulation.l0]
    rw [if_neg (by omega), List.take_length]
def rowF : List SFace := [⟨-1, 0⟩, ⟨-1, 0⟩, ⟨-1, 0⟩, ⟨-1, 0⟩]
def freeT (n : Nat) : Tri := List.replicate n rowF
theorem freeT_len (n : Nat) : (freeT n).length = n := List.length_replicate
theorem freeT_row (n : Nat) : ∀ r ∈ freeT n, r.length = 4 := fun r hr => by rw [List.eq_of_mem_replicate hr]; rfl
theorem freeT_succ (n : Nat) : freeT n ++ [rowF] = freeT (n + 1) := (List.replicate_succ').symm
theorem freeT_small {n : Nat} (h : n ≤ 4) : Small (freeT n) := ⟨by rw [freeT_len]; omega, fun r hr => by rw [freeT_row n r hr]; decide⟩
theorem with_ev {n : Nat} (h : n ≤ 4) : Ev (fun k => impl_withTetrahedron.f k (freeT n)) (freeT (n + 1)) :=
  Ev.bind (impl_copy_ev (freeT_small h)) (Ev.bind (a := ((-1 : Int), (0 : Int))) (ev_const (by unfold impl_boundary.f; rfl)) (Ev.bind (a := rowF) (ev_const rfl) (ev_pos (by rw [freeT_len]; omega) (ev_some (freeT_succ n)))))
/-- The weight and the size of a census. -/
def gaS (n : Nat) : Int := mtv ((4 * n : Nat) : Int) * 6 ^ (2 * n)
theorem gaS_key : ∀ n : Fin 4, impl_GluingCount.f 40 ((n.val + 1 : Nat) : Int) = some (gaS (n.val + 1)) ∧ spec_l16Size.f 40 ((n.val + 1 : Nat) : Int) = some (gaS (n.val + 1)) ∧ 0 < gaS (n.val + 1) ∧ gaS (n.val + 1) ≤ 4000000000000 ∧ 0 < mtv ((4 * (n.val + 1) : Nat) : Int) := by decide +kernel
theorem gaS_ev {n : Nat} (h0 : 1 ≤ n) (h1 : n ≤ 4) : Ev (fun k => impl_GluingCount.f k (n : Int)) (gaS n) ∧ Ev (fun k => spec_l16Size.f k (n : Int)) (gaS n) ∧ 0 < gaS n ∧ gaS n ≤ 4000000000000 := by
  obtain ⟨j, rfl⟩ : ∃ j, n = j + 1 := ⟨n - 1, by omega⟩
  obtain ⟨a, b, c, d, _⟩ := gaS_key ⟨j, by omega⟩
  exact ⟨Ev.of (fun k => impl_GluingCount.mono _ k) a, Ev.of (fun k => spec_l16Size.mono _ k) b, c, d⟩
theorem start_st (N : Nat) : MSt N (upFrom 0 N) (List.replicate N 0) :=
  ⟨upFrom_nodup N 0, fun x hx => by have := upFrom_mem.1 hx; omega, List.length_replicate, fun x x0 x1 hx => absurd (upFrom_mem.2 ⟨x0, by omega⟩) hx⟩
/-- The matching, in the functions' own words. -/
theorem mat_ev {n : Nat} (h1 : n ≤ 4) {num : Int} (h0 : 0 ≤ num) (h2 : num < mtv ((4 * n : Nat) : Int)) : ∃ o : List Int, Ev (fun k => impl_matchingAt.f k ((4 * n : Nat) : Int) num) o ∧ Ev (fun k => spec_l16Matching.f k ((4 * n : Nat) : Int) num) o ∧ MSt (4 * n) [] o := by
  obtain ⟨o, o1, o2, o3⟩ := matching_ev (N := 4 * n) (by omega) (2 * n) (upFrom 0 (4 * n)) (List.replicate (4 * n) 0) num (start_st _) (by rw [upFrom_length]; omega) (by omega) h0 (by rw [show 2 * (2 * n) = 4 * n by omega]; exact h2)
  refine ⟨o, ?_, ?_, o3⟩
  · refine ev_pos ⟨by omega, by omega⟩ (Ev.bind (a := upFrom 0 (4 * n)) ?_ ?_)
    · obtain ⟨j, hj⟩ : ∃ j : Fin 5, n = j.val := ⟨⟨n, by omega⟩, rfl⟩
      have key : ∀ j : Fin 5, impl_counting.f 40 ((4 * j.val : Nat) : Int) = some (upFrom 0 (4 * j.val)) := by decide +kernel
      rw [hj]
      exact Ev.of (fun k => impl_counting.mono _ k) (key j)
    · rw [Int.toNat_natCast]; exact o1
  · refine Ev.bind (fresh_ev (4 * n) (by omega)) (ev_pos (by omega) (ev_pos (by rw [Int.toNat_natCast]; omega) ?_))
    rw [Int.toNat_natCast]; exact o2
theorem pow_wrap {i : Nat} (h : i ≤ 7) : wrap64 ((6 : Int) ^ i * 6) = 6 ^ (i + 1) := by
  obtain ⟨v0, v1⟩ := pow6 (show i + 1 ≤ 8 by omega)
  have e : (6 : Int) ^ i * 6 = 6 ^ (i + 1) := (Int.pow_succ 6 i).symm
  rw [e]
  exact wrap_id (by omega) (by omega)
theorem spec_base {n : Nat} (hn : n ≤ 4) {num : Int} {R : Tri} (hR : Ev (fun k => spec_l16Gluing.l0 k (n : Int) num (6 ^ (2 * n)) ((2 * n : Nat) : Int)) R) : ∀ (d i : Nat), i + d = 2 * n → Ev (fun k => spec_l16Gluing.l0 k (n : Int) num (6 ^ i) (i : Int)) R
  | 0, i, e => by
    obtain rfl : i = 2 * n := by omega
    exact hR
  | d + 1, i, e => by
    have ih := spec_base hn hR d (i + 1) (by omega)
    have e2 : wrap64 (2 * (n : Int)) = ((2 * n : Nat) : Int) := by rw [wrap_id (by omega) (by omega)]; omega
    have hi : (i : Int) < ((2 * n : Nat) : Int) := by omega
    exact ev_step (fun k => by rw [spec_l16Gluing.l0, e2, if_pos hi, pow_wrap (by omega), wrap_succ (by omega)]) ih
theorem spec_frees {n : Nat} (hn : n ≤ 4) {num b : Int} {o : List Int} {R : Tri} (hR : Ev (fun k => spec_l16Gluing.l2 k (n : Int) num b o 0 (freeT n)) R) : ∀ (d i : Nat), i + d = n → Ev (fun k => spec_l16Gluing.l1 k (n : Int) num b o (i : Int) (freeT i)) R
  | 0, i, e => by
    obtain rfl : i = n := by omega
    exact ev_step (fun k => by rw [spec_l16Gluing.l1, if_neg (by omega)]) hR
  | d + 1, i, e => by
    have ih := spec_frees hn hR d (i + 1) (by omega)
    exact ev_step (fun k => by rw [spec_l16Gluing.l1, if_pos (by omega), show spec_l07Free.f = some rowF from rfl, yfy, if_pos (by rw [freeT_len]; omega), freeT_succ, wrap_succ (by omega)]) ih
theorem impl_frees {n : Nat} (hn : n ≤ 4) {num : Int} {R : Tri} (hR : Ev (fun k => impl_gluingAt.l0 k (n : Int) num (n : Int) (n : Int) (freeT n)) R) : ∀ (d i : Nat), i + d = n → Ev (fun k => impl_gluingAt.l0 k (n : Int) num (n : Int) (i : Int) (freeT i)) R
  | 0, i, e => by
    obtain rfl : i = n := by omega
    exact hR
  | d + 1, i, e => by
    have ih := impl_frees hn hR d (i + 1) (by omega)
    refine ev_step (f := fun k => (impl_withTetrahedron.f k (freeT i)).bind fun t => impl_gluingAt.l0 k (n : Int) num (n : Int) (wrap64 ((i : Int) + 1)) t) (fun k => by rw [impl_gluingAt.l0, if_pos (by omega)]) (Ev.bind (with_ev (by omega)) ?_)
    rw [wrap_succ (by omega)]
    exact ih
/-- The gluing with a number. -/
theorem gluing_ev {n : Nat} (h0 : 1 ≤ n) (h1 : n ≤ 4) {num : Int} (n0 : 0 ≤ num) (n1 : num < gaS n) : ∃ t : Tri, Ev (fun k => impl_gluingAt.f k (n : Int) num) t ∧ Ev (fun k => spec_l16Gluing.f k (n : Int) num) t ∧ t.length = n ∧ ∀ r ∈ t, r.length = 4 := by
  obtain ⟨w0, w1⟩ := pow6 (show 2 * n ≤ 8 by omega)
  have hs := (gaS_ev h0 h1).2.2
  have q0 : 0 ≤ num / 6 ^ (2 * n) := Int.ediv_nonneg n0 (Int.le_of_lt w0)
  have q1 : num / 6 ^ (2 * n) < mtv ((4 * n : Nat) : Int) := Int.ediv_lt_of_lt_mul w0 (by unfold gaS at n1; exact n1)
  have q2 : num / 6 ^ (2 * n) ≤ num := Int.ediv_le_self _ n0
  have hn64 : num ≤ 9223372036854775807 := by omega
  have hw : wrap64 (Int.tdiv num (6 ^ (2 * n))) = num / 6 ^ (2 * n) := by
    rw [Int.tdiv_eq_ediv_of_nonneg n0]
    generalize num / 6 ^ (2 * n) = z at q0 q2
    exact wrap_id (by omega) (by omega)
  have hm : Int.tmod num (6 ^ (2 * n)) = num % 6 ^ (2 * n) := Int.tmod_eq_emod_of_nonneg n0
  have hne : ¬ (6 : Int) ^ (2 * n) = 0 := fun e => by rw [e] at w0; exact absurd w0 (by decide)
  have e4 : wrap64 (4 * (n : Int)) = ((4 * n : Nat) : Int) := by rw [wrap_id (by omega) (by omega)]; omega
  have e2 : wrap64 (2 * (n : Int)) = ((2 * n : Nat) : Int) := by rw [wrap_id (by omega) (by omega)]; omega
  have z2 : ¬ ((2 * n : Nat) : Int) < ((2 * n : Nat) : Int) := by omega
  have zn : ¬ (n : Int) < (n : Int) := by omega
  obtain ⟨o, o1, o2, o3⟩ := mat_ev h1 q0 q1
  have hc : 2 * n = cnt (rd o) (4 * n) 0 := by have := cnt_all (in2_of o3); omega
  obtain ⟨t, t1, t2, t3, t4⟩ := glue_sim h1 o3 (4 * n) 0 (2 * n) num (freeT n) (by omega) hc (by omega) n0 (freeT_len n) (freeT_row n)
  refine ⟨t, ?_, ?_, t3, t4⟩
  · refine impl_frees h1 ?_ n 0 (by omega)
    refine ev_step (f := fun k => (impl_gluings.f k (n : Int)).bind fun t106 => (if t106 = 0 then (none) else ((impl_matchingAt.f k (wrap64 (4 * (n : Int))) (wrap64 (Int.tdiv num t106))).bind fun t107 => (impl_gluingAt.l1 k num t106 t107 (t107.length : Int) 0 (freeT n))))) (fun k => by rw [impl_gluingAt.l0, if_neg zn]) ?_
    refine Ev.bind (gluings_ev h1) (ev_neg hne ?_)
    rw [hw, e4]
    refine Ev.bind o1 ?_
    rw [show ((o.length : Nat) : Int) = ((4 * n : Nat) : Int) by rw [o3.len]]
    exact t1
  · have := spec_base (n := n) h1 (num := num) (R := t) ?_ (2 * n) 0 (by omega)
    · exact this
    · refine ev_step (f := fun k => (spec_l16Matching.f k (wrap64 (4 * (n : Int))) (wrap64 (Int.tdiv num (6 ^ (2 * n))))).bind fun t102 => (spec_l16Gluing.l1 k (n : Int) (Int.tmod num (6 ^ (2 * n))) (6 ^ (2 * n)) t102 0 ([] : List (List (SFace))))) (fun k => by rw [spec_l16Gluing.l0, e2, if_neg z2, if_neg hne]) ?_
      rw [hw, hm, e4]
      refine Ev.bind o2 ?_
      exact spec_frees h1 t2 n 0 (by omega)
/-- Both sides come to one answer. -/
theorem ga_ev (a0 a1 : Int) : ∃ r : Tri × Int, Ev (fun k => impl_GluingAt.f k a0 a1) r ∧ Ev (fun k => spec_GluingAt.f k a0 a1) r ∧ Small r.1 := by
  have hnil : Small ([] : Tri) := ⟨by simp, fun r hr => by cases hr⟩
  by_cases h : 1 ≤ a0 ∧ a0 ≤ 4
  · obtain ⟨n, rfl⟩ := Int.eq_ofNat_of_zero_le (show 0 ≤ a0 by omega)
    obtain ⟨s1, s2, s3, s4⟩ := gaS_ev (n := n) (by omega) (by omega)
    have hd : (decide (1 ≤ (n : Int)) && decide ((n : Int) ≤ 4)) = true := by simp; omega
    have hs : wrap64 (gaS n - 1) = gaS n - 1 := wrap_id (by omega) (by omega)
    by_cases hk : 0 ≤ a1 ∧ a1 ≤ gaS n - 1
    · have hd2 : (decide (0 ≤ a1) && decide (a1 ≤ gaS n - 1)) = true := by rw [Bool.and_eq_true, decide_eq_true_eq, decide_eq_true_eq]; exact hk
      obtain ⟨t, t1, t2, t3, t4⟩ := gluing_ev (n := n) (by omega) (by omega) hk.1 (by omega)
      refine ⟨(t, 0), ?_, ?_, ⟨by show t.length ≤ 1048576; omega, fun r hr => by rw [t4 r hr]; decide⟩⟩
      · refine Ev.bind (ev_const (inRange_eq ..)) (ev_pos hd (Ev.bind s1 (Ev.bind (ev_const (inRange_eq ..)) (ev_pos (by rw [hs]; exact hd2) (Ev.bind t1 (Ev.now _))))))
      · refine Ev.bind (ev_const (l07In_eq ..)) (ev_pos hd (Ev.bind s2 (Ev.bind (ev_const (l07In_eq ..)) (ev_pos (by rw [hs]; exact hd2) (Ev.bind t2 (Ev.now _))))))
    · have hd2 : ¬ (decide (0 ≤ a1) && decide (a1 ≤ gaS n - 1)) = true := by rw [Bool.and_eq_true, decide_eq_true_eq, decide_eq_true_eq]; exact hk
      refine ⟨([], 4), ?_, ?_, hnil⟩
      · refine Ev.bind (ev_const (inRange_eq ..)) (ev_pos hd (Ev.bind s1 (Ev.bind (ev_const (inRange_eq ..)) (ev_neg (by rw [hs]; exact hd2) (Ev.now _)))))
      · refine Ev.bind (ev_const (l07In_eq ..)) (ev_pos hd (Ev.bind s2 (Ev.bind (ev_const (l07In_eq ..)) (ev_neg (by rw [hs]; exact hd2) (Ev.now _)))))
  · have hd : ¬ (decide (1 ≤ a0) && decide (a0 ≤ 4)) = true := by rw [Bool.and_eq_true, decide_eq_true_eq, decide_eq_true_eq]; exact h
    exact ⟨([], 2), Ev.bind (ev_const (inRange_eq ..)) (ev_neg hd (Ev.now _)), Ev.bind (ev_const (l07In_eq ..)) (ev_neg hd (Ev.now _)), hnil⟩
theorem ev_unique {α : Type} {g : Nat → Option α} {a b : α} (ha : Ev g a) (hb : Ev g b) : a = b := by
  obtain ⟨ka, qa⟩ := ha
  obtain ⟨kb, qb⟩ := hb
  have h1 := qa (ka + kb) (by omega)
  have h2 := qb (ka + kb) (by omega)
  exact yey (h1.symm.trans h2)
theorem idxOf_at {l : List Int} (h : l.Nodup) {i : Nat} (hi : i < l.length) : l.idxOf l[i] = i := by
  have hm : l[i] ∈ l := List.getElem_mem hi
  have hlt := List.idxOf_lt_length_of_mem hm
  exact nodup_at h hlt hi (List.getElem_idxOf hlt)
/-- One round of the program. -/
theorem fg_round {o left : List Int} {acc m : Int} {q : Nat} {a b : Int} {R : Int} (hl : left.length ≤ 16) (hq : q + 1 < left.length) (hnd : left.Nodup) (ha : rd left 0 = a) (a0 : 0 ≤ a) (a1 : a < (o.length : Int)) (hoa : rd o a = b) (hb : rd left ((q + 1 : Nat) : Int) = b)
    (hm : Ev (fun k => impl_matchings.f k ((left.length : Int) - 2)) m) (hR : Ev (fun k => mnQ o k (wrap64 (acc + wrap64 ((q : Int) * m))) ((left.eraseIdx (q + 1)).drop 1)) R) : Ev (fun k => mnQ o k acc left) R := by
  have hc2 : wrap64 ((left.length : Int) - 2) = (left.length : Int) - 2 := wrap_id (by omega) (by omega)
  have hw1 : wrap64 (((q + 1 : Nat) : Int) - 1) = (q : Int) := by rw [wrap_id (by omega) (by omega)]; omega
  have z0 : ¬ left.length = 0 := by omega
  have z1 : (0 : Int) ≤ ((q + 1 : Nat) : Int) ∧ ((q + 1 : Nat) : Int) < (left.length : Int) ∧ 2 ≤ left.length := ⟨by omega, by omega, by omega⟩
  have hbm : left[q + 1] = b := by rw [← hb, rd_lt left (q + 1) hq]
  have hix : left.idxOf b = q + 1 := by rw [← hbm]; exact idxOf_at hnd hq
  have hmem : b ∈ left := by rw [← hbm]; exact List.getElem_mem hq
  have hidx : Ev (fun k => mnI k o left) ((q + 1 : Nat) : Int) := by
    refine ev_pos ⟨by rw [ha]; exact a0, by rw [ha]; exact a1⟩ ?_
    rw [ha, hoa, ← hix]
    exact index_mem (by omega) hmem
  refine ev_step (f := fun k => (mnI k o left).bind fun i => if 0 ≤ i ∧ i < (left.length : Int) ∧ 2 ≤ left.length then (impl_matchings.f k (wrap64 ((left.length : Int) - 2))).bind fun m => mnQ o k (wrap64 (acc + wrap64 (wrap64 (i - 1) * m))) ((left.eraseIdx i.toNat).drop 1) else none) (fun k => by rw [mnQ, if_neg z0]) ?_
  refine Ev.bind hidx (ev_pos z1 ?_)
  rw [hc2, hw1, Int.toNat_natCast]
  exact Ev.bind hm hR
/-- The number is read off what the search writes. -/
theorem matching_num {N : Nat} (hN : N ≤ 16) : ∀ (j : Nat) (left out : List Int) (num : Int), MSt N left out → left.length = 2 * j → j ≤ 8 → 0 ≤ num → num < mtv ((2 * j : Nat) : Int) →
    ∃ o : List Int, Ev (fun k => maQ k num left out) o ∧ MSt N [] o ∧ (∀ x : Int, 0 ≤ x → x < (N : Int) → x ∉ left → rd o x = rd out x) ∧ ∀ acc : Int, 0 ≤ acc → acc + num ≤ 4611686018427387904 → Ev (fun k => mnQ o k acc left) (acc + num)
  | 0, left, out, num, hS, hl, hj, h0, h1 => by
    obtain rfl : left = [] := List.eq_nil_of_length_eq_zero (by omega)
    have hz : num = 0 := by
      have : mtv ((2 * 0 : Nat) : Int) = 1 := mtv_zero
      omega
    refine ⟨out, ev_step (f := fun _ => some out) (fun k => by rw [maQ, if_pos (show ([] : List Int).length = 0 from rfl)]) (Ev.now _), hS, fun _ _ _ _ => rfl, fun acc _ _ => ?_⟩
    exact ev_step (f := fun _ => some (acc + num)) (fun k => by rw [mnQ, if_pos (show ([] : List Int).length = 0 from rfl), hz, Int.add_zero]) (Ev.now _)
  | j + 1, left, out, num, hS, hl, hj, h0, h1 => by
    obtain ⟨o', p1, _, _⟩ := matching_ev hN (j + 1) left out num hS hl hj h0 h1
    obtain ⟨m1, m2, m3⟩ := mtv_two (show j ≤ 7 by omega)
    rw [show 2 * (j + 1) = 2 * j + 2 by omega, m1] at h1
    have me1 := (mats_ev (m := ((2 * j : Nat) : Int)) (by omega) (by omega)).1
    generalize hmm : mtv ((2 * j : Nat) : Int) = m at m2 m3 h1 me1
    cases left with
    | nil => simp at hl
    | cons a M =>
      have hMl : M.length = 2 * j + 1 := by rw [List.length_cons] at hl; omega
      have hq0 : 0 ≤ num / m := Int.ediv_nonneg h0 (by omega)
      have hq1 : num / m < ((2 * j + 1 : Nat) : Int) := Int.ediv_lt_of_lt_mul m2 h1
      have hsum := Int.emod_add_mul_ediv num m
      obtain ⟨q, hq⟩ := Int.eq_ofNat_of_zero_le hq0
      have hqM : q < M.length := by rw [hq] at hq1; omega
      have hr0 : 0 ≤ num % m := Int.emod_nonneg _ (by omega)
      have hr1 : num % m < m := Int.emod_lt_of_pos _ m2
      have hq64 : wrap64 (q : Int) = (q : Int) := wrap_id (by omega) (by omega)
      have HTM := Aside0.mk (Int.tmod_eq_emod_of_nonneg (b := m) h0)
      have HQD : Aside0 (wrap64 (Int.tdiv num m) = (q : Int)) := ⟨by rw [Int.tdiv_eq_ediv_of_nonneg h0, hq]; exact hq64⟩
      rw [hq] at hsum
      generalize num % m = num2 at hr0 hr1 HTM hsum
      clear hq hq0 hq1 h1 m1 m3
      have hS2 := hS.step hqM
      obtain ⟨a0, a1⟩ := hS.bd a (List.mem_cons_self ..)
      obtain ⟨b0, b1⟩ := hS.bd M[q] (List.mem_cons_of_mem _ (List.getElem_mem hqM))
      have hnd := hS.nd
      obtain ⟨hna, hnm⟩ := List.nodup_cons.1 hnd
      have hbm : M[q] ∈ M := List.getElem_mem hqM
      have hrb : rd (a :: M) ((q + 1 : Nat) : Int) = M[q] := by
        rw [rd_nat, List.getD_cons_succ, List.getD_eq_getElem?_getD, List.getElem?_eq_getElem hqM, Option.getD_some]
      have hra : rd (a :: M) 0 = a := rfl
      have hlen := hS.len
      have hel : (M.eraseIdx q).length = 2 * j := by rw [List.length_eraseIdx, if_pos hqM]; omega
      obtain ⟨o, o1, o2, o3, o4⟩ := matching_num hN j (M.eraseIdx q) _ num2 hS2 hel (by omega) hr0 (by rw [hmm]; exact hr1)
      have hdrop : ((a :: M).eraseIdx (q + 1)).drop 1 = M.eraseIdx q := by rw [List.eraseIdx_cons_succ, List.drop_one, List.tail_cons]
      have hll : (((a :: M).length : Nat) : Int) - 2 = ((2 * j : Nat) : Int) := by rw [hl]; omega
      have hsub : ∀ x ∈ M.eraseIdx q, x ∈ M := fun x hx => (List.eraseIdx_sublist M q).subset hx
      have han : a ∉ M.eraseIdx q := fun hx => hna (hsub a hx)
      generalize M[q] = b at *
      have hab : a ≠ b := fun e => hna (by rw [e]; exact hbm)
      have hs : ∀ x : Int, 0 ≤ x → rd ((out.set a.toNat b).set b.toNat a) x = if x = b then a else if x = a then b else rd out x := fun x hx => by
        rw [rd_setG b0 (by rw [List.length_set]; omega) hx, rd_setG a0 (by omega) hx]
      have hoa : rd o a = b := by rw [o3 a a0 a1 han, hs a a0, if_neg hab, if_pos rfl]
      have hol := o2.len
      refine ⟨o, ?_, o2, fun x x0 x1 hx => ?_, fun acc hacc hbig => ?_⟩
      · have hw : wrap64 ((((a :: M).length : Nat) : Int) - 2) = ((2 * j : Nat) : Int) := by rw [hll]; exact wrap_id (by omega) (by omega)
        have z0 : ¬ (a :: M).length = 0 := by rw [hl]; omega
        have z1 : (m ≠ 0 ∧ 0 ≤ (q : Int) ∧ (q : Int) + 1 < ((a :: M).length : Int)) ∧ (0 ≤ a ∧ a < (out.length : Int)) ∧ (0 ≤ b ∧ b < (out.length : Int)) := ⟨⟨by omega, by omega, by rw [hl]; omega⟩, ⟨a0, by omega⟩, b0, by omega⟩
        have hq1' : (q : Int) + 1 = ((q + 1 : Nat) : Int) := by omega
        obtain ⟨ka, qa⟩ := me1
        obtain ⟨kb, qb⟩ := o1
        refine ⟨ka + kb + 1, fun k hk => ?_⟩
        obtain ⟨i, rfl⟩ : ∃ i, k = i + 1 := ⟨k - 1, by omega⟩
        have r1 : impl_matchings.f i ((2 * j : Nat) : Int) = some m := qa i (by omega)
        have r2 := qb i (by omega)
        show maQ (i + 1) num (a :: M) out = some o
        rw [maQ, if_neg z0, hw, r1, yfy, HQD.out, hra, hq1', hrb, HTM.out]
        rw [hq1'] at z1
        rw [if_pos z1, Int.toNat_natCast, hdrop]
        exact r2
      · have hxa : x ≠ a := fun e => hx (by rw [e]; exact List.mem_cons_self ..)
        have hxM : x ∉ M := fun e => hx (List.mem_cons_of_mem _ e)
        have hxb : x ≠ b := fun e => hxM (by rw [e]; exact hbm)
        rw [o3 x x0 x1 (fun e => hxM (hsub x e)), hs x x0, if_neg hxb, if_neg hxa]
      · have hmul : (q : Int) * m + num2 = num := by rw [Int.mul_comm]; omega
        have hqm0 : 0 ≤ (q : Int) * m := Int.mul_nonneg (by omega) (by omega)
        generalize hz : (q : Int) * m = z at hmul hqm0
        have hR := o4 (acc + z) (by omega) (by omega)
        rw [show acc + z + num2 = acc + num by omega] at hR
        refine fg_round (q := q) (m := m) (by rw [hl]; omega) (by rw [hl]; omega) hnd hra a0 (by omega) hoa hrb (by rw [hll]; exact me1) ?_
        rw [hz, wrap_id (x := z) (by omega) (by omega), wrap_id (x := acc + z) (by omega) (by omega), hdrop]
        exact hR
theorem fc_setF {t : Tri} {a f b g : Int} {x : SFace} (h4 : ∀ r ∈ t, r.length = 4) (a0 : 0 ≤ a) (a1 : a < (t.length : Int)) (f0 : 0 ≤ f) (f1 : f ≤ 3) (b0 : 0 ≤ b) (b1 : b < (t.length : Int)) (g0 : 0 ≤ g) (g1 : g ≤ 3) :
    fc (setF t a f x) b g = if b = a ∧ g = f then x else fc t b g := by
  obtain ⟨i, rfl⟩ := Int.eq_ofNat_of_zero_le a0
  obtain ⟨j, rfl⟩ := Int.eq_ofNat_of_zero_le b0
  obtain ⟨p, rfl⟩ := Int.eq_ofNat_of_zero_le f0
  obtain ⟨q, rfl⟩ := Int.eq_ofNat_of_zero_le g0
  have hi : i < t.length := by omega
  have hj : j < t.length := by omega
  have hr : t[i].length = 4 := h4 _ (List.getElem_mem hi)
  have hrj : t[j].length = 4 := h4 _ (List.getElem_mem hj)
  have hset : setF t (i : Int) (p : Int) x = t.set i (t[i].set p x) := by unfold setF; rw [Int.toNat_natCast, Int.toNat_natCast, rd_LFace_lt t i hi]
  have hjl : j < (setF t (i : Int) (p : Int) x).length := by rw [setF_length]; exact hj
  unfold fc
  rw [rd_LFace_lt _ j hjl, rd_LFace_lt t j hj]
  by_cases e : j = i
  · subst e
    have e1 : (setF t (j : Int) (p : Int) x)[j] = t[j].set p x := by simp [hset]
    rw [e1, rd_Face_lt _ q (by rw [List.length_set]; omega), rd_Face_lt _ q (by omega)]
    by_cases e2 : q = p
    · subst e2
      rw [if_pos ⟨rfl, rfl⟩]
      simp
    · rw [if_neg (fun h => e2 (by omega))]
      rw [List.getElem_set, if_neg (fun h => e2 h.symm)]
  · have e1 : (setF t (i : Int) (p : Int) x)[j] = t[j] := by
      simp only [hset]
      rw [List.getElem_set, if_neg (fun h => e h.symm)]
    rw [e1, if_neg (fun h => e (by omega))]
theorem inv_back {p v : Int} (h0 : 0 ≤ p) (h1 : p ≤ 23) (v0 : 0 ≤ v) (v1 : v ≤ 3) : rd (permL (invP p)) (rd (permL p) v) = v ∧ invP (invP p) = p := by
  obtain ⟨m, rfl⟩ := fin_of h0 h1
  obtain ⟨n, rfl⟩ := fin4_of v0 v1
  have key : ∀ (m : Fin 24) (n : Fin 4), rd (permL (invP (m.val : Int))) (rd (permL (m.val : Int)) (n.val : Int)) = (n.val : Int) ∧ invP (invP (m.val : Int)) = (m.val : Int) := by decide +kernel
  exact key m n
/-- A face is glued as the matching says, by a permutation. -/
structure FaceAt (t : Tri) (o : Int → Int) (z : Int) : Prop where
  tet : (fc t (z / 4) (z % 4)).f0 = o z / 4
  per : 0 ≤ (fc t (z / 4) (z % 4)).f1 ∧ (fc t (z / 4) (z % 4)).f1 ≤ 23
  img : rd (permL (fc t (z / 4) (z % 4)).f1) (z % 4) = o z % 4
  back : (fc t (o z / 4) (o z % 4)).f1 = invP (fc t (z / 4) (z % 4)).f1
/-- In the course of the gluing: the faces below x, and their partners, are glued. -/
def Upto (t : Tri) (o : Int → Int) (N x : Nat) : Prop := ∀ z : Int, 0 ≤ z → z < (N : Int) → (z < (x : Int) ∨ o z < (x : Int)) → FaceAt t o z
theorem Upto.skip {t : Tri} {o : Int → Int} {N x : Nat} (h : Upto t o N x) (hI : In2 o N) (hp : ¬ (x : Int) < o (x : Int)) : Upto t o N (x + 1) := fun z z0 z1 hz => by
  obtain ⟨p0, p1, p2, p3⟩ := hI.at' z z0 z1
  refine h z z0 z1 ?_
  by_cases e : z < (x : Int)
  · exact .inl e
  · by_cases e2 : o z < (x : Int)
    · exact .inr e2
    · exfalso
      rcases hz with q | q
      · have ez : z = (x : Int) := by push_cast at q; omega
        rw [ez] at e2 p2
        omega
      · have ez : o z = (x : Int) := by push_cast at q; omega
        rw [← ez, p3] at hp
        omega
theorem Upto.glue {t : Tri} {o : Int → Int} {n x : Nat} (h : Upto t o (4 * n) x) (hI : In2 o (4 * n)) (hl : t.length = n) (h4 : ∀ r ∈ t, r.length = 4) (hx : x < 4 * n) (hp : (x : Int) < o (x : Int)) {p : Int} (p0 : 0 ≤ p) (p1 : p ≤ 23) (hpi : rd (permL p) ((x : Int) % 4) = o (x : Int) % 4) :
    Upto (glG t ((x : Int) / 4) ((x : Int) % 4) (o (x : Int) / 4) p) o (4 * n) (x + 1) ∧ (fc (glG t ((x : Int) / 4) ((x : Int) % 4) (o (x : Int) / 4) p) ((x : Int) / 4) ((x : Int) % 4)).f1 = p ∧
    ∀ z : Int, 0 ≤ z → z < ((4 * n : Nat) : Int) → (z < (x : Int) ∨ o z < (x : Int)) → fc (glG t ((x : Int) / 4) ((x : Int) % 4) (o (x : Int) / 4) p) (z / 4) (z % 4) = fc t (z / 4) (z % 4) := by
  obtain ⟨y0, y1, y2, y3⟩ := hI.at' (x : Int) (by omega) (by omega)
  have hbx : 0 ≤ (x : Int) / 4 ∧ (x : Int) / 4 < (n : Int) ∧ 0 ≤ (x : Int) % 4 ∧ (x : Int) % 4 ≤ 3 := by omega
  have hby : 0 ≤ o (x : Int) / 4 ∧ o (x : Int) / 4 < (n : Int) ∧ 0 ≤ o (x : Int) % 4 ∧ o (x : Int) % 4 ≤ 3 := by omega
  have hs4 : ∀ r ∈ setF t ((x : Int) / 4) ((x : Int) % 4) ⟨o (x : Int) / 4, p⟩, r.length = 4 := setF_rows h4 hbx.1 (by rw [hl]; exact hbx.2.1) _ _
  have key : ∀ z : Int, 0 ≤ z → z < ((4 * n : Nat) : Int) → fc (glG t ((x : Int) / 4) ((x : Int) % 4) (o (x : Int) / 4) p) (z / 4) (z % 4) = if z = o (x : Int) then ⟨(x : Int) / 4, invP p⟩ else if z = (x : Int) then ⟨o (x : Int) / 4, p⟩ else fc t (z / 4) (z % 4) := fun z z0 z1 => by
    have hz : 0 ≤ z / 4 ∧ z / 4 < (n : Int) ∧ 0 ≤ z % 4 ∧ z % 4 ≤ 3 := by omega
    unfold glG
    rw [hpi, fc_setF hs4 hby.1 (by rw [setF_length, hl]; exact hby.2.1) hby.2.2.1 hby.2.2.2 hz.1 (by rw [setF_length, hl]; exact hz.2.1) hz.2.2.1 hz.2.2.2, fc_setF h4 hbx.1 (by rw [hl]; exact hbx.2.1) hbx.2.2.1 hbx.2.2.2 hz.1 (by rw [hl]; exact hz.2.1) hz.2.2.1 hz.2.2.2]
    have i1 : (z / 4 = o (x : Int) / 4 ∧ z % 4 = o (x : Int) % 4) ↔ z = o (x : Int) := ⟨fun e => by omega, fun e => by rw [e]; exact ⟨rfl, rfl⟩⟩
    have i2 : (z / 4 = (x : Int) / 4 ∧ z % 4 = (x : Int) % 4) ↔ z = (x : Int) := ⟨fun e => by omega, fun e => by rw [e]; exact ⟨rfl, rfl⟩⟩
    simp only [i1, i2]
  have hne : ¬ (x : Int) = o (x : Int) := fun e => y2 e.symm
  have kx := key (x : Int) (by omega) (by omega)
  rw [if_neg hne, if_pos rfl] at kx
  have ky := key (o (x : Int)) y0 y1
  rw [if_pos rfl] at ky
  obtain ⟨v1, v2⟩ := inv_back p0 p1 hbx.2.2.1 hbx.2.2.2
  obtain ⟨w0, w1⟩ := invP_bd p0 p1
  refine ⟨fun z z0 z1 hz => ?_, by rw [kx], fun z z0 z1 hz => ?_⟩
  rotate_left
  · rw [key z z0 z1, if_neg (fun e => by rw [e, y3] at hz; omega), if_neg (fun e => by rw [e] at hz; omega)]
  have kz := key z z0 z1
  by_cases e1 : z = o (x : Int)
  · rw [if_pos e1] at kz
    have eo : o z = (x : Int) := by rw [e1]; exact y3
    refine ⟨by rw [kz, eo], by rw [kz]; exact ⟨w0, w1⟩, ?_, ?_⟩
    · rw [kz, eo, e1, ← hpi]; exact v1
    · rw [eo, kx, kz]; exact v2.symm
  · rw [if_neg e1] at kz
    by_cases e2 : z = (x : Int)
    · rw [if_pos e2] at kz
      refine ⟨by rw [kz, e2], by rw [kz]; exact ⟨p0, p1⟩, by rw [kz, e2]; exact hpi, ?_⟩
      rw [kz, e2, ky]
    · rw [if_neg e2] at kz
      obtain ⟨q0, q1, q2, q3⟩ := hI.at' z z0 z1
      have hz2 : z < (x : Int) ∨ o z < (x : Int) := by
        rcases hz with q | q
        · left; push_cast at q; omega
        · right
          have : o z ≠ (x : Int) := fun e => e1 (by rw [← e]; exact q3.symm)
          push_cast at q; omega
      obtain ⟨f1, f2, f3, f4⟩ := h z z0 z1 hz2
      have ko := key (o z) q0 q1
      have n1 : o z ≠ o (x : Int) := fun e => e2 (by rw [← q3, e, y3])
      have n2 : o z ≠ (x : Int) := fun e => e1 (by rw [← e]; exact q3.symm)
      rw [if_neg n1, if_neg n2] at ko
      exact ⟨by rw [kz]; exact f1, by rw [kz]; exact f2, by rw [kz]; exact f3, by rw [ko, kz]; exact f4⟩
theorem mapL_nd : ∀ f g : Fin 4, (mapL (f.val : Int) (g.val : Int)).Nodup := by decide +kernel
theorem mapL_idx {f g i : Int} (f0 : 0 ≤ f) (f1 : f ≤ 3) (g0 : 0 ≤ g) (g1 : g ≤ 3) (i0 : 0 ≤ i) (i1 : i < 6) : (((mapL f g).idxOf (rd (mapL f g) i) : Nat) : Int) = i := by
  have hl := mapL_six f0 f1 g0 g1
  obtain ⟨a, rfl⟩ := fin4_of f0 f1
  obtain ⟨b, rfl⟩ := fin4_of g0 g1
  obtain ⟨n, rfl⟩ := Int.eq_ofNat_of_zero_le i0
  have hn : n < (mapL (a.val : Int) (b.val : Int)).length := by omega
  rw [rd_lt _ n hn, idxOf_at (mapL_nd a b) hn]
theorem pt_face {t : Tri} {o : Int → Int} {z : Int} (h : FaceAt t o z) : pt t z = o z := by
  unfold pt qp
  rw [h.tet, h.img]
  omega
theorem fg_digit {num dig V : Int} {c : Nat} (h0 : 0 ≤ num) (hc : c ≤ 7) (hd : 0 ≤ dig) (hV : dig * 6 ^ (c + 1) + num % 6 ^ (c + 1) = V) (hb : V ≤ 1000000000000) :
    0 ≤ 6 * dig + num % 6 ^ (c + 1) / 6 ^ c ∧ wrap64 (wrap64 (6 * dig) + num % 6 ^ (c + 1) / 6 ^ c) = 6 * dig + num % 6 ^ (c + 1) / 6 ^ c ∧ (6 * dig + num % 6 ^ (c + 1) / 6 ^ c) * 6 ^ c + num % 6 ^ (c + 1) % 6 ^ c = V := by
  obtain ⟨g1, g2, g3, g4, g5, g6, g7, g8⟩ := ga_divs h0 hc
  obtain ⟨w0, w1⟩ := pow6 (show c ≤ 8 by omega)
  have e6 : (6 : Int) ^ (c + 1) = 6 * 6 ^ c := by rw [Int.pow_succ, Int.mul_comm]
  have hs := Int.emod_add_mul_ediv (num % 6 ^ (c + 1)) (6 ^ c)
  have hr0 : 0 ≤ num % 6 ^ (c + 1) % 6 ^ c := Int.emod_nonneg _ (by omega)
  clear g1 g2 g3 g8 g5
  generalize num % 6 ^ (c + 1) = u at *
  rw [e6] at hV
  generalize (6 : Int) ^ c = w at *
  generalize u / w = q at *
  generalize u % w = r at *
  have hdw : dig * (6 * w) = 6 * (dig * w) := by rw [Int.mul_left_comm]
  have hle : dig ≤ dig * w := by
    have := Int.mul_le_mul_of_nonneg_left (show (1 : Int) ≤ w by omega) hd
    rwa [Int.mul_one] at this
  have hqw : w * q = q * w := Int.mul_comm w q
  have hexp : (6 * dig + q) * w = 6 * (dig * w) + q * w := by rw [Int.add_mul, Int.mul_assoc]
  rw [hdw] at hV
  rw [hqw] at hs
  generalize dig * w = x at *
  generalize q * w = y at *
  refine ⟨by omega, ?_, by rw [hexp]; omega⟩
  rw [wrap_id (x := 6 * dig) (by omega) (by omega)]
  exact wrap_id (by omega) (by omega)
/-- All faces are glued; the digits are those of the number. -/
theorem glue_full {n : Nat} (hn : n ≤ 4) {o : List Int} (ho : MSt (4 * n) [] o) : ∀ (d x c : Nat) (num : Int) (t : Tri), x + d = 4 * n → c = cnt (rd o) d x → c ≤ 8 → 0 ≤ num → t.length = n → (∀ r ∈ t, r.length = 4) → Upto t (rd o) (4 * n) x →
    ∃ t' : Tri, Ev (fun k => impl_gluingAt.l1 k num (6 ^ c) o ((4 * n : Nat) : Int) (x : Int) t) t' ∧ t'.length = n ∧ (∀ r ∈ t', r.length = 4) ∧ Upto t' (rd o) (4 * n) (4 * n) ∧
      (∀ z : Int, 0 ≤ z → z < ((4 * n : Nat) : Int) → (z < (x : Int) ∨ rd o z < (x : Int)) → fc t' (z / 4) (z % 4) = fc t (z / 4) (z % 4)) ∧
      ∀ dig V : Int, 0 ≤ dig → dig * 6 ^ c + num % 6 ^ c = V → V ≤ 1000000000000 → digR t' d x dig = V
  | 0, x, c, num, t, hd, hc, h8, h0, hl, h4, hU => by
    obtain rfl : x = 4 * n := by omega
    obtain rfl : c = 0 := hc
    refine ⟨t, ev_step (f := fun _ => some t) (fun k => by rw [impl_gluingAt.l1, if_neg (by omega)]) (Ev.now _), hl, h4, hU, fun _ _ _ _ => rfl, fun dig V d0 hV hb => ?_⟩
    rw [digR]
    rw [show (6 : Int) ^ 0 = 1 from rfl] at hV
    omega
  | d + 1, x, c, num, t, hd, hc, h8, h0, hl, h4, hU => by
    have hI := in2_of ho
    have hlen := ho.len
    have hx : (x : Int) < ((4 * n : Nat) : Int) := by omega
    have hx0 : (0 : Int) ≤ (x : Int) := by omega
    have hxn : x < 4 * n := by omega
    have hxo : (x : Int) < (o.length : Int) := by omega
    have hxw : wrap64 ((x : Int) + 1) = ((x + 1 : Nat) : Int) := wrap_succ (by omega)
    obtain ⟨y0, y1, y2, y3⟩ := hI.at' (x : Int) hx0 hx
    rw [cnt] at hc
    have hd1 : x + 1 + d = 4 * n := by omega
    have hx100 : (x : Int) ≤ 100 := by omega
    have hy100 : rd o (x : Int) ≤ 100 := by omega
    have bx0 : (0 : Int) ≤ (x : Int) / 4 := by omega
    have bx1 : (x : Int) / 4 < (n : Int) := by omega
    have bx2 : (0 : Int) ≤ (x : Int) % 4 := by omega
    have bx3 : (x : Int) % 4 ≤ 3 := by omega
    have by0 : (0 : Int) ≤ rd o (x : Int) / 4 := by omega
    have by1 : rd o (x : Int) / 4 < (n : Int) := by omega
    have by2 : (0 : Int) ≤ rd o (x : Int) % 4 := by omega
    have by3 : rd o (x : Int) % 4 ≤ 3 := by omega
    have hxs : (x : Int) < ((x + 1 : Nat) : Int) := by omega
    have hx1 : ∀ z : Int, z < (x : Int) → z < ((x + 1 : Nat) : Int) := fun z hz => by push_cast; omega
    have hx4n : (x : Int) < ((4 * n : Nat) : Int) ∨ rd o (x : Int) < ((4 * n : Nat) : Int) := .inl hx
    by_cases hp : (x : Int) < rd o (x : Int)
    · rw [if_pos hp] at hc
      obtain ⟨c', hc'⟩ : ∃ c', cnt (rd o) d (x + 1) = c' := ⟨_, rfl⟩
      rw [hc', Nat.add_comm] at hc
      subst hc
      have hc7 : c' ≤ 7 := Nat.le_of_succ_le_succ h8
      have hc8 : c' ≤ 8 := Nat.le_succ_of_le hc7
      obtain ⟨x4, xm⟩ := four_tdiv hx0 hx100
      obtain ⟨z4, zm⟩ := four_tdiv y0 hy100
      have hm1 := mapL_six bx2 bx3 by2 by3
      have hmi : impl_mapping.f ((x : Int) % 4) (rd o (x : Int) % 4) = some (mapL ((x : Int) % 4) (rd o (x : Int) % 4)) := if_pos ⟨bx2, bx3⟩
      obtain ⟨g1, g2, g3, g4, g5, g6, g7, g8⟩ := ga_divs (num := num) (c := c') h0 hc7
      have w0 := (pow6 hc8).1
      have v0 := (pow6 h8).1
      obtain ⟨p0, p1, p2⟩ := mapL_at bx2 bx3 by2 by3 g6 g7
      have hix := mapL_idx bx2 bx3 by2 by3 g6 g7
      obtain ⟨k1, _, k3, k4⟩ := glG_ok hl h4 bx0 bx1 bx2 bx3 by0 by1 p0 p1
      obtain ⟨u1, u2, u3⟩ := hU.glue hI hl h4 hxn hp p0 p1 p2
      obtain ⟨t', t1, t3, t4, t5, t6, t7⟩ := glue_full hn ho d (x + 1) c' (num % 6 ^ (c' + 1)) _ hd1 hc'.symm hc8 g4 k3 k4 u1
      have hne1 : ¬ (6 : Int) ^ (c' + 1) = 0 := fun e => by rw [e] at v0; exact absurd v0 (by decide)
      have hne0 : ¬ (6 : Int) ^ c' = 0 := fun e => by rw [e] at w0; exact absurd w0 (by decide)
      have g7' : num % 6 ^ (c' + 1) / 6 ^ c' < ((mapL ((x : Int) % 4) (rd o (x : Int) % 4)).length : Int) := by rw [hm1]; exact g7
      have hq : qp t' (x : Int) = rd (mapL ((x : Int) % 4) (rd o (x : Int) % 4)) (num % 6 ^ (c' + 1) / 6 ^ c') := by
        show (fc t' ((x : Int) / 4) ((x : Int) % 4)).f1 = _
        rw [t6 (x : Int) hx0 hx (.inl hxs)]
        exact u2
      have hpt : pt t' (x : Int) = rd o (x : Int) := pt_face (t5 (x : Int) hx0 hx hx4n)
      refine ⟨t', ?_, t3, t4, t5, fun z z0 z1 hz => ?_, fun dig V dg0 hV hb => ?_⟩
      · exact ev_step (fun k => by rw [impl_gluingAt.l1, if_pos hx, if_pos hx0, if_pos hxo, if_pos hp, if_neg hne1, xm, zm, hmi, yfy, g2, if_neg hne0, g1, g3, if_pos g6, if_pos g7', x4, z4, k1, yfy, hxw]) t1
      · rw [t6 z z0 z1 (hz.elim (fun q => .inl (hx1 z q)) (fun q => .inr (hx1 _ q)))]
        exact u3 z z0 z1 hz
      · obtain ⟨e1, e2, e3⟩ := fg_digit h0 hc7 dg0 hV hb
        rw [digR, hpt, if_pos hp, hq, hix, e2]
        exact t7 _ V e1 e3 hb
    · rw [if_neg hp, Nat.zero_add] at hc
      have hU2 := hU.skip hI hp
      obtain ⟨t', t1, t3, t4, t5, t6, t7⟩ := glue_full hn ho d (x + 1) c num t hd1 hc h8 h0 hl h4 hU2
      have hpt : pt t' (x : Int) = rd o (x : Int) := pt_face (t5 (x : Int) hx0 hx hx4n)
      refine ⟨t', ?_, t3, t4, t5, fun z z0 z1 hz => t6 z z0 z1 (hz.elim (fun q => .inl (hx1 z q)) (fun q => .inr (hx1 _ q))), fun dig V dg0 hV hb => ?_⟩
      · exact ev_step (fun k => by rw [impl_gluingAt.l1, if_pos hx, if_pos hx0, if_pos hxo, if_neg hp, hxw]) t1
      · rw [digR, hpt, if_neg hp]
        exact t7 dig V dg0 hV hb
def prs (t : Tri) (x : Nat) : List Int := (List.range x).map fun (i : Nat) => pt t (i : Int)
theorem prs_len (t : Tri) (x : Nat) : (prs t x).length = x := by simp [prs]
theorem prs_rd (t : Tri) {x i : Nat} (h : i < x) : rd (prs t x) (i : Int) = pt t (i : Int) := by simp [prs, rd, h]
theorem prs_succ (t : Tri) (x : Nat) : prs t (x + 1) = prs t x ++ [pt t (x : Int)] := by simp [prs, List.range_succ]
theorem idxOf_before : ∀ (l : List Int) (x : Int) (j : Nat), j < l.idxOf x → rd l (j : Int) ≠ x
  | [], x, j, h => by simp at h
  | a :: l, x, j, h => by
    by_cases e : a = x
    · rw [List.idxOf_cons, show (a == x) = true from by simpa using e, cond_true] at h; omega
    · rw [List.idxOf_cons, show (a == x) = false from by simpa using e, cond_false] at h
      cases j with
      | zero => exact e
      | succ j =>
        have := idxOf_before l x j (by omega)
        rw [rd_nat] at this ⊢
        rw [List.getD_cons_succ]; exact this
section
variable {t : Tri}
/-- What one round takes off. -/
theorem lft_round (h : Clo t) {x : Nat} (hx : x < 4 * t.length) (hp : (x : Int) < pt t (x : Int)) :
    ∃ i : Nat, (lft t x).idxOf (pt t (x : Int)) = i ∧ 1 ≤ i ∧ i < (lft t x).length ∧ pt t (x : Int) ∈ lft t x ∧ rd (lft t x) 0 = (x : Int) ∧ rd (lft t x) (i : Int) = pt t (x : Int) ∧ (∀ j : Nat, j < i → rd (lft t x) (j : Int) ≠ pt t (x : Int)) ∧ ((lft t x).eraseIdx i).drop 1 = lft t (x + 1) := by
  obtain ⟨M, h1, h2, h3⟩ := lft_take h hx hp
  have hne : ¬ (x : Int) = pt t (x : Int) := by omega
  refine ⟨M.idxOf (pt t (x : Int)) + 1, ?_, by omega, ?_, ?_, ?_, ?_, ?_, ?_⟩
  · rw [h1, List.idxOf_cons, show ((x : Int) == pt t (x : Int)) = false from by simpa using hne, cond_false]
  · rw [h1, List.length_cons]
    have := List.idxOf_lt_length_of_mem h2
    omega
  · rw [h1]; exact List.mem_cons_of_mem _ h2
  · rw [h1]; rfl
  · rw [h1, rd_nat, List.getD_cons_succ]
    have := List.idxOf_lt_length_of_mem h2
    rw [List.getD_eq_getElem?_getD, List.getElem?_eq_getElem this, Option.getD_some, List.getElem_idxOf]
  · intro j hj
    rw [h1]
    cases j with
    | zero => exact hne
    | succ j =>
      rw [rd_nat, List.getD_cons_succ]
      have := idxOf_before M (pt t (x : Int)) j (by omega)
      rw [rd_nat] at this
      exact this
  · rw [h1, h3, List.eraseIdx_cons_succ, List.drop_one, List.tail_cons]
theorem lft_end : lft t (4 * t.length) = [] := by unfold lft; rw [Nat.sub_self]; rfl
/-- The program's loop over what is left. -/
theorem mnQ_ev (h : Clo t) (hn : t.length ≤ 4) : ∀ (d x : Nat) (num : Int), x + d = 4 * t.length → Ev (fun k => mnQ (prs t (4 * t.length)) k num (lft t x)) (numR t d x num)
  | 0, x, num, hd => by
    obtain rfl : x = 4 * t.length := by omega
    rw [lft_end, numR]
    exact ev_step (f := fun _ => some num) (fun k => by rw [mnQ, if_pos (show ([] : List Int).length = 0 from rfl)]) (Ev.now _)
  | d + 1, x, num, hd => by
    have hx : x < 4 * t.length := by omega
    have h8 := (isTri_good h.tri).1
    rw [numR]
    by_cases hp : (x : Int) < pt t (x : Int)
    · rw [if_pos hp]
      obtain ⟨i, e1, e2, e3, e4, e5, e6, e7, e8⟩ := lft_round h hx hp
      have hl := lft_len (t := t) x
      have ha := h.at (x := (x : Int)) (by omega) (by omega)
      have ih := mnQ_ev h hn d (x + 1) (wrap64 (num + wrap64 (wrap64 ((i : Int) - 1) * mtv (((lft t x).length : Int) - 2)))) (by omega)
      rw [e1]
      refine ev_step (f := fun k => (mnI k (prs t (4 * t.length)) (lft t x)).bind fun i => if 0 ≤ i ∧ i < ((lft t x).length : Int) ∧ 2 ≤ (lft t x).length then (impl_matchings.f k (wrap64 (((lft t x).length : Int) - 2))).bind fun m => mnQ (prs t (4 * t.length)) k (wrap64 (num + wrap64 (wrap64 (i - 1) * m))) (((lft t x).eraseIdx i.toNat).drop 1) else none) (fun k => by rw [mnQ, if_neg (by omega)]) ?_
      refine Ev.bind (a := (i : Int)) ?_ (ev_pos ⟨by omega, by omega, by omega⟩ ?_)
      · refine ev_pos ⟨by rw [e5]; omega, by rw [e5, prs_len]; omega⟩ ?_
        rw [e5, prs_rd t hx, ← e1]
        exact index_mem (by omega) e4
      · rw [wrap_id (x := ((lft t x).length : Int) - 2) (by omega) (by omega)]
        refine Ev.bind (mats_ev (by omega) (by omega)).1 ?_
        rw [Int.toNat_natCast, e8]
        exact ih
    · rw [if_neg hp, ← lft_skip h hx hp]
      exact mnQ_ev h hn d (x + 1) num (by omega)
end
section
variable {t : Tri}
theorem pt_wrap (hn : t.length ≤ 4) {x : Int} (a0 : 0 ≤ pt t x) (a1 : pt t x < 4 * (t.length : Int)) {g : Int} (a4 : pt t x / 4 = (fc t (x / 4) (x % 4)).f0) (a5 : pt t x % 4 = g) : wrap64 (wrap64 (4 * (fc t (x / 4) (x % 4)).f0) + g) = pt t x := by
  rw [← a4, ← a5]
  generalize pt t x = y at a0 a1
  unfold wrap64
  omega
end
section
variable {t : Tri}
theorem fx_wrap {a f : Nat} (ha : a ≤ 8) (hf : f ≤ 4) : wrap64 (wrap64 (4 * (a : Int)) + (f : Int)) = ((4 * a + f : Nat) : Int) := by unfold wrap64; omega
theorem fx_tmod {a f : Nat} (hf : f < 4) : Int.tmod ((4 * a + f : Nat) : Int) 4 = (f : Int) := by rw [Int.tmod_eq_emod_of_nonneg (by omega)]; omega
theorem gn_l1_step {ps : List Int} {dig g x y : Int} {a f : Nat} {row : List SFace} {R : Int × Int} (hf : f < 4) (hps : ps.length ≤ 100) (hr : row.length = 4) (ht : impl_Face_target.f (rd_Face row (f : Int)).f0 (rd_Face row (f : Int)).f1 (f : Int) = some g)
    (hw : wrap64 (wrap64 (4 * (rd_Face row (f : Int)).f0) + g) = y) (hx : wrap64 (wrap64 (4 * (a : Int)) + (f : Int)) = x) {G : Nat → Option (Int × Int)}
    (hG : ∀ k, (if x < y then ((impl_mapping.f (Int.tmod x 4) (Int.tmod y 4)).bind fun t113 => ((slices_Index_Sint64.f k t113 (rd_Face row (f : Int)).f1).bind fun t116 => (impl_GluingNumber.l1 k (ps ++ [y]) (wrap64 ((wrap64 (6 * dig)) + t116)) (a : Int) t (t.length : Int) (a : Int) row 4 ((f + 1 : Nat) : Int) t))) else (impl_GluingNumber.l1 k (ps ++ [y]) dig (a : Int) t (t.length : Int) (a : Int) row 4 ((f + 1 : Nat) : Int) t)) = G k) (h : Ev G R) :
    Ev (fun k => impl_GluingNumber.l1 k ps dig (a : Int) t (t.length : Int) (a : Int) row 4 (f : Int) t) R := by
  have b0 : (f : Int) < 4 := by omega
  have b1 : (0 : Int) ≤ (f : Int) := by omega
  have b2 : (f : Int) < (row.length : Int) := by omega
  have b3 : ps.length < 17592186044416 := by omega
  have b4 : wrap64 ((f : Int) + 1) = ((f + 1 : Nat) : Int) := wrap_succ (by omega)
  refine ev_step (fun k => ?_) h
  rw [impl_GluingNumber.l1, if_pos b0, if_pos b1, if_pos b2, ht, yfy, if_pos b3, yfy, hw, hx, b4]
  exact hG k
/-- The program's loop over the faces of a tetrahedron. -/
theorem gn_impl_l1 (h : Clo t) (hn : t.length ≤ 4) {a : Nat} (ha : a < t.length) {R : Int × Int} : ∀ (d f : Nat) (dig : Int), f + d = 4 →
    Ev (fun k => impl_GluingNumber.l0 k (prs t (4 * a + 4)) (digR t d (4 * a + f) dig) t (t.length : Int) (wrap64 ((a : Int) + 1)) t) R →
    Ev (fun k => impl_GluingNumber.l1 k (prs t (4 * a + f)) dig (a : Int) t (t.length : Int) (a : Int) (rd_LFace t (a : Int)) 4 (f : Int) t) R
  | 0, f, dig, hf, hR => by
    obtain rfl : f = 4 := by omega
    rw [digR] at hR
    exact ev_step (fun k => by rw [impl_GluingNumber.l1, if_neg (by omega)]) hR
  | d + 1, f, dig, hf, hR => by
    have ha8 : a ≤ 8 := by omega
    have hf3 : f < 4 := by omega
    have hf4 : f ≤ 4 := by omega
    have hf1 : f + 1 + d = 4 := by omega
    have hps : (prs t (4 * a + f)).length ≤ 100 := by rw [prs_len]; omega
    have z0 : (0 : Int) ≤ (f : Int) := by omega
    have z3 : (f : Int) ≤ 3 := by omega
    have hr := rowlen h.tri (show 0 ≤ (a : Int) by omega) (by omega)
    have ex : ((4 * a + f : Nat) : Int) / 4 = (a : Int) := by omega
    have em : ((4 * a + f : Nat) : Int) % 4 = (f : Int) := by omega
    obtain ⟨a0, a1, a2, a3, p0, p1, a4, a5⟩ := h.at (x := ((4 * a + f : Nat) : Int)) (by omega) (by omega)
    have hfc : rd_Face (rd_LFace t (a : Int)) (f : Int) = fc t (((4 * a + f : Nat) : Int) / 4) (((4 * a + f : Nat) : Int) % 4) := by rw [ex, em]
    have hq : (fc t (((4 * a + f : Nat) : Int) / 4) (((4 * a + f : Nat) : Int) % 4)).f1 = qp t ((4 * a + f : Nat) : Int) := rfl
    rw [em] at a5
    have hs := permL_sm p0 p1 (show 0 ≤ (f : Int) by omega) (by omega)
    have ht := target_eq (q := (fc t (((4 * a + f : Nat) : Int) / 4) (((4 * a + f : Nat) : Int) % 4)).f0) p0 p1 (show 0 ≤ (f : Int) by omega) (by omega)
    have hw := pt_wrap (t := t) hn a0 a1 (x := ((4 * a + f : Nat) : Int)) a4 a5
    have hx := fx_wrap ha8 hf4
    rw [digR] at hR
    have em1 := fx_tmod (a := a) hf3
    have em2 : Int.tmod (pt t ((4 * a + f : Nat) : Int)) 4 = rd (permL (qp t ((4 * a + f : Nat) : Int))) (f : Int) := (Int.tmod_eq_emod_of_nonneg a0).trans a5
    have hstep : ∀ {g : Nat → Option (Int × Int)}, (∀ k, (if ((4 * a + f : Nat) : Int) < pt t ((4 * a + f : Nat) : Int) then ((impl_mapping.f (f : Int) (rd (permL (qp t ((4 * a + f : Nat) : Int))) (f : Int))).bind fun t113 => ((slices_Index_Sint64.f k t113 (qp t ((4 * a + f : Nat) : Int))).bind fun t116 => (impl_GluingNumber.l1 k (prs t (4 * a + f + 1)) (wrap64 ((wrap64 (6 * dig)) + t116)) (a : Int) t (t.length : Int) (a : Int) (rd_LFace t (a : Int)) 4 ((f + 1 : Nat) : Int) t))) else (impl_GluingNumber.l1 k (prs t (4 * a + f + 1)) dig (a : Int) t (t.length : Int) (a : Int) (rd_LFace t (a : Int)) 4 ((f + 1 : Nat) : Int) t)) = g k) → Ev g R → Ev (fun k => impl_GluingNumber.l1 k (prs t (4 * a + f)) dig (a : Int) t (t.length : Int) (a : Int) (rd_LFace t (a : Int)) 4 (f : Int) t) R := fun {g} hg hG => by
      refine gn_l1_step (t := t) (x := ((4 * a + f : Nat) : Int)) (y := pt t ((4 * a + f : Nat) : Int)) hf3 hps hr (by rw [hfc, hq]; exact ht) (by rw [hfc]; exact hw) hx (fun k => ?_) hG
      rw [hfc, hq, em1, em2, ← prs_succ]
      exact hg k
    have ih := fun dig' (hN : Ev (fun k => impl_GluingNumber.l0 k (prs t (4 * a + 4)) (digR t d (4 * a + f + 1) dig') t (t.length : Int) (wrap64 ((a : Int) + 1)) t) R) => gn_impl_l1 h hn ha (R := R) d (f + 1) dig' hf1 hN
    by_cases hp : ((4 * a + f : Nat) : Int) < pt t ((4 * a + f : Nat) : Int)
    · rw [if_pos hp, em, a5] at hR
      refine hstep (fun k => if_pos hp) (Ev.bind (ev_const (if_pos ⟨z0, z3⟩)) (Ev.bind (index_mem (Nat.le_trans (mapL_len _ _) (by decide)) (mapL_mem p0 p1 rfl)) ?_))
      exact ih _ hR
    · rw [if_neg hp] at hR
      exact hstep (fun k => if_neg hp) (ih _ hR)
theorem gn_impl_l0 (h : Clo t) (hn : t.length ≤ 4) : ∀ (d a : Nat) (dig : Int), a + d = t.length → Ev (fun k => impl_GluingNumber.l0 k (prs t (4 * a)) dig t (t.length : Int) (a : Int) t) (wrap64 (wrap64 (numR t (4 * t.length) 0 0 * 6 ^ (2 * t.length)) + digR t (4 * d) (4 * a) dig), 0)
  | 0, a, dig, hd => by
    obtain rfl : a = t.length := by omega
    refine ev_step (fun k => by rw [impl_GluingNumber.l0, if_neg (by omega)]) ?_
    have hc : Ev (fun k => impl_counting.f k ((prs t (4 * t.length)).length : Int)) (upFrom 0 (4 * t.length)) := by
      rw [prs_len]
      obtain ⟨j, hj⟩ : ∃ j : Fin 5, t.length = j.val := ⟨⟨t.length, by omega⟩, rfl⟩
      have key : ∀ j : Fin 5, impl_counting.f 40 ((4 * j.val : Nat) : Int) = some (upFrom 0 (4 * j.val)) := by decide +kernel
      rw [hj]
      exact Ev.of (fun k => impl_counting.mono _ k) (key j)
    refine Ev.bind (Ev.bind hc ?_) (Ev.bind (ev_const rfl) (Ev.bind (gluings_ev hn) (Ev.now _)))
    have := mnQ_ev h hn (4 * t.length) 0 0 (by omega)
    rw [lft_zero h] at this
    exact this
  | d + 1, a, dig, hd => by
    have hr := rowlen h.tri (show 0 ≤ (a : Int) by omega) (by omega)
    refine ev_step (fun k => by rw [impl_GluingNumber.l0, if_pos (by omega), if_pos (by omega), if_pos (by omega), hr]) ?_
    have ih := gn_impl_l0 h hn d (a + 1) (digR t 4 (4 * a) dig) (by omega)
    refine gn_impl_l1 h hn (show a < t.length by omega) 4 0 dig (by omega) ?_
    rw [wrap_succ (by omega), show 4 * a + 4 = 4 * (a + 1) by omega, Nat.add_zero]
    rw [show 4 * (d + 1) = 4 + 4 * d by omega, digR_add, show 4 * a + 4 = 4 * (a + 1) by omega]
    exact ih
/-- What both sides come to. -/
def gnR (t : Tri) : Int × Int := if isClosed t = true then (if (t.length : Int) > 4 then (0, 2) else (wrap64 (wrap64 (numR t (4 * t.length) 0 0 * 6 ^ (2 * t.length)) + digR t (4 * t.length) 0 0), 0)) else (0, 1)
theorem impl_gn_ev (hs : Small t) : Ev (fun k => impl_GluingNumber.f k t) (gnR t) := by
  refine Ev.bind (impl_isClosed_ev hs) ?_
  unfold gnR
  by_cases h : isClosed t = true
  · rw [if_pos h]
    obtain ⟨hc, hpos⟩ := clo_of h
    refine ev_pos h ?_
    by_cases hn : (t.length : Int) > 4
    · rw [if_pos hn]; exact ev_pos hn (Ev.now _)
    · rw [if_neg hn]
      exact ev_neg hn (gn_impl_l0 hc (by omega) t.length 0 0 (by omega))
  · rw [if_neg h]
    exact ev_neg h (Ev.now _)
end
theorem goodFs_of {t : Tri} {a : Int} : ∀ (d : Nat) (f : Int), (∀ g : Int, f ≤ g → g < f + (d : Int) → goodF t a g = true) → goodFs t a f d = true
  | 0, f, h => rfl
  | d + 1, f, h => by
    rw [goodFs, Bool.and_eq_true]
    exact ⟨h f (by omega) (by omega), goodFs_of d (f + 1) (fun g g0 g1 => h g (by omega) (by push_cast; omega))⟩
theorem goodTs_of {t : Tri} : ∀ (d : Nat) (a : Int), (∀ b : Int, a ≤ b → b < a + (d : Int) → ∀ g : Int, 0 ≤ g → g ≤ 3 → goodF t b g = true) → goodTs t a d = true
  | 0, a, h => rfl
  | d + 1, a, h => by
    rw [goodTs, Bool.and_eq_true]
    exact ⟨goodFs_of 4 0 (fun g g0 g1 => h a (by omega) (by omega) g g0 (by omega)), goodTs_of d (a + 1) (fun b b0 b1 => h b (by omega) (by push_cast; omega))⟩
theorem bdFs_nil {t : Tri} {a : Int} : ∀ (d : Nat) (f : Int), (∀ g : Int, f ≤ g → g < f + (d : Int) → ¬ (fc t a g).f0 < 0) → bdFs t a f d = []
  | 0, f, h => rfl
  | d + 1, f, h => by
    rw [bdFs, if_neg (h f (by omega) (by omega)), List.nil_append]
    exact bdFs_nil d (f + 1) (fun g g0 g1 => h g (by omega) (by push_cast; omega))
theorem bdTs_nil {t : Tri} : ∀ (d : Nat) (a : Int), (∀ b : Int, a ≤ b → b < a + (d : Int) → ∀ g : Int, 0 ≤ g → g ≤ 3 → ¬ (fc t b g).f0 < 0) → bdTs t a d = []
  | 0, a, h => rfl
  | d + 1, a, h => by
    rw [bdTs, bdFs_nil 4 0 (fun g g0 g1 => h a (by omega) (by omega) g g0 (by omega)), List.nil_append]
    exact bdTs_nil d (a + 1) (fun b b0 b1 => h b (by omega) (by push_cast; omega))
section
variable {t : Tri} {o : Int → Int} {n : Nat}
theorem upto_face (hU : Upto t o (4 * n) (4 * n)) (hI : In2 o (4 * n)) {a f : Int} (a0 : 0 ≤ a) (a1 : a < (n : Int)) (f0 : 0 ≤ f) (f1 : f ≤ 3) :
    0 ≤ (fc t a f).f0 ∧ (fc t a f).f0 < (n : Int) ∧ 0 ≤ (fc t a f).f1 ∧ (fc t a f).f1 ≤ 23 ∧ (fc t (fc t a f).f0 (rd (permL (fc t a f).f1) f)).f0 = a ∧ (fc t (fc t a f).f0 (rd (permL (fc t a f).f1) f)).f1 = invP (fc t a f).f1 ∧ ¬ ((fc t a f).f0 = a ∧ rd (permL (fc t a f).f1) f = f) := by
  obtain ⟨z, hz⟩ : ∃ z, 4 * a + f = z := ⟨_, rfl⟩
  have e1 : z / 4 = a := by omega
  have e2 : z % 4 = f := by omega
  have z0 : 0 ≤ z := by omega
  have z1 : z < ((4 * n : Nat) : Int) := by omega
  obtain ⟨y0, y1, y2, y3⟩ := hI.at' z z0 z1
  have h1 := hU z z0 z1 (.inl z1)
  have h2 := hU (o z) y0 y1 (.inl y1)
  obtain ⟨p1, ⟨p2, p2'⟩, p3, p4⟩ := h1
  obtain ⟨q1, _, _, _⟩ := h2
  rw [e1, e2] at p1 p2 p2' p3 p4
  rw [y3, e1] at q1
  have b0 : 0 ≤ o z / 4 := by omega
  have b1 : o z / 4 < (n : Int) := by omega
  have hne : ¬ (o z / 4 = a ∧ o z % 4 = f) := fun e => y2 (by omega)
  rw [p1, p3]
  exact ⟨b0, b1, p2, p2', q1, p4, hne⟩
theorem upto_tri (hn : n ≤ 4) (hl : t.length = n) (h4 : ∀ r ∈ t, r.length = 4) (hU : Upto t o (4 * n) (4 * n)) (hI : In2 o (4 * n)) : isTri t = true := by
  unfold isTri
  rw [Bool.and_eq_true, Bool.and_eq_true, decide_eq_true_eq]
  refine ⟨by omega, all4_iff.2 h4, goodTs_of t.length 0 (fun b b0 b1 g g0 g1 => ?_)⟩
  obtain ⟨p1, p2, p3, p4, p5, p6, p7⟩ := upto_face hU hI b0 (show b < (n : Int) by omega) g0 g1
  unfold goodF
  rw [if_neg (by omega), if_pos ⟨p1, by omega, p3, p4⟩, p5, p6]
  simp only [beq_self_eq_true, Bool.and_self, Bool.true_and, Bool.not_eq_true', Bool.and_eq_false_iff, beq_eq_false_iff_ne, ne_eq]
  by_cases e : (fc t b g).f0 = b
  · exact .inr (fun e2 => p7 ⟨e, e2⟩)
  · exact .inl e
theorem upto_closed (h0 : 1 ≤ n) (hn : n ≤ 4) (hl : t.length = n) (h4 : ∀ r ∈ t, r.length = 4) (hU : Upto t o (4 * n) (4 * n)) (hI : In2 o (4 * n)) : isClosed t = true := by
  unfold isClosed bdry
  rw [upto_tri hn hl h4 hU hI, if_pos rfl, if_pos (by omega), bdTs_nil t.length 0 (fun b b0 b1 g g0 g1 => by
    have := (upto_face hU hI b0 (show b < (n : Int) by omega) g0 g1).1
    omega)]
  rfl
end
/-- The gluing with a number, and that number read off it. -/
theorem fg_all {n : Nat} (h0 : 1 ≤ n) (h1 : n ≤ 4) {num : Int} (n0 : 0 ≤ num) (n1 : num < gaS n) : ∃ t : Tri, Ev (fun k => impl_gluingAt.f k (n : Int) num) t ∧ t.length = n ∧ (∀ r ∈ t, r.length = 4) ∧ isClosed t = true ∧ gnR t = (num, 0) := by
  obtain ⟨w0, w1⟩ := pow6 (show 2 * n ≤ 8 by omega)
  have hs := (gaS_ev h0 h1).2.2
  have q0 : 0 ≤ num / 6 ^ (2 * n) := Int.ediv_nonneg n0 (Int.le_of_lt w0)
  have q1 : num / 6 ^ (2 * n) < mtv ((4 * n : Nat) : Int) := Int.ediv_lt_of_lt_mul w0 (by unfold gaS at n1; exact n1)
  have q2 : num / 6 ^ (2 * n) ≤ num := Int.ediv_le_self _ n0
  have hn64 : num ≤ 4000000000000 := by omega
  have hw : wrap64 (Int.tdiv num (6 ^ (2 * n))) = num / 6 ^ (2 * n) := by
    rw [Int.tdiv_eq_ediv_of_nonneg n0]
    generalize num / 6 ^ (2 * n) = z at q0 q2
    exact wrap_id (by omega) (by omega)
  have hne : ¬ (6 : Int) ^ (2 * n) = 0 := fun e => by rw [e] at w0; exact absurd w0 (by decide)
  have e4 : wrap64 (4 * (n : Int)) = ((4 * n : Nat) : Int) := by rw [wrap_id (by omega) (by omega)]; omega
  have zn : ¬ (n : Int) < (n : Int) := by omega
  have hsum : num / 6 ^ (2 * n) * 6 ^ (2 * n) + num % 6 ^ (2 * n) = num := by rw [Int.mul_comm, Int.add_comm]; exact Int.emod_add_mul_ediv num (6 ^ (2 * n))
  have hr0 : 0 ≤ num % 6 ^ (2 * n) := Int.emod_nonneg _ (by omega)
  have hr1 : num % 6 ^ (2 * n) < 6 ^ (2 * n) := Int.emod_lt_of_pos _ w0
  obtain ⟨o, o1, o2, _, o4⟩ := matching_num (N := 4 * n) (by omega) (2 * n) (upFrom 0 (4 * n)) (List.replicate (4 * n) 0) (num / 6 ^ (2 * n)) (start_st _) (by rw [upFrom_length]; omega) (by omega) q0 (by rw [show 2 * (2 * n) = 4 * n by omega]; exact q1)
  have hI := in2_of o2
  have hol := o2.len
  have hM : Ev (fun k => impl_matchingAt.f k ((4 * n : Nat) : Int) (num / 6 ^ (2 * n))) o := by
    refine ev_pos ⟨by omega, by omega⟩ (Ev.bind (a := upFrom 0 (4 * n)) ?_ ?_)
    · obtain ⟨j, hj⟩ : ∃ j : Fin 5, n = j.val := ⟨⟨n, by omega⟩, rfl⟩
      have key : ∀ j : Fin 5, impl_counting.f 40 ((4 * j.val : Nat) : Int) = some (upFrom 0 (4 * j.val)) := by decide +kernel
      rw [hj]
      exact Ev.of (fun k => impl_counting.mono _ k) (key j)
    · rw [Int.toNat_natCast]; exact o1
  have hc : 2 * n = cnt (rd o) (4 * n) 0 := by have := cnt_all hI; omega
  have hU0 : Upto (freeT n) (rd o) (4 * n) 0 := fun z z0 z1 hz => by
    have := (hI.at' z z0 z1).1
    rcases hz with e | e <;> omega
  obtain ⟨t, t1, t3, t4, t5, _, t7⟩ := glue_full h1 o2 (4 * n) 0 (2 * n) num (freeT n) (by omega) hc (by omega) n0 (freeT_len n) (freeT_row n) hU0
  have hcl := upto_closed h0 h1 t3 t4 t5 hI
  refine ⟨t, ?_, t3, t4, hcl, ?_⟩
  · refine impl_frees h1 ?_ n 0 (by omega)
    refine ev_step (f := fun k => (impl_gluings.f k (n : Int)).bind fun t106 => (if t106 = 0 then (none) else ((impl_matchingAt.f k (wrap64 (4 * (n : Int))) (wrap64 (Int.tdiv num t106))).bind fun t107 => (impl_gluingAt.l1 k num t106 t107 (t107.length : Int) 0 (freeT n))))) (fun k => by rw [impl_gluingAt.l0, if_neg zn]) ?_
    refine Ev.bind (gluings_ev h1) (ev_neg hne ?_)
    rw [hw, e4]
    refine Ev.bind hM ?_
    rw [show ((o.length : Nat) : Int) = ((4 * n : Nat) : Int) by rw [hol]]
    exact t1
  · obtain ⟨hclo, _⟩ := clo_of hcl
    have hpt : ∀ x : Int, 0 ≤ x → x < ((4 * n : Nat) : Int) → pt t x = rd o x := fun x x0 x1 => pt_face (t5 x x0 x1 (.inl x1))
    have hprs : prs t (4 * t.length) = o := by
      apply List.ext_getElem
      · rw [prs_len, hol, t3]
      · intro i hi1 hi2
        have hi : i < 4 * n := by rw [hol] at hi2; exact hi2
        have e1 := prs_rd t (x := 4 * t.length) (i := i) (by rw [t3]; exact hi)
        rw [rd_lt _ i hi1] at e1
        rw [e1, hpt _ (by omega) (by omega), rd_lt _ i hi2]
    have hnum : numR t (4 * n) 0 0 = num / 6 ^ (2 * n) := by
      have a1 := mnQ_ev hclo (by omega) (4 * t.length) 0 0 (by omega)
      rw [hprs, lft_zero hclo, t3] at a1
      have a2 := o4 0 (by omega) (by omega)
      rw [Int.zero_add] at a2
      exact ev_unique a1 a2
    have hdig : digR t (4 * n) 0 0 = num % 6 ^ (2 * n) := t7 0 _ (by omega) (by rw [Int.zero_mul, Int.zero_add]) (by omega)
    unfold gnR
    rw [if_pos hcl, if_neg (by omega), t3, hnum, hdig]
    generalize num / 6 ^ (2 * n) * 6 ^ (2 * n) = u at *
    generalize num % 6 ^ (2 * n) = v at *
    rw [wrap_id (x := u) (by omega) (by omega), wrap_id (x := u + v) (by omega) (by omega), hsum]
/-- A code's bytes. -/
def Byt (l : List Int) : Prop := ∀ x ∈ l, 0 ≤ x ∧ x ≤ 255
theorem byt_of {l : List Int} (h : ∀ x ∈ l, (Lit.int .u8 x).wf = true) : Byt l := fun x hx => by
  have h1 : (decide (IntKind.u8.min ≤ x) && decide (x ≤ IntKind.u8.max)) = true := h x hx
  rw [Bool.and_eq_true, decide_eq_true_eq, decide_eq_true_eq] at h1
  have e1 : IntKind.u8.min = 0 := by decide
  have e2 : IntKind.u8.max = 255 := by decide
  rw [e1, e2] at h1
  exact h1
theorem byt_rd {l : List Int} (h : Byt l) {i : Int} : 0 ≤ rd l i ∧ rd l i ≤ 255 := by
  unfold rd
  rw [List.getD_eq_getElem?_getD]
  cases e : l[i.toNat]? with
  | none => exact ⟨by simp, by simp⟩
  | some v =>
    obtain ⟨hl, hv⟩ := List.getElem?_eq_some_iff.1 e
    have := h v (hv ▸ List.getElem_mem hl)
    simpa using this
/-- A source of draws. -/
structure DS (l : List Int) (a s : Int) : Prop where
  a0 : 0 ≤ a
  a1 : a ≤ (l.length : Int)
  s0 : 0 ≤ s
  s1 : s < 2147483647
theorem tmod_bd {a n : Int} (h : 0 ≤ a) (hn : 0 < n) : 0 ≤ Int.tmod a n ∧ Int.tmod a n < n := ⟨Int.tmod_nonneg n h, Int.tmod_lt_of_pos a hn⟩
theorem tdiv_bd {a : Int} (h : 0 ≤ a) : 0 ≤ Int.tdiv a 11 ∧ Int.tdiv a 11 ≤ a := ⟨Int.tdiv_nonneg h (by decide), Int.tdiv_le_self 11 h⟩
theorem from_step {s b : Int} (s0 : 0 ≤ s) (s1 : s < 2147483647) (b0 : 0 ≤ b) (b1 : b ≤ 255) : 0 ≤ wrap64 (wrap64 (s * 37) + wrap64 b) := by
  rw [wrap_id (x := b) (by omega) (by omega), wrap_id (x := s * 37) (by omega) (by omega), wrap_id (by omega) (by omega)]
  omega
theorem from_loop {l : List Int} (hb : Byt l) (hl : l.length ≤ 4096) : ∀ (d : Nat) (x s : Int), x + (d : Int) = 64 → 0 ≤ x → 0 ≤ s → s < 2147483647 → ∃ r, Ev (fun k => spec_l01From.l0 k l x l 0 s) (l, 0, r) ∧ DS l 0 r
  | 0, x, s, hd, h0, s0, s1 => by
    refine ⟨s, ?_, ⟨by omega, by omega, s0, s1⟩⟩
    by_cases c : x < (l.length : Int)
    · exact ev_step (fun k => by rw [spec_l01From.l0, if_pos c, if_neg (by omega)]) (Ev.now _)
    · exact ev_step (fun k => by rw [spec_l01From.l0, if_neg c]) (Ev.now _)
  | d + 1, x, s, hd, h0, s0, s1 => by
    by_cases c : x < (l.length : Int)
    · obtain ⟨b0, b1⟩ := byt_rd hb (i := x)
      obtain ⟨t0, t1⟩ := tmod_bd (from_step s0 s1 b0 b1) (n := 2147483647) (by decide)
      obtain ⟨r, h1, h2⟩ := from_loop hb hl d (x + 1) _ (by omega) (by omega) t0 t1
      refine ⟨r, ev_step (fun k => by rw [spec_l01From.l0, if_pos c, if_pos (by omega), if_pos h0, wrap_id (x := x + 1) (by omega) (by omega)]) h1, h2⟩
    · exact ⟨s, ev_step (fun k => by rw [spec_l01From.l0, if_neg c]) (Ev.now _), ⟨by omega, by omega, s0, s1⟩⟩
theorem from_ev {l : List Int} (hb : Byt l) (hl : l.length ≤ 4096) : ∃ r, Ev (fun k => spec_l01From.f k l) (l, 0, r) ∧ DS l 0 r :=
  from_loop hb hl 64 0 97531 (by decide) (by decide) (by decide) (by decide)
theorem next_ev {l : List Int} {a s n : Int} (hb : Byt l) (hl : l.length ≤ 4096) (h : DS l a s) (n0 : 2 ≤ n) : ∃ x a' s' : Int, spec_l01Next.f l a s n = some (x, a', s') ∧ 0 ≤ x ∧ x < n ∧ DS l a' s' := by
  obtain ⟨a0, a1, s0, s1⟩ := h
  have e1 : wrap64 (wrap64 (s * 48271) + 11) = s * 48271 + 11 := by
    rw [wrap_id (x := s * 48271) (by omega) (by omega), wrap_id (by omega) (by omega)]
  have e2 : wrap64 (a + 1) = a + 1 := wrap_id (by omega) (by omega)
  have e3 : wrap64 (a + 1 - 1) = a := by rw [show a + 1 - 1 = a by omega]; exact wrap_id (by omega) (by omega)
  unfold spec_l01Next.f
  rw [if_neg (by omega), e1, e2, e3]
  obtain ⟨t0, t1⟩ := tmod_bd (a := s * 48271 + 11) (n := 2147483647) (by omega) (by decide)
  generalize Int.tmod (s * 48271 + 11) 2147483647 = s' at *
  obtain ⟨u0, u1⟩ := tdiv_bd t0
  generalize Int.tdiv s' 11 = v at *
  have hnn : ¬ n = 0 := by omega
  by_cases c1 : a < (l.length : Int)
  · obtain ⟨b0, b1⟩ := byt_rd hb (i := a)
    generalize rd l a = y at *
    have e4 : wrap64 y = y := wrap_id (by omega) (by omega)
    have e5 : wrap64 (wrap64 v + wrap64 y) = v + y := by rw [e4, wrap_id (x := v) (by omega) (by omega), wrap_id (by omega) (by omega)]
    have e6 : wrap64 (v + y) = v + y := wrap_id (by omega) (by omega)
    rw [if_pos c1, if_pos a0]
    have hD : DS l (a + 1) s' := ⟨by omega, by omega, t0, t1⟩
    have hfin : ∃ x a' s2 : Int, (if n = 0 then none else some (Int.tmod (wrap64 (wrap64 v + wrap64 y)) n, a + 1, s')) = some (x, a', s2) ∧ 0 ≤ x ∧ x < n ∧ DS l a' s2 := by
      rw [if_neg hnn, e5]
      obtain ⟨q0, q1⟩ := tmod_bd (a := v + y) (n := n) (by omega) (by omega)
      exact ⟨_, _, _, rfl, q0, q1, hD⟩
    by_cases c2 : n ≤ 256
    · rw [if_pos c2]
      by_cases c3 : Int.tmod (a + 1) 2 = 0
      · rw [if_pos c3, if_pos a0, if_pos c1, if_neg hnn, e4]
        obtain ⟨q0, q1⟩ := tmod_bd (a := y) (n := n) b0 (by omega)
        exact ⟨_, _, _, rfl, q0, q1, hD⟩
      · rw [if_neg c3]
        exact hfin
    · rw [if_neg c2]
      exact hfin
  · rw [if_neg c1, if_neg hnn]
    have e5 : wrap64 v = v := wrap_id (by omega) (by omega)
    rw [e5]
    obtain ⟨q0, q1⟩ := tmod_bd (a := v) (n := n) u0 (by omega)
    exact ⟨_, _, _, rfl, q0, q1, ⟨a0, a1, t0, t1⟩⟩
theorem gcount_ev {n : Nat} (h0 : 1 ≤ n) (h1 : n ≤ 4) : Ev (fun k => spec_GluingCount.f k (n : Int)) (gaS n) := by
  have hd : (decide (1 ≤ (n : Int)) && decide ((n : Int) ≤ 4)) = true := by simp; omega
  exact Ev.bind (ev_const (l07In_eq ..)) (ev_pos hd (Ev.bind (gaS_ev h0 h1).2.1 (Ev.now _)))
theorem drawGA_ev {l : List Int} (hb : Byt l) (hl : l.length ≤ 4096) : ∃ n q : Int, Ev (fun k => spec_DrawGluingAt.f k l) (n, q) := by
  obtain ⟨s, h1, D1⟩ := from_ev hb hl
  obtain ⟨x1, a1, s1, e1, p1, q1, D2⟩ := next_ev hb hl D1 (n := 4) (by decide)
  obtain ⟨x2, a2, s2, e2, p2, q2, D3⟩ := next_ev hb hl D2 (n := 16) (by decide)
  by_cases c : x2 = 0
  · obtain ⟨x3, a3, s3, e3, p3, q3, D4⟩ := next_ev hb hl D3 (n := 2) (by decide)
    exact ⟨_, _, Ev.bind h1 (Ev.bind (ev_const e1) (Ev.bind (ev_const e2) (ev_pos c (Ev.bind (ev_const e3) (Ev.now _)))))⟩
  · obtain ⟨x3, a3, s3, e3, p3, q3, D4⟩ := next_ev hb hl D3 (n := 1000000007) (by decide)
    obtain ⟨x4, a4, s4, e4, p4, q4, D5⟩ := next_ev hb hl D4 (n := 16) (by decide)
    obtain ⟨n, hn⟩ := Int.eq_ofNat_of_zero_le (show 0 ≤ x1 + 1 by omega)
    have hw : wrap64 (1 + x1) = (n : Int) := by rw [wrap_id (by omega) (by omega)]; omega
    have gc := gcount_ev (n := n) (by omega) (by omega)
    rw [← hw] at gc
    have gp := (gaS_ev (n := n) (by omega) (by omega)).2.2.1
    have gz : ¬ gaS n = 0 := by omega
    by_cases c4 : x4 = 0
    · obtain ⟨x5, a5, s5, e5, p5, q5, D6⟩ := next_ev hb hl D5 (n := 3) (by decide)
      refine ⟨wrap64 (1 + x1), rd [-1, gaS n, wrap64 (gaS n - 1)] x5, Ev.bind h1 (Ev.bind (ev_const e1) (Ev.bind (ev_const e2) (ev_neg c (Ev.bind (ev_const e3) (Ev.bind gc (ev_neg gz (Ev.bind (ev_const e4) (ev_pos c4 ?_))))))))⟩
      refine Ev.bind gc (Ev.bind gc ?_)
      exact Ev.bind (Ev.now _) (Ev.bind (ev_const e5) (ev_pos p5 (ev_pos q5 (Ev.now _))))
    · exact ⟨_, _, Ev.bind h1 (Ev.bind (ev_const e1) (Ev.bind (ev_const e2) (ev_neg c (Ev.bind (ev_const e3) (Ev.bind gc (ev_neg gz (Ev.bind (ev_const e4) (ev_neg c4 (Ev.now _)))))))))⟩
end Go.Proofs.Ytebehapafpmgbaa.P
namespace Go.Proofs.Ytebehapafpmgbaa.Pure
open Go.RowKit Go.Proofs.Ytebehapafpmgbaa.P Go.Proofs.Ytebehapafpmgbaa.Lib Go.Proofs.YtebehapafpmgbaaW.PrintWords
theorem ga_ok {n : Nat} (h0 : 1 ≤ n) (h1 : n ≤ 4) {num : Int} (n0 : 0 ≤ num) (n1 : num < gaS n) : ∃ t : Tri, Ev (fun k => impl_GluingAt.f k (n : Int) num) (t, 0) ∧ t.length = n ∧ Small t ∧ isClosed t = true ∧ gnR t = (num, 0) := by
  obtain ⟨s1, s2, s3, s4⟩ := gaS_ev h0 h1
  obtain ⟨t, t1, t2, t3, t4, t5⟩ := fg_all h0 h1 n0 n1
  have hd : (decide (1 ≤ (n : Int)) && decide ((n : Int) ≤ 4)) = true := by simp; omega
  have hs : wrap64 (gaS n - 1) = gaS n - 1 := wrap_id (by omega) (by omega)
  have hd2 : (decide (0 ≤ num) && decide (num ≤ gaS n - 1)) = true := by rw [Bool.and_eq_true, decide_eq_true_eq, decide_eq_true_eq]; omega
  exact ⟨t, Ev.bind (ev_const (inRange_eq ..)) (ev_pos hd (Ev.bind s1 (Ev.bind (ev_const (inRange_eq ..)) (ev_pos (by rw [hs]; exact hd2) (Ev.bind t1 (Ev.now _)))))), t2, ⟨by show t.length ≤ 1048576; omega, fun r hr => by rw [t3 r hr]; decide⟩, t4, t5⟩
theorem ga_bad {a0 a1 : Int} (h : ¬ ∃ n : Nat, a0 = (n : Int) ∧ 1 ≤ n ∧ n ≤ 4 ∧ 0 ≤ a1 ∧ a1 < gaS n) : ∃ c : Int, c ≠ 0 ∧ Ev (fun k => impl_GluingAt.f k a0 a1) (([] : Tri), c) := by
  by_cases hh : 1 ≤ a0 ∧ a0 ≤ 4
  · obtain ⟨n, rfl⟩ := Int.eq_ofNat_of_zero_le (show 0 ≤ a0 by omega)
    obtain ⟨s1, s2, s3, s4⟩ := gaS_ev (n := n) (by omega) (by omega)
    have hd : (decide (1 ≤ (n : Int)) && decide ((n : Int) ≤ 4)) = true := by simp; omega
    have hs : wrap64 (gaS n - 1) = gaS n - 1 := wrap_id (by omega) (by omega)
    have hk : ¬ (0 ≤ a1 ∧ a1 ≤ gaS n - 1) := fun hk => h ⟨n, rfl, by omega, by omega, hk.1, by omega⟩
    have hd2 : ¬ (decide (0 ≤ a1) && decide (a1 ≤ gaS n - 1)) = true := by rw [Bool.and_eq_true, decide_eq_true_eq, decide_eq_true_eq]; exact hk
    exact ⟨4, by decide, Ev.bind (ev_const (inRange_eq ..)) (ev_pos hd (Ev.bind s1 (Ev.bind (ev_const (inRange_eq ..)) (ev_neg (by rw [hs]; exact hd2) (Ev.now _)))))⟩
  · have hd : ¬ (decide (1 ≤ a0) && decide (a0 ≤ 4)) = true := by rw [Bool.and_eq_true, decide_eq_true_eq, decide_eq_true_eq]; exact hh
    exact ⟨2, by decide, Ev.bind (ev_const (inRange_eq ..)) (ev_neg hd (Ev.now _))⟩
theorem FnGluing : laws_FnGluing.Pure := by
  intro l0 _ _ hw
  refine Ev.rounds ?_
  by_cases hbig : ((l0.length : Int) > 4096)
  · exact Ev.bind (a := true) (ev_const (by unfold laws_big.f; rw [ygy hbig])) (ev_pos rfl (Ev.now true))
  refine Ev.bind (a := false) (ev_const (by unfold laws_big.f; rw [yhy hbig])) (ev_neg (by decide) ?_)
  obtain ⟨n, q, hd⟩ := drawGA_ev (byt_of hw) (by omega)
  refine Ev.bind hd ?_
  obtain ⟨r, g1, g2, hs⟩ := ga_ev n q
  refine Ev.bind g1 (Ev.bind g2 (ev_pos rfl ?_))
  by_cases hv : ∃ m : Nat, n = (m : Int) ∧ 1 ≤ m ∧ m ≤ 4 ∧ 0 ≤ q ∧ q < gaS m
  · obtain ⟨m, rfl, m0, m1, q0, q1⟩ := hv
    obtain ⟨t, t1, t2, t3, t4, t5⟩ := ga_ok m0 m1 q0 q1
    have hr : r = (t, 0) := ev_unique g1 t1
    subst hr
    have hg := impl_gn_ev t3
    rw [t5] at hg
    have hc : Ev (fun k => impl_IsClosed.f k t) true := by
      have := impl_isClosed_ev t3
      rw [t4] at this
      exact Ev.bind this (Ev.now _)
    refine ev_pos rfl (Ev.bind hg (ev_pos rfl (ev_pos rfl (Ev.bind hc (ev_pos rfl ?_)))))
    exact ev_some (by dsimp only; rw [t2]; exact beq_self_eq_true _)
  · obtain ⟨c, hc, hb⟩ := ga_bad hv
    have hr : r = ([], c) := ev_unique g1 hb
    subst hr
    exact ev_neg hc (ev_some rfl)
end Go.Proofs.Ytebehapafpmgbaa.Pure
