/- The statement FnExactLinkIsClosedSaid, proved: part 7 of 8 (texts of this session and of the kit's print, put together and cut to what is used by a program of it). -/
import Derived.Test.YtembbpalgfikiaaMFnExactLinkIsClosed6
import Derived.Deep.Slices
import Derived.ChangeSame
import Derived.ChangeArms
import Derived.WideShapes
import Derived.Lib.SmallJoins
import Derived.ChangeShapes
namespace Go.Proofs.Ytembbpalgfikiaa.P
open Go.RowKit Go.Proofs.YtembbpalgfikiaaW.PrintWords Go.Proofs.Ytembbpalgfikiaa.Lib
set_option linter.unusedVariables false
theorem zEm (t : Tri) (a v : Int) (q : zCO) : ∀ f : Nat, q.n ≤ (zAc t a v f q).n ∧ (zAc t a v f q).n ≤ q.n + f ∧ ((zAc t a v f q).n = q.n ↔ ∀ g : Nat, g < f → (g : Int) ≠ v → ¬ (zI (zE t a) (g : Int)).f0 < 0)
  | 0 => ⟨by simp [zAc], by simp [zAc], by simp [zAc]⟩
  | f + 1 => by
    obtain ⟨h1, h2, h3⟩ := zEm t a v q f
    unfold zAc
    by_cases e : (f : Int) = v
    · rw [if_pos e]
      refine ⟨h1, by omega, h3.trans ⟨fun h g hg hv => ?_, fun h g hg => h g (by omega)⟩⟩
      by_cases e2 : g = f
      · subst e2; exact absurd e hv
      · exact h g (by omega) hv
    · rw [if_neg e]
      by_cases hb : (zI (zE t a) (f : Int)).f0 < 0
      · have e2 : (zEw (16 * a + 4 * v) v (f : Int) (zI (zE t a) (f : Int)) (zAc t a v f q)).n = (zAc t a v f q).n + 1 := by unfold zEw; rw [if_pos hb]
        rw [e2]
        exact ⟨by omega, by omega, ⟨fun h => by omega, fun h => absurd hb (h f (by omega) e)⟩⟩
      · have e2 : (zEw (16 * a + 4 * v) v (f : Int) (zI (zE t a) (f : Int)) (zAc t a v f q)).n = (zAc t a v f q).n := by unfold zEw; rw [if_neg hb]
        rw [e2]
        refine ⟨h1, by omega, h3.trans ⟨fun h g hg hv => ?_, fun h g hg => h g (by omega)⟩⟩
        by_cases e3 : g = f
        · subst e3; exact hb
        · exact h g (by omega) hv
theorem zEn {v : Int} (h0 : 0 ≤ v) (h1 : v ≤ 3) (f : Int) : f ∈ zBJ [v] ↔ ∃ g : Nat, g < 4 ∧ (g : Int) ≠ v ∧ f = (g : Int) := by
  obtain rfl | rfl | rfl | rfl : v = 0 ∨ v = 1 ∨ v = 2 ∨ v = 3 := by omega
  · rw [show zBJ [0] = [1, 2, 3] from by decide]
    simp only [List.mem_cons, List.not_mem_nil, or_false]
    exact ⟨fun h => ⟨f.toNat, by omega, by omega, by omega⟩, fun ⟨g, hg, hv, e⟩ => by omega⟩
  · rw [show zBJ [1] = [0, 2, 3] from by decide]
    simp only [List.mem_cons, List.not_mem_nil, or_false]
    exact ⟨fun h => ⟨f.toNat, by omega, by omega, by omega⟩, fun ⟨g, hg, hv, e⟩ => by omega⟩
  · rw [show zBJ [2] = [0, 1, 3] from by decide]
    simp only [List.mem_cons, List.not_mem_nil, or_false]
    exact ⟨fun h => ⟨f.toNat, by omega, by omega, by omega⟩, fun ⟨g, hg, hv, e⟩ => by omega⟩
  · rw [show zBJ [3] = [0, 1, 2] from by decide]
    simp only [List.mem_cons, List.not_mem_nil, or_false]
    exact ⟨fun h => ⟨f.toNat, by omega, by omega, by omega⟩, fun ⟨g, hg, hv, e⟩ => by omega⟩
theorem zEo {t : Tri} {x : List Int} (h0 : 0 ≤ rd x 1) (h1 : rd x 1 ≤ 3) (q : zCO) : zAZ t x = false ↔ (zAc t (rd x 0) (rd x 1) 4 q).n = q.n := by
  rw [(zEm t (rd x 0) (rd x 1) q 4).2.2]
  unfold zAZ
  rw [List.any_eq_false]
  constructor
  · intro h g hg hv hb
    have := h (g : Int) ((zEn h0 h1 _).2 ⟨g, hg, hv, rfl⟩)
    unfold zDf at this
    exact this (ygy hb)
  · intro h f hf
    obtain ⟨g, hg, hv, rfl⟩ := (zEn h0 h1 f).1 hf
    unfold zDf
    rw [decide_eq_true_eq]
    exact h g hg hv
theorem zFp {t : Tri} {cs : List (List Int)} (hc : ∀ c ∈ cs, c.length = 2 ∧ 0 ≤ rd c 0 ∧ rd c 0 < (t.length : Int) ∧ 0 ≤ rd c 1 ∧ rd c 1 ≤ 3) (q : zCO) : ∀ i : Nat, i ≤ cs.length → q.n ≤ (zB2 t cs i q).n ∧ ((zB2 t cs i q).n = q.n ↔ ∀ c ∈ cs.take i, zAZ t c = false)
  | 0, _ => ⟨by simp [zB2], by simp [zB2]⟩
  | i + 1, hi => by
    obtain ⟨h1, h2⟩ := zFp hc q i (by omega)
    have e : qo cs (i : Int) = cs[i] := by simp [qo, show i < cs.length by omega]
    have h3 := hc cs[i] (List.getElem_mem _)
    have h4 := zEo (t := t) h3.2.2.2.1 h3.2.2.2.2 (zB2 t cs i q)
    have h5 := (zEm t (rd cs[i] 0) (rd cs[i] 1) (zB2 t cs i q) 4).1
    unfold zB2
    rw [e, List.take_succ_eq_append_getElem (by omega)]
    refine ⟨by omega, ⟨fun h c hm => ?_, fun h => ?_⟩⟩
    · rcases List.mem_append.1 hm with hm | hm
      · exact h2.1 (by omega) c hm
      · rw [List.mem_singleton.1 hm]; exact h4.2 (by omega)
    · have a := h2.2 (fun c hm => h c (List.mem_append_left _ hm))
      have b := h4.1 (h _ (List.mem_append_right _ (List.mem_singleton.2 rfl)))
      omega
section
variable {t : Tri}
theorem zC3 (h : Zf t = true) (c : Int) : ∀ x ∈ JT (Qd t) c (4 * t.length) 0, x.length = 2 ∧ 0 ≤ rd x 0 ∧ rd x 0 < (t.length : Int) ∧ 0 ≤ rd x 1 ∧ rd x 1 ≤ 3 := by
  intro x hx
  obtain ⟨k, h0, h1, e, _⟩ := zC2 _ _ _ _ _ hx
  have e0 : rd [((k / 4 : Nat) : Int), ((k % 4 : Nat) : Int)] 0 = ((k / 4 : Nat) : Int) := rfl
  have e1 : rd [((k / 4 : Nat) : Int), ((k % 4 : Nat) : Int)] 1 = ((k % 4 : Nat) : Int) := rfl
  rw [e, e0, e1]
  exact ⟨rfl, by omega, by omega, by omega, by omega⟩
theorem zEp (h : Zf t = true) (c : Int) : zDi t (JT (Qd t) c (4 * t.length) 0) = true := by
  obtain ⟨h8, h4, _⟩ := qv h
  unfold zDi
  simp only [Bool.and_eq_true, decide_eq_true_eq, List.all_eq_true]
  refine ⟨⟨h8, by have := Jx (Qd t) c (4 * t.length) 0; omega⟩, fun r hr => ⟨h4 r hr, fun x hx => ?_⟩, fun x hx => ?_⟩
  · unfold zER
    simp only [Bool.or_eq_true, Bool.and_eq_true, decide_eq_true_eq]
    obtain ⟨a, ha, rfl⟩ := List.getElem_of_mem hr
    obtain ⟨f, hf, rfl⟩ := List.getElem_of_mem hx
    have := zCQ h (a := (a : Int)) (f := (f : Int)) (by omega) (by omega) (by omega) (by rw [h4 _ (List.getElem_mem ha)] at hf; omega)
    have e : fc t (a : Int) (f : Int) = t[a][f] := by unfold fc; rw [Qr t a ha, zBL _ f hf]
    rw [e] at this
    rcases this with ⟨e1, _⟩ | ⟨⟨g0, g1, g2, g3⟩, _⟩
    · left; omega
    · right; exact ⟨g0, g1, g2, g3⟩
  · have := zC3 h c x hx
    unfold zES
    simp only [Bool.and_eq_true, decide_eq_true_eq]
    exact ⟨this.1, ⟨this.2.1, this.2.2.1⟩, this.2.2.2.1, this.2.2.2.2⟩
def zCZ (t : Tri) (c : Int) : zCO := zB2 t (JT (Qd t) c (4 * t.length) 0) (JT (Qd t) c (4 * t.length) 0).length (zCs t)
def euP (t : Tri) (c : Int) : Int := zEx (zCZ t c).p (zCZ t c).u (zCZ t c).u.length 0
def euS (t : Tri) (c : Int) : Int := zEx (zCZ t c).s (zCZ t c).u (zCZ t c).u.length 0
theorem zFV (h : Zf t = true) (c : Int) : zFi (16 * t.length) 128 (zCZ t c) := by
  have h8 := (qv h).1
  have a := Jx (Qd t) c (4 * t.length) 0
  have := zBs (zC3 h c) (zDK t) _ (yqy _)
  exact ⟨this.lp, this.ls, this.u, by have := this.lu; unfold zCZ; omega, this.n0, by have := this.n1; unfold zCZ; omega⟩
theorem zGE : ∃ k0 : Nat, ∀ k, k0 ≤ k → zG7 k = true := by
  have h : ∀ (m : Fin 24) (f : Fin 4), ∃ k0 : Nat, ∀ k, k0 ≤ k → qU.f k (m.val : Int) (f.val : Int) = some (rd (qt (m.val : Int)) (f.val : Int)) := fun m f => Jg (by omega) (by omega) (by omega) (by omega)
  have h2 : ∀ m : Fin 24, ∃ k0 : Nat, ∀ k, k0 ≤ k → ∀ f : Fin 4, qU.f k (m.val : Int) (f.val : Int) = some (rd (qt (m.val : Int)) (f.val : Int)) := fun m => by
    obtain ⟨k0, h0⟩ := h m 0
    obtain ⟨k1, h1⟩ := h m 1
    obtain ⟨k2, h2⟩ := h m 2
    obtain ⟨k3, h3⟩ := h m 3
    refine ⟨k0 + k1 + k2 + k3, fun k hk f => ?_⟩
    match f with
    | 0 => exact h0 k (by omega)
    | 1 => exact h1 k (by omega)
    | 2 => exact h2 k (by omega)
    | 3 => exact h3 k (by omega)
  have h3 : ∀ n : Nat, n ≤ 24 → ∃ k0 : Nat, ∀ k, k0 ≤ k → ∀ m : Fin 24, m.val < n → ∀ f : Fin 4, qU.f k (m.val : Int) (f.val : Int) = some (rd (qt (m.val : Int)) (f.val : Int)) := fun n => by
    induction n with
    | zero => exact fun _ => ⟨0, fun k _ m hm => absurd hm (by omega)⟩
    | succ n ih =>
      intro hn
      obtain ⟨k0, h0⟩ := ih (by omega)
      obtain ⟨k1, h1⟩ := h2 ⟨n, by omega⟩
      refine ⟨k0 + k1, fun k hk m hm f => ?_⟩
      by_cases e : m.val = n
      · have em : m = ⟨n, by omega⟩ := Fin.ext e
        rw [em]
        exact h1 k (by omega) f
      · exact h0 k (by omega) m (by omega) f
  obtain ⟨k0, h0⟩ := h3 24 (yqy _)
  refine ⟨k0, fun k hk => ?_⟩
  unfold zG7
  rw [decide_eq_true_eq]
  exact fun m f => h0 k hk m m.isLt f
theorem zB0 (h : Zf t = true) (c : Int) : Ev (fun k => ZH.f k t (JT (Qd t) c (4 * t.length) 0)) (euP t c, euS t c, ((JT (Qd t) c (4 * t.length) 0).length : Int), (zCZ t c).n) := by
  have hI := zFV h c
  have d1 := zEX (x0 := (zCZ t c).p) (x1 := (zCZ t c).u) (by rw [hI.lp]; exact hI.u) (by have := hI.lu; omega)
  have d2 := zEX (x0 := (zCZ t c).s) (x1 := (zCZ t c).u) (by rw [hI.ls]; exact hI.u) (by have := hI.lu; omega)
  unfold ZH.f
  refine qw (zEp h c) ?_
  have hfr : Ev (fun k => if zG7 k = true then zw.f k (16 * (t.length : Int)) else none) (ZP 0 (16 * t.length)) := by
    have hf := zAe (16 * t.length) (by have := (qv h).1; omega)
    obtain ⟨k0, hk0⟩ := hf
    obtain ⟨k1, hk1⟩ := zGE
    refine ⟨k0 + k1, fun k hk => ?_⟩
    have e : (16 * (t.length : Int)) = ((16 * t.length : Nat) : Int) := by omega
    rw [e]
    exact (if_pos (hk1 k (by omega))).trans (hk0 k (by omega))
  exact Ev.bind hfr (qw rfl (Ev.bind d1 (Ev.bind d2 (Ev.now _))))
theorem zFW (h : Zf t = true) (c : Int) : ((zCZ t c).n = 0 ↔ (JT (Qd t) c (4 * t.length) 0).any (zAZ t) = false) ∧ 0 ≤ (zCZ t c).n := by
  have := zFp (zC3 h c) (zCs t) _ (yqy _)
  refine ⟨this.2.trans ?_, this.1⟩
  rw [List.take_length, List.any_eq_false]
  exact ⟨fun h c hc => by rw [h c hc]; simp, fun h c hc => by have := h c hc; simpa using this⟩
end
theorem zDN (cls : List Int) (c : Int) : ∀ (d i k : Nat), i ≤ k → k < i + d → rd cls (k : Int) = c → 0 < (JT cls c d i).length
  | 0, i, k, h1, h2, _ => by omega
  | d + 1, i, k, h1, h2, h3 => by
    rw [JT, List.length_append]
    by_cases e : i = k
    · subst e
      rw [if_pos h3]; simp; omega
    · have := zDN cls c d (i + 1) k (by omega) (by omega) h3
      omega
theorem zC4 (m : List Int) : ∀ (i c : Nat), c < (roots m i).length → ∃ j : Nat, j < i ∧ m.getD j 0 = j ∧ (roots m j).length = c
  | 0, c, h => by simp [roots] at h
  | i + 1, c, h => by
    rw [roots] at h
    by_cases e : m.getD i 0 = (i : Int)
    · rw [if_pos e, List.length_append, List.length_singleton] at h
      by_cases hc : c < (roots m i).length
      · obtain ⟨j, h1, h2⟩ := zC4 m i c hc
        exact ⟨j, by omega, h2⟩
      · exact ⟨i, by omega, e, by omega⟩
    · rw [if_neg e] at h
      obtain ⟨j, h1, h2⟩ := zC4 m i c h
      exact ⟨j, by omega, h2⟩
section
variable {t : Tri}
theorem zDO (h : Zf t = true) {k : Nat} (hk : k < 4 * t.length) : ∃ j : Nat, (Jl t).v.getD k 0 = (j : Int) ∧ j ≤ k ∧ (Jl t).v.getD j 0 = (j : Int) ∧ rd (Qd t) (k : Int) = ((roots (Jl t).v j).length : Int) := by
  obtain ⟨⟨o1, _⟩, hw, _⟩ := JO h
  obtain ⟨q0, q1, q2⟩ := hw k (by omega)
  obtain ⟨j, hj⟩ := Int.eq_ofNat_of_zero_le q0
  rw [hj] at q1 q2
  rw [yny] at q2
  refine ⟨j, hj, by omega, q2, ?_⟩
  have hlt : k < (Jl t).v.length := by omega
  have e : rd (Qd t) (k : Int) = zEc (Jl t).v ((Jl t).v.getD k 0) := by
    unfold Qd
    rw [zBx hw, zBG]
    simp [List.getD_eq_getElem?_getD, hlt]
  rw [e, hj]
  unfold zEc
  rw [yny]
theorem zGF (h : Zf t = true) {k : Nat} (hk : k < 4 * t.length) : 0 ≤ rd (Qd t) (k : Int) ∧ rd (Qd t) (k : Int) ≤ zCX t - 1 := by
  have o1 := (JO h).1.1
  obtain ⟨j, h1, h2, h3, h4⟩ := zDO h hk
  have k1 := zAN (Jl t).v (j + 1) ((Jl t).v.length - (j + 1))
  rw [show j + 1 + ((Jl t).v.length - (j + 1)) = (Jl t).v.length by omega, roots, if_pos h3, List.length_append, List.length_singleton] at k1
  unfold zCX
  omega
theorem zFX (h : Zf t = true) {c : Int} (h0 : 0 ≤ c) (h1 : c ≤ zCX t - 1) : ∃ k : Nat, k < 4 * t.length ∧ rd (Qd t) (k : Int) = c := by
  have o1 := (JO h).1.1
  obtain ⟨n, rfl⟩ := Int.eq_ofNat_of_zero_le h0
  unfold zCX at h1
  obtain ⟨j, h2, h3, h4⟩ := zC4 (Jl t).v (Jl t).v.length n (by omega)
  refine ⟨j, by omega, ?_⟩
  obtain ⟨i, k1, k2, k3, k4⟩ := zDO h (k := j) (by omega)
  have e : i = j := by
    have : ((i : Nat) : Int) = (j : Int) := k1.symm.trans h3
    omega
  subst e
  rw [k4, h4]
theorem zEq (h : Zf t = true) (c : Int) : (JT (Qd t) c (4 * t.length) 0).length = 0 ↔ ¬ (0 ≤ c ∧ c ≤ zCX t - 1) := by
  constructor
  · rintro h0 ⟨h1, h2⟩
    obtain ⟨k, h3, h4⟩ := zFX h h1 h2
    have := zDN (Qd t) c (4 * t.length) 0 k (by omega) (by omega) h4
    omega
  · intro hn
    cases hc : JT (Qd t) c (4 * t.length) 0 with
    | nil => rfl
    | cons x xs =>
      exfalso
      obtain ⟨k, _, h2, _, h4⟩ := zC2 (Qd t) c (4 * t.length) 0 x (by rw [hc]; exact List.mem_cons_self ..)
      have := zGF h (k := k) (by omega)
      rw [h4] at this
      exact hn this
end
theorem zDP (cls : List Int) (c : Int) (e : Nat) : ∀ (d i : Nat), JT cls c (d + e) i = JT cls c d i ++ JT cls c e (i + d)
  | 0, i => by rw [Nat.zero_add, JT, Nat.add_zero]; rfl
  | d + 1, i => by
    have h := zDP cls c e d (i + 1)
    rw [Nat.succ_add, JT, JT, h, List.append_assoc]
    congr 3
    omega
section
variable {t : Tri}
theorem Je (h : Zf t = true) (c : Int) (B C : List (List Int)) {r : List (List Int)} {a : Nat} (ha : a < t.length) : ∀ (d x : Nat) (acc : List (List Int)), x + d = 4 → acc.length ≤ 4 * a + x →
    (∀ acc' : List (List Int), acc'.length ≤ 4 * (a + 1) → acc' = acc ++ JT (Qd t) c d (4 * a + x) → Ev (fun k => zl.l0 k c acc' ((a + 1 : Nat) : Int) (QJ 4 t.length (Qd t)) B C) r) →
    Ev (fun k => zl.l1 k c acc (a : Int) (x : Int) (QJ 4 t.length (Qd t)) B C) r
  | 0, x, acc, hx, hv, hr => by
    have h8 := (qv h).1
    refine qQ (fun k => by rw [zl.l1, if_neg (by omega), ZE (by omega)]) ?_
    exact hr acc (by omega) (by rw [JT, List.append_nil])
  | d + 1, x, acc, hx, hv, hr => by
    have h8 := (qv h).1
    obtain ⟨e1, e2⟩ := zGD h ha (x := x) (by omega)
    have hcl := Qj 4 t.length (Qd t)
    rw [JT] at hr
    have ed : (4 * a + x) / 4 = a := by omega
    have em : (4 * a + x) % 4 = x := by omega
    rw [ed, em] at hr
    clear ed em
    by_cases e : rd (Qd t) ((4 * a + x : Nat) : Int) = c
    · rw [if_pos e] at hr
      refine qQ (fun k => by rw [zl.l1, if_pos (by omega), if_pos (by omega), if_pos (by omega), if_pos (by omega), if_pos (by omega), e1, if_pos e, if_pos (by omega), ZE (by omega)]) ?_
      refine Je h c B C ha d (x + 1) _ (by omega) (by simp; omega) (fun acc' h1 h2 => hr acc' h1 ?_)
      rw [h2, List.append_assoc]; rfl
    · rw [if_neg e, List.nil_append] at hr
      refine qQ (fun k => by rw [zl.l1, if_pos (by omega), if_pos (by omega), if_pos (by omega), if_pos (by omega), if_pos (by omega), e1, if_neg e, ZE (by omega)]) ?_
      exact Je h c B C ha d (x + 1) acc (by omega) (by omega) hr
theorem zAX (h : Zf t = true) (c : Int) (B C : List (List Int)) : ∀ (d a : Nat) (acc : List (List Int)), a + d = t.length → acc.length ≤ 4 * a → Ev (fun k => zl.l0 k c acc (a : Int) (QJ 4 t.length (Qd t)) B C) (acc ++ JT (Qd t) c (4 * d) (4 * a))
  | 0, a, acc, ha, hv => by
    have hcl := Qj 4 t.length (Qd t)
    refine qQ (fun k => by rw [zl.l0, if_neg (by omega)]) ?_
    rw [JT, List.append_nil]; exact Ev.now _
  | d + 1, a, acc, ha, hv => by
    have hcl := Qj 4 t.length (Qd t)
    refine qQ (fun k => by rw [zl.l0, if_pos (by omega)]) ?_
    refine Je h c B C (by omega) 4 0 acc (by omega) (by omega) (fun acc' h1 h2 => ?_)
    have := zAX h c B C d (a + 1) acc' (by omega) h1
    have e4 : 4 * (d + 1) = 4 + 4 * d := by omega
    rw [e4, zDP, ← List.append_assoc]
    rw [h2] at this ⊢
    exact this
theorem zCa (h : Zf t = true) (c : Int) : Ev (fun k => zl.f k t c) (JT (Qd t) c (4 * t.length) 0) := by
  refine Ev.bind (zC0 h) ?_
  have := zAX h c (QJ 6 t.length (zBk (Jl t).e)) (QJ 4 t.length (zBk (Jl t).f)) t.length 0 [] (by omega) (by simp)
  rw [List.nil_append] at this
  exact this
def zEr (t : Tri) (c : Int) : List (List Int) × Int := if Jy t c = 0 then (JT (Qd t) c (4 * t.length) 0, 0) else ([], Jy t c)
theorem zBU {c : Int} (h : Jy t c = 0) : Zf t = true ∧ 0 ≤ c ∧ c ≤ zCX t - 1 := by
  unfold Jy at h
  cases ht : Zf t with
  | false => rw [ht] at h; simp at h
  | true =>
    rw [ht, if_pos rfl] at h
    by_cases hc : 0 ≤ c ∧ c ≤ zCX t - 1
    · exact ⟨rfl, hc⟩
    · rw [if_neg hc] at h; simp at h
theorem zC5 (t : Tri) (c : Int) : Ev (fun k => ZX.f k t c) (zEr t c) := by
  refine Ev.bind (zBw t) ?_
  by_cases ht : Zf t = true
  · have hn := zEq ht c
    refine qw ht (Ev.bind (zCa ht c) ?_)
    by_cases hc : 0 ≤ c ∧ c ≤ zCX t - 1
    · have hv : Jy t c = 0 := by unfold Jy; rw [if_pos ht, if_pos hc]
      have hp : ¬ (JT (Qd t) c (4 * t.length) 0).length = 0 := fun e => hn.1 e hc
      unfold zEr
      rw [if_pos hv]
      exact QC (fun e => hp (by omega)) (Ev.now _)
    · have hv : Jy t c = 2 := by unfold Jy; rw [if_pos ht, if_neg hc]
      have hp := hn.2 hc
      unfold zEr
      rw [hv, if_neg (show ¬ (2 : Int) = 0 by decide)]
      exact qw (by omega) (Ev.now _)
  · have hv : Jy t c = 1 := by unfold Jy; rw [if_neg ht]
    unfold zEr
    rw [hv, if_neg (show ¬ (1 : Int) = 0 by decide)]
    exact QC ht (Ev.now _)
end
end Go.Proofs.Ytembbpalgfikiaa.P
namespace Go.Proofs.Ytembbpalgfikiaa.P
open Go.RowKit Go.Proofs.YtembbpalgfikiaaW.PrintWords Go.Proofs.Ytembbpalgfikiaa.Lib
set_option linter.unusedVariables false
section
variable {t : Tri}
theorem zEs (h : Zf t = true) (c : Int) : zDg t (JT (Qd t) c (4 * t.length) 0) = true := by
  unfold zDg
  rw [List.all_eq_true]
  intro x hx
  obtain ⟨h1, h2, h3, h4, h5⟩ := zC3 h c x hx
  simp only [Bool.and_eq_true, decide_eq_true_eq]
  exact ⟨h1, h2, h3, zFl h h2 h3⟩
def zEt (t : Tri) (c : Int) : Bool := if Jy t c = 0 then !((JT (Qd t) c (4 * t.length) 0).any (zAZ t)) else false
theorem zC6 (hs : Small t) (c : Int) : Ev (fun k => qd.f k t c) (zEt t c) := by
  refine Ev.bind (zFU hs c) ?_
  unfold zEt
  by_cases h0 : Jy t c = 0
  · rw [if_pos h0]
    have ht := (zBU h0).1
    refine qw h0 (Ev.bind (a := !((JT (Qd t) c (4 * t.length) 0).any (zAZ t))) (Ev.bind (zDq ht c) (qw (zEs ht c) (Ev.now _))) (Ev.now _))
  · rw [if_neg h0]
    exact QC h0 (Ev.now _)
theorem zC7 (t : Tri) (c : Int) : Ev (fun k => qn.f k t c) (zEt t c) := by
  refine Ev.bind (zC5 t c) ?_
  unfold zEt zEr
  by_cases h0 : Jy t c = 0
  · rw [if_pos h0, if_pos h0]
    have ht := (zBU h0).1
    refine qw rfl (Ev.bind (zB0 ht c) (zCl ?_))
    have := (zFW ht c).1
    cases he : (JT (Qd t) c (4 * t.length) 0).any (zAZ t) with
    | false =>
      have e := this.2 he
      dsimp only
      rw [e]; rfl
    | true =>
      have e : ¬ (zCZ t c).n = 0 := fun e => by rw [this.1 e] at he; cases he
      dsimp only
      simpa using e
  · rw [if_neg h0, if_neg h0]
    exact QC h0 (Ev.now _)
end
end Go.Proofs.Ytembbpalgfikiaa.P
namespace Go.Proofs.Ytembbpalgfikiaa.Pure
open Go.RowKit Go.Proofs.Ytembbpalgfikiaa.P Go.Proofs.Ytembbpalgfikiaa.Lib Go.Proofs.YtembbpalgfikiaaW.PrintWords
theorem Jz (l : List (List qN)) (c : Int) (h : Fits l) (_ : (Lit.int .i64 c).wf = true) : ∃ k, ZV.f k l c = some true := by
  refine Ev.rounds ?_
  obtain ⟨r, hr, hs⟩ := zAD l h
  refine Ev.bind hr ?_
  by_cases hn : r < 0
  · exact qw hn (Ev.now true)
  have hsm := hs hn
  have hto := zAE l hsm
  have hS := zEW hsm
  have hsp := zC7 (cvT l) c
  have him := zC6 hS c
  generalize zEt (cvT l) c = o at *
  refine QC hn ?_
  refine Ev.bind hto ?_
  refine Ev.bind hsp ?_
  refine Ev.bind hto ?_
  refine Ev.bind him ?_
  refine QC (by simp) ?_
  refine Ev.bind hto ?_
  exact Ev.bind (zAF _ hS) (qw rfl (Ev.now true))
end Go.Proofs.Ytembbpalgfikiaa.Pure
namespace Go.Proofs.Ytembbpalgfikiaa.Lib
open Go.RowKit Go.Proofs.YtembbpalgfikiaaW.PrintWords Go.Joins Go.Deep Go.WideShapes Go.ChangeShapes
set_option linter.unusedVariables false
def zFY (P : Program) (t : TypeId) {α : Type} (d : Kd α) : Prop := ∀ (H : Type) (enc : TypeId × Value → H) (w : World) (base : Nat) (spare : Nat → Bool) (held : Bool) (fuel : Nat) (cs : List Value) (x : DataW H × List MemPlace),
  DataW.trod enc P w base spare held fuel t cs = some x → ∃ y, d.K w y cs
theorem zCb {α : Type} {R : Nat → α → Prop} : ∀ n, (∀ i, i < n → ∃ y, R i y) → ∃ ys : List α, ys.length = n ∧ ∀ j p, ys[j]? = some p → R j p
  | 0, _ => ⟨[], rfl, fun j p h => by simp at h⟩
  | n + 1, h => by
    obtain ⟨ys, hl, hr⟩ := zCb n (fun i hi => h i (by omega))
    obtain ⟨y, hy⟩ := h n (by omega)
    refine ⟨ys ++ [y], by simp [hl], fun j p hj => ?_⟩
    by_cases hlt : j < n
    · rw [List.getElem?_append_left (by omega)] at hj
      exact hr j p hj
    · have hjn : j < (ys ++ [y]).length := (List.getElem?_eq_some_iff.1 hj).1
      have : j = n := by simp [hl] at hjn; omega
      subst this
      rw [List.getElem?_append_right (by omega), hl, Nat.sub_self] at hj
      injection hj with hj
      rw [← hj]
      exact hy
theorem zB1 {P : Program} {t e : TypeId} {α : Type} {d : Kd α} (ht : P.underlying t = some (.slice e)) (hc : P.cellsOf e = d.sz) (h : zFY P e d) : zFY P t (Kd.slice e d) := by
  intro H enc w base spare held fuel cs x hx
  rcases open_slice ht hx with ⟨rfl, _⟩ | ⟨a, len, cap, m, n, D, Pl, rfl, hb, hl, hm, hmm, _, hi⟩
  · exact ⟨[], none, 0, rfl, yqy _, Kd.C_nil d w⟩
  · have each : ∀ i, i < len → ∃ y, ∃ cs', w.cells? base (a.add (i * d.sz)) d.sz = some cs' ∧ d.K w y cs' := by
      intro i hil
      have him : i < m := by rw [hmm]; split <;> omega
      obtain ⟨cs', h1, h2⟩ := hi i him
      obtain ⟨y, hy⟩ := h H enc w base spare held n cs' _ h2
      rw [hc] at h1
      exact ⟨y, cs', h1, hy⟩
    obtain ⟨ys, hlen, hys⟩ := zCb len each
    refine ⟨ys, some a, cap, by rw [hlen], by omega, rfl, ?_, fun _ => ⟨a, rfl, fun j p hj => ?_⟩⟩
    · unfold maxLen at hm; omega
    · obtain ⟨cs', h1, h2⟩ := hys j p hj
      obtain ⟨_, h3, h4⟩ := World.cells?_some h1
      refine ⟨cs', h3, h2, fun i u hu => ?_⟩
      have hil : i < d.sz := by rw [← h3]; exact (List.getElem?_eq_some_iff.1 hu).1
      rw [← hu, ← h4 i hil, Go.Deep.add_add]
theorem zC8 {P : Program} {t : TypeId} {f0 f1 : Field} {α : Type} (hs : P.underlying t = some (.struct #[f0, f1])) (hone : oneCellFields P #[f0, f1] = true) (hC : P.cellsOf t = 2)
    (h0 : P.underlying f0.type = some (.int .i64)) (h1 : P.underlying f1.type = some (.int .i64)) (d : Kd α) (mk : Int → Int → α) (hK : ∀ w a b, d.K w (mk a b) [.int .i64 a, .int .i64 b]) : zFY P t d := by
  intro H enc w base spare held fuel cs x h
  obtain ⟨y0, y1, n, hx, hl, g0, g1⟩ := trod_struct2 hs h
  obtain ⟨o0, k0⟩ := hone_of hone 0 f0 rfl
  obtain ⟨o1, k1⟩ := hone_of hone 1 f1 rfl
  rw [hC] at hl
  match cs, hl with
  | [c0, c1], _ =>
    rw [o0, k0] at g0
    rw [o1, k1] at g1
    obtain ⟨a, e0, _, _⟩ := DataW.trod_int h0 g0
    obtain ⟨b, e1, _, _⟩ := DataW.trod_int h1 g1
    simp at e0 e1
    subst e0 e1
    exact ⟨mk a b, hK w a b⟩
section
variable {H : Type} {enc : TypeId × Value → H} {P : Program} {w : World} {base : Nat} {spare : Nat → Bool} {held : Bool}
theorem array1 {α : Type} {cs : Array α} (h : cs.size = 1) : ∃ c0, cs = #[c0] := by
  obtain ⟨l⟩ := cs
  match l, h with
  | [c0], _ => exact ⟨c0, rfl⟩
theorem zEu {r : Reach} {b0 : Nat} {t e : TypeId} {f0 : Field} {α : Type} {d : Kd α} {v : Value} {D : DataW H} {p : List MemPlace} (hs : P.underlying t = some (.struct #[f0])) (hone : oneCellFields P #[f0] = true) (hC : P.cellsOf t = 1)
    (ho : zFY P f0.type (Kd.slice e d)) (hv : Value.okWide P w r b0 t v) (h : DataW.Trod enc P w base spare held t v D p) :
    ∃ (A : Option Addr) (c : Nat) (l : List α), v = .agg #[.slice A l.length c] ∧ l.length ≤ c ∧ d.C w A l.length l := by
  obtain ⟨cs, rfl, hsz⟩ := okWide_struct hs hv
  obtain ⟨c0, rfl⟩ := array1 (hsz.trans hC)
  obtain ⟨fuel, hf⟩ := h
  obtain ⟨y0, n, hx, _, h0⟩ := trod_struct1 hs hf
  obtain ⟨o0, k0⟩ := hone_of hone 0 f0 rfl
  have h0' : DataW.trod enc P w base spare held n f0.type [c0] = some y0 := by simpa [Value.cells, o0, k0] using h0
  obtain ⟨l, A, c, e1, hl, hCC⟩ := ho H enc w base spare held n _ _ h0'
  simp at e1
  subst e1
  exact ⟨A, c, l, rfl, hl, hCC⟩
end
theorem zEv {e : Nat} {α : Type} {d : Kd α} {w : World} {A : Option Addr} {l : List (List α)} (h : (Kd.slice e d).C w A l.length l) : l.length ≤ 9223372036854775807 ∧ ∀ r ∈ l, r.length ≤ 9223372036854775807 := by
  refine ⟨h.2.1, fun r hr => ?_⟩
  obtain ⟨j, hj, rfl⟩ := List.mem_iff_getElem.1 hr
  obtain ⟨ad, _, hc⟩ := h.2.2 (by omega)
  obtain ⟨c, _, hK, _⟩ := hc j _ (List.getElem?_eq_getElem hj)
  obtain ⟨A', c', _, _, hC⟩ := hK
  exact hC.2.1
end Go.Proofs.Ytembbpalgfikiaa.Lib
