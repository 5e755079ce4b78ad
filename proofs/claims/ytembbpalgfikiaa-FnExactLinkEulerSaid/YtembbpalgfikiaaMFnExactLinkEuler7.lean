/- The statement FnExactLinkEulerSaid, proved: part 7 of 8 (texts of this session and of the kit's print, put together and cut to what is used by a program of it). -/
import Derived.Test.YtembbpalgfikiaaMFnExactLinkEuler6
import Derived.Deep.Slices
import Derived.ChangeSame
import Derived.ChangeArms
import Derived.WideShapes
import Derived.Lib.SmallJoins
import Derived.ChangeShapes
namespace Go.Proofs.Ytembbpalgfikiaa.P
open Go.RowKit Go.Proofs.YtembbpalgfikiaaW.PrintWords Go.Proofs.Ytembbpalgfikiaa.Lib
set_option linter.unusedVariables false
section
variable {t : Tri}
theorem fc_of {j f : Nat} {x : zw} (hF : ZX t j f x) : zI (zE t (j : Int)) (f : Int) = x := by
  obtain ⟨h1, h2, h3⟩ := hF
  rw [Qg t j h1, zAp _ f h2]; exact h3
theorem Qv (h : ZB t = true) {j f : Nat} {x : zw} (hF : ZX t j f x) (hb : ¬ x.f0 < 0) : LeR (16 * t.length) (j : Int) (f : Int) x.f0 (qR x.f1) := by
  obtain ⟨a1, a2, a3, a4, a5, a6⟩ := JC h hF hb
  intro v w hv0 hv1 hw0 hw1
  have p1 := Zb a5 a6 hv0 hv1
  have p2 := Zb a5 a6 hw0 hw1
  exact ⟨⟨by omega, by omega⟩, by omega, by omega⟩
def zGi (n : Nat) (s : List Int × List Int) : Prop := s.1.length = n ∧ s.2.length = n
theorem Qx {n : Nat} {s : List Int × List Int} (h : zGi n s) (j f : Nat) (x : zw) : zGi n (JU s j f x) := by
  unfold JU zGi
  rw [(Qk _ _ _ _ _ _).1, (Qk _ _ _ _ _ _).2]; exact h
theorem zDV (t : Tri) : zGi (16 * t.length) (Qe t) := zBK (fun _ j f x _ _ h => Qx h j f x) ⟨qL _ _, qL _ _⟩
theorem zCt {f v : Int} (hv : sm v) (hne : v ≠ f) : v ∈ JT [f] := by
  have : v ∈ [0, 1, 2, 3] := by have := hv.1; have := hv.2; simp only [List.mem_cons, List.not_mem_nil, or_false]; omega
  exact List.mem_filter.2 ⟨this, by simpa using hne⟩
theorem zG9 {f v w : Int} (hw : sm w) (h1 : w ≠ f) (h2 : w ≠ v) : w ∈ JT [f, v] := by
  have : w ∈ [0, 1, 2, 3] := by have := hw.1; have := hw.2; simp only [List.mem_cons, List.not_mem_nil, or_false]; omega
  exact List.mem_filter.2 ⟨this, by simp [h1, h2]⟩
theorem zHV (h : ZB t = true) {j f : Nat} {x : zw} (hF : ZX t j f x) (hb : ¬ x.f0 < 0) {v w : Int} (hv : sm v) (hvf : v ≠ (f : Int)) (hw : w ∈ JT [(f : Int), v]) : rd (Qe t).1 (16 * (j : Int) + 4 * v + w) = rd (Qe t).1 (16 * x.f0 + 4 * rd (qR x.f1) v + rd (qR x.f1) w) := by
  have hR := Qv h hF hb
  have hsw := (Qb hw).1
  have hr := hR v w hv.1 hv.2 hsw.1 hsw.2
  refine zCq (t := t) (step := JU) (I := zGi (16 * t.length)) (Q := fun s => rd s.1 (16 * (j : Int) + 4 * v + w) = rd s.1 (16 * x.f0 + 4 * rd (qR x.f1) v + rd (qR x.f1) w)) (fun _ j f x _ _ h => Qx h j f x) (fun a j2 f2 x2 _ _ hI hq => ?_) ⟨qL _ _, qL _ _⟩ hF hb (fun a hI => ?_)
  · exact Jf _ _ (by unfold In; rw [hI.1]; exact hr.1) (by unfold In; rw [hI.1]; exact hr.2) hq
  · exact zB4 hR hw _ _ hI.1 (zCt hv hvf) (fun u hu => (QT hu).1)
theorem zHW (h : ZB t = true) {j f : Nat} {x : zw} (hF : ZX t j f x) (hb : ¬ x.f0 < 0) {v : Int} (hv : sm v) (hvf : v ≠ (f : Int)) : rd (Qe t).2 (16 * (j : Int) + 4 * v + (f : Int)) = rd (Qe t).2 (16 * x.f0 + 4 * rd (qR x.f1) v + rd (qR x.f1) (f : Int)) := by
  have hR := Qv h hF hb
  have hf3 : sm (f : Int) := ⟨by omega, by have := (JC h hF hb).2.1; omega⟩
  have hr := hR v (f : Int) hv.1 hv.2 hf3.1 hf3.2
  refine zCq (t := t) (step := JU) (I := zGi (16 * t.length)) (Q := fun s => rd s.2 (16 * (j : Int) + 4 * v + (f : Int)) = rd s.2 (16 * x.f0 + 4 * rd (qR x.f1) v + rd (qR x.f1) (f : Int))) (fun _ j f x _ _ h => Qx h j f x) (fun a j2 f2 x2 _ _ hI hq => ?_) ⟨qL _ _, qL _ _⟩ hF hb (fun a hI => ?_)
  · exact Jg _ _ (by unfold In; rw [hI.2]; exact hr.1) (by unfold In; rw [hI.2]; exact hr.2) hq
  · exact zB5 hf3 hR _ _ hI.2 (zCt hv hvf) (fun u hu => (QT hu).1)
theorem zHX (h : ZB t = true) {α : Type} {g : Int → α} (hg : ∀ (j f : Nat) (x : zw), ZX t j f x → ¬ x.f0 < 0 → ∀ v, sm v → v ≠ (f : Int) → ∀ w ∈ JT [(f : Int), v], g (16 * (j : Int) + 4 * v + w) = g (16 * x.f0 + 4 * rd (qR x.f1) v + rd (qR x.f1) w)) : Snd g (Qe t).1 := by
  refine (zBK (t := t) (step := JU) (I := fun s => zGi (16 * t.length) s ∧ Snd g s.1) (fun a j f x hF hb hI => ⟨Qx hI.1 j f x, ?_⟩) ⟨⟨qL _ _, qL _ _⟩, zEU _⟩).2
  exact zB2 (Qv h hF hb) _ _ hI.1.1 (fun v hv => ⟨(QT hv).1, hg j f x hF hb v (QT hv).1 (QT hv).2⟩) hI.2
theorem zHY (h : ZB t = true) {α : Type} {g : Int → α} (hg : ∀ (j f : Nat) (x : zw), ZX t j f x → ¬ x.f0 < 0 → ∀ v, sm v → v ≠ (f : Int) → g (16 * (j : Int) + 4 * v + (f : Int)) = g (16 * x.f0 + 4 * rd (qR x.f1) v + rd (qR x.f1) (f : Int))) : Snd g (Qe t).2 := by
  refine (zBK (t := t) (step := JU) (I := fun s => zGi (16 * t.length) s ∧ Snd g s.2) (fun a j f x hF hb hI => ⟨Qx hI.1 j f x, ?_⟩) ⟨⟨qL _ _, qL _ _⟩, zEU _⟩).2
  have hf3 : sm (f : Int) := ⟨by omega, by have := (JC h hF hb).2.1; omega⟩
  exact zB3 hf3 (Qv h hF hb) _ _ hI.1.2 (fun v hv => ⟨(QT hv).1, hg j f x hF hb v (QT hv).1 (QT hv).2⟩) hI.2
theorem zCG (h : ZB t = true) {j f : Nat} {x : zw} (hF : ZX t j f x) (hb : ¬ x.f0 < 0) {v : Int} (hv : sm v) (hvf : v ≠ (f : Int)) : rd (QI t) (4 * (j : Int) + v) = rd (QI t) (4 * x.f0 + rd (qR x.f1) v) := by
  obtain ⟨a1, a2, a3, a4, a5, a6⟩ := JC h hF hb
  have p1 := Zb a5 a6 hv.1 hv.2
  have hv0 := hv.1
  have hv1 := hv.2
  have hlen : ∀ a : List Int, a.length = 4 * t.length → ∀ u, sm u → In a (4 * (j : Int) + u) ∧ In a (4 * x.f0 + rd (qR x.f1) u) := fun a ha u hu => by
    have q := Zb a5 a6 hu.1 hu.2
    have h0 := hu.1
    have h1 := hu.2
    unfold In; rw [ha]
    exact ⟨⟨by omega, by omega⟩, by omega, by omega⟩
  have hm : rd (zA0 t) (4 * (j : Int) + v) = rd (zA0 t) (4 * x.f0 + rd (qR x.f1) v) := by
    refine zCq (t := t) (step := zAI) (I := fun s => s.length = 4 * t.length) (Q := fun s => rd s (4 * (j : Int) + v) = rd s (4 * x.f0 + rd (qR x.f1) v)) (fun a j f x _ _ hI => by unfold zAI; rw [JM]; exact hI) (fun a j2 f2 x2 _ _ hI hq => ?_) (qL _ _) hF hb (fun a hI => ?_)
    · exact zA4 _ _ (hlen a hI v hv).1 (hlen a hI v hv).2 hq
    · exact zBj _ _ (zCt hv hvf) (fun u hu => hlen a hI u (QT hu).1)
  obtain ⟨hk, hkl, _⟩ := zH0 h
  obtain ⟨x1, hx1⟩ := Int.eq_ofNat_of_zero_le (show 0 ≤ 4 * (j : Int) + v by omega)
  obtain ⟨x2, hx2⟩ := Int.eq_ofNat_of_zero_le (show 0 ≤ 4 * x.f0 + rd (qR x.f1) v by omega)
  rw [hx1, hx2] at hm ⊢
  rw [Jw, Jw] at hm
  have hb1 : x1 < (zA0 t).length := by omega
  have hb2 : x2 < (zA0 t).length := by omega
  have hs := (hk.2 x1 x2 hb1 hb2).1 hm
  have hl2 : (Jm t).v.length = (zA0 t).length := hk.1.symm
  unfold QI
  rw [zBF (JQ h).2.1, Jw, Jw, Jb (zF1 (Jm t).v) (Jm t).v x1 0 0 (by omega), Jb (zF1 (Jm t).v) (Jm t).v x2 0 0 (by omega), hs]
end
section
variable {α : Type} {g : Int → α}
theorem zA6 {b v f to_ pm z : Int} {k : Nat} {x : List Int} (h : In x z) : In (zBn b v f to_ pm k x) z := ⟨h.1, by rw [Jd]; exact h.2⟩
theorem zEY {b v f to_ pm : Int} {x : List Int} (h : ∀ w : Nat, w < 4 → (w : Int) ≠ v → (w : Int) ≠ f → In x (b + (w : Int)) ∧ In x (to_ + rd (qR pm) (w : Int)) ∧ g (b + (w : Int)) = g (to_ + rd (qR pm) (w : Int))) (hx : Snd g x) : ∀ k : Nat, k ≤ 4 → Snd g (zBn b v f to_ pm k x)
  | 0, _ => hx
  | k + 1, hk => by
    have ih := zEY h hx k (by omega)
    unfold zBn
    by_cases e1 : (k : Int) = v
    · rw [if_pos e1]; exact ih
    · rw [if_neg e1]
      by_cases e2 : (k : Int) = f
      · rw [if_pos e2]; exact ih
      · rw [if_neg e2]
        obtain ⟨a1, a2, a3⟩ := h k (by omega) e1 e2
        exact zG3 ih (zA6 a1) (zA6 a2) a3
theorem zBk {b v f to_ pm y z : Int} {x : List Int} (hy : In x y) (hz : In x z) (e : rd x y = rd x z) : ∀ k : Nat, rd (zBn b v f to_ pm k x) y = rd (zBn b v f to_ pm k x) z
  | 0 => e
  | k + 1 => by
    have ih := zBk (b := b) (v := v) (f := f) (to_ := to_) (pm := pm) hy hz e k
    unfold zBn
    split
    · exact ih
    · split
      · exact ih
      · exact zBJ (zA6 hy) (zA6 hz) ih
theorem zEZ {b v f to_ pm : Int} {x : List Int} {w : Nat} (e1 : (w : Int) ≠ v) (e2 : (w : Int) ≠ f) (h1 : In x (b + (w : Int))) (h2 : In x (to_ + rd (qR pm) (w : Int))) : ∀ k : Nat, w < k → rd (zBn b v f to_ pm k x) (b + (w : Int)) = rd (zBn b v f to_ pm k x) (to_ + rd (qR pm) (w : Int))
  | 0, h => by omega
  | k + 1, h => by
    unfold zBn
    by_cases e : w = k
    · subst e
      rw [if_neg e1, if_neg e2]
      exact zG4 (zA6 h1) (zA6 h2)
    · have ih := zEZ e1 e2 h1 h2 k (by omega)
      split
      · exact ih
      · split
        · exact ih
        · exact zBJ (zA6 h1) (zA6 h2) ih
end
section
variable {t : Tri} {α : Type} {g : Int → α}
theorem zDW (h : ZB t = true) {j f : Nat} (hj : j < t.length) (hf : f < 4) : ZX t j f (zI (zE t (j : Int)) (f : Int)) := by
  obtain ⟨hf', e⟩ := zDy h hj hf
  exact ⟨hj, hf', e.symm⟩
theorem zDX (h : ZB t = true) {j : Nat} (hj : j < t.length) {v : Int} (hv : sm v) (hg : ∀ (f : Nat) (x : zw), ZX t j f x → ¬ x.f0 < 0 → v ≠ (f : Int) → ∀ w ∈ JT [(f : Int), v], g (16 * (j : Int) + 4 * v + w) = g (16 * x.f0 + 4 * rd (qR x.f1) v + rd (qR x.f1) w)) {M : Nat} {q : zBe} (hq : zER (16 * t.length) M q) (hs : Snd g q.p) : ∀ f : Nat, f ≤ 4 → Snd g (Qn t (j : Int) v f q).p
  | 0, _ => hs
  | f + 1, hf => by
    have ih := zDX h hj hv hg hq hs f (by omega)
    have hI := Je (t := t) (a := (j : Int)) (v := v) (by omega) (by omega) hv.1 hv.2 hq f (by omega)
    unfold Qn
    by_cases e : (f : Int) = v
    · rw [if_pos e]; exact ih
    · rw [if_neg e]
      have hF := zDW h hj (show f < 4 by omega)
      unfold zEu
      by_cases hb : (zI (zE t (j : Int)) (f : Int)).f0 < 0
      · rw [if_pos hb]; exact ih
      · rw [if_neg hb]
        have hR := Qv h hF hb
        refine zEY (fun w hw w1 w2 => ?_) ih 4 (yry _)
        have hr := hR v (w : Int) hv.1 hv.2 (by omega) (by omega)
        exact ⟨by unfold In; rw [hI.lp]; exact hr.1, by unfold In; rw [hI.lp]; exact hr.2, hg f _ hF hb (fun k => e k.symm) (w : Int) (zG9 ⟨by omega, by omega⟩ w2 w1)⟩
theorem zDY (h : ZB t = true) {j : Nat} (hj : j < t.length) {v : Int} (hv : sm v) (hg : ∀ (f : Nat) (x : zw), ZX t j f x → ¬ x.f0 < 0 → v ≠ (f : Int) → g (16 * (j : Int) + 4 * v + (f : Int)) = g (16 * x.f0 + 4 * rd (qR x.f1) v + rd (qR x.f1) (f : Int))) {M : Nat} {q : zBe} (hq : zER (16 * t.length) M q) (hs : Snd g q.s) : ∀ f : Nat, f ≤ 4 → Snd g (Qn t (j : Int) v f q).s
  | 0, _ => hs
  | f + 1, hf => by
    have ih := zDY h hj hv hg hq hs f (by omega)
    have hI := Je (t := t) (a := (j : Int)) (v := v) (by omega) (by omega) hv.1 hv.2 hq f (by omega)
    unfold Qn
    by_cases e : (f : Int) = v
    · rw [if_pos e]; exact ih
    · rw [if_neg e]
      have hF := zDW h hj (show f < 4 by omega)
      unfold zEu
      by_cases hb : (zI (zE t (j : Int)) (f : Int)).f0 < 0
      · rw [if_pos hb]; exact ih
      · rw [if_neg hb]
        have hr := Qv h hF hb v (f : Int) hv.1 hv.2 (by omega) (by omega)
        exact zG3 ih (by unfold In; rw [hI.ls]; exact hr.1) (by unfold In; rw [hI.ls]; exact hr.2) (hg f _ hF hb (fun k => e k.symm))
theorem zBl (h : ZB t = true) {j : Nat} (hj : j < t.length) {v : Int} (hv : sm v) {M : Nat} {q : zBe} (hq : zER (16 * t.length) M q) {y z : Int} (hy : 0 ≤ y ∧ y < ((16 * t.length : Nat) : Int)) (hz : 0 ≤ z ∧ z < ((16 * t.length : Nat) : Int)) : ∀ f : Nat, f ≤ 4 → (rd q.p y = rd q.p z → rd (Qn t (j : Int) v f q).p y = rd (Qn t (j : Int) v f q).p z) ∧ (rd q.s y = rd q.s z → rd (Qn t (j : Int) v f q).s y = rd (Qn t (j : Int) v f q).s z)
  | 0, _ => ⟨fun e => e, fun e => e⟩
  | f + 1, hf => by
    obtain ⟨ih1, ih2⟩ := zBl h hj hv hq hy hz f (by omega)
    have hI := Je (t := t) (a := (j : Int)) (v := v) (by omega) (by omega) hv.1 hv.2 hq f (by omega)
    have p1 : In (Qn t (j : Int) v f q).p y := by unfold In; rw [hI.lp]; exact hy
    have p2 : In (Qn t (j : Int) v f q).p z := by unfold In; rw [hI.lp]; exact hz
    have s1 : In (Qn t (j : Int) v f q).s y := by unfold In; rw [hI.ls]; exact hy
    have s2 : In (Qn t (j : Int) v f q).s z := by unfold In; rw [hI.ls]; exact hz
    unfold Qn
    by_cases e : (f : Int) = v
    · rw [if_pos e]; exact ⟨ih1, ih2⟩
    · rw [if_neg e]
      unfold zEu
      by_cases hb : (zI (zE t (j : Int)) (f : Int)).f0 < 0
      · rw [if_pos hb]; exact ⟨ih1, ih2⟩
      · rw [if_neg hb]
        exact ⟨fun k => zBk p1 p2 (ih1 k) 4, fun k => zBJ s1 s2 (ih2 k)⟩
theorem zEa (h : ZB t = true) {j : Nat} (hj : j < t.length) {v : Int} (hv : sm v) {M : Nat} {q : zBe} (hq : zER (16 * t.length) M q) {f0 : Nat} {x : zw} (hF : ZX t j f0 x) (hb0 : ¬ x.f0 < 0) (hvf : v ≠ (f0 : Int)) : ∀ f : Nat, f ≤ 4 → f0 < f →
    (∀ w ∈ JT [(f0 : Int), v], rd (Qn t (j : Int) v f q).p (16 * (j : Int) + 4 * v + w) = rd (Qn t (j : Int) v f q).p (16 * x.f0 + 4 * rd (qR x.f1) v + rd (qR x.f1) w)) ∧ rd (Qn t (j : Int) v f q).s (16 * (j : Int) + 4 * v + (f0 : Int)) = rd (Qn t (j : Int) v f q).s (16 * x.f0 + 4 * rd (qR x.f1) v + rd (qR x.f1) (f0 : Int))
  | 0, _, hlt => by omega
  | f + 1, hf, hlt => by
    have hR := Qv h hF hb0
    have hI := Je (t := t) (a := (j : Int)) (v := v) (by omega) (by omega) hv.1 hv.2 hq f (by omega)
    have hf3 : sm (f0 : Int) := ⟨by omega, by omega⟩
    have inP : ∀ z, (0 ≤ z ∧ z < ((16 * t.length : Nat) : Int)) → In (Qn t (j : Int) v f q).p z := fun z hz => by unfold In; rw [hI.lp]; exact hz
    have inS : ∀ z, (0 ≤ z ∧ z < ((16 * t.length : Nat) : Int)) → In (Qn t (j : Int) v f q).s z := fun z hz => by unfold In; rw [hI.ls]; exact hz
    have hrf := hR v (f0 : Int) hv.1 hv.2 hf3.1 hf3.2
    unfold Qn
    by_cases e0 : f0 = f
    · subst e0
      rw [if_neg (fun k => hvf k.symm), fc_of hF]
      unfold zEu
      rw [if_neg hb0]
      refine ⟨fun w hw => ?_, zG4 (inS _ hrf.1) (inS _ hrf.2)⟩
      obtain ⟨hw1, hw2, hw3⟩ := Qb hw
      have hr := hR v w hv.1 hv.2 hw1.1 hw1.2
      obtain ⟨wn, rfl⟩ := Int.eq_ofNat_of_zero_le hw1.1
      exact zEZ hw3 hw2 (inP _ hr.1) (inP _ hr.2) 4 (by have := hw1.2; omega)
    · obtain ⟨ih1, ih2⟩ := zEa h hj hv hq hF hb0 hvf f (by omega) (by omega)
      by_cases e : (f : Int) = v
      · rw [if_pos e]; exact ⟨ih1, ih2⟩
      · rw [if_neg e]
        unfold zEu
        by_cases hb : (zI (zE t (j : Int)) (f : Int)).f0 < 0
        · rw [if_pos hb]; exact ⟨ih1, ih2⟩
        · rw [if_neg hb]
          refine ⟨fun w hw => ?_, zBJ (inS _ hrf.1) (inS _ hrf.2) ih2⟩
          have hw1 := (Qb hw).1
          have hr := hR v w hv.1 hv.2 hw1.1 hw1.2
          exact zBk (inP _ hr.1) (inP _ hr.2) (ih1 w hw) 4
theorem Jn (b v f : Int) (x : zw) (q : zBe) : (zEu b v f x q).u = q.u ++ [b + f] := by unfold zEu; split <;> rfl
theorem numF_u (t : Tri) (a : Int) {v : Int} (hv : sm v) (q : zBe) : (Qn t a v 4 q).u = q.u ++ (JT [v]).map (fun w => 16 * a + 4 * v + w) := by
  have h0 := hv.1
  have h1 := hv.2
  obtain rfl | rfl | rfl | rfl : v = 0 ∨ v = 1 ∨ v = 2 ∨ v = 3 := by omega
  · rw [Qn, if_neg (by decide), Jn, Qn, if_neg (by decide), Jn, Qn, if_neg (by decide), Jn, Qn, if_pos (by decide), Qn, show JT [0] = [1, 2, 3] from by decide]
    simp
  · rw [Qn, if_neg (by decide), Jn, Qn, if_neg (by decide), Jn, Qn, if_pos (by decide), Qn, if_neg (by decide), Jn, Qn, show JT [1] = [0, 2, 3] from by decide]
    simp
  · rw [Qn, if_neg (by decide), Jn, Qn, if_pos (by decide), Qn, if_neg (by decide), Jn, Qn, if_neg (by decide), Jn, Qn, show JT [2] = [0, 1, 3] from by decide]
    simp
  · rw [Qn, if_pos (by decide), Qn, if_neg (by decide), Jn, Qn, if_neg (by decide), Jn, Qn, if_neg (by decide), Jn, Qn, show JT [3] = [0, 1, 2] from by decide]
    simp
theorem zEb (cls : List Int) (c : Int) : ∀ (d i k : Nat), i ≤ k → k < i + d → rd cls (k : Int) = c → [((k / 4 : Nat) : Int), ((k % 4 : Nat) : Int)] ∈ JG cls c d i
  | 0, i, k, h1, h2, _ => by omega
  | d + 1, i, k, h1, h2, h3 => by
    rw [JG]
    by_cases e : i = k
    · subst e
      rw [if_pos h3]; simp
    · exact List.mem_append_right _ (zEb cls c d (i + 1) k (by omega) (by omega) h3)
def zH2 (cs : List (List Int)) : List Int := cs.flatMap fun c => (JT [rd c 1]).map fun w => 16 * rd c 0 + 4 * rd c 1 + w
theorem zH3 {cs : List (List Int)} (hc : ∀ c ∈ cs, c.length = 2 ∧ 0 ≤ rd c 0 ∧ rd c 0 < (t.length : Int) ∧ 0 ≤ rd c 1 ∧ rd c 1 ≤ 3) (q : zBe) : ∀ i : Nat, i ≤ cs.length → (zB0 t cs i q).u = q.u ++ zH2 (cs.take i)
  | 0, _ => by simp [zB0, zH2]
  | i + 1, hi => by
    have e : qf cs (i : Int) = cs[i] := by simp [qf, show i < cs.length by omega]
    have h3 := hc cs[i] (yoy _)
    rw [zB0, e, numF_u t _ ⟨h3.2.2.2.1, h3.2.2.2.2⟩, zH3 hc q i (by omega), List.take_succ_eq_append_getElem (by omega), List.append_assoc]
    unfold zH2
    rw [List.flatMap_append]
    simp
theorem zCu (h : ZB t = true) {cs : List (List Int)} (hc : ∀ c ∈ cs, c.length = 2 ∧ 0 ≤ rd c 0 ∧ rd c 0 < (t.length : Int) ∧ 0 ≤ rd c 1 ∧ rd c 1 ≤ 3) {q : zBe} (hq : zER (16 * t.length) 0 q) : ∀ i : Nat, i ≤ cs.length →
    ((∀ (j f : Nat) (x : zw), ZX t j f x → ¬ x.f0 < 0 → ∀ v, sm v → v ≠ (f : Int) → ∀ w ∈ JT [(f : Int), v], g (16 * (j : Int) + 4 * v + w) = g (16 * x.f0 + 4 * rd (qR x.f1) v + rd (qR x.f1) w)) → Snd g q.p → Snd g (zB0 t cs i q).p) ∧
    ((∀ (j f : Nat) (x : zw), ZX t j f x → ¬ x.f0 < 0 → ∀ v, sm v → v ≠ (f : Int) → g (16 * (j : Int) + 4 * v + (f : Int)) = g (16 * x.f0 + 4 * rd (qR x.f1) v + rd (qR x.f1) (f : Int))) → Snd g q.s → Snd g (zB0 t cs i q).s)
  | 0, _ => ⟨fun _ e => e, fun _ e => e⟩
  | i + 1, hi => by
    obtain ⟨ih1, ih2⟩ := zCu h hc hq i (by omega)
    have hI := zAe hc hq i (by omega)
    have e : qf cs (i : Int) = cs[i] := by simp [qf, show i < cs.length by omega]
    obtain ⟨_, h0, h1, h2, h3⟩ := hc cs[i] (yoy _)
    obtain ⟨j, hj⟩ := Int.eq_ofNat_of_zero_le h0
    have hjl : j < t.length := by omega
    rw [zB0, e, hj]
    exact ⟨fun hg hs => zDX h hjl ⟨h2, h3⟩ (fun f x hF hb hvf => hg j f x hF hb _ ⟨h2, h3⟩ hvf) hI (ih1 hg hs) 4 (yry _), fun hg hs => zDY h hjl ⟨h2, h3⟩ (fun f x hF hb hvf => hg j f x hF hb _ ⟨h2, h3⟩ hvf) hI (ih2 hg hs) 4 (yry _)⟩
theorem zCv (h : ZB t = true) {cs : List (List Int)} (hc : ∀ c ∈ cs, c.length = 2 ∧ 0 ≤ rd c 0 ∧ rd c 0 < (t.length : Int) ∧ 0 ≤ rd c 1 ∧ rd c 1 ≤ 3) {q : zBe} (hq : zER (16 * t.length) 0 q) {i0 : Nat} (hi0 : i0 < cs.length) {j f : Nat} {v : Int} {x : zw} (e0 : rd cs[i0] 0 = (j : Int)) (e1 : rd cs[i0] 1 = v) (hF : ZX t j f x) (hb : ¬ x.f0 < 0) (hvf : v ≠ (f : Int)) (hf4 : f < 4) : ∀ i : Nat, i ≤ cs.length → i0 < i →
    (∀ w ∈ JT [(f : Int), v], rd (zB0 t cs i q).p (16 * (j : Int) + 4 * v + w) = rd (zB0 t cs i q).p (16 * x.f0 + 4 * rd (qR x.f1) v + rd (qR x.f1) w)) ∧ rd (zB0 t cs i q).s (16 * (j : Int) + 4 * v + (f : Int)) = rd (zB0 t cs i q).s (16 * x.f0 + 4 * rd (qR x.f1) v + rd (qR x.f1) (f : Int))
  | 0, _, hlt => by omega
  | i + 1, hi, hlt => by
    have hI := zAe hc hq i (by omega)
    have e : qf cs (i : Int) = cs[i] := by simp [qf, show i < cs.length by omega]
    obtain ⟨_, h0, h1, h2, h3⟩ := hc cs[i] (yoy _)
    obtain ⟨j2, hj2⟩ := Int.eq_ofNat_of_zero_le h0
    have hjl : j2 < t.length := by omega
    rw [zB0, e]
    by_cases ei : i0 = i
    · subst ei
      rw [e0, e1]
      exact zEa h (by have := hF.1; exact this) ⟨by rw [← e1]; exact h2, by rw [← e1]; exact h3⟩ hI hF hb hvf 4 (yry _) hf4
    · obtain ⟨ih1, ih2⟩ := zCv h hc hq hi0 e0 e1 hF hb hvf hf4 i (by omega) (by omega)
      have hv : sm v := by
        obtain ⟨_, _, _, g2, g3⟩ := hc cs[i0] (yoy _)
        rw [e1] at g2 g3
        exact ⟨g2, g3⟩
      have hR := Qv h hF hb
      rw [hj2]
      refine ⟨fun w hw => ?_, ?_⟩
      · have hw1 := (Qb hw).1
        have hr := hR v w hv.1 hv.2 hw1.1 hw1.2
        exact (zBl h hjl ⟨h2, h3⟩ hI hr.1 hr.2 4 (yry _)).1 (ih1 w hw)
      · have hr := hR v (f : Int) hv.1 hv.2 (by omega) (by omega)
        exact (zBl h hjl ⟨h2, h3⟩ hI hr.1 hr.2 4 (yry _)).2 ih2
end
theorem zBL (m u : List Int) (i : Nat) : ∀ d j : Nat, zDt m u i d j = true ↔ ∀ q : Nat, j ≤ q → q < j + d → rd m (rd u (q : Int)) ≠ rd m (rd u (i : Int))
  | 0, j => by simp [zDt]; intro q h1 h2; omega
  | d + 1, j => by
    rw [zDt, Bool.and_eq_true, zBL m u i d (j + 1)]
    constructor
    · rintro ⟨h0, h1⟩ q hq1 hq2
      rcases Nat.eq_or_lt_of_le hq1 with rfl | hlt
      · simpa using h0
      · exact h1 q hlt (by omega)
    · intro h
      exact ⟨by simpa using h j (yry _) (by omega), fun q h1 h2 => h q (by omega) (by omega)⟩
theorem zAs {m m2 u : List Int} (h : ∀ i q : Nat, i < u.length → q < u.length → (rd m (rd u (q : Int)) = rd m (rd u (i : Int)) ↔ rd m2 (rd u (q : Int)) = rd m2 (rd u (i : Int)))) : ∀ d i : Nat, i + d = u.length → zBo m u d i = zBo m2 u d i
  | 0, i, _ => rfl
  | d + 1, i, hi => by
    rw [zBo, zBo, zAs h d (i + 1) (by omega)]
    have e : zDt m u i i 0 = zDt m2 u i i 0 := by
      rw [Bool.eq_iff_iff, zBL, zBL]
      exact ⟨fun k q h1 h2 e => k q h1 h2 ((h i q (by omega) (by omega)).2 e), fun k q h1 h2 e => k q h1 h2 ((h i q (by omega) (by omega)).1 e)⟩
    rw [e]
def zEc (m : List Int) (L ks : List Int) : List Int := L.foldl (fun ks x => zEP ks (rd m x)) ks
theorem zEd (m : List Int) : ∀ (L ks : List Int) (x : Int), x ∈ zEc m L ks ↔ x ∈ ks ∨ ∃ y ∈ L, rd m y = x
  | [], ks, x => by simp [zEc]
  | y :: L, ks, x => by
    show x ∈ zEc m L (zEP ks (rd m y)) ↔ _
    rw [zEd m L]
    have ha : x ∈ zEP ks (rd m y) ↔ x ∈ ks ∨ rd m y = x := by
      unfold zEP
      split
      · rename_i hm
        constructor
        · exact .inl
        · rintro (k | rfl)
          · exact k
          · exact hm
      · rw [List.mem_append, List.mem_singleton]
        constructor
        · rintro (k | rfl)
          · exact .inl k
          · exact .inr rfl
        · rintro (k | rfl)
          · exact .inl k
          · exact .inr rfl
    rw [ha]
    constructor
    · rintro ((k | k) | ⟨z, hz, k⟩)
      · exact .inl k
      · exact .inr ⟨y, List.mem_cons_self .., k⟩
      · exact .inr ⟨z, List.mem_cons_of_mem _ hz, k⟩
    · rintro (k | ⟨z, hz, k⟩)
      · exact .inl (.inl k)
      · rcases List.mem_cons.1 hz with rfl | hz
        · exact .inl (.inr k)
        · exact .inr ⟨z, hz, k⟩
theorem zEe (m A B ks : List Int) : zEc m (A ++ B) ks = zEc m B (zEc m A ks) := List.foldl_append
theorem zCw (m u : List Int) : ∀ d i : Nat, i + d = u.length → ((zEc m u []).length : Int) = ((zEc m (u.take i) []).length : Int) + zBo m u d i
  | 0, i, hi => by rw [List.take_of_length_le (by omega), zBo]; omega
  | d + 1, i, hi => by
    have hlt : i < u.length := by omega
    rw [zCw m u d (i + 1) (by omega), List.take_succ_eq_append_getElem hlt, zEe, zBo]
    show ((zEP (zEc m (u.take i) []) (rd m u[i])).length : Int) + _ = _
    have e : rd u (i : Int) = u[i] := zB7 u i hlt
    have hd : zDt m u i i 0 = true ↔ rd m u[i] ∉ zEc m (u.take i) [] := by
      rw [zBL, zEd, e]
      constructor
      · rintro h (k | ⟨y, hy, k⟩)
        · cases k
        · obtain ⟨q, hq, rfl⟩ := List.getElem_of_mem hy
          have hq2 : q < i := by rw [ymy] at hq; omega
          have := h q (Nat.zero_le _) (by omega)
          rw [zB7 u q (by omega)] at this
          rw [List.getElem_take] at k
          exact this k
      · intro h q h1 h2 k
        refine h (.inr ⟨u[q], ?_, ?_⟩)
        · rw [List.mem_iff_getElem]
          exact ⟨q, by rw [ymy]; omega, by rw [List.getElem_take]⟩
        · rw [zB7 u q (by omega)] at k; exact k
    by_cases hm : rd m u[i] ∈ zEc m (u.take i) []
    · rw [if_neg (fun k => hd.1 k hm)]
      unfold zEP
      rw [if_pos hm]; omega
    · rw [if_pos (hd.2 hm)]
      unfold zEP
      rw [if_neg hm, List.length_append, List.length_singleton]; omega
theorem zEf (m : List Int) (b : Int) : ∀ (L ks : List Int), zAE m b L ks = zEc m (L.map fun w => b + w) ks
  | [], ks => rfl
  | v :: vs, ks => by rw [zAE, zEf m b vs]; rfl
theorem zCx (m : List Int) : ∀ (cs : List (List Int)) (ks : List Int), JN m cs ks = zEc m (zH2 cs) ks
  | [], ks => rfl
  | c :: cs, ks => by
    rw [JN, zCx m cs, zEf]
    show _ = zEc m (((JT [rd c 1]).map fun w => 16 * rd c 0 + 4 * rd c 1 + w) ++ zH2 cs) ks
    rw [zEe]
section
variable {t : Tri}
theorem zEg (h : ZB t = true) (c : Int) : (JX t c).u = zH2 (JG (QI t) c (4 * t.length) 0) := by
  unfold JX
  rw [zH3 (zA3 h c) (zDp t) _ (yry _), List.take_length]
  show [] ++ _ = _
  rw [List.nil_append]
theorem zCy (h : ZB t = true) {c : Int} {x : Int} (hx : x ∈ zH2 (JG (QI t) c (4 * t.length) 0)) : ∃ (k : Nat) (w : Int), k < 4 * t.length ∧ sm w ∧ rd (QI t) (k : Int) = c ∧ x = 4 * (k : Int) + w := by
  unfold zH2 at hx
  obtain ⟨r, hr, hx⟩ := List.mem_flatMap.1 hx
  obtain ⟨w, hw, rfl⟩ := List.mem_map.1 hx
  obtain ⟨k, h0, h1, e, hk⟩ := zBH _ _ _ _ _ hr
  have e0 : rd [((k / 4 : Nat) : Int), ((k % 4 : Nat) : Int)] 0 = ((k / 4 : Nat) : Int) := rfl
  have e1 : rd [((k / 4 : Nat) : Int), ((k % 4 : Nat) : Int)] 1 = ((k % 4 : Nat) : Int) := rfl
  refine ⟨k, w, by omega, (QT hw).1, hk, ?_⟩
  rw [e, e0, e1]; omega
theorem zGA (h : ZB t = true) {c : Int} {j : Nat} {v : Int} (hj : j < t.length) (hv : sm v) (hc : rd (QI t) (4 * (j : Int) + v) = c) : ∃ i0 : Nat, ∃ hi : i0 < (JG (QI t) c (4 * t.length) 0).length, rd (JG (QI t) c (4 * t.length) 0)[i0] 0 = (j : Int) ∧ rd (JG (QI t) c (4 * t.length) 0)[i0] 1 = v := by
  have h0 := hv.1
  have h1 := hv.2
  obtain ⟨vn, rfl⟩ := Int.eq_ofNat_of_zero_le h0
  have hm := zEb (QI t) c (4 * t.length) 0 (4 * j + vn) (Nat.zero_le _) (by omega) (by rw [← hc]; congr 1)
  obtain ⟨i0, hi, e⟩ := List.getElem_of_mem hm
  refine ⟨i0, hi, ?_, ?_⟩
  · rw [e]; show (((4 * j + vn) / 4 : Nat) : Int) = _; omega
  · rw [e]; show (((4 * j + vn) % 4 : Nat) : Int) = _; omega
theorem zAi {j v w : Int} (hw : sm w) : (16 * j + 4 * v + w) / 4 = 4 * j + v := by
  have := hw.1
  have := hw.2
  omega
theorem ker_P (h : ZB t = true) (c : Int) {x y : Int} (hx : x ∈ (JX t c).u) (hy : y ∈ (JX t c).u) : rd (JX t c).p x = rd (JX t c).p y ↔ rd (Qe t).1 x = rd (Qe t).1 y := by
  have hI := zBI h c
  have hl := zDV t
  have bx := hI.u x hx
  have by_ := hI.u y hy
  rw [zEg h] at hx hy
  obtain ⟨kx, wx, hkx, hwx, hcx, ex⟩ := zCy h hx
  obtain ⟨ky, wy, hky, hwy, hcy, ey⟩ := zCy h hy
  constructor
  · intro e
    have hs := (zCu (g := rd (Qe t).1) h (zA3 h c) (zAA t) _ (yry _)).1 (fun j f z hF hb v hv hvf w hw => zHV h hF hb hv hvf hw) (zEU _)
    exact hs x y ⟨bx.1, by have := hI.lp; unfold JX at this; rw [this]; exact bx.2⟩ ⟨by_.1, by have := hI.lp; unfold JX at this; rw [this]; exact by_.2⟩ e
  · intro e
    have hs := zHX h (g := fun z => if rd (QI t) (z / 4) = c then some (rd (JX t c).p z) else none) (fun j f z hF hb v hv hvf w hw => by
      obtain ⟨a1, a2, a3, a4, a5, a6⟩ := JC h hF hb
      have hw1 := (Qb hw).1
      have p1 := Zb a5 a6 hv.1 hv.2
      have p2 := Zb a5 a6 hw1.1 hw1.2
      show (if rd (QI t) ((16 * (j : Int) + 4 * v + w) / 4) = c then _ else _) = (if rd (QI t) ((16 * z.f0 + 4 * rd (qR z.f1) v + rd (qR z.f1) w) / 4) = c then _ else _)
      rw [zAi hw1, zAi p2, ← zCG h hF hb hv hvf]
      by_cases hcc : rd (QI t) (4 * (j : Int) + v) = c
      · rw [if_pos hcc, if_pos hcc]
        obtain ⟨i0, hi0, e0, e1⟩ := zGA h a1 hv hcc
        have := (zCv h (zA3 h c) (zAA t) hi0 e0 e1 hF hb hvf (by omega) _ (yry _) hi0).1 w hw
        exact congrArg some this
      · rw [if_neg hcc, if_neg hcc])
    have := hs x y ⟨bx.1, by rw [hl.1]; exact bx.2⟩ ⟨by_.1, by rw [hl.1]; exact by_.2⟩ e
    have dx : x / 4 = (kx : Int) := by have := hwx.1; have := hwx.2; omega
    have dy : y / 4 = (ky : Int) := by have := hwy.1; have := hwy.2; omega
    dsimp only at this
    rw [dx, dy, if_pos hcx, if_pos hcy] at this
    exact yey this
theorem ker_S (h : ZB t = true) (c : Int) {x y : Int} (hx : x ∈ (JX t c).u) (hy : y ∈ (JX t c).u) : rd (JX t c).s x = rd (JX t c).s y ↔ rd (Qe t).2 x = rd (Qe t).2 y := by
  have hI := zBI h c
  have hl := zDV t
  have bx := hI.u x hx
  have by_ := hI.u y hy
  rw [zEg h] at hx hy
  obtain ⟨kx, wx, hkx, hwx, hcx, ex⟩ := zCy h hx
  obtain ⟨ky, wy, hky, hwy, hcy, ey⟩ := zCy h hy
  constructor
  · intro e
    have hs := (zCu (g := rd (Qe t).2) h (zA3 h c) (zAA t) _ (yry _)).2 (fun j f z hF hb v hv hvf => zHW h hF hb hv hvf) (zEU _)
    exact hs x y ⟨bx.1, by have := hI.ls; unfold JX at this; rw [this]; exact bx.2⟩ ⟨by_.1, by have := hI.ls; unfold JX at this; rw [this]; exact by_.2⟩ e
  · intro e
    have hs := zHY h (g := fun z => if rd (QI t) (z / 4) = c then some (rd (JX t c).s z) else none) (fun j f z hF hb v hv hvf => by
      obtain ⟨a1, a2, a3, a4, a5, a6⟩ := JC h hF hb
      have hw1 : sm (f : Int) := ⟨by omega, by omega⟩
      have p1 := Zb a5 a6 hv.1 hv.2
      have p2 := Zb a5 a6 hw1.1 hw1.2
      show (if rd (QI t) ((16 * (j : Int) + 4 * v + (f : Int)) / 4) = c then _ else _) = (if rd (QI t) ((16 * z.f0 + 4 * rd (qR z.f1) v + rd (qR z.f1) (f : Int)) / 4) = c then _ else _)
      rw [zAi hw1, zAi p2, ← zCG h hF hb hv hvf]
      by_cases hcc : rd (QI t) (4 * (j : Int) + v) = c
      · rw [if_pos hcc, if_pos hcc]
        obtain ⟨i0, hi0, e0, e1⟩ := zGA h a1 hv hcc
        have := (zCv h (zA3 h c) (zAA t) hi0 e0 e1 hF hb hvf (by omega) _ (yry _) hi0).2
        exact congrArg some this
      · rw [if_neg hcc, if_neg hcc])
    have := hs x y ⟨bx.1, by rw [hl.2]; exact bx.2⟩ ⟨by_.1, by rw [hl.2]; exact by_.2⟩ e
    have dx : x / 4 = (kx : Int) := by have := hwx.1; have := hwx.2; omega
    have dy : y / 4 = (ky : Int) := by have := hwy.1; have := hwy.2; omega
    dsimp only at this
    rw [dx, dy, if_pos hcx, if_pos hcy] at this
    exact yey this
theorem keys_P (h : ZB t = true) (c : Int) : ((JN (Qe t).1 (JG (QI t) c (4 * t.length) 0) []).length : Int) = euP t c := by
  rw [zCx, ← zEg h]
  have := zCw (Qe t).1 (JX t c).u (JX t c).u.length 0 (by omega)
  rw [List.take_zero] at this
  rw [this]
  unfold euP
  show (0 : Int) + _ = _
  rw [Int.zero_add]
  exact zAs (fun i q hi hq => by rw [zB7 _ i hi, zB7 _ q hq]; exact (ker_P h c (yoy hq) (yoy hi)).symm) _ 0 (by omega)
theorem keys_S (h : ZB t = true) (c : Int) : ((JN (Qe t).2 (JG (QI t) c (4 * t.length) 0) []).length : Int) = euS t c := by
  rw [zCx, ← zEg h]
  have := zCw (Qe t).2 (JX t c).u (JX t c).u.length 0 (by omega)
  rw [List.take_zero] at this
  rw [this]
  unfold euS
  show (0 : Int) + _ = _
  rw [Int.zero_add]
  exact zAs (fun i q hi hq => by rw [zB7 _ i hi, zB7 _ q hq]; exact (ker_S h c (yoy hq) (yoy hi)).symm) _ 0 (by omega)
def BdI (n : Nat) (s : List Int) : Prop := ∀ x ∈ s, 0 ≤ x ∧ x < (n : Int)
theorem zH4 {n : Nat} {s : List Int} (h : BdI n s) {i k : Int} (hi : In s i) : BdI n (uni s i k) := by
  intro x hx
  obtain ⟨y, hy, rfl⟩ := List.mem_map.1 hx
  have h1 := hi.1
  have h2 := hi.2
  obtain ⟨m, rfl⟩ := Int.eq_ofNat_of_zero_le h1
  split
  · rw [zB7 s m (by omega)]; exact h _ (yoy _)
  · exact h y hy
theorem zH5 {n N : Nat} {b to_ : Int} {p : List Int} : ∀ (L x : List Int), x.length = N → (∀ w ∈ L, 0 ≤ b + w ∧ b + w < (N : Int)) → BdI n x → BdI n (leP b to_ p L x)
  | [], x, _, _, h => h
  | w :: ws, x, hl, hL, h => zH5 ws _ (by rw [ZQ]; exact hl) (fun u hu => hL u (List.mem_cons_of_mem _ hu)) (zH4 h (by unfold In; rw [hl]; exact hL w (List.mem_cons_self ..)))
theorem zCH {n N : Nat} {j f b : Int} {p : List Int} (hf : sm f) (hR : LeR N j f b p) : ∀ (L : List Int) (s : List Int × List Int), s.1.length = N → s.2.length = N → (∀ v ∈ L, sm v) → BdI n s.1 → BdI n s.2 → BdI n (Zf j f b p L s).1 ∧ BdI n (Zf j f b p L s).2
  | [], s, _, _, _, h1, h2 => ⟨h1, h2⟩
  | v :: vs, s, l1, l2, hL, h1, h2 => by
    have hv := hL v (List.mem_cons_self ..)
    exact zCH hf hR vs _ (by rw [QN]; exact l1) (by rw [ZQ]; exact l2) (fun u hu => hL u (List.mem_cons_of_mem _ hu))
      (zH5 _ _ l1 (fun w hw => (hR v w hv.1 hv.2 (Qb hw).1.1 (Qb hw).1.2).1) h1)
      (zH4 h2 (by unfold In; rw [l2]; exact (hR v f hv.1 hv.2 hf.1 hf.2).1))
theorem bd_up (n : Nat) : BdI n (ZA 0 n) := fun x hx => by
  have := (zFd 0 x n).1 hx
  omega
theorem zGj (h : ZB t = true) : BdI (16 * t.length) (Qe t).1 ∧ BdI (16 * t.length) (Qe t).2 := by
  refine (zBK (t := t) (step := JU) (I := fun s => zGi (16 * t.length) s ∧ BdI (16 * t.length) s.1 ∧ BdI (16 * t.length) s.2) (fun a j f x hF hb hI => ⟨Qx hI.1 j f x, ?_⟩) ⟨⟨qL _ _, qL _ _⟩, bd_up _, bd_up _⟩).2
  exact zCH ⟨by omega, by have := (JC h hF hb).2.1; omega⟩ (Qv h hF hb) _ _ hI.1.1 hI.1.2 (fun v hv => (QT hv).1) hI.2.1 hI.2.2
theorem zDZ {n : Nat} {l : List Int} (h : BdI n l) (hn : n ≤ 1000000) : zAz l = true := by
  unfold zAz
  rw [List.all_eq_true]
  intro x hx
  have := h x hx
  rw [Bool.and_eq_true, decide_eq_true_eq, decide_eq_true_eq]
  exact ⟨this.1, by omega⟩
theorem zGk (h : ZB t = true) (c : Int) : zHZ t.length (JG (QI t) c (4 * t.length) 0) = true := by
  unfold zHZ
  have h8 := (ql h).1
  have := JD (QI t) c (4 * t.length) 0
  rw [Bool.and_eq_true, decide_eq_true_eq, List.all_eq_true]
  refine ⟨by omega, fun x hx => ?_⟩
  obtain ⟨h1, h2, h3, h4, h5⟩ := zA3 h c x hx
  simp only [Bool.and_eq_true, decide_eq_true_eq]
  exact ⟨h1, ⟨h2, h3⟩, h4, h5⟩
def euT (t : Tri) (c : Int) : Int := euP t c - euS t c + ((JG (QI t) c (4 * t.length) 0).length : Int)
theorem eu_bd (h : ZB t = true) (c : Int) : 0 ≤ euP t c ∧ euP t c ≤ 128 ∧ 0 ≤ euS t c ∧ euS t c ≤ 128 := by
  have a := zDu (JX t c).p (JX t c).u (JX t c).u.length 0
  have b := zDu (JX t c).s (JX t c).u (JX t c).u.length 0
  have hI := (zBI h c).lu
  unfold euP euS
  omega
theorem zBv (h : ZB t = true) (c : Int) : Ev (fun k => zg.f k t c) (euT t c) := by
  have h8 := (ql h).1
  have hb := zGj h
  refine qv ⟨zDO h, zDZ hb.1 (by omega), zDZ hb.2 (by omega)⟩ (Ev.bind (zF4 h c) (qv (zGk h c) (zCW ?_)))
  rw [keys_P h, keys_S h]
  rfl
def zGB (t : Tri) (c : Int) : Int × Int := if zAF t c = 0 then (euT t c, 0) else (0, zAF t c)
theorem zCz (hs : Small t) (c : Int) : Ev (fun k => ZF.f k t c) (zGB t c) := by
  refine Ev.bind (zGg hs c) ?_
  unfold zGB
  by_cases h0 : zAF t c = 0
  · rw [if_pos h0]
    exact qv h0 (Ev.bind (zBv (zCF h0).1 c) (Ev.now _))
  · rw [if_neg h0]
    exact QP h0 (Ev.now _)
theorem zD0 (t : Tri) (c : Int) : Ev (fun k => Zc.f k t c) (zGB t c) := by
  refine Ev.bind (zCs t c) ?_
  unfold zGB zG8
  by_cases h0 : zAF t c = 0
  · rw [if_pos h0, if_pos h0]
    have ht := (zCF h0).1
    have hb := eu_bd ht c
    have hcl := JD (QI t) c (4 * t.length) 0
    have h8 := (ql ht).1
    refine qv rfl (Ev.bind (zBi ht c) (zCW ?_))
    unfold euT
    dsimp only
    rw [qh (x := euP t c - euS t c) (by omega) (by omega), qh (x := euP t c - euS t c + ((JG (QI t) c (4 * t.length) 0).length : Int)) (by omega) (by omega)]
  · rw [if_neg h0, if_neg h0]
    exact QP h0 (Ev.now _)
end
end Go.Proofs.Ytembbpalgfikiaa.P
namespace Go.Proofs.Ytembbpalgfikiaa.Pure
open Go.RowKit Go.Proofs.Ytembbpalgfikiaa.P Go.Proofs.Ytembbpalgfikiaa.Lib Go.Proofs.YtembbpalgfikiaaW.PrintWords
set_option linter.unusedVariables false
theorem zBA (l : List (List qO)) (c : Int) (h : Fits l) (_ : (Lit.int .i64 c).wf = true) : ∃ k, zh.f k l c = some true := by
  refine Ev.rounds ?_
  obtain ⟨r, hr, hs⟩ := zAf l h
  refine Ev.bind hr ?_
  by_cases hn : r < 0
  · exact qv hn (Ev.now true)
  have hsm := hs hn
  have hto := zAg l hsm
  have hS := zFm hsm
  have hsp := zD0 (cvT l) c
  have him := zCz hS c
  generalize zGB (cvT l) c = o at *
  refine QP hn ?_
  refine Ev.bind hto ?_
  refine Ev.bind hsp ?_
  refine Ev.bind hto ?_
  refine Ev.bind him ?_
  refine qv rfl ?_
  have hj : Ev (fun k => zh.j0 k (o.2 != o.2) l (cvT l)) true := by
    rw [bne_self_eq_false]
    refine qT (f := fun k => (qC.f k l).bind fun t114 => (qk.f k (cvT l) t114).bind fun t117 => if t117 = true then some true else some false) (fun k => by rw [zh.j0, if_neg (by decide)]) ?_
    refine Ev.bind hto ?_
    exact Ev.bind (zAh _ hS) (qv rfl (Ev.now true))
  exact hj
end Go.Proofs.Ytembbpalgfikiaa.Pure
namespace Go.Proofs.Ytembbpalgfikiaa.Lib
open Go.RowKit Go.Proofs.YtembbpalgfikiaaW.PrintWords Go.Joins Go.Deep Go.WideShapes Go.ChangeShapes
set_option linter.unusedVariables false
def zGl (P : Program) (t : TypeId) {α : Type} (d : Kd α) : Prop := ∀ (H : Type) (enc : TypeId × Value → H) (w : World) (base : Nat) (spare : Nat → Bool) (held : Bool) (fuel : Nat) (cs : List Value) (x : DataW H × List MemPlace),
  DataW.trod enc P w base spare held fuel t cs = some x → ∃ y, d.K w y cs
theorem zDa {α : Type} {R : Nat → α → Prop} : ∀ n, (∀ i, i < n → ∃ y, R i y) → ∃ ys : List α, ys.length = n ∧ ∀ j p, ys[j]? = some p → R j p
  | 0, _ => ⟨[], rfl, fun j p h => by simp at h⟩
  | n + 1, h => by
    obtain ⟨ys, hl, hr⟩ := zDa n (fun i hi => h i (by omega))
    obtain ⟨y, hy⟩ := h n (by omega)
    refine ⟨ys ++ [y], by simp [hl], fun j p hj => ?_⟩
    by_cases hlt : j < n
    · rw [List.getElem?_append_left (by omega)] at hj
      exact hr j p hj
    · have hjn : j < (ys ++ [y]).length := (List.getElem?_eq_some_iff.1 hj).1
      have : j = n := by simp [hl] at hjn; omega
      subst this
      rw [List.getElem?_append_right (by omega), hl, Nat.sub_self] at hj
      injection hj with hj
      rw [← hj]
      exact hy
theorem zBm {P : Program} {t e : TypeId} {α : Type} {d : Kd α} (ht : P.underlying t = some (.slice e)) (hc : P.cellsOf e = d.sz) (h : zGl P e d) : zGl P t (Kd.slice e d) := by
  intro H enc w base spare held fuel cs x hx
  rcases open_slice ht hx with ⟨rfl, _⟩ | ⟨a, len, cap, m, n, D, Pl, rfl, hb, hl, hm, hmm, _, hi⟩
  · exact ⟨[], none, 0, rfl, yry _, Kd.C_nil d w⟩
  · have each : ∀ i, i < len → ∃ y, ∃ cs', w.cells? base (a.add (i * d.sz)) d.sz = some cs' ∧ d.K w y cs' := by
      intro i hil
      have him : i < m := by rw [hmm]; split <;> omega
      obtain ⟨cs', h1, h2⟩ := hi i him
      obtain ⟨y, hy⟩ := h H enc w base spare held n cs' _ h2
      rw [hc] at h1
      exact ⟨y, cs', h1, hy⟩
    obtain ⟨ys, hlen, hys⟩ := zDa len each
    refine ⟨ys, some a, cap, by rw [hlen], by omega, rfl, ?_, fun _ => ⟨a, rfl, fun j p hj => ?_⟩⟩
    · unfold maxLen at hm; omega
    · obtain ⟨cs', h1, h2⟩ := hys j p hj
      obtain ⟨_, h3, h4⟩ := World.cells?_some h1
      refine ⟨cs', h3, h2, fun i u hu => ?_⟩
      have hil : i < d.sz := by rw [← h3]; exact (List.getElem?_eq_some_iff.1 hu).1
      rw [← hu, ← h4 i hil, Go.Deep.add_add]
theorem zD1 {P : Program} {t : TypeId} {f0 f1 : Field} {α : Type} (hs : P.underlying t = some (.struct #[f0, f1])) (hone : oneCellFields P #[f0, f1] = true) (hC : P.cellsOf t = 2)
    (h0 : P.underlying f0.type = some (.int .i64)) (h1 : P.underlying f1.type = some (.int .i64)) (d : Kd α) (mk : Int → Int → α) (hK : ∀ w a b, d.K w (mk a b) [.int .i64 a, .int .i64 b]) : zGl P t d := by
  intro H enc w base spare held fuel cs x h
  obtain ⟨y0, y1, n, hx, hl, g0, g1⟩ := trod_struct2 hs h
  obtain ⟨o0, k0⟩ := hone_of hone 0 f0 rfl
  obtain ⟨o1, k1⟩ := hone_of hone 1 f1 rfl
  rw [hC] at hl
  match cs, hl with
  | [c0, c1], _ =>
    rw [o0, k0] at g0
    rw [o1, k1] at g1
    obtain ⟨a, e0, _, _⟩ := DataW.trod_int h0 g0
    obtain ⟨b, e1, _, _⟩ := DataW.trod_int h1 g1
    simp at e0 e1
    subst e0 e1
    exact ⟨mk a b, hK w a b⟩
section
variable {H : Type} {enc : TypeId × Value → H} {P : Program} {w : World} {base : Nat} {spare : Nat → Bool} {held : Bool}
theorem array1 {α : Type} {cs : Array α} (h : cs.size = 1) : ∃ c0, cs = #[c0] := by
  obtain ⟨l⟩ := cs
  match l, h with
  | [c0], _ => exact ⟨c0, rfl⟩
theorem zGC {r : Reach} {b0 : Nat} {t e : TypeId} {f0 : Field} {α : Type} {d : Kd α} {v : Value} {D : DataW H} {p : List MemPlace} (hs : P.underlying t = some (.struct #[f0])) (hone : oneCellFields P #[f0] = true) (hC : P.cellsOf t = 1)
    (ho : zGl P f0.type (Kd.slice e d)) (hv : Value.okWide P w r b0 t v) (h : DataW.Trod enc P w base spare held t v D p) :
    ∃ (A : Option Addr) (c : Nat) (l : List α), v = .agg #[.slice A l.length c] ∧ l.length ≤ c ∧ d.C w A l.length l := by
  obtain ⟨cs, rfl, hsz⟩ := okWide_struct hs hv
  obtain ⟨c0, rfl⟩ := array1 (hsz.trans hC)
  obtain ⟨fuel, hf⟩ := h
  obtain ⟨y0, n, hx, _, h0⟩ := trod_struct1 hs hf
  obtain ⟨o0, k0⟩ := hone_of hone 0 f0 rfl
  have h0' : DataW.trod enc P w base spare held n f0.type [c0] = some y0 := by simpa [Value.cells, o0, k0] using h0
  obtain ⟨l, A, c, e1, hl, hCC⟩ := ho H enc w base spare held n _ _ h0'
  simp at e1
  subst e1
  exact ⟨A, c, l, rfl, hl, hCC⟩
end
theorem zGD {e : Nat} {α : Type} {d : Kd α} {w : World} {A : Option Addr} {l : List (List α)} (h : (Kd.slice e d).C w A l.length l) : l.length ≤ 9223372036854775807 ∧ ∀ r ∈ l, r.length ≤ 9223372036854775807 := by
  refine ⟨h.2.1, fun r hr => ?_⟩
  obtain ⟨j, hj, rfl⟩ := List.mem_iff_getElem.1 hr
  obtain ⟨ad, _, hc⟩ := h.2.2 (by omega)
  obtain ⟨c, _, hK, _⟩ := hc j _ (List.getElem?_eq_getElem hj)
  obtain ⟨A', c', _, _, hC⟩ := hK
  exact hC.2.1
end Go.Proofs.Ytembbpalgfikiaa.Lib
