/- The statement FnExactLinkIsOrientableSaid, proved: part 7 of 8 (texts of this session and of the kit's print, put together and cut to what is used by a program of it). -/
import Derived.Test.YtembbpalgfikiaaMFnExactLinkIsOrientable6
import Derived.Deep.Slices
import Derived.ChangeSame
import Derived.ChangeArms
import Derived.WideShapes
import Derived.Lib.SmallJoins
import Derived.ChangeShapes
namespace Go.Proofs.Ytembbpalgfikiaa.P
open Go.RowKit Go.Proofs.YtembbpalgfikiaaW.PrintWords Go.Proofs.Ytembbpalgfikiaa.Lib
set_option linter.unusedVariables false
def Jq (cls : List Int) (c : Int) : Nat → Nat → List (List Int)
  | 0, _ => []
  | d + 1, i => (if rd cls (i : Int) = c then [[((i / 4 : Nat) : Int), ((i % 4 : Nat) : Int)]] else []) ++ Jq cls c d (i + 1)
theorem zBA (cls : List Int) (c : Int) : ∀ d i : Nat, (Jq cls c d i).length ≤ d
  | 0, _ => yqy _
  | d + 1, i => by
    have := zBA cls c d (i + 1)
    rw [Jq, List.length_append]
    split <;> simp <;> omega
theorem zCB (cls : List Int) (c : Int) : ∀ (d i : Nat) (x : List Int), x ∈ Jq cls c d i → ∃ k : Nat, i ≤ k ∧ k < i + d ∧ x = [((k / 4 : Nat) : Int), ((k % 4 : Nat) : Int)] ∧ rd cls (k : Int) = c
  | 0, i, x, h => by cases h
  | d + 1, i, x, h => by
    rw [Jq] at h
    rcases List.mem_append.1 h with h | h
    · split at h
      · rename_i e
        have : x = [((i / 4 : Nat) : Int), ((i % 4 : Nat) : Int)] := by simpa using h
        exact ⟨i, yqy _, by omega, this, e⟩
      · cases h
    · obtain ⟨k, h1, h2, h3⟩ := zCB cls c d (i + 1) x h
      exact ⟨k, by omega, by omega, h3⟩
section
variable {t : Tri}
def zAZ (t : Tri) (c : Int) : Int := if ZX t = true then (if 0 ≤ c ∧ c ≤ zCl t - 1 then 0 else 2) else 1
theorem zDl (hs : Small t) (c : Int) : Ev (fun k => Zf.f k t c) (zAZ t c) := by
  refine Ev.bind (zC4 hs) ?_
  unfold zAZ
  cases h : ZX t with
  | false => exact QD (by simp) (Ev.now _)
  | true =>
    have hb := zF5 h
    refine ZD rfl (Ev.bind (Qg (zBc h)) (Ev.bind (Qg (zCA h)) (Ev.bind (Qg (zAW _ _ _)) ?_)))
    rw [qo (by omega) (by omega), if_pos rfl]
    by_cases hc : 0 ≤ c ∧ c ≤ zCl t - 1
    · rw [if_pos hc]
      exact ZD (by rw [ygy hc.1, ygy hc.2]; rfl) (Ev.now _)
    · rw [if_neg hc]
      refine QD ?_ (Ev.now _)
      rw [Bool.and_eq_true, decide_eq_true_eq, decide_eq_true_eq]
      exact hc
theorem zGa (h : ZX t = true) {a x : Nat} (ha : a < t.length) (hx : x < 4) : rd (qj (QN 4 t.length (Zt t)) (a : Int)) (x : Int) = rd (Zt t) ((4 * a + x : Nat) : Int) ∧ (qj (QN 4 t.length (Zt t)) (a : Int)).length = 4 := by
  have hl := zA9 h
  have hg := zBa 4 t.length (Zt t) a ha
  have e : qj (QN 4 t.length (Zt t)) (a : Int) = ((Zt t).drop (4 * a)).take 4 := by
    simp [qj, List.getD_eq_getElem?_getD, hg]
  rw [e]
  refine ⟨?_, by rw [ymy, yly]; omega⟩
  rw [Qx, Qx]
  simp only [List.getD_eq_getElem?_getD]
  rw [List.getElem?_take, if_pos hx, List.getElem?_drop]
end
section
variable {t : Tri}
theorem zGb (h : ZX t = true) (c : Int) : ∀ x ∈ Jq (Zt t) c (4 * t.length) 0, x.length = 2 ∧ 0 ≤ rd x 0 ∧ rd x 0 < (t.length : Int) ∧ 0 ≤ rd x 1 ∧ rd x 1 ≤ 3 := by
  intro x hx
  obtain ⟨k, h0, h1, e, _⟩ := zCB _ _ _ _ _ hx
  have e0 : rd [((k / 4 : Nat) : Int), ((k % 4 : Nat) : Int)] 0 = ((k / 4 : Nat) : Int) := rfl
  have e1 : rd [((k / 4 : Nat) : Int), ((k % 4 : Nat) : Int)] 1 = ((k % 4 : Nat) : Int) := rfl
  rw [e, e0, e1]
  exact ⟨rfl, by omega, by omega, by omega, by omega⟩
theorem zF6 (h : ZX t = true) (c : Int) : zGT t (Jq (Zt t) c (4 * t.length) 0) = true := by
  obtain ⟨h8, h4, _⟩ := qw h
  unfold zGT
  simp only [Bool.and_eq_true, decide_eq_true_eq, List.all_eq_true]
  refine ⟨⟨h8, by have := zBA (Zt t) c (4 * t.length) 0; omega⟩, fun r hr => ⟨h4 r hr, fun x hx => ?_⟩, fun x hx => ?_⟩
  · unfold zDf
    simp only [Bool.or_eq_true, Bool.and_eq_true, decide_eq_true_eq]
    obtain ⟨a, ha, rfl⟩ := List.getElem_of_mem hr
    obtain ⟨f, hf, rfl⟩ := List.getElem_of_mem hx
    have := Jo h (a := (a : Int)) (f := (f : Int)) (by omega) (by omega) (by omega) (by rw [h4 _ (List.getElem_mem ha)] at hf; omega)
    have e : fc t (a : Int) (f : Int) = t[a][f] := by unfold fc; rw [Qd t a ha, zAX _ f hf]
    rw [e] at this
    rcases this with ⟨e1, _⟩ | ⟨⟨g0, g1, g2, g3⟩, _⟩
    · left; omega
    · right; exact ⟨g0, g1, g2, g3⟩
  · have := zGb h c x hx
    unfold zAh
    simp only [Bool.and_eq_true, decide_eq_true_eq]
    exact ⟨this.1, ⟨this.2.1, this.2.2.1⟩, this.2.2.2.1, this.2.2.2.2⟩
theorem zGc : ∃ k0 : Nat, ∀ k, k0 ≤ k → zGi k = true := by
  have h : ∀ (m : Fin 24) (f : Fin 4), ∃ k0 : Nat, ∀ k, k0 ≤ k → qh.f k (m.val : Int) (f.val : Int) = some (rd (qi (m.val : Int)) (f.val : Int)) := fun m f => Jw (by omega) (by omega) (by omega) (by omega)
  have h2 : ∀ m : Fin 24, ∃ k0 : Nat, ∀ k, k0 ≤ k → ∀ f : Fin 4, qh.f k (m.val : Int) (f.val : Int) = some (rd (qi (m.val : Int)) (f.val : Int)) := fun m => by
    obtain ⟨k0, h0⟩ := h m 0
    obtain ⟨k1, h1⟩ := h m 1
    obtain ⟨k2, h2⟩ := h m 2
    obtain ⟨k3, h3⟩ := h m 3
    refine ⟨k0 + k1 + k2 + k3, fun k hk f => ?_⟩
    match f with
    | 0 => exact h0 k (by omega)
    | 1 => exact h1 k (by omega)
    | 2 => exact h2 k (by omega)
    | 3 => exact h3 k (by omega)
  have h3 : ∀ n : Nat, n ≤ 24 → ∃ k0 : Nat, ∀ k, k0 ≤ k → ∀ m : Fin 24, m.val < n → ∀ f : Fin 4, qh.f k (m.val : Int) (f.val : Int) = some (rd (qi (m.val : Int)) (f.val : Int)) := fun n => by
    induction n with
    | zero => exact fun _ => ⟨0, fun k _ m hm => absurd hm (by omega)⟩
    | succ n ih =>
      intro hn
      obtain ⟨k0, h0⟩ := ih (by omega)
      obtain ⟨k1, h1⟩ := h2 ⟨n, by omega⟩
      refine ⟨k0 + k1, fun k hk m hm f => ?_⟩
      by_cases e : m.val = n
      · have em : m = ⟨n, by omega⟩ := Fin.ext e
        rw [em]
        exact h1 k (by omega) f
      · exact h0 k (by omega) m (by omega) f
  obtain ⟨k0, h0⟩ := h3 24 (yqy _)
  refine ⟨k0, fun k hk => ?_⟩
  unfold zGi
  rw [decide_eq_true_eq]
  exact fun m f => h0 k hk m m.isLt f
end
end Go.Proofs.Ytembbpalgfikiaa.P
namespace Go.Proofs.Ytembbpalgfikiaa.P
open Go.RowKit Go.Proofs.YtembbpalgfikiaaW.PrintWords Go.Proofs.YtembbpalgfikiaaW.PrintLast Go.Proofs.YtembbpalgfikiaaW.PrintMore
attribute [local go_sem] Qj Qk JQ JR QX QY Ql Qm
set_option linter.unusedVariables false
set_option linter.unusedSimpArgs false
def leP (b to_ : Int) (p : List Int) : List Int → List Int → List Int
  | [], x => x
  | w :: ws, x => leP b to_ p ws (Lib.uni x (b + w) (to_ + rd p w))
section
variable {w0 W W1 : World} {gt : Nat} {cT : Array Value} {gp gs m2 n : Nat} {vP vS : Value} {s : List Int × List Int}
end
section
variable {w0 W W1 : World} {m2 gF gI gO cO : Nat} {f0 f1 x0 x1 x2 x3 : Int} {L : List Int}
end
end Go.Proofs.Ytembbpalgfikiaa.P
namespace Go.Proofs.Ytembbpalgfikiaa.P
open Go.RowKit Go.Proofs.YtembbpalgfikiaaW.PrintWords Go.Proofs.Ytembbpalgfikiaa.Lib
set_option linter.unusedVariables false
def In (s : List Int) (x : Int) : Prop := 0 ≤ x ∧ x < (s.length : Int)
theorem zF7 (s : List Int) (i k : Int) {x y : Int} (hx : In s x) (hy : In s y) : rd (uni s i k) x = rd (uni s i k) y ↔ (rd s x = rd s y ∨ ((rd s x = rd s i ∨ rd s x = rd s k) ∧ (rd s y = rd s i ∨ rd s y = rd s k))) := by
  have h1 := hx.1
  have h2 := hx.2
  have h3 := hy.1
  have h4 := hy.2
  exact zDW s i k x.toNat y.toNat (by omega) (by omega)
def Snd {α : Type} (g : Int → α) (s : List Int) : Prop := ∀ x y, In s x → In s y → rd s x = rd s y → g x = g y
section
variable {α : Type} {g : Int → α} {s : List Int} {i k : Int}
theorem snd_of {s2 : List Int} (hl : s2.length = s.length) (hrd : ∀ x y, In s x → In s y → (rd s2 x = rd s2 y ↔ (rd s x = rd s y ∨ ((rd s x = rd s i ∨ rd s x = rd s k) ∧ (rd s y = rd s i ∨ rd s y = rd s k))))) (h : Snd g s) (hi : In s i) (hk : In s k) (e : g i = g k) : Snd g s2 := by
  intro x y hx hy hxy
  have hx' : In s x := ⟨hx.1, by have := hx.2; rw [hl] at this; exact this⟩
  have hy' : In s y := ⟨hy.1, by have := hy.2; rw [hl] at this; exact this⟩
  rcases (hrd x y hx' hy').1 hxy with h1 | ⟨h1, h2⟩
  · exact h x y hx' hy' h1
  · have a : g x = g i := by
      rcases h1 with h1 | h1
      · exact h x i hx' hi h1
      · exact (h x k hx' hk h1).trans e.symm
    have b : g y = g i := by
      rcases h2 with h2 | h2
      · exact h y i hy' hi h2
      · exact (h y k hy' hk h2).trans e.symm
    exact a.trans b.symm
theorem zGd (h : Snd g s) (hi : In s i) (hk : In s k) (e : g i = g k) : Snd g (uni s i k) := snd_of (Qb s i k) (fun x y hx hy => zF7 s i k hx hy) h hi hk e
theorem zDm {x y : Int} (hx : In s x) (hy : In s y) (h : rd s x = rd s y) : rd (uni s i k) x = rd (uni s i k) y := (zF7 s i k hx hy).2 (.inl h)
theorem zGe (hi : In s i) (hk : In s k) : rd (uni s i k) i = rd (uni s i k) k := (zF7 s i k hi hk).2 (.inr ⟨.inl rfl, .inr rfl⟩)
theorem zA4 {x : Int} (h : In s x) : In (uni s i k) x := ⟨h.1, by rw [Qb]; exact h.2⟩
theorem snd_up (n : Nat) : Snd g (ZU 0 n) := by
  intro x y hx hy h
  have e : ∀ z, In (ZU 0 n) z → rd (ZU 0 n) z = z := fun z hz => by
    have h1 := hz.1
    have h2 := hz.2
    rw [Za] at h2
    obtain ⟨m, rfl⟩ := Int.eq_ofNat_of_zero_le h1
    rw [Qx, zBR 0 n m (by omega)]
    omega
  rw [e x hx, e y hy] at h
  rw [h]
end
section
variable {α : Type} {g : Int → α}
theorem zFk {b to_ : Int} {p : List Int} {u v : Int} : ∀ (L x : List Int), In x u → In x v → rd x u = rd x v → rd (leP b to_ p L x) u = rd (leP b to_ p L x) v
  | [], x, _, _, h => h
  | w :: ws, x, hu, hv, h => zFk ws _ (zA4 hu) (zA4 hv) (zDm hu hv h)
theorem Jr {j b : Int} {p : List Int} {x y : Int} : ∀ (L s : List Int), In s x → In s y → rd s x = rd s y → rd (QE j b p L s) x = rd (QE j b p L s) y
  | [], s, _, _, h => h
  | v :: vs, s, hx, hy, h => Jr vs _ (zA4 hx) (zA4 hy) (zDm hx hy h)
theorem zBB {j b : Int} {p : List Int} {v : Int} : ∀ (L s : List Int), v ∈ L → (∀ u ∈ L, In s (4 * j + u) ∧ In s (4 * b + rd p u)) → rd (QE j b p L s) (4 * j + v) = rd (QE j b p L s) (4 * b + rd p v)
  | [], s, h, _ => by cases h
  | u :: us, s, h, hL => by
    obtain ⟨a1, a2⟩ := hL u (List.mem_cons_self ..)
    rcases List.mem_cons.1 h with rfl | h
    · exact Jr us _ (zA4 a1) (zA4 a2) (zGe a1 a2)
    · exact zBB us _ h (fun z hz => by
        obtain ⟨b1, b2⟩ := hL z (List.mem_cons_of_mem _ hz)
        exact ⟨zA4 b1, zA4 b2⟩)
end
section
variable {t : Tri} {σ : Type} {step : σ → Nat → Nat → qA → σ} {I Q : σ → Prop}
theorem zCC (hI : ∀ a j f x, QK t j f x → ¬ x.f0 < 0 → I a → I (step a j f x)) (hQ : ∀ a j f x, QK t j f x → ¬ x.f0 < 0 → I a → Q a → Q (step a j f x)) (j : Nat) (hj : j < t.length) :
    ∀ (d f : Nat) (a : σ), f + d = t[j].length → I a → I (zD5 step j (t[j].drop f) f a) ∧ ((Q a ∨ ∃ f0 x0, f ≤ f0 ∧ QK t j f0 x0 ∧ ¬ x0.f0 < 0 ∧ ∀ a, I a → Q (step a j f0 x0)) → Q (zD5 step j (t[j].drop f) f a))
  | 0, f, a, hf, hr => by
    rw [List.drop_eq_nil_of_le (by omega)]
    refine ⟨hr, fun h => ?_⟩
    rcases h with h | ⟨f0, x0, h1, ⟨h2, h3, _⟩, _⟩
    · exact h
    · omega
  | d + 1, f, a, hf, hr => by
    have hlt : f < t[j].length := by omega
    rw [yoy hlt, zD5]
    by_cases hb : t[j][f].f0 < 0
    · rw [if_pos hb]
      obtain ⟨a1, a2⟩ := zCC hI hQ j hj d (f + 1) a (by omega) hr
      refine ⟨a1, fun h => a2 ?_⟩
      rcases h with h | ⟨f0, x0, h1, h2, h3, h4⟩
      · exact .inl h
      · refine .inr ⟨f0, x0, ?_, h2, h3, h4⟩
        by_cases e : f0 = f
        · subst e
          obtain ⟨_, _, e2⟩ := h2
          rw [e2] at hb
          exact absurd hb h3
        · omega
    · rw [if_neg hb]
      have hF : QK t j f t[j][f] := ⟨hj, hlt, rfl⟩
      obtain ⟨a1, a2⟩ := zCC hI hQ j hj d (f + 1) (step a j f t[j][f]) (by omega) (hI _ _ _ _ hF hb hr)
      refine ⟨a1, fun h => a2 ?_⟩
      rcases h with h | ⟨f0, x0, h1, h2, h3, h4⟩
      · exact .inl (hQ _ _ _ _ hF hb hr h)
      · by_cases e : f0 = f
        · subst e
          obtain ⟨_, _, e2⟩ := h2
          rw [e2]
          exact .inl (h4 a hr)
        · exact .inr ⟨f0, x0, by omega, h2, h3, h4⟩
theorem zCD (hI : ∀ a j f x, QK t j f x → ¬ x.f0 < 0 → I a → I (step a j f x)) (hQ : ∀ a j f x, QK t j f x → ¬ x.f0 < 0 → I a → Q a → Q (step a j f x)) :
    ∀ (d j : Nat) (a : σ), j + d = t.length → I a → I (zAk step (t.drop j) j a) ∧ ((Q a ∨ ∃ j0 f0 x0, j ≤ j0 ∧ QK t j0 f0 x0 ∧ ¬ x0.f0 < 0 ∧ ∀ a, I a → Q (step a j0 f0 x0)) → Q (zAk step (t.drop j) j a))
  | 0, j, a, hj, hr => by
    rw [List.drop_eq_nil_of_le (by omega)]
    refine ⟨hr, fun h => ?_⟩
    rcases h with h | ⟨j0, f0, x0, h1, ⟨h2, _, _⟩, _⟩
    · exact h
    · omega
  | d + 1, j, a, hj, hr => by
    have hlt : j < t.length := by omega
    rw [yoy hlt, zAk]
    have hg := zCC hI hQ j hlt t[j].length 0 a (by omega) hr
    rw [List.drop_zero] at hg
    obtain ⟨a1, a2⟩ := zCD hI hQ d (j + 1) _ (by omega) hg.1
    refine ⟨a1, fun h => a2 ?_⟩
    rcases h with h | ⟨j0, f0, x0, h1, h2, h3, h4⟩
    · exact .inl (hg.2 (.inl h))
    · by_cases e : j0 = j
      · subst e
        exact .inl (hg.2 (.inr ⟨f0, x0, Nat.zero_le _, h2, h3, h4⟩))
      · exact .inr ⟨j0, f0, x0, by omega, h2, h3, h4⟩
theorem zFl {a : σ} (hI : ∀ a j f x, QK t j f x → ¬ x.f0 < 0 → I a → I (step a j f x)) (ha : I a) : I (zAk step t 0 a) := by
  have := (zCD (Q := fun _ => True) hI (fun _ _ _ _ _ _ _ _ => trivial) t.length 0 a (by omega) ha).1
  rwa [List.drop_zero] at this
theorem zFm {a : σ} (hI : ∀ a j f x, QK t j f x → ¬ x.f0 < 0 → I a → I (step a j f x)) (hQ : ∀ a j f x, QK t j f x → ¬ x.f0 < 0 → I a → Q a → Q (step a j f x)) (ha : I a) {j f : Nat} {x : qA} (hF : QK t j f x) (hb : ¬ x.f0 < 0) (h : ∀ a, I a → Q (step a j f x)) : Q (zAk step t 0 a) := by
  have := (zCD hI hQ t.length 0 a (by omega) ha).2 (.inr ⟨j, f, x, Nat.zero_le _, hF, hb, h⟩)
  rwa [List.drop_zero] at this
end
theorem zDn (cls : List Int) (c : Int) : ∀ (d i k : Nat), i ≤ k → k < i + d → rd cls (k : Int) = c → 0 < (Jq cls c d i).length
  | 0, i, k, h1, h2, _ => by omega
  | d + 1, i, k, h1, h2, h3 => by
    rw [Jq, List.length_append]
    by_cases e : i = k
    · subst e
      rw [if_pos h3]; simp; omega
    · have := zDn cls c d (i + 1) k (by omega) (by omega) h3
      omega
theorem zCE (m : List Int) : ∀ (i c : Nat), c < (roots m i).length → ∃ j : Nat, j < i ∧ m.getD j 0 = j ∧ (roots m j).length = c
  | 0, c, h => by simp [roots] at h
  | i + 1, c, h => by
    rw [roots] at h
    by_cases e : m.getD i 0 = (i : Int)
    · rw [if_pos e, List.length_append, List.length_singleton] at h
      by_cases hc : c < (roots m i).length
      · obtain ⟨j, h1, h2⟩ := zCE m i c hc
        exact ⟨j, by omega, h2⟩
      · exact ⟨i, by omega, e, by omega⟩
    · rw [if_neg e] at h
      obtain ⟨j, h1, h2⟩ := zCE m i c h
      exact ⟨j, by omega, h2⟩
section
variable {t : Tri}
theorem zAq (h : ZX t = true) {k : Nat} (hk : k < 4 * t.length) : ∃ j : Nat, (Jf t).v.getD k 0 = (j : Int) ∧ j ≤ k ∧ (Jf t).v.getD j 0 = (j : Int) ∧ rd (Zt t) (k : Int) = ((roots (Jf t).v j).length : Int) := by
  obtain ⟨⟨o1, _⟩, hw, _⟩ := JI h
  obtain ⟨q0, q1, q2⟩ := hw k (by omega)
  obtain ⟨j, hj⟩ := Int.eq_ofNat_of_zero_le q0
  rw [hj] at q1 q2
  rw [yny] at q2
  refine ⟨j, hj, by omega, q2, ?_⟩
  have hlt : k < (Jf t).v.length := by omega
  have e : rd (Zt t) (k : Int) = zEA (Jf t).v ((Jf t).v.getD k 0) := by
    unfold Zt
    rw [zAp hw, Qx]
    simp [List.getD_eq_getElem?_getD, hlt]
  rw [e, hj]
  unfold zEA
  rw [yny]
theorem zGf (h : ZX t = true) {k : Nat} (hk : k < 4 * t.length) : 0 ≤ rd (Zt t) (k : Int) ∧ rd (Zt t) (k : Int) ≤ zCl t - 1 := by
  have o1 := (JI h).1.1
  obtain ⟨j, h1, h2, h3, h4⟩ := zAq h hk
  have k1 := zAY (Jf t).v (j + 1) ((Jf t).v.length - (j + 1))
  rw [show j + 1 + ((Jf t).v.length - (j + 1)) = (Jf t).v.length by omega, roots, if_pos h3, List.length_append, List.length_singleton] at k1
  unfold zCl
  omega
theorem zFn (h : ZX t = true) {c : Int} (h0 : 0 ≤ c) (h1 : c ≤ zCl t - 1) : ∃ k : Nat, k < 4 * t.length ∧ rd (Zt t) (k : Int) = c := by
  have o1 := (JI h).1.1
  obtain ⟨n, rfl⟩ := Int.eq_ofNat_of_zero_le h0
  unfold zCl at h1
  obtain ⟨j, h2, h3, h4⟩ := zCE (Jf t).v (Jf t).v.length n (by omega)
  refine ⟨j, by omega, ?_⟩
  obtain ⟨i, k1, k2, k3, k4⟩ := zAq h (k := j) (by omega)
  have e : i = j := by
    have : ((i : Nat) : Int) = (j : Int) := k1.symm.trans h3
    omega
  subst e
  rw [k4, h4]
theorem zCn (h : ZX t = true) (c : Int) : (Jq (Zt t) c (4 * t.length) 0).length = 0 ↔ ¬ (0 ≤ c ∧ c ≤ zCl t - 1) := by
  constructor
  · rintro h0 ⟨h1, h2⟩
    obtain ⟨k, h3, h4⟩ := zFn h h1 h2
    have := zDn (Zt t) c (4 * t.length) 0 k (by omega) (by omega) h4
    omega
  · intro hn
    cases hc : Jq (Zt t) c (4 * t.length) 0 with
    | nil => rfl
    | cons x xs =>
      exfalso
      obtain ⟨k, _, h2, _, h4⟩ := zCB (Zt t) c (4 * t.length) 0 x (by rw [hc]; exact List.mem_cons_self ..)
      have := zGf h (k := k) (by omega)
      rw [h4] at this
      exact hn this
end
theorem zDo (cls : List Int) (c : Int) (e : Nat) : ∀ (d i : Nat), Jq cls c (d + e) i = Jq cls c d i ++ Jq cls c e (i + d)
  | 0, i => by rw [Nat.zero_add, Jq, Nat.add_zero]; rfl
  | d + 1, i => by
    have h := zDo cls c e d (i + 1)
    rw [Nat.succ_add, Jq, Jq, h, List.append_assoc]
    congr 3
    omega
section
variable {t : Tri}
theorem Js (h : ZX t = true) (c : Int) (B C : List (List Int)) {r : List (List Int)} {a : Nat} (ha : a < t.length) : ∀ (d x : Nat) (acc : List (List Int)), x + d = 4 → acc.length ≤ 4 * a + x →
    (∀ acc' : List (List Int), acc'.length ≤ 4 * (a + 1) → acc' = acc ++ Jq (Zt t) c d (4 * a + x) → Ev (fun k => zl.l0 k c acc' ((a + 1 : Nat) : Int) (QN 4 t.length (Zt t)) B C) r) →
    Ev (fun k => zl.l1 k c acc (a : Int) (x : Int) (QN 4 t.length (Zt t)) B C) r
  | 0, x, acc, hx, hv, hr => by
    have h8 := (qw h).1
    refine qU (fun k => by rw [zl.l1, if_neg (by omega), Ze (by omega)]) ?_
    exact hr acc (by omega) (by rw [Jq, List.append_nil])
  | d + 1, x, acc, hx, hv, hr => by
    have h8 := (qw h).1
    obtain ⟨e1, e2⟩ := zGa h ha (x := x) (by omega)
    have hcl := Qo 4 t.length (Zt t)
    rw [Jq] at hr
    have ed : (4 * a + x) / 4 = a := by omega
    have em : (4 * a + x) % 4 = x := by omega
    rw [ed, em] at hr
    clear ed em
    by_cases e : rd (Zt t) ((4 * a + x : Nat) : Int) = c
    · rw [if_pos e] at hr
      refine qU (fun k => by rw [zl.l1, if_pos (by omega), if_pos (by omega), if_pos (by omega), if_pos (by omega), if_pos (by omega), e1, if_pos e, if_pos (by omega), Ze (by omega)]) ?_
      refine Js h c B C ha d (x + 1) _ (by omega) (by simp; omega) (fun acc' h1 h2 => hr acc' h1 ?_)
      rw [h2, List.append_assoc]; rfl
    · rw [if_neg e, List.nil_append] at hr
      refine qU (fun k => by rw [zl.l1, if_pos (by omega), if_pos (by omega), if_pos (by omega), if_pos (by omega), if_pos (by omega), e1, if_neg e, Ze (by omega)]) ?_
      exact Js h c B C ha d (x + 1) acc (by omega) (by omega) hr
theorem zAj (h : ZX t = true) (c : Int) (B C : List (List Int)) : ∀ (d a : Nat) (acc : List (List Int)), a + d = t.length → acc.length ≤ 4 * a → Ev (fun k => zl.l0 k c acc (a : Int) (QN 4 t.length (Zt t)) B C) (acc ++ Jq (Zt t) c (4 * d) (4 * a))
  | 0, a, acc, ha, hv => by
    have hcl := Qo 4 t.length (Zt t)
    refine qU (fun k => by rw [zl.l0, if_neg (by omega)]) ?_
    rw [Jq, List.append_nil]; exact Ev.now _
  | d + 1, a, acc, ha, hv => by
    have hcl := Qo 4 t.length (Zt t)
    refine qU (fun k => by rw [zl.l0, if_pos (by omega)]) ?_
    refine Js h c B C (by omega) 4 0 acc (by omega) (by omega) (fun acc' h1 h2 => ?_)
    have := zAj h c B C d (a + 1) acc' (by omega) h1
    have e4 : 4 * (d + 1) = 4 + 4 * d := by omega
    rw [e4, zDo, ← List.append_assoc]
    rw [h2] at this ⊢
    exact this
theorem zCo (h : ZX t = true) (c : Int) : Ev (fun k => zl.f k t c) (Jq (Zt t) c (4 * t.length) 0) := by
  refine Ev.bind (zC9 h) ?_
  have := zAj h c (QN 6 t.length (zBt (Jf t).e)) (QN 4 t.length (zBt (Jf t).f)) t.length 0 [] (by omega) (by simp)
  rw [List.nil_append] at this
  exact this
def zED (t : Tri) (c : Int) : List (List Int) × Int := if zAZ t c = 0 then (Jq (Zt t) c (4 * t.length) 0, 0) else ([], zAZ t c)
theorem zEE {c : Int} (h : zAZ t c = 0) : ZX t = true ∧ 0 ≤ c ∧ c ≤ zCl t - 1 := by
  unfold zAZ at h
  cases ht : ZX t with
  | false => rw [ht] at h; simp at h
  | true =>
    rw [ht, if_pos rfl] at h
    by_cases hc : 0 ≤ c ∧ c ≤ zCl t - 1
    · exact ⟨rfl, hc⟩
    · rw [if_neg hc] at h; simp at h
theorem zAN (t : Tri) (c : Int) : Ev (fun k => ZW.f k t c) (zED t c) := by
  refine Ev.bind (zC5 t) ?_
  by_cases ht : ZX t = true
  · have hn := zCn ht c
    refine ZD ht (Ev.bind (zCo ht c) ?_)
    by_cases hc : 0 ≤ c ∧ c ≤ zCl t - 1
    · have hv : zAZ t c = 0 := by unfold zAZ; rw [if_pos ht, if_pos hc]
      have hp : ¬ (Jq (Zt t) c (4 * t.length) 0).length = 0 := fun e => hn.1 e hc
      unfold zED
      rw [if_pos hv]
      exact QD (fun e => hp (by omega)) (Ev.now _)
    · have hv : zAZ t c = 2 := by unfold zAZ; rw [if_pos ht, if_neg hc]
      have hp := hn.2 hc
      unfold zED
      rw [hv, if_neg (show ¬ (2 : Int) = 0 by decide)]
      exact ZD (by omega) (Ev.now _)
  · have hv : zAZ t c = 1 := by unfold zAZ; rw [if_neg ht]
    unfold zED
    rw [hv, if_neg (show ¬ (1 : Int) = 0 by decide)]
    exact QD ht (Ev.now _)
end
section
variable {t : Tri}
theorem zFo {f v : Int} (hv : sm v) (hne : v ≠ f) : v ∈ zB6 [f] := by
  have : v ∈ [0, 1, 2, 3] := by have := hv.1; have := hv.2; simp only [List.mem_cons, List.not_mem_nil, or_false]; omega
  exact List.mem_filter.2 ⟨this, by simpa using hne⟩
theorem zEF (h : ZX t = true) {j f : Nat} {x : qA} (hF : QK t j f x) (hb : ¬ x.f0 < 0) {v : Int} (hv : sm v) (hvf : v ≠ (f : Int)) : rd (Zt t) (4 * (j : Int) + v) = rd (Zt t) (4 * x.f0 + rd (qi x.f1) v) := by
  obtain ⟨a1, a2, a3, a4, a5, a6⟩ := zA8 h hF hb
  have p1 := Zk a5 a6 hv.1 hv.2
  have hv0 := hv.1
  have hv1 := hv.2
  have hlen : ∀ a : List Int, a.length = 4 * t.length → ∀ u, sm u → In a (4 * (j : Int) + u) ∧ In a (4 * x.f0 + rd (qi x.f1) u) := fun a ha u hu => by
    have q := Zk a5 a6 hu.1 hu.2
    have h0 := hu.1
    have h1 := hu.2
    unfold In; rw [ha]
    exact ⟨⟨by omega, by omega⟩, by omega, by omega⟩
  have hm : rd (JV t) (4 * (j : Int) + v) = rd (JV t) (4 * x.f0 + rd (qi x.f1) v) := by
    refine zFm (t := t) (step := Jd) (I := fun s => s.length = 4 * t.length) (Q := fun s => rd s (4 * (j : Int) + v) = rd s (4 * x.f0 + rd (qi x.f1) v)) (fun a j f x _ _ hI => by unfold Jd; rw [Qh]; exact hI) (fun a j2 f2 x2 _ _ hI hq => ?_) (Za _ _) hF hb (fun a hI => ?_)
    · exact Jr _ _ (hlen a hI v hv).1 (hlen a hI v hv).2 hq
    · exact zBB _ _ (zFo hv hvf) (fun u hu => hlen a hI u (zAV hu).1)
  obtain ⟨hk, hkl, _⟩ := zF4 h
  obtain ⟨x1, hx1⟩ := Int.eq_ofNat_of_zero_le (show 0 ≤ 4 * (j : Int) + v by omega)
  obtain ⟨x2, hx2⟩ := Int.eq_ofNat_of_zero_le (show 0 ≤ 4 * x.f0 + rd (qi x.f1) v by omega)
  rw [hx1, hx2] at hm ⊢
  rw [Qx, Qx] at hm
  have hb1 : x1 < (JV t).length := by omega
  have hb2 : x2 < (JV t).length := by omega
  have hs := (hk.2 x1 x2 hb1 hb2).1 hm
  have hl2 : (Jf t).v.length = (JV t).length := hk.1.symm
  unfold Zt
  rw [zAp (JI h).2.1, Qx, Qx, JT (zEA (Jf t).v) (Jf t).v x1 0 0 (by omega), JT (zEA (Jf t).v) (Jf t).v x2 0 0 (by omega), hs]
end
section
variable {α : Type} {g : Int → α}
end
section
variable {t : Tri} {α : Type} {g : Int → α}
theorem zF8 (h : ZX t = true) {j f : Nat} (hj : j < t.length) (hf : f < 4) : QK t j f (zI (zE t (j : Int)) (f : Int)) := by
  obtain ⟨hf', e⟩ := zC8 h hj hf
  exact ⟨hj, hf', e.symm⟩
end
theorem zFp {m : List Int} {i j : Nat} (hi : m.getD i 0 = i) (hj : m.getD j 0 = j) (e : (roots m i).length = (roots m j).length) : i = j := by
  have key : ∀ {i j : Nat}, m.getD i 0 = i → m.getD j 0 = j → i < j → (roots m i).length < (roots m j).length := fun {i j} hi hj hlt => by
    obtain ⟨hm, hx⟩ := zAM m i hi j hlt
    have := List.idxOf_lt_length_of_mem hm
    omega
  rcases Nat.lt_trichotomy i j with h | h | h
  · have := key hi hj h; omega
  · exact h
  · have := key hj hi h; omega
theorem zBC {α : Type} {g : Int → α} {j b : Int} {p : List Int} : ∀ (L s : List Int), (∀ u ∈ L, In s (4 * j + u) ∧ In s (4 * b + rd p u) ∧ g (4 * j + u) = g (4 * b + rd p u)) → Snd g s → Snd g (QE j b p L s)
  | [], _, _, h => h
  | u :: us, s, hL, h => by
    obtain ⟨a1, a2, a3⟩ := hL u (List.mem_cons_self ..)
    exact zBC us _ (fun v hv => by
      obtain ⟨b1, b2, b3⟩ := hL v (List.mem_cons_of_mem _ hv)
      exact ⟨zA4 b1, zA4 b2, b3⟩) (zGd h a1 a2 a3)
section
variable {t : Tri}
theorem zF9 (h : ZX t = true) {g : Int → Bool} (hg : ∀ (j f : Nat) (x : qA), QK t j f x → ¬ x.f0 < 0 → ∀ v, sm v → v ≠ (f : Int) → g (4 * (j : Int) + v) = g (4 * x.f0 + rd (qi x.f1) v))
    {x y : Nat} (hx : x < 4 * t.length) (hy : y < 4 * t.length) (e : rd (Zt t) (x : Int) = rd (Zt t) (y : Int)) : g (x : Int) = g (y : Int) := by
  have hs : (JV t).length = 4 * t.length ∧ Snd g (JV t) := by
    refine zFl (t := t) (step := Jd) (I := fun s => s.length = 4 * t.length ∧ Snd g s) (fun s j f x hF hb hI => ?_) ⟨Za _ _, snd_up _⟩
    obtain ⟨a1, a2, a3, a4, a5, a6⟩ := zA8 h hF hb
    refine ⟨by unfold Jd; rw [Qh]; exact hI.1, ?_⟩
    refine zBC _ _ (fun u hu => ?_) hI.2
    obtain ⟨hsm, hne⟩ := zAV hu
    have p1 := Zk a5 a6 hsm.1 hsm.2
    have h0 := hsm.1
    have h1 := hsm.2
    unfold In; rw [hI.1]
    exact ⟨⟨by omega, by omega⟩, ⟨by omega, by omega⟩, hg j f x hF hb u hsm (by simpa using hne)⟩
  obtain ⟨hk, hkl, _⟩ := zF4 h
  obtain ⟨jx, x1, x2, x3, x4⟩ := zAq h hx
  obtain ⟨jy, y1, y2, y3, y4⟩ := zAq h hy
  rw [x4, y4] at e
  have ej := zFp x3 y3 (by omega)
  have e2 := (hk.2 x y (by omega) (by omega)).2 (by rw [x1, y1, ej])
  refine hs.2 (x : Int) (y : Int) ⟨by omega, by omega⟩ ⟨by omega, by omega⟩ ?_
  rw [Qx, Qx]; exact e2
def nb (t : Tri) (x f : Int) : Int := 4 * (fc t (x / 4) f).f0 + rd (qi (fc t (x / 4) f).f1) (x % 4)
def crn (x : Int) : List Int := [x / 4, x % 4]
theorem zFq (h : ZX t = true) {x f : Int} (hx0 : 0 ≤ x) (hx1 : x < ((4 * t.length : Nat) : Int)) (hf0 : 0 ≤ f) (hf1 : f ≤ 3) (hne : f ≠ x % 4) (hb : ¬ (fc t (x / 4) f).f0 < 0) :
    0 ≤ nb t x f ∧ nb t x f < ((4 * t.length : Nat) : Int) ∧ rd (Zt t) (nb t x f) = rd (Zt t) x ∧ crn (nb t x f) = [(fc t (x / 4) f).f0, rd (qi (fc t (x / 4) f).f1) (x % 4)] ∧ 0 ≤ (fc t (x / 4) f).f1 ∧ (fc t (x / 4) f).f1 ≤ 23 := by
  obtain ⟨⟨g0, g1⟩, p0, p1⟩ := zDj h (show 0 ≤ x / 4 by omega) (by omega) hf0 hf1 hb
  have q := Zk p0 p1 (show 0 ≤ x % 4 by omega) (by omega)
  obtain ⟨j, hj⟩ := Int.eq_ofNat_of_zero_le (show 0 ≤ x / 4 by omega)
  obtain ⟨f', rfl⟩ := Int.eq_ofNat_of_zero_le hf0
  have hF := zF8 h (j := j) (f := f') (by omega) (by omega)
  have hgl := zEF h hF (by rw [← hj]; exact hb) (v := x % 4) ⟨by omega, by omega⟩ (fun e => hne e.symm)
  rw [← hj] at hgl
  have ex : 4 * (x / 4) + x % 4 = x := by omega
  rw [ex] at hgl
  refine ⟨?_, ?_, hgl.symm, ?_, p0, p1⟩
  · unfold nb; omega
  · unfold nb; omega
  · unfold crn nb
    generalize (fc t (x / 4) (f' : Int)).f0 = a at *
    generalize rd (qi (fc t (x / 4) (f' : Int)).f1) (x % 4) = b at *
    have e1 : (4 * a + b) / 4 = a := by omega
    have e2 : (4 * a + b) % 4 = b := by omega
    rw [e1, e2]
theorem zFr {p v : Int} (h0 : 0 ≤ p) (h1 : p ≤ 23) (v0 : 0 ≤ v) (v1 : v ≤ 3) : rd (qi (zD7 p)) (rd (qi p) v) = v := by
  obtain ⟨m, rfl⟩ := zCc h0 h1
  obtain ⟨n, rfl⟩ : ∃ m : Fin 4, v = (m.val : Int) := ⟨⟨v.toNat, by omega⟩, by simp; omega⟩
  have key : ∀ (m : Fin 24) (n : Fin 4), rd (qi (zD7 (m.val : Int))) (rd (qi (m.val : Int)) (n.val : Int)) = (n.val : Int) := by decide +kernel
  exact key m n
theorem zGg (h : ZX t = true) {x f : Int} (hx0 : 0 ≤ x) (hx1 : x < ((4 * t.length : Nat) : Int)) (hf0 : 0 ≤ f) (hf1 : f ≤ 3) (hne : f ≠ x % 4) (hb : ¬ (fc t (x / 4) f).f0 < 0) :
    ∃ f' : Int, 0 ≤ f' ∧ f' ≤ 3 ∧ f' ≠ nb t x f % 4 ∧ ¬ (fc t (nb t x f / 4) f').f0 < 0 ∧ nb t (nb t x f) f' = x := by
  obtain ⟨⟨g0, g1⟩, p0, p1⟩ := zDj h (show 0 ≤ x / 4 by omega) (by omega) hf0 hf1 hb
  obtain ⟨_, _, _, hc, _⟩ := zFq h hx0 hx1 hf0 hf1 hne hb
  have e1 : nb t x f / 4 = (fc t (x / 4) f).f0 := by unfold crn at hc; exact (List.cons.inj hc).1
  have e2 : nb t x f % 4 = rd (qi (fc t (x / 4) f).f1) (x % 4) := by unfold crn at hc; exact (List.cons.inj (List.cons.inj hc).2).1
  have q := Zk p0 p1 hf0 hf1
  rcases Jo h (show 0 ≤ x / 4 by omega) (by omega) hf0 hf1 with ⟨e, _⟩ | ⟨_, b0, b1, _⟩
  · omega
  refine ⟨rd (qi (fc t (x / 4) f).f1) f, q.1, q.2, ?_, ?_, ?_⟩
  · rw [e2]; exact zDG p0 p1 ⟨hf0, hf1⟩ ⟨by omega, by omega⟩ hne
  · rw [e1, b0]; omega
  · unfold nb
    rw [show (4 * (fc t (x / 4) f).f0 + rd (qi (fc t (x / 4) f).f1) (x % 4)) = nb t x f from rfl, e1, e2, b0, b1, zFr p0 p1 (by omega) (by omega)]
    omega
end
def oL (v : Int) : Nat → Int → List Int
  | 0, _ => []
  | d + 1, f => if f = v then oL v d (f + 1) else f :: oL v d (f + 1)
theorem oL_oth {v : Int} (h0 : 0 ≤ v) (h1 : v ≤ 3) : zB6 [v] = oL v 4 0 := by
  have : v = 0 ∨ v = 1 ∨ v = 2 ∨ v = 3 := by omega
  rcases this with rfl | rfl | rfl | rfl <;> decide
theorem zBd (cls : List Int) (c : Int) : ∀ d i : Nat, 0 < (Jq cls c d i).length → ∃ a : Nat, i ≤ a ∧ a < i + d ∧ rd cls (a : Int) = c ∧ (∀ j : Nat, i ≤ j → j < a → rd cls (j : Int) ≠ c) ∧ qj (Jq cls c d i) 0 = crn (a : Int)
  | 0, i, h => by simp [Jq] at h
  | d + 1, i, h => by
    unfold Jq at h ⊢
    by_cases e : rd cls (i : Int) = c
    · rw [if_pos e]
      refine ⟨i, yqy _, by omega, e, fun j h1 h2 => by omega, ?_⟩
      unfold crn
      show [((i / 4 : Nat) : Int), ((i % 4 : Nat) : Int)] = _
      simp
    · rw [if_neg e, List.nil_append] at h ⊢
      obtain ⟨a, h1, h2, h3, h4, h5⟩ := zBd cls c d (i + 1) h
      refine ⟨a, by omega, by omega, h3, fun j hj1 hj2 => ?_, h5⟩
      by_cases ej : j = i
      · subst ej; exact e
      · exact h4 j (by omega) hj2
structure OrS (t : Tri) (c : Int) (sg qu : List Int) : Prop where
  inv : Inv (4 * t.length) sg qu
  cl : ∀ y ∈ qu, rd (Zt t) y = c
  all : ∀ y : Int, 0 ≤ y → y < ((4 * t.length : Nat) : Int) → rd (Zt t) y = c → rd sg y ≠ 0 → y ∈ qu
structure OrX (t : Tri) (c : Int) (sg qu sg' qu' : List Int) : Prop where
  ex : ∃ e, qu' = qu ++ e
  keep : ∀ y : Int, 0 ≤ y → rd sg y ≠ 0 → rd sg' y = rd sg y
  off : ∀ y : Int, 0 ≤ y → rd (Zt t) y ≠ c → rd sg' y = rd sg y
  sum : zc sg' + qu'.length = zc sg + qu.length
theorem OrX.refl (t : Tri) (c : Int) (sg qu : List Int) : OrX t c sg qu sg qu := ⟨⟨[], by simp⟩, fun _ _ _ => rfl, fun _ _ _ => rfl, rfl⟩
theorem OrX.trans {t : Tri} {c : Int} {a b a1 b1 a2 b2 : List Int} (h : OrX t c a b a1 b1) (g : OrX t c a1 b1 a2 b2) : OrX t c a b a2 b2 := by
  obtain ⟨e1, he1⟩ := h.ex
  obtain ⟨e2, he2⟩ := g.ex
  refine ⟨⟨e1 ++ e2, by rw [he2, he1, List.append_assoc]⟩, fun y h0 h1 => ?_, fun y h0 h1 => ?_, g.sum.trans h.sum⟩
  · rw [g.keep y h0 (by rw [h.keep y h0 h1]; exact h1), h.keep y h0 h1]
  · rw [g.off y h0 h1, h.off y h0 h1]
theorem OrX.len {t : Tri} {c : Int} {a b a1 b1 : List Int} (h : OrX t c a b a1 b1) : b.length ≤ b1.length := by
  obtain ⟨e, he⟩ := h.ex
  rw [he, List.length_append]; omega
theorem OrX.at {t : Tri} {c : Int} {a b a1 b1 : List Int} (h : OrX t c a b a1 b1) {i : Nat} (hi : i < b.length) : rd b1 (i : Int) = rd b (i : Int) := by
  obtain ⟨e, he⟩ := h.ex
  rw [he, Qx, Qx, List.getD_eq_getElem?_getD, List.getD_eq_getElem?_getD, List.getElem?_append_left hi]
def Rel2 (t : Tri) (c : Int) (sg sg2 : List Int) : Prop := sg2.length = 4 * t.length ∧ ∀ y : Int, 0 ≤ y → y < ((4 * t.length : Nat) : Int) → rd (Zt t) y = c → rd sg2 y = rd sg y
section
variable {t : Tri} {c : Int}
theorem vis_st {sg qu : List Int} (h : OrS t c sg qu) (ok : Bool) {i : Nat} {k p : Int} (hi : i < qu.length) (h0 : 0 ≤ k) (h1 : k < ((4 * t.length : Nat) : Int)) (hc : rd (Zt t) k = c) (hp : pm p) :
    ∃ (sg' qu' : List Int) (c1 : Bool), vis sg qu ok (i : Int) k (wrap64 (-p)) = (sg', qu', ok && c1) ∧ OrS t c sg' qu' ∧ OrX t c sg qu sg' qu' ∧ rd sg' k ≠ 0 ∧
      (rd sg k = 0 → sg' = sg.set k.toNat (wrap64 (wrap64 (-(rd sg (rd qu (i : Int)))) * p)) ∧ qu' = qu ++ [k] ∧ c1 = true) ∧
      (rd sg k ≠ 0 → sg' = sg ∧ qu' = qu ∧ (c1 = true ↔ rd sg k = wrap64 (wrap64 (-(rd sg (rd qu (i : Int)))) * p))) := by
  obtain ⟨sg', qu', c1, e1, e2, e3, e4, e5, e6, e7⟩ := zFh h.inv ok (i := (i : Int)) (by omega) (by omega) h0 h1 hp
  have hl := h.inv.len
  by_cases hz : rd sg k = 0
  · obtain ⟨f1, f2, f3⟩ := e6 hz
    obtain ⟨q0, q1, qs⟩ := h.inv.queue _ (zDi (show (0 : Int) ≤ (i : Int) by omega) (by omega : (i : Int) < (qu.length : Int)))
    have hw := (zEw qs hp).2
    have hset : ∀ y : Int, 0 ≤ y → rd sg' y = if y = k then wrap64 (wrap64 (-(rd sg (rd qu (i : Int)))) * p) else rd sg y := fun y hy => by rw [f1]; exact zA1 h0 (by omega) hy
    refine ⟨sg', qu', c1, e1, ⟨e2, fun y hy => ?_, fun y y0 y1 yc yz => ?_⟩, ⟨⟨[k], f2⟩, fun y y0 yz => ?_, fun y y0 yc => ?_, e5⟩, ?_, fun _ => ⟨f1, f2, f3⟩, fun hn => absurd hz hn⟩
    · rw [f2] at hy
      rcases List.mem_append.1 hy with hy | hy
      · exact h.cl y hy
      · rw [List.mem_singleton.1 hy]; exact hc
    · rw [f2]
      by_cases e : y = k
      · rw [e]; simp
      · rw [hset y y0, if_neg e] at yz
        exact List.mem_append_left _ (h.all y y0 y1 yc yz)
    · rw [hset y y0, if_neg (fun e => yz (by rw [e]; exact hz))]
    · rw [hset y y0, if_neg (fun e => yc (by rw [e]; exact hc))]
    · rw [hset k h0, if_pos rfl]
      rcases hw with e | e <;> rw [e] <;> decide
  · obtain ⟨f1, f2, f3⟩ := e7 hz
    refine ⟨sg', qu', c1, e1, ?_, ?_, by rw [f1]; exact hz, fun hn => absurd hn hz, fun _ => ⟨f1, f2, f3⟩⟩
    · rw [f1, f2]; exact h
    · rw [f1, f2]; exact OrX.refl t c sg qu
def ClF (t : Tri) (sg : List Int) (x : Int) (f : Int) (d : Nat) : Prop := ∀ g : Int, f ≤ g → g < f + (d : Int) → g ≠ x % 4 → ¬ (fc t (x / 4) g).f0 < 0 → rd sg (nb t x g) ≠ 0
theorem zAO (h : ZX t = true) {i : Nat} {x : Int} (hx0 : 0 ≤ x) (hx1 : x < ((4 * t.length : Nat) : Int)) (hxc : rd (Zt t) x = c) : ∀ (d : Nat) (f : Int) (sg qu sg2 : List Int) (ok : Bool), 0 ≤ f → f + (d : Int) = 4 → OrS t c sg qu → i < qu.length → rd qu (i : Int) = x → Rel2 t c sg sg2 →
    ∃ (sg' qu' sg2' : List Int) (c1 : Bool), zAg t (Zt t) c (i : Int) x (oL (x % 4) d f) (sg, qu, ok) = (sg', qu', ok && c1) ∧ OrS t c sg' qu' ∧ OrX t c sg qu sg' qu' ∧ ClF t sg' x f d ∧ Rel2 t c sg' sg2' ∧
      (c1 = true → zCI t (x / 4) (x % 4) d f (sg2, qu.map crn) = some (sg2', qu'.map crn)) ∧ (c1 = false → zCI t (x / 4) (x % 4) d f (sg2, qu.map crn) = none)
  | 0, f, sg, qu, sg2, ok, hf0, hfd, hS, hi, hq, hR => ⟨sg, qu, sg2, true, by rw [oL, zAg]; simp, hS, OrX.refl .., fun g a b => by omega, hR, fun _ => rfl, fun e => by cases e⟩
  | d + 1, f, sg, qu, sg2, ok, hf0, hfd, hS, hi, hq, hR => by
    have hclS : ∀ {sg1 : List Int} {f : Int} {d : Nat}, ClF t sg1 x (f + 1) d → (f ≠ x % 4 → ¬ (fc t (x / 4) f).f0 < 0 → rd sg1 (nb t x f) ≠ 0) → ClF t sg1 x f (d + 1) := fun {sg1 f d} h1 h2 g a b => by
      by_cases e : g = f
      · subst e; exact h2
      · exact h1 g (by omega) (by push_cast at b; omega)
    by_cases e : f = x % 4
    · obtain ⟨sg', qu', sg2', c1, e1, e2, e3, e4, e5, e6, e7⟩ := zAO h (i := i) hx0 hx1 hxc d (f + 1) sg qu sg2 ok (by omega) (by push_cast at hfd; omega) hS hi hq hR
      refine ⟨sg', qu', sg2', c1, by rw [oL, if_pos e]; exact e1, e2, e3, hclS e4 (fun hn => absurd e hn), e5, fun hc => ?_, fun hc => ?_⟩
      · rw [zCI, if_pos e]; exact e6 hc
      · rw [zCI, if_pos e]; exact e7 hc
    · have hfc : zI (zE t (x / 4)) f = fc t (x / 4) f := rfl
      by_cases hb : (fc t (x / 4) f).f0 < 0
      · obtain ⟨sg', qu', sg2', c1, e1, e2, e3, e4, e5, e6, e7⟩ := zAO h (i := i) hx0 hx1 hxc d (f + 1) sg qu sg2 ok (by omega) (by push_cast at hfd; omega) hS hi hq hR
        refine ⟨sg', qu', sg2', c1, ?_, e2, e3, hclS e4 (fun _ hn => absurd hb hn), e5, fun hc => ?_, fun hc => ?_⟩
        · rw [oL, if_neg e, zAg, hfc, if_neg (fun q => q.2 hb)]; exact e1
        · rw [zCI, if_neg e, hfc, if_pos hb]; exact e6 hc
        · rw [zCI, if_neg e, hfc, if_pos hb]; exact e7 hc
      · obtain ⟨k0, k1, kc, kr, p0, p1⟩ := zFq h hx0 hx1 hf0 (by push_cast at hfd; omega) e hb
        have hp := zFg p0 p1
        obtain ⟨sg1, qu1, c1, v1, v2, v3, v4, v5, v6⟩ := vis_st hS ok hi k0 k1 (kc.trans hxc) hp
        have hR1 := hR.2
        have hk2 := hR1 _ k0 k1 (kc.trans hxc)
        have hx2 := hR1 x hx0 hx1 hxc
        rw [hq] at v5 v6
        have exx : 4 * (x / 4) + x % 4 = x := by omega
        have hl2 := hR.1
        have hX : (c1 = true → ∃ sg21, zGj (fc t (x / 4) f) (x / 4) (x % 4) (sg2, qu.map crn) = some (sg21, qu1.map crn) ∧ Rel2 t c sg1 sg21) ∧ (c1 = false → zGj (fc t (x / 4) f) (x / 4) (x % 4) (sg2, qu.map crn) = none) := by
          have hd : zGj (fc t (x / 4) f) (x / 4) (x % 4) (sg2, qu.map crn) = if rd sg2 (nb t x f) = 0 then some (sg2.set (nb t x f).toNat (wrap64 (wrap64 (-(rd sg2 (4 * (x / 4) + x % 4))) * zAl (fc t (x / 4) f).f1)), qu.map crn ++ [crn (nb t x f)]) else (if rd sg2 (nb t x f) = wrap64 (wrap64 (-(rd sg2 (4 * (x / 4) + x % 4))) * zAl (fc t (x / 4) f).f1) then some (sg2, qu.map crn) else none) := by
            rw [kr]; rfl
          rw [hd, exx, hk2, hx2]
          by_cases hz : rd sg (nb t x f) = 0
          · obtain ⟨f1, f2, f3⟩ := v5 hz
            rw [if_pos hz]
            refine ⟨fun _ => ⟨_, by rw [f2, List.map_append]; rfl, by rw [List.length_set]; exact hl2, fun y y0 y1 yc => ?_⟩, fun hc => by rw [f3] at hc; cases hc⟩
            have hls := hS.inv.len
            rw [f1, zA1 k0 (by omega) y0, zA1 k0 (by omega) y0, hR1 y y0 y1 yc]
          · obtain ⟨f1, f2, f3⟩ := v6 hz
            rw [if_neg hz]
            refine ⟨fun hc => ⟨sg2, by rw [if_pos (f3.1 hc), f2], by rw [f1]; exact hR⟩, fun hc => ?_⟩
            rw [if_neg (fun he => by rw [f3.2 he] at hc; cases hc)]
        have hvL : zAg t (Zt t) c (i : Int) x (oL (x % 4) (d + 1) f) (sg, qu, ok) = zAg t (Zt t) c (i : Int) x (oL (x % 4) d (f + 1)) (sg1, qu1, ok && c1) := by
          rw [oL, if_neg e, zAg, hfc, if_pos ⟨hxc, hb⟩]
          dsimp only
          rw [show 4 * (fc t (x / 4) f).f0 + rd (qi (fc t (x / 4) f).f1) (x % 4) = nb t x f from rfl, v1]
        have hoF : zCI t (x / 4) (x % 4) (d + 1) f (sg2, qu.map crn) = (zGj (fc t (x / 4) f) (x / 4) (x % 4) (sg2, qu.map crn)).bind (zCI t (x / 4) (x % 4) d (f + 1)) := by
          rw [zCI, if_neg e, hfc, if_neg hb]
        have hlen := v3.len
        cases hc1 : c1 with
        | true =>
          obtain ⟨sg21, x1, x2⟩ := hX.1 hc1
          obtain ⟨sg', qu', sg2', c2, e1, e2, e3, e4, e5, e6, e7⟩ := zAO h (i := i) hx0 hx1 hxc d (f + 1) sg1 qu1 sg21 (ok && c1) (by omega) (by push_cast at hfd; omega) v2 (by omega) (by rw [v3.at hi]; exact hq) x2
          refine ⟨sg', qu', sg2', c2, by rw [hvL, e1, hc1, Bool.and_true], e2, v3.trans e3, hclS e4 (fun _ _ => by rw [e3.keep _ k0 v4]; exact v4), e5, fun hc => ?_, fun hc => ?_⟩
          · rw [hoF, x1, yfy]; exact e6 hc
          · rw [hoF, x1, yfy]; exact e7 hc
        | false =>
          obtain ⟨sg', qu', sg2', c2, e1, e2, e3, e4, e5, e6, e7⟩ := zAO h (i := i) hx0 hx1 hxc d (f + 1) sg1 qu1 sg1 (ok && c1) (by omega) (by push_cast at hfd; omega) v2 (by omega) (by rw [v3.at hi]; exact hq) ⟨v2.inv.len, fun _ _ _ _ => rfl⟩
          refine ⟨sg', qu', sg2', false, by rw [hvL, e1, hc1, Bool.and_false, Bool.false_and], e2, v3.trans e3, hclS e4 (fun _ _ => by rw [e3.keep _ k0 v4]; exact v4), e5, fun hc => (by cases hc), fun _ => ?_⟩
          rw [hoF, hX.2 hc1]; rfl
end
theorem zBe {qu : List Int} {i : Nat} (hi : i < qu.length) : qj (qu.map crn) (i : Int) = crn (rd qu (i : Int)) := by
  simp [qj, rd, hi]
section
variable {t : Tri} {c : Int}
theorem ClF.mono (h : ZX t = true) {sg qu sg' qu' : List Int} {x : Int} (hx0 : 0 ≤ x) (hx1 : x < ((4 * t.length : Nat) : Int)) (hc : ClF t sg x 0 4) (hX : OrX t c sg qu sg' qu') : ClF t sg' x 0 4 := fun g a b e hb => by
  have hn := zFq h hx0 hx1 (show 0 ≤ g by omega) (by omega) e hb
  have hv := hc g a b e hb
  rw [hX.keep _ hn.1 hv]
  exact hv
theorem zBf (h : ZX t = true) : ∀ (m : Nat) (i : Nat) (sg qu sg2 : List Int) (ok : Bool), OrS t c sg qu → zc sg + qu.length ≤ 100 → zc sg + qu.length < m + i → i ≤ qu.length → Rel2 t c sg sg2 → (∀ j : Nat, j < i → ClF t sg (rd qu (j : Int)) 0 4) →
    ∃ (sg' qu' : List Int) (c1 : Bool), Ev (fun k => zCH t (Zt t) c k (i : Int) (sg, qu, ok)) (sg', ok && c1) ∧ OrS t c sg' qu' ∧ OrX t c sg qu sg' qu' ∧ (∀ j : Nat, j < qu'.length → c1 = c1 → ClF t sg' (rd qu' (j : Int)) 0 4) ∧ Ev (fun k => zEo t k i (sg2, qu.map crn)) c1
  | 0, i, sg, qu, sg2, ok, hS, hM, hm, hi, hR, hC => by omega
  | m + 1, i, sg, qu, sg2, ok, hS, hM, hm, hi, hR, hC => by
    by_cases hlt : i < qu.length
    · have hq := zDi (l := qu) (show (0 : Int) ≤ (i : Int) by omega) (by omega)
      obtain ⟨q0, q1, qs⟩ := hS.inv.queue _ hq
      have qc := hS.cl _ hq
      obtain ⟨sg1, qu1, sg21, c1, e1, e2, e3, e4, e5, e6, e7⟩ := zAO h (i := i) q0 q1 qc 4 0 sg qu sg2 ok (by omega) (by omega) hS hlt rfl hR
      have hlen := e3.len
      have hsum := e3.sum
      obtain ⟨sg', qu', c2, f1, f2, f3, f4, f5⟩ := zBf h m (i + 1) sg1 qu1 sg21 (ok && c1) e2 (by omega) (by omega) (by omega) e5 (fun j hj => by
        by_cases ej : j = i
        · rw [ej, e3.at hlt]; exact e4
        · rw [e3.at (show j < qu.length by omega)]
          have hqj := hS.inv.queue _ (zDi (l := qu) (show (0 : Int) ≤ (j : Int) by omega) (by omega))
          exact ClF.mono h hqj.1 hqj.2.1 (hC j (by omega)) e3)
      refine ⟨sg', qu', c1 && c2, ?_, f2, e3.trans f3, fun j hj _ => f4 j hj rfl, ?_⟩
      · rw [← Bool.and_assoc]
        refine qU (g := fun k => zCH t (Zt t) c k (i : Int) (sg, qu, ok)) (fun k => ?_) f1
        rw [zCH]
        dsimp only
        rw [if_pos (show (i : Int) < (qu.length : Int) by omega), if_pos ⟨q0, by omega, by omega⟩, oL_oth (by omega) (by omega), e1]
        rfl
      · have hl2 := hR.1
        have hok : zCb t.length (sg2, qu.map crn) i = true := by
          unfold zCb zAh
          dsimp only
          rw [zBe hlt]
          simp only [Bool.and_eq_true, decide_eq_true_eq]
          refine ⟨⟨rfl, ⟨show 0 ≤ rd qu (i : Int) / 4 by omega, show rd qu (i : Int) / 4 < _ by omega⟩, show 0 ≤ rd qu (i : Int) % 4 by omega, show rd qu (i : Int) % 4 ≤ 3 by omega⟩, by rw [List.length_map]; omega, hl2⟩
        have hs : ∀ {R : Bool}, Ev (fun k => oriN (zCI t (rd qu (i : Int) / 4) (rd qu (i : Int) % 4) 4 0 (sg2, qu.map crn)) (zEo t k (i + 1))) R → Ev (fun k => zEo t k i (sg2, qu.map crn)) R := fun hR => qU (fun k => by
          rw [zEo, if_pos (by dsimp only; rw [List.length_map]; exact hlt), if_pos hok]
          dsimp only
          rw [zBe hlt]
          rfl) hR
        cases hc1 : c1 with
        | true =>
          refine hs ?_
          rw [e6 hc1, Bool.true_and]
          exact f5
        | false =>
          refine hs ?_
          rw [e7 hc1, Bool.false_and]
          exact Ev.now _
    · have he : i = qu.length := by omega
      refine ⟨sg, qu, true, ?_, hS, OrX.refl .., fun j hj _ => hC j (by omega), ?_⟩
      · rw [Bool.and_true]
        exact qU (g := fun k => zCH t (Zt t) c k (i : Int) (sg, qu, ok)) (f := fun _ => some (sg, ok)) (fun k => by rw [zCH]; dsimp only; rw [if_neg (by omega)]) (Ev.now _)
      · exact qU (f := fun _ => some true) (fun k => by rw [zEo, if_neg (by dsimp only; rw [List.length_map]; exact hlt)]) (Ev.now _)
theorem zCp (h : ZX t = true) {sg qu : List Int} (hS : OrS t c sg qu) (hcl : ∀ j : Nat, j < qu.length → ClF t sg (rd qu (j : Int)) 0 4) {a y : Nat} (ha : a < 4 * t.length) (hac : rd (Zt t) (a : Int) = c) (has : rd sg (a : Int) ≠ 0) (hy : y < 4 * t.length) (hyc : rd (Zt t) (y : Int) = c) : rd sg (y : Int) ≠ 0 := by
  have key : ∀ y ∈ qu, ∀ f : Int, 0 ≤ f → f ≤ 3 → f ≠ y % 4 → ¬ (fc t (y / 4) f).f0 < 0 → nb t y f ∈ qu := fun y hy f f0 f1 hne hb => by
    obtain ⟨q0, q1, _⟩ := hS.inv.queue _ hy
    obtain ⟨j, hj, e⟩ := List.getElem_of_mem hy
    have e2 : rd qu (j : Int) = y := by rw [zFZ qu j hj]; exact e
    have hv := hcl j hj
    rw [e2] at hv
    obtain ⟨n0, n1, nc, _⟩ := zFq h q0 q1 f0 f1 hne hb
    exact hS.all _ n0 n1 (nc.trans (hS.cl _ hy)) (hv f f0 (by omega) hne hb)
  have hconn := zF9 h (g := fun y => decide (y ∈ qu)) (fun j f x hF hb v hv hne => by
    obtain ⟨a1, a2, a3, a4, a5, a6⟩ := zA8 h hF hb
    have hfx : fc t (j : Int) (f : Int) = x := by
      obtain ⟨h1, h2, h3⟩ := hF
      obtain ⟨_, hfc⟩ := zC8 h h1 (f := f) (by omega)
      rw [hfc]; exact h3
    have v0 := hv.1
    have v1 := hv.2
    have ey : (4 * (j : Int) + v) / 4 = (j : Int) := by omega
    have ev : (4 * (j : Int) + v) % 4 = v := by omega
    have en : nb t (4 * (j : Int) + v) (f : Int) = 4 * x.f0 + rd (qi x.f1) v := by unfold nb; rw [ey, ev, hfx]
    have hb2 : ¬ (fc t ((4 * (j : Int) + v) / 4) (f : Int)).f0 < 0 := by rw [ey, hfx]; exact hb
    have hn2 : (f : Int) ≠ (4 * (j : Int) + v) % 4 := by rw [ev]; exact fun e => hne e.symm
    rw [← en]
    refine decide_eq_decide.2 ⟨fun hm => key _ hm _ (by omega) (by omega) hn2 hb2, fun hm => ?_⟩
    obtain ⟨f', g0, g1, g2, g3, g4⟩ := zGg h (show 0 ≤ 4 * (j : Int) + v by omega) (by omega) (show 0 ≤ (f : Int) by omega) (by omega) hn2 hb2
    have := key _ hm f' g0 g1 g2 g3
    rw [g4] at this
    exact this) ha hy (hac.trans hyc.symm)
  have hma : ((a : Int) ∈ qu) := hS.all _ (by omega) (by omega) hac has
  have hmy : ((y : Int) ∈ qu) := by
    have : decide ((y : Int) ∈ qu) = true := hconn.symm.trans (ygy hma)
    exact of_decide_eq_true this
  obtain ⟨_, _, p⟩ := hS.inv.queue _ hmy
  rcases p with e | e <;> rw [e] <;> decide
theorem zDp {t : Tri} {cls : List Int} {c i x : Int} (hx : rd cls x ≠ c) : ∀ (L : List Int) (s : List Int × List Int × Bool), zAg t cls c i x L s = s
  | [], s => rfl
  | f :: fs, s => by rw [zAg, if_neg (fun e => hx e.1), zDp hx fs]
theorem zFA {a : Nat} (ha : a < 4 * t.length) (hac : rd (Zt t) (a : Int) ≠ c) (sg : List Int) (ok : Bool) : Ev (fun k => zCH t (Zt t) c k 0 (sg, [(a : Int)], ok)) (sg, ok) := by
  refine qU (f := fun k => zCH t (Zt t) c k (0 + 1) (sg, [(a : Int)], ok)) (fun k => ?_) ?_
  · rw [zCH]
    dsimp only
    have e0 : rd [(a : Int)] 0 = (a : Int) := rfl
    have el : ([(a : Int)] : List Int).length = 1 := rfl
    rw [e0, el, if_pos (by decide), if_pos ⟨by omega, by omega, by omega⟩, zDp hac]
  · exact qU (f := fun _ => some (sg, ok)) (fun k => by rw [zCH]; dsimp only; rw [if_neg (by simp)]) (Ev.now _)
theorem zCF : ∀ (d a : Nat) (sg : List Int) (ok : Bool), sg.length = 4 * t.length → a + d = 4 * t.length → (∀ y : Nat, y < 4 * t.length → rd (Zt t) (y : Int) = c → rd sg (y : Int) ≠ 0) → ∃ sg', Ev (fun k => Jz t (Zt t) c k d (a : Int) sg ok) (sg', ok)
  | 0, a, sg, ok, hl, hd, hz => ⟨sg, zCW fun k => by rw [Jz]⟩
  | d + 1, a, sg, ok, hl, hd, hz => by
    by_cases e : rd sg (a : Int) = 0
    · have hac : rd (Zt t) (a : Int) ≠ c := fun q => hz a (by omega) q e
      obtain ⟨sg', h'⟩ := zCF d (a + 1) (sg.set (a : Int).toNat 1) ok (by rw [List.length_set]; exact hl) (by omega) (fun y hy hc => by
        rw [zA1 (by omega) (by omega) (by omega)]
        split
        · decide
        · exact hz y hy hc)
      refine ⟨sg', Ev.congr (fun k => by rw [Jz, if_pos e]) (Ev.bind (zFA (by omega) hac _ ok) ?_)⟩
      exact h'
    · obtain ⟨sg', h'⟩ := zCF d (a + 1) sg ok hl (by omega) hz
      exact ⟨sg', Ev.congr (fun k => by rw [Jz, if_neg e]; rfl) h'⟩
structure Bef (t : Tri) (c : Int) (sg : List Int) : Prop where
  len : sg.length = 4 * t.length
  small : ∀ y : Int, 0 ≤ y → y < ((4 * t.length : Nat) : Int) → rd sg y = 0 ∨ rd sg y = 1
  zero : ∀ y : Int, 0 ≤ y → y < ((4 * t.length : Nat) : Int) → rd (Zt t) y = c → rd sg y = 0
theorem zAa {d a0 : Nat} (h0 : a0 + d = 4 * t.length) : ∀ (e a : Nat) (sg : List Int) (ok : Bool), a + e = a0 → (∀ j : Nat, j < a0 → rd (Zt t) (j : Int) ≠ c) → Bef t c sg →
    ∃ sg1, Bef t c sg1 ∧ ∀ R, Ev (fun k => Jz t (Zt t) c k d (a0 : Int) sg1 ok) R → Ev (fun k => Jz t (Zt t) c k (e + d) (a : Int) sg ok) R
  | 0, a, sg, ok, ha, hn, hB => ⟨sg, hB, fun R hR => by rw [Nat.zero_add]; rw [Nat.add_zero] at ha; rw [ha]; exact hR⟩
  | e + 1, a, sg, ok, ha, hn, hB => by
    have hl := hB.len
    have ed : e + 1 + d = (e + d) + 1 := by omega
    rw [ed]
    by_cases z : rd sg (a : Int) = 0
    · obtain ⟨sg1, b1, b2⟩ := zAa h0 e (a + 1) (sg.set (a : Int).toNat 1) ok (by omega) hn ⟨by rw [List.length_set]; exact hl, fun y y0 y1 => by
        rw [zA1 (by omega) (by omega) y0]
        split
        · exact .inr rfl
        · exact hB.small y y0 y1, fun y y0 y1 yc => by
        rw [zA1 (by omega) (by omega) y0, if_neg (fun q => hn a (by omega) (by rw [← q]; exact yc))]
        exact hB.zero y y0 y1 yc⟩
      refine ⟨sg1, b1, fun R hR => Ev.congr (fun k => by rw [Jz, if_pos z]) (Ev.bind (zFA (by omega) (hn a (by omega)) _ ok) ?_)⟩
      exact b2 R hR
    · obtain ⟨sg1, b1, b2⟩ := zAa h0 e (a + 1) sg ok (by omega) hn hB
      exact ⟨sg1, b1, fun R hR => Ev.congr (fun k => by rw [Jz, if_neg z]; rfl) (b2 R hR)⟩
theorem zFB (h : ZX t = true) : zCa t (Zt t) = true := by
  obtain ⟨h8, h4, _⟩ := qw h
  unfold zCa
  simp only [Bool.and_eq_true, decide_eq_true_eq, List.all_eq_true]
  refine ⟨⟨h8, zA9 h⟩, fun r hr => ⟨h4 r hr, fun x hx => ?_⟩⟩
  simp only [Bool.or_eq_true, Bool.and_eq_true, decide_eq_true_eq]
  obtain ⟨a, ha, rfl⟩ := List.getElem_of_mem hr
  obtain ⟨f, hf, rfl⟩ := List.getElem_of_mem hx
  have := Jo h (a := (a : Int)) (f := (f : Int)) (by omega) (by omega) (by omega) (by rw [h4 _ (List.getElem_mem ha)] at hf; omega)
  have e : fc t (a : Int) (f : Int) = t[a][f] := by unfold fc; rw [Qd t a ha, zAX _ f hf]
  rw [e] at this
  rcases this with ⟨e1, _⟩ | ⟨⟨g0, g1, g2, g3⟩, _⟩
  · left; omega
  · right; exact ⟨⟨g0, g1⟩, g2, g3⟩
theorem zFC (h : ZX t = true) (hc : 0 < (Jq (Zt t) c (4 * t.length) 0).length) : zE4 t (Jq (Zt t) c (4 * t.length) 0) = true := by
  have hn := zF6 h c
  unfold zGT at hn
  simp only [Bool.and_eq_true, List.all_eq_true] at hn
  unfold zE4
  simp only [Bool.and_eq_true, decide_eq_true_eq, List.all_eq_true]
  refine ⟨⟨(qw h).1, hc⟩, fun r hr => ⟨(qw h).2.1 r hr, fun x hx => ?_⟩, ?_⟩
  · exact (hn.2.1 r hr).2 x hx
  · refine hn.2.2 _ ?_
    rw [qj]
    simp [hc]
theorem zGh : ∃ k0 : Nat, ∀ k, k0 ≤ k → zGk k = true := by
  have h3 : ∀ n : Nat, n ≤ 24 → ∃ k0 : Nat, ∀ k, k0 ≤ k → ∀ m : Fin 24, m.val < n → zg.f k (m.val : Int) = some (zAl (m.val : Int)) := fun n => by
    induction n with
    | zero => exact fun _ => ⟨0, fun k _ m hm => absurd hm (by omega)⟩
    | succ n ih =>
      intro hn
      obtain ⟨k0, h0⟩ := ih (by omega)
      obtain ⟨k1, h1⟩ := zCe (p := (n : Int)) (by omega) (by omega)
      refine ⟨k0 + k1, fun k hk m hm => ?_⟩
      by_cases e : m.val = n
      · rw [e]; exact h1 k (by omega)
      · exact h0 k (by omega) m (by omega)
  obtain ⟨k0, h0⟩ := h3 24 (yqy _)
  refine ⟨k0, fun k hk => ?_⟩
  unfold zGk
  rw [decide_eq_true_eq]
  exact fun m => h0 k hk m m.isLt
theorem zEG (h : ZX t = true) (hc : 0 < (Jq (Zt t) c (4 * t.length) 0).length) : ∃ b : Bool, Ev (fun k => qH.f k t c) b ∧ Ev (fun k => qp.f k t (Jq (Zt t) c (4 * t.length) 0)) b := by
  have h8 := (qw h).1
  obtain ⟨a, a1, a2, a3, a4, a5⟩ := zBd (Zt t) c (4 * t.length) 0 hc
  have hrep : ∀ x : Int, rd (List.replicate (4 * t.length) 0) x = 0 := fun x => by
    unfold rd
    by_cases hx : x.toNat < 4 * t.length
    · simp [List.getD_eq_getElem?_getD, hx]
    · simp [List.getD_eq_getElem?_getD, hx]
  have hB0 : Bef t c (List.replicate (4 * t.length) 0) := ⟨List.length_replicate, fun y _ _ => .inl (hrep y), fun y _ _ _ => hrep y⟩
  obtain ⟨d, hd⟩ : ∃ d, a + (d + 1) = 4 * t.length := ⟨4 * t.length - a - 1, by omega⟩
  obtain ⟨sg1, b1, b2⟩ := zAa (c := c) hd a 0 (List.replicate (4 * t.length) 0) true (by omega) (fun j hj => a4 j (by omega) hj) hB0
  have hl1 := b1.len
  have hset : ∀ {l : List Int}, l.length = 4 * t.length → ∀ y : Int, 0 ≤ y → rd (l.set (a : Int).toNat 1) y = if y = (a : Int) then 1 else rd l y := fun hl y hy => zA1 (by omega) (by omega) hy
  have hS : OrS t c (sg1.set (a : Int).toNat 1) [(a : Int)] := by
    refine ⟨⟨by rw [List.length_set]; exact hl1, fun y y0 y1 => ?_, fun y hy => ?_⟩, fun y hy => ?_, fun y y0 y1 yc yz => ?_⟩
    · rw [hset hl1 y y0]
      split
      · exact .inr (.inl rfl)
      · rcases b1.small y y0 y1 with e | e
        · exact .inl e
        · exact .inr (.inl e)
    · rw [List.mem_singleton.1 hy]
      refine ⟨by omega, by omega, ?_⟩
      rw [hset hl1 _ (by omega), if_pos rfl]
      exact .inl rfl
    · rw [List.mem_singleton.1 hy]; exact a3
    · rw [hset hl1 y y0] at yz
      by_cases e : y = (a : Int)
      · rw [e]; simp
      · rw [if_neg e] at yz
        exact absurd (b1.zero y y0 y1 yc) yz
  have hR : Rel2 t c (sg1.set (a : Int).toNat 1) ((List.replicate (4 * t.length) 0).set (a : Int).toNat 1) := by
    refine ⟨by rw [List.length_set, List.length_replicate], fun y y0 y1 yc => ?_⟩
    rw [hset hl1 y y0, hset List.length_replicate y y0, hrep, b1.zero y y0 y1 yc]
  have hz := zc_le (sg1.set (a : Int).toNat 1)
  rw [List.length_set] at hz
  obtain ⟨sg', qu', c1, e1, e2, e3, e4, e5⟩ := zBf h 200 0 (sg1.set (a : Int).toNat 1) [(a : Int)] ((List.replicate (4 * t.length) 0).set (a : Int).toNat 1) true hS (by rw [List.length_singleton]; omega) (by rw [List.length_singleton]; omega) (by omega) hR (fun j hj => absurd hj (Nat.not_lt_zero j))
  have has : rd sg' (a : Int) ≠ 0 := by
    have := e3.keep (a : Int) (by omega) (by rw [hset hl1 _ (by omega), if_pos rfl]; decide)
    rw [this, hset hl1 _ (by omega), if_pos rfl]; decide
  have hall : ∀ y : Nat, y < 4 * t.length → rd (Zt t) (y : Int) = c → rd sg' (y : Int) ≠ 0 := fun y hy hyc => zCp h e2 (fun j hj => e4 j hj rfl) (by omega) a3 has hy hyc
  obtain ⟨sgF, f1⟩ := zCF (c := c) d (a + 1) sg' (true && c1) e2.inv.len (by omega) hall
  refine ⟨c1, ?_, ?_⟩
  · refine Ev.bind (Qg (zBc h)) (Ev.bind (a := (sgF, true && c1)) ?_ (zD0 (by rw [Bool.true_and])))
    refine ZD (zFB h) ?_
    have hq : Ev (fun k => (zCH t (Zt t) c k 0 (sg1.set (a : Int).toNat 1, [(a : Int)], true)).bind fun s => Jz t (Zt t) c k d ((a : Int) + 1) s.1 s.2) (sgF, true && c1) := Ev.bind e1 f1
    have := b2 (sgF, true && c1) (Ev.congr (fun k => by rw [Jz, if_pos (b1.zero (a : Int) (by omega) (by omega) a3)]) hq)
    rw [show a + (d + 1) = 4 * t.length from hd] at this
    exact this
  · have hk := zFC h hc
    obtain ⟨k0, hk0⟩ := e5
    obtain ⟨k1, hk1⟩ := zGc
    obtain ⟨k2, hk2⟩ := zGh
    refine ⟨k0 + k1 + k2, fun k hk' => ?_⟩
    have q := hk0 k (by omega)
    show qp.f k t _ = some c1
    unfold qp.f
    rw [if_pos hk, if_pos (hk1 k (by omega)), if_pos (hk2 k (by omega)), a5]
    have e0 : 4 * rd (crn (a : Int)) 0 + rd (crn (a : Int)) 1 = (a : Int) := by
      show 4 * ((a : Int) / 4) + (a : Int) % 4 = _
      omega
    rw [e0]
    exact q
end
end Go.Proofs.Ytembbpalgfikiaa.P
namespace Go.Proofs.Ytembbpalgfikiaa.P
open Go.RowKit Go.Proofs.YtembbpalgfikiaaW.PrintWords Go.Proofs.Ytembbpalgfikiaa.Lib
set_option linter.unusedVariables false
theorem zFs {t : Tri} (hs : Small t) (c : Int) : ∃ b : Bool, Ev (fun k => qQ.f k t c) b ∧ Ev (fun k => qZ.f k t c) b := by
  by_cases h0 : zAZ t c = 0
  · obtain ⟨ht, hc0, hc1⟩ := zEE h0
    have hpos : 0 < (Jq (Zt t) c (4 * t.length) 0).length := by
      rcases Nat.eq_zero_or_pos (Jq (Zt t) c (4 * t.length) 0).length with e | e
      · exact absurd ⟨hc0, hc1⟩ ((zCn ht c).1 e)
      · exact e
    obtain ⟨b, b1, b2⟩ := zEG ht hpos
    refine ⟨b, Ev.bind (zDl hs c) (ZD h0 (Ev.bind b1 (Ev.now _))), ?_⟩
    refine Ev.bind (zAN t c) ?_
    unfold zED
    rw [if_pos h0]
    exact ZD rfl (Ev.bind b2 (Ev.now _))
  · refine ⟨false, Ev.bind (zDl hs c) (QD h0 (Ev.now _)), ?_⟩
    refine Ev.bind (zAN t c) ?_
    unfold zED
    rw [if_neg h0]
    exact QD h0 (Ev.now _)
end Go.Proofs.Ytembbpalgfikiaa.P
namespace Go.Proofs.Ytembbpalgfikiaa.Pure
open Go.RowKit Go.Proofs.Ytembbpalgfikiaa.P Go.Proofs.Ytembbpalgfikiaa.Lib Go.Proofs.YtembbpalgfikiaaW.PrintWords
theorem JX (l : List (List qP)) (c : Int) (h : Fits l) (_ : (Lit.int .i64 c).wf = true) : ∃ k, ZG.f k l c = some true := by
  refine Ev.rounds ?_
  obtain ⟨r, hr, hs⟩ := zAJ l h
  refine Ev.bind hr ?_
  by_cases hn : r < 0
  · exact ZD hn (Ev.now true)
  have hsm := hs hn
  have hto := zAK l hsm
  have hS := zEs hsm
  obtain ⟨o, him, hsp⟩ := zFs hS c
  refine QD hn ?_
  refine Ev.bind hto ?_
  refine Ev.bind hsp ?_
  refine Ev.bind hto ?_
  refine Ev.bind him ?_
  refine QD (by simp) ?_
  refine Ev.bind hto ?_
  exact Ev.bind (zAL _ hS) (ZD rfl (Ev.now true))
end Go.Proofs.Ytembbpalgfikiaa.Pure
namespace Go.Proofs.Ytembbpalgfikiaa.Lib
open Go.RowKit Go.Proofs.YtembbpalgfikiaaW.PrintWords Go.Joins Go.Deep Go.WideShapes Go.ChangeShapes
set_option linter.unusedVariables false
def zFt (P : Program) (t : TypeId) {α : Type} (d : Kd α) : Prop := ∀ (H : Type) (enc : TypeId × Value → H) (w : World) (base : Nat) (spare : Nat → Bool) (held : Bool) (fuel : Nat) (cs : List Value) (x : DataW H × List MemPlace),
  DataW.trod enc P w base spare held fuel t cs = some x → ∃ y, d.K w y cs
theorem zCq {α : Type} {R : Nat → α → Prop} : ∀ n, (∀ i, i < n → ∃ y, R i y) → ∃ ys : List α, ys.length = n ∧ ∀ j p, ys[j]? = some p → R j p
  | 0, _ => ⟨[], rfl, fun j p h => by simp at h⟩
  | n + 1, h => by
    obtain ⟨ys, hl, hr⟩ := zCq n (fun i hi => h i (by omega))
    obtain ⟨y, hy⟩ := h n (by omega)
    refine ⟨ys ++ [y], by simp [hl], fun j p hj => ?_⟩
    by_cases hlt : j < n
    · rw [List.getElem?_append_left (by omega)] at hj
      exact hr j p hj
    · have hjn : j < (ys ++ [y]).length := (List.getElem?_eq_some_iff.1 hj).1
      have : j = n := by simp [hl] at hjn; omega
      subst this
      rw [List.getElem?_append_right (by omega), hl, Nat.sub_self] at hj
      injection hj with hj
      rw [← hj]
      exact hy
theorem zBD {P : Program} {t e : TypeId} {α : Type} {d : Kd α} (ht : P.underlying t = some (.slice e)) (hc : P.cellsOf e = d.sz) (h : zFt P e d) : zFt P t (Kd.slice e d) := by
  intro H enc w base spare held fuel cs x hx
  rcases open_slice ht hx with ⟨rfl, _⟩ | ⟨a, len, cap, m, n, D, Pl, rfl, hb, hl, hm, hmm, _, hi⟩
  · exact ⟨[], none, 0, rfl, yqy _, Kd.C_nil d w⟩
  · have each : ∀ i, i < len → ∃ y, ∃ cs', w.cells? base (a.add (i * d.sz)) d.sz = some cs' ∧ d.K w y cs' := by
      intro i hil
      have him : i < m := by rw [hmm]; split <;> omega
      obtain ⟨cs', h1, h2⟩ := hi i him
      obtain ⟨y, hy⟩ := h H enc w base spare held n cs' _ h2
      rw [hc] at h1
      exact ⟨y, cs', h1, hy⟩
    obtain ⟨ys, hlen, hys⟩ := zCq len each
    refine ⟨ys, some a, cap, by rw [hlen], by omega, rfl, ?_, fun _ => ⟨a, rfl, fun j p hj => ?_⟩⟩
    · unfold maxLen at hm; omega
    · obtain ⟨cs', h1, h2⟩ := hys j p hj
      obtain ⟨_, h3, h4⟩ := World.cells?_some h1
      refine ⟨cs', h3, h2, fun i u hu => ?_⟩
      have hil : i < d.sz := by rw [← h3]; exact (List.getElem?_eq_some_iff.1 hu).1
      rw [← hu, ← h4 i hil, Go.Deep.add_add]
theorem zCG {P : Program} {t : TypeId} {f0 f1 : Field} {α : Type} (hs : P.underlying t = some (.struct #[f0, f1])) (hone : oneCellFields P #[f0, f1] = true) (hC : P.cellsOf t = 2)
    (h0 : P.underlying f0.type = some (.int .i64)) (h1 : P.underlying f1.type = some (.int .i64)) (d : Kd α) (mk : Int → Int → α) (hK : ∀ w a b, d.K w (mk a b) [.int .i64 a, .int .i64 b]) : zFt P t d := by
  intro H enc w base spare held fuel cs x h
  obtain ⟨y0, y1, n, hx, hl, g0, g1⟩ := trod_struct2 hs h
  obtain ⟨o0, k0⟩ := hone_of hone 0 f0 rfl
  obtain ⟨o1, k1⟩ := hone_of hone 1 f1 rfl
  rw [hC] at hl
  match cs, hl with
  | [c0, c1], _ =>
    rw [o0, k0] at g0
    rw [o1, k1] at g1
    obtain ⟨a, e0, _, _⟩ := DataW.trod_int h0 g0
    obtain ⟨b, e1, _, _⟩ := DataW.trod_int h1 g1
    simp at e0 e1
    subst e0 e1
    exact ⟨mk a b, hK w a b⟩
section
variable {H : Type} {enc : TypeId × Value → H} {P : Program} {w : World} {base : Nat} {spare : Nat → Bool} {held : Bool}
theorem array1 {α : Type} {cs : Array α} (h : cs.size = 1) : ∃ c0, cs = #[c0] := by
  obtain ⟨l⟩ := cs
  match l, h with
  | [c0], _ => exact ⟨c0, rfl⟩
theorem zFD {r : Reach} {b0 : Nat} {t e : TypeId} {f0 : Field} {α : Type} {d : Kd α} {v : Value} {D : DataW H} {p : List MemPlace} (hs : P.underlying t = some (.struct #[f0])) (hone : oneCellFields P #[f0] = true) (hC : P.cellsOf t = 1)
    (ho : zFt P f0.type (Kd.slice e d)) (hv : Value.okWide P w r b0 t v) (h : DataW.Trod enc P w base spare held t v D p) :
    ∃ (A : Option Addr) (c : Nat) (l : List α), v = .agg #[.slice A l.length c] ∧ l.length ≤ c ∧ d.C w A l.length l := by
  obtain ⟨cs, rfl, hsz⟩ := okWide_struct hs hv
  obtain ⟨c0, rfl⟩ := array1 (hsz.trans hC)
  obtain ⟨fuel, hf⟩ := h
  obtain ⟨y0, n, hx, _, h0⟩ := trod_struct1 hs hf
  obtain ⟨o0, k0⟩ := hone_of hone 0 f0 rfl
  have h0' : DataW.trod enc P w base spare held n f0.type [c0] = some y0 := by simpa [Value.cells, o0, k0] using h0
  obtain ⟨l, A, c, e1, hl, hCC⟩ := ho H enc w base spare held n _ _ h0'
  simp at e1
  subst e1
  exact ⟨A, c, l, rfl, hl, hCC⟩
end
theorem zFE {e : Nat} {α : Type} {d : Kd α} {w : World} {A : Option Addr} {l : List (List α)} (h : (Kd.slice e d).C w A l.length l) : l.length ≤ 9223372036854775807 ∧ ∀ r ∈ l, r.length ≤ 9223372036854775807 := by
  refine ⟨h.2.1, fun r hr => ?_⟩
  obtain ⟨j, hj, rfl⟩ := List.mem_iff_getElem.1 hr
  obtain ⟨ad, _, hc⟩ := h.2.2 (by omega)
  obtain ⟨c, _, hK, _⟩ := hc j _ (List.getElem?_eq_getElem hj)
  obtain ⟨A', c', _, _, hC⟩ := hK
  exact hC.2.1
end Go.Proofs.Ytembbpalgfikiaa.Lib
