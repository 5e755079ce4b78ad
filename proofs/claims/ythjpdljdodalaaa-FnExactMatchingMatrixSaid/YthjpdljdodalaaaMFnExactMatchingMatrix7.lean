/- The statement FnExactMatchingMatrixSaid, proved: part 7 of 7 (texts of this session and of the kit's print, put together and cut to what is used by a program of it). -/
import Derived.Test.YthjpdljdodalaaaMFnExactMatchingMatrix6
import Derived.Deep.Slices
import Derived.ChangeSame
import Derived.ChangeArms
import Derived.WideShapes
import Derived.Lib.SmallJoins
import Derived.ChangeShapes
import Derived.Test.YthjpdljdodalaaaRows
import Derived.WalkKit
import Derived.ProofKit
import Derived.OpenShut
import Derived.ShutString
import Derived.ChangeOld
import Derived.Below
import Derived.SizedLaws
import Derived.Carry
namespace Go.Proofs.Ythjpdljdodalaaa.Lib
set_option linter.unusedVariables false
open Go.RowKit Go.Proofs.YthjpdljdodalaaaW.PrintWords
theorem zC1 {σ ρ : Type} (L : Nat → σ → Option ρ) (I : σ → Prop) (m : σ → Nat) (g : σ → ρ)
    (h : ∀ s, I s → (∃ K, ∀ k, K ≤ k → L (k + 1) s = some (g s)) ∨ (∃ s' K, I s' ∧ m s' < m s ∧ g s' = g s ∧ ∀ k, K ≤ k → L (k + 1) s = L k s')) :
    ∀ s, I s → Ev (fun k => L k s) (g s) := by
  have key : ∀ (n : Nat) (s : σ), m s < n → I s → Ev (fun k => L k s) (g s) := by
    intro n
    induction n with
    | zero => intro s hs; omega
    | succ n ih =>
      intro s hs hi
      rcases h s hi with ⟨K, hK⟩ | ⟨s', K, hi', hm, hg, hK⟩
      · refine ⟨K + 1, fun k hk => ?_⟩
        obtain ⟨j, rfl⟩ : ∃ j, k = j + 1 := ⟨k - 1, by omega⟩
        exact hK j (by omega)
      · obtain ⟨K', hK'⟩ := ih s' (by omega) hi'
        refine ⟨max K K' + 1, fun k hk => ?_⟩
        obtain ⟨j, rfl⟩ : ∃ j, k = j + 1 := ⟨k - 1, by omega⟩
        show L (j + 1) s = some (g s)
        rw [hK j (by omega), ← hg]
        exact hK' j (by omega)
  intro s hi
  exact key (m s + 1) s (by omega) hi
theorem Qn {σ ρ : Type} (L : Nat → σ → Option ρ) (I : σ → Prop) (m : σ → Nat) (g : σ → ρ)
    (h : ∀ s, I s → (∀ k, L (k + 1) s = some (g s)) ∨ (∃ s', I s' ∧ m s' < m s ∧ g s' = g s ∧ ∀ k, L (k + 1) s = L k s')) :
    ∀ s, I s → Ev (fun k => L k s) (g s) :=
  zC1 L I m g fun s hi => by
    rcases h s hi with h1 | ⟨s', h1, h2, h3, h4⟩
    · exact .inl ⟨0, fun k _ => h1 k⟩
    · exact .inr ⟨s', 0, h1, h2, h3, fun k _ => h4 k⟩
theorem qq {x : Int} (h0 : -9223372036854775808 ≤ x) (h1 : x ≤ 9223372036854775807) : wrap64 x = x := by
  unfold wrap64; omega
theorem Za {n : Nat} (h : n ≤ 4611686018427387904) : wrap64 ((n : Int) + 1) = ((n + 1 : Nat) : Int) := by
  rw [qq (by omega) (by omega)]; rfl
theorem rd_nat (xs : List Int) (n : Nat) : rd xs (n : Int) = xs.getD n 0 := by simp [rd]
theorem rd_lt (xs : List Int) (n : Nat) (h : n < xs.length) : rd xs (n : Int) = xs[n] := by simp [rd, h]
theorem ZU {α : Type} {c : Prop} [Decidable c] {f g : Nat → Option α} {r : α} (h : ¬ c) (k : Ev g r) : Ev (fun n => if c then f n else g n) r := Ev.congr (fun _ => if_neg h) k
theorem qe {α : Type} {c : Prop} [Decidable c] {f g : Nat → Option α} {r : α} (h : c) (k : Ev f r) : Ev (fun n => if c then f n else g n) r := Ev.congr (fun _ => if_pos h) k
theorem Qa {α : Type} {r r' : α} (h : r = r') : Ev (fun _ => some r) r' := h ▸ Ev.now r
theorem Qo {α : Type} {o : Option α} {r : α} (h : o = some r) : Ev (fun _ => o) r := ⟨0, fun _ _ => h⟩
theorem zBf {α : Type} {g : Nat → Option α} {r : α} (h : ∀ k, g k = some r) : Ev g r := ⟨0, fun k _ => h k⟩
theorem qk {α : Type} {g f : Nat → Option α} {r : α} (h : ∀ k, g (k + 1) = f k) (k : Ev f r) : Ev g r := Ev.step h k
theorem zCO {α : Type} {f : α → Option Bool} {p : α → Bool} : ∀ (i : Nat) (l : List α), (∀ x ∈ l, f x = some (p x)) → ∃ r, zDu f i l = some r ∧ decide (0 ≤ r) = l.any p
  | i, [], _ => ⟨-1, rfl, rfl⟩
  | i, x :: xs, h => by
    rw [zBe, h x (List.mem_cons_self ..), yfy]
    cases hp : p x with
    | true => exact ⟨i, by rw [if_pos rfl], by simp [hp]⟩
    | false =>
      obtain ⟨r, h1, h2⟩ := zCO (i + 1) xs (fun y hy => h y (List.mem_cons_of_mem _ hy))
      exact ⟨r, by rw [if_neg (by simp)]; exact h1, by rw [h2]; simp [hp]⟩
theorem contO {α : Type} {f : α → Option Bool} {p : α → Bool} (l : List α) (h : ∀ x ∈ l, f x = some (p x)) : (zDu f 0 l).bind (fun i => some (decide (0 ≤ i))) = some (l.any p) := by
  obtain ⟨r, h1, h2⟩ := zCO 0 l h
  rw [h1, yfy, h2]
def ZO (a : Int) : Nat → List Int
  | 0 => []
  | n + 1 => a :: ZO (a + 1) n
theorem Zv (a : Int) (n : Nat) : (ZO a n).length = n := by
  induction n generalizing a with
  | zero => rfl
  | succ n ih => simp [ZO, ih]
theorem zCj (a : Int) (n i : Nat) (h : i < n) : (ZO a n).getD i 0 = a + i := by
  induction n generalizing a i with
  | zero => omega
  | succ n ih =>
    cases i with
    | zero => simp [ZO]
    | succ i => simp only [ZO, List.getD_cons_succ]; rw [ih (a + 1) i (by omega)]; omega
theorem zC2 (a : Int) (n : Nat) : ZO a (n + 1) = ZO a n ++ [a + n] := by
  induction n generalizing a with
  | zero => simp [ZO]
  | succ n ih => rw [ZO, ih (a + 1)]; simp [ZO]; omega
end Go.Proofs.Ythjpdljdodalaaa.Lib
namespace Go.Proofs.Ythjpdljdodalaaa.P
open Go.RowKit Go.Proofs.YthjpdljdodalaaaW.PrintWords Go.Proofs.Ythjpdljdodalaaa.Lib
set_option linter.unusedVariables false
theorem zAd (a b c : Int) : ZD.f a b c = some (decide (b ≤ a) && decide (a ≤ c)) := by
  unfold ZD.f
  by_cases h : b ≤ a <;> simp [h]
theorem zDx (a b c : Int) : Zn.f a b c = some (decide (b ≤ a) && decide (a ≤ c)) := by
  unfold Zn.f
  by_cases h : b ≤ a <;> simp [h]
theorem zC3 (a : Int) : ZB.f a = some (decide (0 ≤ a) && decide (a ≤ 23)) := by
  unfold ZB.f
  by_cases h : 0 ≤ a
  · rw [if_pos h]; simp [h]; omega
  · rw [if_neg h]; simp [h]
theorem zDL (a : Int) : ZY.f a = some (decide (0 ≤ a) && decide (a ≤ 23)) := by
  unfold ZY.f; rw [zAd]; rfl
theorem zEE {p : Int} (h0 : 0 ≤ p) (h1 : p ≤ 23) : ∃ m : Fin 24, p = (m.val : Int) := ⟨⟨p.toNat, by omega⟩, by simp; omega⟩
theorem zBg {p : Int} (h0 : 0 ≤ p) (h1 : p ≤ 23) : Ev (fun k => zU.f k p) (qp p) := by
  obtain ⟨m, rfl⟩ := zEE h0 h1
  have key : ∀ m : Fin 24, zU.f 5 (m.val : Int) = some (qp (m.val : Int)) := by decide +kernel
  exact Ev.of (fun k => zU.mono _ k) (key m)
theorem zDM (p : Int) : (qp p).length = 4 := rfl
theorem Jb {p f : Int} (h0 : 0 ≤ p) (h1 : p ≤ 23) (hf0 : 0 ≤ f) (hf1 : f ≤ 3) : 0 ≤ rd (qp p) f ∧ rd (qp p) f ≤ 3 := by
  obtain ⟨a, b, c, d⟩ := zAG p h0 h1
  exact zAc a b c d f hf0 hf1
theorem zA3 {p f : Int} (h0 : 0 ≤ p) (h1 : p ≤ 23) (hf0 : 0 ≤ f) (hf1 : f ≤ 3) : Ev (fun k => qg.f k p f) (rd (qp p) f) := by
  refine Ev.bind (zBg h0 h1) ?_
  exact qe hf0 (qe (by rw [zDM]; omega) (Ev.now _))
theorem zCk {p : Int} (h0 : 0 ≤ p) (h1 : p ≤ 23) : Ev (fun k => zt.f k p) (zCh p) := by
  obtain ⟨m, rfl⟩ := zEE h0 h1
  have key : ∀ m : Fin 24, zt.f 40 (m.val : Int) = some (zCh (m.val : Int)) := by decide +kernel
  exact Ev.of (fun k => zt.mono _ k) (key m)
theorem zDN {q p f : Int} (h0 : 0 ≤ p) (h1 : p ≤ 23) (hf0 : 0 ≤ f) (hf1 : f ≤ 3) : qm.f q p f = some (rd (qp p) f) := if_pos ⟨h0, h1, hf0, hf1⟩
theorem zCl {q p a : Int} (h0 : 0 ≤ p) (h1 : p ≤ 23) : qc.f q p a = some (a, zCh p) := by
  unfold qc.f Zs.f
  rw [if_pos ⟨h0, h1⟩]; rfl
abbrev Tri := List (List zo)
def Small (t : Tri) : Prop := t.length ≤ 1048576 ∧ ∀ r ∈ t, r.length ≤ 1048576
def zCP (t : List (List qJ)) : Prop := t.length ≤ 1048576 ∧ ∀ r ∈ t, r.length ≤ 1048576
def Fits (t : List (List qJ)) : Prop := t.length ≤ 9223372036854775807 ∧ ∀ r ∈ t, r.length ≤ 9223372036854775807
theorem Qb (t : List (List qJ)) (n : Nat) (h : n < t.length) : qu t (n : Int) = t[n] := by simp [qu, h]
theorem QU (t : Tri) (n : Nat) (h : n < t.length) : zE t (n : Int) = t[n] := by simp [zE, h]
theorem zBD (t : List qJ) (n : Nat) (h : n < t.length) : Zb t (n : Int) = t[n] := by simp [Zb, h]
theorem Jk (t : List zo) (n : Nat) (h : n < t.length) : zJ t (n : Int) = t[n] := by simp [zJ, h]
theorem zAe (r : List qJ) (a : Int) (h0 : 0 ≤ a) (h1 : a ≤ 1048576) (h : r.length ≤ 9223372036854775807) : Zj.f r a = some (if a - r.length < 0 then -1 else a - r.length) := by
  unfold Zj.f
  rw [qq (by omega) (by omega)]
  split <;> rfl
theorem zC4 (t : List (List qJ)) (h : Fits t) (hl : t.length ≤ 1048576) : ∃ r, Ev (fun k => qK.l0 k t (1048576 - t.length) 0) r ∧ (0 ≤ r → ∀ x ∈ t, x.length ≤ 1048576) := by
  have key : ∀ d n : Nat, ∀ a : Int, n + d = t.length → 0 ≤ a → a ≤ 1048576 → ∃ r, Ev (fun k => qK.l0 k t a (n : Int)) r ∧ (0 ≤ r → ∀ x ∈ t.drop n, x.length ≤ 1048576) := by
    intro d
    induction d with
    | zero =>
      intro n a hn h0 h1
      refine ⟨a, qk (f := fun _ => some a) (fun k => ?_) (Ev.now a), fun _ x hx => ?_⟩
      · simp only [qK.l0]; rw [if_neg (by omega)]
      · rw [List.drop_eq_nil_of_le (by omega)] at hx; cases hx
    | succ d ih =>
      intro n a hn h0 h1
      have hlt : n < t.length := by omega
      have hf := h.2 t[n] (List.getElem_mem hlt)
      by_cases hc : a - t[n].length < 0
      · refine ⟨-1, qk (f := fun _ => some (-1)) (fun k => ?_) (Ev.now (-1)), fun h => by omega⟩
        simp only [qK.l0]
        rw [if_pos (by omega), if_pos (by omega), Qb t n hlt, zAe _ a h0 h1 hf, yfy, if_pos hc]
        rfl
      · obtain ⟨r, hr, hr2⟩ := ih (n + 1) (a - t[n].length) (by omega) (by omega) (by omega)
        refine ⟨r, qk (fun k => ?_) hr, fun h x hx => ?_⟩
        · simp only [qK.l0]
          rw [if_pos (by omega), if_pos (by omega), Qb t n hlt, zAe _ a h0 h1 hf, yfy, if_neg hc, if_neg (by omega), Za (by omega)]
        · rw [List.drop_eq_getElem_cons hlt] at hx
          rcases List.mem_cons.1 hx with rfl | hx
          · omega
          · exact hr2 h x hx
  obtain ⟨r, hr, hr2⟩ := key t.length 0 (1048576 - t.length) (by omega) (by omega) (by omega)
  exact ⟨r, hr, fun h => by have := hr2 h; rwa [List.drop_zero] at this⟩
theorem Jc (t : List (List qJ)) (h : Fits t) : ∃ r, Ev (fun k => qy.f k t 1048576) r ∧ (¬ r < 0 → zCP t) := by
  by_cases hl : (1048576 - (t.length : Int)) < 0
  · refine ⟨-1, ?_, fun h => by omega⟩
    refine Ev.bind (a := -1) (zBf (fun k => ?_)) (qe (by omega) (Ev.now _))
    unfold qK.f
    have := h.1
    rw [qq (by omega) (by omega), if_pos hl]
  · obtain ⟨r, hr, hr2⟩ := zC4 t h (by omega)
    have h2 : Ev (fun k => qK.f k t 1048576) r := by
      refine Ev.congr (fun k => ?_) hr
      unfold qK.f
      rw [qq (by omega) (by omega), if_neg hl]
    by_cases hn : r < 0
    · exact ⟨-1, Ev.bind h2 (qe hn (Ev.now _)), fun h => by omega⟩
    · exact ⟨r, Ev.bind h2 (ZU hn (Ev.now _)), fun _ => ⟨by omega, hr2 (by omega)⟩⟩
def cvF (x : qJ) : zo := ⟨x.f0, x.f1⟩
def cvR (r : List qJ) : List zo := r.map cvF
def cvT (t : List (List qJ)) : Tri := t.map cvR
theorem zDO {t : List (List qJ)} (h : zCP t) : Small (cvT t) := by
  refine ⟨by simp [cvT]; exact h.1, fun r hr => ?_⟩
  obtain ⟨s, hs, rfl⟩ := List.mem_map.1 hr
  simp [cvR]; exact h.2 s hs
theorem Jx {α β : Type} (f : α → β) (l : List α) (z : β) (n : Nat) (h : n < l.length) :
    ((l.take n).map f ++ List.replicate (l.length - n) z).set n (f l[n]) = (l.take (n + 1)).map f ++ List.replicate (l.length - (n + 1)) z := by
  have e : l.length - n = (l.length - (n + 1)) + 1 := by omega
  rw [e, List.replicate_succ, List.set_append_right _ _ (by simp; omega)]
  have : n - ((l.take n).map f).length = 0 := by simp; omega
  rw [this, yby, List.take_succ_eq_append_getElem h, List.map_append, List.append_assoc]
  rfl
theorem zCm (l : List qJ) (h : l.length ≤ 1048576) : Ev (fun k => qV.f k l) (cvR l) := by
  have hl : Ev (fun k => qV.l0 k l (List.replicate l.length Qs) 0) (cvR l) := by
    refine Qn (fun k (s : List zo × Int) => qV.l0 k l s.1 s.2) (fun s => ∃ n : Nat, n ≤ l.length ∧ s.2 = n ∧ s.1 = (l.take n).map cvF ++ List.replicate (l.length - n) Qs) (fun s => l.length - s.2.toNat) (fun _ => cvR l) ?_ (List.replicate l.length Qs, 0) ⟨0, by omega, rfl, by simp⟩
    rintro ⟨a, i⟩ ⟨n, hn, rfl, rfl⟩
    dsimp only
    by_cases hlt : n < l.length
    · refine .inr ⟨((l.take (n + 1)).map cvF ++ List.replicate (l.length - (n + 1)) Qs, ((n + 1 : Nat) : Int)), ⟨n + 1, by omega, rfl, rfl⟩, by simp; omega, rfl, fun k => ?_⟩
      simp only [qV.l0, QT.f, yfy]
      rw [if_pos (by omega), if_pos (by omega), if_pos (by simp; omega), Za (by omega), Int.toNat_natCast, zBD l n hlt]
      have := Jx cvF l Qs n hlt
      rw [← this]
      rfl
    · obtain rfl : n = l.length := by omega
      refine .inl fun k => ?_
      simp only [qV.l0]
      rw [if_neg (by omega)]
      simp [cvR]
  refine Ev.congr (fun k => ?_) hl
  unfold qV.f
  rw [if_pos (by omega), if_pos (by simp; omega), Int.toNat_natCast]
theorem zC5 (l : List (List qJ)) (h : zCP l) : Ev (fun k => qO.f k l) (cvT l) := by
  have hl : Ev (fun k => qO.l0 k l (List.replicate l.length []) 0) (cvT l) := by
    refine zC1 (fun k (s : Tri × Int) => qO.l0 k l s.1 s.2) (fun s => ∃ n : Nat, n ≤ l.length ∧ s.2 = n ∧ s.1 = (l.take n).map cvR ++ List.replicate (l.length - n) []) (fun s => l.length - s.2.toNat) (fun _ => cvT l) ?_ (List.replicate l.length [], 0) ⟨0, by omega, rfl, by simp⟩
    rintro ⟨a, i⟩ ⟨n, hn, rfl, rfl⟩
    dsimp only
    by_cases hlt : n < l.length
    · obtain ⟨K, hK⟩ := zCm l[n] (h.2 _ (List.getElem_mem hlt))
      refine .inr ⟨((l.take (n + 1)).map cvR ++ List.replicate (l.length - (n + 1)) [], ((n + 1 : Nat) : Int)), K, ⟨n + 1, by omega, rfl, rfl⟩, by simp; omega, rfl, fun k hk => ?_⟩
      have e : qV.f k l[n] = some _ := hK k hk
      have h1 := h.1
      simp only [qO.l0]
      rw [if_pos (by omega), if_pos (by omega), Qb l n hlt, e, yfy, if_pos (by simp; omega), Za (by omega), Int.toNat_natCast, Jx cvR l [] n hlt]
    · obtain rfl : n = l.length := by omega
      refine .inl ⟨0, fun k _ => ?_⟩
      simp only [qO.l0]
      rw [if_neg (by omega)]
      simp [cvT]
  have h1 := h.1
  refine Ev.congr (fun k => ?_) hl
  unfold qO.f
  rw [if_pos (by omega), if_pos (by simp; omega), Int.toNat_natCast]
theorem Jd (l : List (List qJ)) (h : zCP l) : Ev (fun k => qT.f k l) (cvT l) := Ev.bind (zC5 l h) (Ev.now _)
theorem zCn (l : List zo) (h : l.length ≤ 1048576) : Ev (fun k => zx.f k l l) true := by
  have hl : Ev (fun k => zx.l0 k l l 0) true := by
    refine Qn (fun k (s : Int) => zx.l0 k l l s) (fun s => ∃ n : Nat, n ≤ l.length ∧ s = n) (fun s => l.length - s.toNat) (fun _ => true) ?_ 0 ⟨0, by omega, rfl⟩
    rintro i ⟨n, hn, rfl⟩
    by_cases hlt : n < l.length
    · refine .inr ⟨((n + 1 : Nat) : Int), ⟨n + 1, by omega, rfl⟩, by simp; omega, rfl, fun k => ?_⟩
      simp only [zx.l0, Zy.f]
      rw [if_pos (by omega), if_pos (by omega), if_pos (by omega), if_pos trivial, if_pos trivial, yfy, if_pos rfl, Za (by omega)]
    · refine .inl fun k => ?_
      simp only [zx.l0]
      rw [if_neg (by omega)]
  refine Ev.congr (fun k => ?_) hl
  unfold zx.f
  rw [if_pos rfl]
theorem Je (l : Tri) (h : Small l) : Ev (fun k => ZG.f k l l) true := by
  have hl : Ev (fun k => zq.l0 k l l 0) true := by
    refine zC1 (fun k (s : Int) => zq.l0 k l l s) (fun s => ∃ n : Nat, n ≤ l.length ∧ s = n) (fun s => l.length - s.toNat) (fun _ => true) ?_ 0 ⟨0, by omega, rfl⟩
    rintro i ⟨n, hn, rfl⟩
    by_cases hlt : n < l.length
    · obtain ⟨K, hK⟩ := zCn l[n] (h.2 _ (List.getElem_mem hlt))
      refine .inr ⟨((n + 1 : Nat) : Int), K, ⟨n + 1, by omega, rfl⟩, by simp; omega, rfl, fun k hk => ?_⟩
      have e : zx.f k l[n] l[n] = some _ := hK k hk
      have h1 := h.1
      simp only [zq.l0]
      rw [if_pos (by omega), if_pos (by omega), if_pos (by omega), QU l n hlt, e, yfy, if_pos rfl, Za (by omega)]
    · refine .inl ⟨0, fun k _ => ?_⟩
      simp only [zq.l0]
      rw [if_neg (by omega)]
  have h2 : Ev (fun k => zq.f k l l) true := by
    refine Ev.congr (fun k => ?_) hl
    unfold zq.f
    rw [if_pos rfl]
  exact Ev.bind h2 (qe rfl (Ev.now _))
abbrev fc (t : Tri) (a f : Int) : zo := zJ (zE t a) f
def Jy (t : Tri) (a f : Int) : Bool :=
  if (fc t a f).f0 = -1 then (fc t a f).f1 == 0
  else if 0 ≤ (fc t a f).f0 ∧ (fc t a f).f0 < (t.length : Int) ∧ 0 ≤ (fc t a f).f1 ∧ (fc t a f).f1 ≤ 23 then
    ((fc t (fc t a f).f0 (rd (qp (fc t a f).f1) f)).f0 == a && (fc t (fc t a f).f0 (rd (qp (fc t a f).f1) f)).f1 == zCh (fc t a f).f1) && !((fc t a f).f0 == a && rd (qp (fc t a f).f1) f == f)
  else false
def Qh (t : Tri) (a : Int) : Int → Nat → Bool
  | _, 0 => true
  | f, d + 1 => Jy t a f && Qh t a (f + 1) d
def JH (t : Tri) : Int → Nat → Bool
  | _, 0 => true
  | a, d + 1 => Qh t a 0 4 && JH t (a + 1) d
def QI (t : Tri) : Bool := decide (t.length ≤ 8) && (t.all (fun r => decide (r.length = 4)) && JH t 0 t.length)
section
variable {t : Tri}
theorem zEY (h4 : ∀ r ∈ t, r.length = 4) {a : Int} (h0 : 0 ≤ a) (h1 : a < t.length) : (zE t a).length = 4 := by
  obtain ⟨n, rfl⟩ := Int.eq_ofNat_of_zero_le h0
  rw [QU t n (by omega)]
  exact h4 _ (List.getElem_mem _)
theorem zAR (h4 : ∀ r ∈ t, r.length = 4) (hn : t.length ≤ 8) {a f : Int} (h0 : 0 ≤ a) (h1 : a < t.length) (hf0 : 0 ≤ f) (hf1 : f ≤ 3) : Ev (fun k => zQ.f k t a f) (Jy t a f) := by
  have hr := zEY h4 h0 h1
  refine Ev.congr (fun k => by unfold zQ.f; rw [if_pos h0, if_pos h1, if_pos hf0, if_pos (by omega)]) ?_
  change Ev (fun k => if (fc t a f).f0 = -1 then some ((fc t a f).f1 == 0) else _) (Jy t a f)
  unfold Jy
  by_cases hb : (fc t a f).f0 = -1
  · rw [if_pos hb]; exact qe hb (Ev.now _)
  · refine ZU hb ?_
    rw [if_neg hb]
    have hix : qX.f t (fc t a f).f0 = some (decide (0 ≤ (fc t a f).f0) && decide ((fc t a f).f0 ≤ (t.length : Int) - 1)) := by
      unfold qX.f qY.f
      rw [yfy, qq (by omega) (by omega), zAd]; rfl
    have hfalse : Ev (fun k => zQ.j0 k a f true t (fc t a f).f0 (fc t a f).f1) false := qk (fun k => by rw [zQ.j0, if_pos rfl]) (Ev.now false)
    refine Ev.bind (Qo hix) ?_
    by_cases hi : 0 ≤ (fc t a f).f0 ∧ (fc t a f).f0 < (t.length : Int)
    · refine qe (by simp; omega) ?_
      refine Ev.bind (Qo (zDL _)) ?_
      by_cases hp : 0 ≤ (fc t a f).f1 ∧ (fc t a f).f1 ≤ 23
      · rw [if_pos ⟨hi.1, hi.2, hp.1, hp.2⟩]
        have e : (!(decide (0 ≤ (fc t a f).f1) && decide ((fc t a f).f1 ≤ 23))) = false := by simp [hp]
        rw [e]
        refine qk (fun k => by rw [zQ.j0, if_neg (by simp), zDN hp.1 hp.2 hf0 hf1, yfy]) ?_
        obtain ⟨hg0, hg1⟩ := Jb hp.1 hp.2 hf0 hf1
        have hr2 := zEY h4 hi.1 hi.2
        refine qe hi.1 (qe hi.2 (qe hg0 (qe (by rw [hr2]; omega) ?_)))
        refine Ev.bind (Qo (zCl hp.1 hp.2)) ?_
        change Ev (fun k => if ((fc t (fc t a f).f0 (rd (qp (fc t a f).f1) f)).f0 == a && (fc t (fc t a f).f0 (rd (qp (fc t a f).f1) f)).f1 == zCh (fc t a f).f1) = true then _ else _) _
        generalize ((fc t (fc t a f).f0 (rd (qp (fc t a f).f1) f)).f0 == a && (fc t (fc t a f).f0 (rd (qp (fc t a f).f1) f)).f1 == zCh (fc t a f).f1) = b
        cases b with
        | false => refine ZU (by simp) ?_; rw [Bool.false_and]; exact Ev.now false
        | true =>
          refine qe rfl ?_
          rw [Bool.true_and]
          by_cases ha : (fc t a f).f0 = a
          · refine qe ha (Qa ?_)
            rw [ha]; simp [bne]
          · refine ZU ha (Qa ?_)
            simp [ha]
      · rw [if_neg (by omega)]
        have e : (!(decide (0 ≤ (fc t a f).f1) && decide ((fc t a f).f1 ≤ 23))) = true := by
          rw [Bool.not_eq_true', Bool.and_eq_false_iff, decide_eq_false_iff_not, decide_eq_false_iff_not]; omega
        rw [e]
        exact hfalse
    · rw [if_neg (by omega)]
      refine ZU ?_ hfalse
      rw [Bool.and_eq_true, decide_eq_true_eq, decide_eq_true_eq]; omega
theorem zAf (h4 : ∀ r ∈ t, r.length = 4) (hn : t.length ≤ 8) {a : Int} (h0 : 0 ≤ a) (h1 : a < t.length) {R : Bool} (hR : Ev (fun k => zR.l0 k (t.length : Int) (a + 1) t) R) :
    ∀ (d : Nat) (f : Int), 0 ≤ f → f + d = 4 → Ev (fun k => zR.l1 k a (t.length : Int) a f t) (Qh t a f d && R)
  | 0, f, hf, he => by
    refine qk (fun k => by rw [zR.l1, if_neg (by omega), qq (by omega) (by omega)]) ?_
    rw [Qh, Bool.true_and]; exact hR
  | d + 1, f, hf, he => by
    refine qk (fun k => by rw [zR.l1, if_pos (by omega)]) ?_
    refine Ev.bind (zAR h4 hn h0 h1 hf (by omega)) ?_
    rw [Qh]
    cases hg : Jy t a f with
    | false => exact ZU (by simp) (by rw [Bool.false_and, Bool.false_and]; exact Ev.now false)
    | true =>
      refine qe rfl ?_
      rw [Bool.true_and]
      exact Ev.congr (fun k => by rw [qq (by omega) (by omega)]) (zAf h4 hn h0 h1 hR d (f + 1) (by omega) (by omega))
theorem zAg (h4 : ∀ r ∈ t, r.length = 4) (hn : t.length ≤ 8) : ∀ (d : Nat) (a : Int), 0 ≤ a → a + d = t.length → Ev (fun k => zR.l0 k (t.length : Int) a t) (JH t a d)
  | 0, a, ha, he => by
    refine qk (fun k => by rw [zR.l0, if_neg (by omega)]) ?_
    exact Ev.now true
  | d + 1, a, ha, he => by
    refine qk (fun k => by rw [zR.l0, if_pos (by omega)]) ?_
    rw [JH]
    exact zAf h4 hn ha (by omega) (zAg h4 hn d (a + 1) (by omega) (by omega)) 4 0 (by omega) (by omega)
theorem zBE : t.all (fun r => decide (r.length = 4)) = true ↔ ∀ r ∈ t, r.length = 4 := by simp
theorem zDP (h : Small t) : zd.f t = some (!(t.all fun r => decide (r.length = 4))) := by
  unfold zd.f zr.f
  rw [contO (p := fun r => !(decide (r.length = 4))) t (fun r _ => by
    show qW.f r = _
    unfold qW.f
    congr 1
    by_cases h : r.length = 4
    · simp [h]
    · have : ¬ ((r.length : Int) = 4) := by omega
      simp [h, this]), List.not_all_eq_any_not]
theorem zBF (h : Small t) : Ev (fun k => zR.f k t) (QI t) := by
  have hfalse : Ev (fun k => zR.j0 k true t) false := qk (fun k => by rw [zR.j0, if_pos rfl]) (Ev.now false)
  unfold QI
  by_cases h8 : t.length ≤ 8
  · refine Ev.congr (fun k => by unfold zR.f; rw [if_neg (by omega), zDP h, yfy]) ?_
    rw [ygy h8, Bool.true_and]
    cases hall : t.all (fun r => decide (r.length = 4)) with
    | false => rw [Bool.false_and]; exact hfalse
    | true =>
      rw [Bool.true_and]
      refine qk (fun k => by rw [zR.j0, if_neg (by simp)]) ?_
      exact zAg (zBE.1 hall) h8 t.length 0 (by omega) (by omega)
  · refine Ev.congr (fun k => by unfold zR.f; rw [if_pos (by omega)]) ?_
    rw [yhy h8, Bool.false_and]; exact hfalse
theorem zAh (h4 : ∀ r ∈ t, r.length = 4) (hn : t.length ≤ 8) {a : Int} (h0 : 0 ≤ a) (h1 : a < t.length) {R : Bool} (hR : Ev (fun k => zM.l1 k (a + 1) t) R) :
    ∀ (d : Nat) (f : Int), 0 ≤ f → f + d = 4 → Ev (fun k => zM.l2 k a f t) (Qh t a f d && R)
  | 0, f, hf, he => by
    refine qk (fun k => by rw [zM.l2, if_neg (by omega), qq (by omega) (by omega)]) ?_
    rw [Qh, Bool.true_and]; exact hR
  | d + 1, f, hf, he => by
    have hr := zEY h4 h0 h1
    have ih : Ev (fun k => zM.l2 k a (wrap64 (f + 1)) t) (Qh t a (f + 1) d && R) := Ev.congr (fun k => by rw [qq (by omega) (by omega)]) (zAh h4 hn h0 h1 hR d (f + 1) (by omega) (by omega))
    refine qk (fun k => by rw [zM.l2, if_pos (by omega), if_pos h0, if_pos h1, if_pos hf, if_pos (by omega)]) ?_
    change Ev (fun k => if (fc t a f).f0 = -1 then zM.j3 k a f ((fc t a f).f1 == 0) t (fc t a f).f0 (fc t a f).f1 else zM.j3 k a f false t (fc t a f).f0 (fc t a f).f1) _
    rw [Qh]
    have hstop : ∀ b, Ev (fun k => zM.j4 k a f true t (fc t a f).f0 (fc t a f).f1) (false && b) := fun b => by
      rw [Bool.false_and]; exact qk (fun k => by rw [zM.j4, if_pos rfl]) (Ev.now false)
    have hgo : Ev (fun k => zM.j3 k a f true t (fc t a f).f0 (fc t a f).f1) (Qh t a (f + 1) d && R) := qk (fun k => by rw [zM.j3, if_pos rfl]) ih
    have hrest : (¬ ((fc t a f).f0 = -1 ∧ (fc t a f).f1 = 0)) → Ev (fun k => zM.j3 k a f false t (fc t a f).f0 (fc t a f).f1) (Jy t a f && Qh t a (f + 1) d && R) := by
      intro hnb
      refine qk (fun k => by rw [zM.j3, zm.f, if_neg (by simp), yfy, zDx, yfy, qq (by omega) (by omega)]) ?_
      unfold Jy
      by_cases hi : 0 ≤ (fc t a f).f0 ∧ (fc t a f).f0 < (t.length : Int)
      · refine qe (by simp; omega) ?_
        refine Ev.bind (Qo (zC3 _)) ?_
        rw [if_neg (by omega)]
        by_cases hp : 0 ≤ (fc t a f).f1 ∧ (fc t a f).f1 ≤ 23
        · rw [if_pos ⟨hi.1, hi.2, hp.1, hp.2⟩]
          have e : (!(decide (0 ≤ (fc t a f).f1) && decide ((fc t a f).f1 ≤ 23))) = false := by simp [hp]
          rw [e]
          obtain ⟨hg0, hg1⟩ := Jb hp.1 hp.2 hf (by omega)
          have hr2 := zEY h4 hi.1 hi.2
          refine qk (fun k => by rw [zM.j4, if_neg (by simp)]) ?_
          refine Ev.bind (zA3 hp.1 hp.2 hf (by omega)) ?_
          refine Ev.bind (zCk hp.1 hp.2) ?_
          refine qe hi.1 (qe hi.2 (qe hg0 (qe (by rw [hr2]; omega) ?_)))
          change Ev (fun k => if (!((fc t (fc t a f).f0 (rd (qp (fc t a f).f1) f)).f0 == a) || !((fc t (fc t a f).f0 (rd (qp (fc t a f).f1) f)).f1 == zCh (fc t a f).f1)) = true then _ else _) _
          generalize ((fc t (fc t a f).f0 (rd (qp (fc t a f).f1) f)).f0 == a) = b1
          generalize ((fc t (fc t a f).f0 (rd (qp (fc t a f).f1) f)).f1 == zCh (fc t a f).f1) = b2
          cases b1 with
          | false => exact qe rfl (by rw [Bool.false_and, Bool.false_and, Bool.false_and, Bool.false_and]; exact Ev.now false)
          | true =>
            cases b2 with
            | false => exact qe rfl (by rw [Bool.true_and, Bool.false_and, Bool.false_and, Bool.false_and]; exact Ev.now false)
            | true =>
              refine ZU (by simp) ?_
              rw [Bool.true_and, Bool.true_and]
              by_cases ha : (fc t a f).f0 = a
              · refine qe ha ?_
                by_cases hg : rd (qp (fc t a f).f1) f = f
                · refine qe hg ?_
                  rw [ha, hg]
                  simp
                  exact Ev.now false
                · refine ZU hg ?_
                  have : (rd (qp (fc t a f).f1) f == f) = false := by simp [hg]
                  rw [this, Bool.and_false, Bool.not_false, Bool.true_and]
                  exact ih
              · refine ZU ha ?_
                have : ((fc t a f).f0 == a) = false := by simp [ha]
                rw [this, Bool.false_and, Bool.not_false, Bool.true_and]
                exact ih
        · rw [if_neg (by omega)]
          have e : (!(decide (0 ≤ (fc t a f).f1) && decide ((fc t a f).f1 ≤ 23))) = true := by
            rw [Bool.not_eq_true', Bool.and_eq_false_iff, decide_eq_false_iff_not, decide_eq_false_iff_not]; omega
          rw [e, Bool.false_and]
          exact hstop R
      · have hg : (if (fc t a f).f0 = -1 then ((fc t a f).f1 == 0) else if 0 ≤ (fc t a f).f0 ∧ (fc t a f).f0 < (t.length : Int) ∧ 0 ≤ (fc t a f).f1 ∧ (fc t a f).f1 ≤ 23 then
            ((fc t (fc t a f).f0 (rd (qp (fc t a f).f1) f)).f0 == a && (fc t (fc t a f).f0 (rd (qp (fc t a f).f1) f)).f1 == zCh (fc t a f).f1) && !((fc t a f).f0 == a && rd (qp (fc t a f).f1) f == f) else false) = false := by
          by_cases hb : (fc t a f).f0 = -1
          · rw [if_pos hb]; simp; intro h; exact hnb ⟨hb, h⟩
          · rw [if_neg hb, if_neg (by omega)]
        rw [hg, Bool.false_and]
        refine ZU ?_ (hstop R)
        rw [Bool.and_eq_true, decide_eq_true_eq, decide_eq_true_eq]; omega
    by_cases hb : (fc t a f).f0 = -1
    · refine qe hb ?_
      by_cases h0' : (fc t a f).f1 = 0
      · have e : Jy t a f = true := by unfold Jy; rw [if_pos hb]; simp [h0']
        rw [e, Bool.true_and]
        have e2 : ((fc t a f).f1 == 0) = true := by simp [h0']
        rw [e2]; exact hgo
      · have e2 : ((fc t a f).f1 == 0) = false := by simp [h0']
        rw [e2]; exact hrest (fun h => h0' h.2)
    · exact ZU hb (hrest (fun h => hb h.1))
theorem zAi (h4 : ∀ r ∈ t, r.length = 4) (hn : t.length ≤ 8) : ∀ (d : Nat) (a : Int), 0 ≤ a → a + d = t.length → Ev (fun k => zM.l1 k a t) (JH t a d)
  | 0, a, ha, he => by
    refine qk (fun k => by rw [zM.l1, zm.f, yfy, if_neg (by omega)]) ?_
    exact Ev.now true
  | d + 1, a, ha, he => by
    refine qk (fun k => by rw [zM.l1, zm.f, yfy, if_pos (by omega)]) ?_
    rw [JH]
    exact zAh h4 hn ha (by omega) (zAi h4 hn d (a + 1) (by omega) (by omega)) 4 0 (by omega) (by omega)
theorem zCo (h8 : t.length ≤ 8) (d : Nat) : ∀ n : Nat, n + d = t.length → (t.all (fun r => decide (r.length = 4)) = (t.drop n).all (fun r => decide (r.length = 4))) → Ev (fun k => zM.l0 k (n : Int) t) (t.all (fun r => decide (r.length = 4)) && JH t 0 t.length) := by
  induction d with
  | zero =>
    intro n hn ha
    refine qk (fun k => by rw [zM.l0, if_neg (by omega)]) ?_
    have hall : t.all (fun r => decide (r.length = 4)) = true := by rw [ha, List.drop_eq_nil_of_le (by omega)]; rfl
    rw [hall, Bool.true_and]
    exact zAi (zBE.1 hall) h8 t.length 0 (by omega) (by omega)
  | succ d ih =>
    intro n hn ha
    have hlt : n < t.length := by omega
    refine qk (fun k => by rw [zM.l0, if_pos (by omega), if_pos (by omega), QU t n hlt]) ?_
    rw [List.drop_eq_getElem_cons hlt, List.all_cons] at ha
    by_cases h : t[n].length = 4
    · refine qe (by omega) ?_
      refine Ev.congr (fun k => by rw [Za (by omega)]) (ih (n + 1) (by omega) ?_)
      rw [ha, ygy h, Bool.true_and]
    · refine ZU (by omega) ?_
      rw [ha, yhy h, Bool.false_and, Bool.false_and]
      exact Ev.now false
theorem zBG (t : Tri) : Ev (fun k => zM.f k t) (QI t) := by
  refine Ev.congr (fun k => by unfold zM.f zm.f; rw [yfy]) ?_
  unfold QI
  by_cases h8 : t.length ≤ 8
  · refine ZU (by omega) ?_
    rw [ygy h8, Bool.true_and]
    exact zCo h8 t.length 0 (by omega) (by rw [List.drop_zero])
  · refine qe (by omega) ?_
    rw [yhy h8, Bool.false_and]
    exact Ev.now false
end
theorem Zc {t : Tri} (h : QI t = true) : t.length ≤ 8 ∧ (∀ r ∈ t, r.length = 4) ∧ JH t 0 t.length = true := by
  unfold QI at h
  rw [Bool.and_eq_true, Bool.and_eq_true, decide_eq_true_eq] at h
  exact ⟨h.1, zBE.1 h.2.1, h.2.2⟩
theorem zDQ (t : Tri) (a : Int) (d : Nat) : ∀ f, Qh t a f d = true → ∀ g, f ≤ g → g < f + d → Jy t a g = true := by
  induction d with
  | zero => intro f _ g h1 h2; omega
  | succ d ih =>
    intro f h g h1 h2
    rw [Qh, Bool.and_eq_true] at h
    by_cases e : g = f
    · rw [e]; exact h.1
    · exact ih (f + 1) h.2 g (by omega) (by omega)
theorem zDR (t : Tri) (d : Nat) : ∀ a, JH t a d = true → ∀ b, a ≤ b → b < a + d → ∀ g, 0 ≤ g → g ≤ 3 → Jy t b g = true := by
  induction d with
  | zero => intro a _ b h1 h2; omega
  | succ d ih =>
    intro a h b h1 h2 g hg0 hg1
    rw [JH, Bool.and_eq_true] at h
    by_cases e : b = a
    · rw [e]; exact zDQ t a 4 0 h.1 g hg0 (by omega)
    · exact ih (a + 1) h.2 b (by omega) (by omega) g hg0 hg1
theorem Jf {t : Tri} (h : QI t = true) {a f : Int} (h0 : 0 ≤ a) (h1 : a < t.length) (hf0 : 0 ≤ f) (hf1 : f ≤ 3) :
    ((fc t a f).f0 = -1 ∧ (fc t a f).f1 = 0) ∨
    ((0 ≤ (fc t a f).f0 ∧ (fc t a f).f0 < (t.length : Int) ∧ 0 ≤ (fc t a f).f1 ∧ (fc t a f).f1 ≤ 23) ∧
      (fc t (fc t a f).f0 (rd (qp (fc t a f).f1) f)).f0 = a ∧ (fc t (fc t a f).f0 (rd (qp (fc t a f).f1) f)).f1 = zCh (fc t a f).f1 ∧ ¬ ((fc t a f).f0 = a ∧ rd (qp (fc t a f).f1) f = f)) := by
  have hg := zDR t t.length 0 (Zc h).2.2 a h0 (by omega) f hf0 hf1
  unfold Jy at hg
  by_cases hb : (fc t a f).f0 = -1
  · rw [if_pos hb] at hg
    exact .inl ⟨hb, by simpa using hg⟩
  · rw [if_neg hb] at hg
    by_cases hi : 0 ≤ (fc t a f).f0 ∧ (fc t a f).f0 < (t.length : Int) ∧ 0 ≤ (fc t a f).f1 ∧ (fc t a f).f1 ≤ 23
    · rw [if_pos hi, Bool.and_eq_true, Bool.and_eq_true, Bool.not_eq_true'] at hg
      refine .inr ⟨hi, eq_of_beq hg.1.1, eq_of_beq hg.1.2, fun hc => ?_⟩
      have := hg.2
      rw [Bool.and_eq_false_iff] at this
      rcases this with h2 | h2
      · exact absurd hc.1 (by simpa using h2)
      · exact absurd hc.2 (by simpa using h2)
    · rw [if_neg hi] at hg; cases hg
def zDS (cols : Nat) (j f b : Int) (p : List Int) : List (List Int) := (zCd [f]).map fun c => zBo cols j f b p c
theorem zAj (cols : Nat) (j f b : Int) (p : List Int) : ∀ (L : List Int) (A : List (List Int)), QL cols j f b p L (A.flatten, (A.length : Int)) = ((A ++ L.map fun c => zBo cols j f b p c).flatten, ((A ++ L.map fun c => zBo cols j f b p c).length : Int))
 | [], A => by simp [QL]
 | c :: cs, A => by
  have h := zAj cols j f b p cs (A ++ [zBo cols j f b p c])
  have e1 : (A ++ [zBo cols j f b p c]).flatten = A.flatten ++ zBo cols j f b p c := by simp
  have e2 : ((A ++ [zBo cols j f b p c]).length : Int) = (A.length : Int) + 1 := by simp
  rw [e1, e2] at h
  rw [QL, h]
  simp
def zDT (cols : Nat) (A : List (List Int)) (j f : Nat) (x : zo) : List (List Int) :=
 if 4 * x.f0 + rd (qp x.f1) (f : Int) < 4 * (j : Int) + (f : Int) then A else A ++ zDS cols j f x.f0 (qp x.f1)
theorem zCQ {σ τ : Type} {Rel : σ → τ → Prop} {s1 : σ → Nat → Nat → zo → σ} {s2 : τ → Nat → Nat → zo → τ} (h : ∀ a b j f x, Rel a b → Rel (s1 a j f x) (s2 b j f x)) (j : Nat) : ∀ (r : List zo) (f : Nat) (a : σ) (b : τ), Rel a b → Rel (zCe s1 j r f a) (zCe s2 j r f b)
 | [], _, _, _, hr => hr
 | x :: xs, f, a, b, hr => by
  rw [zCe, zCe]
  refine zCQ h j xs (f + 1) _ _ ?_
  split
  next =>
   exact hr
  next =>
   exact h _ _ _ _ _ hr
theorem zCR {σ τ : Type} {Rel : σ → τ → Prop} {s1 : σ → Nat → Nat → zo → σ} {s2 : τ → Nat → Nat → zo → τ} (h : ∀ a b j f x, Rel a b → Rel (s1 a j f x) (s2 b j f x)) : ∀ (l : List (List zo)) (j : Nat) (a : σ) (b : τ), Rel a b → Rel (zBB s1 l j a) (zBB s2 l j b)
 | [], _, _, _, hr => hr
 | r :: rs, j, a, b, hr => by
  rw [zBB, zBB]
  exact zCR h rs (j + 1) _ _ (zCQ h j r 0 a b hr)
def JP (t : Tri) : List (List Int) := zBB (zDT (7 * t.length)) t 0 []
theorem zDy (t : Tri) : zAQ t = ((JP t).flatten, ((JP t).length : Int)) := by
 refine zCR (Rel := fun (a : List Int × Int) (b : List (List Int)) => a = (b.flatten, (b.length : Int))) (fun a b j f x hr => ?_) t 0 ([], 0) [] (by simp)
 rw [hr]
 unfold Ja zDT
 split
 next =>
  rfl
 next =>
  exact zAj _ _ _ _ _ _ _
def Jz (t : Tri) (a f : Int) : Prop := (fc t a f).f0 > a ∨ ((fc t a f).f0 = a ∧ rd (qp (fc t a f).f1) f > f)
instance (t : Tri) (a f : Int) : Decidable (Jz t a f) := by unfold Jz; infer_instance
def QM (t : Tri) (a : Int) : Int → Nat → List (List Int)
 | _, 0 => []
 | f, d + 1 => (if Jz t a f then [[a, f]] else []) ++ QM t a (f + 1) d
def QJ (t : Tri) : Int → Nat → List (List Int)
 | _, 0 => []
 | a, d + 1 => QM t a 0 4 ++ QJ t (a + 1) d
def zBH (t : Tri) (p : List Int) : List (List Int) := zDS (7 * t.length) (rd p 0) (rd p 1) (fc t (rd p 0) (rd p 1)).f0 (qp (fc t (rd p 0) (rd p 1)).f1)
theorem zEU {t : Tri} (h : QI t = true) {a f : Int} (h0 : 0 ≤ a) (h1 : a < t.length) (hf0 : 0 ≤ f) (hf1 : f ≤ 3) (hb : ¬ (fc t a f).f0 < 0) : Jz t a f ↔ ¬ (4 * (fc t a f).f0 + rd (qp (fc t a f).f1) f < 4 * a + f) := by
 rcases Jf h h0 h1 hf0 hf1 with ⟨e, _⟩ | ⟨⟨g0, g1, g2, g3⟩, _, _, hn⟩
 next =>
  omega
 next =>
  obtain ⟨k0, k1⟩ := Jb g2 g3 hf0 hf1
  unfold Jz
  generalize (fc t a f).f0 = b at *
  generalize rd (qp (fc t a f).f1) f = g at *
  by_cases e : b = a
  next =>
   have : ¬ g = f := fun hc => hn ⟨e, hc⟩
   constructor <;> intro hh <;> omega
  next =>
   constructor <;> intro hh <;> omega
theorem zAk {t : Tri} (h : QI t = true) (j : Nat) (hj : j < t.length) : ∀ (d f : Nat) (A : List (List Int)), f + d = 4 → zCe (zDT (7 * t.length)) j (t[j].drop f) f A = A ++ (QM t j f d).flatMap (zBH t)
 | 0, f, A, hf => by
  have h4 : t[j].length = 4 := (Zc h).2.1 _ (List.getElem_mem hj)
  rw [List.drop_eq_nil_of_le (by omega), zCe, QM]; simp
 | d + 1, f, A, hf => by
  have h4 : t[j].length = 4 := (Zc h).2.1 _ (List.getElem_mem hj)
  have hlt : f < t[j].length := by omega
  have hfc : fc t (j : Int) (f : Int) = t[j][f] := by unfold fc; rw [QU t j hj, Jk _ f hlt]
  rw [List.drop_eq_getElem_cons hlt, zCe, zAk h j hj d (f + 1) _ (by omega), QM]
  have e1 : ((f : Int) + 1) = ((f + 1 : Nat) : Int) := by omega
  rw [e1, List.flatMap_append, ← List.append_assoc]
  congr 1
  have hff := zEU (a := (j : Int)) (f := (f : Int)) h (by omega) (by omega) (by omega) (by omega)
  by_cases hb : t[j][f].f0 < 0
  next =>
   rw [if_pos hb, if_neg (fun hc => by unfold Jz at hc; rw [hfc] at hc; omega)]; simp
  next =>
   rw [if_neg hb]
   have hff2 := hff (by rw [hfc]; exact hb)
   rw [hfc] at hff2
   unfold zDT
   by_cases hc : 4 * t[j][f].f0 + rd (qp t[j][f].f1) (f : Int) < 4 * (j : Int) + (f : Int)
   next =>
    rw [if_pos hc, if_neg (fun hq => (hff2.1 hq) hc)]; simp
   next =>
    rw [if_neg hc, if_pos (hff2.2 hc)]
    have e2 : zBH t [(j : Int), (f : Int)] = zDS (7 * t.length) (j : Int) (f : Int) t[j][f].f0 (qp t[j][f].f1) := by
     show zDS (7 * t.length) (j : Int) (f : Int) (fc t (j : Int) (f : Int)).f0 (qp (fc t (j : Int) (f : Int)).f1) = _
     rw [hfc]
    simp [e2]
theorem zAl {t : Tri} (h : QI t = true) : ∀ (d j : Nat) (A : List (List Int)), j + d = t.length → zBB (zDT (7 * t.length)) (t.drop j) j A = A ++ (QJ t j d).flatMap (zBH t)
 | 0, j, A, hj => by rw [List.drop_eq_nil_of_le (by omega), zBB, QJ]; simp
 | d + 1, j, A, hj => by
  have hlt : j < t.length := by omega
  have e1 : ((j : Int) + 1) = ((j + 1 : Nat) : Int) := by omega
  have h2 := zAk h j hlt 4 0 A (by omega)
  rw [List.drop_zero] at h2
  rw [List.drop_eq_getElem_cons hlt, zBB, h2, zAl h d (j + 1) _ (by omega), QJ, List.flatMap_append, List.append_assoc, e1]
  rfl
theorem JQ {t : Tri} (h : QI t = true) : JP t = (QJ t 0 t.length).flatMap (zBH t) := by
 have := zAl h t.length 0 [] (by omega)
 rw [List.drop_zero, List.nil_append] at this
 exact this
theorem zDz {t : Tri} (h : QI t = true) : zEX t := by
 obtain ⟨h8, h4, _⟩ := Zc h
 refine ⟨h8, fun r hr => by rw [h4 r hr]; omega, fun r hr x hx hb => ?_⟩
 obtain ⟨j, hj, rfl⟩ := List.getElem_of_mem hr
 obtain ⟨f, hf, rfl⟩ := List.getElem_of_mem hx
 have h4' := h4 _ (List.getElem_mem hj)
 have hfc : fc t (j : Int) (f : Int) = t[j][f] := by unfold fc; rw [QU t j hj, Jk _ f hf]
 have := Jf (a := (j : Int)) (f := (f : Int)) h (by omega) (by omega) (by omega) (by omega)
 rw [hfc] at this
 rcases this with ⟨e, _⟩ | ⟨⟨g0, g1, g2, g3⟩, _⟩
 next =>
  omega
 next =>
  exact ⟨g1, g2, g3⟩
theorem zCp {t : Tri} (h : QI t = true) : zv.f t = some (((JP t).length : Int), 7 * (t.length : Int), (JP t).flatten) := by
 unfold zv.f
 rw [if_pos (zDz h), zDy]
theorem zBh {t : Tri} (h : QI t = true) : ∀ r ∈ JP t, r.length = 7 * t.length := by
 intro r hr
 rw [JQ h] at hr
 obtain ⟨p, _, hp⟩ := List.mem_flatMap.1 hr
 obtain ⟨c, _, rfl⟩ := List.mem_map.1 hp
 exact zC0 _ _ _ _ _ _
theorem zAm (t : Tri) (a : Int) : ∀ (d : Nat) (f : Int), (QM t a f d).length ≤ d
 | 0, _ => by simp [QM]
 | d + 1, f => by
  have := zAm t a d (f + 1)
  rw [QM, List.length_append]
  split <;> simp <;> omega
theorem Jl (t : Tri) : ∀ (d : Nat) (a : Int), (QJ t a d).length ≤ 4 * d
 | 0, _ => by simp [QJ]
 | d + 1, a => by
  have := Jl t d (a + 1)
  have := zAm t a 4 0
  rw [QJ, List.length_append]
  omega
def zDU (t : Tri) (p : List Int) : Prop := ∃ a f : Int, p = [a, f] ∧ 0 ≤ a ∧ a < t.length ∧ 0 ≤ f ∧ f ≤ 3 ∧ ¬ (fc t a f).f0 < 0
theorem zBi (t : Tri) {a : Int} (h0 : 0 ≤ a) (h1 : a < t.length) : ∀ (d : Nat) (f : Int), 0 ≤ f → f + d = 4 → ∀ p ∈ QM t a f d, zDU t p
 | 0, _, _, _, p, hp => by simp [QM] at hp
 | d + 1, f, hf, he, p, hp => by
  rw [QM, List.mem_append] at hp
  rcases hp with hp | hp
  next =>
   by_cases hc : Jz t a f
   next =>
    rw [if_pos hc] at hp
    have : p = [a, f] := by simpa using hp
    exact ⟨a, f, this, h0, h1, hf, by omega, by unfold Jz at hc; omega⟩
   next =>
    rw [if_neg hc] at hp; simp at hp
  next =>
   exact zBi t h0 h1 d (f + 1) (by omega) (by omega) p hp
theorem zBj (t : Tri) : ∀ (d : Nat) (a : Int), 0 ≤ a → a + d = t.length → ∀ p ∈ QJ t a d, zDU t p
 | 0, _, _, _, p, hp => by simp [QJ] at hp
 | d + 1, a, ha, he, p, hp => by
  rw [QJ, List.mem_append] at hp
  rcases hp with hp | hp
  next =>
   exact zBi t ha (by omega) 4 0 (by omega) (by omega) p hp
  next =>
   exact zBj t d (a + 1) (by omega) (by omega) p hp
section
variable {t : Tri}
theorem JR (h : QI t = true) {a : Int} (h0 : 0 ≤ a) (h1 : a < t.length) {R : List (List Int)} {D : Nat} (hR : ∀ acc : List (List Int), acc.length + D ≤ 100 → Ev (fun k => zg.l0 k acc (a + 1) t) (acc ++ R)) :
 ∀ (d : Nat) (f : Int) (acc : List (List Int)), 0 ≤ f → f + d = 4 → acc.length + d + D ≤ 100 → Ev (fun k => zg.l1 k acc a f t) (acc ++ QM t a f d ++ R)
 | 0, f, acc, hf, he, hl => by
  have h8 := (Zc h).1
  refine qk (fun k => by rw [zg.l1, if_neg (by omega), qq (by omega) (by omega)]) ?_
  rw [QM, List.append_nil]; exact hR acc (by omega)
 | d + 1, f, acc, hf, he, hl => by
  obtain ⟨h8, h4, _⟩ := Zc h
  have hr := zEY h4 h0 h1
  refine qk (fun k => by rw [zg.l1, if_pos (by omega), if_pos h0, if_pos h1, if_pos hf, if_pos (by omega)]) ?_
  rw [QM]
  have hyes : Jz t a f → Ev (fun k => if acc.length < 5864062014805 then zg.l1 k (acc ++ [[a, f]]) a (wrap64 (f + 1)) t else none) (acc ++ ((if Jz t a f then [[a, f]] else []) ++ QM t a (f + 1) d) ++ R) := fun hc => by
   rw [if_pos hc]
   refine qe (by omega) (Ev.congr (fun k => by rw [qq (by omega) (by omega)]) ?_)
   have := JR h h0 h1 hR d (f + 1) (acc ++ [[a, f]]) (by omega) (by omega) (by simp; omega)
   rwa [List.append_assoc acc] at this
  have hno : ¬ Jz t a f → Ev (fun k => zg.l1 k acc a (wrap64 (f + 1)) t) (acc ++ ((if Jz t a f then [[a, f]] else []) ++ QM t a (f + 1) d) ++ R) := fun hc => by
   rw [if_neg hc, List.nil_append]
   exact Ev.congr (fun k => by rw [qq (by omega) (by omega)]) (JR h h0 h1 hR d (f + 1) acc (by omega) (by omega) (by omega))
  change Ev (fun k => if (fc t a f).f0 > a then _ else if (fc t a f).f0 = a then (qg.f k (fc t a f).f1 f).bind _ else _) _
  by_cases c1 : (fc t a f).f0 > a
  next =>
   exact qe c1 (hyes (.inl c1))
  next =>
   refine ZU c1 ?_
   by_cases c2 : (fc t a f).f0 = a
   next =>
    have hp : 0 ≤ (fc t a f).f1 ∧ (fc t a f).f1 ≤ 23 := by
     rcases Jf h h0 h1 hf (by omega) with ⟨e, _⟩ | ⟨⟨_, _, g2, g3⟩, _⟩
     next =>
      omega
     next =>
      exact ⟨g2, g3⟩
    refine qe c2 (Ev.bind (zA3 hp.1 hp.2 hf (by omega)) ?_)
    by_cases c3 : rd (qp (fc t a f).f1) f > f
    next =>
     exact qe c3 (hyes (.inr ⟨c2, c3⟩))
    next =>
     exact ZU c3 (hno (fun hc => by rcases hc with hc | hc; exact c1 hc; exact c3 hc.2))
   next =>
    exact ZU c2 (hno (fun hc => by rcases hc with hc | hc; exact c1 hc; exact c2 hc.1))
theorem zAH (h : QI t = true) : ∀ (d : Nat) (a : Int) (acc : List (List Int)), 0 ≤ a → a + d = t.length → acc.length + 4 * d ≤ 100 → Ev (fun k => zg.l0 k acc a t) (acc ++ QJ t a d)
 | 0, a, acc, ha, he, hl => by
  refine qk (fun k => by rw [zg.l0, zm.f, yfy, if_neg (by omega)]) ?_
  rw [QJ, List.append_nil]; exact Ev.now _
 | d + 1, a, acc, ha, he, hl => by
  refine qk (fun k => by rw [zg.l0, zm.f, yfy, if_pos (by omega)]) ?_
  have := JR h ha (by omega) (R := QJ t (a + 1) d) (D := 4 * d) (fun acc2 hl2 => zAH h d (a + 1) acc2 (by omega) (by omega) hl2) 4 0 acc (by omega) (by omega) (by omega)
  rwa [List.append_assoc] at this
theorem zBI (h : QI t = true) : Ev (fun k => zg.f k t) (QJ t 0 t.length) := by
 have h8 := (Zc h).1
 have := zAH h t.length 0 [] (by omega) (by omega) (by simp; omega)
 rwa [List.nil_append] at this
theorem zAn {a b : Int} (ha : sm a) (hb : sm b) (hne : b ≠ a) : zw.f a b = some (qd b a) := by
 obtain ⟨ha0, ha1⟩ := ha
 obtain ⟨hb0, hb1⟩ := hb
 rcases (show a = 0 ∨ a = 1 ∨ a = 2 ∨ a = 3 by omega) with rfl | rfl | rfl | rfl <;> rcases (show b = 0 ∨ b = 1 ∨ b = 2 ∨ b = 3 by omega) with rfl | rfl | rfl | rfl <;> first | exact absurd rfl hne | decide +kernel
theorem qd_bd {a b : Int} (ha : sm a) (hb : sm b) (hne : a ≠ b) : 0 ≤ qd a b ∧ qd a b ≤ 2 := (zBz ha hb hne).2
theorem zAo (h : QI t = true) {P : List (List Int)} {i : Int} {a f : Int} (h0 : 0 ≤ a) (h1 : a < t.length) (hf0 : 0 ≤ f) (hf1 : f ≤ 3) (hb : ¬ (fc t a f).f0 < 0) {R : List (List Int)} {D : Nat} (hi : 0 ≤ i) (hi2 : i ≤ 1000)
 (hR : ∀ acc : List (List Int), acc.length + D ≤ 1000 → Ev (fun k => zf.l0 k acc P (i + 1) t) (acc ++ R)) :
 ∀ (d : Nat) (c : Int) (acc : List (List Int)), 0 ≤ c → c + d = 4 → acc.length + d + D ≤ 1000 → Ev (fun k => zf.l1 k acc P i a f c t) (acc ++ ((ZO c d).filter fun x => ![f].contains x).map (fun x => zBo (7 * t.length) a f (fc t a f).f0 (qp (fc t a f).f1) x) ++ R)
 | 0, c, acc, hc, he, hl => by
  refine qk (fun k => by rw [zf.l1, if_neg (by omega), qq (by omega) (by omega)]) ?_
  rw [ZO]; simp only [List.filter_nil, yky, List.append_nil]; exact hR acc (by omega)
 | d + 1, c, acc, hc, he, hl => by
  obtain ⟨h8, h4, _⟩ := Zc h
  have ih := fun (acc2 : List (List Int)) (hl2 : acc2.length + d + D ≤ 1000) => zAo h h0 h1 hf0 hf1 hb hi hi2 hR d (c + 1) acc2 (by omega) (by omega) hl2
  by_cases hcf : c = f
  next =>
   refine qk (fun k => by rw [zf.l1, if_pos (by omega), if_pos hcf, qq (by omega) (by omega)]) ?_
   have e1 : (![f].contains c) = false := by simp [hcf]
   rw [ZO, List.filter_cons, e1, if_neg (by simp)]
   exact ih acc (by omega)
  next =>
   have e1 : (![f].contains c) = true := by simp [hcf]
   have hsc : sm c := ⟨hc, by omega⟩
   have hsf : sm f := ⟨hf0, hf1⟩
   obtain ⟨g0, g1, g2, g3⟩ : 0 ≤ (fc t a f).f0 ∧ (fc t a f).f0 < (t.length : Int) ∧ 0 ≤ (fc t a f).f1 ∧ (fc t a f).f1 ≤ 23 := by
    rcases Jf h h0 h1 hf0 hf1 with ⟨e, _⟩ | ⟨e, _⟩
    next =>
     omega
    next =>
     exact e
   have hd := Jb g2 g3 hc (show c ≤ 3 by omega)
   have hx := Jb g2 g3 hf0 hf1
   have hne := zBb g2 g3 hsc hsf hcf
   obtain ⟨q0, q1⟩ := qd_bd hsc hsf hcf
   obtain ⟨r0, r1⟩ := qd_bd hd hx hne
   have hmr : zBo (7 * t.length) a f (fc t a f).f0 (qp (fc t a f).f1) c = Jj (Jj (JZ (JZ (List.replicate (7 * t.length) 0) (7 * a + c)) (7 * a + 4 + qd c f)) (7 * (fc t a f).f0 + rd (qp (fc t a f).f1) c)) (7 * (fc t a f).f0 + 4 + qd (rd (qp (fc t a f).f1) c) (rd (qp (fc t a f).f1) f)) := rfl
   have hcorner : Ev (fun k => qR.f k t a f c) ((fc t a f).f0, rd (qp (fc t a f).f1) f, rd (qp (fc t a f).f1) c) := by
    have hr := zEY h4 h0 h1
    refine Ev.congr (fun k => by unfold qR.f; rw [if_pos h0, if_pos h1, if_pos hf0, if_pos (by omega)]) ?_
    exact Ev.bind (zA3 g2 g3 hf0 hf1) (Ev.bind (zA3 g2 g3 hc (by omega)) (Ev.now _))
   have hbt1 := zAn hsf hsc hcf
   have hbt2 := zAn (show sm (rd (qp (fc t a f).f1) f) from hx) (show sm (rd (qp (fc t a f).f1) c) from hd) hne
   have hlt : (7 * (t.length : Int)) = ((7 * t.length : Nat) : Int) := by omega
   rw [ZO, List.filter_cons, e1, if_pos rfl, yjy, hmr]
   generalize (fc t a f).f0 = b at *
   generalize rd (qp (fc t a f).f1) c = dd at *
   generalize rd (qp (fc t a f).f1) f = x at *
   generalize qd c f = q at *
   generalize qd dd x = q2 at *
   obtain ⟨d0, d1⟩ := hd
   have w1 : wrap64 (7 * a) = 7 * a := qq (by omega) (by omega)
   have w2 : wrap64 (7 * a + c) = 7 * a + c := qq (by omega) (by omega)
   have w3 : wrap64 (7 * a + 4) = 7 * a + 4 := qq (by omega) (by omega)
   have w4 : wrap64 (7 * a + 4 + q) = 7 * a + 4 + q := qq (by omega) (by omega)
   have w5 : wrap64 (7 * b) = 7 * b := qq (by omega) (by omega)
   have w6 : wrap64 (7 * b + dd) = 7 * b + dd := qq (by omega) (by omega)
   have w7 : wrap64 (7 * b + 4) = 7 * b + 4 := qq (by omega) (by omega)
   have w8 : wrap64 (7 * b + 4 + q2) = 7 * b + 4 + q2 := qq (by omega) (by omega)
   have w9 : wrap64 (7 * (t.length : Int)) = 7 * (t.length : Int) := qq (by omega) (by omega)
   have w10 : wrap64 (c + 1) = c + 1 := qq (by omega) (by omega)
   have hln : (List.replicate (7 * t.length) (0 : Int)).length = 7 * t.length := List.length_replicate
   refine qk (fun k => by rw [zf.l1, if_pos (by omega), if_neg hcf, zm.f, yfy, w9, if_pos (by omega), if_pos (by omega), yfy, hlt, Int.toNat_natCast]) ?_
   refine Ev.bind hcorner ?_
   dsimp only
   refine Ev.congr (fun k => by rw [w1, w2, if_pos (by omega), if_pos (by rw [hln]; omega), yfy, hbt1, yfy, w3, w4, if_pos (by omega), if_pos (by rw [hln]; omega), yfy, w5, w6, if_pos (by omega), if_pos (by rw [hln]; omega), yfy, hbt2, yfy, w7, w8, if_pos (by omega), if_pos (by rw [hln]; omega), if_pos (by omega), w10]) ?_
   have := ih (acc ++ [Jj (Jj (JZ (JZ (List.replicate (7 * t.length) 0) (7 * a + c)) (7 * a + 4 + q)) (7 * b + dd)) (7 * b + 4 + q2)]) (by simp; omega)
   rw [List.append_assoc acc] at this
   exact this
theorem zAp (h : QI t = true) {P : List (List Int)} (hP : ∀ p ∈ P, zDU t p) (hPl : P.length ≤ 100) : ∀ (d i : Nat) (acc : List (List Int)), i + d = P.length → acc.length + 4 * d ≤ 1000 → Ev (fun k => zf.l0 k acc P (i : Int) t) (acc ++ (P.drop i).flatMap (zBH t))
 | 0, i, acc, he, hl => by
  refine qk (fun k => by rw [zf.l0, if_neg (by omega)]) ?_
  rw [List.drop_eq_nil_of_le (by omega)]; simp only [List.flatMap_nil, List.append_nil]; exact Ev.now _
 | d + 1, i, acc, he, hl => by
  have hlt : i < P.length := by omega
  obtain ⟨a, f, hp, h0, h1, hf0, hf1, hb⟩ := hP P[i] (List.getElem_mem hlt)
  have ex : zZ P (i : Int) = [a, f] := by simp [zZ, hlt, hp]
  refine qk (fun k => by rw [zf.l0, if_pos (by omega), if_pos (by omega), ex, if_pos (by simp), if_pos (by simp)]) ?_
  have := zAo h (P := P) (i := (i : Int)) h0 h1 hf0 hf1 hb (R := (P.drop (i + 1)).flatMap (zBH t)) (D := 4 * d) (by omega) (by omega) (fun acc2 hl2 => zAp h hP hPl d (i + 1) acc2 (by omega) hl2) 4 0 acc (by omega) (by omega) (by omega)
  rw [List.append_assoc] at this
  rw [List.drop_eq_getElem_cons hlt, hp, List.flatMap_cons]
  exact this
theorem zBk (h : QI t = true) : Ev (fun k => zf.f k t) (JP t) := by
 have h8 := (Zc h).1
 have hl := Jl t t.length 0
 refine Ev.bind (zBI h) ?_
 have := zAp h (zBj t t.length 0 (by omega) (by omega)) (by omega) (QJ t 0 t.length).length 0 [] (by omega) (by simp; omega)
 rw [List.nil_append, List.drop_zero, ← JQ h] at this
 exact this
theorem zAq (h : QI t = true) : (JP t).length ≤ 1000 := by
 have h8 := (Zc h).1
 have hl := Jl t t.length 0
 rw [JQ h, List.length_flatMap]
 have : ∀ P : List (List Int), ((P.map fun p => (zBH t p).length).sum) ≤ 4 * P.length := by
  intro P
  induction P with
  | nil => simp
  | cons p ps ih =>
   simp only [yjy, List.sum_cons, List.length_cons]
   have h1 : (zBH t p).length ≤ 4 := by unfold zBH zDS; rw [List.length_map]; exact zCM _
   omega
 have := this (QJ t 0 t.length)
 omega
end
def zAI (t : Tri) : Int := if QI t then (if (t.length : Int) > 6 then 3 else 0) else 1
theorem Jm {t : Tri} (h : zAI t = 0) : QI t = true ∧ t.length ≤ 6 := by
  unfold zAI at h
  cases ht : QI t with
  | false => rw [ht] at h; simp at h
  | true =>
    rw [ht, if_pos rfl] at h
    refine ⟨rfl, ?_⟩
    by_cases hl : (t.length : Int) > 6
    · rw [if_pos hl] at h; simp at h
    · omega
theorem zBJ (t : Tri) : Ev (fun k => Zk.f k t) (zAI t) := by
  refine Ev.bind (zBG t) ?_
  unfold zAI
  cases QI t with
  | false => exact ZU (by simp) (Ev.now _)
  | true =>
    refine qe rfl (Ev.bind (Qo (by unfold zm.f; rfl)) ?_)
    rw [if_pos rfl]
    by_cases hl : (t.length : Int) > 6
    · exact qe hl (Qa (if_pos hl).symm)
    · exact ZU hl (Qa (if_neg hl).symm)
theorem zBK {t : Tri} (hs : Small t) : Ev (fun k => ZL.f k t) (zAI t) := by
  refine Ev.bind (zBF hs) ?_
  unfold zAI
  cases QI t with
  | false => exact ZU (by simp) (Ev.now _)
  | true =>
    refine qe rfl ?_
    rw [if_pos rfl]
    by_cases hl : (t.length : Int) > 6
    · exact qe hl (Qa (if_pos hl).symm)
    · exact ZU hl (Qa (if_neg hl).symm)
end Go.Proofs.Ythjpdljdodalaaa.P
namespace Go.Proofs.Ythjpdljdodalaaa.P
open Go.RowKit Go.Proofs.YthjpdljdodalaaaW.PrintWords Go.Proofs.YthjpdljdodalaaaW.PrintLast Go.Proofs.YthjpdljdodalaaaW.PrintMore
attribute [local go_sem] QD QE QY QZ Zq Zr QF QG
set_option linter.unusedVariables false
set_option linter.unusedSimpArgs false
def ZI.l0 : Nat → List Int → List Int → Int → Option (List Int)
  | 0, _, _, _ => none
  | k + 1, x0, x3, x4 => if x4 < (x0.length : Int) then (if 0 ≤ x4 then (if x4 < (x3.length : Int) then (ZI.l0 k x0 (x3.set (x4 : Int).toNat (rd x0 x4)) (wrap64 (x4 + 1))) else (none)) else (none)) else (some x3)
def ZI.f (k : Nat) (l0 : List Int) : Option (List Int) := if 0 ≤ (l0.length : Int) then (if ((l0.length : Int) : Int).toNat ≤ 35184372088832 then (ZI.l0 k l0 (List.replicate ((l0.length : Int) : Int).toNat 0) 0) else (none)) else (none)
end Go.Proofs.Ythjpdljdodalaaa.P
namespace Go.Proofs.Ythjpdljdodalaaa.P
open Go.RowKit Go.Proofs.YthjpdljdodalaaaW.PrintWords Go.Proofs.Ythjpdljdodalaaa.Lib
set_option linter.unusedVariables false
theorem zBL {α : Type} (l : List α) (z : α) (n : Nat) (h : n < l.length) :
    (l.take n ++ List.replicate (l.length - n) z).set n l[n] = l.take (n + 1) ++ List.replicate (l.length - (n + 1)) z := by
  have e : l.length - n = (l.length - (n + 1)) + 1 := by omega
  rw [e, List.replicate_succ, List.set_append_right _ _ (by simp; omega)]
  have : n - (l.take n).length = 0 := by simp; omega
  rw [this, yby, List.take_succ_eq_append_getElem h, List.append_assoc]
  rfl
theorem zEV (l : List Int) (h : l.length ≤ 4398046511104) : Ev (fun k => ZI.f k l) l := by
  have hl : Ev (fun k => ZI.l0 k l (List.replicate l.length 0) 0) l := by
    refine Qn (fun k (s : List Int × Int) => ZI.l0 k l s.1 s.2) (fun s => ∃ n : Nat, n ≤ l.length ∧ s.2 = n ∧ s.1 = l.take n ++ List.replicate (l.length - n) 0) (fun s => l.length - s.2.toNat) (fun _ => l) ?_ (List.replicate l.length 0, 0) ⟨0, by omega, rfl, by simp⟩
    rintro ⟨a, i⟩ ⟨n, hn, rfl, rfl⟩
    dsimp only
    by_cases hlt : n < l.length
    · refine .inr ⟨(l.take (n + 1) ++ List.replicate (l.length - (n + 1)) 0, ((n + 1 : Nat) : Int)), ⟨n + 1, by omega, rfl, rfl⟩, by simp; omega, rfl, fun k => ?_⟩
      simp only [ZI.l0]
      rw [if_pos (by omega), if_pos (by omega), if_pos (by simp; omega), Za (by omega), Int.toNat_natCast, rd_lt l n hlt, zBL l 0 n hlt]
    · obtain rfl : n = l.length := by omega
      refine .inl fun k => ?_
      simp only [ZI.l0]
      rw [if_neg (by omega)]
      simp
  refine Ev.congr (fun k => ?_) hl
  unfold ZI.f
  rw [if_pos (by omega), if_pos (by simp; omega), Int.toNat_natCast]
theorem zC6 (l : List Int) (h : l.length ≤ 4398046511104) : Ev (fun k => qU.f k l l) true := by
  have hl : Ev (fun k => qU.l0 k l l 0) true := by
    refine Qn (fun k (s : Int) => qU.l0 k l l s) (fun s => ∃ n : Nat, n ≤ l.length ∧ s = n) (fun s => l.length - s.toNat) (fun _ => true) ?_ 0 ⟨0, by omega, rfl⟩
    rintro i ⟨n, hn, rfl⟩
    by_cases hlt : n < l.length
    · refine .inr ⟨((n + 1 : Nat) : Int), ⟨n + 1, by omega, rfl⟩, by simp; omega, rfl, fun k => ?_⟩
      simp only [qU.l0]
      rw [if_pos (by omega), if_pos (by omega), if_pos (by omega), if_pos trivial, Za (by omega)]
    · refine .inl fun k => ?_
      simp only [qU.l0]
      rw [if_neg (by omega)]
  refine Ev.congr (fun k => ?_) hl
  unfold qU.f
  rw [if_pos rfl]
theorem zC7 (l : List Int) (a : Int) (n : Nat) (h : n < l.length) : (ZO a n ++ l.drop n).set n (a + n) = ZO a (n + 1) ++ l.drop (n + 1) := by
  rw [List.set_append_right _ _ (by rw [Zv]; omega), Zv, Nat.sub_self, List.drop_eq_getElem_cons h, yby, zC2, List.append_assoc]
  rfl
theorem zBM (l : List Int) (a : Int) (h : l.length ≤ 4398046511104) (h0 : 0 ≤ a) (h1 : a ≤ 4398046511104) : Ev (fun k => qN.f k l a) (a + l.length, ZO a l.length) := by
  have hl : Ev (fun k => qN.l0 k l a 0) (a + l.length, ZO a l.length) := by
    refine Qn (fun k (s : List Int × Int × Int) => qN.l0 k s.1 s.2.1 s.2.2) (fun s => ∃ n : Nat, n ≤ l.length ∧ s.2.2 = n ∧ s.2.1 = a + n ∧ s.1 = ZO a n ++ l.drop n) (fun s => l.length - s.2.2.toNat) (fun _ => (a + l.length, ZO a l.length)) ?_ (l, a, 0) ⟨0, by omega, rfl, by simp, by simp [ZO]⟩
    rintro ⟨x, b, i⟩ ⟨n, hn, rfl, rfl, rfl⟩
    dsimp only
    have hlen : (ZO a n ++ l.drop n).length = l.length := by simp [Zv]; omega
    by_cases hlt : n < l.length
    · refine .inr ⟨(ZO a (n + 1) ++ l.drop (n + 1), a + ((n + 1 : Nat) : Int), ((n + 1 : Nat) : Int)), ⟨n + 1, by omega, rfl, rfl, rfl⟩, by simp; omega, rfl, fun k => ?_⟩
      simp only [qN.l0]
      rw [if_pos (by rw [hlen]; omega), if_pos (by omega), Za (by omega), Int.toNat_natCast, zC7 l a n hlt, qq (by omega) (by omega)]
      congr 1; omega
    · obtain rfl : n = l.length := by omega
      refine .inl fun k => ?_
      simp only [qN.l0]
      rw [if_neg (by rw [hlen]; omega)]
      simp
  exact hl
theorem zBN (a : Int) (m : Nat) (h : m ≤ 4398046511104) (h0 : 0 ≤ a) (h1 : a ≤ 4398046511104) : Ev (fun k => qM.f k (ZO a m) a) (a + m) := by
  have hl : Ev (fun k => qM.l0 k (ZO a m) a 0) (a + m) := by
    refine Qn (fun k (s : Int × Int) => qM.l0 k (ZO a m) s.1 s.2) (fun s => ∃ n : Nat, n ≤ m ∧ s.2 = n ∧ s.1 = a + n) (fun s => m - s.2.toNat) (fun _ => a + m) ?_ (a, 0) ⟨0, by omega, rfl, by simp⟩
    rintro ⟨b, i⟩ ⟨n, hn, rfl, rfl⟩
    dsimp only
    by_cases hlt : n < m
    · refine .inr ⟨(a + ((n + 1 : Nat) : Int), ((n + 1 : Nat) : Int)), ⟨n + 1, by omega, rfl, rfl⟩, by simp; omega, rfl, fun k => ?_⟩
      simp only [qM.l0]
      rw [if_pos (by rw [Zv]; omega), if_pos (by omega), if_pos (by rw [rd_nat, zCj a m n hlt]), Za (by omega), qq (by omega) (by omega)]
      congr 1; omega
    · obtain rfl : n = m := by omega
      refine .inl fun k => ?_
      simp only [qM.l0]
      rw [if_neg (by rw [Zv]; omega)]
  exact hl
end Go.Proofs.Ythjpdljdodalaaa.P
namespace Go.Proofs.Ythjpdljdodalaaa.P
open Go.RowKit Go.Proofs.YthjpdljdodalaaaW.PrintWords Go.Proofs.YthjpdljdodalaaaW.PrintLast Go.Proofs.YthjpdljdodalaaaW.PrintMore
attribute [local go_sem] QD QE QY QZ Zq Zr QF QG
set_option linter.unusedVariables false
set_option linter.unusedSimpArgs false
def solOk (rows cols : Int) (l v : List Int) : Prop := 0 ≤ rows ∧ rows ≤ 100000 ∧ 0 ≤ cols ∧ cols ≤ 1000 ∧ (l.length : Int) = rows * cols ∧ cols ≤ v.length
instance (rows cols : Int) (l v : List Int) : Decidable (solOk rows cols l v) := by unfold solOk; infer_instance
end Go.Proofs.Ythjpdljdodalaaa.P
namespace Go.Proofs.Ythjpdljdodalaaa.P
open Go.RowKit Go.Proofs.YthjpdljdodalaaaW.PrintWords Go.Proofs.Ythjpdljdodalaaa.Lib
set_option linter.unusedVariables false
theorem zAJ (cols : Nat) : ∀ (R : List (List Int)), (∀ r ∈ R, r.length = cols) → R.flatten.length = R.length * cols
  | [], _ => by simp
  | r :: R, h => by
    rw [List.flatten_cons, List.length_append, zAJ cols R (fun x hx => h x (List.mem_cons_of_mem _ hx)), h r (List.mem_cons_self ..), List.length_cons, Nat.succ_mul]; omega
def mmR (t : Tri) : Int × Int × List Int × Int := if zAI t = 0 then (((JP t).length : Int), 7 * (t.length : Int), (JP t).flatten, 0) else (0, 0, [], zAI t)
theorem zAr (R : List (List Int)) (c : Nat) (hR : ∀ r ∈ R, r.length = c) (hl : R.length ≤ 1000000) (hc : c ≤ 1000) (x y : Int) : ∀ (d n : Nat) (acc : List Int), n + d = R.length → acc.length ≤ n * 1000 → Ev (fun k => zb.l0 k R (n : Int) x y acc) (x, y, acc ++ (R.drop n).flatten, 0)
  | 0, n, acc, hn, ha => by
    refine qk (fun k => by rw [zb.l0, if_neg (by omega)]) ?_
    rw [List.drop_eq_nil_of_le (by omega)]
    exact Qa (by simp)
  | d + 1, n, acc, hn, ha => by
    have hlt : n < R.length := by omega
    have ex : zZ R (n : Int) = R[n] := by simp [zZ, hlt]
    have hr := hR R[n] (List.getElem_mem hlt)
    refine qk (fun k => by rw [zb.l0, if_pos (by omega), if_pos (by omega), ex, if_pos (by omega), Za (by omega)]) ?_
    rw [List.drop_eq_getElem_cons hlt, List.flatten_cons, ← List.append_assoc]
    exact zAr R c hR hl hc x y d (n + 1) _ (by omega) (by rw [List.length_append]; omega)
theorem zC8 (t : Tri) : Ev (fun k => zb.f k t) (mmR t) := by
  refine Ev.bind (zBJ t) ?_
  unfold mmR
  by_cases hc : zAI t = 0
  case neg => exact ZU hc (Qa (if_neg hc).symm)
  obtain ⟨ht, h6⟩ := Jm hc
  refine qe hc (Ev.bind (zBk ht) (Ev.bind (Qo (by unfold zm.f; rfl)) ?_))
  rw [if_pos hc]
  refine Ev.congr (fun k => by rw [qq (by omega) (by omega)]) ?_
  have := zAr (JP t) (7 * t.length) (zBh ht) (by have := zAq ht; omega) (by omega) ((JP t).length : Int) (7 * (t.length : Int)) (JP t).length 0 [] (by omega) (by simp)
  rw [List.drop_zero, List.nil_append] at this
  exact this
theorem zC9 {t : Tri} (hs : Small t) : Ev (fun k => qn.f k t) (mmR t) := by
  refine Ev.bind (zBK hs) ?_
  unfold mmR
  by_cases hc : zAI t = 0
  case neg => exact ZU hc (Qa (if_neg hc).symm)
  obtain ⟨ht, h6⟩ := Jm hc
  exact qe hc (Ev.bind (Qo (zCp ht)) (Qa (if_pos hc).symm))
theorem zDV (t : Tri) : (mmR t).2.2.1.length ≤ 1000000000 := by
  unfold mmR
  by_cases hc : zAI t = 0
  case neg => rw [if_neg hc]; exact Nat.zero_le _
  rw [if_pos hc]
  obtain ⟨ht, h6⟩ := Jm hc
  show (JP t).flatten.length ≤ _
  rw [zAJ _ _ (zBh ht)]
  have := zAq ht
  have h2 : (JP t).length * (7 * t.length) ≤ 1000000 * 1000 := Nat.mul_le_mul (by omega) (by omega)
  omega
def mkR (a : Int) : Nat → List zo
  | 0 => []
  | n + 1 => ⟨a, a + 1⟩ :: mkR (a + 2) n
theorem Jn (a : Int) (n : Nat) : (mkR a n).length = n := by
  induction n generalizing a with
  | zero => rfl
  | succ n ih => simp [mkR, ih]
theorem zE0 (a : Int) (n : Nat) : mkR a (n + 1) = mkR a n ++ [⟨a + 2 * n, a + 2 * n + 1⟩] := by
  induction n generalizing a with
  | zero => simp [mkR]
  | succ n ih =>
    rw [mkR, ih (a + 2)]
    have e : a + 2 + 2 * (n : Int) = a + 2 * ((n + 1 : Nat) : Int) := by omega
    rw [e]; rfl
theorem mk_set (l : List zo) (a : Int) (n : Nat) (h : n < l.length) : (mkR a n ++ l.drop n).set n ⟨a + 2 * n, a + 2 * n + 1⟩ = mkR a (n + 1) ++ l.drop (n + 1) := by
  rw [List.set_append_right _ _ (by rw [Jn]; exact yoy _), Jn, Nat.sub_self, List.drop_eq_getElem_cons h, yby, zE0, List.append_assoc]
  rfl
theorem zCA (l : List zo) (n : Nat) (v : zo) (h : n < l.length) : zJ (l.set n v) (n : Int) = v := by
  rw [Jk _ n (by rw [List.length_set]; exact h), List.getElem_set_self]
theorem zBl (l : List zo) (a : Int) (h : l.length ≤ 1099511627776) (h0 : 0 ≤ a) (h1 : a ≤ 4398046511104) : Ev (fun k => qQ.f k l a) (a + 2 * l.length, mkR a l.length) := by
  have hl : Ev (fun k => qQ.l0 k l a 0) (a + 2 * l.length, mkR a l.length) := by
    refine Qn (fun k (s : List zo × Int × Int) => qQ.l0 k s.1 s.2.1 s.2.2) (fun s => ∃ n : Nat, n ≤ l.length ∧ s.2.2 = n ∧ s.2.1 = a + 2 * n ∧ s.1 = mkR a n ++ l.drop n) (fun s => l.length - s.2.2.toNat) (fun _ => (a + 2 * l.length, mkR a l.length)) ?_ (l, a, 0) ⟨0, by omega, rfl, by simp, by simp [mkR]⟩
    rintro ⟨x, b, i⟩ ⟨n, hn, rfl, rfl, rfl⟩
    dsimp only
    have hlen : (mkR a n ++ l.drop n).length = l.length := by simp [Jn]; omega
    by_cases hlt : n < l.length
    · refine .inr ⟨(mkR a (n + 1) ++ l.drop (n + 1), a + 2 * ((n + 1 : Nat) : Int), ((n + 1 : Nat) : Int)), ⟨n + 1, by omega, rfl, rfl, rfl⟩, by simp; omega, rfl, fun k => ?_⟩
      simp only [qQ.l0]
      rw [if_pos (by rw [hlen]; omega), if_pos (by omega), yfy, Int.toNat_natCast, zCA _ n _ (by rw [hlen]; exact hlt), List.set_set, qq (x := a + 2 * (n : Int) + 1) (by omega) (by omega), mk_set l a n hlt, Za (by omega), qq (by omega) (by omega)]
      congr 1; omega
    · obtain rfl : n = l.length := by omega
      refine .inl fun k => ?_
      simp only [qQ.l0]
      rw [if_neg (by rw [hlen]; omega)]
      simp
  exact hl
def zCr : Tri → Nat
  | [] => 0
  | r :: rs => 2 * r.length + zCr rs
def mkT (a : Int) : Tri → Tri
  | [] => []
  | r :: rs => mkR a r.length :: mkT (a + 2 * r.length) rs
theorem zEW (t : Tri) (h : ∀ r ∈ t, r.length ≤ 1048576) : zCr t ≤ 2097152 * t.length := by
  induction t with
  | nil => simp [zCr]
  | cons r rs ih =>
    have h1 := h r (List.mem_cons_self ..)
    have h2 := ih (fun x hx => h x (List.mem_cons_of_mem _ hx))
    simp only [zCr, List.length_cons]; omega
theorem zBm : ∀ (suf : Tri) (pre : Tri) (a : Int), (∀ r ∈ suf, r.length ≤ 1048576) → 0 ≤ a → a + zCr suf ≤ 4398046511104 → Ev (fun k => qb.go k suf.length (pre ++ suf) a pre.length) (a + zCr suf, pre ++ mkT a suf)
  | [], pre, a, _, h0, h1 => zBf fun k => by simp [qb.go, zCr, mkT]
  | r :: rs, pre, a, hr, h0, h1 => by
    simp only [zCr] at h1
    have hm := zBl r a (by have := hr r (List.mem_cons_self ..); omega) h0 (by omega)
    have ih := zBm rs (pre ++ [mkR a r.length]) (a + 2 * r.length) (fun x hx => hr x (List.mem_cons_of_mem _ hx)) (by omega) (by omega)
    simp only [List.length_cons, qb.go]
    have e0 : List.getD (pre ++ r :: rs) pre.length [] = r := by simp
    rw [e0]
    refine Ev.bind hm ?_
    dsimp only
    have e1 : (pre ++ r :: rs).set pre.length (mkR a r.length) = pre ++ [mkR a r.length] ++ rs := by
      rw [List.set_append_right _ _ (yoy _), Nat.sub_self, yby]; simp
    rw [e1]
    have e2 : pre.length + 1 = (pre ++ [mkR a r.length]).length := by simp
    rw [e2]
    have e3 : (a + ((zCr (r :: rs) : Nat) : Int), pre ++ mkT a (r :: rs)) = (a + 2 * r.length + (zCr rs : Int), pre ++ [mkR a r.length] ++ mkT (a + 2 * r.length) rs) := by
      simp only [zCr, mkT, List.append_assoc, List.singleton_append]; congr 1; omega
    rw [e3]
    exact ih
theorem JF (t : Tri) (a : Int) (hs : Small t) (h0 : 0 ≤ a) (h1 : a ≤ 1048576) : Ev (fun k => ZA.f k t a) (a + zCr t, mkT a t) := by
  have := zBm t [] a hs.2 h0 (by have := zEW t hs.2; have := hs.1; omega)
  rw [List.nil_append, List.nil_append] at this
  exact this
end Go.Proofs.Ythjpdljdodalaaa.P
namespace Go.Proofs.Ythjpdljdodalaaa.Pure
open Go.RowKit Go.Proofs.Ythjpdljdodalaaa.P Go.Proofs.Ythjpdljdodalaaa.Lib Go.Proofs.YthjpdljdodalaaaW.PrintWords
theorem zCB (a b : Int) (l : List Int) (h : l.length ≤ 1000000000) : Ev (fun k => ZH.f k a b l a b l) true := by
  refine qe rfl (qe rfl (Ev.bind (zC6 l (by omega)) (qe rfl (Ev.now true))))
theorem JC (l : List (List qJ)) (h : Fits l) : ∃ k, qi.f k l = some true := by
  refine Ev.rounds ?_
  obtain ⟨r, hr, hs⟩ := Jc l h
  refine Ev.bind hr ?_
  by_cases hn : r < 0
  · exact qe hn (Ev.now true)
  have hsm := hs hn
  have hto := Jd l hsm
  have hS := zDO hsm
  have ho := zDV (cvT l)
  have hsp := zC8 (cvT l)
  have him := zC9 hS
  generalize mmR (cvT l) = o at *
  obtain ⟨o1, o2, o3, o4⟩ := o
  dsimp only at ho
  have heq := zCB o1 o2 o3 ho
  have hh := zBN 1 o3.length (by omega) (by omega) (by omega)
  have hhm : Ev (fun k => ZM.f k o1 o2 (ZO 1 o3.length) 1) (1 + o3.length) := Ev.bind hh (ZU (by omega) (Ev.now _))
  have hmm : Ev (fun k => Zi.f k o1 o2 o3 1) (1 + (o3.length : Int), ZO 1 o3.length) := Ev.bind (zBM o3 1 (by omega) (by omega) (by omega)) (Ev.now _)
  refine ZU hn ?_
  refine Ev.bind hto ?_
  refine Ev.bind hsp ?_
  refine Ev.bind hto ?_
  refine Ev.bind him ?_
  refine Ev.bind heq (qe rfl (qe rfl ?_))
  refine Ev.bind hto ?_
  refine Ev.bind (Je _ hS) (qe rfl ?_)
  refine Ev.bind (JF _ 1 hS (by omega) (by omega)) ?_
  refine ZU (by dsimp only; omega) ?_
  refine Ev.bind heq (qe rfl (qe rfl ?_))
  refine Ev.bind hmm ?_
  refine Ev.bind hhm ?_
  refine ZU (by omega) (qe rfl ?_)
  refine Ev.bind hto ?_
  refine Ev.bind him ?_
  refine Ev.bind heq (qe rfl (qe rfl ?_))
  refine Ev.bind hhm ?_
  exact ZU (by omega) (qe rfl (Ev.now true))
end Go.Proofs.Ythjpdljdodalaaa.Pure
namespace Go.Proofs.Ythjpdljdodalaaa.Lib
open Go.RowKit Go.Proofs.YthjpdljdodalaaaW.PrintWords Go.Joins Go.Deep Go.WideShapes Go.ChangeShapes
set_option linter.unusedVariables false
def zE1 (P : Program) (t : TypeId) {α : Type} (d : Kd α) : Prop := ∀ (H : Type) (enc : TypeId × Value → H) (w : World) (base : Nat) (spare : Nat → Bool) (held : Bool) (fuel : Nat) (cs : List Value) (x : DataW H × List MemPlace),
  DataW.trod enc P w base spare held fuel t cs = some x → ∃ y, d.K w y cs
theorem zBn {α : Type} {R : Nat → α → Prop} : ∀ n, (∀ i, i < n → ∃ y, R i y) → ∃ ys : List α, ys.length = n ∧ ∀ j p, ys[j]? = some p → R j p
  | 0, _ => ⟨[], rfl, fun j p h => by simp at h⟩
  | n + 1, h => by
    obtain ⟨ys, hl, hr⟩ := zBn n (fun i hi => h i (by omega))
    obtain ⟨y, hy⟩ := h n (by omega)
    refine ⟨ys ++ [y], by simp [hl], fun j p hj => ?_⟩
    by_cases hlt : j < n
    · rw [List.getElem?_append_left (by omega)] at hj
      exact hr j p hj
    · have hjn : j < (ys ++ [y]).length := (List.getElem?_eq_some_iff.1 hj).1
      have : j = n := by simp [hl] at hjn; omega
      subst this
      rw [List.getElem?_append_right (by omega), hl, Nat.sub_self] at hj
      injection hj with hj
      rw [← hj]
      exact hy
theorem zAK {P : Program} {t e : TypeId} {α : Type} {d : Kd α} (ht : P.underlying t = some (.slice e)) (hc : P.cellsOf e = d.sz) (h : zE1 P e d) : zE1 P t (Kd.slice e d) := by
  intro H enc w base spare held fuel cs x hx
  rcases open_slice ht hx with ⟨rfl, _⟩ | ⟨a, len, cap, m, n, D, Pl, rfl, hb, hl, hm, hmm, _, hi⟩
  · exact ⟨[], none, 0, rfl, yoy _, Kd.C_nil d w⟩
  · have each : ∀ i, i < len → ∃ y, ∃ cs', w.cells? base (a.add (i * d.sz)) d.sz = some cs' ∧ d.K w y cs' := by
      intro i hil
      have him : i < m := by rw [hmm]; split <;> omega
      obtain ⟨cs', h1, h2⟩ := hi i him
      obtain ⟨y, hy⟩ := h H enc w base spare held n cs' _ h2
      rw [hc] at h1
      exact ⟨y, cs', h1, hy⟩
    obtain ⟨ys, hlen, hys⟩ := zBn len each
    refine ⟨ys, some a, cap, by rw [hlen], by omega, rfl, ?_, fun _ => ⟨a, rfl, fun j p hj => ?_⟩⟩
    · unfold maxLen at hm; omega
    · obtain ⟨cs', h1, h2⟩ := hys j p hj
      obtain ⟨_, h3, h4⟩ := World.cells?_some h1
      refine ⟨cs', h3, h2, fun i u hu => ?_⟩
      have hil : i < d.sz := by rw [← h3]; exact (List.getElem?_eq_some_iff.1 hu).1
      rw [← hu, ← h4 i hil, Go.Deep.add_add]
theorem zBO {P : Program} {t : TypeId} {f0 f1 : Field} {α : Type} (hs : P.underlying t = some (.struct #[f0, f1])) (hone : oneCellFields P #[f0, f1] = true) (hC : P.cellsOf t = 2)
    (h0 : P.underlying f0.type = some (.int .i64)) (h1 : P.underlying f1.type = some (.int .i64)) (d : Kd α) (mk : Int → Int → α) (hK : ∀ w a b, d.K w (mk a b) [.int .i64 a, .int .i64 b]) : zE1 P t d := by
  intro H enc w base spare held fuel cs x h
  obtain ⟨y0, y1, n, hx, hl, g0, g1⟩ := trod_struct2 hs h
  obtain ⟨o0, k0⟩ := hone_of hone 0 f0 rfl
  obtain ⟨o1, k1⟩ := hone_of hone 1 f1 rfl
  rw [hC] at hl
  match cs, hl with
  | [c0, c1], _ =>
    rw [o0, k0] at g0
    rw [o1, k1] at g1
    obtain ⟨a, e0, _, _⟩ := DataW.trod_int h0 g0
    obtain ⟨b, e1, _, _⟩ := DataW.trod_int h1 g1
    simp at e0 e1
    subst e0 e1
    exact ⟨mk a b, hK w a b⟩
section
variable {H : Type} {enc : TypeId × Value → H} {P : Program} {w : World} {base : Nat} {spare : Nat → Bool} {held : Bool}
theorem array1 {α : Type} {cs : Array α} (h : cs.size = 1) : ∃ c0, cs = #[c0] := by
  obtain ⟨l⟩ := cs
  match l, h with
  | [c0], _ => exact ⟨c0, rfl⟩
theorem zDW {r : Reach} {b0 : Nat} {t e : TypeId} {f0 : Field} {α : Type} {d : Kd α} {v : Value} {D : DataW H} {p : List MemPlace} (hs : P.underlying t = some (.struct #[f0])) (hone : oneCellFields P #[f0] = true) (hC : P.cellsOf t = 1)
    (ho : zE1 P f0.type (Kd.slice e d)) (hv : Value.okWide P w r b0 t v) (h : DataW.Trod enc P w base spare held t v D p) :
    ∃ (A : Option Addr) (c : Nat) (l : List α), v = .agg #[.slice A l.length c] ∧ l.length ≤ c ∧ d.C w A l.length l := by
  obtain ⟨cs, rfl, hsz⟩ := okWide_struct hs hv
  obtain ⟨c0, rfl⟩ := array1 (hsz.trans hC)
  obtain ⟨fuel, hf⟩ := h
  obtain ⟨y0, n, hx, _, h0⟩ := trod_struct1 hs hf
  obtain ⟨o0, k0⟩ := hone_of hone 0 f0 rfl
  have h0' : DataW.trod enc P w base spare held n f0.type [c0] = some y0 := by simpa [Value.cells, o0, k0] using h0
  obtain ⟨l, A, c, e1, hl, hCC⟩ := ho H enc w base spare held n _ _ h0'
  simp at e1
  subst e1
  exact ⟨A, c, l, rfl, hl, hCC⟩
end
theorem zDX {e : Nat} {α : Type} {d : Kd α} {w : World} {A : Option Addr} {l : List (List α)} (h : (Kd.slice e d).C w A l.length l) : l.length ≤ 9223372036854775807 ∧ ∀ r ∈ l, r.length ≤ 9223372036854775807 := by
  refine ⟨h.2.1, fun r hr => ?_⟩
  obtain ⟨j, hj, rfl⟩ := List.mem_iff_getElem.1 hr
  obtain ⟨ad, _, hc⟩ := h.2.2 (by omega)
  obtain ⟨c, _, hK, _⟩ := hc j _ (List.getElem?_eq_getElem hj)
  obtain ⟨A', c', _, _, hC⟩ := hK
  exact hC.2.1
end Go.Proofs.Ythjpdljdodalaaa.Lib
namespace Go.Proofs.Ythjpdljdodalaaa.fnExactMatchingMatrix
open Go.ChangeShapes Go.WideShapes Go.ChangeAt Go.RowKit Go.Proofs.Ythjpdljdodalaaa.Lib Go.Proofs.YthjpdljdodalaaaW.PrintWords Go.Proofs.Ythjpdljdodalaaa.P
open Go.ChangeMaps (open_string shut_string)
set_option linter.unusedVariables false
theorem own : ownKnob Try.prog.godebug = none := by kernel_rfl
theorem laidOut : laidOutB Try.prog = true := by kernel_rfl
set_option maxRecDepth 100000 in
theorem lifted (os : Os) (started : os.Started) (H : Type) (enc : TypeId × Value → H) :
    ReturnsInHanded {} Try.checked os 4 .any (Rows.fnExactMatchingMatrixSpec.pre6 enc Try.prog Try.f4 Rows.fnExactMatchingMatrixRow.domain false) (Rows.fnExactMatchingMatrixSpec.post enc Try.prog Try.f4 false true false false) := by
  refine returnsInHanded_of_change_sized (C := Try.checked) own started (by kernel_rfl) Try.func4
    (ChangeSpec.witness6 (enc := enc) (C := Try.checked) false ⟨#[], #[.agg #[.slice none 0 0]], []⟩ 8 (by kernel_rfl) (by kernel_rfl) (by kernel_rfl) (by kernel_rfl)) ?_
  intro W base args ds gs before hval0 hW hcnd hsz0 _
  have hval : ∀ (j : Nat) t v, Try.f4.params[j]? = some t → args[j]? = some v → Value.okWide Try.prog W .any base t v := hval0
  have hW' := hW
  obtain ⟨p, q, hA0, hV, rfl, hfz, hnd⟩ := hW
  have hA : DataW.TrodAll enc Try.prog W 0 (fun _ => true) true Try.f4.params.toList args.toList ds p := hA0
  rw [Try.params4] at hA hval
  obtain ⟨v0, vs0, d0, ds0, p0, q0, hargs, rfl, rfl, h0, r0⟩ := trodAll_cons hA
  obtain ⟨rfl, rfl, rfl⟩ := trodAll_nil r0
  obtain rfl : args = #[v0] := by cases args; simp_all
  obtain ⟨rfl, rfl⟩ := trodVars_none hV
  have k0 := h0
  have lt0 : ∀ x ∈ p0, x.block < W.heap.size := by obtain ⟨m, hm⟩ := k0; exact DataW.trod_lt m _ _ _ hm
  obtain ⟨A0, c0, l0, rfl, hl0, hC0⟩ := zDW Try.underlying24 (by kernel_rfl) (by kernel_rfl) (zAK Try.underlying22 (by kernel_rfl) (zAK Try.underlying103 (by kernel_rfl) (zBO Try.underlying136 (by kernel_rfl) (by kernel_rfl) Try.underlying2 Try.underlying2 Zl (fun a b => (⟨a, b⟩ : qJ)) (fun w a b => zBw w ⟨a, b⟩)))) (hval 0 24 v0 rfl rfl) h0
  obtain ⟨k, hk⟩ := Pure.JC l0 (zDX hC0)
  refine (qi.calls k _ _ l0 W hC0 hl0 hk).mono fun e W' ⟨he, bel⟩ => ?_
  subst he
  exact ⟨_, rfl, _, _, _, [], _, [], hW', trodAll_mk1 (shut_bool Try.underlying4 _), (trodAll_cons_mk (Below.trod laidOut (by kernel_rfl) (of_decide_eq_true (by kernel_rfl)) k0 bel lt0) trodAll_mk0), rfl, bel.frame _, fun h => by cases h⟩
theorem over : Rows.fnExactMatchingMatrixRow.holds Try.pinned (OpenSpec.ofChange Rows.fnExactMatchingMatrixSpec) :=
  OpenClaim.holds_of_wide 4 Try.f4 rfl rfl rfl rfl rfl rfl rfl ⟨rfl, rfl, rfl, rfl, rfl⟩ rfl rfl rfl rfl rfl (by kernel_rfl) Try.func4 (by kernel_rfl)
    (of_decide_eq_true (by kernel_rfl)) (by unfold Func.isWrapper; first | (rw [if_pos (by decide +kernel)]; kernel_rfl) | (rw [if_neg (by decide +kernel)]; exact ⟨rfl, rfl⟩))
    (fun os started H enc _ => lifted os started H enc)
theorem proved : Rows.FnExactMatchingMatrixSaid := over
#print axioms proved
end Go.Proofs.Ythjpdljdodalaaa.fnExactMatchingMatrix
namespace Go.Proofs.Ythjpdljdodalaaa
theorem fnExactMatchingMatrix_holds : Rows.FnExactMatchingMatrixSaid := fnExactMatchingMatrix.proved
end Go.Proofs.Ythjpdljdodalaaa
