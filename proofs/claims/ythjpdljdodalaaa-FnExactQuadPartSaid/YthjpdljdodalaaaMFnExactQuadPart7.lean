/- The statement FnExactQuadPartSaid, proved: part 7 of 7 (texts of this session and of the kit's print, put together and cut to what is used by a program of it). -/
import Derived.Test.YthjpdljdodalaaaMFnExactQuadPart6
import Derived.Deep.Slices
import Derived.ChangeSame
import Derived.ChangeArms
import Derived.WideShapes
import Derived.Lib.SmallJoins
import Derived.ChangeShapes
import Derived.Test.YthjpdljdodalaaaRows
import Derived.WalkKit
import Derived.ProofKit
import Derived.OpenShut
import Derived.ShutString
import Derived.ChangeOld
import Derived.Below
import Derived.SizedLaws
import Derived.Carry
namespace Go.Proofs.Ythjpdljdodalaaa.Lib
set_option linter.unusedVariables false
open Go.RowKit Go.Proofs.YthjpdljdodalaaaW.PrintWords
theorem zCj {σ ρ : Type} (L : Nat → σ → Option ρ) (I : σ → Prop) (m : σ → Nat) (g : σ → ρ)
    (h : ∀ s, I s → (∃ K, ∀ k, K ≤ k → L (k + 1) s = some (g s)) ∨ (∃ s' K, I s' ∧ m s' < m s ∧ g s' = g s ∧ ∀ k, K ≤ k → L (k + 1) s = L k s')) :
    ∀ s, I s → Ev (fun k => L k s) (g s) := by
  have key : ∀ (n : Nat) (s : σ), m s < n → I s → Ev (fun k => L k s) (g s) := by
    intro n
    induction n with
    | zero => intro s hs; omega
    | succ n ih =>
      intro s hs hi
      rcases h s hi with ⟨K, hK⟩ | ⟨s', K, hi', hm, hg, hK⟩
      · refine ⟨K + 1, fun k hk => ?_⟩
        obtain ⟨j, rfl⟩ : ∃ j, k = j + 1 := ⟨k - 1, by omega⟩
        exact hK j (by omega)
      · obtain ⟨K', hK'⟩ := ih s' (by omega) hi'
        refine ⟨max K K' + 1, fun k hk => ?_⟩
        obtain ⟨j, rfl⟩ : ∃ j, k = j + 1 := ⟨k - 1, by omega⟩
        show L (j + 1) s = some (g s)
        rw [hK j (by omega), ← hg]
        exact hK' j (by omega)
  intro s hi
  exact key (m s + 1) s (by omega) hi
theorem Qz {σ ρ : Type} (L : Nat → σ → Option ρ) (I : σ → Prop) (m : σ → Nat) (g : σ → ρ)
    (h : ∀ s, I s → (∀ k, L (k + 1) s = some (g s)) ∨ (∃ s', I s' ∧ m s' < m s ∧ g s' = g s ∧ ∀ k, L (k + 1) s = L k s')) :
    ∀ s, I s → Ev (fun k => L k s) (g s) :=
  zCj L I m g fun s hi => by
    rcases h s hi with h1 | ⟨s', h1, h2, h3, h4⟩
    · exact .inl ⟨0, fun k _ => h1 k⟩
    · exact .inr ⟨s', 0, h1, h2, h3, fun k _ => h4 k⟩
theorem qo {x : Int} (h0 : -9223372036854775808 ≤ x) (h1 : x ≤ 9223372036854775807) : wrap64 x = x := by
  unfold wrap64; omega
theorem ZY {n : Nat} (h : n ≤ 4611686018427387904) : wrap64 ((n : Int) + 1) = ((n + 1 : Nat) : Int) := by
  rw [qo (by omega) (by omega)]; rfl
theorem rd_nat (xs : List Int) (n : Nat) : rd xs (n : Int) = xs.getD n 0 := by simp [rd]
theorem zCk (xs : List Int) (n : Nat) (h : n < xs.length) : rd xs (n : Int) = xs[n] := by simp [rd, h]
theorem ZS {α : Type} {c : Prop} [Decidable c] {f g : Nat → Option α} {r : α} (h : ¬ c) (k : Ev g r) : Ev (fun n => if c then f n else g n) r := Ev.congr (fun _ => if_neg h) k
theorem qh {α : Type} {c : Prop} [Decidable c] {f g : Nat → Option α} {r : α} (h : c) (k : Ev f r) : Ev (fun n => if c then f n else g n) r := Ev.congr (fun _ => if_pos h) k
theorem JA {α : Type} {r r' : α} (h : r = r') : Ev (fun _ => some r) r' := h ▸ Ev.now r
theorem Qi {α : Type} {o : Option α} {r : α} (h : o = some r) : Ev (fun _ => o) r := ⟨0, fun _ _ => h⟩
theorem zCM {α : Type} {g : Nat → Option α} {r : α} (h : ∀ k, g k = some r) : Ev g r := ⟨0, fun k _ => h k⟩
theorem qi {α : Type} {g f : Nat → Option α} {r : α} (h : ∀ k, g (k + 1) = f k) (k : Ev f r) : Ev g r := Ev.step h k
theorem zD8 {α : Type} {f : α → Option Bool} {p : α → Bool} : ∀ (i : Nat) (l : List α), (∀ x ∈ l, f x = some (p x)) → ∃ r, zDV f i l = some r ∧ decide (0 ≤ r) = l.any p
  | i, [], _ => ⟨-1, rfl, rfl⟩
  | i, x :: xs, h => by
    rw [zAj, h x (List.mem_cons_self ..), yfy]
    cases hp : p x with
    | true => exact ⟨i, by rw [if_pos rfl], by simp [hp]⟩
    | false =>
      obtain ⟨r, h1, h2⟩ := zD8 (i + 1) xs (fun y hy => h y (List.mem_cons_of_mem _ hy))
      exact ⟨r, by rw [if_neg (by simp)]; exact h1, by rw [h2]; simp [hp]⟩
theorem contO {α : Type} {f : α → Option Bool} {p : α → Bool} (l : List α) (h : ∀ x ∈ l, f x = some (p x)) : (zDV f 0 l).bind (fun i => some (decide (0 ≤ i))) = some (l.any p) := by
  obtain ⟨r, h1, h2⟩ := zD8 0 l h
  rw [h1, yfy, h2]
def Zc (a : Int) : Nat → List Int
  | 0 => []
  | n + 1 => a :: Zc (a + 1) n
theorem QE (a : Int) (n : Nat) : (Zc a n).length = n := by
  induction n generalizing a with
  | zero => rfl
  | succ n ih => simp [Zc, ih]
theorem zDW (a : Int) (n i : Nat) (h : i < n) : (Zc a n).getD i 0 = a + i := by
  induction n generalizing a i with
  | zero => omega
  | succ n ih =>
    cases i with
    | zero => simp [Zc]
    | succ i => simp only [Zc, List.getD_cons_succ]; rw [ih (a + 1) i (by omega)]; omega
theorem zCl (a : Int) (n : Nat) : Zc a (n + 1) = Zc a n ++ [a + n] := by
  induction n generalizing a with
  | zero => simp [Zc]
  | succ n ih => rw [Zc, ih (a + 1)]; simp [Zc]; omega
end Go.Proofs.Ythjpdljdodalaaa.Lib
namespace Go.Proofs.Ythjpdljdodalaaa.P
open Go.RowKit Go.Proofs.YthjpdljdodalaaaW.PrintWords Go.Proofs.Ythjpdljdodalaaa.Lib
set_option linter.unusedVariables false
theorem zA8 (a b c : Int) : qv.f a b c = some (decide (b ≤ a) && decide (a ≤ c)) := by
  unfold qv.f
  by_cases h : b ≤ a <;> simp [h]
theorem zEs (a b c : Int) : Zt.f a b c = some (decide (b ≤ a) && decide (a ≤ c)) := by
  unfold Zt.f
  by_cases h : b ≤ a <;> simp [h]
theorem zCm (a : Int) : ZL.f a = some (decide (0 ≤ a) && decide (a ≤ 23)) := by
  unfold ZL.f
  by_cases h : 0 ≤ a
  · rw [if_pos h]; simp [h]; omega
  · rw [if_neg h]; simp [h]
theorem zEG (a : Int) : Zg.f a = some (decide (0 ≤ a) && decide (a ≤ 23)) := by
  unfold Zg.f; rw [zA8]; rfl
theorem zFB {p : Int} (h0 : 0 ≤ p) (h1 : p ≤ 23) : ∃ m : Fin 24, p = (m.val : Int) := ⟨⟨p.toNat, by omega⟩, by simp; omega⟩
theorem zCN {p : Int} (h0 : 0 ≤ p) (h1 : p ≤ 23) : Ev (fun k => zX.f k p) (ZA p) := by
  obtain ⟨m, rfl⟩ := zFB h0 h1
  have key : ∀ m : Fin 24, zX.f 5 (m.val : Int) = some (ZA (m.val : Int)) := by decide +kernel
  exact Ev.of (fun k => zX.mono _ k) (key m)
theorem zEH (p : Int) : (ZA p).length = 4 := rfl
theorem Js {p f : Int} (h0 : 0 ≤ p) (h1 : p ≤ 23) (hf0 : 0 ≤ f) (hf1 : f ≤ 3) : 0 ≤ rd (ZA p) f ∧ rd (ZA p) f ≤ 3 := by
  obtain ⟨a, b, c, d⟩ := zAh p h0 h1
  exact zBB a b c d f hf0 hf1
theorem zAT {p f : Int} (h0 : 0 ≤ p) (h1 : p ≤ 23) (hf0 : 0 ≤ f) (hf1 : f ≤ 3) : Ev (fun k => qp.f k p f) (rd (ZA p) f) := by
  refine Ev.bind (zCN h0 h1) ?_
  exact qh hf0 (qh (by rw [zEH]; omega) (Ev.now _))
theorem zDX {p : Int} (h0 : 0 ≤ p) (h1 : p ≤ 23) : Ev (fun k => qA.f k p) (zDS p) := by
  obtain ⟨m, rfl⟩ := zFB h0 h1
  have key : ∀ m : Fin 24, qA.f 40 (m.val : Int) = some (zDS (m.val : Int)) := by decide +kernel
  exact Ev.of (fun k => qA.mono _ k) (key m)
theorem zEI {q p f : Int} (h0 : 0 ≤ p) (h1 : p ≤ 23) (hf0 : 0 ≤ f) (hf1 : f ≤ 3) : qx.f q p f = some (rd (ZA p) f) := if_pos ⟨h0, h1, hf0, hf1⟩
theorem zDY {q p a : Int} (h0 : 0 ≤ p) (h1 : p ≤ 23) : ql.f q p a = some (a, zDS p) := by
  unfold ql.f QA.f
  rw [if_pos ⟨h0, h1⟩]; rfl
abbrev Tri := List (List zq)
def Small (t : Tri) : Prop := t.length ≤ 1048576 ∧ ∀ r ∈ t, r.length ≤ 1048576
def zD9 (t : List (List qP)) : Prop := t.length ≤ 1048576 ∧ ∀ r ∈ t, r.length ≤ 1048576
def Fits (t : List (List qP)) : Prop := t.length ≤ 9223372036854775807 ∧ ∀ r ∈ t, r.length ≤ 9223372036854775807
theorem Qn (t : List (List qP)) (n : Nat) (h : n < t.length) : ZC t (n : Int) = t[n] := by simp [ZC, h]
theorem Qf (t : Tri) (n : Nat) (h : n < t.length) : zE t (n : Int) = t[n] := by simp [zE, h]
theorem zBp (t : List qP) (n : Nat) (h : n < t.length) : Zj t (n : Int) = t[n] := by simp [Zj, h]
theorem zA9 (t : List zq) (n : Nat) (h : n < t.length) : zG t (n : Int) = t[n] := by simp [zG, h]
theorem zBC (r : List qP) (a : Int) (h0 : 0 ≤ a) (h1 : a ≤ 1048576) (h : r.length ≤ 9223372036854775807) : Zq.f r a = some (if a - r.length < 0 then -1 else a - r.length) := by
  unfold Zq.f
  rw [qo (by omega) (by omega)]
  split <;> rfl
theorem zCn (t : List (List qP)) (h : Fits t) (hl : t.length ≤ 1048576) : ∃ r, Ev (fun k => qQ.l0 k t (1048576 - t.length) 0) r ∧ (0 ≤ r → ∀ x ∈ t, x.length ≤ 1048576) := by
  have key : ∀ d n : Nat, ∀ a : Int, n + d = t.length → 0 ≤ a → a ≤ 1048576 → ∃ r, Ev (fun k => qQ.l0 k t a (n : Int)) r ∧ (0 ≤ r → ∀ x ∈ t.drop n, x.length ≤ 1048576) := by
    intro d
    induction d with
    | zero =>
      intro n a hn h0 h1
      refine ⟨a, qi (f := fun _ => some a) (fun k => ?_) (Ev.now a), fun _ x hx => ?_⟩
      · simp only [qQ.l0]; rw [if_neg (by omega)]
      · rw [List.drop_eq_nil_of_le (by omega)] at hx; cases hx
    | succ d ih =>
      intro n a hn h0 h1
      have hlt : n < t.length := by omega
      have hf := h.2 t[n] (List.getElem_mem hlt)
      by_cases hc : a - t[n].length < 0
      · refine ⟨-1, qi (f := fun _ => some (-1)) (fun k => ?_) (Ev.now (-1)), fun h => by omega⟩
        simp only [qQ.l0]
        rw [if_pos (by omega), if_pos (by omega), Qn t n hlt, zBC _ a h0 h1 hf, yfy, if_pos hc]
        rfl
      · obtain ⟨r, hr, hr2⟩ := ih (n + 1) (a - t[n].length) (by omega) (by omega) (by omega)
        refine ⟨r, qi (fun k => ?_) hr, fun h x hx => ?_⟩
        · simp only [qQ.l0]
          rw [if_pos (by omega), if_pos (by omega), Qn t n hlt, zBC _ a h0 h1 hf, yfy, if_neg hc, if_neg (by omega), ZY (by omega)]
        · rw [yoy hlt] at hx
          rcases List.mem_cons.1 hx with rfl | hx
          · omega
          · exact hr2 h x hx
  obtain ⟨r, hr, hr2⟩ := key t.length 0 (1048576 - t.length) (by omega) (by omega) (by omega)
  exact ⟨r, hr, fun h => by have := hr2 h; rwa [List.drop_zero] at this⟩
theorem Jt (t : List (List qP)) (h : Fits t) : ∃ r, Ev (fun k => ZG.f k t 1048576) r ∧ (¬ r < 0 → zD9 t) := by
  by_cases hl : (1048576 - (t.length : Int)) < 0
  · refine ⟨-1, ?_, fun h => by omega⟩
    refine Ev.bind (a := -1) (zCM (fun k => ?_)) (qh (by omega) (Ev.now _))
    unfold qQ.f
    have := h.1
    rw [qo (by omega) (by omega), if_pos hl]
  · obtain ⟨r, hr, hr2⟩ := zCn t h (by omega)
    have h2 : Ev (fun k => qQ.f k t 1048576) r := by
      refine Ev.congr (fun k => ?_) hr
      unfold qQ.f
      rw [qo (by omega) (by omega), if_neg hl]
    by_cases hn : r < 0
    · exact ⟨-1, Ev.bind h2 (qh hn (Ev.now _)), fun h => by omega⟩
    · exact ⟨r, Ev.bind h2 (ZS hn (Ev.now _)), fun _ => ⟨by omega, hr2 (by omega)⟩⟩
def cvF (x : qP) : zq := ⟨x.f0, x.f1⟩
def cvR (r : List qP) : List zq := r.map cvF
def cvT (t : List (List qP)) : Tri := t.map cvR
theorem zEJ {t : List (List qP)} (h : zD9 t) : Small (cvT t) := by
  refine ⟨by simp [cvT]; exact h.1, fun r hr => ?_⟩
  obtain ⟨s, hs, rfl⟩ := List.mem_map.1 hr
  simp [cvR]; exact h.2 s hs
theorem zAN {α β : Type} (f : α → β) (l : List α) (z : β) (n : Nat) (h : n < l.length) :
    ((l.take n).map f ++ List.replicate (l.length - n) z).set n (f l[n]) = (l.take (n + 1)).map f ++ List.replicate (l.length - (n + 1)) z := by
  have e : l.length - n = (l.length - (n + 1)) + 1 := by omega
  rw [e, List.replicate_succ, List.set_append_right _ _ (by simp; omega)]
  have : n - ((l.take n).map f).length = 0 := by simp; omega
  rw [this, yby, List.take_succ_eq_append_getElem h, List.map_append, List.append_assoc]
  rfl
theorem zDZ (l : List qP) (h : l.length ≤ 1048576) : Ev (fun k => qa.f k l) (cvR l) := by
  have hl : Ev (fun k => qa.l0 k l (List.replicate l.length JG) 0) (cvR l) := by
    refine Qz (fun k (s : List zq × Int) => qa.l0 k l s.1 s.2) (fun s => ∃ n : Nat, n ≤ l.length ∧ s.2 = n ∧ s.1 = (l.take n).map cvF ++ List.replicate (l.length - n) JG) (fun s => l.length - s.2.toNat) (fun _ => cvR l) ?_ (List.replicate l.length JG, 0) ⟨0, by omega, rfl, by simp⟩
    rintro ⟨a, i⟩ ⟨n, hn, rfl, rfl⟩
    dsimp only
    by_cases hlt : n < l.length
    · refine .inr ⟨((l.take (n + 1)).map cvF ++ List.replicate (l.length - (n + 1)) JG, ((n + 1 : Nat) : Int)), ⟨n + 1, by omega, rfl, rfl⟩, by simp; omega, rfl, fun k => ?_⟩
      simp only [qa.l0, Qe.f, yfy]
      rw [if_pos (by omega), if_pos (by omega), if_pos (by simp; omega), ZY (by omega), yny, zBp l n hlt]
      have := zAN cvF l JG n hlt
      rw [← this]
      rfl
    · obtain rfl : n = l.length := by omega
      refine .inl fun k => ?_
      simp only [qa.l0]
      rw [if_neg (by omega)]
      simp [cvR]
  refine Ev.congr (fun k => ?_) hl
  unfold qa.f
  rw [if_pos (by omega), if_pos (by simp; omega), yny]
theorem zCo (l : List (List qP)) (h : zD9 l) : Ev (fun k => qT.f k l) (cvT l) := by
  have hl : Ev (fun k => qT.l0 k l (List.replicate l.length []) 0) (cvT l) := by
    refine zCj (fun k (s : Tri × Int) => qT.l0 k l s.1 s.2) (fun s => ∃ n : Nat, n ≤ l.length ∧ s.2 = n ∧ s.1 = (l.take n).map cvR ++ List.replicate (l.length - n) []) (fun s => l.length - s.2.toNat) (fun _ => cvT l) ?_ (List.replicate l.length [], 0) ⟨0, by omega, rfl, by simp⟩
    rintro ⟨a, i⟩ ⟨n, hn, rfl, rfl⟩
    dsimp only
    by_cases hlt : n < l.length
    · obtain ⟨K, hK⟩ := zDZ l[n] (h.2 _ (List.getElem_mem hlt))
      refine .inr ⟨((l.take (n + 1)).map cvR ++ List.replicate (l.length - (n + 1)) [], ((n + 1 : Nat) : Int)), K, ⟨n + 1, by omega, rfl, rfl⟩, by simp; omega, rfl, fun k hk => ?_⟩
      have e : qa.f k l[n] = some _ := hK k hk
      have h1 := h.1
      simp only [qT.l0]
      rw [if_pos (by omega), if_pos (by omega), Qn l n hlt, e, yfy, if_pos (by simp; omega), ZY (by omega), yny, zAN cvR l [] n hlt]
    · obtain rfl : n = l.length := by omega
      refine .inl ⟨0, fun k _ => ?_⟩
      simp only [qT.l0]
      rw [if_neg (by omega)]
      simp [cvT]
  have h1 := h.1
  refine Ev.congr (fun k => ?_) hl
  unfold qT.f
  rw [if_pos (by omega), if_pos (by simp; omega), yny]
theorem Ju (l : List (List qP)) (h : zD9 l) : Ev (fun k => qY.f k l) (cvT l) := Ev.bind (zCo l h) (Ev.now _)
theorem zDa (l : List zq) (h : l.length ≤ 1048576) : Ev (fun k => qD.f k l l) true := by
  have hl : Ev (fun k => qD.l0 k l l 0) true := by
    refine Qz (fun k (s : Int) => qD.l0 k l l s) (fun s => ∃ n : Nat, n ≤ l.length ∧ s = n) (fun s => l.length - s.toNat) (fun _ => true) ?_ 0 ⟨0, by omega, rfl⟩
    rintro i ⟨n, hn, rfl⟩
    by_cases hlt : n < l.length
    · refine .inr ⟨((n + 1 : Nat) : Int), ⟨n + 1, by omega, rfl⟩, by simp; omega, rfl, fun k => ?_⟩
      simp only [qD.l0, QK.f]
      rw [if_pos (by omega), if_pos (by omega), if_pos (by omega), if_pos trivial, if_pos trivial, yfy, if_pos rfl, ZY (by omega)]
    · refine .inl fun k => ?_
      simp only [qD.l0]
      rw [if_neg (by omega)]
  refine Ev.congr (fun k => ?_) hl
  unfold qD.f
  rw [if_pos rfl]
theorem Jv (l : Tri) (h : Small l) : Ev (fun k => ZQ.f k l l) true := by
  have hl : Ev (fun k => zv.l0 k l l 0) true := by
    refine zCj (fun k (s : Int) => zv.l0 k l l s) (fun s => ∃ n : Nat, n ≤ l.length ∧ s = n) (fun s => l.length - s.toNat) (fun _ => true) ?_ 0 ⟨0, by omega, rfl⟩
    rintro i ⟨n, hn, rfl⟩
    by_cases hlt : n < l.length
    · obtain ⟨K, hK⟩ := zDa l[n] (h.2 _ (List.getElem_mem hlt))
      refine .inr ⟨((n + 1 : Nat) : Int), K, ⟨n + 1, by omega, rfl⟩, by simp; omega, rfl, fun k hk => ?_⟩
      have e : qD.f k l[n] l[n] = some _ := hK k hk
      have h1 := h.1
      simp only [zv.l0]
      rw [if_pos (by omega), if_pos (by omega), if_pos (by omega), Qf l n hlt, e, yfy, if_pos rfl, ZY (by omega)]
    · refine .inl ⟨0, fun k _ => ?_⟩
      simp only [zv.l0]
      rw [if_neg (by omega)]
  have h2 : Ev (fun k => zv.f k l l) true := by
    refine Ev.congr (fun k => ?_) hl
    unfold zv.f
    rw [if_pos rfl]
  exact Ev.bind h2 (qh rfl (Ev.now _))
abbrev fc (t : Tri) (a f : Int) : zq := zG (zE t a) f
def zAP (t : Tri) (a f : Int) : Bool :=
  if (fc t a f).f0 = -1 then (fc t a f).f1 == 0
  else if 0 ≤ (fc t a f).f0 ∧ (fc t a f).f0 < (t.length : Int) ∧ 0 ≤ (fc t a f).f1 ∧ (fc t a f).f1 ≤ 23 then
    ((fc t (fc t a f).f0 (rd (ZA (fc t a f).f1) f)).f0 == a && (fc t (fc t a f).f0 (rd (ZA (fc t a f).f1) f)).f1 == zDS (fc t a f).f1) && !((fc t a f).f0 == a && rd (ZA (fc t a f).f1) f == f)
  else false
def Qs (t : Tri) (a : Int) : Int → Nat → Bool
  | _, 0 => true
  | f, d + 1 => zAP t a f && Qs t a (f + 1) d
def JZ (t : Tri) : Int → Nat → Bool
  | _, 0 => true
  | a, d + 1 => Qs t a 0 4 && JZ t (a + 1) d
def QF (t : Tri) : Bool := decide (t.length ≤ 8) && (t.all (fun r => decide (r.length = 4)) && JZ t 0 t.length)
section
variable {t : Tri}
theorem zFR (h4 : ∀ r ∈ t, r.length = 4) {a : Int} (h0 : 0 ≤ a) (h1 : a < t.length) : (zE t a).length = 4 := by
  obtain ⟨n, rfl⟩ := Int.eq_ofNat_of_zero_le h0
  rw [Qf t n (by omega)]
  exact h4 _ (List.getElem_mem _)
theorem zAy (h4 : ∀ r ∈ t, r.length = 4) (hn : t.length ≤ 8) {a f : Int} (h0 : 0 ≤ a) (h1 : a < t.length) (hf0 : 0 ≤ f) (hf1 : f ≤ 3) : Ev (fun k => zQ.f k t a f) (zAP t a f) := by
  have hr := zFR h4 h0 h1
  refine Ev.congr (fun k => by unfold zQ.f; rw [if_pos h0, if_pos h1, if_pos hf0, if_pos (by omega)]) ?_
  change Ev (fun k => if (fc t a f).f0 = -1 then some ((fc t a f).f1 == 0) else _) (zAP t a f)
  unfold zAP
  by_cases hb : (fc t a f).f0 = -1
  · rw [if_pos hb]; exact qh hb (Ev.now _)
  · refine ZS hb ?_
    rw [if_neg hb]
    have hix : qe.f t (fc t a f).f0 = some (decide (0 ≤ (fc t a f).f0) && decide ((fc t a f).f0 ≤ (t.length : Int) - 1)) := by
      unfold qe.f qf.f
      rw [yfy, qo (by omega) (by omega), zA8]; rfl
    have hfalse : Ev (fun k => zQ.j0 k a f true t (fc t a f).f0 (fc t a f).f1) false := qi (fun k => by rw [zQ.j0, if_pos rfl]) (Ev.now false)
    refine Ev.bind (Qi hix) ?_
    by_cases hi : 0 ≤ (fc t a f).f0 ∧ (fc t a f).f0 < (t.length : Int)
    · refine qh (by simp; omega) ?_
      refine Ev.bind (Qi (zEG _)) ?_
      by_cases hp : 0 ≤ (fc t a f).f1 ∧ (fc t a f).f1 ≤ 23
      · rw [if_pos ⟨hi.1, hi.2, hp.1, hp.2⟩]
        have e : (!(decide (0 ≤ (fc t a f).f1) && decide ((fc t a f).f1 ≤ 23))) = false := by simp [hp]
        rw [e]
        refine qi (fun k => by rw [zQ.j0, if_neg (by simp), zEI hp.1 hp.2 hf0 hf1, yfy]) ?_
        obtain ⟨hg0, hg1⟩ := Js hp.1 hp.2 hf0 hf1
        have hr2 := zFR h4 hi.1 hi.2
        refine qh hi.1 (qh hi.2 (qh hg0 (qh (by rw [hr2]; omega) ?_)))
        refine Ev.bind (Qi (zDY hp.1 hp.2)) ?_
        change Ev (fun k => if ((fc t (fc t a f).f0 (rd (ZA (fc t a f).f1) f)).f0 == a && (fc t (fc t a f).f0 (rd (ZA (fc t a f).f1) f)).f1 == zDS (fc t a f).f1) = true then _ else _) _
        generalize ((fc t (fc t a f).f0 (rd (ZA (fc t a f).f1) f)).f0 == a && (fc t (fc t a f).f0 (rd (ZA (fc t a f).f1) f)).f1 == zDS (fc t a f).f1) = b
        cases b with
        | false => refine ZS (by simp) ?_; rw [Bool.false_and]; exact Ev.now false
        | true =>
          refine qh rfl ?_
          rw [Bool.true_and]
          by_cases ha : (fc t a f).f0 = a
          · refine qh ha (JA ?_)
            rw [ha]; simp [bne]
          · refine ZS ha (JA ?_)
            simp [ha]
      · rw [if_neg (by omega)]
        have e : (!(decide (0 ≤ (fc t a f).f1) && decide ((fc t a f).f1 ≤ 23))) = true := by
          rw [Bool.not_eq_true', Bool.and_eq_false_iff, decide_eq_false_iff_not, decide_eq_false_iff_not]; omega
        rw [e]
        exact hfalse
    · rw [if_neg (by omega)]
      refine ZS ?_ hfalse
      rw [Bool.and_eq_true, decide_eq_true_eq, decide_eq_true_eq]; omega
theorem zBD (h4 : ∀ r ∈ t, r.length = 4) (hn : t.length ≤ 8) {a : Int} (h0 : 0 ≤ a) (h1 : a < t.length) {R : Bool} (hR : Ev (fun k => zR.l0 k (t.length : Int) (a + 1) t) R) :
    ∀ (d : Nat) (f : Int), 0 ≤ f → f + d = 4 → Ev (fun k => zR.l1 k a (t.length : Int) a f t) (Qs t a f d && R)
  | 0, f, hf, he => by
    refine qi (fun k => by rw [zR.l1, if_neg (by omega), qo (by omega) (by omega)]) ?_
    rw [Qs, Bool.true_and]; exact hR
  | d + 1, f, hf, he => by
    refine qi (fun k => by rw [zR.l1, if_pos (by omega)]) ?_
    refine Ev.bind (zAy h4 hn h0 h1 hf (by omega)) ?_
    rw [Qs]
    cases hg : zAP t a f with
    | false => exact ZS (by simp) (by rw [Bool.false_and, Bool.false_and]; exact Ev.now false)
    | true =>
      refine qh rfl ?_
      rw [Bool.true_and]
      exact Ev.congr (fun k => by rw [qo (by omega) (by omega)]) (zBD h4 hn h0 h1 hR d (f + 1) (by omega) (by omega))
theorem zBE (h4 : ∀ r ∈ t, r.length = 4) (hn : t.length ≤ 8) : ∀ (d : Nat) (a : Int), 0 ≤ a → a + d = t.length → Ev (fun k => zR.l0 k (t.length : Int) a t) (JZ t a d)
  | 0, a, ha, he => by
    refine qi (fun k => by rw [zR.l0, if_neg (by omega)]) ?_
    exact Ev.now true
  | d + 1, a, ha, he => by
    refine qi (fun k => by rw [zR.l0, if_pos (by omega)]) ?_
    rw [JZ]
    exact zBD h4 hn ha (by omega) (zBE h4 hn d (a + 1) (by omega) (by omega)) 4 0 (by omega) (by omega)
theorem zBq : t.all (fun r => decide (r.length = 4)) = true ↔ ∀ r ∈ t, r.length = 4 := by simp
theorem zEK (h : Small t) : zd.f t = some (!(t.all fun r => decide (r.length = 4))) := by
  unfold zd.f zz.f
  rw [contO (p := fun r => !(decide (r.length = 4))) t (fun r _ => by
    show qc.f r = _
    unfold qc.f
    congr 1
    by_cases h : r.length = 4
    · simp [h]
    · have : ¬ ((r.length : Int) = 4) := by omega
      simp [h, this]), List.not_all_eq_any_not]
theorem zBr (h : Small t) : Ev (fun k => zR.f k t) (QF t) := by
  have hfalse : Ev (fun k => zR.j0 k true t) false := qi (fun k => by rw [zR.j0, if_pos rfl]) (Ev.now false)
  unfold QF
  by_cases h8 : t.length ≤ 8
  · refine Ev.congr (fun k => by unfold zR.f; rw [if_neg (by omega), zEK h, yfy]) ?_
    rw [ygy h8, Bool.true_and]
    cases hall : t.all (fun r => decide (r.length = 4)) with
    | false => rw [Bool.false_and]; exact hfalse
    | true =>
      rw [Bool.true_and]
      refine qi (fun k => by rw [zR.j0, if_neg (by simp)]) ?_
      exact zBE (zBq.1 hall) h8 t.length 0 (by omega) (by omega)
  · refine Ev.congr (fun k => by unfold zR.f; rw [if_pos (by omega)]) ?_
    rw [yhy h8, Bool.false_and]; exact hfalse
theorem zBF (h4 : ∀ r ∈ t, r.length = 4) (hn : t.length ≤ 8) {a : Int} (h0 : 0 ≤ a) (h1 : a < t.length) {R : Bool} (hR : Ev (fun k => zJ.l1 k (a + 1) t) R) :
    ∀ (d : Nat) (f : Int), 0 ≤ f → f + d = 4 → Ev (fun k => zJ.l2 k a f t) (Qs t a f d && R)
  | 0, f, hf, he => by
    refine qi (fun k => by rw [zJ.l2, if_neg (by omega), qo (by omega) (by omega)]) ?_
    rw [Qs, Bool.true_and]; exact hR
  | d + 1, f, hf, he => by
    have hr := zFR h4 h0 h1
    have ih : Ev (fun k => zJ.l2 k a (wrap64 (f + 1)) t) (Qs t a (f + 1) d && R) := Ev.congr (fun k => by rw [qo (by omega) (by omega)]) (zBF h4 hn h0 h1 hR d (f + 1) (by omega) (by omega))
    refine qi (fun k => by rw [zJ.l2, if_pos (by omega), if_pos h0, if_pos h1, if_pos hf, if_pos (by omega)]) ?_
    change Ev (fun k => if (fc t a f).f0 = -1 then zJ.j3 k a f ((fc t a f).f1 == 0) t (fc t a f).f0 (fc t a f).f1 else zJ.j3 k a f false t (fc t a f).f0 (fc t a f).f1) _
    rw [Qs]
    have hstop : ∀ b, Ev (fun k => zJ.j4 k a f true t (fc t a f).f0 (fc t a f).f1) (false && b) := fun b => by
      rw [Bool.false_and]; exact qi (fun k => by rw [zJ.j4, if_pos rfl]) (Ev.now false)
    have hgo : Ev (fun k => zJ.j3 k a f true t (fc t a f).f0 (fc t a f).f1) (Qs t a (f + 1) d && R) := qi (fun k => by rw [zJ.j3, if_pos rfl]) ih
    have hrest : (¬ ((fc t a f).f0 = -1 ∧ (fc t a f).f1 = 0)) → Ev (fun k => zJ.j3 k a f false t (fc t a f).f0 (fc t a f).f1) (zAP t a f && Qs t a (f + 1) d && R) := by
      intro hnb
      refine qi (fun k => by rw [zJ.j3, zr.f, if_neg (by simp), yfy, zEs, yfy, qo (by omega) (by omega)]) ?_
      unfold zAP
      by_cases hi : 0 ≤ (fc t a f).f0 ∧ (fc t a f).f0 < (t.length : Int)
      · refine qh (by simp; omega) ?_
        refine Ev.bind (Qi (zCm _)) ?_
        rw [if_neg (by omega)]
        by_cases hp : 0 ≤ (fc t a f).f1 ∧ (fc t a f).f1 ≤ 23
        · rw [if_pos ⟨hi.1, hi.2, hp.1, hp.2⟩]
          have e : (!(decide (0 ≤ (fc t a f).f1) && decide ((fc t a f).f1 ≤ 23))) = false := by simp [hp]
          rw [e]
          obtain ⟨hg0, hg1⟩ := Js hp.1 hp.2 hf (by omega)
          have hr2 := zFR h4 hi.1 hi.2
          refine qi (fun k => by rw [zJ.j4, if_neg (by simp)]) ?_
          refine Ev.bind (zAT hp.1 hp.2 hf (by omega)) ?_
          refine Ev.bind (zDX hp.1 hp.2) ?_
          refine qh hi.1 (qh hi.2 (qh hg0 (qh (by rw [hr2]; omega) ?_)))
          change Ev (fun k => if (!((fc t (fc t a f).f0 (rd (ZA (fc t a f).f1) f)).f0 == a) || !((fc t (fc t a f).f0 (rd (ZA (fc t a f).f1) f)).f1 == zDS (fc t a f).f1)) = true then _ else _) _
          generalize ((fc t (fc t a f).f0 (rd (ZA (fc t a f).f1) f)).f0 == a) = b1
          generalize ((fc t (fc t a f).f0 (rd (ZA (fc t a f).f1) f)).f1 == zDS (fc t a f).f1) = b2
          cases b1 with
          | false => exact qh rfl (by rw [Bool.false_and, Bool.false_and, Bool.false_and, Bool.false_and]; exact Ev.now false)
          | true =>
            cases b2 with
            | false => exact qh rfl (by rw [Bool.true_and, Bool.false_and, Bool.false_and, Bool.false_and]; exact Ev.now false)
            | true =>
              refine ZS (by simp) ?_
              rw [Bool.true_and, Bool.true_and]
              by_cases ha : (fc t a f).f0 = a
              · refine qh ha ?_
                by_cases hg : rd (ZA (fc t a f).f1) f = f
                · refine qh hg ?_
                  rw [ha, hg]
                  simp
                  exact Ev.now false
                · refine ZS hg ?_
                  have : (rd (ZA (fc t a f).f1) f == f) = false := by simp [hg]
                  rw [this, Bool.and_false, Bool.not_false, Bool.true_and]
                  exact ih
              · refine ZS ha ?_
                have : ((fc t a f).f0 == a) = false := by simp [ha]
                rw [this, Bool.false_and, Bool.not_false, Bool.true_and]
                exact ih
        · rw [if_neg (by omega)]
          have e : (!(decide (0 ≤ (fc t a f).f1) && decide ((fc t a f).f1 ≤ 23))) = true := by
            rw [Bool.not_eq_true', Bool.and_eq_false_iff, decide_eq_false_iff_not, decide_eq_false_iff_not]; omega
          rw [e, Bool.false_and]
          exact hstop R
      · have hg : (if (fc t a f).f0 = -1 then ((fc t a f).f1 == 0) else if 0 ≤ (fc t a f).f0 ∧ (fc t a f).f0 < (t.length : Int) ∧ 0 ≤ (fc t a f).f1 ∧ (fc t a f).f1 ≤ 23 then
            ((fc t (fc t a f).f0 (rd (ZA (fc t a f).f1) f)).f0 == a && (fc t (fc t a f).f0 (rd (ZA (fc t a f).f1) f)).f1 == zDS (fc t a f).f1) && !((fc t a f).f0 == a && rd (ZA (fc t a f).f1) f == f) else false) = false := by
          by_cases hb : (fc t a f).f0 = -1
          · rw [if_pos hb]; simp; intro h; exact hnb ⟨hb, h⟩
          · rw [if_neg hb, if_neg (by omega)]
        rw [hg, Bool.false_and]
        refine ZS ?_ (hstop R)
        rw [Bool.and_eq_true, decide_eq_true_eq, decide_eq_true_eq]; omega
    by_cases hb : (fc t a f).f0 = -1
    · refine qh hb ?_
      by_cases h0' : (fc t a f).f1 = 0
      · have e : zAP t a f = true := by unfold zAP; rw [if_pos hb]; simp [h0']
        rw [e, Bool.true_and]
        have e2 : ((fc t a f).f1 == 0) = true := by simp [h0']
        rw [e2]; exact hgo
      · have e2 : ((fc t a f).f1 == 0) = false := by simp [h0']
        rw [e2]; exact hrest (fun h => h0' h.2)
    · exact ZS hb (hrest (fun h => hb h.1))
theorem zBG (h4 : ∀ r ∈ t, r.length = 4) (hn : t.length ≤ 8) : ∀ (d : Nat) (a : Int), 0 ≤ a → a + d = t.length → Ev (fun k => zJ.l1 k a t) (JZ t a d)
  | 0, a, ha, he => by
    refine qi (fun k => by rw [zJ.l1, zr.f, yfy, if_neg (by omega)]) ?_
    exact Ev.now true
  | d + 1, a, ha, he => by
    refine qi (fun k => by rw [zJ.l1, zr.f, yfy, if_pos (by omega)]) ?_
    rw [JZ]
    exact zBF h4 hn ha (by omega) (zBG h4 hn d (a + 1) (by omega) (by omega)) 4 0 (by omega) (by omega)
theorem zDb (h8 : t.length ≤ 8) (d : Nat) : ∀ n : Nat, n + d = t.length → (t.all (fun r => decide (r.length = 4)) = (t.drop n).all (fun r => decide (r.length = 4))) → Ev (fun k => zJ.l0 k (n : Int) t) (t.all (fun r => decide (r.length = 4)) && JZ t 0 t.length) := by
  induction d with
  | zero =>
    intro n hn ha
    refine qi (fun k => by rw [zJ.l0, if_neg (by omega)]) ?_
    have hall : t.all (fun r => decide (r.length = 4)) = true := by rw [ha, List.drop_eq_nil_of_le (by omega)]; rfl
    rw [hall, Bool.true_and]
    exact zBG (zBq.1 hall) h8 t.length 0 (by omega) (by omega)
  | succ d ih =>
    intro n hn ha
    have hlt : n < t.length := by omega
    refine qi (fun k => by rw [zJ.l0, if_pos (by omega), if_pos (by omega), Qf t n hlt]) ?_
    rw [yoy hlt, List.all_cons] at ha
    by_cases h : t[n].length = 4
    · refine qh (by omega) ?_
      refine Ev.congr (fun k => by rw [ZY (by omega)]) (ih (n + 1) (by omega) ?_)
      rw [ha, ygy h, Bool.true_and]
    · refine ZS (by omega) ?_
      rw [ha, yhy h, Bool.false_and, Bool.false_and]
      exact Ev.now false
theorem zBs (t : Tri) : Ev (fun k => zJ.f k t) (QF t) := by
  refine Ev.congr (fun k => by unfold zJ.f zr.f; rw [yfy]) ?_
  unfold QF
  by_cases h8 : t.length ≤ 8
  · refine ZS (by omega) ?_
    rw [ygy h8, Bool.true_and]
    exact zDb h8 t.length 0 (by omega) (by rw [List.drop_zero])
  · refine qh (by omega) ?_
    rw [yhy h8, Bool.false_and]
    exact Ev.now false
end
theorem ZV {t : Tri} (h : QF t = true) : t.length ≤ 8 ∧ (∀ r ∈ t, r.length = 4) ∧ JZ t 0 t.length = true := by
  unfold QF at h
  rw [Bool.and_eq_true, Bool.and_eq_true, decide_eq_true_eq] at h
  exact ⟨h.1, zBq.1 h.2.1, h.2.2⟩
theorem zEL (t : Tri) (a : Int) (d : Nat) : ∀ f, Qs t a f d = true → ∀ g, f ≤ g → g < f + d → zAP t a g = true := by
  induction d with
  | zero => intro f _ g h1 h2; omega
  | succ d ih =>
    intro f h g h1 h2
    rw [Qs, Bool.and_eq_true] at h
    by_cases e : g = f
    · rw [e]; exact h.1
    · exact ih (f + 1) h.2 g (by omega) (by omega)
theorem zEM (t : Tri) (d : Nat) : ∀ a, JZ t a d = true → ∀ b, a ≤ b → b < a + d → ∀ g, 0 ≤ g → g ≤ 3 → zAP t b g = true := by
  induction d with
  | zero => intro a _ b h1 h2; omega
  | succ d ih =>
    intro a h b h1 h2 g hg0 hg1
    rw [JZ, Bool.and_eq_true] at h
    by_cases e : b = a
    · rw [e]; exact zEL t a 4 0 h.1 g hg0 (by omega)
    · exact ih (a + 1) h.2 b (by omega) (by omega) g hg0 hg1
theorem Jw {t : Tri} (h : QF t = true) {a f : Int} (h0 : 0 ≤ a) (h1 : a < t.length) (hf0 : 0 ≤ f) (hf1 : f ≤ 3) :
    ((fc t a f).f0 = -1 ∧ (fc t a f).f1 = 0) ∨
    ((0 ≤ (fc t a f).f0 ∧ (fc t a f).f0 < (t.length : Int) ∧ 0 ≤ (fc t a f).f1 ∧ (fc t a f).f1 ≤ 23) ∧
      (fc t (fc t a f).f0 (rd (ZA (fc t a f).f1) f)).f0 = a ∧ (fc t (fc t a f).f0 (rd (ZA (fc t a f).f1) f)).f1 = zDS (fc t a f).f1 ∧ ¬ ((fc t a f).f0 = a ∧ rd (ZA (fc t a f).f1) f = f)) := by
  have hg := zEM t t.length 0 (ZV h).2.2 a h0 (by omega) f hf0 hf1
  unfold zAP at hg
  by_cases hb : (fc t a f).f0 = -1
  · rw [if_pos hb] at hg
    exact .inl ⟨hb, by simpa using hg⟩
  · rw [if_neg hb] at hg
    by_cases hi : 0 ≤ (fc t a f).f0 ∧ (fc t a f).f0 < (t.length : Int) ∧ 0 ≤ (fc t a f).f1 ∧ (fc t a f).f1 ≤ 23
    · rw [if_pos hi, Bool.and_eq_true, Bool.and_eq_true, Bool.not_eq_true'] at hg
      refine .inr ⟨hi, eq_of_beq hg.1.1, eq_of_beq hg.1.2, fun hc => ?_⟩
      have := hg.2
      rw [Bool.and_eq_false_iff] at this
      rcases this with h2 | h2
      · exact absurd hc.1 (by simpa using h2)
      · exact absurd hc.2 (by simpa using h2)
    · rw [if_neg hi] at hg; cases hg
def zEN (cols : Nat) (j f b : Int) (p : List Int) : List (List Int) := (zDO [f]).map fun c => zCX cols j f b p c
theorem zBH (cols : Nat) (j f b : Int) (p : List Int) : ∀ (L : List Int) (A : List (List Int)), QX cols j f b p L (A.flatten, (A.length : Int)) = ((A ++ L.map fun c => zCX cols j f b p c).flatten, ((A ++ L.map fun c => zCX cols j f b p c).length : Int))
 | [], A => by simp [QX]
 | c :: cs, A => by
  have h := zBH cols j f b p cs (A ++ [zCX cols j f b p c])
  have e1 : (A ++ [zCX cols j f b p c]).flatten = A.flatten ++ zCX cols j f b p c := by simp
  have e2 : ((A ++ [zCX cols j f b p c]).length : Int) = (A.length : Int) + 1 := by simp
  rw [e1, e2] at h
  rw [QX, h]
  simp
def zEO (cols : Nat) (A : List (List Int)) (j f : Nat) (x : zq) : List (List Int) :=
 if 4 * x.f0 + rd (ZA x.f1) (f : Int) < 4 * (j : Int) + (f : Int) then A else A ++ zEN cols j f x.f0 (ZA x.f1)
theorem zDA {σ τ : Type} {Rel : σ → τ → Prop} {s1 : σ → Nat → Nat → zq → σ} {s2 : τ → Nat → Nat → zq → τ} (h : ∀ a b j f x, Rel a b → Rel (s1 a j f x) (s2 b j f x)) (j : Nat) : ∀ (r : List zq) (f : Nat) (a : σ) (b : τ), Rel a b → Rel (zDP s1 j r f a) (zDP s2 j r f b)
 | [], _, _, _, hr => hr
 | x :: xs, f, a, b, hr => by
  rw [zDP, zDP]
  refine zDA h j xs (f + 1) _ _ ?_
  split
  next =>
   exact hr
  next =>
   exact h _ _ _ _ _ hr
theorem zDB {σ τ : Type} {Rel : σ → τ → Prop} {s1 : σ → Nat → Nat → zq → σ} {s2 : τ → Nat → Nat → zq → τ} (h : ∀ a b j f x, Rel a b → Rel (s1 a j f x) (s2 b j f x)) : ∀ (l : List (List zq)) (j : Nat) (a : σ) (b : τ), Rel a b → Rel (zBn s1 l j a) (zBn s2 l j b)
 | [], _, _, _, hr => hr
 | r :: rs, j, a, b, hr => by
  rw [zBn, zBn]
  exact zDB h rs (j + 1) _ _ (zDA h j r 0 a b hr)
def JI (t : Tri) : List (List Int) := zBn (zEO (7 * t.length)) t 0 []
theorem zEt (t : Tri) : zAw t = ((JI t).flatten, ((JI t).length : Int)) := by
 refine zDB (Rel := fun (a : List Int × Int) (b : List (List Int)) => a = (b.flatten, (b.length : Int))) (fun a b j f x hr => ?_) t 0 ([], 0) [] (by simp)
 rw [hr]
 unfold Jq zEO
 split
 next =>
  rfl
 next =>
  exact zBH _ _ _ _ _ _ _
def zAQ (t : Tri) (a f : Int) : Prop := (fc t a f).f0 > a ∨ ((fc t a f).f0 = a ∧ rd (ZA (fc t a f).f1) f > f)
instance (t : Tri) (a f : Int) : Decidable (zAQ t a f) := by unfold zAQ; infer_instance
def QZ (t : Tri) (a : Int) : Int → Nat → List (List Int)
 | _, 0 => []
 | f, d + 1 => (if zAQ t a f then [[a, f]] else []) ++ QZ t a (f + 1) d
def QU (t : Tri) : Int → Nat → List (List Int)
 | _, 0 => []
 | a, d + 1 => QZ t a 0 4 ++ QU t (a + 1) d
def zBt (t : Tri) (p : List Int) : List (List Int) := zEN (7 * t.length) (rd p 0) (rd p 1) (fc t (rd p 0) (rd p 1)).f0 (ZA (fc t (rd p 0) (rd p 1)).f1)
theorem zFP {t : Tri} (h : QF t = true) {a f : Int} (h0 : 0 ≤ a) (h1 : a < t.length) (hf0 : 0 ≤ f) (hf1 : f ≤ 3) (hb : ¬ (fc t a f).f0 < 0) : zAQ t a f ↔ ¬ (4 * (fc t a f).f0 + rd (ZA (fc t a f).f1) f < 4 * a + f) := by
 rcases Jw h h0 h1 hf0 hf1 with ⟨e, _⟩ | ⟨⟨g0, g1, g2, g3⟩, _, _, hn⟩
 next =>
  omega
 next =>
  obtain ⟨k0, k1⟩ := Js g2 g3 hf0 hf1
  unfold zAQ
  generalize (fc t a f).f0 = b at *
  generalize rd (ZA (fc t a f).f1) f = g at *
  by_cases e : b = a
  next =>
   have : ¬ g = f := fun hc => hn ⟨e, hc⟩
   constructor <;> intro hh <;> omega
  next =>
   constructor <;> intro hh <;> omega
theorem zBI {t : Tri} (h : QF t = true) (j : Nat) (hj : j < t.length) : ∀ (d f : Nat) (A : List (List Int)), f + d = 4 → zDP (zEO (7 * t.length)) j (t[j].drop f) f A = A ++ (QZ t j f d).flatMap (zBt t)
 | 0, f, A, hf => by
  have h4 : t[j].length = 4 := (ZV h).2.1 _ (List.getElem_mem hj)
  rw [List.drop_eq_nil_of_le (by omega), zDP, QZ]; simp
 | d + 1, f, A, hf => by
  have h4 : t[j].length = 4 := (ZV h).2.1 _ (List.getElem_mem hj)
  have hlt : f < t[j].length := by omega
  have hfc : fc t (j : Int) (f : Int) = t[j][f] := by unfold fc; rw [Qf t j hj, zA9 _ f hlt]
  rw [yoy hlt, zDP, zBI h j hj d (f + 1) _ (by omega), QZ]
  have e1 : ((f : Int) + 1) = ((f + 1 : Nat) : Int) := by omega
  rw [e1, List.flatMap_append, ← List.append_assoc]
  congr 1
  have hff := zFP (a := (j : Int)) (f := (f : Int)) h (by omega) (by omega) (by omega) (by omega)
  by_cases hb : t[j][f].f0 < 0
  next =>
   rw [if_pos hb, if_neg (fun hc => by unfold zAQ at hc; rw [hfc] at hc; omega)]; simp
  next =>
   rw [if_neg hb]
   have hff2 := hff (by rw [hfc]; exact hb)
   rw [hfc] at hff2
   unfold zEO
   by_cases hc : 4 * t[j][f].f0 + rd (ZA t[j][f].f1) (f : Int) < 4 * (j : Int) + (f : Int)
   next =>
    rw [if_pos hc, if_neg (fun hq => (hff2.1 hq) hc)]; simp
   next =>
    rw [if_neg hc, if_pos (hff2.2 hc)]
    have e2 : zBt t [(j : Int), (f : Int)] = zEN (7 * t.length) (j : Int) (f : Int) t[j][f].f0 (ZA t[j][f].f1) := by
     show zEN (7 * t.length) (j : Int) (f : Int) (fc t (j : Int) (f : Int)).f0 (ZA (fc t (j : Int) (f : Int)).f1) = _
     rw [hfc]
    simp [e2]
theorem zBJ {t : Tri} (h : QF t = true) : ∀ (d j : Nat) (A : List (List Int)), j + d = t.length → zBn (zEO (7 * t.length)) (t.drop j) j A = A ++ (QU t j d).flatMap (zBt t)
 | 0, j, A, hj => by rw [List.drop_eq_nil_of_le (by omega), zBn, QU]; simp
 | d + 1, j, A, hj => by
  have hlt : j < t.length := by omega
  have e1 : ((j : Int) + 1) = ((j + 1 : Nat) : Int) := by omega
  have h2 := zBI h j hlt 4 0 A (by omega)
  rw [List.drop_zero] at h2
  rw [yoy hlt, zBn, h2, zBJ h d (j + 1) _ (by omega), QU, List.flatMap_append, List.append_assoc, e1]
  rfl
theorem Jd {t : Tri} (h : QF t = true) : JI t = (QU t 0 t.length).flatMap (zBt t) := by
 have := zBJ h t.length 0 [] (by omega)
 rw [List.drop_zero, List.nil_append] at this
 exact this
theorem zEu {t : Tri} (h : QF t = true) : zFQ t := by
 obtain ⟨h8, h4, _⟩ := ZV h
 refine ⟨h8, fun r hr => by rw [h4 r hr]; omega, fun r hr x hx hb => ?_⟩
 obtain ⟨j, hj, rfl⟩ := List.getElem_of_mem hr
 obtain ⟨f, hf, rfl⟩ := List.getElem_of_mem hx
 have h4' := h4 _ (List.getElem_mem hj)
 have hfc : fc t (j : Int) (f : Int) = t[j][f] := by unfold fc; rw [Qf t j hj, zA9 _ f hf]
 have := Jw (a := (j : Int)) (f := (f : Int)) h (by omega) (by omega) (by omega) (by omega)
 rw [hfc] at this
 rcases this with ⟨e, _⟩ | ⟨⟨g0, g1, g2, g3⟩, _⟩
 next =>
  omega
 next =>
  exact ⟨g1, g2, g3⟩
theorem zDc {t : Tri} (h : QF t = true) : zu.f t = some (((JI t).length : Int), 7 * (t.length : Int), (JI t).flatten) := by
 unfold zu.f
 rw [if_pos (zEu h), zEt]
theorem zAm {t : Tri} (h : QF t = true) : ∀ r ∈ JI t, r.length = 7 * t.length := by
 intro r hr
 rw [Jd h] at hr
 obtain ⟨p, _, hp⟩ := List.mem_flatMap.1 hr
 obtain ⟨c, _, rfl⟩ := List.mem_map.1 hp
 exact zCh _ _ _ _ _ _
theorem zBK (t : Tri) (a : Int) : ∀ (d : Nat) (f : Int), (QZ t a f d).length ≤ d
 | 0, _ => by simp [QZ]
 | d + 1, f => by
  have := zBK t a d (f + 1)
  rw [QZ, List.length_append]
  split <;> simp <;> omega
theorem zAA (t : Tri) : ∀ (d : Nat) (a : Int), (QU t a d).length ≤ 4 * d
 | 0, _ => by simp [QU]
 | d + 1, a => by
  have := zAA t d (a + 1)
  have := zBK t a 4 0
  rw [QU, List.length_append]
  omega
def zEP (t : Tri) (p : List Int) : Prop := ∃ a f : Int, p = [a, f] ∧ 0 ≤ a ∧ a < t.length ∧ 0 ≤ f ∧ f ≤ 3 ∧ ¬ (fc t a f).f0 < 0
theorem zCO (t : Tri) {a : Int} (h0 : 0 ≤ a) (h1 : a < t.length) : ∀ (d : Nat) (f : Int), 0 ≤ f → f + d = 4 → ∀ p ∈ QZ t a f d, zEP t p
 | 0, _, _, _, p, hp => by simp [QZ] at hp
 | d + 1, f, hf, he, p, hp => by
  rw [QZ, List.mem_append] at hp
  rcases hp with hp | hp
  next =>
   by_cases hc : zAQ t a f
   next =>
    rw [if_pos hc] at hp
    have : p = [a, f] := by simpa using hp
    exact ⟨a, f, this, h0, h1, hf, by omega, by unfold zAQ at hc; omega⟩
   next =>
    rw [if_neg hc] at hp; simp at hp
  next =>
   exact zCO t h0 h1 d (f + 1) (by omega) (by omega) p hp
theorem zCP (t : Tri) : ∀ (d : Nat) (a : Int), 0 ≤ a → a + d = t.length → ∀ p ∈ QU t a d, zEP t p
 | 0, _, _, _, p, hp => by simp [QU] at hp
 | d + 1, a, ha, he, p, hp => by
  rw [QU, List.mem_append] at hp
  rcases hp with hp | hp
  next =>
   exact zCO t ha (by omega) 4 0 (by omega) (by omega) p hp
  next =>
   exact zCP t d (a + 1) (by omega) (by omega) p hp
section
variable {t : Tri}
theorem Je (h : QF t = true) {a : Int} (h0 : 0 ≤ a) (h1 : a < t.length) {R : List (List Int)} {D : Nat} (hR : ∀ acc : List (List Int), acc.length + D ≤ 100 → Ev (fun k => zg.l0 k acc (a + 1) t) (acc ++ R)) :
 ∀ (d : Nat) (f : Int) (acc : List (List Int)), 0 ≤ f → f + d = 4 → acc.length + d + D ≤ 100 → Ev (fun k => zg.l1 k acc a f t) (acc ++ QZ t a f d ++ R)
 | 0, f, acc, hf, he, hl => by
  have h8 := (ZV h).1
  refine qi (fun k => by rw [zg.l1, if_neg (by omega), qo (by omega) (by omega)]) ?_
  rw [QZ, List.append_nil]; exact hR acc (by omega)
 | d + 1, f, acc, hf, he, hl => by
  obtain ⟨h8, h4, _⟩ := ZV h
  have hr := zFR h4 h0 h1
  refine qi (fun k => by rw [zg.l1, if_pos (by omega), if_pos h0, if_pos h1, if_pos hf, if_pos (by omega)]) ?_
  rw [QZ]
  have hyes : zAQ t a f → Ev (fun k => if acc.length < 5864062014805 then zg.l1 k (acc ++ [[a, f]]) a (wrap64 (f + 1)) t else none) (acc ++ ((if zAQ t a f then [[a, f]] else []) ++ QZ t a (f + 1) d) ++ R) := fun hc => by
   rw [if_pos hc]
   refine qh (by omega) (Ev.congr (fun k => by rw [qo (by omega) (by omega)]) ?_)
   have := Je h h0 h1 hR d (f + 1) (acc ++ [[a, f]]) (by omega) (by omega) (by simp; omega)
   rwa [List.append_assoc acc] at this
  have hno : ¬ zAQ t a f → Ev (fun k => zg.l1 k acc a (wrap64 (f + 1)) t) (acc ++ ((if zAQ t a f then [[a, f]] else []) ++ QZ t a (f + 1) d) ++ R) := fun hc => by
   rw [if_neg hc, List.nil_append]
   exact Ev.congr (fun k => by rw [qo (by omega) (by omega)]) (Je h h0 h1 hR d (f + 1) acc (by omega) (by omega) (by omega))
  change Ev (fun k => if (fc t a f).f0 > a then _ else if (fc t a f).f0 = a then (qp.f k (fc t a f).f1 f).bind _ else _) _
  by_cases c1 : (fc t a f).f0 > a
  next =>
   exact qh c1 (hyes (.inl c1))
  next =>
   refine ZS c1 ?_
   by_cases c2 : (fc t a f).f0 = a
   next =>
    have hp : 0 ≤ (fc t a f).f1 ∧ (fc t a f).f1 ≤ 23 := by
     rcases Jw h h0 h1 hf (by omega) with ⟨e, _⟩ | ⟨⟨_, _, g2, g3⟩, _⟩
     next =>
      omega
     next =>
      exact ⟨g2, g3⟩
    refine qh c2 (Ev.bind (zAT hp.1 hp.2 hf (by omega)) ?_)
    by_cases c3 : rd (ZA (fc t a f).f1) f > f
    next =>
     exact qh c3 (hyes (.inr ⟨c2, c3⟩))
    next =>
     exact ZS c3 (hno (fun hc => by rcases hc with hc | hc; exact c1 hc; exact c3 hc.2))
   next =>
    exact ZS c2 (hno (fun hc => by rcases hc with hc | hc; exact c1 hc; exact c2 hc.1))
theorem zAn (h : QF t = true) : ∀ (d : Nat) (a : Int) (acc : List (List Int)), 0 ≤ a → a + d = t.length → acc.length + 4 * d ≤ 100 → Ev (fun k => zg.l0 k acc a t) (acc ++ QU t a d)
 | 0, a, acc, ha, he, hl => by
  refine qi (fun k => by rw [zg.l0, zr.f, yfy, if_neg (by omega)]) ?_
  rw [QU, List.append_nil]; exact Ev.now _
 | d + 1, a, acc, ha, he, hl => by
  refine qi (fun k => by rw [zg.l0, zr.f, yfy, if_pos (by omega)]) ?_
  have := Je h ha (by omega) (R := QU t (a + 1) d) (D := 4 * d) (fun acc2 hl2 => zAn h d (a + 1) acc2 (by omega) (by omega) hl2) 4 0 acc (by omega) (by omega) (by omega)
  rwa [List.append_assoc] at this
theorem zBu (h : QF t = true) : Ev (fun k => zg.f k t) (QU t 0 t.length) := by
 have h8 := (ZV h).1
 have := zAn h t.length 0 [] (by omega) (by omega) (by simp; omega)
 rwa [List.nil_append] at this
theorem zBL {a b : Int} (ha : sm a) (hb : sm b) (hne : b ≠ a) : qC.f a b = some (qd b a) := by
 obtain ⟨ha0, ha1⟩ := ha
 obtain ⟨hb0, hb1⟩ := hb
 rcases (show a = 0 ∨ a = 1 ∨ a = 2 ∨ a = 3 by omega) with rfl | rfl | rfl | rfl <;> rcases (show b = 0 ∨ b = 1 ∨ b = 2 ∨ b = 3 by omega) with rfl | rfl | rfl | rfl <;> first | exact absurd rfl hne | decide +kernel
theorem qd_bd {a b : Int} (ha : sm a) (hb : sm b) (hne : a ≠ b) : 0 ≤ qd a b ∧ qd a b ≤ 2 := (zCg ha hb hne).2
theorem zBM (h : QF t = true) {P : List (List Int)} {i : Int} {a f : Int} (h0 : 0 ≤ a) (h1 : a < t.length) (hf0 : 0 ≤ f) (hf1 : f ≤ 3) (hb : ¬ (fc t a f).f0 < 0) {R : List (List Int)} {D : Nat} (hi : 0 ≤ i) (hi2 : i ≤ 1000)
 (hR : ∀ acc : List (List Int), acc.length + D ≤ 1000 → Ev (fun k => zf.l0 k acc P (i + 1) t) (acc ++ R)) :
 ∀ (d : Nat) (c : Int) (acc : List (List Int)), 0 ≤ c → c + d = 4 → acc.length + d + D ≤ 1000 → Ev (fun k => zf.l1 k acc P i a f c t) (acc ++ ((Zc c d).filter fun x => ![f].contains x).map (fun x => zCX (7 * t.length) a f (fc t a f).f0 (ZA (fc t a f).f1) x) ++ R)
 | 0, c, acc, hc, he, hl => by
  refine qi (fun k => by rw [zf.l1, if_neg (by omega), qo (by omega) (by omega)]) ?_
  rw [Zc]; simp only [List.filter_nil, yky, List.append_nil]; exact hR acc (by omega)
 | d + 1, c, acc, hc, he, hl => by
  obtain ⟨h8, h4, _⟩ := ZV h
  have ih := fun (acc2 : List (List Int)) (hl2 : acc2.length + d + D ≤ 1000) => zBM h h0 h1 hf0 hf1 hb hi hi2 hR d (c + 1) acc2 (by omega) (by omega) hl2
  by_cases hcf : c = f
  next =>
   refine qi (fun k => by rw [zf.l1, if_pos (by omega), if_pos hcf, qo (by omega) (by omega)]) ?_
   have e1 : (![f].contains c) = false := by simp [hcf]
   rw [Zc, List.filter_cons, e1, if_neg (by simp)]
   exact ih acc (by omega)
  next =>
   have e1 : (![f].contains c) = true := by simp [hcf]
   have hsc : sm c := ⟨hc, by omega⟩
   have hsf : sm f := ⟨hf0, hf1⟩
   obtain ⟨g0, g1, g2, g3⟩ : 0 ≤ (fc t a f).f0 ∧ (fc t a f).f0 < (t.length : Int) ∧ 0 ≤ (fc t a f).f1 ∧ (fc t a f).f1 ≤ 23 := by
    rcases Jw h h0 h1 hf0 hf1 with ⟨e, _⟩ | ⟨e, _⟩
    next =>
     omega
    next =>
     exact e
   have hd := Js g2 g3 hc (show c ≤ 3 by omega)
   have hx := Js g2 g3 hf0 hf1
   have hne := zCI g2 g3 hsc hsf hcf
   obtain ⟨q0, q1⟩ := qd_bd hsc hsf hcf
   obtain ⟨r0, r1⟩ := qd_bd hd hx hne
   have hmr : zCX (7 * t.length) a f (fc t a f).f0 (ZA (fc t a f).f1) c = zA6 (zA6 (Jp (Jp (List.replicate (7 * t.length) 0) (7 * a + c)) (7 * a + 4 + qd c f)) (7 * (fc t a f).f0 + rd (ZA (fc t a f).f1) c)) (7 * (fc t a f).f0 + 4 + qd (rd (ZA (fc t a f).f1) c) (rd (ZA (fc t a f).f1) f)) := rfl
   have hcorner : Ev (fun k => qW.f k t a f c) ((fc t a f).f0, rd (ZA (fc t a f).f1) f, rd (ZA (fc t a f).f1) c) := by
    have hr := zFR h4 h0 h1
    refine Ev.congr (fun k => by unfold qW.f; rw [if_pos h0, if_pos h1, if_pos hf0, if_pos (by omega)]) ?_
    exact Ev.bind (zAT g2 g3 hf0 hf1) (Ev.bind (zAT g2 g3 hc (by omega)) (Ev.now _))
   have hbt1 := zBL hsf hsc hcf
   have hbt2 := zBL (show sm (rd (ZA (fc t a f).f1) f) from hx) (show sm (rd (ZA (fc t a f).f1) c) from hd) hne
   have hlt : (7 * (t.length : Int)) = ((7 * t.length : Nat) : Int) := by omega
   rw [Zc, List.filter_cons, e1, if_pos rfl, yjy, hmr]
   generalize (fc t a f).f0 = b at *
   generalize rd (ZA (fc t a f).f1) c = dd at *
   generalize rd (ZA (fc t a f).f1) f = x at *
   generalize qd c f = q at *
   generalize qd dd x = q2 at *
   obtain ⟨d0, d1⟩ := hd
   have w1 : wrap64 (7 * a) = 7 * a := qo (by omega) (by omega)
   have w2 : wrap64 (7 * a + c) = 7 * a + c := qo (by omega) (by omega)
   have w3 : wrap64 (7 * a + 4) = 7 * a + 4 := qo (by omega) (by omega)
   have w4 : wrap64 (7 * a + 4 + q) = 7 * a + 4 + q := qo (by omega) (by omega)
   have w5 : wrap64 (7 * b) = 7 * b := qo (by omega) (by omega)
   have w6 : wrap64 (7 * b + dd) = 7 * b + dd := qo (by omega) (by omega)
   have w7 : wrap64 (7 * b + 4) = 7 * b + 4 := qo (by omega) (by omega)
   have w8 : wrap64 (7 * b + 4 + q2) = 7 * b + 4 + q2 := qo (by omega) (by omega)
   have w9 : wrap64 (7 * (t.length : Int)) = 7 * (t.length : Int) := qo (by omega) (by omega)
   have w10 : wrap64 (c + 1) = c + 1 := qo (by omega) (by omega)
   have hln : (List.replicate (7 * t.length) (0 : Int)).length = 7 * t.length := List.length_replicate
   refine qi (fun k => by rw [zf.l1, if_pos (by omega), if_neg hcf, zr.f, yfy, w9, if_pos (by omega), if_pos (by omega), yfy, hlt, yny]) ?_
   refine Ev.bind hcorner ?_
   dsimp only
   refine Ev.congr (fun k => by rw [w1, w2, if_pos (by omega), if_pos (by rw [hln]; omega), yfy, hbt1, yfy, w3, w4, if_pos (by omega), if_pos (by rw [hln]; omega), yfy, w5, w6, if_pos (by omega), if_pos (by rw [hln]; omega), yfy, hbt2, yfy, w7, w8, if_pos (by omega), if_pos (by rw [hln]; omega), if_pos (by omega), w10]) ?_
   have := ih (acc ++ [zA6 (zA6 (Jp (Jp (List.replicate (7 * t.length) 0) (7 * a + c)) (7 * a + 4 + q)) (7 * b + dd)) (7 * b + 4 + q2)]) (by simp; omega)
   rw [List.append_assoc acc] at this
   exact this
theorem zBN (h : QF t = true) {P : List (List Int)} (hP : ∀ p ∈ P, zEP t p) (hPl : P.length ≤ 100) : ∀ (d i : Nat) (acc : List (List Int)), i + d = P.length → acc.length + 4 * d ≤ 1000 → Ev (fun k => zf.l0 k acc P (i : Int) t) (acc ++ (P.drop i).flatMap (zBt t))
 | 0, i, acc, he, hl => by
  refine qi (fun k => by rw [zf.l0, if_neg (by omega)]) ?_
  rw [List.drop_eq_nil_of_le (by omega)]; simp only [List.flatMap_nil, List.append_nil]; exact Ev.now _
 | d + 1, i, acc, he, hl => by
  have hlt : i < P.length := by omega
  obtain ⟨a, f, hp, h0, h1, hf0, hf1, hb⟩ := hP P[i] (List.getElem_mem hlt)
  have ex : zZ P (i : Int) = [a, f] := by simp [zZ, hlt, hp]
  refine qi (fun k => by rw [zf.l0, if_pos (by omega), if_pos (by omega), ex, if_pos (by simp), if_pos (by simp)]) ?_
  have := zBM h (P := P) (i := (i : Int)) h0 h1 hf0 hf1 hb (R := (P.drop (i + 1)).flatMap (zBt t)) (D := 4 * d) (by omega) (by omega) (fun acc2 hl2 => zBN h hP hPl d (i + 1) acc2 (by omega) hl2) 4 0 acc (by omega) (by omega) (by omega)
  rw [List.append_assoc] at this
  rw [yoy hlt, hp, List.flatMap_cons]
  exact this
theorem zCQ (h : QF t = true) : Ev (fun k => zf.f k t) (JI t) := by
 have h8 := (ZV h).1
 have hl := zAA t t.length 0
 refine Ev.bind (zBu h) ?_
 have := zBN h (zCP t t.length 0 (by omega) (by omega)) (by omega) (QU t 0 t.length).length 0 [] (by omega) (by simp; omega)
 rw [List.nil_append, List.drop_zero, ← Jd h] at this
 exact this
theorem zBO (h : QF t = true) : (JI t).length ≤ 1000 := by
 have h8 := (ZV h).1
 have hl := zAA t t.length 0
 rw [Jd h, List.length_flatMap]
 have : ∀ P : List (List Int), ((P.map fun p => (zBt t p).length).sum) ≤ 4 * P.length := by
  intro P
  induction P with
  | nil => simp
  | cons p ps ih =>
   simp only [yjy, List.sum_cons, List.length_cons]
   have h1 : (zBt t p).length ≤ 4 := by unfold zBt zEN; rw [List.length_map]; exact zD5 _
   omega
 have := this (QU t 0 t.length)
 omega
end
def Jy (t : Tri) : Int := if QF t then (if (t.length : Int) > 6 then 3 else 0) else 1
def inR (x : Int) : Bool := decide (0 ≤ x) && decide (x ≤ 1000)
theorem JW {t : Tri} (h : Jy t = 0) : QF t = true ∧ t.length ≤ 6 := by
  unfold Jy at h
  cases ht : QF t with
  | false => rw [ht] at h; simp at h
  | true =>
    rw [ht, if_pos rfl] at h
    refine ⟨rfl, ?_⟩
    by_cases hl : (t.length : Int) > 6
    · rw [if_pos hl] at h; simp at h
    · omega
theorem Jz (t : Tri) : Ev (fun k => ZH.f k t) (Jy t) := by
  refine Ev.bind (zBs t) ?_
  unfold Jy
  cases QF t with
  | false => exact ZS (by simp) (Ev.now _)
  | true =>
    refine qh rfl (Ev.bind (Qi (by unfold zr.f; rfl)) ?_)
    rw [if_pos rfl]
    by_cases hl : (t.length : Int) > 6
    · exact qh hl (JA (if_pos hl).symm)
    · exact ZS hl (JA (if_neg hl).symm)
theorem zBv {t : Tri} (hs : Small t) : Ev (fun k => ZO.f k t) (Jy t) := by
  refine Ev.bind (zBr hs) ?_
  unfold Jy
  cases QF t with
  | false => exact ZS (by simp) (Ev.now _)
  | true =>
    refine qh rfl ?_
    rw [if_pos rfl]
    by_cases hl : (t.length : Int) > 6
    · exact qh hl (JA (if_pos hl).symm)
    · exact ZS hl (JA (if_neg hl).symm)
theorem zEv (a b c : Int) : QL.f a b c = some (decide (b ≤ a) && decide (a ≤ c)) := by
  unfold QL.f
  by_cases h : b ≤ a <;> simp [h]
theorem zBw {α : Type} (l : List α) (z : α) (n : Nat) (h : n < l.length) :
    (l.take n ++ List.replicate (l.length - n) z).set n l[n] = l.take (n + 1) ++ List.replicate (l.length - (n + 1)) z := by
  have e : l.length - n = (l.length - (n + 1)) + 1 := by omega
  rw [e, List.replicate_succ, List.set_append_right _ _ (by simp; omega)]
  have : n - (l.take n).length = 0 := by simp; omega
  rw [this, yby, List.take_succ_eq_append_getElem h, List.append_assoc]
  rfl
theorem zCp (l : List Int) (h : l.length ≤ 4398046511104) : Ev (fun k => qJ.f k l) l := by
  have hl : Ev (fun k => qJ.l0 k l (List.replicate l.length 0) 0) l := by
    refine Qz (fun k (s : List Int × Int) => qJ.l0 k l s.1 s.2) (fun s => ∃ n : Nat, n ≤ l.length ∧ s.2 = n ∧ s.1 = l.take n ++ List.replicate (l.length - n) 0) (fun s => l.length - s.2.toNat) (fun _ => l) ?_ (List.replicate l.length 0, 0) ⟨0, by omega, rfl, by simp⟩
    rintro ⟨a, i⟩ ⟨n, hn, rfl, rfl⟩
    dsimp only
    by_cases hlt : n < l.length
    · refine .inr ⟨(l.take (n + 1) ++ List.replicate (l.length - (n + 1)) 0, ((n + 1 : Nat) : Int)), ⟨n + 1, by omega, rfl, rfl⟩, by simp; omega, rfl, fun k => ?_⟩
      simp only [qJ.l0]
      rw [if_pos (by omega), if_pos (by omega), if_pos (by simp; omega), ZY (by omega), yny, zCk l n hlt, zBw l 0 n hlt]
    · obtain rfl : n = l.length := by omega
      refine .inl fun k => ?_
      simp only [qJ.l0]
      rw [if_neg (by omega)]
      simp
  refine Ev.congr (fun k => ?_) hl
  unfold qJ.f
  rw [if_pos (by omega), if_pos (by simp; omega), yny]
theorem zAo (l : List Int) (h : l.length ≤ 4398046511104) : Ev (fun k => qN.f k l l) true := by
  have hl : Ev (fun k => qN.l0 k l l 0) true := by
    refine Qz (fun k (s : Int) => qN.l0 k l l s) (fun s => ∃ n : Nat, n ≤ l.length ∧ s = n) (fun s => l.length - s.toNat) (fun _ => true) ?_ 0 ⟨0, by omega, rfl⟩
    rintro i ⟨n, hn, rfl⟩
    by_cases hlt : n < l.length
    · refine .inr ⟨((n + 1 : Nat) : Int), ⟨n + 1, by omega, rfl⟩, by simp; omega, rfl, fun k => ?_⟩
      simp only [qN.l0]
      rw [if_pos (by omega), if_pos (by omega), if_pos (by omega), if_pos trivial, ZY (by omega)]
    · refine .inl fun k => ?_
      simp only [qN.l0]
      rw [if_neg (by omega)]
  refine Ev.congr (fun k => ?_) hl
  unfold qN.f
  rw [if_pos rfl]
theorem zCq (l : List Int) (a : Int) (n : Nat) (h : n < l.length) : (Zc a n ++ l.drop n).set n (a + n) = Zc a (n + 1) ++ l.drop (n + 1) := by
  rw [List.set_append_right _ _ (by rw [QE]; omega), QE, Nat.sub_self, yoy h, yby, zCl, List.append_assoc]
  rfl
theorem zA0 (l : List Int) (a : Int) (h : l.length ≤ 4398046511104) (h0 : 0 ≤ a) (h1 : a ≤ 4398046511104) : Ev (fun k => qO.f k l a) (a + l.length, Zc a l.length) := by
  have hl : Ev (fun k => qO.l0 k l a 0) (a + l.length, Zc a l.length) := by
    refine Qz (fun k (s : List Int × Int × Int) => qO.l0 k s.1 s.2.1 s.2.2) (fun s => ∃ n : Nat, n ≤ l.length ∧ s.2.2 = n ∧ s.2.1 = a + n ∧ s.1 = Zc a n ++ l.drop n) (fun s => l.length - s.2.2.toNat) (fun _ => (a + l.length, Zc a l.length)) ?_ (l, a, 0) ⟨0, by omega, rfl, by simp, by simp [Zc]⟩
    rintro ⟨x, b, i⟩ ⟨n, hn, rfl, rfl, rfl⟩
    dsimp only
    have hlen : (Zc a n ++ l.drop n).length = l.length := by simp [QE]; omega
    by_cases hlt : n < l.length
    · refine .inr ⟨(Zc a (n + 1) ++ l.drop (n + 1), a + ((n + 1 : Nat) : Int), ((n + 1 : Nat) : Int)), ⟨n + 1, by omega, rfl, rfl, rfl⟩, by simp; omega, rfl, fun k => ?_⟩
      simp only [qO.l0]
      rw [if_pos (by rw [hlen]; omega), if_pos (by omega), ZY (by omega), yny, zCq l a n hlt, qo (by omega) (by omega)]
      congr 1; omega
    · obtain rfl : n = l.length := by omega
      refine .inl fun k => ?_
      simp only [qO.l0]
      rw [if_neg (by rw [hlen]; omega)]
      simp
  exact hl
theorem zBx (a : Int) (m : Nat) (h : m ≤ 4398046511104) (h0 : 0 ≤ a) (h1 : a ≤ 4398046511104) : Ev (fun k => qS.f k (Zc a m) a) (a + m) := by
  have hl : Ev (fun k => qS.l0 k (Zc a m) a 0) (a + m) := by
    refine Qz (fun k (s : Int × Int) => qS.l0 k (Zc a m) s.1 s.2) (fun s => ∃ n : Nat, n ≤ m ∧ s.2 = n ∧ s.1 = a + n) (fun s => m - s.2.toNat) (fun _ => a + m) ?_ (a, 0) ⟨0, by omega, rfl, by simp⟩
    rintro ⟨b, i⟩ ⟨n, hn, rfl, rfl⟩
    dsimp only
    by_cases hlt : n < m
    · refine .inr ⟨(a + ((n + 1 : Nat) : Int), ((n + 1 : Nat) : Int)), ⟨n + 1, by omega, rfl, rfl⟩, by simp; omega, rfl, fun k => ?_⟩
      simp only [qS.l0]
      rw [if_pos (by rw [QE]; omega), if_pos (by omega), if_pos (by rw [rd_nat, zDW a m n hlt]), ZY (by omega), qo (by omega) (by omega)]
      congr 1; omega
    · obtain rfl : n = m := by omega
      refine .inl fun k => ?_
      simp only [qS.l0]
      rw [if_neg (by rw [QE]; omega)]
  exact hl
def JS (R : List (List Int)) (v : List Int) : Bool := R.all fun r => decide (zDU r v 0 = 0)
def Qg (t : Tri) (v : List Int) : Bool := if (v.length : Int) = 7 * (t.length : Int) then (if v.all inR = true then JS (JI t) v else false) else false
def zDC (t : Tri) (v : List Int) : Bool := if Jy t = 0 then Qg t v else false
theorem zDd {t : Tri} {v : List Int} (hv : v.length ≤ 4398046511104) {R : Bool} (hR : Ev (fun k => (zf.f k t).bind fun t106 => zc.l1 k v t106 0) R) (d : Nat) : ∀ n : Nat, n + d = v.length → Ev (fun k => zc.l0 k v (n : Int) t) (if (v.drop n).all inR = true then R else false) := by
  induction d with
  | zero =>
    intro n hn
    refine qi (fun k => by rw [zc.l0, if_neg (by omega)]) ?_
    rw [List.drop_eq_nil_of_le (by omega), if_pos (by rfl)]; exact hR
  | succ d ih =>
    intro n hn
    have hlt : n < v.length := by omega
    refine qi (fun k => by rw [zc.l0, if_pos (by omega), if_pos (by omega), zCk v n hlt, zEv, yfy, ZY (by omega)]) ?_
    rw [yoy hlt, List.all_cons]
    change Ev (fun k => if inR v[n] = true then _ else _) _
    cases h : inR v[n] with
    | false => exact ZS (by simp) (by rw [Bool.false_and, if_neg (by simp)]; exact Ev.now _)
    | true => exact qh rfl (by rw [Bool.true_and]; exact ih (n + 1) (by omega))
theorem zAp (r v : List Int) (hl : r.length ≤ v.length) (hr : r.length ≤ 1000000) : ∀ (d n : Nat) (s : Int), n + d = r.length → Ev (fun k => qu.l0 k r v s (n : Int)) (zDU (r.drop n) (v.drop n) s)
  | 0, n, s, hn => by
    refine qi (fun k => by rw [qu.l0, if_neg (by omega)]) ?_
    rw [List.drop_eq_nil_of_le (by omega)]
    cases v.drop n <;> exact Ev.now _
  | d + 1, n, s, hn => by
    have hlt : n < r.length := by omega
    have hlv : n < v.length := by omega
    refine qi (fun k => by rw [qu.l0, if_pos (by omega), if_pos (by omega), if_pos (by omega), zCk r n hlt, zCk v n hlv, ZY (by omega)]) ?_
    rw [yoy hlt, yoy hlv, zDU]
    exact zAp r v hl hr d (n + 1) _ (by omega)
theorem zCr (r v : List Int) (hl : r.length ≤ v.length) (hr : r.length ≤ 1000000) : Ev (fun k => qu.f k r v) (zDU r v 0) := by
  have := zAp r v hl hr r.length 0 0 (by omega)
  rwa [List.drop_zero, List.drop_zero] at this
theorem zBP (R : List (List Int)) (v : List Int) (hR : ∀ r ∈ R, r.length ≤ v.length ∧ r.length ≤ 1000000) (hl : R.length ≤ 1000000) : ∀ (d n : Nat), n + d = R.length → Ev (fun k => zc.l1 k v R (n : Int)) (JS (R.drop n) v)
  | 0, n, hn => by
    refine qi (fun k => by rw [zc.l1, if_neg (by omega)]) ?_
    rw [List.drop_eq_nil_of_le (by omega)]; exact Ev.now _
  | d + 1, n, hn => by
    have hlt : n < R.length := by omega
    have ex : zZ R (n : Int) = R[n] := by simp [zZ, hlt]
    have h1 := hR R[n] (List.getElem_mem hlt)
    refine qi (fun k => by rw [zc.l1, if_pos (by omega), if_pos (by omega), ex, ZY (by omega)]) ?_
    refine Ev.bind (zCr _ v h1.1 h1.2) ?_
    unfold JS
    rw [yoy hlt, List.all_cons]
    by_cases hz : zDU R[n] v 0 = 0
    · rw [ygy hz, Bool.true_and]
      exact qh hz (zBP R v hR hl d (n + 1) (by omega))
    · rw [yhy hz, Bool.false_and]
      exact ZS hz (Ev.now _)
theorem zAz (t : Tri) (v : List Int) (hv : v.length ≤ 4398046511104) : Ev (fun k => zc.f k t v) (zDC t v) := by
  have hfalse : Ev (fun k => zc.j0 k v true t) false := qi (fun k => by rw [zc.j0, if_pos rfl]) (Ev.now false)
  refine Ev.bind (Jz t) ?_
  unfold zDC
  by_cases hc : Jy t = 0
  · obtain ⟨ht, h6⟩ := JW hc
    rw [if_pos hc]
    unfold Qg
    refine qh hc (Ev.bind (Qi (by unfold zr.f; rfl)) ?_)
    refine Ev.congr (fun k => by rw [qo (by omega) (by omega)]) (f := fun k => zc.j0 k v ((v.length : Int) != (7 * (t.length : Int))) t) ?_
    by_cases hl : (v.length : Int) = 7 * (t.length : Int)
    · rw [if_pos hl]
      have e : ((v.length : Int) != (7 * (t.length : Int))) = false := by simp [hl]
      rw [e]
      refine qi (fun k => by rw [zc.j0, if_neg (by simp)]) ?_
      have hrows : Ev (fun k => (zf.f k t).bind fun t106 => zc.l1 k v t106 0) (JS (JI t) v) := by
        refine Ev.bind (zCQ ht) ?_
        have := zBP (JI t) v (fun r hr => by have := zAm ht r hr; omega) (by have := zBO ht; omega) (JI t).length 0 (by omega)
        rwa [List.drop_zero] at this
      have := zDd hv hrows v.length 0 (by omega)
      rwa [List.drop_zero] at this
    · rw [if_neg hl]
      have e : ((v.length : Int) != (7 * (t.length : Int))) = true := by simp [hl]
      rw [e]
      exact hfalse
  · rw [if_neg hc]
    exact ZS hc hfalse
theorem zCR (cols : Nat) (A r B : List Int) (k : Nat) (hA : A.length = k * cols) (hr : r.length = cols) : rowAt cols (A ++ (r ++ B)) k = r := by
  unfold rowAt
  have h3 : (k + 1) * cols = A.length + r.length := by rw [Nat.succ_mul]; omega
  rw [h3, ← hA, ← List.append_assoc, List.take_append_of_le_length (by simp), List.take_of_length_le (by simp), List.drop_append_of_le_length (yqy _), List.drop_length, List.nil_append]
theorem zBQ (cols : Nat) (v : List Int) : ∀ (R : List (List Int)) (A : List Int) (k : Nat), A.length = k * cols → (∀ r ∈ R, r.length = cols) → JQ cols (A ++ R.flatten) v R.length k = JS R v
  | [], _, _, _, _ => rfl
  | r :: R, A, k, hA, hR => by
    have hr := hR r (List.mem_cons_self ..)
    rw [List.length_cons, JQ, List.flatten_cons, zCR cols A r _ k hA hr]
    have ih := zBQ cols v R (A ++ r) (k + 1) (by rw [List.length_append, hA, hr, Nat.succ_mul]) (fun x hx => hR x (List.mem_cons_of_mem _ hx))
    rw [List.append_assoc] at ih
    rw [ih]
    unfold JS
    rw [List.all_cons]
    by_cases hz : zDU r v 0 = 0
    · rw [if_pos hz, ygy hz, Bool.true_and]
    · rw [if_neg hz, yhy hz, Bool.false_and]
theorem zAq (cols : Nat) : ∀ (R : List (List Int)), (∀ r ∈ R, r.length = cols) → R.flatten.length = R.length * cols
  | [], _ => by simp
  | r :: R, h => by
    rw [List.flatten_cons, List.length_append, zAq cols R (fun x hx => h x (List.mem_cons_of_mem _ hx)), h r (List.mem_cons_self ..), List.length_cons, Nat.succ_mul]; omega
theorem zB0 {t : Tri} (h : QF t = true) (v : List Int) (hv : (v.length : Int) = 7 * (t.length : Int)) : ZT.f ((JI t).length : Int) (7 * (t.length : Int)) (JI t).flatten v = some (JS (JI t) v) := by
  have h8 := (ZV h).1
  have hs := zBO h
  have hf := zAq (7 * t.length) (JI t) (zAm h)
  have e7 : (7 * (t.length : Int)).toNat = 7 * t.length := by omega
  unfold ZT.f
  rw [if_pos ?_, e7, yny]
  · have := zBQ (7 * t.length) v (JI t) [] 0 (by simp) (zAm h)
    rw [List.nil_append] at this
    rw [this]
  · refine ⟨by omega, by omega, by omega, by omega, ?_, by omega⟩
    rw [hf]; push_cast; rfl
theorem zEQ (v : List Int) : za.f v = some (!(v.all inR)) := by
  unfold za.f zw.f
  rw [contO (p := fun y => !(inR y)) v (fun y _ => by
    show qI.f y = _
    unfold qI.f
    rw [zA8]; rfl), List.not_all_eq_any_not]
theorem zBy {t : Tri} (h : QF t = true) (v : List Int) : qM.f t v = some (Qg t v) := by
  have h8 := (ZV h).1
  unfold qM.f Qg
  rw [qo (by omega) (by omega)]
  by_cases hl : (v.length : Int) = 7 * (t.length : Int)
  · rw [if_pos hl, if_pos hl, zEQ, yfy]
    cases ha : v.all inR with
    | false => rfl
    | true => rw [if_neg (by simp), zDc h, yfy, zB0 h v hl, yfy, if_pos rfl]
  · rw [if_neg hl, if_neg hl]
theorem zCS {v : List Int} {n : Nat} (h : n * 7 + 7 ≤ v.length) : QY 7 4 3 v n = [v[n * 7 + 4], v[n * 7 + 5], v[n * 7 + 6]] := by
  unfold QY
  rw [yoy (by omega), List.take_succ_cons, yoy (by omega), List.take_succ_cons, yoy (by omega), List.take_succ_cons, List.take_zero]
theorem zAB {t : Tri} {v : List Int} (h : Qg t v = true) : (v.length : Int) = 7 * (t.length : Int) ∧ (∀ x ∈ v, 0 ≤ x ∧ x ≤ 1000) ∧ JS (JI t) v = true := by
  unfold Qg at h
  by_cases hl : (v.length : Int) = 7 * (t.length : Int)
  · rw [if_pos hl] at h
    by_cases ha : v.all inR = true
    · rw [if_pos ha] at h
      refine ⟨hl, fun x hx => ?_, h⟩
      have := List.all_eq_true.1 ha x hx
      unfold inR at this
      simp at this
      exact this
    · rw [if_neg ha] at h; cases h
  · rw [if_neg hl] at h; cases h
theorem zER {t : Tri} (h : Jy t = 0) (v : List Int) : zDC t v = Qg t v := by unfold zDC; rw [if_pos h]
def JT (v : List Int) : Nat → Nat → List Int
  | 0, _ => []
  | d + 1, n => QY 7 4 3 v n ++ JT v d (n + 1)
def zCT (v : List Int) : Nat → List Int
  | 0 => []
  | n + 1 => zCT v n ++ QY 7 4 3 v n
theorem parts_eq (v : List Int) : ∀ d n, zCT v n ++ JT v d n = zCT v (n + d)
  | 0, n => by simp [JT]
  | d + 1, n => by
    rw [JT, ← List.append_assoc]
    have := parts_eq v d (n + 1)
    rw [zCT] at this
    rw [this]
    congr 1; omega
theorem zBR (v : List Int) {N : Nat} : ∀ k, k ≤ N → QJ v (zED N k) = zCT v k
  | 0, _ => rfl
  | k + 1, h => by
    rw [zAk (show k < N by omega), zAL, zBR v k (by omega)]
    rfl
def zCs (v : List Int) : List Int := JT v (v.length / 7) 0
theorem zDe (v : List Int) (h7 : v.length % 7 = 0) (hl : v.length ≤ 7000000000) : qt.f v = some (zCs v) := by
  unfold qt.f
  rw [if_pos ⟨h7, hl⟩, ← zD6, zBR v _ (yqy _)]
  have := parts_eq v (v.length / 7) 0
  rw [Nat.zero_add] at this
  unfold zCs
  rw [← this]; rfl
theorem zBS (v : List Int) : ∀ d n, (JT v d n).length ≤ d * 3
  | 0, n => by simp [JT]
  | d + 1, n => by
    have ih := zBS v d (n + 1)
    have h3 : (QY 7 4 3 v n).length ≤ 3 := by unfold QY; rw [ymy]; omega
    rw [JT, List.length_append]; omega
theorem zAO (v : List Int) (hb : v.length ≤ 7000000000) (N : Nat) (hN : v.length = N * 7) : ∀ d n acc, n + d = N → acc.length ≤ n * 3 → Ev (fun k => zy.l0 k v acc ((n * 7 : Nat) : Int)) (acc ++ JT v d n)
  | 0, n, acc, hn, ha => by
    have e1 : wrap64 (((n * 7 : Nat) : Int) + 7) = ((n * 7 + 7 : Nat) : Int) := by rw [qo (by omega) (by omega)]; omega
    refine qi (fun k => by rw [zy.l0, e1, if_neg (by omega)]) ?_
    rw [JT, List.append_nil]
    exact Ev.now _
  | d + 1, n, acc, hn, ha => by
    have e7 : wrap64 (((n * 7 : Nat) : Int) + 7) = (((n + 1) * 7 : Nat) : Int) := by rw [qo (by omega) (by omega)]; omega
    have e4 : wrap64 (((n * 7 : Nat) : Int) + 4) = ((n * 7 + 4 : Nat) : Int) := by rw [qo (by omega) (by omega)]; omega
    have e5 : wrap64 (((n * 7 : Nat) : Int) + 5) = ((n * 7 + 5 : Nat) : Int) := by rw [qo (by omega) (by omega)]; omega
    have e6 : wrap64 (((n * 7 : Nat) : Int) + 6) = ((n * 7 + 6 : Nat) : Int) := by rw [qo (by omega) (by omega)]; omega
    have h3 := zCS (v := v) (n := n) (by omega)
    refine qi (fun k => by rw [zy.l0, e7, e4, e5, e6, if_pos (by omega), if_pos (by omega), if_pos (by omega), if_pos (by omega), if_pos (by omega), if_pos (by omega), if_pos (by omega), zCk v _ (show n * 7 + 4 < v.length by omega), zCk v _ (show n * 7 + 5 < v.length by omega), zCk v _ (show n * 7 + 6 < v.length by omega), ← h3, yfy]) ?_
    have hl3 : (QY 7 4 3 v n).length = 3 := by rw [h3]; rfl
    refine qh (by omega) ?_
    rw [JT, ← List.append_assoc]
    exact zAO v hb N hN d (n + 1) _ (by omega) (by rw [List.length_append]; omega)
theorem zBz (v : List Int) (h7 : v.length % 7 = 0) (hl : v.length ≤ 7000000000) : Ev (fun k => zy.f k v) (zCs v) := by
  have := zAO v hl (v.length / 7) (by omega) (v.length / 7) 0 [] (by omega) (by simp)
  unfold zCs
  rwa [List.nil_append] at this
def zCt (t : Tri) (v : List Int) : List Int × Int := if Jy t = 0 then (if Qg t v = true then (zCs v, 0) else ([], 5)) else ([], Jy t)
theorem zC0 (t : Tri) (v : List Int) (hv : v.length ≤ 4398046511104) : Ev (fun k => QD.f k t v) (zCt t v) := by
  refine Ev.bind (Jz t) ?_
  unfold zCt
  by_cases hc : Jy t = 0
  case neg => rw [if_neg hc]; exact ZS hc (Ev.now _)
  rw [if_pos hc]
  obtain ⟨ht, h6⟩ := JW hc
  refine qh hc (Ev.bind (zAz t v hv) ?_)
  rw [zER hc]
  by_cases hn : Qg t v = true
  · obtain ⟨hl, _, _⟩ := zAB hn
    refine qh hn (Ev.bind (zBz v (by omega) (by omega)) ?_)
    rw [if_pos hn]; exact Ev.now _
  · rw [if_neg hn]; exact ZS hn (Ev.now _)
theorem zC1 {t : Tri} (hs : Small t) (v : List Int) : Ev (fun k => Zh.f k t v) (zCt t v) := by
  refine Ev.bind (zBv hs) ?_
  unfold zCt
  by_cases hc : Jy t = 0
  case neg => exact ZS hc (JA (if_neg hc).symm)
  obtain ⟨ht, h6⟩ := JW hc
  refine qh hc (Ev.bind (Qi (zBy ht v)) ?_)
  rw [if_pos hc]
  by_cases hn : Qg t v = true
  · obtain ⟨hl, _, _⟩ := zAB hn
    exact qh hn (Ev.bind (Qi (zDe v (by omega) (by omega))) (JA (if_pos hn).symm))
  · exact ZS hn (JA (if_neg hn).symm)
theorem zCu (t : Tri) (v : List Int) : (zCt t v).1.length ≤ 42 := by
  unfold zCt
  by_cases hc : Jy t = 0
  case neg => rw [if_neg hc]; exact Nat.zero_le _
  rw [if_pos hc]
  obtain ⟨ht, h6⟩ := JW hc
  by_cases hn : Qg t v = true
  · obtain ⟨hl, _, _⟩ := zAB hn
    rw [if_pos hn]
    have := zBS v (v.length / 7) 0
    show (zCs v).length ≤ 42
    unfold zCs; omega
  · rw [if_neg hn]; exact Nat.zero_le _
def mkR (a : Int) : Nat → List zq
  | 0 => []
  | n + 1 => ⟨a, a + 1⟩ :: mkR (a + 2) n
theorem zAC (a : Int) (n : Nat) : (mkR a n).length = n := by
  induction n generalizing a with
  | zero => rfl
  | succ n ih => simp [mkR, ih]
theorem zEw (a : Int) (n : Nat) : mkR a (n + 1) = mkR a n ++ [⟨a + 2 * n, a + 2 * n + 1⟩] := by
  induction n generalizing a with
  | zero => simp [mkR]
  | succ n ih =>
    rw [mkR, ih (a + 2)]
    have e : a + 2 + 2 * (n : Int) = a + 2 * ((n + 1 : Nat) : Int) := by omega
    rw [e]; rfl
theorem mk_set (l : List zq) (a : Int) (n : Nat) (h : n < l.length) : (mkR a n ++ l.drop n).set n ⟨a + 2 * n, a + 2 * n + 1⟩ = mkR a (n + 1) ++ l.drop (n + 1) := by
  rw [List.set_append_right _ _ (by rw [zAC]; exact yqy _), zAC, Nat.sub_self, yoy h, yby, zEw, List.append_assoc]
  rfl
theorem zCv (l : List zq) (n : Nat) (v : zq) (h : n < l.length) : zG (l.set n v) (n : Int) = v := by
  rw [zA9 _ n (by rw [List.length_set]; exact h), List.getElem_set_self]
theorem zCU (l : List zq) (a : Int) (h : l.length ≤ 1099511627776) (h0 : 0 ≤ a) (h1 : a ≤ 4398046511104) : Ev (fun k => qV.f k l a) (a + 2 * l.length, mkR a l.length) := by
  have hl : Ev (fun k => qV.l0 k l a 0) (a + 2 * l.length, mkR a l.length) := by
    refine Qz (fun k (s : List zq × Int × Int) => qV.l0 k s.1 s.2.1 s.2.2) (fun s => ∃ n : Nat, n ≤ l.length ∧ s.2.2 = n ∧ s.2.1 = a + 2 * n ∧ s.1 = mkR a n ++ l.drop n) (fun s => l.length - s.2.2.toNat) (fun _ => (a + 2 * l.length, mkR a l.length)) ?_ (l, a, 0) ⟨0, by omega, rfl, by simp, by simp [mkR]⟩
    rintro ⟨x, b, i⟩ ⟨n, hn, rfl, rfl, rfl⟩
    dsimp only
    have hlen : (mkR a n ++ l.drop n).length = l.length := by simp [zAC]; omega
    by_cases hlt : n < l.length
    · refine .inr ⟨(mkR a (n + 1) ++ l.drop (n + 1), a + 2 * ((n + 1 : Nat) : Int), ((n + 1 : Nat) : Int)), ⟨n + 1, by omega, rfl, rfl, rfl⟩, by simp; omega, rfl, fun k => ?_⟩
      simp only [qV.l0]
      rw [if_pos (by rw [hlen]; omega), if_pos (by omega), yfy, yny, zCv _ n _ (by rw [hlen]; exact hlt), List.set_set, qo (x := a + 2 * (n : Int) + 1) (by omega) (by omega), mk_set l a n hlt, ZY (by omega), qo (by omega) (by omega)]
      congr 1; omega
    · obtain rfl : n = l.length := by omega
      refine .inl fun k => ?_
      simp only [qV.l0]
      rw [if_neg (by rw [hlen]; omega)]
      simp
  exact hl
def zDh : Tri → Nat
  | [] => 0
  | r :: rs => 2 * r.length + zDh rs
def mkT (a : Int) : Tri → Tri
  | [] => []
  | r :: rs => mkR a r.length :: mkT (a + 2 * r.length) rs
theorem zES (t : Tri) (h : ∀ r ∈ t, r.length ≤ 1048576) : zDh t ≤ 2097152 * t.length := by
  induction t with
  | nil => simp [zDh]
  | cons r rs ih =>
    have h1 := h r (List.mem_cons_self ..)
    have h2 := ih (fun x hx => h x (List.mem_cons_of_mem _ hx))
    simp only [zDh, List.length_cons]; omega
theorem zCV : ∀ (suf : Tri) (pre : Tri) (a : Int), (∀ r ∈ suf, r.length ≤ 1048576) → 0 ≤ a → a + zDh suf ≤ 4398046511104 → Ev (fun k => qk.go k suf.length (pre ++ suf) a pre.length) (a + zDh suf, pre ++ mkT a suf)
  | [], pre, a, _, h0, h1 => zCM fun k => by simp [qk.go, zDh, mkT]
  | r :: rs, pre, a, hr, h0, h1 => by
    simp only [zDh] at h1
    have hm := zCU r a (by have := hr r (List.mem_cons_self ..); omega) h0 (by omega)
    have ih := zCV rs (pre ++ [mkR a r.length]) (a + 2 * r.length) (fun x hx => hr x (List.mem_cons_of_mem _ hx)) (by omega) (by omega)
    simp only [List.length_cons, qk.go]
    have e0 : List.getD (pre ++ r :: rs) pre.length [] = r := by simp
    rw [e0]
    refine Ev.bind hm ?_
    dsimp only
    have e1 : (pre ++ r :: rs).set pre.length (mkR a r.length) = pre ++ [mkR a r.length] ++ rs := by
      rw [List.set_append_right _ _ (yqy _), Nat.sub_self, yby]; simp
    rw [e1]
    have e2 : pre.length + 1 = (pre ++ [mkR a r.length]).length := by simp
    rw [e2]
    have e3 : (a + ((zDh (r :: rs) : Nat) : Int), pre ++ mkT a (r :: rs)) = (a + 2 * r.length + (zDh rs : Int), pre ++ [mkR a r.length] ++ mkT (a + 2 * r.length) rs) := by
      simp only [zDh, mkT, List.append_assoc, List.singleton_append]; congr 1; omega
    rw [e3]
    exact ih
theorem JY (t : Tri) (a : Int) (hs : Small t) (h0 : 0 ≤ a) (h1 : a ≤ 1048576) : Ev (fun k => ZJ.f k t a) (a + zDh t, mkT a t) := by
  have := zCV t [] a hs.2 h0 (by have := zES t hs.2; have := hs.1; omega)
  rw [List.nil_append, List.nil_append] at this
  exact this
end Go.Proofs.Ythjpdljdodalaaa.P
namespace Go.Proofs.Ythjpdljdodalaaa.Pure
open Go.RowKit Go.Proofs.Ythjpdljdodalaaa.P Go.Proofs.Ythjpdljdodalaaa.Lib Go.Proofs.YthjpdljdodalaaaW.PrintWords
theorem zAr (l : List (List qP)) (x : List Int) (h : Fits l) (hx : x.length ≤ 9223372036854775807) : ∃ k, ZR.f k l x = some true := by
  refine Ev.rounds ?_
  by_cases hx1 : (x.length : Int) > 1048576
  · exact qh hx1 (Ev.now true)
  refine ZS hx1 ?_
  obtain ⟨r, hr, hs⟩ := Jt l h
  refine Ev.bind hr ?_
  by_cases hn : r < 0
  · exact qh hn (Ev.now true)
  have hsm := hs hn
  have hto := Ju l hsm
  have htx := zCp x (by omega)
  have hS := zEJ hsm
  have hcnt := zES (cvT l) hS.2
  have hc1 := hS.1
  have ho := zCu (cvT l) x
  have hsp := zC0 (cvT l) x (by omega)
  have him := zC1 hS x
  generalize zCt (cvT l) x = o at *
  have heq := zAo o.1 (by omega)
  have hh := zBx 1 o.1.length (by omega) (by omega) (by omega)
  have hex := zAo x (by omega)
  refine ZS hn ?_
  refine Ev.bind hto ?_
  refine Ev.bind htx ?_
  refine Ev.bind hsp ?_
  refine Ev.bind hto ?_
  refine Ev.bind htx ?_
  refine Ev.bind him ?_
  refine Ev.bind heq (qh rfl (qh rfl ?_))
  refine Ev.bind hto ?_
  refine Ev.bind (Jv _ hS) (qh rfl ?_)
  refine Ev.bind htx ?_
  refine Ev.bind hex (qh rfl ?_)
  refine Ev.bind (JY _ 1 hS (by omega) (by omega)) ?_
  refine Ev.bind (zA0 x _ (by omega) (by dsimp only; omega) (by dsimp only; omega)) ?_
  refine ZS (by dsimp only; omega) ?_
  refine Ev.bind heq (qh rfl (qh rfl ?_))
  refine Ev.bind (zA0 _ 1 (by omega) (by omega) (by omega)) ?_
  refine Ev.bind hh ?_
  refine ZS (by omega) (qh rfl ?_)
  refine Ev.bind hto ?_
  refine Ev.bind htx ?_
  refine Ev.bind him ?_
  refine Ev.bind heq (qh rfl (qh rfl ?_))
  refine Ev.bind hh ?_
  exact ZS (by omega) (qh rfl (Ev.now true))
end Go.Proofs.Ythjpdljdodalaaa.Pure
namespace Go.Proofs.Ythjpdljdodalaaa.Lib
open Go.RowKit Go.Proofs.YthjpdljdodalaaaW.PrintWords Go.Joins Go.Deep Go.WideShapes Go.ChangeShapes
set_option linter.unusedVariables false
def zDf (P : Program) (t : TypeId) {α : Type} (d : Kd α) : Prop := ∀ (H : Type) (enc : TypeId × Value → H) (w : World) (base : Nat) (spare : Nat → Bool) (held : Bool) (fuel : Nat) (cs : List Value) (x : DataW H × List MemPlace),
  DataW.trod enc P w base spare held fuel t cs = some x → ∃ y, d.K w y cs
theorem zET {P : Program} {t : TypeId} {k : IntKind} (ht : P.underlying t = some (.int k)) : zDf P t (Kd.int k) := by
  intro H enc w base spare held fuel cs x h
  obtain ⟨n, rfl, _, _⟩ := DataW.trod_int ht h
  exact ⟨n, rfl⟩
theorem zCW {α : Type} {R : Nat → α → Prop} : ∀ n, (∀ i, i < n → ∃ y, R i y) → ∃ ys : List α, ys.length = n ∧ ∀ j p, ys[j]? = some p → R j p
  | 0, _ => ⟨[], rfl, fun j p h => by simp at h⟩
  | n + 1, h => by
    obtain ⟨ys, hl, hr⟩ := zCW n (fun i hi => h i (by omega))
    obtain ⟨y, hy⟩ := h n (by omega)
    refine ⟨ys ++ [y], by simp [hl], fun j p hj => ?_⟩
    by_cases hlt : j < n
    · rw [List.getElem?_append_left (by omega)] at hj
      exact hr j p hj
    · have hjn : j < (ys ++ [y]).length := (List.getElem?_eq_some_iff.1 hj).1
      have : j = n := by simp [hl] at hjn; omega
      subst this
      rw [List.getElem?_append_right (by omega), hl, Nat.sub_self] at hj
      injection hj with hj
      rw [← hj]
      exact hy
theorem Jf {P : Program} {t e : TypeId} {α : Type} {d : Kd α} (ht : P.underlying t = some (.slice e)) (hc : P.cellsOf e = d.sz) (h : zDf P e d) : zDf P t (Kd.slice e d) := by
  intro H enc w base spare held fuel cs x hx
  rcases open_slice ht hx with ⟨rfl, _⟩ | ⟨a, len, cap, m, n, D, Pl, rfl, hb, hl, hm, hmm, _, hi⟩
  · exact ⟨[], none, 0, rfl, yqy _, Kd.C_nil d w⟩
  · have each : ∀ i, i < len → ∃ y, ∃ cs', w.cells? base (a.add (i * d.sz)) d.sz = some cs' ∧ d.K w y cs' := by
      intro i hil
      have him : i < m := by rw [hmm]; split <;> omega
      obtain ⟨cs', h1, h2⟩ := hi i him
      obtain ⟨y, hy⟩ := h H enc w base spare held n cs' _ h2
      rw [hc] at h1
      exact ⟨y, cs', h1, hy⟩
    obtain ⟨ys, hlen, hys⟩ := zCW len each
    refine ⟨ys, some a, cap, by rw [hlen], by omega, rfl, ?_, fun _ => ⟨a, rfl, fun j p hj => ?_⟩⟩
    · unfold maxLen at hm; omega
    · obtain ⟨cs', h1, h2⟩ := hys j p hj
      obtain ⟨_, h3, h4⟩ := World.cells?_some h1
      refine ⟨cs', h3, h2, fun i u hu => ?_⟩
      have hil : i < d.sz := by rw [← h3]; exact (List.getElem?_eq_some_iff.1 hu).1
      rw [← hu, ← h4 i hil, Go.Deep.add_add]
theorem zC2 {P : Program} {t : TypeId} {f0 f1 : Field} {α : Type} (hs : P.underlying t = some (.struct #[f0, f1])) (hone : oneCellFields P #[f0, f1] = true) (hC : P.cellsOf t = 2)
    (h0 : P.underlying f0.type = some (.int .i64)) (h1 : P.underlying f1.type = some (.int .i64)) (d : Kd α) (mk : Int → Int → α) (hK : ∀ w a b, d.K w (mk a b) [.int .i64 a, .int .i64 b]) : zDf P t d := by
  intro H enc w base spare held fuel cs x h
  obtain ⟨y0, y1, n, hx, hl, g0, g1⟩ := trod_struct2 hs h
  obtain ⟨o0, k0⟩ := hone_of hone 0 f0 rfl
  obtain ⟨o1, k1⟩ := hone_of hone 1 f1 rfl
  rw [hC] at hl
  match cs, hl with
  | [c0, c1], _ =>
    rw [o0, k0] at g0
    rw [o1, k1] at g1
    obtain ⟨a, e0, _, _⟩ := DataW.trod_int h0 g0
    obtain ⟨b, e1, _, _⟩ := DataW.trod_int h1 g1
    simp at e0 e1
    subst e0 e1
    exact ⟨mk a b, hK w a b⟩
section
variable {H : Type} {enc : TypeId × Value → H} {P : Program} {w : World} {base : Nat} {spare : Nat → Bool} {held : Bool}
theorem array1 {α : Type} {cs : Array α} (h : cs.size = 1) : ∃ c0, cs = #[c0] := by
  obtain ⟨l⟩ := cs
  match l, h with
  | [c0], _ => exact ⟨c0, rfl⟩
theorem zEx {r : Reach} {b0 : Nat} {t e : TypeId} {α : Type} {d : Kd α} {v : Value} {D : DataW H} {p : List MemPlace} (hu : P.underlying t = some (.slice e)) (ho : zDf P t (Kd.slice e d)) (hv : Value.okWide P w r b0 t v) (h : DataW.Trod enc P w base spare held t v D p) :
    ∃ (A : Option Addr) (c : Nat) (l : List α), v = .slice A l.length c ∧ l.length ≤ c ∧ d.C w A l.length l := by
  obtain ⟨a0, len, cap, rfl⟩ := okWide_slice hu hv
  obtain ⟨fuel, hf⟩ := h
  obtain ⟨l, A, c, e1, hl, hC⟩ := ho H enc w base spare held fuel _ _ hf
  simp [Value.cells] at e1
  obtain ⟨rfl, rfl, rfl⟩ := e1
  exact ⟨_, _, l, rfl, hl, hC⟩
theorem zEU {r : Reach} {b0 : Nat} {t e : TypeId} {f0 : Field} {α : Type} {d : Kd α} {v : Value} {D : DataW H} {p : List MemPlace} (hs : P.underlying t = some (.struct #[f0])) (hone : oneCellFields P #[f0] = true) (hC : P.cellsOf t = 1)
    (ho : zDf P f0.type (Kd.slice e d)) (hv : Value.okWide P w r b0 t v) (h : DataW.Trod enc P w base spare held t v D p) :
    ∃ (A : Option Addr) (c : Nat) (l : List α), v = .agg #[.slice A l.length c] ∧ l.length ≤ c ∧ d.C w A l.length l := by
  obtain ⟨cs, rfl, hsz⟩ := okWide_struct hs hv
  obtain ⟨c0, rfl⟩ := array1 (hsz.trans hC)
  obtain ⟨fuel, hf⟩ := h
  obtain ⟨y0, n, hx, _, h0⟩ := trod_struct1 hs hf
  obtain ⟨o0, k0⟩ := hone_of hone 0 f0 rfl
  have h0' : DataW.trod enc P w base spare held n f0.type [c0] = some y0 := by simpa [Value.cells, o0, k0] using h0
  obtain ⟨l, A, c, e1, hl, hCC⟩ := ho H enc w base spare held n _ _ h0'
  simp at e1
  subst e1
  exact ⟨A, c, l, rfl, hl, hCC⟩
end
theorem zEV {e : Nat} {α : Type} {d : Kd α} {w : World} {A : Option Addr} {l : List (List α)} (h : (Kd.slice e d).C w A l.length l) : l.length ≤ 9223372036854775807 ∧ ∀ r ∈ l, r.length ≤ 9223372036854775807 := by
  refine ⟨h.2.1, fun r hr => ?_⟩
  obtain ⟨j, hj, rfl⟩ := List.mem_iff_getElem.1 hr
  obtain ⟨ad, _, hc⟩ := h.2.2 (by omega)
  obtain ⟨c, _, hK, _⟩ := hc j _ (List.getElem?_eq_getElem hj)
  obtain ⟨A', c', _, _, hC⟩ := hK
  exact hC.2.1
end Go.Proofs.Ythjpdljdodalaaa.Lib
namespace Go.Proofs.Ythjpdljdodalaaa.fnExactQuadPart
open Go.ChangeShapes Go.WideShapes Go.ChangeAt Go.RowKit Go.Proofs.Ythjpdljdodalaaa.Lib Go.Proofs.YthjpdljdodalaaaW.PrintWords Go.Proofs.Ythjpdljdodalaaa.P
open Go.ChangeMaps (open_string shut_string)
set_option linter.unusedVariables false
theorem own : ownKnob Try.prog.godebug = none := by kernel_rfl
theorem laidOut : laidOutB Try.prog = true := by kernel_rfl
set_option maxRecDepth 100000 in
theorem lifted (os : Os) (started : os.Started) (H : Type) (enc : TypeId × Value → H) :
    ReturnsInHanded {} Try.checked os 7 .any (Rows.fnExactQuadPartSpec.pre6 enc Try.prog Try.f7 Rows.fnExactQuadPartRow.domain false) (Rows.fnExactQuadPartSpec.post enc Try.prog Try.f7 false true false false) := by
  refine returnsInHanded_of_change_sized (C := Try.checked) own started (by kernel_rfl) Try.func7
    (ChangeSpec.witness6 (enc := enc) (C := Try.checked) false ⟨#[], #[.agg #[.slice none 0 0], .slice none 0 0], []⟩ 8 (by kernel_rfl) (by kernel_rfl) (by kernel_rfl) (by kernel_rfl)) ?_
  intro W base args ds gs before hval0 hW hcnd hsz0 _
  have hval : ∀ (j : Nat) t v, Try.f7.params[j]? = some t → args[j]? = some v → Value.okWide Try.prog W .any base t v := hval0
  have hW' := hW
  obtain ⟨p, q, hA0, hV, rfl, hfz, hnd⟩ := hW
  have hA : DataW.TrodAll enc Try.prog W 0 (fun _ => true) true Try.f7.params.toList args.toList ds p := hA0
  rw [Try.params7] at hA hval
  obtain ⟨v0, vs0, d0, ds0, p0, q0, hargs, rfl, rfl, h0, r0⟩ := trodAll_cons hA
  obtain ⟨v1, vs1, d1, ds1, p1, q1, rfl, rfl, rfl, h1, r1⟩ := trodAll_cons r0
  obtain ⟨rfl, rfl, rfl⟩ := trodAll_nil r1
  obtain rfl : args = #[v0, v1] := by cases args; simp_all
  obtain ⟨rfl, rfl⟩ := trodVars_none hV
  have k0 := h0
  have lt0 : ∀ x ∈ p0, x.block < W.heap.size := by obtain ⟨m, hm⟩ := k0; exact DataW.trod_lt m _ _ _ hm
  obtain ⟨A0, c0, l0, rfl, hl0, hC0⟩ := zEU Try.underlying24 (by kernel_rfl) (by kernel_rfl) (Jf Try.underlying22 (by kernel_rfl) (Jf Try.underlying103 (by kernel_rfl) (zC2 Try.underlying136 (by kernel_rfl) (by kernel_rfl) Try.underlying2 Try.underlying2 Zr (fun a b => (⟨a, b⟩ : qP)) (fun w a b => zCe w ⟨a, b⟩)))) (hval 0 24 v0 rfl rfl) h0
  have k1 := h1
  have lt1 : ∀ x ∈ p1, x.block < W.heap.size := by obtain ⟨m, hm⟩ := k1; exact DataW.trod_lt m _ _ _ hm
  obtain ⟨A1, c1, l1, rfl, hl1, hC1⟩ := zEx Try.underlying25 (Jf Try.underlying25 (by kernel_rfl) (zET Try.underlying2)) (hval 1 25 v1 rfl rfl) h1
  obtain ⟨k, hk⟩ := Pure.zAr l0 l1 (zEV hC0) hC1.2.1
  refine (ZR.calls k _ _ l0 _ _ l1 W hC0 hl0 hC1 hl1 hk).mono fun e W' ⟨he, bel⟩ => ?_
  subst he
  exact ⟨_, rfl, _, _, _, [], _, [], hW', trodAll_mk1 (shut_bool Try.underlying4 _), (trodAll_cons_mk (Below.trod laidOut (by kernel_rfl) (of_decide_eq_true (by kernel_rfl)) k0 bel lt0) (trodAll_cons_mk (Below.trod laidOut (by kernel_rfl) (of_decide_eq_true (by kernel_rfl)) k1 bel lt1) trodAll_mk0)), rfl, bel.frame _, fun h => by cases h⟩
theorem over : Rows.fnExactQuadPartRow.holds Try.pinned (OpenSpec.ofChange Rows.fnExactQuadPartSpec) :=
  OpenClaim.holds_of_wide 7 Try.f7 rfl rfl rfl rfl rfl rfl rfl ⟨rfl, rfl, rfl, rfl, rfl⟩ rfl rfl rfl rfl rfl (by kernel_rfl) Try.func7 (by kernel_rfl)
    (of_decide_eq_true (by kernel_rfl)) (by unfold Func.isWrapper; first | (rw [if_pos (by decide +kernel)]; kernel_rfl) | (rw [if_neg (by decide +kernel)]; exact ⟨rfl, rfl⟩))
    (fun os started H enc _ => lifted os started H enc)
theorem proved : Rows.FnExactQuadPartSaid := over
#print axioms proved
end Go.Proofs.Ythjpdljdodalaaa.fnExactQuadPart
namespace Go.Proofs.Ythjpdljdodalaaa
theorem fnExactQuadPart_holds : Rows.FnExactQuadPartSaid := fnExactQuadPart.proved
end Go.Proofs.Ythjpdljdodalaaa
